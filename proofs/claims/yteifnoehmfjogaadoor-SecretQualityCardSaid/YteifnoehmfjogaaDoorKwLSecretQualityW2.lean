/- Own work: a part of the proofs of this seat. -/
import Derived.Test.YteifnoehmfjogaaDoorProg
import Derived.Test.YteifnoehmfjogaaDoorShelf
import Derived.Test.YteifnoehmfjogaaDoorKwLS
import Derived.KernelRfl
import Derived.Test.YteifnoehmfjogaaDoorKwLSecretQualityW1
set_option linter.unusedVariables false
set_option linter.unusedSimpArgs false
set_option linter.unusedSectionVars false
set_option maxHeartbeats 8000000
set_option maxRecDepth 8000
namespace Go.Proofs
namespace YteifnoehmfjogaaDoor
open Go Go.KW Go.KW.S Go.RowKit
theorem law22_awake_ok (w0 : World) (hg : Gs w0) {ρA : Tags} (hbd : ∀ b, ρA b ≠ 0 → b < w0.heap.size) (hz : Gz ρA) {r : Bool} (hS : law22_awake = some r) :
  Calls Tryd.prog 9 #[] w0 (Ret (fun v w' => v = .bool r ∧ Below w0.heap.size w0 w')) := by
 unfold law22_awake at hS
 have hb := flat1_fr (ρ := ρA) (w := w0) hbd
 have hz := hz.flat1
 refine calls_of_ke Tryd.func9 rfl (n := 110) rfl rfl (l := []) rfl ?_
 refine ke_seq ?_
 refine ke_region ?_
 refine sr_ev (v := .bool false) (ev_assign rfl) (by decide) ?_
 refine sr_end (l' := []) (.nil _) ?_
 refine ke_seq ?_
 refine ke_region ?_
 obtain ⟨y1, hy2, hS⟩ := bind_some' hS
 refine sr_call (vs := [str ([65, 98, 99, 100, 101, 102, 103, 49]), str ([115, 97, 108, 116]), .int .i64 2]) rfl Tryd.call10 rfl (secret_Make_ok _ (hg.fr hz hb) hy2) (by decide) ?_
 rintro _ w3 ⟨rfl, hbw4⟩
 have htr5 := Tr.of_below hbw4 hb.bd
 replace hb := hb.trans htr5
 refine sr_ev (v := .tuple #[.agg #[str y1.1.Salt, .int .i64 y1.1.Rounds, str y1.1.Hash], .int .i64 y1.2]) (ev_move rfl) (by decide) ?_
 refine sr_ev (v := .agg #[str y1.1.Salt, .int .i64 y1.1.Rounds, str y1.1.Hash]) (ev_extract rfl rfl) (by decide) ?_
 refine sr_ev (v := .int .i64 y1.2) (ev_extract rfl rfl) (by decide) ?_
 refine sr_allocT 3 (by decide) hb.bd Tryd.zeroValue25 (by decide) ?_
 intro g6 ρ7 w8 hB10 htr9
 replace hb := hb.trans htr9
 replace hB10 : Blk ρ7 3 w8 g6 (.cells #[str ([]), .int .i64 0, str ([])] 25 (0, 0)) := hB10
 refine sr_storeT (v := .agg #[str y1.1.Salt, .int .i64 y1.1.Rounds, str y1.1.Hash]) (vs := [str y1.1.Salt, .int .i64 y1.1.Rounds, str y1.1.Hash]) (cs' := #[str y1.1.Salt, .int .i64 y1.1.Rounds, str y1.1.Hash]) hB10 (by decide) hb.bd rfl rfl rfl Tryd.sizeOf25 rfl rfl rfl ?_
 intro w11 hB101 htr12
 replace hb := hb.trans htr12
 replace hB10 : Blk ρ7 3 w11 g6 (.cells #[str y1.1.Salt, .int .i64 y1.1.Rounds, str y1.1.Hash] 25 (0, 0)) := hB101
 clear hB101
 refine sr_ev (v := .int .i64 y1.2) (ev_assign rfl) (by decide) ?_
 refine sr_end (l' := [(1, .pointer (some ⟨g6, 0, none⟩)), (2, .int .i64 y1.2)]) (.cons rfl (.cons rfl (.nil _))) ?_
 refine ke_seq ?_
 refine ke_region ?_
 obtain ⟨y13, hy14, hS⟩ := bind_some' hS
 refine sr_call (vs := [str ([115, 101, 99, 114, 101, 116]), str ([115, 97, 108, 116]), .int .i64 2]) rfl Tryd.call10 rfl (secret_Make_ok _ (hg.fr hz hb) hy14) (by decide) ?_
 rintro _ w15 ⟨rfl, hbw16⟩
 have htr17 := Tr.of_below hbw16 hb.bd
 replace hB10 := hB10.mv (htr17.mv (i := 3) rfl)
 replace hb := hb.trans htr17
 refine sr_ev (v := .tuple #[.agg #[str y13.1.Salt, .int .i64 y13.1.Rounds, str y13.1.Hash], .int .i64 y13.2]) (ev_move rfl) (by decide) ?_
 refine sr_ev (v := .agg #[str y13.1.Salt, .int .i64 y13.1.Rounds, str y13.1.Hash]) (ev_extract rfl rfl) (by decide) ?_
 refine sr_ev (v := .int .i64 y13.2) (ev_extract rfl rfl) (by decide) ?_
 refine sr_allocT 5 (by decide) hb.bd Tryd.zeroValue25 (by decide) ?_
 intro g18 ρ19 w20 hB22 htr21
 replace hB10 := hB10.mv (htr21.mv (i := 3) rfl)
 replace hb := hb.trans htr21
 replace hB22 : Blk ρ19 5 w20 g18 (.cells #[str ([]), .int .i64 0, str ([])] 25 (0, 0)) := hB22
 refine sr_storeT (v := .agg #[str y13.1.Salt, .int .i64 y13.1.Rounds, str y13.1.Hash]) (vs := [str y13.1.Salt, .int .i64 y13.1.Rounds, str y13.1.Hash]) (cs' := #[str y13.1.Salt, .int .i64 y13.1.Rounds, str y13.1.Hash]) hB22 (by decide) hb.bd rfl rfl rfl Tryd.sizeOf25 rfl rfl rfl ?_
 intro w23 hB221 htr24
 replace hB10 := hB10.mv (htr24.mv (i := 3) rfl)
 replace hb := hb.trans htr24
 replace hB22 : Blk ρ19 5 w23 g18 (.cells #[str y13.1.Salt, .int .i64 y13.1.Rounds, str y13.1.Hash] 25 (0, 0)) := hB221
 clear hB221
 refine sr_ev (v := .int .i64 y13.2) (ev_assign rfl) (by decide) ?_
 refine sr_end (l' := [(1, .pointer (some ⟨g6, 0, none⟩)), (2, .int .i64 y1.2), (4, .int .i64 y13.2)]) (.cons rfl (.cons rfl (.cons rfl (.nil _)))) ?_
 refine ke_seq ?_
 refine ke_region ?_
 obtain ⟨y25, hy26, hS⟩ := bind_some' hS
 refine sr_call (vs := [.int .i64 0, .int .i64 10, .int .i64 10]) rfl Tryd.call22 rfl (secret_NewLocks_ok _ (hg.fr hz hb) (ρA := ρ19) hb.bd (hz.fr hg hb) (o := 100) (by decide) hy26) (by decide) ?_
 rintro _ w27 ⟨ρ32, v30, rfl, hP31, htr29⟩
 replace hB10 := hB10.mv (htr29.mv (i := 3) rfl)
 replace hb := hb.trans htr29
 rcases ho34 : y25.1 with _ | z33
 ·replace hS := optC_none hS ho34
  obtain rfl := hP31.none_ ho34
  refine sr_ev (v := .tuple #[.pointer none, .int .i64 y25.2]) (ev_move rfl) (by decide) ?_
  refine sr_ev (v := .pointer none) (ev_extract rfl rfl) (by decide) ?_
  refine sr_ev (v := .int .i64 y25.2) (ev_extract rfl rfl) (by decide) ?_
  refine sr_ev (v := .pointer none) (ev_assign rfl) (by decide) ?_
  refine sr_ev (v := .int .i64 y25.2) (ev_assign rfl) (by decide) ?_
  refine sr_end (l' := [(1, .pointer (some ⟨g6, 0, none⟩)), (2, .int .i64 y1.2), (4, .int .i64 y13.2), (6, .int .i64 y25.2)]) (.cons rfl (.cons rfl (.cons rfl (.cons rfl (.nil _))))) ?_
  refine ke_seq ?_
  refine ke_region ?_
  obtain ⟨y384, hy385, hS⟩ := bind_some' hS
  refine sr_call (vs := [.int .i64 2, .int .i64 10, .int .i64 100]) rfl Tryd.call22 rfl (secret_NewLocks_ok _ (hg.fr hz hb) (ρA := ρ32) hb.bd (hz.fr hg hb) (o := 100) (by decide) hy385) (by decide) ?_
  rintro _ w386 ⟨ρ391, v389, rfl, hP390, htr388⟩
  replace hB10 := hB10.mv (htr388.mv (i := 3) rfl)
  replace hb := hb.trans htr388
  rcases ho393 : y384.1 with _ | z392
  ·replace hS := optC_none hS ho393
   obtain rfl := hP390.none_ ho393
   refine sr_ev (v := .tuple #[.pointer none, .int .i64 y384.2]) (ev_move rfl) (by decide) ?_
   refine sr_ev (v := .pointer none) (ev_extract rfl rfl) (by decide) ?_
   refine sr_ev (v := .int .i64 y384.2) (ev_extract rfl rfl) (by decide) ?_
   refine sr_ev (v := .pointer none) (ev_assign rfl) (by decide) ?_
   refine sr_ev (v := .int .i64 y384.2) (ev_assign rfl) (by decide) ?_
   refine sr_end (l' := [(1, .pointer (some ⟨g6, 0, none⟩)), (2, .int .i64 y1.2), (4, .int .i64 y13.2), (6, .int .i64 y25.2), (7, .pointer none), (8, .int .i64 y384.2)]) (.cons rfl (.cons rfl (.cons rfl (.cons rfl (.cons rfl (.cons rfl (.nil _))))))) ?_
   refine ke_seq ?_
   refine ke_seq ?_
   refine ke_region_q Tryd.mixed (by kernel_rfl) ?_
   refine sq_ev (v := .int .i64 y1.2) (fun w1 hw1 => ev_move rfl) (by decide) ?_
   refine sq_ev (v := .bool (y1.2 != 0)) (fun w1 hw1 => ev_ne rfl rfl) (by decide) ?_
   refine sq_ev (v := .bool (y1.2 != 0)) (fun w1 hw1 => ev_move rfl) (by decide) ?_
   refine sq_join (m := 3) (C := fun (x : Bool) => x = ((y1.2 != 0) || (y13.2 != 4))) (l' := fun x => [(1, .pointer (some ⟨g6, 0, none⟩)), (6, .int .i64 y25.2), (7, .pointer none), (8, .int .i64 y384.2), (32, .bool x)]) ?_ ?_
   ·rintro _ rfl
    refine sq_ev (v := .bool ((y1.2 != 0) || (y13.2 != 4))) (fun w1 hw1 => ev_move rfl) (by decide) ?_
    refine sq_join (m := 3) (C := fun (x : Bool) => x = (((y1.2 != 0) || (y13.2 != 4)) || (y25.2 != 2))) (l' := fun x => [(1, .pointer (some ⟨g6, 0, none⟩)), (7, .pointer none), (8, .int .i64 y384.2), (36, .bool x)]) ?_ ?_
    ·rintro _ rfl
     refine sq_ev (v := .bool (((y1.2 != 0) || (y13.2 != 4)) || (y25.2 != 2))) (fun w1 hw1 => ev_move rfl) (by decide) ?_
     refine sq_join (m := 3) (C := fun (x : Bool) => x = ((((y1.2 != 0) || (y13.2 != 4)) || (y25.2 != 2)) || (y384.2 != 0))) (l' := fun x => [(1, .pointer (some ⟨g6, 0, none⟩)), (7, .pointer none), (40, .bool x)]) ?_ ?_
     ·rintro _ rfl
      refine sq_ev (v := .bool ((((y1.2 != 0) || (y13.2 != 4)) || (y25.2 != 2)) || (y384.2 != 0))) (fun w1 hw1 => ev_move rfl) (by decide) ?_
      refine sq_join (m := 3) (C := fun (x : Bool) => x = (((((y1.2 != 0) || (y13.2 != 4)) || (y25.2 != 2)) || (y384.2 != 0)) || true)) (l' := fun x => [(1, .pointer (some ⟨g6, 0, none⟩)), (7, .pointer none), (44, .bool x)]) ?_ ?_
      ·rintro _ rfl
       refine sq_ev (v := .bool (((((y1.2 != 0) || (y13.2 != 4)) || (y25.2 != 2)) || (y384.2 != 0)) || true)) (fun w1 hw1 => ev_move rfl) (by decide) ?_
       obtain ⟨z655, hz657, hS⟩ := bind_some' hS
       refine sq_join (m := 5) (C := fun (x : Bool) => z655 = x) (l' := fun x => [(1, .pointer (some ⟨g6, 0, none⟩)), (7, .pointer none), (50, .bool x)]) ?_ ?_
       ·rintro _ rfl
        refine sq_ev (v := .bool z655) (fun w1 hw1 => ev_move rfl) (by decide) ?_
        obtain ⟨z667, hz669, hS⟩ := bind_some' hS
        refine sq_join (m := 4) (C := fun (x : Bool) => z667 = x) (l' := fun x => [(1, .pointer (some ⟨g6, 0, none⟩)), (7, .pointer none), (55, .bool x)]) ?_ ?_
        ·rintro _ rfl
         refine sq_ev (v := .bool z667) (fun w1 hw1 => ev_move rfl) (by decide) ?_
         obtain ⟨z679, hz681, hS⟩ := bind_some' hS
         refine sq_join (m := 4) (C := fun (x : Bool) => z679 = x) (l' := fun x => [(1, .pointer (some ⟨g6, 0, none⟩)), (7, .pointer none), (60, .bool x)]) ?_ ?_
         ·rintro _ rfl
          refine sq_ev (v := .bool z679) (fun w1 hw1 => ev_move rfl) (by decide) ?_
          obtain ⟨z691, hz693, hS⟩ := bind_some' hS
          refine sq_join (m := 3) (C := fun (x : Bool) => z691 = x) (l' := fun x => [(1, .pointer (some ⟨g6, 0, none⟩)), (7, .pointer none), (64, .bool x)]) ?_ ?_
          ·rintro _ rfl
           refine sq_ev (v := .bool z691) (fun w1 hw1 => ev_move rfl) (by decide) ?_
           obtain ⟨z703, hz705, hS⟩ := bind_some' hS
           refine sq_join (m := 3) (C := fun (x : Bool) => z703 = x) (l' := fun x => [(1, .pointer (some ⟨g6, 0, none⟩)), (7, .pointer none), (68, .bool x)]) ?_ ?_
           ·rintro _ rfl
            refine sq_ev (v := .bool z703) (fun w1 hw1 => ev_move rfl) (by decide) ?_
            obtain ⟨z715, hz717, hS⟩ := bind_some' hS
            refine sq_join (m := 3) (C := fun (x : Bool) => z715 = x) (l' := fun x => [(1, .pointer (some ⟨g6, 0, none⟩)), (7, .pointer none), (72, .bool x)]) ?_ ?_
            ·rintro _ rfl
             refine sq_end (l' := [(1, .pointer (some ⟨g6, 0, none⟩)), (7, .pointer none), (72, .bool z715)]) (.cons rfl (.cons rfl (.cons rfl (.nil _)))) (fun w624 hw623 => ?_)
             have htr725 := Tr.of_below hw623 hb.bd
             replace hB10 := hB10.mv (htr725.mv (i := 3) rfl)
             replace hb := hb.trans htr725
             refine ke_cond (t := z715) rfl (fun hc726 => ?_) (fun hc726 => ?_)
             ·replace hS := ite_true' hS hc726
              refine ke_seq ?_
              refine ke_region ?_
              refine sr_ev (v := .bool false) (ev_assign rfl) (by decide) ?_
              refine sr_end (l' := [(0, .bool false)]) (.cons rfl (.nil _)) ?_
              cases hS
              exact ke_ret1 Tryd.func9 rfl rfl ⟨_, rfl, rfl, (hb.below (flat1_le _))⟩
             ·replace hS := ite_false' hS hc726
              refine ke_skip ?_
              refine ke_seq ?_
              refine ke_region ?_
              refine sr_ev (v := .pointer none) (ev_move rfl) (by decide) ?_
              cases hS
            ·intro K714
             clear hS
             rcases Bool.eq_false_or_eq_true z703 with hg713 | hg713
             ·have hS := ite_true' hz717 hg713
              refine sq_pass (e := 69) rfl rfl (by rw [hg713]; rfl) (by decide) ?_
              refine sq_pass (e := 69) rfl rfl (by rw [hg713]; rfl) (by decide) ?_
              refine sq_ev (v := .bool true) (fun w1 hw1 => ev_pick_t rfl hg713 rfl) (by decide) ?_
              exact sq_weaken (l' := [(1, .pointer (some ⟨g6, 0, none⟩)), (7, .pointer none), (72, .bool true)]) (.cons rfl (.cons rfl (.cons rfl (.nil _)))) (K714 true (Option.some.inj hS).symm)
             ·have hS := ite_false' hz717 hg713
              obtain ⟨y720, hy721, hS⟩ := bind_some' hS
              refine sq_callg (b := false) (e := 69) rfl rfl hg713 (v := .int .i64 y720) (vs := [str ([97, 98, 99, 100, 101, 102, 103, 104]), str ([97, 110, 110])]) rfl Tryd.call18 rfl (fun w1 hw1 => (secret_Quality_ok _ ((hg.fr hz hb).below hw1) hy721)) (by decide) ?_
              refine sq_evg (b := false) (e := 69) rfl rfl hg713 (v := .bool (y720 != 11)) (fun w1 hw1 => ev_ne rfl rfl) (by decide) ?_
              refine sq_ev (v := .bool (y720 != 11)) (fun w1 hw1 => ev_pick_f rfl hg713 rfl) (by decide) ?_
              exact sq_weaken (l' := [(1, .pointer (some ⟨g6, 0, none⟩)), (7, .pointer none), (72, .bool (y720 != 11))]) (.cons rfl (.cons rfl (.cons rfl (.nil _)))) (K714 (y720 != 11) (Option.some.inj hS).symm)
           ·intro K702
            clear hS
            rcases Bool.eq_false_or_eq_true z691 with hg701 | hg701
            ·have hS := ite_true' hz705 hg701
             refine sq_pass (e := 65) rfl rfl (by rw [hg701]; rfl) (by decide) ?_
             refine sq_pass (e := 65) rfl rfl (by rw [hg701]; rfl) (by decide) ?_
             refine sq_ev (v := .bool true) (fun w1 hw1 => ev_pick_t rfl hg701 rfl) (by decide) ?_
             exact sq_weaken (l' := [(1, .pointer (some ⟨g6, 0, none⟩)), (7, .pointer none), (68, .bool true)]) (.cons rfl (.cons rfl (.cons rfl (.nil _)))) (K702 true (Option.some.inj hS).symm)
            ·have hS := ite_false' hz705 hg701
             obtain ⟨y708, hy709, hS⟩ := bind_some' hS
             refine sq_callg (b := false) (e := 65) rfl rfl hg701 (v := .int .i64 y708) (vs := [str ([120, 65, 110, 110, 45, 49, 50, 51, 52]), str ([97, 110, 110])]) rfl Tryd.call18 rfl (fun w1 hw1 => (secret_Quality_ok _ ((hg.fr hz hb).below hw1) hy709)) (by decide) ?_
             refine sq_evg (b := false) (e := 65) rfl rfl hg701 (v := .bool (y708 != 11)) (fun w1 hw1 => ev_ne rfl rfl) (by decide) ?_
             refine sq_ev (v := .bool (y708 != 11)) (fun w1 hw1 => ev_pick_f rfl hg701 rfl) (by decide) ?_
             exact sq_weaken (l' := [(1, .pointer (some ⟨g6, 0, none⟩)), (7, .pointer none), (68, .bool (y708 != 11))]) (.cons rfl (.cons rfl (.cons rfl (.nil _)))) (K702 (y708 != 11) (Option.some.inj hS).symm)
          ·intro K690
           clear hS
           rcases Bool.eq_false_or_eq_true z679 with hg689 | hg689
           ·have hS := ite_true' hz693 hg689
            refine sq_pass (e := 61) rfl rfl (by rw [hg689]; rfl) (by decide) ?_
            refine sq_pass (e := 61) rfl rfl (by rw [hg689]; rfl) (by decide) ?_
            refine sq_ev (v := .bool true) (fun w1 hw1 => ev_pick_t rfl hg689 rfl) (by decide) ?_
            exact sq_weaken (l' := [(1, .pointer (some ⟨g6, 0, none⟩)), (7, .pointer none), (64, .bool true)]) (.cons rfl (.cons rfl (.cons rfl (.nil _)))) (K690 true (Option.some.inj hS).symm)
           ·have hS := ite_false' hz693 hg689
            obtain ⟨y696, hy697, hS⟩ := bind_some' hS
            refine sq_callg (b := false) (e := 61) rfl rfl hg689 (v := .int .i64 y696) (vs := [str ([65, 98, 99, 100, 101, 102, 103, 49]), str ([97, 110, 110])]) rfl Tryd.call18 rfl (fun w1 hw1 => (secret_Quality_ok _ ((hg.fr hz hb).below hw1) hy697)) (by decide) ?_
            refine sq_evg (b := false) (e := 61) rfl rfl hg689 (v := .bool (y696 != 0)) (fun w1 hw1 => ev_ne rfl rfl) (by decide) ?_
            refine sq_ev (v := .bool (y696 != 0)) (fun w1 hw1 => ev_pick_f rfl hg689 rfl) (by decide) ?_
            exact sq_weaken (l' := [(1, .pointer (some ⟨g6, 0, none⟩)), (7, .pointer none), (64, .bool (y696 != 0))]) (.cons rfl (.cons rfl (.cons rfl (.nil _)))) (K690 (y696 != 0) (Option.some.inj hS).symm)
         ·intro K678
          clear hS
          rcases Bool.eq_false_or_eq_true z667 with hg677 | hg677
          ·have hS := ite_true' hz681 hg677
           refine sq_pass (e := 56) rfl rfl (by rw [hg677]; rfl) (by decide) ?_
           refine sq_pass (e := 56) rfl rfl (by rw [hg677]; rfl) (by decide) ?_
           refine sq_pass (e := 56) rfl rfl (by rw [hg677]; rfl) (by decide) ?_
           refine sq_ev (v := .bool true) (fun w1 hw1 => ev_pick_t rfl hg677 rfl) (by decide) ?_
           exact sq_weaken (l' := [(1, .pointer (some ⟨g6, 0, none⟩)), (7, .pointer none), (60, .bool true)]) (.cons rfl (.cons rfl (.cons rfl (.nil _)))) (K678 true (Option.some.inj hS).symm)
          ·have hS := ite_false' hz681 hg677
           refine sq_evg (b := false) (e := 56) rfl rfl hg677 (v := .agg #[str y1.1.Salt, .int .i64 y1.1.Rounds, str y1.1.Hash]) (fun w1 hw1 => ev_loads (cs := [str y1.1.Salt, .int .i64 y1.1.Rounds, str y1.1.Hash]) Tryd.isAgg25 Tryd.sizeOf25 rfl ((hB10.mv (Mv.of_below (i := 3) (ρ := ρ391) hw1)).cells (vs := [str y1.1.Salt, .int .i64 y1.1.Rounds, str y1.1.Hash]) rfl)) (by decide) ?_
           obtain ⟨y684, hy685, hS⟩ := bind_some' hS
           refine sq_callg (b := false) (e := 56) rfl rfl hg677 (v := .bool y684) (vs := [.agg #[str y1.1.Salt, .int .i64 y1.1.Rounds, str y1.1.Hash]]) rfl Tryd.call12 rfl (fun w1 hw1 => (secret_Valid_ok _ ((hg.fr hz hb).below hw1) hy685)) (by decide) ?_
           refine sq_evg (b := false) (e := 56) rfl rfl hg677 (v := .bool (!y684)) (fun w1 hw1 => ev_not rfl) (by decide) ?_
           refine sq_ev (v := .bool (!y684)) (fun w1 hw1 => ev_pick_f rfl hg677 rfl) (by decide) ?_
           exact sq_weaken (l' := [(1, .pointer (some ⟨g6, 0, none⟩)), (7, .pointer none), (60, .bool (!y684))]) (.cons rfl (.cons rfl (.cons rfl (.nil _)))) (K678 (!y684) (Option.some.inj hS).symm)
        ·intro K666
         clear hS
         rcases Bool.eq_false_or_eq_true z655 with hg665 | hg665
         ·have hS := ite_true' hz669 hg665
          refine sq_pass (e := 51) rfl rfl (by rw [hg665]; rfl) (by decide) ?_
          refine sq_pass (e := 51) rfl rfl (by rw [hg665]; rfl) (by decide) ?_
          refine sq_pass (e := 51) rfl rfl (by rw [hg665]; rfl) (by decide) ?_
          refine sq_ev (v := .bool true) (fun w1 hw1 => ev_pick_t rfl hg665 rfl) (by decide) ?_
          exact sq_weaken (l' := [(1, .pointer (some ⟨g6, 0, none⟩)), (7, .pointer none), (55, .bool true)]) (.cons rfl (.cons rfl (.cons rfl (.nil _)))) (K666 true (Option.some.inj hS).symm)
         ·have hS := ite_false' hz669 hg665
          refine sq_evg (b := false) (e := 51) rfl rfl hg665 (v := .agg #[str y1.1.Salt, .int .i64 y1.1.Rounds, str y1.1.Hash]) (fun w1 hw1 => ev_loads (cs := [str y1.1.Salt, .int .i64 y1.1.Rounds, str y1.1.Hash]) Tryd.isAgg25 Tryd.sizeOf25 rfl ((hB10.mv (Mv.of_below (i := 3) (ρ := ρ391) hw1)).cells (vs := [str y1.1.Salt, .int .i64 y1.1.Rounds, str y1.1.Hash]) rfl)) (by decide) ?_
          obtain ⟨y672, hy673, hS⟩ := bind_some' hS
          refine sq_callg (b := false) (e := 51) rfl rfl hg665 (v := .bool y672) (vs := [.agg #[str y1.1.Salt, .int .i64 y1.1.Rounds, str y1.1.Hash], str ([65, 98, 99, 100, 101, 102, 103, 49])]) rfl Tryd.call14 rfl (fun w1 hw1 => (secret_Check_ok _ ((hg.fr hz hb).below hw1) hy673)) (by decide) ?_
          refine sq_evg (b := false) (e := 51) rfl rfl hg665 (v := .bool (!y672)) (fun w1 hw1 => ev_not rfl) (by decide) ?_
          refine sq_ev (v := .bool (!y672)) (fun w1 hw1 => ev_pick_f rfl hg665 rfl) (by decide) ?_
          exact sq_weaken (l' := [(1, .pointer (some ⟨g6, 0, none⟩)), (7, .pointer none), (55, .bool (!y672))]) (.cons rfl (.cons rfl (.cons rfl (.nil _)))) (K666 (!y672) (Option.some.inj hS).symm)
       ·intro K654
        clear hS
        rcases Bool.eq_false_or_eq_true (((((y1.2 != 0) || (y13.2 != 4)) || (y25.2 != 2)) || (y384.2 != 0)) || true) with hg653 | hg653
        ·have hS := ite_true' hz657 hg653
         refine sq_pass (e := 45) rfl rfl (by rw [hg653]; rfl) (by decide) ?_
         refine sq_pass (e := 45) rfl rfl (by rw [hg653]; rfl) (by decide) ?_
         refine sq_pass (e := 45) rfl rfl (by rw [hg653]; rfl) (by decide) ?_
         refine sq_pass (e := 45) rfl rfl (by rw [hg653]; rfl) (by decide) ?_
         refine sq_ev (v := .bool true) (fun w1 hw1 => ev_pick_t rfl hg653 rfl) (by decide) ?_
         exact sq_weaken (l' := [(1, .pointer (some ⟨g6, 0, none⟩)), (7, .pointer none), (50, .bool true)]) (.cons rfl (.cons rfl (.cons rfl (.nil _)))) (K654 true (Option.some.inj hS).symm)
        ·have hS := ite_false' hz657 hg653
         refine sq_evg (b := false) (e := 45) rfl rfl hg653 (v := .pointer (some ⟨g6, 2, none⟩)) (fun w1 hw1 => ev_fieldAddr (i := 2) Tryd.underlying25 rfl Tryd.info9 rfl rfl) (by decide) ?_
         refine sq_evg (b := false) (e := 45) rfl rfl hg653 (v := str y1.1.Hash) (fun w1 hw1 => ev_load Tryd.isAgg9 rfl ((hB10.mv (Mv.of_below (i := 3) (ρ := ρ391) hw1)).cell rfl)) (by decide) ?_
         obtain ⟨y660, hy661, hS⟩ := bind_some' hS
         refine sq_callg (b := false) (e := 45) rfl rfl hg653 (v := str y660) (vs := [str ([115, 97, 108, 116]), str ([65, 98, 99, 100, 101, 102, 103, 49]), .int .i64 2]) rfl Tryd.call33 rfl (fun w1 hw1 => (digest_Iterate_ok _ ((hg.fr hz hb).below hw1) hy661)) (by decide) ?_
         refine sq_evg (b := false) (e := 45) rfl rfl hg653 (v := .bool (!(y1.1.Hash == y660))) (fun w1 hw1 => ev_sne rfl rfl) (by decide) ?_
         refine sq_ev (v := .bool (!(y1.1.Hash == y660))) (fun w1 hw1 => ev_pick_f rfl hg653 rfl) (by decide) ?_
         exact sq_weaken (l' := [(1, .pointer (some ⟨g6, 0, none⟩)), (7, .pointer none), (50, .bool (!(y1.1.Hash == y660)))]) (.cons rfl (.cons rfl (.cons rfl (.nil _)))) (K654 (!(y1.1.Hash == y660)) (Option.some.inj hS).symm)
      ·intro K647
       rcases Bool.eq_false_or_eq_true ((((y1.2 != 0) || (y13.2 != 4)) || (y25.2 != 2)) || (y384.2 != 0)) with hg646 | hg646
       ·refine sq_pass (e := 41) rfl rfl (by rw [hg646]; rfl) (by decide) ?_
        refine sq_pass (e := 41) rfl rfl (by rw [hg646]; rfl) (by decide) ?_
        refine sq_ev (v := .bool true) (fun w1 hw1 => ev_pick_t rfl hg646 rfl) (by decide) ?_
        exact sq_weaken (l' := [(1, .pointer (some ⟨g6, 0, none⟩)), (7, .pointer none), (44, .bool true)]) (.cons rfl (.cons rfl (.cons rfl (.nil _)))) (K647 true (by rw [hg646]; rfl))
       ·refine sq_evg (b := false) (e := 41) rfl rfl hg646 (v := .pointer none) (fun w1 hw1 => ev_move rfl) (by decide) ?_
        refine sq_evg (b := false) (e := 41) rfl rfl hg646 (v := .bool true) (fun w1 hw1 => ev_peqT_nil Tryd.underlying39 rfl rfl) (by decide) ?_
        refine sq_ev (v := .bool true) (fun w1 hw1 => ev_pick_f rfl hg646 rfl) (by decide) ?_
        exact sq_weaken (l' := [(1, .pointer (some ⟨g6, 0, none⟩)), (7, .pointer none), (44, .bool true)]) (.cons rfl (.cons rfl (.cons rfl (.nil _)))) (K647 true (by rw [hg646]; rfl))
     ·intro K640
      rcases Bool.eq_false_or_eq_true (((y1.2 != 0) || (y13.2 != 4)) || (y25.2 != 2)) with hg639 | hg639
      ·refine sq_pass (e := 37) rfl rfl (by rw [hg639]; rfl) (by decide) ?_
       refine sq_pass (e := 37) rfl rfl (by rw [hg639]; rfl) (by decide) ?_
       refine sq_ev (v := .bool true) (fun w1 hw1 => ev_pick_t rfl hg639 rfl) (by decide) ?_
       exact sq_weaken (l' := [(1, .pointer (some ⟨g6, 0, none⟩)), (7, .pointer none), (40, .bool true)]) (.cons rfl (.cons rfl (.cons rfl (.nil _)))) (K640 true (by rw [hg639]; rfl))
      ·refine sq_evg (b := false) (e := 37) rfl rfl hg639 (v := .int .i64 y384.2) (fun w1 hw1 => ev_move rfl) (by decide) ?_
       refine sq_evg (b := false) (e := 37) rfl rfl hg639 (v := .bool (y384.2 != 0)) (fun w1 hw1 => ev_ne rfl rfl) (by decide) ?_
       refine sq_ev (v := .bool (y384.2 != 0)) (fun w1 hw1 => ev_pick_f rfl hg639 rfl) (by decide) ?_
       exact sq_weaken (l' := [(1, .pointer (some ⟨g6, 0, none⟩)), (7, .pointer none), (40, .bool (y384.2 != 0))]) (.cons rfl (.cons rfl (.cons rfl (.nil _)))) (K640 (y384.2 != 0) (by rw [hg639]; rfl))
    ·intro K633
     rcases Bool.eq_false_or_eq_true ((y1.2 != 0) || (y13.2 != 4)) with hg632 | hg632
     ·refine sq_pass (e := 33) rfl rfl (by rw [hg632]; rfl) (by decide) ?_
      refine sq_pass (e := 33) rfl rfl (by rw [hg632]; rfl) (by decide) ?_
      refine sq_ev (v := .bool true) (fun w1 hw1 => ev_pick_t rfl hg632 rfl) (by decide) ?_
      exact sq_weaken (l' := [(1, .pointer (some ⟨g6, 0, none⟩)), (7, .pointer none), (8, .int .i64 y384.2), (36, .bool true)]) (.cons rfl (.cons rfl (.cons rfl (.cons rfl (.nil _))))) (K633 true (by rw [hg632]; rfl))
     ·refine sq_evg (b := false) (e := 33) rfl rfl hg632 (v := .int .i64 y25.2) (fun w1 hw1 => ev_move rfl) (by decide) ?_
      refine sq_evg (b := false) (e := 33) rfl rfl hg632 (v := .bool (y25.2 != 2)) (fun w1 hw1 => ev_ne rfl rfl) (by decide) ?_
      refine sq_ev (v := .bool (y25.2 != 2)) (fun w1 hw1 => ev_pick_f rfl hg632 rfl) (by decide) ?_
      exact sq_weaken (l' := [(1, .pointer (some ⟨g6, 0, none⟩)), (7, .pointer none), (8, .int .i64 y384.2), (36, .bool (y25.2 != 2))]) (.cons rfl (.cons rfl (.cons rfl (.cons rfl (.nil _))))) (K633 (y25.2 != 2) (by rw [hg632]; rfl))
   ·intro K626
    rcases Bool.eq_false_or_eq_true (y1.2 != 0) with hg625 | hg625
    ·refine sq_pass (e := 29) rfl rfl (by rw [hg625]; rfl) (by decide) ?_
     refine sq_pass (e := 29) rfl rfl (by rw [hg625]; rfl) (by decide) ?_
     refine sq_ev (v := .bool true) (fun w1 hw1 => ev_pick_t rfl hg625 rfl) (by decide) ?_
     exact sq_weaken (l' := [(1, .pointer (some ⟨g6, 0, none⟩)), (6, .int .i64 y25.2), (7, .pointer none), (8, .int .i64 y384.2), (32, .bool true)]) (.cons rfl (.cons rfl (.cons rfl (.cons rfl (.cons rfl (.nil _)))))) (K626 true (by rw [hg625]; rfl))
    ·refine sq_evg (b := false) (e := 29) rfl rfl hg625 (v := .int .i64 y13.2) (fun w1 hw1 => ev_move rfl) (by decide) ?_
     refine sq_evg (b := false) (e := 29) rfl rfl hg625 (v := .bool (y13.2 != 4)) (fun w1 hw1 => ev_ne rfl rfl) (by decide) ?_
     refine sq_ev (v := .bool (y13.2 != 4)) (fun w1 hw1 => ev_pick_f rfl hg625 rfl) (by decide) ?_
     exact sq_weaken (l' := [(1, .pointer (some ⟨g6, 0, none⟩)), (6, .int .i64 y25.2), (7, .pointer none), (8, .int .i64 y384.2), (32, .bool (y13.2 != 4))]) (.cons rfl (.cons rfl (.cons rfl (.cons rfl (.cons rfl (.nil _)))))) (K626 (y13.2 != 4) (by rw [hg625]; rfl))
  ·replace hS := optC_some hS ho393
   obtain ⟨g394, rfl, ⟨v395, lp397, hB399, h396, hR398⟩⟩ := hP390.some_ ho393
   replace hB399 : Blk ρ391 100 w386 g394 (.cells #[.int .i64 z392.most, .int .i64 z392.window, .int .i64 z392.lock, v395] 67 (0, 0)) := hB399
   replace h396 : MapT str ptrC false ρ391 101 w386 v395 lp397 := h396
   replace hR398 : Recs secret_record.O 2 ρ391 102 w386 lp397 z392.users := hR398
   refine sr_ev (v := .tuple #[.pointer (some ⟨g394, 0, none⟩), .int .i64 y384.2]) (ev_move rfl) (by decide) ?_
   refine sr_ev (v := .pointer (some ⟨g394, 0, none⟩)) (ev_extract rfl rfl) (by decide) ?_
   refine sr_ev (v := .int .i64 y384.2) (ev_extract rfl rfl) (by decide) ?_
   refine sr_ev (v := .pointer (some ⟨g394, 0, none⟩)) (ev_assign rfl) (by decide) ?_
   refine sr_ev (v := .int .i64 y384.2) (ev_assign rfl) (by decide) ?_
   refine sr_end (l' := [(1, .pointer (some ⟨g6, 0, none⟩)), (2, .int .i64 y1.2), (4, .int .i64 y13.2), (6, .int .i64 y25.2), (7, .pointer (some ⟨g394, 0, none⟩)), (8, .int .i64 y384.2)]) (.cons rfl (.cons rfl (.cons rfl (.cons rfl (.cons rfl (.cons rfl (.nil _))))))) ?_
   refine ke_seq ?_
   refine ke_seq ?_
   refine ke_region_q Tryd.mixed (by kernel_rfl) ?_
   refine sq_ev (v := .int .i64 y1.2) (fun w1 hw1 => ev_move rfl) (by decide) ?_
   refine sq_ev (v := .bool (y1.2 != 0)) (fun w1 hw1 => ev_ne rfl rfl) (by decide) ?_
   refine sq_ev (v := .bool (y1.2 != 0)) (fun w1 hw1 => ev_move rfl) (by decide) ?_
   refine sq_join (m := 3) (C := fun (x : Bool) => x = ((y1.2 != 0) || (y13.2 != 4))) (l' := fun x => [(1, .pointer (some ⟨g6, 0, none⟩)), (6, .int .i64 y25.2), (7, .pointer (some ⟨g394, 0, none⟩)), (8, .int .i64 y384.2), (32, .bool x)]) ?_ ?_
   ·rintro _ rfl
    refine sq_ev (v := .bool ((y1.2 != 0) || (y13.2 != 4))) (fun w1 hw1 => ev_move rfl) (by decide) ?_
    refine sq_join (m := 3) (C := fun (x : Bool) => x = (((y1.2 != 0) || (y13.2 != 4)) || (y25.2 != 2))) (l' := fun x => [(1, .pointer (some ⟨g6, 0, none⟩)), (7, .pointer (some ⟨g394, 0, none⟩)), (8, .int .i64 y384.2), (36, .bool x)]) ?_ ?_
    ·rintro _ rfl
     refine sq_ev (v := .bool (((y1.2 != 0) || (y13.2 != 4)) || (y25.2 != 2))) (fun w1 hw1 => ev_move rfl) (by decide) ?_
     refine sq_join (m := 3) (C := fun (x : Bool) => x = ((((y1.2 != 0) || (y13.2 != 4)) || (y25.2 != 2)) || (y384.2 != 0))) (l' := fun x => [(1, .pointer (some ⟨g6, 0, none⟩)), (7, .pointer (some ⟨g394, 0, none⟩)), (40, .bool x)]) ?_ ?_
     ·rintro _ rfl
      refine sq_ev (v := .bool ((((y1.2 != 0) || (y13.2 != 4)) || (y25.2 != 2)) || (y384.2 != 0))) (fun w1 hw1 => ev_move rfl) (by decide) ?_
      refine sq_join (m := 3) (C := fun (x : Bool) => x = (((((y1.2 != 0) || (y13.2 != 4)) || (y25.2 != 2)) || (y384.2 != 0)) || false)) (l' := fun x => [(1, .pointer (some ⟨g6, 0, none⟩)), (7, .pointer (some ⟨g394, 0, none⟩)), (44, .bool x)]) ?_ ?_
      ·rintro _ rfl
       refine sq_ev (v := .bool (((((y1.2 != 0) || (y13.2 != 4)) || (y25.2 != 2)) || (y384.2 != 0)) || false)) (fun w1 hw1 => ev_move rfl) (by decide) ?_
       obtain ⟨z432, hz434, hS⟩ := bind_some' hS
       refine sq_join (m := 5) (C := fun (x : Bool) => z432 = x) (l' := fun x => [(1, .pointer (some ⟨g6, 0, none⟩)), (7, .pointer (some ⟨g394, 0, none⟩)), (50, .bool x)]) ?_ ?_
       ·rintro _ rfl
        refine sq_ev (v := .bool z432) (fun w1 hw1 => ev_move rfl) (by decide) ?_
        obtain ⟨z444, hz446, hS⟩ := bind_some' hS
        refine sq_join (m := 4) (C := fun (x : Bool) => z444 = x) (l' := fun x => [(1, .pointer (some ⟨g6, 0, none⟩)), (7, .pointer (some ⟨g394, 0, none⟩)), (55, .bool x)]) ?_ ?_
        ·rintro _ rfl
         refine sq_ev (v := .bool z444) (fun w1 hw1 => ev_move rfl) (by decide) ?_
         obtain ⟨z456, hz458, hS⟩ := bind_some' hS
         refine sq_join (m := 4) (C := fun (x : Bool) => z456 = x) (l' := fun x => [(1, .pointer (some ⟨g6, 0, none⟩)), (7, .pointer (some ⟨g394, 0, none⟩)), (60, .bool x)]) ?_ ?_
         ·rintro _ rfl
          refine sq_ev (v := .bool z456) (fun w1 hw1 => ev_move rfl) (by decide) ?_
          obtain ⟨z468, hz470, hS⟩ := bind_some' hS
          refine sq_join (m := 3) (C := fun (x : Bool) => z468 = x) (l' := fun x => [(1, .pointer (some ⟨g6, 0, none⟩)), (7, .pointer (some ⟨g394, 0, none⟩)), (64, .bool x)]) ?_ ?_
          ·rintro _ rfl
           refine sq_ev (v := .bool z468) (fun w1 hw1 => ev_move rfl) (by decide) ?_
           obtain ⟨z480, hz482, hS⟩ := bind_some' hS
           refine sq_join (m := 3) (C := fun (x : Bool) => z480 = x) (l' := fun x => [(1, .pointer (some ⟨g6, 0, none⟩)), (7, .pointer (some ⟨g394, 0, none⟩)), (68, .bool x)]) ?_ ?_
           ·rintro _ rfl
            refine sq_ev (v := .bool z480) (fun w1 hw1 => ev_move rfl) (by decide) ?_
            obtain ⟨z492, hz494, hS⟩ := bind_some' hS
            refine sq_join (m := 3) (C := fun (x : Bool) => z492 = x) (l' := fun x => [(1, .pointer (some ⟨g6, 0, none⟩)), (7, .pointer (some ⟨g394, 0, none⟩)), (72, .bool x)]) ?_ ?_
            ·rintro _ rfl
             refine sq_end (l' := [(1, .pointer (some ⟨g6, 0, none⟩)), (7, .pointer (some ⟨g394, 0, none⟩)), (72, .bool z492)]) (.cons rfl (.cons rfl (.cons rfl (.nil _)))) (fun w401 hw400 => ?_)
             have htr502 := Tr.of_below hw400 hb.bd
             replace hB399 := hB399.mv (htr502.mv (i := 100) rfl)
             replace h396 := h396.mv (htr502.mv (i := 101) rfl)
             replace hR398 := Recs.mv hR398 secret_record.objK (htr502.mv (i := 102) rfl) (by decide)
             replace hB10 := hB10.mv (htr502.mv (i := 3) rfl)
             replace hb := hb.trans htr502
             refine ke_cond (t := z492) rfl (fun hc503 => ?_) (fun hc503 => ?_)
             ·replace hS := ite_true' hS hc503
              refine ke_seq ?_
              refine ke_region ?_
              refine sr_ev (v := .bool false) (ev_assign rfl) (by decide) ?_
              refine sr_end (l' := [(0, .bool false)]) (.cons rfl (.nil _)) ?_
              cases hS
              exact ke_ret1 Tryd.func9 rfl rfl ⟨_, rfl, rfl, (hb.below (flat1_le _))⟩
             ·replace hS := ite_false' hS hc503
              refine ke_skip ?_
              refine ke_seq ?_
              refine ke_region ?_
              refine sr_ev (v := .pointer (some ⟨g394, 0, none⟩)) (ev_move rfl) (by decide) ?_
              obtain ⟨y504, hy505, hS⟩ := bind_some' hS
              refine sr_call (vs := [.pointer (some ⟨g394, 0, none⟩), str ([97, 110, 110]), .int .i64 5]) rfl Tryd.call24 rfl (secret_Locks_Fail_ok _ (hg.fr hz hb) (ρA := ρ391) hb.bd (hz.fr hg hb) (o := 100) (by decide) (⟨_, _, hB399, h396, hR398⟩ : secret_Locks.O (fun p => 100 + p) ρ391 w401 g394 z392) hy505) (by decide) ?_
              rintro _ w506 ⟨ρ514, rfl, ⟨v509, lp511, hB513, h510, hR512⟩, htr508⟩
              replace hB10 := hB10.mv (htr508.mv (i := 3) rfl)
              replace hb := hb.trans htr508
              replace hB513 : Blk ρ514 100 w506 g394 (.cells #[.int .i64 y504.most, .int .i64 y504.window, .int .i64 y504.lock, v509] 67 (0, 0)) := hB513
              replace h510 : MapT str ptrC false ρ514 101 w506 v509 lp511 := h510
              replace hR512 : Recs secret_record.O 2 ρ514 102 w506 lp511 y504.users := hR512
              refine sr_end (l' := [(1, .pointer (some ⟨g6, 0, none⟩)), (7, .pointer (some ⟨g394, 0, none⟩))]) (.cons rfl (.cons rfl (.nil _))) ?_
              refine ke_seq ?_
              refine ke_region ?_
              refine sr_ev (v := .pointer (some ⟨g394, 0, none⟩)) (ev_move rfl) (by decide) ?_
              obtain ⟨y515, hy516, hS⟩ := bind_some' hS
              refine sr_call (vs := [.pointer (some ⟨g394, 0, none⟩), str ([97, 110, 110]), .int .i64 5]) rfl Tryd.call28 rfl (secret_Locks_Locked_ok _ (hg.fr hz hb) (ρA := ρ514) hb.bd (hz.fr hg hb) (τ0 := (fun p => 100 + p)) (fun p => Nat.le_add_right_of_le (by decide)) (⟨_, _, hB513, h510, hR512⟩ : secret_Locks.O (fun p => 100 + p) ρ514 w506 g394 y504) hy516) (by decide) ?_
              rintro _ w517 ⟨rfl, hbw518⟩
              have htr519 := Tr.of_below hbw518 hb.bd
              replace hB513 := hB513.mv (htr519.mv (i := 100) rfl)
              replace h510 := h510.mv (htr519.mv (i := 101) rfl)
              replace hR512 := Recs.mv hR512 secret_record.objK (htr519.mv (i := 102) rfl) (by decide)
              replace hB10 := hB10.mv (htr519.mv (i := 3) rfl)
              replace hb := hb.trans htr519
              refine sr_ev (v := .bool y515) (ev_assign rfl) (by decide) ?_
              refine sr_end (l' := [(1, .pointer (some ⟨g6, 0, none⟩)), (7, .pointer (some ⟨g394, 0, none⟩)), (9, .bool y515)]) (.cons rfl (.cons rfl (.cons rfl (.nil _)))) ?_
              refine ke_seq ?_
              refine ke_region ?_
              refine sr_ev (v := .pointer (some ⟨g394, 0, none⟩)) (ev_move rfl) (by decide) ?_
              obtain ⟨y520, hy521, hS⟩ := bind_some' hS
              refine sr_call (vs := [.pointer (some ⟨g394, 0, none⟩), str ([97, 110, 110]), .int .i64 9]) rfl Tryd.call24 rfl (secret_Locks_Fail_ok _ (hg.fr hz hb) (ρA := ρ514) hb.bd (hz.fr hg hb) (o := 100) (by decide) (⟨_, _, hB513, h510, hR512⟩ : secret_Locks.O (fun p => 100 + p) ρ514 w517 g394 y504) hy521) (by decide) ?_
              rintro _ w522 ⟨ρ530, rfl, ⟨v525, lp527, hB529, h526, hR528⟩, htr524⟩
              replace hB10 := hB10.mv (htr524.mv (i := 3) rfl)
              replace hb := hb.trans htr524
              replace hB529 : Blk ρ530 100 w522 g394 (.cells #[.int .i64 y520.most, .int .i64 y520.window, .int .i64 y520.lock, v525] 67 (0, 0)) := hB529
              replace h526 : MapT str ptrC false ρ530 101 w522 v525 lp527 := h526
              replace hR528 : Recs secret_record.O 2 ρ530 102 w522 lp527 y520.users := hR528
              refine sr_end (l' := [(1, .pointer (some ⟨g6, 0, none⟩)), (7, .pointer (some ⟨g394, 0, none⟩)), (9, .bool y515)]) (.cons rfl (.cons rfl (.cons rfl (.nil _)))) ?_
              refine ke_seq ?_
              refine ke_region ?_
              refine sr_ev (v := .pointer (some ⟨g394, 0, none⟩)) (ev_move rfl) (by decide) ?_
              obtain ⟨y531, hy532, hS⟩ := bind_some' hS
              refine sr_call (vs := [.pointer (some ⟨g394, 0, none⟩), str ([98, 111, 98]), .int .i64 5]) rfl Tryd.call24 rfl (secret_Locks_Fail_ok _ (hg.fr hz hb) (ρA := ρ530) hb.bd (hz.fr hg hb) (o := 100) (by decide) (⟨_, _, hB529, h526, hR528⟩ : secret_Locks.O (fun p => 100 + p) ρ530 w522 g394 y520) hy532) (by decide) ?_
              rintro _ w533 ⟨ρ541, rfl, ⟨v536, lp538, hB540, h537, hR539⟩, htr535⟩
              replace hB10 := hB10.mv (htr535.mv (i := 3) rfl)
              replace hb := hb.trans htr535
              replace hB540 : Blk ρ541 100 w533 g394 (.cells #[.int .i64 y531.most, .int .i64 y531.window, .int .i64 y531.lock, v536] 67 (0, 0)) := hB540
              replace h537 : MapT str ptrC false ρ541 101 w533 v536 lp538 := h537
              replace hR539 : Recs secret_record.O 2 ρ541 102 w533 lp538 y531.users := hR539
              refine sr_end (l' := [(1, .pointer (some ⟨g6, 0, none⟩)), (7, .pointer (some ⟨g394, 0, none⟩)), (9, .bool y515)]) (.cons rfl (.cons rfl (.cons rfl (.nil _)))) ?_
              refine ke_seq ?_
              refine ke_region ?_
              refine sr_ev (v := .pointer (some ⟨g394, 0, none⟩)) (ev_move rfl) (by decide) ?_
              obtain ⟨y542, hy543, hS⟩ := bind_some' hS
              refine sr_call (vs := [.pointer (some ⟨g394, 0, none⟩), str ([98, 111, 98]), .int .i64 15]) rfl Tryd.call24 rfl (secret_Locks_Fail_ok _ (hg.fr hz hb) (ρA := ρ541) hb.bd (hz.fr hg hb) (o := 100) (by decide) (⟨_, _, hB540, h537, hR539⟩ : secret_Locks.O (fun p => 100 + p) ρ541 w533 g394 y531) hy543) (by decide) ?_
              rintro _ w544 ⟨ρ552, rfl, ⟨v547, lp549, hB551, h548, hR550⟩, htr546⟩
              replace hB10 := hB10.mv (htr546.mv (i := 3) rfl)
              replace hb := hb.trans htr546
              replace hB551 : Blk ρ552 100 w544 g394 (.cells #[.int .i64 y542.most, .int .i64 y542.window, .int .i64 y542.lock, v547] 67 (0, 0)) := hB551
              replace h548 : MapT str ptrC false ρ552 101 w544 v547 lp549 := h548
              replace hR550 : Recs secret_record.O 2 ρ552 102 w544 lp549 y542.users := hR550
              refine sr_end (l' := [(1, .pointer (some ⟨g6, 0, none⟩)), (7, .pointer (some ⟨g394, 0, none⟩)), (9, .bool y515)]) (.cons rfl (.cons rfl (.cons rfl (.nil _)))) ?_
              refine ke_seq ?_
              refine ke_region ?_
              refine sr_ev (v := .pointer (some ⟨g394, 0, none⟩)) (ev_move rfl) (by decide) ?_
              obtain ⟨y553, hy554, hS⟩ := bind_some' hS
              refine sr_call (vs := [.pointer (some ⟨g394, 0, none⟩), str ([97, 110, 110]), .int .i64 9]) rfl Tryd.call30 rfl (secret_Locks_Failures_ok _ (hg.fr hz hb) (ρA := ρ552) hb.bd (hz.fr hg hb) (τ0 := (fun p => 100 + p)) (fun p => Nat.le_add_right_of_le (by decide)) (⟨_, _, hB551, h548, hR550⟩ : secret_Locks.O (fun p => 100 + p) ρ552 w544 g394 y542) hy554) (by decide) ?_
              rintro _ w555 ⟨rfl, hbw556⟩
              have htr557 := Tr.of_below hbw556 hb.bd
              replace hB551 := hB551.mv (htr557.mv (i := 100) rfl)
              replace h548 := h548.mv (htr557.mv (i := 101) rfl)
              replace hR550 := Recs.mv hR550 secret_record.objK (htr557.mv (i := 102) rfl) (by decide)
              replace hB10 := hB10.mv (htr557.mv (i := 3) rfl)
              replace hb := hb.trans htr557
              refine sr_ev (v := .int .i64 y553) (ev_assign rfl) (by decide) ?_
              refine sr_end (l' := [(1, .pointer (some ⟨g6, 0, none⟩)), (7, .pointer (some ⟨g394, 0, none⟩)), (9, .bool y515), (10, .int .i64 y553)]) (.cons rfl (.cons rfl (.cons rfl (.cons rfl (.nil _))))) ?_
              refine ke_seq ?_
              refine ke_region ?_
              refine sr_ev (v := .bool y515) (ev_move rfl) (by decide) ?_
              refine sr_ev (v := .bool (!y515)) (ev_not rfl) (by decide) ?_
              refine sr_ev (v := .bool (!y515)) (ev_move rfl) (by decide) ?_
              obtain ⟨z560, hz562, hS⟩ := bind_some' hS
              refine sr_join (m := 3) (C := fun (z : Bool) w1 => z560 = z ∧ ∃ ρ1, Tr ρ552 w555 (fun _ => false) ρ1 w1) (l' := fun z => [(1, .pointer (some ⟨g6, 0, none⟩)), (7, .pointer (some ⟨g394, 0, none⟩)), (10, .int .i64 y553), (90, .bool z)]) ?_ ?_
              ·rintro _ w563 ⟨rfl, ρ564, hj561⟩
               replace hB551 := hB551.mv (hj561.mv (i := 100) rfl)
               replace h548 := h548.mv (hj561.mv (i := 101) rfl)
               replace hR550 := Recs.mv hR550 secret_record.objK (hj561.mv (i := 102) rfl) (by decide)
               replace hB10 := hB10.mv (hj561.mv (i := 3) rfl)
               replace hb := hb.trans hj561
               refine sr_ev (v := .bool z560) (ev_move rfl) (by decide) ?_
               obtain ⟨z573, hz575, hS⟩ := bind_some' hS
               refine sr_join (m := 4) (C := fun (z : Bool) w1 => z573 = z ∧ ∃ ρ1, Tr ρ564 w563 (fun _ => false) ρ1 w1) (l' := fun z => [(1, .pointer (some ⟨g6, 0, none⟩)), (7, .pointer (some ⟨g394, 0, none⟩)), (10, .int .i64 y553), (95, .bool z)]) ?_ ?_
               ·rintro _ w576 ⟨rfl, ρ577, hj574⟩
                replace hB551 := hB551.mv (hj574.mv (i := 100) rfl)
                replace h548 := h548.mv (hj574.mv (i := 101) rfl)
                replace hR550 := Recs.mv hR550 secret_record.objK (hj574.mv (i := 102) rfl) (by decide)
                replace hB10 := hB10.mv (hj574.mv (i := 3) rfl)
                replace hb := hb.trans hj574
                refine sr_ev (v := .bool z573) (ev_move rfl) (by decide) ?_
                obtain ⟨z586, hz588, hS⟩ := bind_some' hS
                refine sr_join (m := 4) (C := fun (z : Bool) w1 => z586 = z ∧ ∃ ρ1, Tr ρ577 w576 (fun _ => false) ρ1 w1) (l' := fun z => [(1, .pointer (some ⟨g6, 0, none⟩)), (10, .int .i64 y553), (100, .bool z)]) ?_ ?_
                ·rintro _ w589 ⟨rfl, ρ590, hj587⟩
                 replace hB10 := hB10.mv (hj587.mv (i := 3) rfl)
                 replace hb := hb.trans hj587
                 refine sr_ev (v := .bool z586) (ev_move rfl) (by decide) ?_
                 refine sr_join (m := 3) (C := fun (x : Bool) w1 => x = (z586 && (y553 == 2)) ∧ w589 = w1) (l' := fun x => [(1, .pointer (some ⟨g6, 0, none⟩)), (104, .bool x)]) ?_ ?_
                 ·rintro _ _ ⟨rfl, rfl⟩
                  refine sr_ev (v := .bool (z586 && (y553 == 2))) (ev_move rfl) (by decide) ?_
                  obtain ⟨z607, hz609, hS⟩ := bind_some' hS
                  refine sr_join (m := 4) (C := fun (z : Bool) w1 => z607 = z ∧ ∃ ρ1, Tr ρ590 w589 (fun _ => false) ρ1 w1) (l' := fun z => [(109, .bool z)]) ?_ ?_
                  ·rintro _ w610 ⟨rfl, ρ611, hj608⟩
                   replace hb := hb.trans hj608
                   refine sr_ev (v := .bool z607) (ev_assign rfl) (by decide) ?_
                   refine sr_end (l' := [(0, .bool z607)]) (.cons rfl (.nil _)) ?_
                   cases hS
                   exact ke_ret1 Tryd.func9 rfl rfl ⟨_, rfl, rfl, (hb.below (flat1_le _))⟩
                  ·intro K606
                   clear hS
                   have hj608 : Tr ρ590 w589 (fun _ => false) ρ590 w589 := (Tr.refl hb.bd).weak (fun _ _ => rfl) rfl rfl
                   rcases Bool.eq_false_or_eq_true (z586 && (y553 == 2)) with hg605 | hg605
                   ·have hS := ite_true' hz609 hg605
                    refine sr_evg (b := true) (e := 105) rfl rfl hg605 (v := .agg #[str y1.1.Salt, .int .i64 y1.1.Rounds, str y1.1.Hash]) (ev_loads (cs := [str y1.1.Salt, .int .i64 y1.1.Rounds, str y1.1.Hash]) Tryd.isAgg25 Tryd.sizeOf25 rfl (hB10.cells (vs := [str y1.1.Salt, .int .i64 y1.1.Rounds, str y1.1.Hash]) rfl)) (by decide) ?_
                    refine sr_unguard rfl rfl hg605 ?_
                    refine sr_litT (c := api_Verifier.c) (ρ := ρ590) (E := 25) (xs := [y1.1]) (vs := #[(0, .agg #[str y1.1.Salt, .int .i64 y1.1.Rounds, str y1.1.Hash])]) (cs := #[str y1.1.Salt, .int .i64 y1.1.Rounds, str y1.1.Hash]) (css := [[str y1.1.Salt, .int .i64 y1.1.Rounds, str y1.1.Hash]]) rfl (fun _ => by kernel_rfl) rfl ⟨rfl, trivial⟩ rfl (by decide) hb.bd (by decide) ?_
                    intro v613 w615 h614 hbw617
                    have htr616 := Tr.of_below hbw617 hb.bd
                    replace hb := hb.trans htr616
                    replace hj608 := (hj608.trans htr616).weak (J' := (fun _ => false)) (by intro t h; simp [rng] at h ⊢ <;> omega) rfl rfl
                    obtain ⟨y618, hy619, hS⟩ := bind_some' hS
                    refine sr_callg (b := true) (e := 105) rfl rfl hg605 (vs := [v613, str ([65, 98, 99, 100, 101, 102, 103, 49])]) rfl Tryd.call16 rfl (secret_Reused_ok _ (hg.fr hz hb) h614.asSl hy619) (by decide) ?_
                    rintro _ w620 ⟨rfl, hbw621⟩
                    have htr622 := Tr.of_below hbw621 hb.bd
                    replace hb := hb.trans htr622
                    replace hj608 := (hj608.trans htr622).weak (J' := (fun _ => false)) (by intro t h; simp [rng] at h ⊢ <;> omega) rfl rfl
                    refine sr_ev (v := .bool y618) (ev_pick_t rfl hg605 rfl) (by decide) ?_
                    exact sr_weaken (l' := [(109, .bool y618)]) (.cons rfl (.nil _)) (K606 y618 _ ⟨(Option.some.inj hS).symm, _, hj608⟩)
                   ·have hS := ite_false' hz609 hg605
                    refine sr_pass (e := 105) rfl rfl (by rw [hg605]; rfl) (by decide) ?_
                    refine sr_pass (e := 105) rfl rfl (by rw [hg605]; rfl) (by decide) ?_
                    refine sr_pass (e := 105) rfl rfl (by rw [hg605]; rfl) (by decide) ?_
                    refine sr_ev (v := .bool false) (ev_pick_f rfl hg605 rfl) (by decide) ?_
                    exact sr_weaken (l' := [(109, .bool false)]) (.cons rfl (.nil _)) (K606 false _ ⟨(Option.some.inj hS).symm, _, hj608⟩)
                 ·intro K598
                  rcases Bool.eq_false_or_eq_true z586 with hg597 | hg597
                  all_goals try have hj600 : Tr ρ590 w589 (fun _ => false) ρ590 w589 := Tr.refl hb.bd
                  ·refine sr_evg (b := true) (e := 101) rfl rfl hg597 (v := .int .i64 y553) (ev_move rfl) (by decide) ?_
                   refine sr_evg (b := true) (e := 101) rfl rfl hg597 (v := .bool (y553 == 2)) (ev_eq rfl rfl) (by decide) ?_
                   refine sr_ev (v := .bool (y553 == 2)) (ev_pick_t rfl hg597 rfl) (by decide) ?_
                   exact sr_weaken (l' := [(1, .pointer (some ⟨g6, 0, none⟩)), (104, .bool (y553 == 2))]) (.cons rfl (.cons rfl (.nil _))) (K598 (y553 == 2) _ ⟨by first | (rw [hg597]; rfl) | rfl, rfl⟩)
                  ·refine sr_pass (e := 101) rfl rfl (by rw [hg597]; rfl) (by decide) ?_
                   refine sr_pass (e := 101) rfl rfl (by rw [hg597]; rfl) (by decide) ?_
                   refine sr_ev (v := .bool false) (ev_pick_f rfl hg597 rfl) (by decide) ?_
                   exact sr_weaken (l' := [(1, .pointer (some ⟨g6, 0, none⟩)), (104, .bool false)]) (.cons rfl (.cons rfl (.nil _))) (K598 false _ ⟨by first | (rw [hg597]; rfl) | rfl, rfl⟩)
                ·intro K585
                 clear hS
                 have hj587 : Tr ρ577 w576 (fun _ => false) ρ577 w576 := (Tr.refl hb.bd).weak (fun _ _ => rfl) rfl rfl
                 rcases Bool.eq_false_or_eq_true z573 with hg584 | hg584
                 ·have hS := ite_true' hz588 hg584
                  refine sr_evg (b := true) (e := 96) rfl rfl hg584 (v := .pointer (some ⟨g394, 0, none⟩)) (ev_move rfl) (by decide) ?_
                  obtain ⟨y592, hy593, hS⟩ := bind_some' hS
                  refine sr_callg (b := true) (e := 96) rfl rfl hg584 (vs := [.pointer (some ⟨g394, 0, none⟩), str ([98, 111, 98]), .int .i64 15]) rfl Tryd.call28 rfl (secret_Locks_Locked_ok _ (hg.fr hz hb) (ρA := ρ577) hb.bd (hz.fr hg hb) (τ0 := (fun p => 100 + p)) (fun p => Nat.le_add_right_of_le (by decide)) (⟨_, _, hB551, h548, hR550⟩ : secret_Locks.O (fun p => 100 + p) ρ577 w576 g394 y542) hy593) (by decide) ?_
                  rintro _ w594 ⟨rfl, hbw595⟩
                  have htr596 := Tr.of_below hbw595 hb.bd
                  replace hB10 := hB10.mv (htr596.mv (i := 3) rfl)
                  replace hb := hb.trans htr596
                  replace hj587 := (hj587.trans htr596).weak (J' := (fun _ => false)) (by intro t h; simp [rng] at h ⊢ <;> omega) rfl rfl
                  refine sr_evg (b := true) (e := 96) rfl rfl hg584 (v := .bool (!y592)) (ev_not rfl) (by decide) ?_
                  refine sr_ev (v := .bool (!y592)) (ev_pick_t rfl hg584 rfl) (by decide) ?_
                  exact sr_weaken (l' := [(1, .pointer (some ⟨g6, 0, none⟩)), (10, .int .i64 y553), (100, .bool (!y592))]) (.cons rfl (.cons rfl (.cons rfl (.nil _)))) (K585 (!y592) _ ⟨(Option.some.inj hS).symm, _, hj587⟩)
                 ·have hS := ite_false' hz588 hg584
                  refine sr_pass (e := 96) rfl rfl (by rw [hg584]; rfl) (by decide) ?_
                  refine sr_pass (e := 96) rfl rfl (by rw [hg584]; rfl) (by decide) ?_
                  refine sr_pass (e := 96) rfl rfl (by rw [hg584]; rfl) (by decide) ?_
                  refine sr_ev (v := .bool false) (ev_pick_f rfl hg584 rfl) (by decide) ?_
                  exact sr_weaken (l' := [(1, .pointer (some ⟨g6, 0, none⟩)), (10, .int .i64 y553), (100, .bool false)]) (.cons rfl (.cons rfl (.cons rfl (.nil _)))) (K585 false _ ⟨(Option.some.inj hS).symm, _, hj587⟩)
               ·intro K572
                clear hS
                have hj574 : Tr ρ564 w563 (fun _ => false) ρ564 w563 := (Tr.refl hb.bd).weak (fun _ _ => rfl) rfl rfl
                rcases Bool.eq_false_or_eq_true z560 with hg571 | hg571
                ·have hS := ite_true' hz575 hg571
                 refine sr_evg (b := true) (e := 91) rfl rfl hg571 (v := .pointer (some ⟨g394, 0, none⟩)) (ev_move rfl) (by decide) ?_
                 obtain ⟨y579, hy580, hS⟩ := bind_some' hS
                 refine sr_callg (b := true) (e := 91) rfl rfl hg571 (vs := [.pointer (some ⟨g394, 0, none⟩), str ([97, 110, 110]), .int .i64 109]) rfl Tryd.call28 rfl (secret_Locks_Locked_ok _ (hg.fr hz hb) (ρA := ρ564) hb.bd (hz.fr hg hb) (τ0 := (fun p => 100 + p)) (fun p => Nat.le_add_right_of_le (by decide)) (⟨_, _, hB551, h548, hR550⟩ : secret_Locks.O (fun p => 100 + p) ρ564 w563 g394 y542) hy580) (by decide) ?_
                 rintro _ w581 ⟨rfl, hbw582⟩
                 have htr583 := Tr.of_below hbw582 hb.bd
                 replace hB551 := hB551.mv (htr583.mv (i := 100) rfl)
                 replace h548 := h548.mv (htr583.mv (i := 101) rfl)
                 replace hR550 := Recs.mv hR550 secret_record.objK (htr583.mv (i := 102) rfl) (by decide)
                 replace hB10 := hB10.mv (htr583.mv (i := 3) rfl)
                 replace hb := hb.trans htr583
                 replace hj574 := (hj574.trans htr583).weak (J' := (fun _ => false)) (by intro t h; simp [rng] at h ⊢ <;> omega) rfl rfl
                 refine sr_evg (b := true) (e := 91) rfl rfl hg571 (v := .bool (!y579)) (ev_not rfl) (by decide) ?_
                 refine sr_ev (v := .bool (!y579)) (ev_pick_t rfl hg571 rfl) (by decide) ?_
                 exact sr_weaken (l' := [(1, .pointer (some ⟨g6, 0, none⟩)), (7, .pointer (some ⟨g394, 0, none⟩)), (10, .int .i64 y553), (95, .bool (!y579))]) (.cons rfl (.cons rfl (.cons rfl (.cons rfl (.nil _))))) (K572 (!y579) _ ⟨(Option.some.inj hS).symm, _, hj574⟩)
                ·have hS := ite_false' hz575 hg571
                 refine sr_pass (e := 91) rfl rfl (by rw [hg571]; rfl) (by decide) ?_
                 refine sr_pass (e := 91) rfl rfl (by rw [hg571]; rfl) (by decide) ?_
                 refine sr_pass (e := 91) rfl rfl (by rw [hg571]; rfl) (by decide) ?_
                 refine sr_ev (v := .bool false) (ev_pick_f rfl hg571 rfl) (by decide) ?_
                 exact sr_weaken (l' := [(1, .pointer (some ⟨g6, 0, none⟩)), (7, .pointer (some ⟨g394, 0, none⟩)), (10, .int .i64 y553), (95, .bool false)]) (.cons rfl (.cons rfl (.cons rfl (.cons rfl (.nil _))))) (K572 false _ ⟨(Option.some.inj hS).symm, _, hj574⟩)
              ·intro K559
               clear hS
               have hj561 : Tr ρ552 w555 (fun _ => false) ρ552 w555 := (Tr.refl hb.bd).weak (fun _ _ => rfl) rfl rfl
               rcases Bool.eq_false_or_eq_true (!y515) with hg558 | hg558
               ·have hS := ite_true' hz562 hg558
                refine sr_evg (b := true) (e := 87) rfl rfl hg558 (v := .pointer (some ⟨g394, 0, none⟩)) (ev_move rfl) (by decide) ?_
                obtain ⟨y566, hy567, hS⟩ := bind_some' hS
                refine sr_callg (b := true) (e := 87) rfl rfl hg558 (vs := [.pointer (some ⟨g394, 0, none⟩), str ([97, 110, 110]), .int .i64 108]) rfl Tryd.call28 rfl (secret_Locks_Locked_ok _ (hg.fr hz hb) (ρA := ρ552) hb.bd (hz.fr hg hb) (τ0 := (fun p => 100 + p)) (fun p => Nat.le_add_right_of_le (by decide)) (⟨_, _, hB551, h548, hR550⟩ : secret_Locks.O (fun p => 100 + p) ρ552 w555 g394 y542) hy567) (by decide) ?_
                rintro _ w568 ⟨rfl, hbw569⟩
                have htr570 := Tr.of_below hbw569 hb.bd
                replace hB551 := hB551.mv (htr570.mv (i := 100) rfl)
                replace h548 := h548.mv (htr570.mv (i := 101) rfl)
                replace hR550 := Recs.mv hR550 secret_record.objK (htr570.mv (i := 102) rfl) (by decide)
                replace hB10 := hB10.mv (htr570.mv (i := 3) rfl)
                replace hb := hb.trans htr570
                replace hj561 := (hj561.trans htr570).weak (J' := (fun _ => false)) (by intro t h; simp [rng] at h ⊢ <;> omega) rfl rfl
                refine sr_ev (v := .bool y566) (ev_pick_t rfl hg558 rfl) (by decide) ?_
                exact sr_weaken (l' := [(1, .pointer (some ⟨g6, 0, none⟩)), (7, .pointer (some ⟨g394, 0, none⟩)), (10, .int .i64 y553), (90, .bool y566)]) (.cons rfl (.cons rfl (.cons rfl (.cons rfl (.nil _))))) (K559 y566 _ ⟨(Option.some.inj hS).symm, _, hj561⟩)
               ·have hS := ite_false' hz562 hg558
                refine sr_pass (e := 87) rfl rfl (by rw [hg558]; rfl) (by decide) ?_
                refine sr_pass (e := 87) rfl rfl (by rw [hg558]; rfl) (by decide) ?_
                refine sr_ev (v := .bool false) (ev_pick_f rfl hg558 rfl) (by decide) ?_
                exact sr_weaken (l' := [(1, .pointer (some ⟨g6, 0, none⟩)), (7, .pointer (some ⟨g394, 0, none⟩)), (10, .int .i64 y553), (90, .bool false)]) (.cons rfl (.cons rfl (.cons rfl (.cons rfl (.nil _))))) (K559 false _ ⟨(Option.some.inj hS).symm, _, hj561⟩)
            ·intro K491
             clear hS
             rcases Bool.eq_false_or_eq_true z480 with hg490 | hg490
             ·have hS := ite_true' hz494 hg490
              refine sq_pass (e := 69) rfl rfl (by rw [hg490]; rfl) (by decide) ?_
              refine sq_pass (e := 69) rfl rfl (by rw [hg490]; rfl) (by decide) ?_
              refine sq_ev (v := .bool true) (fun w1 hw1 => ev_pick_t rfl hg490 rfl) (by decide) ?_
              exact sq_weaken (l' := [(1, .pointer (some ⟨g6, 0, none⟩)), (7, .pointer (some ⟨g394, 0, none⟩)), (72, .bool true)]) (.cons rfl (.cons rfl (.cons rfl (.nil _)))) (K491 true (Option.some.inj hS).symm)
             ·have hS := ite_false' hz494 hg490
              obtain ⟨y497, hy498, hS⟩ := bind_some' hS
              refine sq_callg (b := false) (e := 69) rfl rfl hg490 (v := .int .i64 y497) (vs := [str ([97, 98, 99, 100, 101, 102, 103, 104]), str ([97, 110, 110])]) rfl Tryd.call18 rfl (fun w1 hw1 => (secret_Quality_ok _ ((hg.fr hz hb).below hw1) hy498)) (by decide) ?_
              refine sq_evg (b := false) (e := 69) rfl rfl hg490 (v := .bool (y497 != 11)) (fun w1 hw1 => ev_ne rfl rfl) (by decide) ?_
              refine sq_ev (v := .bool (y497 != 11)) (fun w1 hw1 => ev_pick_f rfl hg490 rfl) (by decide) ?_
              exact sq_weaken (l' := [(1, .pointer (some ⟨g6, 0, none⟩)), (7, .pointer (some ⟨g394, 0, none⟩)), (72, .bool (y497 != 11))]) (.cons rfl (.cons rfl (.cons rfl (.nil _)))) (K491 (y497 != 11) (Option.some.inj hS).symm)
           ·intro K479
            clear hS
            rcases Bool.eq_false_or_eq_true z468 with hg478 | hg478
            ·have hS := ite_true' hz482 hg478
             refine sq_pass (e := 65) rfl rfl (by rw [hg478]; rfl) (by decide) ?_
             refine sq_pass (e := 65) rfl rfl (by rw [hg478]; rfl) (by decide) ?_
             refine sq_ev (v := .bool true) (fun w1 hw1 => ev_pick_t rfl hg478 rfl) (by decide) ?_
             exact sq_weaken (l' := [(1, .pointer (some ⟨g6, 0, none⟩)), (7, .pointer (some ⟨g394, 0, none⟩)), (68, .bool true)]) (.cons rfl (.cons rfl (.cons rfl (.nil _)))) (K479 true (Option.some.inj hS).symm)
            ·have hS := ite_false' hz482 hg478
             obtain ⟨y485, hy486, hS⟩ := bind_some' hS
             refine sq_callg (b := false) (e := 65) rfl rfl hg478 (v := .int .i64 y485) (vs := [str ([120, 65, 110, 110, 45, 49, 50, 51, 52]), str ([97, 110, 110])]) rfl Tryd.call18 rfl (fun w1 hw1 => (secret_Quality_ok _ ((hg.fr hz hb).below hw1) hy486)) (by decide) ?_
             refine sq_evg (b := false) (e := 65) rfl rfl hg478 (v := .bool (y485 != 11)) (fun w1 hw1 => ev_ne rfl rfl) (by decide) ?_
             refine sq_ev (v := .bool (y485 != 11)) (fun w1 hw1 => ev_pick_f rfl hg478 rfl) (by decide) ?_
             exact sq_weaken (l' := [(1, .pointer (some ⟨g6, 0, none⟩)), (7, .pointer (some ⟨g394, 0, none⟩)), (68, .bool (y485 != 11))]) (.cons rfl (.cons rfl (.cons rfl (.nil _)))) (K479 (y485 != 11) (Option.some.inj hS).symm)
          ·intro K467
           clear hS
           rcases Bool.eq_false_or_eq_true z456 with hg466 | hg466
           ·have hS := ite_true' hz470 hg466
            refine sq_pass (e := 61) rfl rfl (by rw [hg466]; rfl) (by decide) ?_
            refine sq_pass (e := 61) rfl rfl (by rw [hg466]; rfl) (by decide) ?_
            refine sq_ev (v := .bool true) (fun w1 hw1 => ev_pick_t rfl hg466 rfl) (by decide) ?_
            exact sq_weaken (l' := [(1, .pointer (some ⟨g6, 0, none⟩)), (7, .pointer (some ⟨g394, 0, none⟩)), (64, .bool true)]) (.cons rfl (.cons rfl (.cons rfl (.nil _)))) (K467 true (Option.some.inj hS).symm)
           ·have hS := ite_false' hz470 hg466
            obtain ⟨y473, hy474, hS⟩ := bind_some' hS
            refine sq_callg (b := false) (e := 61) rfl rfl hg466 (v := .int .i64 y473) (vs := [str ([65, 98, 99, 100, 101, 102, 103, 49]), str ([97, 110, 110])]) rfl Tryd.call18 rfl (fun w1 hw1 => (secret_Quality_ok _ ((hg.fr hz hb).below hw1) hy474)) (by decide) ?_
            refine sq_evg (b := false) (e := 61) rfl rfl hg466 (v := .bool (y473 != 0)) (fun w1 hw1 => ev_ne rfl rfl) (by decide) ?_
            refine sq_ev (v := .bool (y473 != 0)) (fun w1 hw1 => ev_pick_f rfl hg466 rfl) (by decide) ?_
            exact sq_weaken (l' := [(1, .pointer (some ⟨g6, 0, none⟩)), (7, .pointer (some ⟨g394, 0, none⟩)), (64, .bool (y473 != 0))]) (.cons rfl (.cons rfl (.cons rfl (.nil _)))) (K467 (y473 != 0) (Option.some.inj hS).symm)
         ·intro K455
          clear hS
          rcases Bool.eq_false_or_eq_true z444 with hg454 | hg454
          ·have hS := ite_true' hz458 hg454
           refine sq_pass (e := 56) rfl rfl (by rw [hg454]; rfl) (by decide) ?_
           refine sq_pass (e := 56) rfl rfl (by rw [hg454]; rfl) (by decide) ?_
           refine sq_pass (e := 56) rfl rfl (by rw [hg454]; rfl) (by decide) ?_
           refine sq_ev (v := .bool true) (fun w1 hw1 => ev_pick_t rfl hg454 rfl) (by decide) ?_
           exact sq_weaken (l' := [(1, .pointer (some ⟨g6, 0, none⟩)), (7, .pointer (some ⟨g394, 0, none⟩)), (60, .bool true)]) (.cons rfl (.cons rfl (.cons rfl (.nil _)))) (K455 true (Option.some.inj hS).symm)
          ·have hS := ite_false' hz458 hg454
           refine sq_evg (b := false) (e := 56) rfl rfl hg454 (v := .agg #[str y1.1.Salt, .int .i64 y1.1.Rounds, str y1.1.Hash]) (fun w1 hw1 => ev_loads (cs := [str y1.1.Salt, .int .i64 y1.1.Rounds, str y1.1.Hash]) Tryd.isAgg25 Tryd.sizeOf25 rfl ((hB10.mv (Mv.of_below (i := 3) (ρ := ρ391) hw1)).cells (vs := [str y1.1.Salt, .int .i64 y1.1.Rounds, str y1.1.Hash]) rfl)) (by decide) ?_
           obtain ⟨y461, hy462, hS⟩ := bind_some' hS
           refine sq_callg (b := false) (e := 56) rfl rfl hg454 (v := .bool y461) (vs := [.agg #[str y1.1.Salt, .int .i64 y1.1.Rounds, str y1.1.Hash]]) rfl Tryd.call12 rfl (fun w1 hw1 => (secret_Valid_ok _ ((hg.fr hz hb).below hw1) hy462)) (by decide) ?_
           refine sq_evg (b := false) (e := 56) rfl rfl hg454 (v := .bool (!y461)) (fun w1 hw1 => ev_not rfl) (by decide) ?_
           refine sq_ev (v := .bool (!y461)) (fun w1 hw1 => ev_pick_f rfl hg454 rfl) (by decide) ?_
           exact sq_weaken (l' := [(1, .pointer (some ⟨g6, 0, none⟩)), (7, .pointer (some ⟨g394, 0, none⟩)), (60, .bool (!y461))]) (.cons rfl (.cons rfl (.cons rfl (.nil _)))) (K455 (!y461) (Option.some.inj hS).symm)
        ·intro K443
         clear hS
         rcases Bool.eq_false_or_eq_true z432 with hg442 | hg442
         ·have hS := ite_true' hz446 hg442
          refine sq_pass (e := 51) rfl rfl (by rw [hg442]; rfl) (by decide) ?_
          refine sq_pass (e := 51) rfl rfl (by rw [hg442]; rfl) (by decide) ?_
          refine sq_pass (e := 51) rfl rfl (by rw [hg442]; rfl) (by decide) ?_
          refine sq_ev (v := .bool true) (fun w1 hw1 => ev_pick_t rfl hg442 rfl) (by decide) ?_
          exact sq_weaken (l' := [(1, .pointer (some ⟨g6, 0, none⟩)), (7, .pointer (some ⟨g394, 0, none⟩)), (55, .bool true)]) (.cons rfl (.cons rfl (.cons rfl (.nil _)))) (K443 true (Option.some.inj hS).symm)
         ·have hS := ite_false' hz446 hg442
          refine sq_evg (b := false) (e := 51) rfl rfl hg442 (v := .agg #[str y1.1.Salt, .int .i64 y1.1.Rounds, str y1.1.Hash]) (fun w1 hw1 => ev_loads (cs := [str y1.1.Salt, .int .i64 y1.1.Rounds, str y1.1.Hash]) Tryd.isAgg25 Tryd.sizeOf25 rfl ((hB10.mv (Mv.of_below (i := 3) (ρ := ρ391) hw1)).cells (vs := [str y1.1.Salt, .int .i64 y1.1.Rounds, str y1.1.Hash]) rfl)) (by decide) ?_
          obtain ⟨y449, hy450, hS⟩ := bind_some' hS
          refine sq_callg (b := false) (e := 51) rfl rfl hg442 (v := .bool y449) (vs := [.agg #[str y1.1.Salt, .int .i64 y1.1.Rounds, str y1.1.Hash], str ([65, 98, 99, 100, 101, 102, 103, 49])]) rfl Tryd.call14 rfl (fun w1 hw1 => (secret_Check_ok _ ((hg.fr hz hb).below hw1) hy450)) (by decide) ?_
          refine sq_evg (b := false) (e := 51) rfl rfl hg442 (v := .bool (!y449)) (fun w1 hw1 => ev_not rfl) (by decide) ?_
          refine sq_ev (v := .bool (!y449)) (fun w1 hw1 => ev_pick_f rfl hg442 rfl) (by decide) ?_
          exact sq_weaken (l' := [(1, .pointer (some ⟨g6, 0, none⟩)), (7, .pointer (some ⟨g394, 0, none⟩)), (55, .bool (!y449))]) (.cons rfl (.cons rfl (.cons rfl (.nil _)))) (K443 (!y449) (Option.some.inj hS).symm)
       ·intro K431
        clear hS
        rcases Bool.eq_false_or_eq_true (((((y1.2 != 0) || (y13.2 != 4)) || (y25.2 != 2)) || (y384.2 != 0)) || false) with hg430 | hg430
        ·have hS := ite_true' hz434 hg430
         refine sq_pass (e := 45) rfl rfl (by rw [hg430]; rfl) (by decide) ?_
         refine sq_pass (e := 45) rfl rfl (by rw [hg430]; rfl) (by decide) ?_
         refine sq_pass (e := 45) rfl rfl (by rw [hg430]; rfl) (by decide) ?_
         refine sq_pass (e := 45) rfl rfl (by rw [hg430]; rfl) (by decide) ?_
         refine sq_ev (v := .bool true) (fun w1 hw1 => ev_pick_t rfl hg430 rfl) (by decide) ?_
         exact sq_weaken (l' := [(1, .pointer (some ⟨g6, 0, none⟩)), (7, .pointer (some ⟨g394, 0, none⟩)), (50, .bool true)]) (.cons rfl (.cons rfl (.cons rfl (.nil _)))) (K431 true (Option.some.inj hS).symm)
        ·have hS := ite_false' hz434 hg430
         refine sq_evg (b := false) (e := 45) rfl rfl hg430 (v := .pointer (some ⟨g6, 2, none⟩)) (fun w1 hw1 => ev_fieldAddr (i := 2) Tryd.underlying25 rfl Tryd.info9 rfl rfl) (by decide) ?_
         refine sq_evg (b := false) (e := 45) rfl rfl hg430 (v := str y1.1.Hash) (fun w1 hw1 => ev_load Tryd.isAgg9 rfl ((hB10.mv (Mv.of_below (i := 3) (ρ := ρ391) hw1)).cell rfl)) (by decide) ?_
         obtain ⟨y437, hy438, hS⟩ := bind_some' hS
         refine sq_callg (b := false) (e := 45) rfl rfl hg430 (v := str y437) (vs := [str ([115, 97, 108, 116]), str ([65, 98, 99, 100, 101, 102, 103, 49]), .int .i64 2]) rfl Tryd.call33 rfl (fun w1 hw1 => (digest_Iterate_ok _ ((hg.fr hz hb).below hw1) hy438)) (by decide) ?_
         refine sq_evg (b := false) (e := 45) rfl rfl hg430 (v := .bool (!(y1.1.Hash == y437))) (fun w1 hw1 => ev_sne rfl rfl) (by decide) ?_
         refine sq_ev (v := .bool (!(y1.1.Hash == y437))) (fun w1 hw1 => ev_pick_f rfl hg430 rfl) (by decide) ?_
         exact sq_weaken (l' := [(1, .pointer (some ⟨g6, 0, none⟩)), (7, .pointer (some ⟨g394, 0, none⟩)), (50, .bool (!(y1.1.Hash == y437)))]) (.cons rfl (.cons rfl (.cons rfl (.nil _)))) (K431 (!(y1.1.Hash == y437)) (Option.some.inj hS).symm)
      ·intro K424
       rcases Bool.eq_false_or_eq_true ((((y1.2 != 0) || (y13.2 != 4)) || (y25.2 != 2)) || (y384.2 != 0)) with hg423 | hg423
       ·refine sq_pass (e := 41) rfl rfl (by rw [hg423]; rfl) (by decide) ?_
        refine sq_pass (e := 41) rfl rfl (by rw [hg423]; rfl) (by decide) ?_
        refine sq_ev (v := .bool true) (fun w1 hw1 => ev_pick_t rfl hg423 rfl) (by decide) ?_
        exact sq_weaken (l' := [(1, .pointer (some ⟨g6, 0, none⟩)), (7, .pointer (some ⟨g394, 0, none⟩)), (44, .bool true)]) (.cons rfl (.cons rfl (.cons rfl (.nil _)))) (K424 true (by rw [hg423]; rfl))
       ·refine sq_evg (b := false) (e := 41) rfl rfl hg423 (v := .pointer (some ⟨g394, 0, none⟩)) (fun w1 hw1 => ev_move rfl) (by decide) ?_
        refine sq_evg (b := false) (e := 41) rfl rfl hg423 (v := .bool false) (fun w1 hw1 => ev_peqT_some Tryd.underlying39 rfl rfl) (by decide) ?_
        refine sq_ev (v := .bool false) (fun w1 hw1 => ev_pick_f rfl hg423 rfl) (by decide) ?_
        exact sq_weaken (l' := [(1, .pointer (some ⟨g6, 0, none⟩)), (7, .pointer (some ⟨g394, 0, none⟩)), (44, .bool false)]) (.cons rfl (.cons rfl (.cons rfl (.nil _)))) (K424 false (by rw [hg423]; rfl))
     ·intro K417
      rcases Bool.eq_false_or_eq_true (((y1.2 != 0) || (y13.2 != 4)) || (y25.2 != 2)) with hg416 | hg416
      ·refine sq_pass (e := 37) rfl rfl (by rw [hg416]; rfl) (by decide) ?_
       refine sq_pass (e := 37) rfl rfl (by rw [hg416]; rfl) (by decide) ?_
       refine sq_ev (v := .bool true) (fun w1 hw1 => ev_pick_t rfl hg416 rfl) (by decide) ?_
       exact sq_weaken (l' := [(1, .pointer (some ⟨g6, 0, none⟩)), (7, .pointer (some ⟨g394, 0, none⟩)), (40, .bool true)]) (.cons rfl (.cons rfl (.cons rfl (.nil _)))) (K417 true (by rw [hg416]; rfl))
      ·refine sq_evg (b := false) (e := 37) rfl rfl hg416 (v := .int .i64 y384.2) (fun w1 hw1 => ev_move rfl) (by decide) ?_
       refine sq_evg (b := false) (e := 37) rfl rfl hg416 (v := .bool (y384.2 != 0)) (fun w1 hw1 => ev_ne rfl rfl) (by decide) ?_
       refine sq_ev (v := .bool (y384.2 != 0)) (fun w1 hw1 => ev_pick_f rfl hg416 rfl) (by decide) ?_
       exact sq_weaken (l' := [(1, .pointer (some ⟨g6, 0, none⟩)), (7, .pointer (some ⟨g394, 0, none⟩)), (40, .bool (y384.2 != 0))]) (.cons rfl (.cons rfl (.cons rfl (.nil _)))) (K417 (y384.2 != 0) (by rw [hg416]; rfl))
    ·intro K410
     rcases Bool.eq_false_or_eq_true ((y1.2 != 0) || (y13.2 != 4)) with hg409 | hg409
     ·refine sq_pass (e := 33) rfl rfl (by rw [hg409]; rfl) (by decide) ?_
      refine sq_pass (e := 33) rfl rfl (by rw [hg409]; rfl) (by decide) ?_
      refine sq_ev (v := .bool true) (fun w1 hw1 => ev_pick_t rfl hg409 rfl) (by decide) ?_
      exact sq_weaken (l' := [(1, .pointer (some ⟨g6, 0, none⟩)), (7, .pointer (some ⟨g394, 0, none⟩)), (8, .int .i64 y384.2), (36, .bool true)]) (.cons rfl (.cons rfl (.cons rfl (.cons rfl (.nil _))))) (K410 true (by rw [hg409]; rfl))
     ·refine sq_evg (b := false) (e := 33) rfl rfl hg409 (v := .int .i64 y25.2) (fun w1 hw1 => ev_move rfl) (by decide) ?_
      refine sq_evg (b := false) (e := 33) rfl rfl hg409 (v := .bool (y25.2 != 2)) (fun w1 hw1 => ev_ne rfl rfl) (by decide) ?_
      refine sq_ev (v := .bool (y25.2 != 2)) (fun w1 hw1 => ev_pick_f rfl hg409 rfl) (by decide) ?_
      exact sq_weaken (l' := [(1, .pointer (some ⟨g6, 0, none⟩)), (7, .pointer (some ⟨g394, 0, none⟩)), (8, .int .i64 y384.2), (36, .bool (y25.2 != 2))]) (.cons rfl (.cons rfl (.cons rfl (.cons rfl (.nil _))))) (K410 (y25.2 != 2) (by rw [hg409]; rfl))
   ·intro K403
    rcases Bool.eq_false_or_eq_true (y1.2 != 0) with hg402 | hg402
    ·refine sq_pass (e := 29) rfl rfl (by rw [hg402]; rfl) (by decide) ?_
     refine sq_pass (e := 29) rfl rfl (by rw [hg402]; rfl) (by decide) ?_
     refine sq_ev (v := .bool true) (fun w1 hw1 => ev_pick_t rfl hg402 rfl) (by decide) ?_
     exact sq_weaken (l' := [(1, .pointer (some ⟨g6, 0, none⟩)), (6, .int .i64 y25.2), (7, .pointer (some ⟨g394, 0, none⟩)), (8, .int .i64 y384.2), (32, .bool true)]) (.cons rfl (.cons rfl (.cons rfl (.cons rfl (.cons rfl (.nil _)))))) (K403 true (by rw [hg402]; rfl))
    ·refine sq_evg (b := false) (e := 29) rfl rfl hg402 (v := .int .i64 y13.2) (fun w1 hw1 => ev_move rfl) (by decide) ?_
     refine sq_evg (b := false) (e := 29) rfl rfl hg402 (v := .bool (y13.2 != 4)) (fun w1 hw1 => ev_ne rfl rfl) (by decide) ?_
     refine sq_ev (v := .bool (y13.2 != 4)) (fun w1 hw1 => ev_pick_f rfl hg402 rfl) (by decide) ?_
     exact sq_weaken (l' := [(1, .pointer (some ⟨g6, 0, none⟩)), (6, .int .i64 y25.2), (7, .pointer (some ⟨g394, 0, none⟩)), (8, .int .i64 y384.2), (32, .bool (y13.2 != 4))]) (.cons rfl (.cons rfl (.cons rfl (.cons rfl (.cons rfl (.nil _)))))) (K403 (y13.2 != 4) (by rw [hg402]; rfl))
 ·replace hS := optC_some hS ho34
  obtain ⟨g35, rfl, ⟨v36, lp38, hB40, h37, hR39⟩⟩ := hP31.some_ ho34
  replace hB40 : Blk ρ32 100 w27 g35 (.cells #[.int .i64 z33.most, .int .i64 z33.window, .int .i64 z33.lock, v36] 67 (0, 0)) := hB40
  replace h37 : MapT str ptrC false ρ32 101 w27 v36 lp38 := h37
  replace hR39 : Recs secret_record.O 2 ρ32 102 w27 lp38 z33.users := hR39
  refine sr_ev (v := .tuple #[.pointer (some ⟨g35, 0, none⟩), .int .i64 y25.2]) (ev_move rfl) (by decide) ?_
  refine sr_ev (v := .pointer (some ⟨g35, 0, none⟩)) (ev_extract rfl rfl) (by decide) ?_
  refine sr_ev (v := .int .i64 y25.2) (ev_extract rfl rfl) (by decide) ?_
  refine sr_ev (v := .pointer (some ⟨g35, 0, none⟩)) (ev_assign rfl) (by decide) ?_
  refine sr_ev (v := .int .i64 y25.2) (ev_assign rfl) (by decide) ?_
  refine sr_end (l' := [(1, .pointer (some ⟨g6, 0, none⟩)), (2, .int .i64 y1.2), (4, .int .i64 y13.2), (6, .int .i64 y25.2)]) (.cons rfl (.cons rfl (.cons rfl (.cons rfl (.nil _))))) ?_
  refine ke_seq ?_
  refine ke_region ?_
  obtain ⟨y41, hy42, hS⟩ := bind_some' hS
  refine sr_call (vs := [.int .i64 2, .int .i64 10, .int .i64 100]) rfl Tryd.call22 rfl (secret_NewLocks_ok _ (hg.fr hz hb) (ρA := ρ32) hb.bd (hz.fr hg hb) (o := 200) (by decide) hy42) (by decide) ?_
  rintro _ w43 ⟨ρ48, v46, rfl, hP47, htr45⟩
  replace hB10 := hB10.mv (htr45.mv (i := 3) rfl)
  replace hb := hb.trans htr45
  rcases ho50 : y41.1 with _ | z49
  ·replace hS := optC_none hS ho50
   obtain rfl := hP47.none_ ho50
   refine sr_ev (v := .tuple #[.pointer none, .int .i64 y41.2]) (ev_move rfl) (by decide) ?_
   refine sr_ev (v := .pointer none) (ev_extract rfl rfl) (by decide) ?_
   refine sr_ev (v := .int .i64 y41.2) (ev_extract rfl rfl) (by decide) ?_
   refine sr_ev (v := .pointer none) (ev_assign rfl) (by decide) ?_
   refine sr_ev (v := .int .i64 y41.2) (ev_assign rfl) (by decide) ?_
   refine sr_end (l' := [(1, .pointer (some ⟨g6, 0, none⟩)), (2, .int .i64 y1.2), (4, .int .i64 y13.2), (6, .int .i64 y25.2), (7, .pointer none), (8, .int .i64 y41.2)]) (.cons rfl (.cons rfl (.cons rfl (.cons rfl (.cons rfl (.cons rfl (.nil _))))))) ?_
   refine ke_seq ?_
   refine ke_seq ?_
   refine ke_region_q Tryd.mixed (by kernel_rfl) ?_
   refine sq_ev (v := .int .i64 y1.2) (fun w1 hw1 => ev_move rfl) (by decide) ?_
   refine sq_ev (v := .bool (y1.2 != 0)) (fun w1 hw1 => ev_ne rfl rfl) (by decide) ?_
   refine sq_ev (v := .bool (y1.2 != 0)) (fun w1 hw1 => ev_move rfl) (by decide) ?_
   refine sq_join (m := 3) (C := fun (x : Bool) => x = ((y1.2 != 0) || (y13.2 != 4))) (l' := fun x => [(1, .pointer (some ⟨g6, 0, none⟩)), (6, .int .i64 y25.2), (7, .pointer none), (8, .int .i64 y41.2), (32, .bool x)]) ?_ ?_
   ·rintro _ rfl
    refine sq_ev (v := .bool ((y1.2 != 0) || (y13.2 != 4))) (fun w1 hw1 => ev_move rfl) (by decide) ?_
    refine sq_join (m := 3) (C := fun (x : Bool) => x = (((y1.2 != 0) || (y13.2 != 4)) || (y25.2 != 2))) (l' := fun x => [(1, .pointer (some ⟨g6, 0, none⟩)), (7, .pointer none), (8, .int .i64 y41.2), (36, .bool x)]) ?_ ?_
    ·rintro _ rfl
     refine sq_ev (v := .bool (((y1.2 != 0) || (y13.2 != 4)) || (y25.2 != 2))) (fun w1 hw1 => ev_move rfl) (by decide) ?_
     refine sq_join (m := 3) (C := fun (x : Bool) => x = ((((y1.2 != 0) || (y13.2 != 4)) || (y25.2 != 2)) || (y41.2 != 0))) (l' := fun x => [(1, .pointer (some ⟨g6, 0, none⟩)), (7, .pointer none), (40, .bool x)]) ?_ ?_
     ·rintro _ rfl
      refine sq_ev (v := .bool ((((y1.2 != 0) || (y13.2 != 4)) || (y25.2 != 2)) || (y41.2 != 0))) (fun w1 hw1 => ev_move rfl) (by decide) ?_
      refine sq_join (m := 3) (C := fun (x : Bool) => x = (((((y1.2 != 0) || (y13.2 != 4)) || (y25.2 != 2)) || (y41.2 != 0)) || true)) (l' := fun x => [(1, .pointer (some ⟨g6, 0, none⟩)), (7, .pointer none), (44, .bool x)]) ?_ ?_
      ·rintro _ rfl
       refine sq_ev (v := .bool (((((y1.2 != 0) || (y13.2 != 4)) || (y25.2 != 2)) || (y41.2 != 0)) || true)) (fun w1 hw1 => ev_move rfl) (by decide) ?_
       obtain ⟨z312, hz314, hS⟩ := bind_some' hS
       refine sq_join (m := 5) (C := fun (x : Bool) => z312 = x) (l' := fun x => [(1, .pointer (some ⟨g6, 0, none⟩)), (7, .pointer none), (50, .bool x)]) ?_ ?_
       ·rintro _ rfl
        refine sq_ev (v := .bool z312) (fun w1 hw1 => ev_move rfl) (by decide) ?_
        obtain ⟨z324, hz326, hS⟩ := bind_some' hS
        refine sq_join (m := 4) (C := fun (x : Bool) => z324 = x) (l' := fun x => [(1, .pointer (some ⟨g6, 0, none⟩)), (7, .pointer none), (55, .bool x)]) ?_ ?_
        ·rintro _ rfl
         refine sq_ev (v := .bool z324) (fun w1 hw1 => ev_move rfl) (by decide) ?_
         obtain ⟨z336, hz338, hS⟩ := bind_some' hS
         refine sq_join (m := 4) (C := fun (x : Bool) => z336 = x) (l' := fun x => [(1, .pointer (some ⟨g6, 0, none⟩)), (7, .pointer none), (60, .bool x)]) ?_ ?_
         ·rintro _ rfl
          refine sq_ev (v := .bool z336) (fun w1 hw1 => ev_move rfl) (by decide) ?_
          obtain ⟨z348, hz350, hS⟩ := bind_some' hS
          refine sq_join (m := 3) (C := fun (x : Bool) => z348 = x) (l' := fun x => [(1, .pointer (some ⟨g6, 0, none⟩)), (7, .pointer none), (64, .bool x)]) ?_ ?_
          ·rintro _ rfl
           refine sq_ev (v := .bool z348) (fun w1 hw1 => ev_move rfl) (by decide) ?_
           obtain ⟨z360, hz362, hS⟩ := bind_some' hS
           refine sq_join (m := 3) (C := fun (x : Bool) => z360 = x) (l' := fun x => [(1, .pointer (some ⟨g6, 0, none⟩)), (7, .pointer none), (68, .bool x)]) ?_ ?_
           ·rintro _ rfl
            refine sq_ev (v := .bool z360) (fun w1 hw1 => ev_move rfl) (by decide) ?_
            obtain ⟨z372, hz374, hS⟩ := bind_some' hS
            refine sq_join (m := 3) (C := fun (x : Bool) => z372 = x) (l' := fun x => [(1, .pointer (some ⟨g6, 0, none⟩)), (7, .pointer none), (72, .bool x)]) ?_ ?_
            ·rintro _ rfl
             refine sq_end (l' := [(1, .pointer (some ⟨g6, 0, none⟩)), (7, .pointer none), (72, .bool z372)]) (.cons rfl (.cons rfl (.cons rfl (.nil _)))) (fun w281 hw280 => ?_)
             have htr382 := Tr.of_below hw280 hb.bd
             replace hB10 := hB10.mv (htr382.mv (i := 3) rfl)
             replace hb := hb.trans htr382
             refine ke_cond (t := z372) rfl (fun hc383 => ?_) (fun hc383 => ?_)
             ·replace hS := ite_true' hS hc383
              refine ke_seq ?_
              refine ke_region ?_
              refine sr_ev (v := .bool false) (ev_assign rfl) (by decide) ?_
              refine sr_end (l' := [(0, .bool false)]) (.cons rfl (.nil _)) ?_
              cases hS
              exact ke_ret1 Tryd.func9 rfl rfl ⟨_, rfl, rfl, (hb.below (flat1_le _))⟩
             ·replace hS := ite_false' hS hc383
              refine ke_skip ?_
              refine ke_seq ?_
              refine ke_region ?_
              refine sr_ev (v := .pointer none) (ev_move rfl) (by decide) ?_
              cases hS
            ·intro K371
             clear hS
             rcases Bool.eq_false_or_eq_true z360 with hg370 | hg370
             ·have hS := ite_true' hz374 hg370
              refine sq_pass (e := 69) rfl rfl (by rw [hg370]; rfl) (by decide) ?_
              refine sq_pass (e := 69) rfl rfl (by rw [hg370]; rfl) (by decide) ?_
              refine sq_ev (v := .bool true) (fun w1 hw1 => ev_pick_t rfl hg370 rfl) (by decide) ?_
              exact sq_weaken (l' := [(1, .pointer (some ⟨g6, 0, none⟩)), (7, .pointer none), (72, .bool true)]) (.cons rfl (.cons rfl (.cons rfl (.nil _)))) (K371 true (Option.some.inj hS).symm)
             ·have hS := ite_false' hz374 hg370
              obtain ⟨y377, hy378, hS⟩ := bind_some' hS
              refine sq_callg (b := false) (e := 69) rfl rfl hg370 (v := .int .i64 y377) (vs := [str ([97, 98, 99, 100, 101, 102, 103, 104]), str ([97, 110, 110])]) rfl Tryd.call18 rfl (fun w1 hw1 => (secret_Quality_ok _ ((hg.fr hz hb).below hw1) hy378)) (by decide) ?_
              refine sq_evg (b := false) (e := 69) rfl rfl hg370 (v := .bool (y377 != 11)) (fun w1 hw1 => ev_ne rfl rfl) (by decide) ?_
              refine sq_ev (v := .bool (y377 != 11)) (fun w1 hw1 => ev_pick_f rfl hg370 rfl) (by decide) ?_
              exact sq_weaken (l' := [(1, .pointer (some ⟨g6, 0, none⟩)), (7, .pointer none), (72, .bool (y377 != 11))]) (.cons rfl (.cons rfl (.cons rfl (.nil _)))) (K371 (y377 != 11) (Option.some.inj hS).symm)
           ·intro K359
            clear hS
            rcases Bool.eq_false_or_eq_true z348 with hg358 | hg358
            ·have hS := ite_true' hz362 hg358
             refine sq_pass (e := 65) rfl rfl (by rw [hg358]; rfl) (by decide) ?_
             refine sq_pass (e := 65) rfl rfl (by rw [hg358]; rfl) (by decide) ?_
             refine sq_ev (v := .bool true) (fun w1 hw1 => ev_pick_t rfl hg358 rfl) (by decide) ?_
             exact sq_weaken (l' := [(1, .pointer (some ⟨g6, 0, none⟩)), (7, .pointer none), (68, .bool true)]) (.cons rfl (.cons rfl (.cons rfl (.nil _)))) (K359 true (Option.some.inj hS).symm)
            ·have hS := ite_false' hz362 hg358
             obtain ⟨y365, hy366, hS⟩ := bind_some' hS
             refine sq_callg (b := false) (e := 65) rfl rfl hg358 (v := .int .i64 y365) (vs := [str ([120, 65, 110, 110, 45, 49, 50, 51, 52]), str ([97, 110, 110])]) rfl Tryd.call18 rfl (fun w1 hw1 => (secret_Quality_ok _ ((hg.fr hz hb).below hw1) hy366)) (by decide) ?_
             refine sq_evg (b := false) (e := 65) rfl rfl hg358 (v := .bool (y365 != 11)) (fun w1 hw1 => ev_ne rfl rfl) (by decide) ?_
             refine sq_ev (v := .bool (y365 != 11)) (fun w1 hw1 => ev_pick_f rfl hg358 rfl) (by decide) ?_
             exact sq_weaken (l' := [(1, .pointer (some ⟨g6, 0, none⟩)), (7, .pointer none), (68, .bool (y365 != 11))]) (.cons rfl (.cons rfl (.cons rfl (.nil _)))) (K359 (y365 != 11) (Option.some.inj hS).symm)
          ·intro K347
           clear hS
           rcases Bool.eq_false_or_eq_true z336 with hg346 | hg346
           ·have hS := ite_true' hz350 hg346
            refine sq_pass (e := 61) rfl rfl (by rw [hg346]; rfl) (by decide) ?_
            refine sq_pass (e := 61) rfl rfl (by rw [hg346]; rfl) (by decide) ?_
            refine sq_ev (v := .bool true) (fun w1 hw1 => ev_pick_t rfl hg346 rfl) (by decide) ?_
            exact sq_weaken (l' := [(1, .pointer (some ⟨g6, 0, none⟩)), (7, .pointer none), (64, .bool true)]) (.cons rfl (.cons rfl (.cons rfl (.nil _)))) (K347 true (Option.some.inj hS).symm)
           ·have hS := ite_false' hz350 hg346
            obtain ⟨y353, hy354, hS⟩ := bind_some' hS
            refine sq_callg (b := false) (e := 61) rfl rfl hg346 (v := .int .i64 y353) (vs := [str ([65, 98, 99, 100, 101, 102, 103, 49]), str ([97, 110, 110])]) rfl Tryd.call18 rfl (fun w1 hw1 => (secret_Quality_ok _ ((hg.fr hz hb).below hw1) hy354)) (by decide) ?_
            refine sq_evg (b := false) (e := 61) rfl rfl hg346 (v := .bool (y353 != 0)) (fun w1 hw1 => ev_ne rfl rfl) (by decide) ?_
            refine sq_ev (v := .bool (y353 != 0)) (fun w1 hw1 => ev_pick_f rfl hg346 rfl) (by decide) ?_
            exact sq_weaken (l' := [(1, .pointer (some ⟨g6, 0, none⟩)), (7, .pointer none), (64, .bool (y353 != 0))]) (.cons rfl (.cons rfl (.cons rfl (.nil _)))) (K347 (y353 != 0) (Option.some.inj hS).symm)
         ·intro K335
          clear hS
          rcases Bool.eq_false_or_eq_true z324 with hg334 | hg334
          ·have hS := ite_true' hz338 hg334
           refine sq_pass (e := 56) rfl rfl (by rw [hg334]; rfl) (by decide) ?_
           refine sq_pass (e := 56) rfl rfl (by rw [hg334]; rfl) (by decide) ?_
           refine sq_pass (e := 56) rfl rfl (by rw [hg334]; rfl) (by decide) ?_
           refine sq_ev (v := .bool true) (fun w1 hw1 => ev_pick_t rfl hg334 rfl) (by decide) ?_
           exact sq_weaken (l' := [(1, .pointer (some ⟨g6, 0, none⟩)), (7, .pointer none), (60, .bool true)]) (.cons rfl (.cons rfl (.cons rfl (.nil _)))) (K335 true (Option.some.inj hS).symm)
          ·have hS := ite_false' hz338 hg334
           refine sq_evg (b := false) (e := 56) rfl rfl hg334 (v := .agg #[str y1.1.Salt, .int .i64 y1.1.Rounds, str y1.1.Hash]) (fun w1 hw1 => ev_loads (cs := [str y1.1.Salt, .int .i64 y1.1.Rounds, str y1.1.Hash]) Tryd.isAgg25 Tryd.sizeOf25 rfl ((hB10.mv (Mv.of_below (i := 3) (ρ := ρ48) hw1)).cells (vs := [str y1.1.Salt, .int .i64 y1.1.Rounds, str y1.1.Hash]) rfl)) (by decide) ?_
           obtain ⟨y341, hy342, hS⟩ := bind_some' hS
           refine sq_callg (b := false) (e := 56) rfl rfl hg334 (v := .bool y341) (vs := [.agg #[str y1.1.Salt, .int .i64 y1.1.Rounds, str y1.1.Hash]]) rfl Tryd.call12 rfl (fun w1 hw1 => (secret_Valid_ok _ ((hg.fr hz hb).below hw1) hy342)) (by decide) ?_
           refine sq_evg (b := false) (e := 56) rfl rfl hg334 (v := .bool (!y341)) (fun w1 hw1 => ev_not rfl) (by decide) ?_
           refine sq_ev (v := .bool (!y341)) (fun w1 hw1 => ev_pick_f rfl hg334 rfl) (by decide) ?_
           exact sq_weaken (l' := [(1, .pointer (some ⟨g6, 0, none⟩)), (7, .pointer none), (60, .bool (!y341))]) (.cons rfl (.cons rfl (.cons rfl (.nil _)))) (K335 (!y341) (Option.some.inj hS).symm)
        ·intro K323
         clear hS
         rcases Bool.eq_false_or_eq_true z312 with hg322 | hg322
         ·have hS := ite_true' hz326 hg322
          refine sq_pass (e := 51) rfl rfl (by rw [hg322]; rfl) (by decide) ?_
          refine sq_pass (e := 51) rfl rfl (by rw [hg322]; rfl) (by decide) ?_
          refine sq_pass (e := 51) rfl rfl (by rw [hg322]; rfl) (by decide) ?_
          refine sq_ev (v := .bool true) (fun w1 hw1 => ev_pick_t rfl hg322 rfl) (by decide) ?_
          exact sq_weaken (l' := [(1, .pointer (some ⟨g6, 0, none⟩)), (7, .pointer none), (55, .bool true)]) (.cons rfl (.cons rfl (.cons rfl (.nil _)))) (K323 true (Option.some.inj hS).symm)
         ·have hS := ite_false' hz326 hg322
          refine sq_evg (b := false) (e := 51) rfl rfl hg322 (v := .agg #[str y1.1.Salt, .int .i64 y1.1.Rounds, str y1.1.Hash]) (fun w1 hw1 => ev_loads (cs := [str y1.1.Salt, .int .i64 y1.1.Rounds, str y1.1.Hash]) Tryd.isAgg25 Tryd.sizeOf25 rfl ((hB10.mv (Mv.of_below (i := 3) (ρ := ρ48) hw1)).cells (vs := [str y1.1.Salt, .int .i64 y1.1.Rounds, str y1.1.Hash]) rfl)) (by decide) ?_
          obtain ⟨y329, hy330, hS⟩ := bind_some' hS
          refine sq_callg (b := false) (e := 51) rfl rfl hg322 (v := .bool y329) (vs := [.agg #[str y1.1.Salt, .int .i64 y1.1.Rounds, str y1.1.Hash], str ([65, 98, 99, 100, 101, 102, 103, 49])]) rfl Tryd.call14 rfl (fun w1 hw1 => (secret_Check_ok _ ((hg.fr hz hb).below hw1) hy330)) (by decide) ?_
          refine sq_evg (b := false) (e := 51) rfl rfl hg322 (v := .bool (!y329)) (fun w1 hw1 => ev_not rfl) (by decide) ?_
          refine sq_ev (v := .bool (!y329)) (fun w1 hw1 => ev_pick_f rfl hg322 rfl) (by decide) ?_
          exact sq_weaken (l' := [(1, .pointer (some ⟨g6, 0, none⟩)), (7, .pointer none), (55, .bool (!y329))]) (.cons rfl (.cons rfl (.cons rfl (.nil _)))) (K323 (!y329) (Option.some.inj hS).symm)
       ·intro K311
        clear hS
        rcases Bool.eq_false_or_eq_true (((((y1.2 != 0) || (y13.2 != 4)) || (y25.2 != 2)) || (y41.2 != 0)) || true) with hg310 | hg310
        ·have hS := ite_true' hz314 hg310
         refine sq_pass (e := 45) rfl rfl (by rw [hg310]; rfl) (by decide) ?_
         refine sq_pass (e := 45) rfl rfl (by rw [hg310]; rfl) (by decide) ?_
         refine sq_pass (e := 45) rfl rfl (by rw [hg310]; rfl) (by decide) ?_
         refine sq_pass (e := 45) rfl rfl (by rw [hg310]; rfl) (by decide) ?_
         refine sq_ev (v := .bool true) (fun w1 hw1 => ev_pick_t rfl hg310 rfl) (by decide) ?_
         exact sq_weaken (l' := [(1, .pointer (some ⟨g6, 0, none⟩)), (7, .pointer none), (50, .bool true)]) (.cons rfl (.cons rfl (.cons rfl (.nil _)))) (K311 true (Option.some.inj hS).symm)
        ·have hS := ite_false' hz314 hg310
         refine sq_evg (b := false) (e := 45) rfl rfl hg310 (v := .pointer (some ⟨g6, 2, none⟩)) (fun w1 hw1 => ev_fieldAddr (i := 2) Tryd.underlying25 rfl Tryd.info9 rfl rfl) (by decide) ?_
         refine sq_evg (b := false) (e := 45) rfl rfl hg310 (v := str y1.1.Hash) (fun w1 hw1 => ev_load Tryd.isAgg9 rfl ((hB10.mv (Mv.of_below (i := 3) (ρ := ρ48) hw1)).cell rfl)) (by decide) ?_
         obtain ⟨y317, hy318, hS⟩ := bind_some' hS
         refine sq_callg (b := false) (e := 45) rfl rfl hg310 (v := str y317) (vs := [str ([115, 97, 108, 116]), str ([65, 98, 99, 100, 101, 102, 103, 49]), .int .i64 2]) rfl Tryd.call33 rfl (fun w1 hw1 => (digest_Iterate_ok _ ((hg.fr hz hb).below hw1) hy318)) (by decide) ?_
         refine sq_evg (b := false) (e := 45) rfl rfl hg310 (v := .bool (!(y1.1.Hash == y317))) (fun w1 hw1 => ev_sne rfl rfl) (by decide) ?_
         refine sq_ev (v := .bool (!(y1.1.Hash == y317))) (fun w1 hw1 => ev_pick_f rfl hg310 rfl) (by decide) ?_
         exact sq_weaken (l' := [(1, .pointer (some ⟨g6, 0, none⟩)), (7, .pointer none), (50, .bool (!(y1.1.Hash == y317)))]) (.cons rfl (.cons rfl (.cons rfl (.nil _)))) (K311 (!(y1.1.Hash == y317)) (Option.some.inj hS).symm)
      ·intro K304
       rcases Bool.eq_false_or_eq_true ((((y1.2 != 0) || (y13.2 != 4)) || (y25.2 != 2)) || (y41.2 != 0)) with hg303 | hg303
       ·refine sq_pass (e := 41) rfl rfl (by rw [hg303]; rfl) (by decide) ?_
        refine sq_pass (e := 41) rfl rfl (by rw [hg303]; rfl) (by decide) ?_
        refine sq_ev (v := .bool true) (fun w1 hw1 => ev_pick_t rfl hg303 rfl) (by decide) ?_
        exact sq_weaken (l' := [(1, .pointer (some ⟨g6, 0, none⟩)), (7, .pointer none), (44, .bool true)]) (.cons rfl (.cons rfl (.cons rfl (.nil _)))) (K304 true (by rw [hg303]; rfl))
       ·refine sq_evg (b := false) (e := 41) rfl rfl hg303 (v := .pointer none) (fun w1 hw1 => ev_move rfl) (by decide) ?_
        refine sq_evg (b := false) (e := 41) rfl rfl hg303 (v := .bool true) (fun w1 hw1 => ev_peqT_nil Tryd.underlying39 rfl rfl) (by decide) ?_
        refine sq_ev (v := .bool true) (fun w1 hw1 => ev_pick_f rfl hg303 rfl) (by decide) ?_
        exact sq_weaken (l' := [(1, .pointer (some ⟨g6, 0, none⟩)), (7, .pointer none), (44, .bool true)]) (.cons rfl (.cons rfl (.cons rfl (.nil _)))) (K304 true (by rw [hg303]; rfl))
     ·intro K297
      rcases Bool.eq_false_or_eq_true (((y1.2 != 0) || (y13.2 != 4)) || (y25.2 != 2)) with hg296 | hg296
      ·refine sq_pass (e := 37) rfl rfl (by rw [hg296]; rfl) (by decide) ?_
       refine sq_pass (e := 37) rfl rfl (by rw [hg296]; rfl) (by decide) ?_
       refine sq_ev (v := .bool true) (fun w1 hw1 => ev_pick_t rfl hg296 rfl) (by decide) ?_
       exact sq_weaken (l' := [(1, .pointer (some ⟨g6, 0, none⟩)), (7, .pointer none), (40, .bool true)]) (.cons rfl (.cons rfl (.cons rfl (.nil _)))) (K297 true (by rw [hg296]; rfl))
      ·refine sq_evg (b := false) (e := 37) rfl rfl hg296 (v := .int .i64 y41.2) (fun w1 hw1 => ev_move rfl) (by decide) ?_
       refine sq_evg (b := false) (e := 37) rfl rfl hg296 (v := .bool (y41.2 != 0)) (fun w1 hw1 => ev_ne rfl rfl) (by decide) ?_
       refine sq_ev (v := .bool (y41.2 != 0)) (fun w1 hw1 => ev_pick_f rfl hg296 rfl) (by decide) ?_
       exact sq_weaken (l' := [(1, .pointer (some ⟨g6, 0, none⟩)), (7, .pointer none), (40, .bool (y41.2 != 0))]) (.cons rfl (.cons rfl (.cons rfl (.nil _)))) (K297 (y41.2 != 0) (by rw [hg296]; rfl))
    ·intro K290
     rcases Bool.eq_false_or_eq_true ((y1.2 != 0) || (y13.2 != 4)) with hg289 | hg289
     ·refine sq_pass (e := 33) rfl rfl (by rw [hg289]; rfl) (by decide) ?_
      refine sq_pass (e := 33) rfl rfl (by rw [hg289]; rfl) (by decide) ?_
      refine sq_ev (v := .bool true) (fun w1 hw1 => ev_pick_t rfl hg289 rfl) (by decide) ?_
      exact sq_weaken (l' := [(1, .pointer (some ⟨g6, 0, none⟩)), (7, .pointer none), (8, .int .i64 y41.2), (36, .bool true)]) (.cons rfl (.cons rfl (.cons rfl (.cons rfl (.nil _))))) (K290 true (by rw [hg289]; rfl))
     ·refine sq_evg (b := false) (e := 33) rfl rfl hg289 (v := .int .i64 y25.2) (fun w1 hw1 => ev_move rfl) (by decide) ?_
      refine sq_evg (b := false) (e := 33) rfl rfl hg289 (v := .bool (y25.2 != 2)) (fun w1 hw1 => ev_ne rfl rfl) (by decide) ?_
      refine sq_ev (v := .bool (y25.2 != 2)) (fun w1 hw1 => ev_pick_f rfl hg289 rfl) (by decide) ?_
      exact sq_weaken (l' := [(1, .pointer (some ⟨g6, 0, none⟩)), (7, .pointer none), (8, .int .i64 y41.2), (36, .bool (y25.2 != 2))]) (.cons rfl (.cons rfl (.cons rfl (.cons rfl (.nil _))))) (K290 (y25.2 != 2) (by rw [hg289]; rfl))
   ·intro K283
    rcases Bool.eq_false_or_eq_true (y1.2 != 0) with hg282 | hg282
    ·refine sq_pass (e := 29) rfl rfl (by rw [hg282]; rfl) (by decide) ?_
     refine sq_pass (e := 29) rfl rfl (by rw [hg282]; rfl) (by decide) ?_
     refine sq_ev (v := .bool true) (fun w1 hw1 => ev_pick_t rfl hg282 rfl) (by decide) ?_
     exact sq_weaken (l' := [(1, .pointer (some ⟨g6, 0, none⟩)), (6, .int .i64 y25.2), (7, .pointer none), (8, .int .i64 y41.2), (32, .bool true)]) (.cons rfl (.cons rfl (.cons rfl (.cons rfl (.cons rfl (.nil _)))))) (K283 true (by rw [hg282]; rfl))
    ·refine sq_evg (b := false) (e := 29) rfl rfl hg282 (v := .int .i64 y13.2) (fun w1 hw1 => ev_move rfl) (by decide) ?_
     refine sq_evg (b := false) (e := 29) rfl rfl hg282 (v := .bool (y13.2 != 4)) (fun w1 hw1 => ev_ne rfl rfl) (by decide) ?_
     refine sq_ev (v := .bool (y13.2 != 4)) (fun w1 hw1 => ev_pick_f rfl hg282 rfl) (by decide) ?_
     exact sq_weaken (l' := [(1, .pointer (some ⟨g6, 0, none⟩)), (6, .int .i64 y25.2), (7, .pointer none), (8, .int .i64 y41.2), (32, .bool (y13.2 != 4))]) (.cons rfl (.cons rfl (.cons rfl (.cons rfl (.cons rfl (.nil _)))))) (K283 (y13.2 != 4) (by rw [hg282]; rfl))
  ·replace hS := optC_some hS ho50
   obtain ⟨g51, rfl, ⟨v52, lp54, hB56, h53, hR55⟩⟩ := hP47.some_ ho50
   replace hB56 : Blk ρ48 200 w43 g51 (.cells #[.int .i64 z49.most, .int .i64 z49.window, .int .i64 z49.lock, v52] 67 (0, 0)) := hB56
   replace h53 : MapT str ptrC false ρ48 201 w43 v52 lp54 := h53
   replace hR55 : Recs secret_record.O 2 ρ48 202 w43 lp54 z49.users := hR55
   refine sr_ev (v := .tuple #[.pointer (some ⟨g51, 0, none⟩), .int .i64 y41.2]) (ev_move rfl) (by decide) ?_
   refine sr_ev (v := .pointer (some ⟨g51, 0, none⟩)) (ev_extract rfl rfl) (by decide) ?_
   refine sr_ev (v := .int .i64 y41.2) (ev_extract rfl rfl) (by decide) ?_
   refine sr_ev (v := .pointer (some ⟨g51, 0, none⟩)) (ev_assign rfl) (by decide) ?_
   refine sr_ev (v := .int .i64 y41.2) (ev_assign rfl) (by decide) ?_
   refine sr_end (l' := [(1, .pointer (some ⟨g6, 0, none⟩)), (2, .int .i64 y1.2), (4, .int .i64 y13.2), (6, .int .i64 y25.2), (7, .pointer (some ⟨g51, 0, none⟩)), (8, .int .i64 y41.2)]) (.cons rfl (.cons rfl (.cons rfl (.cons rfl (.cons rfl (.cons rfl (.nil _))))))) ?_
   refine ke_seq ?_
   refine ke_seq ?_
   refine ke_region_q Tryd.mixed (by kernel_rfl) ?_
   refine sq_ev (v := .int .i64 y1.2) (fun w1 hw1 => ev_move rfl) (by decide) ?_
   refine sq_ev (v := .bool (y1.2 != 0)) (fun w1 hw1 => ev_ne rfl rfl) (by decide) ?_
   refine sq_ev (v := .bool (y1.2 != 0)) (fun w1 hw1 => ev_move rfl) (by decide) ?_
   refine sq_join (m := 3) (C := fun (x : Bool) => x = ((y1.2 != 0) || (y13.2 != 4))) (l' := fun x => [(1, .pointer (some ⟨g6, 0, none⟩)), (6, .int .i64 y25.2), (7, .pointer (some ⟨g51, 0, none⟩)), (8, .int .i64 y41.2), (32, .bool x)]) ?_ ?_
   ·rintro _ rfl
    refine sq_ev (v := .bool ((y1.2 != 0) || (y13.2 != 4))) (fun w1 hw1 => ev_move rfl) (by decide) ?_
    refine sq_join (m := 3) (C := fun (x : Bool) => x = (((y1.2 != 0) || (y13.2 != 4)) || (y25.2 != 2))) (l' := fun x => [(1, .pointer (some ⟨g6, 0, none⟩)), (7, .pointer (some ⟨g51, 0, none⟩)), (8, .int .i64 y41.2), (36, .bool x)]) ?_ ?_
    ·rintro _ rfl
     refine sq_ev (v := .bool (((y1.2 != 0) || (y13.2 != 4)) || (y25.2 != 2))) (fun w1 hw1 => ev_move rfl) (by decide) ?_
     refine sq_join (m := 3) (C := fun (x : Bool) => x = ((((y1.2 != 0) || (y13.2 != 4)) || (y25.2 != 2)) || (y41.2 != 0))) (l' := fun x => [(1, .pointer (some ⟨g6, 0, none⟩)), (7, .pointer (some ⟨g51, 0, none⟩)), (40, .bool x)]) ?_ ?_
     ·rintro _ rfl
      refine sq_ev (v := .bool ((((y1.2 != 0) || (y13.2 != 4)) || (y25.2 != 2)) || (y41.2 != 0))) (fun w1 hw1 => ev_move rfl) (by decide) ?_
      refine sq_join (m := 3) (C := fun (x : Bool) => x = (((((y1.2 != 0) || (y13.2 != 4)) || (y25.2 != 2)) || (y41.2 != 0)) || false)) (l' := fun x => [(1, .pointer (some ⟨g6, 0, none⟩)), (7, .pointer (some ⟨g51, 0, none⟩)), (44, .bool x)]) ?_ ?_
      ·rintro _ rfl
       refine sq_ev (v := .bool (((((y1.2 != 0) || (y13.2 != 4)) || (y25.2 != 2)) || (y41.2 != 0)) || false)) (fun w1 hw1 => ev_move rfl) (by decide) ?_
       obtain ⟨z89, hz91, hS⟩ := bind_some' hS
       refine sq_join (m := 5) (C := fun (x : Bool) => z89 = x) (l' := fun x => [(1, .pointer (some ⟨g6, 0, none⟩)), (7, .pointer (some ⟨g51, 0, none⟩)), (50, .bool x)]) ?_ ?_
       ·rintro _ rfl
        refine sq_ev (v := .bool z89) (fun w1 hw1 => ev_move rfl) (by decide) ?_
        obtain ⟨z101, hz103, hS⟩ := bind_some' hS
        refine sq_join (m := 4) (C := fun (x : Bool) => z101 = x) (l' := fun x => [(1, .pointer (some ⟨g6, 0, none⟩)), (7, .pointer (some ⟨g51, 0, none⟩)), (55, .bool x)]) ?_ ?_
        ·rintro _ rfl
         refine sq_ev (v := .bool z101) (fun w1 hw1 => ev_move rfl) (by decide) ?_
         obtain ⟨z113, hz115, hS⟩ := bind_some' hS
         refine sq_join (m := 4) (C := fun (x : Bool) => z113 = x) (l' := fun x => [(1, .pointer (some ⟨g6, 0, none⟩)), (7, .pointer (some ⟨g51, 0, none⟩)), (60, .bool x)]) ?_ ?_
         ·rintro _ rfl
          refine sq_ev (v := .bool z113) (fun w1 hw1 => ev_move rfl) (by decide) ?_
          obtain ⟨z125, hz127, hS⟩ := bind_some' hS
          refine sq_join (m := 3) (C := fun (x : Bool) => z125 = x) (l' := fun x => [(1, .pointer (some ⟨g6, 0, none⟩)), (7, .pointer (some ⟨g51, 0, none⟩)), (64, .bool x)]) ?_ ?_
          ·rintro _ rfl
           refine sq_ev (v := .bool z125) (fun w1 hw1 => ev_move rfl) (by decide) ?_
           obtain ⟨z137, hz139, hS⟩ := bind_some' hS
           refine sq_join (m := 3) (C := fun (x : Bool) => z137 = x) (l' := fun x => [(1, .pointer (some ⟨g6, 0, none⟩)), (7, .pointer (some ⟨g51, 0, none⟩)), (68, .bool x)]) ?_ ?_
           ·rintro _ rfl
            refine sq_ev (v := .bool z137) (fun w1 hw1 => ev_move rfl) (by decide) ?_
            obtain ⟨z149, hz151, hS⟩ := bind_some' hS
            refine sq_join (m := 3) (C := fun (x : Bool) => z149 = x) (l' := fun x => [(1, .pointer (some ⟨g6, 0, none⟩)), (7, .pointer (some ⟨g51, 0, none⟩)), (72, .bool x)]) ?_ ?_
            ·rintro _ rfl
             refine sq_end (l' := [(1, .pointer (some ⟨g6, 0, none⟩)), (7, .pointer (some ⟨g51, 0, none⟩)), (72, .bool z149)]) (.cons rfl (.cons rfl (.cons rfl (.nil _)))) (fun w58 hw57 => ?_)
             have htr159 := Tr.of_below hw57 hb.bd
             replace hB56 := hB56.mv (htr159.mv (i := 200) rfl)
             replace h53 := h53.mv (htr159.mv (i := 201) rfl)
             replace hR55 := Recs.mv hR55 secret_record.objK (htr159.mv (i := 202) rfl) (by decide)
             replace hB10 := hB10.mv (htr159.mv (i := 3) rfl)
             replace hb := hb.trans htr159
             refine ke_cond (t := z149) rfl (fun hc160 => ?_) (fun hc160 => ?_)
             ·replace hS := ite_true' hS hc160
              refine ke_seq ?_
              refine ke_region ?_
              refine sr_ev (v := .bool false) (ev_assign rfl) (by decide) ?_
              refine sr_end (l' := [(0, .bool false)]) (.cons rfl (.nil _)) ?_
              cases hS
              exact ke_ret1 Tryd.func9 rfl rfl ⟨_, rfl, rfl, (hb.below (flat1_le _))⟩
             ·replace hS := ite_false' hS hc160
              refine ke_skip ?_
              refine ke_seq ?_
              refine ke_region ?_
              refine sr_ev (v := .pointer (some ⟨g51, 0, none⟩)) (ev_move rfl) (by decide) ?_
              obtain ⟨y161, hy162, hS⟩ := bind_some' hS
              refine sr_call (vs := [.pointer (some ⟨g51, 0, none⟩), str ([97, 110, 110]), .int .i64 5]) rfl Tryd.call24 rfl (secret_Locks_Fail_ok _ (hg.fr hz hb) (ρA := ρ48) hb.bd (hz.fr hg hb) (o := 200) (by decide) (⟨_, _, hB56, h53, hR55⟩ : secret_Locks.O (fun p => 200 + p) ρ48 w58 g51 z49) hy162) (by decide) ?_
              rintro _ w163 ⟨ρ171, rfl, ⟨v166, lp168, hB170, h167, hR169⟩, htr165⟩
              replace hB10 := hB10.mv (htr165.mv (i := 3) rfl)
              replace hb := hb.trans htr165
              replace hB170 : Blk ρ171 200 w163 g51 (.cells #[.int .i64 y161.most, .int .i64 y161.window, .int .i64 y161.lock, v166] 67 (0, 0)) := hB170
              replace h167 : MapT str ptrC false ρ171 201 w163 v166 lp168 := h167
              replace hR169 : Recs secret_record.O 2 ρ171 202 w163 lp168 y161.users := hR169
              refine sr_end (l' := [(1, .pointer (some ⟨g6, 0, none⟩)), (7, .pointer (some ⟨g51, 0, none⟩))]) (.cons rfl (.cons rfl (.nil _))) ?_
              refine ke_seq ?_
              refine ke_region ?_
              refine sr_ev (v := .pointer (some ⟨g51, 0, none⟩)) (ev_move rfl) (by decide) ?_
              obtain ⟨y172, hy173, hS⟩ := bind_some' hS
              refine sr_call (vs := [.pointer (some ⟨g51, 0, none⟩), str ([97, 110, 110]), .int .i64 5]) rfl Tryd.call28 rfl (secret_Locks_Locked_ok _ (hg.fr hz hb) (ρA := ρ171) hb.bd (hz.fr hg hb) (τ0 := (fun p => 200 + p)) (fun p => Nat.le_add_right_of_le (by decide)) (⟨_, _, hB170, h167, hR169⟩ : secret_Locks.O (fun p => 200 + p) ρ171 w163 g51 y161) hy173) (by decide) ?_
              rintro _ w174 ⟨rfl, hbw175⟩
              have htr176 := Tr.of_below hbw175 hb.bd
              replace hB170 := hB170.mv (htr176.mv (i := 200) rfl)
              replace h167 := h167.mv (htr176.mv (i := 201) rfl)
              replace hR169 := Recs.mv hR169 secret_record.objK (htr176.mv (i := 202) rfl) (by decide)
              replace hB10 := hB10.mv (htr176.mv (i := 3) rfl)
              replace hb := hb.trans htr176
              refine sr_ev (v := .bool y172) (ev_assign rfl) (by decide) ?_
              refine sr_end (l' := [(1, .pointer (some ⟨g6, 0, none⟩)), (7, .pointer (some ⟨g51, 0, none⟩)), (9, .bool y172)]) (.cons rfl (.cons rfl (.cons rfl (.nil _)))) ?_
              refine ke_seq ?_
              refine ke_region ?_
              refine sr_ev (v := .pointer (some ⟨g51, 0, none⟩)) (ev_move rfl) (by decide) ?_
              obtain ⟨y177, hy178, hS⟩ := bind_some' hS
              refine sr_call (vs := [.pointer (some ⟨g51, 0, none⟩), str ([97, 110, 110]), .int .i64 9]) rfl Tryd.call24 rfl (secret_Locks_Fail_ok _ (hg.fr hz hb) (ρA := ρ171) hb.bd (hz.fr hg hb) (o := 200) (by decide) (⟨_, _, hB170, h167, hR169⟩ : secret_Locks.O (fun p => 200 + p) ρ171 w174 g51 y161) hy178) (by decide) ?_
              rintro _ w179 ⟨ρ187, rfl, ⟨v182, lp184, hB186, h183, hR185⟩, htr181⟩
              replace hB10 := hB10.mv (htr181.mv (i := 3) rfl)
              replace hb := hb.trans htr181
              replace hB186 : Blk ρ187 200 w179 g51 (.cells #[.int .i64 y177.most, .int .i64 y177.window, .int .i64 y177.lock, v182] 67 (0, 0)) := hB186
              replace h183 : MapT str ptrC false ρ187 201 w179 v182 lp184 := h183
              replace hR185 : Recs secret_record.O 2 ρ187 202 w179 lp184 y177.users := hR185
              refine sr_end (l' := [(1, .pointer (some ⟨g6, 0, none⟩)), (7, .pointer (some ⟨g51, 0, none⟩)), (9, .bool y172)]) (.cons rfl (.cons rfl (.cons rfl (.nil _)))) ?_
              refine ke_seq ?_
              refine ke_region ?_
              refine sr_ev (v := .pointer (some ⟨g51, 0, none⟩)) (ev_move rfl) (by decide) ?_
              obtain ⟨y188, hy189, hS⟩ := bind_some' hS
              refine sr_call (vs := [.pointer (some ⟨g51, 0, none⟩), str ([98, 111, 98]), .int .i64 5]) rfl Tryd.call24 rfl (secret_Locks_Fail_ok _ (hg.fr hz hb) (ρA := ρ187) hb.bd (hz.fr hg hb) (o := 200) (by decide) (⟨_, _, hB186, h183, hR185⟩ : secret_Locks.O (fun p => 200 + p) ρ187 w179 g51 y177) hy189) (by decide) ?_
              rintro _ w190 ⟨ρ198, rfl, ⟨v193, lp195, hB197, h194, hR196⟩, htr192⟩
              replace hB10 := hB10.mv (htr192.mv (i := 3) rfl)
              replace hb := hb.trans htr192
              replace hB197 : Blk ρ198 200 w190 g51 (.cells #[.int .i64 y188.most, .int .i64 y188.window, .int .i64 y188.lock, v193] 67 (0, 0)) := hB197
              replace h194 : MapT str ptrC false ρ198 201 w190 v193 lp195 := h194
              replace hR196 : Recs secret_record.O 2 ρ198 202 w190 lp195 y188.users := hR196
              refine sr_end (l' := [(1, .pointer (some ⟨g6, 0, none⟩)), (7, .pointer (some ⟨g51, 0, none⟩)), (9, .bool y172)]) (.cons rfl (.cons rfl (.cons rfl (.nil _)))) ?_
              refine ke_seq ?_
              refine ke_region ?_
              refine sr_ev (v := .pointer (some ⟨g51, 0, none⟩)) (ev_move rfl) (by decide) ?_
              obtain ⟨y199, hy200, hS⟩ := bind_some' hS
              refine sr_call (vs := [.pointer (some ⟨g51, 0, none⟩), str ([98, 111, 98]), .int .i64 15]) rfl Tryd.call24 rfl (secret_Locks_Fail_ok _ (hg.fr hz hb) (ρA := ρ198) hb.bd (hz.fr hg hb) (o := 200) (by decide) (⟨_, _, hB197, h194, hR196⟩ : secret_Locks.O (fun p => 200 + p) ρ198 w190 g51 y188) hy200) (by decide) ?_
              rintro _ w201 ⟨ρ209, rfl, ⟨v204, lp206, hB208, h205, hR207⟩, htr203⟩
              replace hB10 := hB10.mv (htr203.mv (i := 3) rfl)
              replace hb := hb.trans htr203
              replace hB208 : Blk ρ209 200 w201 g51 (.cells #[.int .i64 y199.most, .int .i64 y199.window, .int .i64 y199.lock, v204] 67 (0, 0)) := hB208
              replace h205 : MapT str ptrC false ρ209 201 w201 v204 lp206 := h205
              replace hR207 : Recs secret_record.O 2 ρ209 202 w201 lp206 y199.users := hR207
              refine sr_end (l' := [(1, .pointer (some ⟨g6, 0, none⟩)), (7, .pointer (some ⟨g51, 0, none⟩)), (9, .bool y172)]) (.cons rfl (.cons rfl (.cons rfl (.nil _)))) ?_
              refine ke_seq ?_
              refine ke_region ?_
              refine sr_ev (v := .pointer (some ⟨g51, 0, none⟩)) (ev_move rfl) (by decide) ?_
              obtain ⟨y210, hy211, hS⟩ := bind_some' hS
              refine sr_call (vs := [.pointer (some ⟨g51, 0, none⟩), str ([97, 110, 110]), .int .i64 9]) rfl Tryd.call30 rfl (secret_Locks_Failures_ok _ (hg.fr hz hb) (ρA := ρ209) hb.bd (hz.fr hg hb) (τ0 := (fun p => 200 + p)) (fun p => Nat.le_add_right_of_le (by decide)) (⟨_, _, hB208, h205, hR207⟩ : secret_Locks.O (fun p => 200 + p) ρ209 w201 g51 y199) hy211) (by decide) ?_
              rintro _ w212 ⟨rfl, hbw213⟩
              have htr214 := Tr.of_below hbw213 hb.bd
              replace hB208 := hB208.mv (htr214.mv (i := 200) rfl)
              replace h205 := h205.mv (htr214.mv (i := 201) rfl)
              replace hR207 := Recs.mv hR207 secret_record.objK (htr214.mv (i := 202) rfl) (by decide)
              replace hB10 := hB10.mv (htr214.mv (i := 3) rfl)
              replace hb := hb.trans htr214
              refine sr_ev (v := .int .i64 y210) (ev_assign rfl) (by decide) ?_
              refine sr_end (l' := [(1, .pointer (some ⟨g6, 0, none⟩)), (7, .pointer (some ⟨g51, 0, none⟩)), (9, .bool y172), (10, .int .i64 y210)]) (.cons rfl (.cons rfl (.cons rfl (.cons rfl (.nil _))))) ?_
              refine ke_seq ?_
              refine ke_region ?_
              refine sr_ev (v := .bool y172) (ev_move rfl) (by decide) ?_
              refine sr_ev (v := .bool (!y172)) (ev_not rfl) (by decide) ?_
              refine sr_ev (v := .bool (!y172)) (ev_move rfl) (by decide) ?_
              obtain ⟨z217, hz219, hS⟩ := bind_some' hS
              refine sr_join (m := 3) (C := fun (z : Bool) w1 => z217 = z ∧ ∃ ρ1, Tr ρ209 w212 (fun _ => false) ρ1 w1) (l' := fun z => [(1, .pointer (some ⟨g6, 0, none⟩)), (7, .pointer (some ⟨g51, 0, none⟩)), (10, .int .i64 y210), (90, .bool z)]) ?_ ?_
              ·rintro _ w220 ⟨rfl, ρ221, hj218⟩
               replace hB208 := hB208.mv (hj218.mv (i := 200) rfl)
               replace h205 := h205.mv (hj218.mv (i := 201) rfl)
               replace hR207 := Recs.mv hR207 secret_record.objK (hj218.mv (i := 202) rfl) (by decide)
               replace hB10 := hB10.mv (hj218.mv (i := 3) rfl)
               replace hb := hb.trans hj218
               refine sr_ev (v := .bool z217) (ev_move rfl) (by decide) ?_
               obtain ⟨z230, hz232, hS⟩ := bind_some' hS
               refine sr_join (m := 4) (C := fun (z : Bool) w1 => z230 = z ∧ ∃ ρ1, Tr ρ221 w220 (fun _ => false) ρ1 w1) (l' := fun z => [(1, .pointer (some ⟨g6, 0, none⟩)), (7, .pointer (some ⟨g51, 0, none⟩)), (10, .int .i64 y210), (95, .bool z)]) ?_ ?_
               ·rintro _ w233 ⟨rfl, ρ234, hj231⟩
                replace hB208 := hB208.mv (hj231.mv (i := 200) rfl)
                replace h205 := h205.mv (hj231.mv (i := 201) rfl)
                replace hR207 := Recs.mv hR207 secret_record.objK (hj231.mv (i := 202) rfl) (by decide)
                replace hB10 := hB10.mv (hj231.mv (i := 3) rfl)
                replace hb := hb.trans hj231
                refine sr_ev (v := .bool z230) (ev_move rfl) (by decide) ?_
                obtain ⟨z243, hz245, hS⟩ := bind_some' hS
                refine sr_join (m := 4) (C := fun (z : Bool) w1 => z243 = z ∧ ∃ ρ1, Tr ρ234 w233 (fun _ => false) ρ1 w1) (l' := fun z => [(1, .pointer (some ⟨g6, 0, none⟩)), (10, .int .i64 y210), (100, .bool z)]) ?_ ?_
                ·rintro _ w246 ⟨rfl, ρ247, hj244⟩
                 replace hB10 := hB10.mv (hj244.mv (i := 3) rfl)
                 replace hb := hb.trans hj244
                 refine sr_ev (v := .bool z243) (ev_move rfl) (by decide) ?_
                 refine sr_join (m := 3) (C := fun (x : Bool) w1 => x = (z243 && (y210 == 2)) ∧ w246 = w1) (l' := fun x => [(1, .pointer (some ⟨g6, 0, none⟩)), (104, .bool x)]) ?_ ?_
                 ·rintro _ _ ⟨rfl, rfl⟩
                  refine sr_ev (v := .bool (z243 && (y210 == 2))) (ev_move rfl) (by decide) ?_
                  obtain ⟨z264, hz266, hS⟩ := bind_some' hS
                  refine sr_join (m := 4) (C := fun (z : Bool) w1 => z264 = z ∧ ∃ ρ1, Tr ρ247 w246 (fun _ => false) ρ1 w1) (l' := fun z => [(109, .bool z)]) ?_ ?_
                  ·rintro _ w267 ⟨rfl, ρ268, hj265⟩
                   replace hb := hb.trans hj265
                   refine sr_ev (v := .bool z264) (ev_assign rfl) (by decide) ?_
                   refine sr_end (l' := [(0, .bool z264)]) (.cons rfl (.nil _)) ?_
                   cases hS
                   exact ke_ret1 Tryd.func9 rfl rfl ⟨_, rfl, rfl, (hb.below (flat1_le _))⟩
                  ·intro K263
                   clear hS
                   have hj265 : Tr ρ247 w246 (fun _ => false) ρ247 w246 := (Tr.refl hb.bd).weak (fun _ _ => rfl) rfl rfl
                   rcases Bool.eq_false_or_eq_true (z243 && (y210 == 2)) with hg262 | hg262
                   ·have hS := ite_true' hz266 hg262
                    refine sr_evg (b := true) (e := 105) rfl rfl hg262 (v := .agg #[str y1.1.Salt, .int .i64 y1.1.Rounds, str y1.1.Hash]) (ev_loads (cs := [str y1.1.Salt, .int .i64 y1.1.Rounds, str y1.1.Hash]) Tryd.isAgg25 Tryd.sizeOf25 rfl (hB10.cells (vs := [str y1.1.Salt, .int .i64 y1.1.Rounds, str y1.1.Hash]) rfl)) (by decide) ?_
                    refine sr_unguard rfl rfl hg262 ?_
                    refine sr_litT (c := api_Verifier.c) (ρ := ρ247) (E := 25) (xs := [y1.1]) (vs := #[(0, .agg #[str y1.1.Salt, .int .i64 y1.1.Rounds, str y1.1.Hash])]) (cs := #[str y1.1.Salt, .int .i64 y1.1.Rounds, str y1.1.Hash]) (css := [[str y1.1.Salt, .int .i64 y1.1.Rounds, str y1.1.Hash]]) rfl (fun _ => by kernel_rfl) rfl ⟨rfl, trivial⟩ rfl (by decide) hb.bd (by decide) ?_
                    intro v270 w272 h271 hbw274
                    have htr273 := Tr.of_below hbw274 hb.bd
                    replace hb := hb.trans htr273
                    replace hj265 := (hj265.trans htr273).weak (J' := (fun _ => false)) (by intro t h; simp [rng] at h ⊢ <;> omega) rfl rfl
                    obtain ⟨y275, hy276, hS⟩ := bind_some' hS
                    refine sr_callg (b := true) (e := 105) rfl rfl hg262 (vs := [v270, str ([65, 98, 99, 100, 101, 102, 103, 49])]) rfl Tryd.call16 rfl (secret_Reused_ok _ (hg.fr hz hb) h271.asSl hy276) (by decide) ?_
                    rintro _ w277 ⟨rfl, hbw278⟩
                    have htr279 := Tr.of_below hbw278 hb.bd
                    replace hb := hb.trans htr279
                    replace hj265 := (hj265.trans htr279).weak (J' := (fun _ => false)) (by intro t h; simp [rng] at h ⊢ <;> omega) rfl rfl
                    refine sr_ev (v := .bool y275) (ev_pick_t rfl hg262 rfl) (by decide) ?_
                    exact sr_weaken (l' := [(109, .bool y275)]) (.cons rfl (.nil _)) (K263 y275 _ ⟨(Option.some.inj hS).symm, _, hj265⟩)
                   ·have hS := ite_false' hz266 hg262
                    refine sr_pass (e := 105) rfl rfl (by rw [hg262]; rfl) (by decide) ?_
                    refine sr_pass (e := 105) rfl rfl (by rw [hg262]; rfl) (by decide) ?_
                    refine sr_pass (e := 105) rfl rfl (by rw [hg262]; rfl) (by decide) ?_
                    refine sr_ev (v := .bool false) (ev_pick_f rfl hg262 rfl) (by decide) ?_
                    exact sr_weaken (l' := [(109, .bool false)]) (.cons rfl (.nil _)) (K263 false _ ⟨(Option.some.inj hS).symm, _, hj265⟩)
                 ·intro K255
                  rcases Bool.eq_false_or_eq_true z243 with hg254 | hg254
                  all_goals try have hj257 : Tr ρ247 w246 (fun _ => false) ρ247 w246 := Tr.refl hb.bd
                  ·refine sr_evg (b := true) (e := 101) rfl rfl hg254 (v := .int .i64 y210) (ev_move rfl) (by decide) ?_
                   refine sr_evg (b := true) (e := 101) rfl rfl hg254 (v := .bool (y210 == 2)) (ev_eq rfl rfl) (by decide) ?_
                   refine sr_ev (v := .bool (y210 == 2)) (ev_pick_t rfl hg254 rfl) (by decide) ?_
                   exact sr_weaken (l' := [(1, .pointer (some ⟨g6, 0, none⟩)), (104, .bool (y210 == 2))]) (.cons rfl (.cons rfl (.nil _))) (K255 (y210 == 2) _ ⟨by first | (rw [hg254]; rfl) | rfl, rfl⟩)
                  ·refine sr_pass (e := 101) rfl rfl (by rw [hg254]; rfl) (by decide) ?_
                   refine sr_pass (e := 101) rfl rfl (by rw [hg254]; rfl) (by decide) ?_
                   refine sr_ev (v := .bool false) (ev_pick_f rfl hg254 rfl) (by decide) ?_
                   exact sr_weaken (l' := [(1, .pointer (some ⟨g6, 0, none⟩)), (104, .bool false)]) (.cons rfl (.cons rfl (.nil _))) (K255 false _ ⟨by first | (rw [hg254]; rfl) | rfl, rfl⟩)
                ·intro K242
                 clear hS
                 have hj244 : Tr ρ234 w233 (fun _ => false) ρ234 w233 := (Tr.refl hb.bd).weak (fun _ _ => rfl) rfl rfl
                 rcases Bool.eq_false_or_eq_true z230 with hg241 | hg241
                 ·have hS := ite_true' hz245 hg241
                  refine sr_evg (b := true) (e := 96) rfl rfl hg241 (v := .pointer (some ⟨g51, 0, none⟩)) (ev_move rfl) (by decide) ?_
                  obtain ⟨y249, hy250, hS⟩ := bind_some' hS
                  refine sr_callg (b := true) (e := 96) rfl rfl hg241 (vs := [.pointer (some ⟨g51, 0, none⟩), str ([98, 111, 98]), .int .i64 15]) rfl Tryd.call28 rfl (secret_Locks_Locked_ok _ (hg.fr hz hb) (ρA := ρ234) hb.bd (hz.fr hg hb) (τ0 := (fun p => 200 + p)) (fun p => Nat.le_add_right_of_le (by decide)) (⟨_, _, hB208, h205, hR207⟩ : secret_Locks.O (fun p => 200 + p) ρ234 w233 g51 y199) hy250) (by decide) ?_
                  rintro _ w251 ⟨rfl, hbw252⟩
                  have htr253 := Tr.of_below hbw252 hb.bd
                  replace hB10 := hB10.mv (htr253.mv (i := 3) rfl)
                  replace hb := hb.trans htr253
                  replace hj244 := (hj244.trans htr253).weak (J' := (fun _ => false)) (by intro t h; simp [rng] at h ⊢ <;> omega) rfl rfl
                  refine sr_evg (b := true) (e := 96) rfl rfl hg241 (v := .bool (!y249)) (ev_not rfl) (by decide) ?_
                  refine sr_ev (v := .bool (!y249)) (ev_pick_t rfl hg241 rfl) (by decide) ?_
                  exact sr_weaken (l' := [(1, .pointer (some ⟨g6, 0, none⟩)), (10, .int .i64 y210), (100, .bool (!y249))]) (.cons rfl (.cons rfl (.cons rfl (.nil _)))) (K242 (!y249) _ ⟨(Option.some.inj hS).symm, _, hj244⟩)
                 ·have hS := ite_false' hz245 hg241
                  refine sr_pass (e := 96) rfl rfl (by rw [hg241]; rfl) (by decide) ?_
                  refine sr_pass (e := 96) rfl rfl (by rw [hg241]; rfl) (by decide) ?_
                  refine sr_pass (e := 96) rfl rfl (by rw [hg241]; rfl) (by decide) ?_
                  refine sr_ev (v := .bool false) (ev_pick_f rfl hg241 rfl) (by decide) ?_
                  exact sr_weaken (l' := [(1, .pointer (some ⟨g6, 0, none⟩)), (10, .int .i64 y210), (100, .bool false)]) (.cons rfl (.cons rfl (.cons rfl (.nil _)))) (K242 false _ ⟨(Option.some.inj hS).symm, _, hj244⟩)
               ·intro K229
                clear hS
                have hj231 : Tr ρ221 w220 (fun _ => false) ρ221 w220 := (Tr.refl hb.bd).weak (fun _ _ => rfl) rfl rfl
                rcases Bool.eq_false_or_eq_true z217 with hg228 | hg228
                ·have hS := ite_true' hz232 hg228
                 refine sr_evg (b := true) (e := 91) rfl rfl hg228 (v := .pointer (some ⟨g51, 0, none⟩)) (ev_move rfl) (by decide) ?_
                 obtain ⟨y236, hy237, hS⟩ := bind_some' hS
                 refine sr_callg (b := true) (e := 91) rfl rfl hg228 (vs := [.pointer (some ⟨g51, 0, none⟩), str ([97, 110, 110]), .int .i64 109]) rfl Tryd.call28 rfl (secret_Locks_Locked_ok _ (hg.fr hz hb) (ρA := ρ221) hb.bd (hz.fr hg hb) (τ0 := (fun p => 200 + p)) (fun p => Nat.le_add_right_of_le (by decide)) (⟨_, _, hB208, h205, hR207⟩ : secret_Locks.O (fun p => 200 + p) ρ221 w220 g51 y199) hy237) (by decide) ?_
                 rintro _ w238 ⟨rfl, hbw239⟩
                 have htr240 := Tr.of_below hbw239 hb.bd
                 replace hB208 := hB208.mv (htr240.mv (i := 200) rfl)
                 replace h205 := h205.mv (htr240.mv (i := 201) rfl)
                 replace hR207 := Recs.mv hR207 secret_record.objK (htr240.mv (i := 202) rfl) (by decide)
                 replace hB10 := hB10.mv (htr240.mv (i := 3) rfl)
                 replace hb := hb.trans htr240
                 replace hj231 := (hj231.trans htr240).weak (J' := (fun _ => false)) (by intro t h; simp [rng] at h ⊢ <;> omega) rfl rfl
                 refine sr_evg (b := true) (e := 91) rfl rfl hg228 (v := .bool (!y236)) (ev_not rfl) (by decide) ?_
                 refine sr_ev (v := .bool (!y236)) (ev_pick_t rfl hg228 rfl) (by decide) ?_
                 exact sr_weaken (l' := [(1, .pointer (some ⟨g6, 0, none⟩)), (7, .pointer (some ⟨g51, 0, none⟩)), (10, .int .i64 y210), (95, .bool (!y236))]) (.cons rfl (.cons rfl (.cons rfl (.cons rfl (.nil _))))) (K229 (!y236) _ ⟨(Option.some.inj hS).symm, _, hj231⟩)
                ·have hS := ite_false' hz232 hg228
                 refine sr_pass (e := 91) rfl rfl (by rw [hg228]; rfl) (by decide) ?_
                 refine sr_pass (e := 91) rfl rfl (by rw [hg228]; rfl) (by decide) ?_
                 refine sr_pass (e := 91) rfl rfl (by rw [hg228]; rfl) (by decide) ?_
                 refine sr_ev (v := .bool false) (ev_pick_f rfl hg228 rfl) (by decide) ?_
                 exact sr_weaken (l' := [(1, .pointer (some ⟨g6, 0, none⟩)), (7, .pointer (some ⟨g51, 0, none⟩)), (10, .int .i64 y210), (95, .bool false)]) (.cons rfl (.cons rfl (.cons rfl (.cons rfl (.nil _))))) (K229 false _ ⟨(Option.some.inj hS).symm, _, hj231⟩)
              ·intro K216
               clear hS
               have hj218 : Tr ρ209 w212 (fun _ => false) ρ209 w212 := (Tr.refl hb.bd).weak (fun _ _ => rfl) rfl rfl
               rcases Bool.eq_false_or_eq_true (!y172) with hg215 | hg215
               ·have hS := ite_true' hz219 hg215
                refine sr_evg (b := true) (e := 87) rfl rfl hg215 (v := .pointer (some ⟨g51, 0, none⟩)) (ev_move rfl) (by decide) ?_
                obtain ⟨y223, hy224, hS⟩ := bind_some' hS
                refine sr_callg (b := true) (e := 87) rfl rfl hg215 (vs := [.pointer (some ⟨g51, 0, none⟩), str ([97, 110, 110]), .int .i64 108]) rfl Tryd.call28 rfl (secret_Locks_Locked_ok _ (hg.fr hz hb) (ρA := ρ209) hb.bd (hz.fr hg hb) (τ0 := (fun p => 200 + p)) (fun p => Nat.le_add_right_of_le (by decide)) (⟨_, _, hB208, h205, hR207⟩ : secret_Locks.O (fun p => 200 + p) ρ209 w212 g51 y199) hy224) (by decide) ?_
                rintro _ w225 ⟨rfl, hbw226⟩
                have htr227 := Tr.of_below hbw226 hb.bd
                replace hB208 := hB208.mv (htr227.mv (i := 200) rfl)
                replace h205 := h205.mv (htr227.mv (i := 201) rfl)
                replace hR207 := Recs.mv hR207 secret_record.objK (htr227.mv (i := 202) rfl) (by decide)
                replace hB10 := hB10.mv (htr227.mv (i := 3) rfl)
                replace hb := hb.trans htr227
                replace hj218 := (hj218.trans htr227).weak (J' := (fun _ => false)) (by intro t h; simp [rng] at h ⊢ <;> omega) rfl rfl
                refine sr_ev (v := .bool y223) (ev_pick_t rfl hg215 rfl) (by decide) ?_
                exact sr_weaken (l' := [(1, .pointer (some ⟨g6, 0, none⟩)), (7, .pointer (some ⟨g51, 0, none⟩)), (10, .int .i64 y210), (90, .bool y223)]) (.cons rfl (.cons rfl (.cons rfl (.cons rfl (.nil _))))) (K216 y223 _ ⟨(Option.some.inj hS).symm, _, hj218⟩)
               ·have hS := ite_false' hz219 hg215
                refine sr_pass (e := 87) rfl rfl (by rw [hg215]; rfl) (by decide) ?_
                refine sr_pass (e := 87) rfl rfl (by rw [hg215]; rfl) (by decide) ?_
                refine sr_ev (v := .bool false) (ev_pick_f rfl hg215 rfl) (by decide) ?_
                exact sr_weaken (l' := [(1, .pointer (some ⟨g6, 0, none⟩)), (7, .pointer (some ⟨g51, 0, none⟩)), (10, .int .i64 y210), (90, .bool false)]) (.cons rfl (.cons rfl (.cons rfl (.cons rfl (.nil _))))) (K216 false _ ⟨(Option.some.inj hS).symm, _, hj218⟩)
            ·intro K148
             clear hS
             rcases Bool.eq_false_or_eq_true z137 with hg147 | hg147
             ·have hS := ite_true' hz151 hg147
              refine sq_pass (e := 69) rfl rfl (by rw [hg147]; rfl) (by decide) ?_
              refine sq_pass (e := 69) rfl rfl (by rw [hg147]; rfl) (by decide) ?_
              refine sq_ev (v := .bool true) (fun w1 hw1 => ev_pick_t rfl hg147 rfl) (by decide) ?_
              exact sq_weaken (l' := [(1, .pointer (some ⟨g6, 0, none⟩)), (7, .pointer (some ⟨g51, 0, none⟩)), (72, .bool true)]) (.cons rfl (.cons rfl (.cons rfl (.nil _)))) (K148 true (Option.some.inj hS).symm)
             ·have hS := ite_false' hz151 hg147
              obtain ⟨y154, hy155, hS⟩ := bind_some' hS
              refine sq_callg (b := false) (e := 69) rfl rfl hg147 (v := .int .i64 y154) (vs := [str ([97, 98, 99, 100, 101, 102, 103, 104]), str ([97, 110, 110])]) rfl Tryd.call18 rfl (fun w1 hw1 => (secret_Quality_ok _ ((hg.fr hz hb).below hw1) hy155)) (by decide) ?_
              refine sq_evg (b := false) (e := 69) rfl rfl hg147 (v := .bool (y154 != 11)) (fun w1 hw1 => ev_ne rfl rfl) (by decide) ?_
              refine sq_ev (v := .bool (y154 != 11)) (fun w1 hw1 => ev_pick_f rfl hg147 rfl) (by decide) ?_
              exact sq_weaken (l' := [(1, .pointer (some ⟨g6, 0, none⟩)), (7, .pointer (some ⟨g51, 0, none⟩)), (72, .bool (y154 != 11))]) (.cons rfl (.cons rfl (.cons rfl (.nil _)))) (K148 (y154 != 11) (Option.some.inj hS).symm)
           ·intro K136
            clear hS
            rcases Bool.eq_false_or_eq_true z125 with hg135 | hg135
            ·have hS := ite_true' hz139 hg135
             refine sq_pass (e := 65) rfl rfl (by rw [hg135]; rfl) (by decide) ?_
             refine sq_pass (e := 65) rfl rfl (by rw [hg135]; rfl) (by decide) ?_
             refine sq_ev (v := .bool true) (fun w1 hw1 => ev_pick_t rfl hg135 rfl) (by decide) ?_
             exact sq_weaken (l' := [(1, .pointer (some ⟨g6, 0, none⟩)), (7, .pointer (some ⟨g51, 0, none⟩)), (68, .bool true)]) (.cons rfl (.cons rfl (.cons rfl (.nil _)))) (K136 true (Option.some.inj hS).symm)
            ·have hS := ite_false' hz139 hg135
             obtain ⟨y142, hy143, hS⟩ := bind_some' hS
             refine sq_callg (b := false) (e := 65) rfl rfl hg135 (v := .int .i64 y142) (vs := [str ([120, 65, 110, 110, 45, 49, 50, 51, 52]), str ([97, 110, 110])]) rfl Tryd.call18 rfl (fun w1 hw1 => (secret_Quality_ok _ ((hg.fr hz hb).below hw1) hy143)) (by decide) ?_
             refine sq_evg (b := false) (e := 65) rfl rfl hg135 (v := .bool (y142 != 11)) (fun w1 hw1 => ev_ne rfl rfl) (by decide) ?_
             refine sq_ev (v := .bool (y142 != 11)) (fun w1 hw1 => ev_pick_f rfl hg135 rfl) (by decide) ?_
             exact sq_weaken (l' := [(1, .pointer (some ⟨g6, 0, none⟩)), (7, .pointer (some ⟨g51, 0, none⟩)), (68, .bool (y142 != 11))]) (.cons rfl (.cons rfl (.cons rfl (.nil _)))) (K136 (y142 != 11) (Option.some.inj hS).symm)
          ·intro K124
           clear hS
           rcases Bool.eq_false_or_eq_true z113 with hg123 | hg123
           ·have hS := ite_true' hz127 hg123
            refine sq_pass (e := 61) rfl rfl (by rw [hg123]; rfl) (by decide) ?_
            refine sq_pass (e := 61) rfl rfl (by rw [hg123]; rfl) (by decide) ?_
            refine sq_ev (v := .bool true) (fun w1 hw1 => ev_pick_t rfl hg123 rfl) (by decide) ?_
            exact sq_weaken (l' := [(1, .pointer (some ⟨g6, 0, none⟩)), (7, .pointer (some ⟨g51, 0, none⟩)), (64, .bool true)]) (.cons rfl (.cons rfl (.cons rfl (.nil _)))) (K124 true (Option.some.inj hS).symm)
           ·have hS := ite_false' hz127 hg123
            obtain ⟨y130, hy131, hS⟩ := bind_some' hS
            refine sq_callg (b := false) (e := 61) rfl rfl hg123 (v := .int .i64 y130) (vs := [str ([65, 98, 99, 100, 101, 102, 103, 49]), str ([97, 110, 110])]) rfl Tryd.call18 rfl (fun w1 hw1 => (secret_Quality_ok _ ((hg.fr hz hb).below hw1) hy131)) (by decide) ?_
            refine sq_evg (b := false) (e := 61) rfl rfl hg123 (v := .bool (y130 != 0)) (fun w1 hw1 => ev_ne rfl rfl) (by decide) ?_
            refine sq_ev (v := .bool (y130 != 0)) (fun w1 hw1 => ev_pick_f rfl hg123 rfl) (by decide) ?_
            exact sq_weaken (l' := [(1, .pointer (some ⟨g6, 0, none⟩)), (7, .pointer (some ⟨g51, 0, none⟩)), (64, .bool (y130 != 0))]) (.cons rfl (.cons rfl (.cons rfl (.nil _)))) (K124 (y130 != 0) (Option.some.inj hS).symm)
         ·intro K112
          clear hS
          rcases Bool.eq_false_or_eq_true z101 with hg111 | hg111
          ·have hS := ite_true' hz115 hg111
           refine sq_pass (e := 56) rfl rfl (by rw [hg111]; rfl) (by decide) ?_
           refine sq_pass (e := 56) rfl rfl (by rw [hg111]; rfl) (by decide) ?_
           refine sq_pass (e := 56) rfl rfl (by rw [hg111]; rfl) (by decide) ?_
           refine sq_ev (v := .bool true) (fun w1 hw1 => ev_pick_t rfl hg111 rfl) (by decide) ?_
           exact sq_weaken (l' := [(1, .pointer (some ⟨g6, 0, none⟩)), (7, .pointer (some ⟨g51, 0, none⟩)), (60, .bool true)]) (.cons rfl (.cons rfl (.cons rfl (.nil _)))) (K112 true (Option.some.inj hS).symm)
          ·have hS := ite_false' hz115 hg111
           refine sq_evg (b := false) (e := 56) rfl rfl hg111 (v := .agg #[str y1.1.Salt, .int .i64 y1.1.Rounds, str y1.1.Hash]) (fun w1 hw1 => ev_loads (cs := [str y1.1.Salt, .int .i64 y1.1.Rounds, str y1.1.Hash]) Tryd.isAgg25 Tryd.sizeOf25 rfl ((hB10.mv (Mv.of_below (i := 3) (ρ := ρ48) hw1)).cells (vs := [str y1.1.Salt, .int .i64 y1.1.Rounds, str y1.1.Hash]) rfl)) (by decide) ?_
           obtain ⟨y118, hy119, hS⟩ := bind_some' hS
           refine sq_callg (b := false) (e := 56) rfl rfl hg111 (v := .bool y118) (vs := [.agg #[str y1.1.Salt, .int .i64 y1.1.Rounds, str y1.1.Hash]]) rfl Tryd.call12 rfl (fun w1 hw1 => (secret_Valid_ok _ ((hg.fr hz hb).below hw1) hy119)) (by decide) ?_
           refine sq_evg (b := false) (e := 56) rfl rfl hg111 (v := .bool (!y118)) (fun w1 hw1 => ev_not rfl) (by decide) ?_
           refine sq_ev (v := .bool (!y118)) (fun w1 hw1 => ev_pick_f rfl hg111 rfl) (by decide) ?_
           exact sq_weaken (l' := [(1, .pointer (some ⟨g6, 0, none⟩)), (7, .pointer (some ⟨g51, 0, none⟩)), (60, .bool (!y118))]) (.cons rfl (.cons rfl (.cons rfl (.nil _)))) (K112 (!y118) (Option.some.inj hS).symm)
        ·intro K100
         clear hS
         rcases Bool.eq_false_or_eq_true z89 with hg99 | hg99
         ·have hS := ite_true' hz103 hg99
          refine sq_pass (e := 51) rfl rfl (by rw [hg99]; rfl) (by decide) ?_
          refine sq_pass (e := 51) rfl rfl (by rw [hg99]; rfl) (by decide) ?_
          refine sq_pass (e := 51) rfl rfl (by rw [hg99]; rfl) (by decide) ?_
          refine sq_ev (v := .bool true) (fun w1 hw1 => ev_pick_t rfl hg99 rfl) (by decide) ?_
          exact sq_weaken (l' := [(1, .pointer (some ⟨g6, 0, none⟩)), (7, .pointer (some ⟨g51, 0, none⟩)), (55, .bool true)]) (.cons rfl (.cons rfl (.cons rfl (.nil _)))) (K100 true (Option.some.inj hS).symm)
         ·have hS := ite_false' hz103 hg99
          refine sq_evg (b := false) (e := 51) rfl rfl hg99 (v := .agg #[str y1.1.Salt, .int .i64 y1.1.Rounds, str y1.1.Hash]) (fun w1 hw1 => ev_loads (cs := [str y1.1.Salt, .int .i64 y1.1.Rounds, str y1.1.Hash]) Tryd.isAgg25 Tryd.sizeOf25 rfl ((hB10.mv (Mv.of_below (i := 3) (ρ := ρ48) hw1)).cells (vs := [str y1.1.Salt, .int .i64 y1.1.Rounds, str y1.1.Hash]) rfl)) (by decide) ?_
          obtain ⟨y106, hy107, hS⟩ := bind_some' hS
          refine sq_callg (b := false) (e := 51) rfl rfl hg99 (v := .bool y106) (vs := [.agg #[str y1.1.Salt, .int .i64 y1.1.Rounds, str y1.1.Hash], str ([65, 98, 99, 100, 101, 102, 103, 49])]) rfl Tryd.call14 rfl (fun w1 hw1 => (secret_Check_ok _ ((hg.fr hz hb).below hw1) hy107)) (by decide) ?_
          refine sq_evg (b := false) (e := 51) rfl rfl hg99 (v := .bool (!y106)) (fun w1 hw1 => ev_not rfl) (by decide) ?_
          refine sq_ev (v := .bool (!y106)) (fun w1 hw1 => ev_pick_f rfl hg99 rfl) (by decide) ?_
          exact sq_weaken (l' := [(1, .pointer (some ⟨g6, 0, none⟩)), (7, .pointer (some ⟨g51, 0, none⟩)), (55, .bool (!y106))]) (.cons rfl (.cons rfl (.cons rfl (.nil _)))) (K100 (!y106) (Option.some.inj hS).symm)
       ·intro K88
        clear hS
        rcases Bool.eq_false_or_eq_true (((((y1.2 != 0) || (y13.2 != 4)) || (y25.2 != 2)) || (y41.2 != 0)) || false) with hg87 | hg87
        ·have hS := ite_true' hz91 hg87
         refine sq_pass (e := 45) rfl rfl (by rw [hg87]; rfl) (by decide) ?_
         refine sq_pass (e := 45) rfl rfl (by rw [hg87]; rfl) (by decide) ?_
         refine sq_pass (e := 45) rfl rfl (by rw [hg87]; rfl) (by decide) ?_
         refine sq_pass (e := 45) rfl rfl (by rw [hg87]; rfl) (by decide) ?_
         refine sq_ev (v := .bool true) (fun w1 hw1 => ev_pick_t rfl hg87 rfl) (by decide) ?_
         exact sq_weaken (l' := [(1, .pointer (some ⟨g6, 0, none⟩)), (7, .pointer (some ⟨g51, 0, none⟩)), (50, .bool true)]) (.cons rfl (.cons rfl (.cons rfl (.nil _)))) (K88 true (Option.some.inj hS).symm)
        ·have hS := ite_false' hz91 hg87
         refine sq_evg (b := false) (e := 45) rfl rfl hg87 (v := .pointer (some ⟨g6, 2, none⟩)) (fun w1 hw1 => ev_fieldAddr (i := 2) Tryd.underlying25 rfl Tryd.info9 rfl rfl) (by decide) ?_
         refine sq_evg (b := false) (e := 45) rfl rfl hg87 (v := str y1.1.Hash) (fun w1 hw1 => ev_load Tryd.isAgg9 rfl ((hB10.mv (Mv.of_below (i := 3) (ρ := ρ48) hw1)).cell rfl)) (by decide) ?_
         obtain ⟨y94, hy95, hS⟩ := bind_some' hS
         refine sq_callg (b := false) (e := 45) rfl rfl hg87 (v := str y94) (vs := [str ([115, 97, 108, 116]), str ([65, 98, 99, 100, 101, 102, 103, 49]), .int .i64 2]) rfl Tryd.call33 rfl (fun w1 hw1 => (digest_Iterate_ok _ ((hg.fr hz hb).below hw1) hy95)) (by decide) ?_
         refine sq_evg (b := false) (e := 45) rfl rfl hg87 (v := .bool (!(y1.1.Hash == y94))) (fun w1 hw1 => ev_sne rfl rfl) (by decide) ?_
         refine sq_ev (v := .bool (!(y1.1.Hash == y94))) (fun w1 hw1 => ev_pick_f rfl hg87 rfl) (by decide) ?_
         exact sq_weaken (l' := [(1, .pointer (some ⟨g6, 0, none⟩)), (7, .pointer (some ⟨g51, 0, none⟩)), (50, .bool (!(y1.1.Hash == y94)))]) (.cons rfl (.cons rfl (.cons rfl (.nil _)))) (K88 (!(y1.1.Hash == y94)) (Option.some.inj hS).symm)
      ·intro K81
       rcases Bool.eq_false_or_eq_true ((((y1.2 != 0) || (y13.2 != 4)) || (y25.2 != 2)) || (y41.2 != 0)) with hg80 | hg80
       ·refine sq_pass (e := 41) rfl rfl (by rw [hg80]; rfl) (by decide) ?_
        refine sq_pass (e := 41) rfl rfl (by rw [hg80]; rfl) (by decide) ?_
        refine sq_ev (v := .bool true) (fun w1 hw1 => ev_pick_t rfl hg80 rfl) (by decide) ?_
        exact sq_weaken (l' := [(1, .pointer (some ⟨g6, 0, none⟩)), (7, .pointer (some ⟨g51, 0, none⟩)), (44, .bool true)]) (.cons rfl (.cons rfl (.cons rfl (.nil _)))) (K81 true (by rw [hg80]; rfl))
       ·refine sq_evg (b := false) (e := 41) rfl rfl hg80 (v := .pointer (some ⟨g51, 0, none⟩)) (fun w1 hw1 => ev_move rfl) (by decide) ?_
        refine sq_evg (b := false) (e := 41) rfl rfl hg80 (v := .bool false) (fun w1 hw1 => ev_peqT_some Tryd.underlying39 rfl rfl) (by decide) ?_
        refine sq_ev (v := .bool false) (fun w1 hw1 => ev_pick_f rfl hg80 rfl) (by decide) ?_
        exact sq_weaken (l' := [(1, .pointer (some ⟨g6, 0, none⟩)), (7, .pointer (some ⟨g51, 0, none⟩)), (44, .bool false)]) (.cons rfl (.cons rfl (.cons rfl (.nil _)))) (K81 false (by rw [hg80]; rfl))
     ·intro K74
      rcases Bool.eq_false_or_eq_true (((y1.2 != 0) || (y13.2 != 4)) || (y25.2 != 2)) with hg73 | hg73
      ·refine sq_pass (e := 37) rfl rfl (by rw [hg73]; rfl) (by decide) ?_
       refine sq_pass (e := 37) rfl rfl (by rw [hg73]; rfl) (by decide) ?_
       refine sq_ev (v := .bool true) (fun w1 hw1 => ev_pick_t rfl hg73 rfl) (by decide) ?_
       exact sq_weaken (l' := [(1, .pointer (some ⟨g6, 0, none⟩)), (7, .pointer (some ⟨g51, 0, none⟩)), (40, .bool true)]) (.cons rfl (.cons rfl (.cons rfl (.nil _)))) (K74 true (by rw [hg73]; rfl))
      ·refine sq_evg (b := false) (e := 37) rfl rfl hg73 (v := .int .i64 y41.2) (fun w1 hw1 => ev_move rfl) (by decide) ?_
       refine sq_evg (b := false) (e := 37) rfl rfl hg73 (v := .bool (y41.2 != 0)) (fun w1 hw1 => ev_ne rfl rfl) (by decide) ?_
       refine sq_ev (v := .bool (y41.2 != 0)) (fun w1 hw1 => ev_pick_f rfl hg73 rfl) (by decide) ?_
       exact sq_weaken (l' := [(1, .pointer (some ⟨g6, 0, none⟩)), (7, .pointer (some ⟨g51, 0, none⟩)), (40, .bool (y41.2 != 0))]) (.cons rfl (.cons rfl (.cons rfl (.nil _)))) (K74 (y41.2 != 0) (by rw [hg73]; rfl))
    ·intro K67
     rcases Bool.eq_false_or_eq_true ((y1.2 != 0) || (y13.2 != 4)) with hg66 | hg66
     ·refine sq_pass (e := 33) rfl rfl (by rw [hg66]; rfl) (by decide) ?_
      refine sq_pass (e := 33) rfl rfl (by rw [hg66]; rfl) (by decide) ?_
      refine sq_ev (v := .bool true) (fun w1 hw1 => ev_pick_t rfl hg66 rfl) (by decide) ?_
      exact sq_weaken (l' := [(1, .pointer (some ⟨g6, 0, none⟩)), (7, .pointer (some ⟨g51, 0, none⟩)), (8, .int .i64 y41.2), (36, .bool true)]) (.cons rfl (.cons rfl (.cons rfl (.cons rfl (.nil _))))) (K67 true (by rw [hg66]; rfl))
     ·refine sq_evg (b := false) (e := 33) rfl rfl hg66 (v := .int .i64 y25.2) (fun w1 hw1 => ev_move rfl) (by decide) ?_
      refine sq_evg (b := false) (e := 33) rfl rfl hg66 (v := .bool (y25.2 != 2)) (fun w1 hw1 => ev_ne rfl rfl) (by decide) ?_
      refine sq_ev (v := .bool (y25.2 != 2)) (fun w1 hw1 => ev_pick_f rfl hg66 rfl) (by decide) ?_
      exact sq_weaken (l' := [(1, .pointer (some ⟨g6, 0, none⟩)), (7, .pointer (some ⟨g51, 0, none⟩)), (8, .int .i64 y41.2), (36, .bool (y25.2 != 2))]) (.cons rfl (.cons rfl (.cons rfl (.cons rfl (.nil _))))) (K67 (y25.2 != 2) (by rw [hg66]; rfl))
   ·intro K60
    rcases Bool.eq_false_or_eq_true (y1.2 != 0) with hg59 | hg59
    ·refine sq_pass (e := 29) rfl rfl (by rw [hg59]; rfl) (by decide) ?_
     refine sq_pass (e := 29) rfl rfl (by rw [hg59]; rfl) (by decide) ?_
     refine sq_ev (v := .bool true) (fun w1 hw1 => ev_pick_t rfl hg59 rfl) (by decide) ?_
     exact sq_weaken (l' := [(1, .pointer (some ⟨g6, 0, none⟩)), (6, .int .i64 y25.2), (7, .pointer (some ⟨g51, 0, none⟩)), (8, .int .i64 y41.2), (32, .bool true)]) (.cons rfl (.cons rfl (.cons rfl (.cons rfl (.cons rfl (.nil _)))))) (K60 true (by rw [hg59]; rfl))
    ·refine sq_evg (b := false) (e := 29) rfl rfl hg59 (v := .int .i64 y13.2) (fun w1 hw1 => ev_move rfl) (by decide) ?_
     refine sq_evg (b := false) (e := 29) rfl rfl hg59 (v := .bool (y13.2 != 4)) (fun w1 hw1 => ev_ne rfl rfl) (by decide) ?_
     refine sq_ev (v := .bool (y13.2 != 4)) (fun w1 hw1 => ev_pick_f rfl hg59 rfl) (by decide) ?_
     exact sq_weaken (l' := [(1, .pointer (some ⟨g6, 0, none⟩)), (6, .int .i64 y25.2), (7, .pointer (some ⟨g51, 0, none⟩)), (8, .int .i64 y41.2), (32, .bool (y13.2 != 4))]) (.cons rfl (.cons rfl (.cons rfl (.cons rfl (.cons rfl (.nil _)))))) (K60 (y13.2 != 4) (by rw [hg59]; rfl))
theorem ref22_Password_L1_ok {w0 : World} (hg : Gs w0) : ∀ (n : Nat), ∀ {r : Bool} {s_0 : Str} {i_3 : Int}, ref22_Password_L1 n s_0 i_3 = some r → ∀ {w : World}, (Below w0.heap.size w0 w) → KE Tryd.prog 37 (Ret (fun v w' => v = .bool r ∧ Below w0.heap.size w0 w')) 28 [.code (sub (bodyOf Tryd.f37) [2, 2, 1, 2, 2, 1]), .inLoop (sub (bodyOf Tryd.f37) [2, 2, 1, 2, 2, 1]), .inBlock 0, .code (sub (bodyOf Tryd.f37) [2, 2, 2])] [(0, str s_0), (3, .int .i64 i_3)] w := by
 intro n
 induction n with
 | zero => intro r s_0 i_3 hS; cases hS
 | succ n ih =>
  have hr0 : ∀ {r : Bool} {s_0 : Str} {i_3 : Int}, ref22_Password_L1 n s_0 i_3 = some r → ∀ {w : World}, (Below w0.heap.size w0 w) → KE Tryd.prog 37 (Ret (fun v w' => v = .bool r ∧ Below w0.heap.size w0 w')) 28 [.inLoop (sub (bodyOf Tryd.f37) [2, 2, 1, 2, 2, 1]), .inBlock 0, .code (sub (bodyOf Tryd.f37) [2, 2, 2])] [(0, str s_0), (3, .int .i64 i_3)] w := fun {r} {s_0} {i_3} hS {w} hb => ke_inLoop (ih hS hb)
  clear ih
  intro r s_0 i_3 hS w hb
  unfold ref22_Password_L1 at hS
  refine ke_seq ?_
  refine ke_seq ?_
  refine ke_region ?_
  refine sr_ev (v := .int .i64 i_3) (ev_move rfl) (by decide) ?_
  refine sr_ev (v := str s_0) (ev_move rfl) (by decide) ?_
  refine sr_ev (v := .int .i64 (s_0.length : Int)) (ev_slen Tryd.underlying9 rfl) (by decide) ?_
  refine sr_ev (v := .bool (decide (i_3 < (s_0.length : Int)))) (ev_lt rfl rfl) (by decide) ?_
  refine sr_end (l' := [(0, str s_0), (3, .int .i64 i_3), (15, .bool (decide (i_3 < (s_0.length : Int))))]) (.cons rfl (.cons rfl (.cons rfl (.nil _)))) ?_
  refine ke_cond (t := decide (i_3 < (s_0.length : Int))) rfl (fun hc9 => ?_) (fun hc9 => ?_)
  ·replace hS := ite_true' hS hc9
   refine ke_skip ?_
   refine ke_seq ?_
   refine ke_block ?_
   refine ke_seq ?_
   refine ke_region ?_
   refine sr_ev (v := str s_0) (ev_move rfl) (by decide) ?_
   refine sr_ev (v := .int .i64 i_3) (ev_move rfl) (by decide) ?_
   obtain ⟨hk10, hS⟩ := chk_some hS
   refine sr_ev (v := .int .u8 (byteAt s_0 i_3)) (ev_sindex Tryd.underlying9 rfl rfl hk10) (by decide) ?_
   refine sr_ev (v := .bool (decide ((byteAt s_0 i_3) < 32))) (ev_lt rfl rfl) (by decide) ?_
   refine sr_ev (v := .bool (decide ((byteAt s_0 i_3) < 32))) (ev_move rfl) (by decide) ?_
   obtain ⟨z13, hz15, hS⟩ := bind_some' hS
   refine sr_join (m := 5) (C := fun (x : Bool) w1 => z13 = x ∧ Below w.heap.size w w1) (l' := fun x => [(0, str s_0), (3, .int .i64 i_3), (27, .bool x)]) ?_ ?_
   ·rintro _ w16 ⟨rfl, hbw17⟩
    replace hb := hb.trans (hbw17.mono hb.size)
    refine sr_end (l' := [(0, str s_0), (3, .int .i64 i_3), (27, .bool z13)]) (.cons rfl (.cons rfl (.cons rfl (.nil _)))) ?_
    refine ke_cond (t := z13) rfl (fun hc19 => ?_) (fun hc19 => ?_)
    ·replace hS := ite_true' hS hc19
     refine ke_seq ?_
     refine ke_region ?_
     refine sr_ev (v := .bool false) (ev_assign rfl) (by decide) ?_
     refine sr_end (l' := [(2, .bool false)]) (.cons rfl (.nil _)) ?_
     cases hS
     exact ke_ret1 Tryd.func37 rfl rfl ⟨_, rfl, rfl, hb⟩
    ·replace hS := ite_false' hS hc19
     refine ke_skip ?_
     refine ke_inBlock ?_
     refine ke_region ?_
     refine sr_ev (v := .int .i64 i_3) (ev_move rfl) (by decide) ?_
     refine sr_ev (v := .int .i64 (IntKind.i64.wrap (i_3 + 1))) (ev_add rfl rfl) (by decide) ?_
     refine sr_ev (v := .int .i64 (IntKind.i64.wrap (i_3 + 1))) (ev_assign rfl) (by decide) ?_
     refine sr_end (l' := [(0, str s_0), (3, .int .i64 (IntKind.i64.wrap (i_3 + 1)))]) (.cons rfl (.cons rfl (.nil _))) ?_
     have hK := hr0 hS hb
     exact ke_weaken (l' := [(0, str s_0), (3, .int .i64 (IntKind.i64.wrap (i_3 + 1)))]) (.cons rfl (.cons rfl (.nil _))) hK
   ·intro K12
    clear hS
    have hj14 := Below.refl w.heap.size w
    rcases Bool.eq_false_or_eq_true (decide ((byteAt s_0 i_3) < 32)) with hg11 | hg11
    ·have hS := ite_true' hz15 hg11
     refine sr_pass (e := 22) rfl rfl (by rw [hg11]; rfl) (by decide) ?_
     refine sr_pass (e := 22) rfl rfl (by rw [hg11]; rfl) (by decide) ?_
     refine sr_pass (e := 22) rfl rfl (by rw [hg11]; rfl) (by decide) ?_
     refine sr_pass (e := 22) rfl rfl (by rw [hg11]; rfl) (by decide) ?_
     refine sr_ev (v := .bool true) (ev_pick_t rfl hg11 rfl) (by decide) ?_
     exact sr_weaken (l' := [(0, str s_0), (3, .int .i64 i_3), (27, .bool true)]) (.cons rfl (.cons rfl (.cons rfl (.nil _)))) (K12 true _ ⟨(Option.some.inj hS).symm, hj14⟩)
    ·have hS := ite_false' hz15 hg11
     refine sr_evg (b := false) (e := 22) rfl rfl hg11 (v := str s_0) (ev_move rfl) (by decide) ?_
     refine sr_evg (b := false) (e := 22) rfl rfl hg11 (v := .int .i64 i_3) (ev_move rfl) (by decide) ?_
     obtain ⟨hk18, hS⟩ := chk_some hS
     refine sr_evg (b := false) (e := 22) rfl rfl hg11 (v := .int .u8 (byteAt s_0 i_3)) (ev_sindex Tryd.underlying9 rfl rfl hk18) (by decide) ?_
     refine sr_evg (b := false) (e := 22) rfl rfl hg11 (v := .bool (decide ((byteAt s_0 i_3) > 126))) (ev_gt rfl rfl) (by decide) ?_
     refine sr_ev (v := .bool (decide ((byteAt s_0 i_3) > 126))) (ev_pick_f rfl hg11 rfl) (by decide) ?_
     exact sr_weaken (l' := [(0, str s_0), (3, .int .i64 i_3), (27, .bool (decide ((byteAt s_0 i_3) > 126)))]) (.cons rfl (.cons rfl (.cons rfl (.nil _)))) (K12 (decide ((byteAt s_0 i_3) > 126)) _ ⟨(Option.some.inj hS).symm, hj14⟩)
  ·replace hS := ite_false' hS hc9
   refine ke_exit (k' := _) rfl ?_
   refine ke_seq ?_
   refine ke_region ?_
   refine sr_ev (v := .bool true) (ev_assign rfl) (by decide) ?_
   refine sr_end (l' := [(2, .bool true)]) (.cons rfl (.nil _)) ?_
   cases hS
   exact ke_ret1 Tryd.func37 rfl rfl ⟨_, rfl, rfl, hb⟩
theorem ref22_Password_ok (w0 : World) (hg : Gs w0) {s_0 : Str} {r : Bool} (hS : ref22_Password s_0 = some r) :
  Calls Tryd.prog 37 #[str s_0] w0 (Ret (fun v w' => v = .bool r ∧ Below w0.heap.size w0 w')) := by
 unfold ref22_Password at hS
 have hb := Below.refl w0.heap.size w0
 refine calls_of_ke Tryd.func37 rfl (n := 28) rfl rfl (l := [(0, str s_0)]) rfl ?_
 refine ke_seq ?_
 refine ke_region ?_
 refine sr_ev (v := .bool false) (ev_assign rfl) (by decide) ?_
 refine sr_end (l' := [(0, str s_0)]) (.cons rfl (.nil _)) ?_
 refine ke_seq ?_
 refine ke_seq ?_
 refine ke_region ?_
 refine sr_ev (v := str s_0) (ev_move rfl) (by decide) ?_
 refine sr_ev (v := .int .i64 (s_0.length : Int)) (ev_slen Tryd.underlying9 rfl) (by decide) ?_
 refine sr_ev (v := .bool (decide ((s_0.length : Int) < 8))) (ev_lt rfl rfl) (by decide) ?_
 refine sr_ev (v := .bool (decide ((s_0.length : Int) < 8))) (ev_move rfl) (by decide) ?_
 refine sr_join (m := 4) (C := fun (x : Bool) w1 => x = ((decide ((s_0.length : Int) < 8)) || (decide ((s_0.length : Int) > 256))) ∧ w0 = w1) (l' := fun x => [(0, str s_0), (11, .bool x)]) ?_ ?_
 ·rintro _ _ ⟨rfl, rfl⟩
  refine sr_end (l' := [(0, str s_0), (11, .bool ((decide ((s_0.length : Int) < 8)) || (decide ((s_0.length : Int) > 256))))]) (.cons rfl (.cons rfl (.nil _))) ?_
  refine ke_cond (t := (decide ((s_0.length : Int) < 8)) || (decide ((s_0.length : Int) > 256))) rfl (fun hc8 => ?_) (fun hc8 => ?_)
  ·replace hS := ite_true' hS hc8
   refine ke_seq ?_
   refine ke_region ?_
   refine sr_ev (v := .bool false) (ev_assign rfl) (by decide) ?_
   refine sr_end (l' := [(2, .bool false)]) (.cons rfl (.nil _)) ?_
   cases hS
   exact ke_ret1 Tryd.func37 rfl rfl ⟨_, rfl, rfl, hb⟩
  ·replace hS := ite_false' hS hc8
   refine ke_skip ?_
   refine ke_seq ?_
   refine ke_seq ?_
   refine ke_region ?_
   refine sr_ev (v := .int .i64 0) (ev_assign rfl) (by decide) ?_
   refine sr_end (l' := [(0, str s_0), (3, .int .i64 0)]) (.cons rfl (.cons rfl (.nil _))) ?_
   refine ke_block ?_
   have hK := ref22_Password_L1_ok hg _ hS hb
   exact ke_weaken (l' := [(0, str s_0), (3, .int .i64 0)]) (.cons rfl (.cons rfl (.nil _))) (ke_loop hK)
 ·intro K2
  rcases Bool.eq_false_or_eq_true (decide ((s_0.length : Int) < 8)) with hg1 | hg1
  ·refine sr_pass (e := 7) rfl rfl (by rw [hg1]; rfl) (by decide) ?_
   refine sr_pass (e := 7) rfl rfl (by rw [hg1]; rfl) (by decide) ?_
   refine sr_pass (e := 7) rfl rfl (by rw [hg1]; rfl) (by decide) ?_
   refine sr_ev (v := .bool true) (ev_pick_t rfl hg1 rfl) (by decide) ?_
   exact sr_weaken (l' := [(0, str s_0), (11, .bool true)]) (.cons rfl (.cons rfl (.nil _))) (K2 true _ ⟨by rw [hg1]; rfl, rfl⟩)
  ·refine sr_evg (b := false) (e := 7) rfl rfl hg1 (v := str s_0) (ev_move rfl) (by decide) ?_
   refine sr_evg (b := false) (e := 7) rfl rfl hg1 (v := .int .i64 (s_0.length : Int)) (ev_slen Tryd.underlying9 rfl) (by decide) ?_
   refine sr_evg (b := false) (e := 7) rfl rfl hg1 (v := .bool (decide ((s_0.length : Int) > 256))) (ev_gt rfl rfl) (by decide) ?_
   refine sr_ev (v := .bool (decide ((s_0.length : Int) > 256))) (ev_pick_f rfl hg1 rfl) (by decide) ?_
   exact sr_weaken (l' := [(0, str s_0), (11, .bool (decide ((s_0.length : Int) > 256)))]) (.cons rfl (.cons rfl (.nil _))) (K2 (decide ((s_0.length : Int) > 256)) _ ⟨by rw [hg1]; rfl, rfl⟩)
theorem ref22_class_ok (w0 : World) (hg : Gs w0) {c_0 : Int} {r : Int} (hS : ref22_class c_0 = some r) :
  Calls Tryd.prog 44 #[.int .u8 c_0] w0 (Ret (fun v w' => v = .int .i64 r ∧ Below w0.heap.size w0 w')) := by
 unfold ref22_class at hS
 have hb := Below.refl w0.heap.size w0
 refine calls_of_ke Tryd.func44 rfl (n := 24) rfl rfl (l := [(0, .int .u8 c_0)]) rfl ?_
 refine ke_seq ?_
 refine ke_region ?_
 refine sr_ev (v := .int .i64 0) (ev_assign rfl) (by decide) ?_
 refine sr_end (l' := [(0, .int .u8 c_0)]) (.cons rfl (.nil _)) ?_
 refine ke_seq ?_
 refine ke_block ?_
 refine ke_seq ?_
 refine ke_region ?_
 refine sr_ev (v := .int .u8 c_0) (ev_move rfl) (by decide) ?_
 refine sr_ev (v := .bool (decide (c_0 ≥ 97))) (ev_ge rfl rfl) (by decide) ?_
 refine sr_ev (v := .bool (decide (c_0 ≥ 97))) (ev_move rfl) (by decide) ?_
 refine sr_join (m := 3) (C := fun (x : Bool) w1 => x = ((decide (c_0 ≥ 97)) && (decide (c_0 ≤ 122))) ∧ w0 = w1) (l' := fun x => [(0, .int .u8 c_0), (9, .bool x)]) ?_ ?_
 ·rintro _ _ ⟨rfl, rfl⟩
  refine sr_ev (v := .bool ((decide (c_0 ≥ 97)) && (decide (c_0 ≤ 122)))) (ev_assign rfl) (by decide) ?_
  refine sr_end (l' := [(0, .int .u8 c_0), (3, .bool ((decide (c_0 ≥ 97)) && (decide (c_0 ≤ 122))))]) (.cons rfl (.cons rfl (.nil _))) ?_
  refine ke_cond (t := (decide (c_0 ≥ 97)) && (decide (c_0 ≤ 122))) rfl (fun hc8 => ?_) (fun hc8 => ?_)
  ·replace hS := ite_true' hS hc8
   refine ke_seq ?_
   refine ke_region ?_
   refine sr_ev (v := .int .i64 0) (ev_assign rfl) (by decide) ?_
   refine sr_end (l' := [(2, .int .i64 0)]) (.cons rfl (.nil _)) ?_
   cases hS
   exact ke_ret1 Tryd.func44 rfl rfl ⟨_, rfl, rfl, hb⟩
  ·replace hS := ite_false' hS hc8
   refine ke_seq ?_
   refine ke_region ?_
   refine sr_ev (v := .int .u8 c_0) (ev_move rfl) (by decide) ?_
   refine sr_ev (v := .bool (decide (c_0 ≥ 65))) (ev_ge rfl rfl) (by decide) ?_
   refine sr_ev (v := .bool (decide (c_0 ≥ 65))) (ev_move rfl) (by decide) ?_
   refine sr_join (m := 3) (C := fun (x : Bool) w1 => x = ((decide (c_0 ≥ 65)) && (decide (c_0 ≤ 90))) ∧ w0 = w1) (l' := fun x => [(0, .int .u8 c_0), (16, .bool x)]) ?_ ?_
   ·rintro _ _ ⟨rfl, rfl⟩
    refine sr_ev (v := .bool ((decide (c_0 ≥ 65)) && (decide (c_0 ≤ 90)))) (ev_assign rfl) (by decide) ?_
    refine sr_end (l' := [(0, .int .u8 c_0), (10, .bool ((decide (c_0 ≥ 65)) && (decide (c_0 ≤ 90))))]) (.cons rfl (.cons rfl (.nil _))) ?_
    refine ke_cond (t := (decide (c_0 ≥ 65)) && (decide (c_0 ≤ 90))) rfl (fun hc16 => ?_) (fun hc16 => ?_)
    ·replace hS := ite_true' hS hc16
     refine ke_seq ?_
     refine ke_region ?_
     refine sr_ev (v := .int .i64 1) (ev_assign rfl) (by decide) ?_
     refine sr_end (l' := [(2, .int .i64 1)]) (.cons rfl (.nil _)) ?_
     cases hS
     exact ke_ret1 Tryd.func44 rfl rfl ⟨_, rfl, rfl, hb⟩
    ·replace hS := ite_false' hS hc16
     refine ke_seq ?_
     refine ke_region ?_
     refine sr_ev (v := .int .u8 c_0) (ev_move rfl) (by decide) ?_
     refine sr_ev (v := .bool (decide (c_0 ≥ 48))) (ev_ge rfl rfl) (by decide) ?_
     refine sr_ev (v := .bool (decide (c_0 ≥ 48))) (ev_move rfl) (by decide) ?_
     refine sr_join (m := 3) (C := fun (x : Bool) w1 => x = ((decide (c_0 ≥ 48)) && (decide (c_0 ≤ 57))) ∧ w0 = w1) (l' := fun x => [(23, .bool x)]) ?_ ?_
     ·rintro _ _ ⟨rfl, rfl⟩
      refine sr_ev (v := .bool ((decide (c_0 ≥ 48)) && (decide (c_0 ≤ 57)))) (ev_assign rfl) (by decide) ?_
      refine sr_end (l' := [(17, .bool ((decide (c_0 ≥ 48)) && (decide (c_0 ≤ 57))))]) (.cons rfl (.nil _)) ?_
      refine ke_cond (t := (decide (c_0 ≥ 48)) && (decide (c_0 ≤ 57))) rfl (fun hc24 => ?_) (fun hc24 => ?_)
      ·replace hS := ite_true' hS hc24
       refine ke_seq ?_
       refine ke_region ?_
       refine sr_ev (v := .int .i64 2) (ev_assign rfl) (by decide) ?_
       refine sr_end (l' := [(2, .int .i64 2)]) (.cons rfl (.nil _)) ?_
       cases hS
       exact ke_ret1 Tryd.func44 rfl rfl ⟨_, rfl, rfl, hb⟩
      ·replace hS := ite_false' hS hc24
       refine ke_skip ?_
       refine ke_inBlock ?_
       refine ke_seq ?_
       refine ke_region ?_
       refine sr_ev (v := .int .i64 3) (ev_assign rfl) (by decide) ?_
       refine sr_end (l' := [(2, .int .i64 3)]) (.cons rfl (.nil _)) ?_
       cases hS
       exact ke_ret1 Tryd.func44 rfl rfl ⟨_, rfl, rfl, hb⟩
     ·intro K18
      rcases Bool.eq_false_or_eq_true (decide (c_0 ≥ 48)) with hg17 | hg17
      ·refine sr_evg (b := true) (e := 20) rfl rfl hg17 (v := .int .u8 c_0) (ev_move rfl) (by decide) ?_
       refine sr_evg (b := true) (e := 20) rfl rfl hg17 (v := .bool (decide (c_0 ≤ 57))) (ev_le rfl rfl) (by decide) ?_
       refine sr_ev (v := .bool (decide (c_0 ≤ 57))) (ev_pick_t rfl hg17 rfl) (by decide) ?_
       exact sr_weaken (l' := [(23, .bool (decide (c_0 ≤ 57)))]) (.cons rfl (.nil _)) (K18 (decide (c_0 ≤ 57)) _ ⟨by rw [hg17]; rfl, rfl⟩)
      ·refine sr_pass (e := 20) rfl rfl (by rw [hg17]; rfl) (by decide) ?_
       refine sr_pass (e := 20) rfl rfl (by rw [hg17]; rfl) (by decide) ?_
       refine sr_ev (v := .bool false) (ev_pick_f rfl hg17 rfl) (by decide) ?_
       exact sr_weaken (l' := [(23, .bool false)]) (.cons rfl (.nil _)) (K18 false _ ⟨by rw [hg17]; rfl, rfl⟩)
   ·intro K10
    rcases Bool.eq_false_or_eq_true (decide (c_0 ≥ 65)) with hg9 | hg9
    ·refine sr_evg (b := true) (e := 13) rfl rfl hg9 (v := .int .u8 c_0) (ev_move rfl) (by decide) ?_
     refine sr_evg (b := true) (e := 13) rfl rfl hg9 (v := .bool (decide (c_0 ≤ 90))) (ev_le rfl rfl) (by decide) ?_
     refine sr_ev (v := .bool (decide (c_0 ≤ 90))) (ev_pick_t rfl hg9 rfl) (by decide) ?_
     exact sr_weaken (l' := [(0, .int .u8 c_0), (16, .bool (decide (c_0 ≤ 90)))]) (.cons rfl (.cons rfl (.nil _))) (K10 (decide (c_0 ≤ 90)) _ ⟨by rw [hg9]; rfl, rfl⟩)
    ·refine sr_pass (e := 13) rfl rfl (by rw [hg9]; rfl) (by decide) ?_
     refine sr_pass (e := 13) rfl rfl (by rw [hg9]; rfl) (by decide) ?_
     refine sr_ev (v := .bool false) (ev_pick_f rfl hg9 rfl) (by decide) ?_
     exact sr_weaken (l' := [(0, .int .u8 c_0), (16, .bool false)]) (.cons rfl (.cons rfl (.nil _))) (K10 false _ ⟨by rw [hg9]; rfl, rfl⟩)
 ·intro K2
  rcases Bool.eq_false_or_eq_true (decide (c_0 ≥ 97)) with hg1 | hg1
  ·refine sr_evg (b := true) (e := 6) rfl rfl hg1 (v := .int .u8 c_0) (ev_move rfl) (by decide) ?_
   refine sr_evg (b := true) (e := 6) rfl rfl hg1 (v := .bool (decide (c_0 ≤ 122))) (ev_le rfl rfl) (by decide) ?_
   refine sr_ev (v := .bool (decide (c_0 ≤ 122))) (ev_pick_t rfl hg1 rfl) (by decide) ?_
   exact sr_weaken (l' := [(0, .int .u8 c_0), (9, .bool (decide (c_0 ≤ 122)))]) (.cons rfl (.cons rfl (.nil _))) (K2 (decide (c_0 ≤ 122)) _ ⟨by rw [hg1]; rfl, rfl⟩)
  ·refine sr_pass (e := 6) rfl rfl (by rw [hg1]; rfl) (by decide) ?_
   refine sr_pass (e := 6) rfl rfl (by rw [hg1]; rfl) (by decide) ?_
   refine sr_ev (v := .bool false) (ev_pick_f rfl hg1 rfl) (by decide) ?_
   exact sr_weaken (l' := [(0, .int .u8 c_0), (9, .bool false)]) (.cons rfl (.cons rfl (.nil _))) (K2 false _ ⟨by rw [hg1]; rfl, rfl⟩)
theorem ref01_Lower_B2_ok {w0 : World} (hg : Gs w0) {A0 : Nat → Prop} (hA0 : ∀ b, A0 b → b < w0.heap.size) (r0 : Str → List Int → Int → Option (Str))
  (hr0 : ∀ {r : Str} {s_0 : Str} {b_3 : List Int} {i_4 : Int} {vb_3 : Value}, r0 s_0 b_3 i_4 = some r → ∀ {w : World} {A : Nat → Prop}, (Below w0.heap.size w0 w) → (∀ b, A b → b < w.heap.size) → (∀ b, A0 b → A b) → (Hp A w0.heap.size w []) → (OwnS (intC .u8) 5 A w0.heap.size w vb_3 b_3) → (Dj vb_3 []) → KE Tryd.prog 46 (Ret (fun v w' => v = str r ∧ Below w0.heap.size w0 w')) 30 [.inLoop (sub (bodyOf Tryd.f46) [2, 2, 1, 2, 2, 1]), .inBlock 0, .code (sub (bodyOf Tryd.f46) [2, 2, 2])] [(0, str s_0), (3, vb_3), (4, .int .i64 i_4)] w) {r : Str} {s_0 : Str} {b_3 : List Int} {i_4 : Int} {c_5 : Int} {vb_3 : Value} (hS : ref01_Lower_B2 r0 s_0 b_3 i_4 c_5 = some r) {w : World} {A : Nat → Prop} (hb : Below w0.heap.size w0 w) (hA : ∀ b, A b → b < w.heap.size) (hi : ∀ b, A0 b → A b) (hH : Hp A w0.heap.size w []) (hb_3 : OwnS (intC .u8) 5 A w0.heap.size w vb_3 b_3) (db_3 : Dj vb_3 []) :
  KE Tryd.prog 46 (Ret (fun v w' => v = str r ∧ Below w0.heap.size w0 w')) 30 [.code (sub (bodyOf Tryd.f46) [2, 2, 1, 2, 2, 1, 2, 1, 2, 2, 2]), .inBlock 1, .code (sub (bodyOf Tryd.f46) [2, 2, 1, 2, 2, 1, 2, 2]), .inLoop (sub (bodyOf Tryd.f46) [2, 2, 1, 2, 2, 1]), .inBlock 0, .code (sub (bodyOf Tryd.f46) [2, 2, 2])] [(0, str s_0), (3, vb_3), (4, .int .i64 i_4), (5, .int .u8 c_5)] w := by
 unfold ref01_Lower_B2 at hS
 refine ke_region ?_
 refine sr_ev (v := vb_3) (ev_move rfl) (by decide) ?_
 refine sr_ev (v := .int .u8 c_5) (ev_move rfl) (by decide) ?_
 refine sr_lit (c := (intC .u8)) (A := A) (E := 5) (xs := [c_5]) (vs := #[(0, .int .u8 c_5)]) (cs := #[.int .u8 c_5]) (css := [[.int .u8 c_5]]) rfl (fun _ => by kernel_rfl) rfl ⟨rfl, trivial⟩ rfl (by decide) hA (by decide) ?_
 intro v11 w13 h12 hbw14
 replace hb := hb.trans (hbw14.mono hb.size)
 replace hA := lt_mono hA hbw14.size
 replace hH := hH.below hbw14
 replace hb_3 := hb_3.below hbw14
 obtain ⟨hk15, hS⟩ := chk_some hS
 refine sr_append (c := (intC .u8)) (A := A) (B := w0.heap.size) (E := 5) (xs := b_3) (ys := ([c_5] : List Int)) hb_3 h12 Tryd.underlying80 Tryd.info5 rfl rfl rfl (by decide) (by decide) hA hb.size hk15 rfl rfl (by decide) ?_
 intro v16 A18 w19 h17 hst20 hbB21 hinc22 hA1 hoth23 hold
 have dj24 : Dj v16 [] := fun p hp e => by rcases hold _ e with h | h; exact db_3 p hp h; have := hH.lt hp; omega
 replace hb := hb.trans hbB21
 replace hi := fun b hb => hinc22 b (hi b hb)
 replace hH := hH.keep hinc22 (fun p hp => hoth23 _ (hH.lt hp) (db_3 p hp))
 replace hA := hA1
 clear hA1
 refine sr_ev (v := v16) (ev_assign rfl) (by decide) ?_
 refine sr_end (l' := [(0, str s_0), (3, v16), (4, .int .i64 i_4)]) (.cons rfl (.cons rfl (.cons rfl (.nil _)))) ?_
 refine ke_inBlock ?_
 refine ke_region ?_
 refine sr_ev (v := .int .i64 i_4) (ev_move rfl) (by decide) ?_
 refine sr_ev (v := .int .i64 (IntKind.i64.wrap (i_4 + 1))) (ev_add rfl rfl) (by decide) ?_
 refine sr_ev (v := .int .i64 (IntKind.i64.wrap (i_4 + 1))) (ev_assign rfl) (by decide) ?_
 refine sr_end (l' := [(0, str s_0), (3, v16), (4, .int .i64 (IntKind.i64.wrap (i_4 + 1)))]) (.cons rfl (.cons rfl (.cons rfl (.nil _)))) ?_
 have hK := hr0 hS hb hA hi hH h17 dj24
 exact ke_weaken (l' := [(0, str s_0), (3, v16), (4, .int .i64 (IntKind.i64.wrap (i_4 + 1)))]) (.cons rfl (.cons rfl (.cons rfl (.nil _)))) hK
theorem ref01_Lower_L1_ok {w0 : World} (hg : Gs w0) {A0 : Nat → Prop} (hA0 : ∀ b, A0 b → b < w0.heap.size) : ∀ (n : Nat), ∀ {r : Str} {s_0 : Str} {b_3 : List Int} {i_4 : Int} {vb_3 : Value}, ref01_Lower_L1 n s_0 b_3 i_4 = some r → ∀ {w : World} {A : Nat → Prop}, (Below w0.heap.size w0 w) → (∀ b, A b → b < w.heap.size) → (∀ b, A0 b → A b) → (Hp A w0.heap.size w []) → (OwnS (intC .u8) 5 A w0.heap.size w vb_3 b_3) → (Dj vb_3 []) → KE Tryd.prog 46 (Ret (fun v w' => v = str r ∧ Below w0.heap.size w0 w')) 30 [.code (sub (bodyOf Tryd.f46) [2, 2, 1, 2, 2, 1]), .inLoop (sub (bodyOf Tryd.f46) [2, 2, 1, 2, 2, 1]), .inBlock 0, .code (sub (bodyOf Tryd.f46) [2, 2, 2])] [(0, str s_0), (3, vb_3), (4, .int .i64 i_4)] w := by
 intro n
 induction n with
 | zero => intro r s_0 b_3 i_4 vb_3 hS; cases hS
 | succ n ih =>
  have hr0 : ∀ {r : Str} {s_0 : Str} {b_3 : List Int} {i_4 : Int} {vb_3 : Value}, ref01_Lower_L1 n s_0 b_3 i_4 = some r → ∀ {w : World} {A : Nat → Prop}, (Below w0.heap.size w0 w) → (∀ b, A b → b < w.heap.size) → (∀ b, A0 b → A b) → (Hp A w0.heap.size w []) → (OwnS (intC .u8) 5 A w0.heap.size w vb_3 b_3) → (Dj vb_3 []) → KE Tryd.prog 46 (Ret (fun v w' => v = str r ∧ Below w0.heap.size w0 w')) 30 [.inLoop (sub (bodyOf Tryd.f46) [2, 2, 1, 2, 2, 1]), .inBlock 0, .code (sub (bodyOf Tryd.f46) [2, 2, 2])] [(0, str s_0), (3, vb_3), (4, .int .i64 i_4)] w := fun {r} {s_0} {b_3} {i_4} {vb_3} hS {w} {A} hb hA hi hH hb_3 db_3 => ke_inLoop (ih hS hb hA hi hH hb_3 db_3)
  clear ih
  intro r s_0 b_3 i_4 vb_3 hS w A hb hA hi hH hb_3 db_3
  unfold ref01_Lower_L1 at hS
  refine ke_seq ?_
  refine ke_seq ?_
  refine ke_region ?_
  refine sr_ev (v := .int .i64 i_4) (ev_move rfl) (by decide) ?_
  refine sr_ev (v := str s_0) (ev_move rfl) (by decide) ?_
  refine sr_ev (v := .int .i64 (s_0.length : Int)) (ev_slen Tryd.underlying9 rfl) (by decide) ?_
  refine sr_ev (v := .bool (decide (i_4 < (s_0.length : Int)))) (ev_lt rfl rfl) (by decide) ?_
  refine sr_end (l' := [(0, str s_0), (3, vb_3), (4, .int .i64 i_4), (9, .bool (decide (i_4 < (s_0.length : Int))))]) (.cons rfl (.cons rfl (.cons rfl (.cons rfl (.nil _))))) ?_
  refine ke_cond (t := decide (i_4 < (s_0.length : Int))) rfl (fun hc1 => ?_) (fun hc1 => ?_)
  ·replace hS := ite_true' hS hc1
   refine ke_skip ?_
   refine ke_seq ?_
   refine ke_block ?_
   refine ke_seq ?_
   refine ke_region ?_
   refine sr_ev (v := str s_0) (ev_move rfl) (by decide) ?_
   refine sr_ev (v := .int .i64 i_4) (ev_move rfl) (by decide) ?_
   obtain ⟨hk2, hS⟩ := chk_some hS
   refine sr_ev (v := .int .u8 (byteAt s_0 i_4)) (ev_sindex Tryd.underlying9 rfl rfl hk2) (by decide) ?_
   refine sr_ev (v := .int .u8 (byteAt s_0 i_4)) (ev_assign rfl) (by decide) ?_
   refine sr_end (l' := [(0, str s_0), (3, vb_3), (4, .int .i64 i_4), (5, .int .u8 (byteAt s_0 i_4))]) (.cons rfl (.cons rfl (.cons rfl (.cons rfl (.nil _))))) ?_
   refine ke_seq ?_
   refine ke_seq ?_
   refine ke_region ?_
   refine sr_ev (v := .int .u8 (byteAt s_0 i_4)) (ev_move rfl) (by decide) ?_
   refine sr_ev (v := .bool (decide ((byteAt s_0 i_4) ≥ 65))) (ev_ge rfl rfl) (by decide) ?_
   refine sr_ev (v := .bool (decide ((byteAt s_0 i_4) ≥ 65))) (ev_move rfl) (by decide) ?_
   refine sr_join (m := 3) (C := fun (x : Bool) w1 => x = ((decide ((byteAt s_0 i_4) ≥ 65)) && (decide ((byteAt s_0 i_4) ≤ 90))) ∧ w = w1) (l' := fun x => [(0, str s_0), (3, vb_3), (4, .int .i64 i_4), (5, .int .u8 (byteAt s_0 i_4)), (20, .bool x)]) ?_ ?_
   ·rintro _ _ ⟨rfl, rfl⟩
    refine sr_end (l' := [(0, str s_0), (3, vb_3), (4, .int .i64 i_4), (5, .int .u8 (byteAt s_0 i_4)), (20, .bool ((decide ((byteAt s_0 i_4) ≥ 65)) && (decide ((byteAt s_0 i_4) ≤ 90))))]) (.cons rfl (.cons rfl (.cons rfl (.cons rfl (.cons rfl (.nil _)))))) ?_
    refine ke_cond (t := (decide ((byteAt s_0 i_4) ≥ 65)) && (decide ((byteAt s_0 i_4) ≤ 90))) rfl (fun hc10 => ?_) (fun hc10 => ?_)
    ·replace hS := ite_true' hS hc10
     refine ke_region ?_
     refine sr_ev (v := .int .u8 (byteAt s_0 i_4)) (ev_move rfl) (by decide) ?_
     refine sr_ev (v := .int .u8 (IntKind.u8.wrap ((byteAt s_0 i_4) + 97))) (ev_add rfl rfl) (by decide) ?_
     refine sr_ev (v := .int .u8 (IntKind.u8.wrap ((IntKind.u8.wrap ((byteAt s_0 i_4) + 97)) - 65))) (ev_sub rfl rfl) (by decide) ?_
     refine sr_ev (v := .int .u8 (IntKind.u8.wrap ((IntKind.u8.wrap ((byteAt s_0 i_4) + 97)) - 65))) (ev_assign rfl) (by decide) ?_
     refine sr_end (l' := [(0, str s_0), (3, vb_3), (4, .int .i64 i_4), (5, .int .u8 (IntKind.u8.wrap ((IntKind.u8.wrap ((byteAt s_0 i_4) + 97)) - 65)))]) (.cons rfl (.cons rfl (.cons rfl (.cons rfl (.nil _))))) ?_
     have hK := ref01_Lower_B2_ok hg hA0 _ hr0 hS hb hA hi hH hb_3 db_3
     exact ke_weaken (l' := [(0, str s_0), (3, vb_3), (4, .int .i64 i_4), (5, .int .u8 (IntKind.u8.wrap ((IntKind.u8.wrap ((byteAt s_0 i_4) + 97)) - 65)))]) (.cons rfl (.cons rfl (.cons rfl (.cons rfl (.nil _))))) hK
    ·replace hS := ite_false' hS hc10
     refine ke_skip ?_
     have hK := ref01_Lower_B2_ok hg hA0 _ hr0 hS hb hA hi hH hb_3 db_3
     exact ke_weaken (l' := [(0, str s_0), (3, vb_3), (4, .int .i64 i_4), (5, .int .u8 (byteAt s_0 i_4))]) (.cons rfl (.cons rfl (.cons rfl (.cons rfl (.nil _))))) hK
   ·intro K4
    rcases Bool.eq_false_or_eq_true (decide ((byteAt s_0 i_4) ≥ 65)) with hg3 | hg3
    ·refine sr_evg (b := true) (e := 17) rfl rfl hg3 (v := .int .u8 (byteAt s_0 i_4)) (ev_move rfl) (by decide) ?_
     refine sr_evg (b := true) (e := 17) rfl rfl hg3 (v := .bool (decide ((byteAt s_0 i_4) ≤ 90))) (ev_le rfl rfl) (by decide) ?_
     refine sr_ev (v := .bool (decide ((byteAt s_0 i_4) ≤ 90))) (ev_pick_t rfl hg3 rfl) (by decide) ?_
     exact sr_weaken (l' := [(0, str s_0), (3, vb_3), (4, .int .i64 i_4), (5, .int .u8 (byteAt s_0 i_4)), (20, .bool (decide ((byteAt s_0 i_4) ≤ 90)))]) (.cons rfl (.cons rfl (.cons rfl (.cons rfl (.cons rfl (.nil _)))))) (K4 (decide ((byteAt s_0 i_4) ≤ 90)) _ ⟨by rw [hg3]; rfl, rfl⟩)
    ·refine sr_pass (e := 17) rfl rfl (by rw [hg3]; rfl) (by decide) ?_
     refine sr_pass (e := 17) rfl rfl (by rw [hg3]; rfl) (by decide) ?_
     refine sr_ev (v := .bool false) (ev_pick_f rfl hg3 rfl) (by decide) ?_
     exact sr_weaken (l' := [(0, str s_0), (3, vb_3), (4, .int .i64 i_4), (5, .int .u8 (byteAt s_0 i_4)), (20, .bool false)]) (.cons rfl (.cons rfl (.cons rfl (.cons rfl (.cons rfl (.nil _)))))) (K4 false _ ⟨by rw [hg3]; rfl, rfl⟩)
  ·replace hS := ite_false' hS hc1
   refine ke_exit (k' := _) rfl ?_
   refine ke_seq ?_
   refine ke_region ?_
   refine sr_ev (v := vb_3) (ev_move rfl) (by decide) ?_
   refine sr_ev (v := str (bytesStr b_3)) (ev_b2s hb_3.asSl Tryd.underlying80 Tryd.underlying5 Tryd.underlying9 rfl) (by decide) ?_
   refine sr_ev (v := str (bytesStr b_3)) (ev_assign rfl) (by decide) ?_
   refine sr_end (l' := [(2, str (bytesStr b_3))]) (.cons rfl (.nil _)) ?_
   cases hS
   exact ke_ret1 Tryd.func46 rfl rfl ⟨_, rfl, rfl, hb⟩
theorem ref01_Lower_ok (w0 : World) (hg : Gs w0) {s_0 : Str} {r : Str} (hS : ref01_Lower s_0 = some r) :
  Calls Tryd.prog 46 #[str s_0] w0 (Ret (fun v w' => v = str r ∧ Below w0.heap.size w0 w')) := by
 unfold ref01_Lower at hS
 have hb := Below.refl w0.heap.size w0
 obtain ⟨A0, hA0, hAe⟩ : ∃ A0 : Nat → Prop, (∀ b, A0 b → b < w0.heap.size) ∧ A0 = fun _ => False := ⟨_, fun _ h => h.elim, rfl⟩
 clear hAe
 have hA := hA0
 have hi : ∀ b, A0 b → A0 b := fun _ h => h
 have hH := Hp.nil A0 w0.heap.size w0
 refine calls_of_ke Tryd.func46 rfl (n := 30) rfl rfl (l := [(0, str s_0)]) rfl ?_
 refine ke_seq ?_
 refine ke_region ?_
 refine sr_ev (v := str ([])) (ev_assign rfl) (by decide) ?_
 refine sr_end (l' := [(0, str s_0)]) (.cons rfl (.nil _)) ?_
 refine ke_seq ?_
 refine ke_region ?_
 refine sr_ev (v := .slice none 0 0) (ev_assign rfl) (by decide) ?_
 refine sr_end (l' := [(0, str s_0), (3, .slice none 0 0)]) (.cons rfl (.cons rfl (.nil _))) ?_
 refine ke_seq ?_
 refine ke_seq ?_
 refine ke_region ?_
 refine sr_ev (v := .int .i64 0) (ev_assign rfl) (by decide) ?_
 refine sr_end (l' := [(0, str s_0), (3, .slice none 0 0), (4, .int .i64 0)]) (.cons rfl (.cons rfl (.cons rfl (.nil _)))) ?_
 refine ke_block ?_
 have hK := ref01_Lower_L1_ok hg hA0 _ hS hb hA hi hH OwnS.nil (Dj.nil _)
 exact ke_weaken (l' := [(0, str s_0), (3, (.slice none 0 0)), (4, .int .i64 0)]) (.cons rfl (.cons rfl (.cons rfl (.nil _)))) (ke_loop hK)
theorem ref22_contains_L1_ok {w0 : World} (hg : Gs w0) : ∀ (n : Nat), ∀ {r : Bool} {s_0 : Str} {part_1 : Str} {i_5 : Int}, ref22_contains_L1 n s_0 part_1 i_5 = some r → ∀ {w : World}, (Below w0.heap.size w0 w) → KE Tryd.prog 45 (Ret (fun v w' => v = .bool r ∧ Below w0.heap.size w0 w')) 24 [.code (sub (bodyOf Tryd.f45) [2, 1, 2, 2, 1]), .inLoop (sub (bodyOf Tryd.f45) [2, 1, 2, 2, 1]), .inBlock 0, .code (sub (bodyOf Tryd.f45) [2, 2])] [(0, str s_0), (1, str part_1), (5, .int .i64 i_5)] w := by
 intro n
 induction n with
 | zero => intro r s_0 part_1 i_5 hS; cases hS
 | succ n ih =>
  have hr0 : ∀ {r : Bool} {s_0 : Str} {part_1 : Str} {i_5 : Int}, ref22_contains_L1 n s_0 part_1 i_5 = some r → ∀ {w : World}, (Below w0.heap.size w0 w) → KE Tryd.prog 45 (Ret (fun v w' => v = .bool r ∧ Below w0.heap.size w0 w')) 24 [.inLoop (sub (bodyOf Tryd.f45) [2, 1, 2, 2, 1]), .inBlock 0, .code (sub (bodyOf Tryd.f45) [2, 2])] [(0, str s_0), (1, str part_1), (5, .int .i64 i_5)] w := fun {r} {s_0} {part_1} {i_5} hS {w} hb => ke_inLoop (ih hS hb)
  clear ih
  intro r s_0 part_1 i_5 hS w hb
  unfold ref22_contains_L1 at hS
  refine ke_seq ?_
  refine ke_seq ?_
  refine ke_region ?_
  refine sr_ev (v := .int .i64 i_5) (ev_move rfl) (by decide) ?_
  refine sr_ev (v := str part_1) (ev_move rfl) (by decide) ?_
  refine sr_ev (v := .int .i64 (part_1.length : Int)) (ev_slen Tryd.underlying9 rfl) (by decide) ?_
  refine sr_ev (v := .int .i64 (IntKind.i64.wrap (i_5 + (part_1.length : Int)))) (ev_add rfl rfl) (by decide) ?_
  refine sr_ev (v := str s_0) (ev_move rfl) (by decide) ?_
  refine sr_ev (v := .int .i64 (s_0.length : Int)) (ev_slen Tryd.underlying9 rfl) (by decide) ?_
  refine sr_ev (v := .bool (decide ((IntKind.i64.wrap (i_5 + (part_1.length : Int))) ≤ (s_0.length : Int)))) (ev_le rfl rfl) (by decide) ?_
  refine sr_end (l' := [(0, str s_0), (1, str part_1), (5, .int .i64 i_5), (12, .bool (decide ((IntKind.i64.wrap (i_5 + (part_1.length : Int))) ≤ (s_0.length : Int))))]) (.cons rfl (.cons rfl (.cons rfl (.cons rfl (.nil _))))) ?_
  refine ke_cond (t := decide ((IntKind.i64.wrap (i_5 + (part_1.length : Int))) ≤ (s_0.length : Int))) rfl (fun hc1 => ?_) (fun hc1 => ?_)
  ·replace hS := ite_true' hS hc1
   refine ke_skip ?_
   refine ke_seq ?_
   refine ke_block ?_
   refine ke_seq ?_
   refine ke_region ?_
   refine sr_ev (v := str s_0) (ev_move rfl) (by decide) ?_
   refine sr_ev (v := .int .i64 i_5) (ev_move rfl) (by decide) ?_
   refine sr_ev (v := .int .i64 i_5) (ev_move rfl) (by decide) ?_
   refine sr_ev (v := str part_1) (ev_move rfl) (by decide) ?_
   refine sr_ev (v := .int .i64 (part_1.length : Int)) (ev_slen Tryd.underlying9 rfl) (by decide) ?_
   refine sr_ev (v := .int .i64 (IntKind.i64.wrap (i_5 + (part_1.length : Int)))) (ev_add rfl rfl) (by decide) ?_
   obtain ⟨hk2, hS⟩ := chk_some hS
   refine sr_ev (v := str (cut s_0 i_5 (IntKind.i64.wrap (i_5 + (part_1.length : Int))))) (ev_sslice Tryd.underlying9 rfl rfl rfl hk2) (by decide) ?_
   refine sr_ev (v := str part_1) (ev_move rfl) (by decide) ?_
   refine sr_ev (v := .bool ((cut s_0 i_5 (IntKind.i64.wrap (i_5 + (part_1.length : Int)))) == part_1)) (ev_seq rfl rfl) (by decide) ?_
   refine sr_end (l' := [(0, str s_0), (1, str part_1), (5, .int .i64 i_5), (23, .bool ((cut s_0 i_5 (IntKind.i64.wrap (i_5 + (part_1.length : Int)))) == part_1))]) (.cons rfl (.cons rfl (.cons rfl (.cons rfl (.nil _))))) ?_
   refine ke_cond (t := (cut s_0 i_5 (IntKind.i64.wrap (i_5 + (part_1.length : Int)))) == part_1) rfl (fun hc3 => ?_) (fun hc3 => ?_)
   ·replace hS := ite_true' hS hc3
    refine ke_seq ?_
    refine ke_region ?_
    refine sr_ev (v := .bool true) (ev_assign rfl) (by decide) ?_
    refine sr_end (l' := [(4, .bool true)]) (.cons rfl (.nil _)) ?_
    cases hS
    exact ke_ret1 Tryd.func45 rfl rfl ⟨_, rfl, rfl, hb⟩
   ·replace hS := ite_false' hS hc3
    refine ke_skip ?_
    refine ke_inBlock ?_
    refine ke_region ?_
    refine sr_ev (v := .int .i64 i_5) (ev_move rfl) (by decide) ?_
    refine sr_ev (v := .int .i64 (IntKind.i64.wrap (i_5 + 1))) (ev_add rfl rfl) (by decide) ?_
    refine sr_ev (v := .int .i64 (IntKind.i64.wrap (i_5 + 1))) (ev_assign rfl) (by decide) ?_
    refine sr_end (l' := [(0, str s_0), (1, str part_1), (5, .int .i64 (IntKind.i64.wrap (i_5 + 1)))]) (.cons rfl (.cons rfl (.cons rfl (.nil _)))) ?_
    have hK := hr0 hS hb
    exact ke_weaken (l' := [(0, str s_0), (1, str part_1), (5, .int .i64 (IntKind.i64.wrap (i_5 + 1)))]) (.cons rfl (.cons rfl (.cons rfl (.nil _)))) hK
  ·replace hS := ite_false' hS hc1
   refine ke_exit (k' := _) rfl ?_
   refine ke_seq ?_
   refine ke_region ?_
   refine sr_ev (v := .bool false) (ev_assign rfl) (by decide) ?_
   refine sr_end (l' := [(4, .bool false)]) (.cons rfl (.nil _)) ?_
   cases hS
   exact ke_ret1 Tryd.func45 rfl rfl ⟨_, rfl, rfl, hb⟩
theorem ref22_contains_ok (w0 : World) (hg : Gs w0) {s_0 : Str} {part_1 : Str} {r : Bool} (hS : ref22_contains s_0 part_1 = some r) :
  Calls Tryd.prog 45 #[str s_0, str part_1] w0 (Ret (fun v w' => v = .bool r ∧ Below w0.heap.size w0 w')) := by
 unfold ref22_contains at hS
 have hb := Below.refl w0.heap.size w0
 refine calls_of_ke Tryd.func45 rfl (n := 24) rfl rfl (l := [(0, str s_0), (1, str part_1)]) rfl ?_
 refine ke_seq ?_
 refine ke_region ?_
 refine sr_ev (v := .bool false) (ev_assign rfl) (by decide) ?_
 refine sr_end (l' := [(0, str s_0), (1, str part_1)]) (.cons rfl (.cons rfl (.nil _))) ?_
 refine ke_seq ?_
 refine ke_seq ?_
 refine ke_region ?_
 refine sr_ev (v := .int .i64 0) (ev_assign rfl) (by decide) ?_
 refine sr_end (l' := [(0, str s_0), (1, str part_1), (5, .int .i64 0)]) (.cons rfl (.cons rfl (.cons rfl (.nil _)))) ?_
 refine ke_block ?_
 have hK := ref22_contains_L1_ok hg _ hS hb
 exact ke_weaken (l' := [(0, str s_0), (1, str part_1), (5, .int .i64 0)]) (.cons rfl (.cons rfl (.cons rfl (.nil _)))) (ke_loop hK)
theorem ref22_Quality_B3_ok {w0 : World} (hg : Gs w0) (r0 : Str → Str → Int → Int → Option (Int)) (r1 : Str → Str → Int → Int → Bool → Int → Option (Int))
  (hr0 : ∀ {r : Int} {password_0 : Str} {user_1 : Str} {n_5 : Int} {k_6 : Int}, r0 password_0 user_1 n_5 k_6 = some r → ∀ {w : World}, (Below w0.heap.size w0 w) → KE Tryd.prog 19 (Ret (fun v w' => v = .int .i64 r ∧ Below w0.heap.size w0 w')) 48 [.inLoop (sub (bodyOf Tryd.f19) [2, 2, 2, 1, 2, 2, 1]), .inBlock 0, .code (sub (bodyOf Tryd.f19) [2, 2, 2, 2])] [(0, str password_0), (1, str user_1), (5, .int .i64 n_5), (6, .int .i64 k_6)] w)
  (hr1 : ∀ {r : Int} {password_0 : Str} {user_1 : Str} {n_5 : Int} {k_6 : Int} {found_7 : Bool} {i_8 : Int}, r1 password_0 user_1 n_5 k_6 found_7 i_8 = some r → ∀ {w : World}, (Below w0.heap.size w0 w) → KE Tryd.prog 19 (Ret (fun v w' => v = .int .i64 r ∧ Below w0.heap.size w0 w')) 48 [.inLoop (sub (bodyOf Tryd.f19) [2, 2, 2, 1, 2, 2, 1, 2, 1, 2, 2, 1, 2, 2, 1]), .inBlock 2, .code (sub (bodyOf Tryd.f19) [2, 2, 2, 1, 2, 2, 1, 2, 1, 2, 2, 2]), .inBlock 1, .code (sub (bodyOf Tryd.f19) [2, 2, 2, 1, 2, 2, 1, 2, 2]), .inLoop (sub (bodyOf Tryd.f19) [2, 2, 2, 1, 2, 2, 1]), .inBlock 0, .code (sub (bodyOf Tryd.f19) [2, 2, 2, 2])] [(0, str password_0), (1, str user_1), (5, .int .i64 n_5), (6, .int .i64 k_6), (7, .bool found_7), (8, .int .i64 i_8)] w) {r : Int} {password_0 : Str} {user_1 : Str} {n_5 : Int} {k_6 : Int} (hS : ref22_Quality_B3 r0 r1 password_0 user_1 n_5 k_6 = some r) {w : World} (hb : Below w0.heap.size w0 w) :
  KE Tryd.prog 19 (Ret (fun v w' => v = .int .i64 r ∧ Below w0.heap.size w0 w')) 48 [.inBlock 1, .code (sub (bodyOf Tryd.f19) [2, 2, 2, 1, 2, 2, 1, 2, 2]), .inLoop (sub (bodyOf Tryd.f19) [2, 2, 2, 1, 2, 2, 1]), .inBlock 0, .code (sub (bodyOf Tryd.f19) [2, 2, 2, 2])] [(0, str password_0), (1, str user_1), (5, .int .i64 n_5), (6, .int .i64 k_6)] w := by
 unfold ref22_Quality_B3 at hS
 refine ke_inBlock ?_
 refine ke_region ?_
 refine sr_ev (v := .int .i64 k_6) (ev_move rfl) (by decide) ?_
 refine sr_ev (v := .int .i64 (IntKind.i64.wrap (k_6 + 1))) (ev_add rfl rfl) (by decide) ?_
 refine sr_ev (v := .int .i64 (IntKind.i64.wrap (k_6 + 1))) (ev_assign rfl) (by decide) ?_
 refine sr_end (l' := [(0, str password_0), (1, str user_1), (5, .int .i64 n_5), (6, .int .i64 (IntKind.i64.wrap (k_6 + 1)))]) (.cons rfl (.cons rfl (.cons rfl (.cons rfl (.nil _))))) ?_
 have hK := hr0 hS hb
 exact ke_weaken (l' := [(0, str password_0), (1, str user_1), (5, .int .i64 n_5), (6, .int .i64 (IntKind.i64.wrap (k_6 + 1)))]) (.cons rfl (.cons rfl (.cons rfl (.cons rfl (.nil _))))) hK
theorem ref22_Quality_L2_ok {w0 : World} (hg : Gs w0) (r0 : Str → Str → Int → Int → Option (Int))
  (hr0 : ∀ {r : Int} {password_0 : Str} {user_1 : Str} {n_5 : Int} {k_6 : Int}, r0 password_0 user_1 n_5 k_6 = some r → ∀ {w : World}, (Below w0.heap.size w0 w) → KE Tryd.prog 19 (Ret (fun v w' => v = .int .i64 r ∧ Below w0.heap.size w0 w')) 48 [.inLoop (sub (bodyOf Tryd.f19) [2, 2, 2, 1, 2, 2, 1]), .inBlock 0, .code (sub (bodyOf Tryd.f19) [2, 2, 2, 2])] [(0, str password_0), (1, str user_1), (5, .int .i64 n_5), (6, .int .i64 k_6)] w) : ∀ (n : Nat), ∀ {r : Int} {password_0 : Str} {user_1 : Str} {n_5 : Int} {k_6 : Int} {found_7 : Bool} {i_8 : Int}, ref22_Quality_L2 r0 n password_0 user_1 n_5 k_6 found_7 i_8 = some r → ∀ {w : World}, (Below w0.heap.size w0 w) → KE Tryd.prog 19 (Ret (fun v w' => v = .int .i64 r ∧ Below w0.heap.size w0 w')) 48 [.code (sub (bodyOf Tryd.f19) [2, 2, 2, 1, 2, 2, 1, 2, 1, 2, 2, 1, 2, 2, 1]), .inLoop (sub (bodyOf Tryd.f19) [2, 2, 2, 1, 2, 2, 1, 2, 1, 2, 2, 1, 2, 2, 1]), .inBlock 2, .code (sub (bodyOf Tryd.f19) [2, 2, 2, 1, 2, 2, 1, 2, 1, 2, 2, 2]), .inBlock 1, .code (sub (bodyOf Tryd.f19) [2, 2, 2, 1, 2, 2, 1, 2, 2]), .inLoop (sub (bodyOf Tryd.f19) [2, 2, 2, 1, 2, 2, 1]), .inBlock 0, .code (sub (bodyOf Tryd.f19) [2, 2, 2, 2])] [(0, str password_0), (1, str user_1), (5, .int .i64 n_5), (6, .int .i64 k_6), (7, .bool found_7), (8, .int .i64 i_8)] w := by
 intro n
 induction n with
 | zero => intro r password_0 user_1 n_5 k_6 found_7 i_8 hS; cases hS
 | succ n ih =>
  have hr1 : ∀ {r : Int} {password_0 : Str} {user_1 : Str} {n_5 : Int} {k_6 : Int} {found_7 : Bool} {i_8 : Int}, ref22_Quality_L2 r0 n password_0 user_1 n_5 k_6 found_7 i_8 = some r → ∀ {w : World}, (Below w0.heap.size w0 w) → KE Tryd.prog 19 (Ret (fun v w' => v = .int .i64 r ∧ Below w0.heap.size w0 w')) 48 [.inLoop (sub (bodyOf Tryd.f19) [2, 2, 2, 1, 2, 2, 1, 2, 1, 2, 2, 1, 2, 2, 1]), .inBlock 2, .code (sub (bodyOf Tryd.f19) [2, 2, 2, 1, 2, 2, 1, 2, 1, 2, 2, 2]), .inBlock 1, .code (sub (bodyOf Tryd.f19) [2, 2, 2, 1, 2, 2, 1, 2, 2]), .inLoop (sub (bodyOf Tryd.f19) [2, 2, 2, 1, 2, 2, 1]), .inBlock 0, .code (sub (bodyOf Tryd.f19) [2, 2, 2, 2])] [(0, str password_0), (1, str user_1), (5, .int .i64 n_5), (6, .int .i64 k_6), (7, .bool found_7), (8, .int .i64 i_8)] w := fun {r} {password_0} {user_1} {n_5} {k_6} {found_7} {i_8} hS {w} hb => ke_inLoop (ih hS hb)
  clear ih
  intro r password_0 user_1 n_5 k_6 found_7 i_8 hS w hb
  unfold ref22_Quality_L2 at hS
  refine ke_seq ?_
  refine ke_seq ?_
  refine ke_region ?_
  refine sr_ev (v := .int .i64 i_8) (ev_move rfl) (by decide) ?_
  refine sr_ev (v := str password_0) (ev_move rfl) (by decide) ?_
  refine sr_ev (v := .int .i64 (password_0.length : Int)) (ev_slen Tryd.underlying9 rfl) (by decide) ?_
  refine sr_ev (v := .bool (decide (i_8 < (password_0.length : Int)))) (ev_lt rfl rfl) (by decide) ?_
  refine sr_end (l' := [(0, str password_0), (1, str user_1), (5, .int .i64 n_5), (6, .int .i64 k_6), (7, .bool found_7), (8, .int .i64 i_8), (19, .bool (decide (i_8 < (password_0.length : Int))))]) (.cons rfl (.cons rfl (.cons rfl (.cons rfl (.cons rfl (.cons rfl (.cons rfl (.nil _)))))))) ?_
  refine ke_cond (t := decide (i_8 < (password_0.length : Int))) rfl (fun hc7 => ?_) (fun hc7 => ?_)
  ·replace hS := ite_true' hS hc7
   refine ke_skip ?_
   refine ke_seq ?_
   refine ke_block ?_
   refine ke_region ?_
   refine sr_ev (v := .bool found_7) (ev_move rfl) (by decide) ?_
   refine sr_ev (v := .bool found_7) (ev_move rfl) (by decide) ?_
   obtain ⟨z10, hz12, hS⟩ := bind_some' hS
   refine sr_join (m := 7) (C := fun (x : Bool) w1 => z10 = x ∧ Below w.heap.size w w1) (l' := fun x => [(0, str password_0), (1, str user_1), (5, .int .i64 n_5), (6, .int .i64 k_6), (8, .int .i64 i_8), (30, .bool x)]) ?_ ?_
   ·rintro _ w13 ⟨rfl, hbw14⟩
    replace hb := hb.trans (hbw14.mono hb.size)
    refine sr_ev (v := .bool z10) (ev_assign rfl) (by decide) ?_
    refine sr_end (l' := [(0, str password_0), (1, str user_1), (5, .int .i64 n_5), (6, .int .i64 k_6), (7, .bool z10), (8, .int .i64 i_8)]) (.cons rfl (.cons rfl (.cons rfl (.cons rfl (.cons rfl (.cons rfl (.nil _))))))) ?_
    refine ke_inBlock ?_
    refine ke_region ?_
    refine sr_ev (v := .int .i64 i_8) (ev_move rfl) (by decide) ?_
    refine sr_ev (v := .int .i64 (IntKind.i64.wrap (i_8 + 1))) (ev_add rfl rfl) (by decide) ?_
    refine sr_ev (v := .int .i64 (IntKind.i64.wrap (i_8 + 1))) (ev_assign rfl) (by decide) ?_
    refine sr_end (l' := [(0, str password_0), (1, str user_1), (5, .int .i64 n_5), (6, .int .i64 k_6), (7, .bool z10), (8, .int .i64 (IntKind.i64.wrap (i_8 + 1)))]) (.cons rfl (.cons rfl (.cons rfl (.cons rfl (.cons rfl (.cons rfl (.nil _))))))) ?_
    have hK := hr1 hS hb
    exact ke_weaken (l' := [(0, str password_0), (1, str user_1), (5, .int .i64 n_5), (6, .int .i64 k_6), (7, .bool z10), (8, .int .i64 (IntKind.i64.wrap (i_8 + 1)))]) (.cons rfl (.cons rfl (.cons rfl (.cons rfl (.cons rfl (.cons rfl (.nil _))))))) hK
   ·intro K9
    clear hS
    have hj11 := Below.refl w.heap.size w
    rcases Bool.eq_false_or_eq_true found_7 with hg8 | hg8
    ·have hS := ite_true' hz12 hg8
     refine sr_pass (e := 23) rfl rfl (by rw [hg8]; rfl) (by decide) ?_
     refine sr_pass (e := 23) rfl rfl (by rw [hg8]; rfl) (by decide) ?_
     refine sr_pass (e := 23) rfl rfl (by rw [hg8]; rfl) (by decide) ?_
     refine sr_pass (e := 23) rfl rfl (by rw [hg8]; rfl) (by decide) ?_
     refine sr_pass (e := 23) rfl rfl (by rw [hg8]; rfl) (by decide) ?_
     refine sr_pass (e := 23) rfl rfl (by rw [hg8]; rfl) (by decide) ?_
     refine sr_ev (v := .bool true) (ev_pick_t rfl hg8 rfl) (by decide) ?_
     exact sr_weaken (l' := [(0, str password_0), (1, str user_1), (5, .int .i64 n_5), (6, .int .i64 k_6), (8, .int .i64 i_8), (30, .bool true)]) (.cons rfl (.cons rfl (.cons rfl (.cons rfl (.cons rfl (.cons rfl (.nil _))))))) (K9 true _ ⟨(Option.some.inj hS).symm, hj11⟩)
    ·have hS := ite_false' hz12 hg8
     refine sr_evg (b := false) (e := 23) rfl rfl hg8 (v := str password_0) (ev_move rfl) (by decide) ?_
     refine sr_evg (b := false) (e := 23) rfl rfl hg8 (v := .int .i64 i_8) (ev_move rfl) (by decide) ?_
     obtain ⟨hk15, hS⟩ := chk_some hS
     refine sr_evg (b := false) (e := 23) rfl rfl hg8 (v := .int .u8 (byteAt password_0 i_8)) (ev_sindex Tryd.underlying9 rfl rfl hk15) (by decide) ?_
     obtain ⟨y16, hy17, hS⟩ := bind_some' hS
     refine sr_callg (b := false) (e := 23) rfl rfl hg8 (vs := [.int .u8 (byteAt password_0 i_8)]) rfl Tryd.call44 rfl (ref22_class_ok _ (hg.below hb) hy17) (by decide) ?_
     rintro _ w18 ⟨rfl, hbw19⟩
     replace hb := hb.trans (hbw19.mono hb.size)
     replace hj11 := hj11.trans (hbw19.mono hj11.size)
     refine sr_evg (b := false) (e := 23) rfl rfl hg8 (v := .int .i64 k_6) (ev_move rfl) (by decide) ?_
     refine sr_evg (b := false) (e := 23) rfl rfl hg8 (v := .bool (y16 == k_6)) (ev_eq rfl rfl) (by decide) ?_
     refine sr_ev (v := .bool (y16 == k_6)) (ev_pick_f rfl hg8 rfl) (by decide) ?_
     exact sr_weaken (l' := [(0, str password_0), (1, str user_1), (5, .int .i64 n_5), (6, .int .i64 k_6), (8, .int .i64 i_8), (30, .bool (y16 == k_6))]) (.cons rfl (.cons rfl (.cons rfl (.cons rfl (.cons rfl (.cons rfl (.nil _))))))) (K9 (y16 == k_6) _ ⟨(Option.some.inj hS).symm, hj11⟩)
  ·replace hS := ite_false' hS hc7
   refine ke_exit (k' := _) rfl ?_
   refine ke_seq ?_
   refine ke_region ?_
   refine sr_ev (v := .bool found_7) (ev_move rfl) (by decide) ?_
   refine sr_end (l' := [(0, str password_0), (1, str user_1), (5, .int .i64 n_5), (6, .int .i64 k_6), (31, .bool found_7)]) (.cons rfl (.cons rfl (.cons rfl (.cons rfl (.cons rfl (.nil _)))))) ?_
   refine ke_cond (t := found_7) rfl (fun hc20 => ?_) (fun hc20 => ?_)
   ·replace hS := ite_true' hS hc20
    refine ke_region ?_
    refine sr_ev (v := .int .i64 n_5) (ev_move rfl) (by decide) ?_
    refine sr_ev (v := .int .i64 (IntKind.i64.wrap (n_5 + 1))) (ev_add rfl rfl) (by decide) ?_
    refine sr_ev (v := .int .i64 (IntKind.i64.wrap (n_5 + 1))) (ev_assign rfl) (by decide) ?_
    refine sr_end (l' := [(0, str password_0), (1, str user_1), (5, .int .i64 (IntKind.i64.wrap (n_5 + 1))), (6, .int .i64 k_6)]) (.cons rfl (.cons rfl (.cons rfl (.cons rfl (.nil _))))) ?_
    have hK := ref22_Quality_B3_ok hg _ _ hr0 hr1 hS hb
    exact ke_weaken (l' := [(0, str password_0), (1, str user_1), (5, .int .i64 (IntKind.i64.wrap (n_5 + 1))), (6, .int .i64 k_6)]) (.cons rfl (.cons rfl (.cons rfl (.cons rfl (.nil _))))) hK
   ·replace hS := ite_false' hS hc20
    refine ke_skip ?_
    have hK := ref22_Quality_B3_ok hg _ _ hr0 hr1 hS hb
    exact ke_weaken (l' := [(0, str password_0), (1, str user_1), (5, .int .i64 n_5), (6, .int .i64 k_6)]) (.cons rfl (.cons rfl (.cons rfl (.cons rfl (.nil _))))) hK
theorem ref22_Quality_L1_ok {w0 : World} (hg : Gs w0) : ∀ (n : Nat), ∀ {r : Int} {password_0 : Str} {user_1 : Str} {n_5 : Int} {k_6 : Int}, ref22_Quality_L1 n password_0 user_1 n_5 k_6 = some r → ∀ {w : World}, (Below w0.heap.size w0 w) → KE Tryd.prog 19 (Ret (fun v w' => v = .int .i64 r ∧ Below w0.heap.size w0 w')) 48 [.code (sub (bodyOf Tryd.f19) [2, 2, 2, 1, 2, 2, 1]), .inLoop (sub (bodyOf Tryd.f19) [2, 2, 2, 1, 2, 2, 1]), .inBlock 0, .code (sub (bodyOf Tryd.f19) [2, 2, 2, 2])] [(0, str password_0), (1, str user_1), (5, .int .i64 n_5), (6, .int .i64 k_6)] w := by
 intro n
 induction n with
 | zero => intro r password_0 user_1 n_5 k_6 hS; cases hS
 | succ n ih =>
  have hr0 : ∀ {r : Int} {password_0 : Str} {user_1 : Str} {n_5 : Int} {k_6 : Int}, ref22_Quality_L1 n password_0 user_1 n_5 k_6 = some r → ∀ {w : World}, (Below w0.heap.size w0 w) → KE Tryd.prog 19 (Ret (fun v w' => v = .int .i64 r ∧ Below w0.heap.size w0 w')) 48 [.inLoop (sub (bodyOf Tryd.f19) [2, 2, 2, 1, 2, 2, 1]), .inBlock 0, .code (sub (bodyOf Tryd.f19) [2, 2, 2, 2])] [(0, str password_0), (1, str user_1), (5, .int .i64 n_5), (6, .int .i64 k_6)] w := fun {r} {password_0} {user_1} {n_5} {k_6} hS {w} hb => ke_inLoop (ih hS hb)
  clear ih
  intro r password_0 user_1 n_5 k_6 hS w hb
  unfold ref22_Quality_L1 at hS
  refine ke_seq ?_
  refine ke_seq ?_
  refine ke_region ?_
  refine sr_ev (v := .int .i64 k_6) (ev_move rfl) (by decide) ?_
  refine sr_ev (v := .bool (decide (k_6 < 4))) (ev_lt rfl rfl) (by decide) ?_
  refine sr_end (l' := [(0, str password_0), (1, str user_1), (5, .int .i64 n_5), (6, .int .i64 k_6), (13, .bool (decide (k_6 < 4)))]) (.cons rfl (.cons rfl (.cons rfl (.cons rfl (.cons rfl (.nil _)))))) ?_
  refine ke_cond (t := decide (k_6 < 4)) rfl (fun hc6 => ?_) (fun hc6 => ?_)
  ·replace hS := ite_true' hS hc6
   refine ke_skip ?_
   refine ke_seq ?_
   refine ke_block ?_
   refine ke_seq ?_
   refine ke_region ?_
   refine sr_ev (v := .bool false) (ev_assign rfl) (by decide) ?_
   refine sr_end (l' := [(0, str password_0), (1, str user_1), (5, .int .i64 n_5), (6, .int .i64 k_6), (7, .bool false)]) (.cons rfl (.cons rfl (.cons rfl (.cons rfl (.cons rfl (.nil _)))))) ?_
   refine ke_seq ?_
   refine ke_seq ?_
   refine ke_region ?_
   refine sr_ev (v := .int .i64 0) (ev_assign rfl) (by decide) ?_
   refine sr_end (l' := [(0, str password_0), (1, str user_1), (5, .int .i64 n_5), (6, .int .i64 k_6), (7, .bool false), (8, .int .i64 0)]) (.cons rfl (.cons rfl (.cons rfl (.cons rfl (.cons rfl (.cons rfl (.nil _))))))) ?_
   refine ke_block ?_
   have hK := ref22_Quality_L2_ok hg _ hr0 _ hS hb
   exact ke_weaken (l' := [(0, str password_0), (1, str user_1), (5, .int .i64 n_5), (6, .int .i64 k_6), (7, .bool false), (8, .int .i64 0)]) (.cons rfl (.cons rfl (.cons rfl (.cons rfl (.cons rfl (.cons rfl (.nil _))))))) (ke_loop hK)
  ·replace hS := ite_false' hS hc6
   refine ke_exit (k' := _) rfl ?_
   refine ke_seq ?_
   refine ke_seq ?_
   refine ke_region ?_
   refine sr_ev (v := .int .i64 n_5) (ev_move rfl) (by decide) ?_
   refine sr_ev (v := .bool (decide (n_5 < 3))) (ev_lt rfl rfl) (by decide) ?_
   refine sr_ev (v := .bool (decide (n_5 < 3))) (ev_move rfl) (by decide) ?_
   obtain ⟨z23, hz25, hS⟩ := bind_some' hS
   refine sr_join (m := 11) (C := fun (x : Bool) w1 => z23 = x ∧ Below w.heap.size w w1) (l' := fun x => [(47, .bool x)]) ?_ ?_
   ·rintro _ w26 ⟨rfl, hbw27⟩
    replace hb := hb.trans (hbw27.mono hb.size)
    refine sr_end (l' := [(47, .bool z23)]) (.cons rfl (.nil _)) ?_
    refine ke_cond (t := z23) rfl (fun hc47 => ?_) (fun hc47 => ?_)
    ·replace hS := ite_true' hS hc47
     refine ke_seq ?_
     refine ke_region ?_
     refine sr_ev (v := .int .i64 11) (ev_assign rfl) (by decide) ?_
     refine sr_end (l' := [(4, .int .i64 11)]) (.cons rfl (.nil _)) ?_
     cases hS
     exact ke_ret1 Tryd.func19 rfl rfl ⟨_, rfl, rfl, hb⟩
    ·replace hS := ite_false' hS hc47
     refine ke_skip ?_
     refine ke_seq ?_
     refine ke_region ?_
     refine sr_ev (v := .int .i64 0) (ev_assign rfl) (by decide) ?_
     refine sr_end (l' := [(4, .int .i64 0)]) (.cons rfl (.nil _)) ?_
     cases hS
     exact ke_ret1 Tryd.func19 rfl rfl ⟨_, rfl, rfl, hb⟩
   ·intro K22
    clear hS
    have hj24 := Below.refl w.heap.size w
    rcases Bool.eq_false_or_eq_true (decide (n_5 < 3)) with hg21 | hg21
    ·have hS := ite_true' hz25 hg21
     refine sr_pass (e := 36) rfl rfl (by rw [hg21]; rfl) (by decide) ?_
     refine sr_pass (e := 36) rfl rfl (by rw [hg21]; rfl) (by decide) ?_
     refine sr_pass (e := 36) rfl rfl (by rw [hg21]; rfl) (by decide) ?_
     refine sr_pass (e := 36) rfl rfl (by rw [hg21]; rfl) (by decide) ?_
     refine sr_pass_undef (e := 40) rfl rfl (by decide) ?_
     refine sr_pass_undef (e := 40) rfl rfl (by decide) ?_
     refine sr_pass_undef (e := 40) rfl rfl (by decide) ?_
     refine sr_pass_undef (e := 40) rfl rfl (by decide) ?_
     refine sr_pass_undef (e := 40) rfl rfl (by decide) ?_
     refine sr_pass (e := 36) rfl rfl (by rw [hg21]; rfl) (by decide) ?_
     refine sr_ev (v := .bool true) (ev_pick_t rfl hg21 rfl) (by decide) ?_
     exact sr_weaken (l' := [(47, .bool true)]) (.cons rfl (.nil _)) (K22 true _ ⟨(Option.some.inj hS).symm, hj24⟩)
    ·have hS := ite_false' hz25 hg21
     refine sr_evg (b := false) (e := 36) rfl rfl hg21 (v := str user_1) (ev_move rfl) (by decide) ?_
     refine sr_evg (b := false) (e := 36) rfl rfl hg21 (v := .int .i64 (user_1.length : Int)) (ev_slen Tryd.underlying9 rfl) (by decide) ?_
     refine sr_evg (b := false) (e := 36) rfl rfl hg21 (v := .bool (decide ((user_1.length : Int) ≥ 3))) (ev_ge rfl rfl) (by decide) ?_
     refine sr_evg (b := false) (e := 36) rfl rfl hg21 (v := .bool (decide ((user_1.length : Int) ≥ 3))) (ev_move rfl) (by decide) ?_
     obtain ⟨z30, hz32, hS⟩ := bind_some' hS
     refine sr_join (m := 6) (C := fun (x : Bool) w1 => z30 = x ∧ Below w.heap.size w w1) (l' := fun x => [(36, .bool (decide (n_5 < 3))), (46, .bool x)]) ?_ ?_
     ·rintro _ w33 ⟨rfl, hbw34⟩
      replace hb := hb.trans (hbw34.mono hb.size)
      replace hj24 := hj24.trans (hbw34.mono hj24.size)
      refine sr_ev (v := .bool z30) (ev_pick_f rfl hg21 rfl) (by decide) ?_
      exact sr_weaken (l' := [(47, .bool z30)]) (.cons rfl (.nil _)) (K22 z30 _ ⟨(Option.some.inj hS).symm, hj24⟩)
     ·intro K29
      clear hS
      have hj31 := Below.refl w.heap.size w
      rcases Bool.eq_false_or_eq_true (decide ((user_1.length : Int) ≥ 3)) with hg28 | hg28
      ·have hS := ite_true' hz32 hg28
       refine sr_evg (b := true) (e := 40) rfl rfl hg28 (v := str password_0) (ev_move rfl) (by decide) ?_
       obtain ⟨y35, hy36, hS⟩ := bind_some' hS
       refine sr_callg (b := true) (e := 40) rfl rfl hg28 (vs := [str password_0]) rfl Tryd.call46 rfl (ref01_Lower_ok _ (hg.below hb) hy36) (by decide) ?_
       rintro _ w37 ⟨rfl, hbw38⟩
       replace hb := hb.trans (hbw38.mono hb.size)
       replace hj24 := hj24.trans (hbw38.mono hj24.size)
       replace hj31 := hj31.trans (hbw38.mono hj31.size)
       refine sr_evg (b := true) (e := 40) rfl rfl hg28 (v := str user_1) (ev_move rfl) (by decide) ?_
       obtain ⟨y39, hy40, hS⟩ := bind_some' hS
       refine sr_callg (b := true) (e := 40) rfl rfl hg28 (vs := [str user_1]) rfl Tryd.call46 rfl (ref01_Lower_ok _ (hg.below hb) hy40) (by decide) ?_
       rintro _ w41 ⟨rfl, hbw42⟩
       replace hb := hb.trans (hbw42.mono hb.size)
       replace hj24 := hj24.trans (hbw42.mono hj24.size)
       replace hj31 := hj31.trans (hbw42.mono hj31.size)
       obtain ⟨y43, hy44, hS⟩ := bind_some' hS
       refine sr_callg (b := true) (e := 40) rfl rfl hg28 (vs := [str y35, str y39]) rfl Tryd.call45 rfl (ref22_contains_ok _ (hg.below hb) hy44) (by decide) ?_
       rintro _ w45 ⟨rfl, hbw46⟩
       replace hb := hb.trans (hbw46.mono hb.size)
       replace hj24 := hj24.trans (hbw46.mono hj24.size)
       replace hj31 := hj31.trans (hbw46.mono hj31.size)
       refine sr_evg (b := false) (e := 36) rfl rfl hg21 (v := .bool y43) (ev_pick_t rfl hg28 rfl) (by decide) ?_
       exact sr_weaken (l' := [(36, .bool (decide (n_5 < 3))), (46, .bool y43)]) (.cons rfl (.cons rfl (.nil _))) (K29 y43 _ ⟨(Option.some.inj hS).symm, hj31⟩)
      ·have hS := ite_false' hz32 hg28
       refine sr_pass (e := 40) rfl rfl (by rw [hg28]; rfl) (by decide) ?_
       refine sr_pass (e := 40) rfl rfl (by rw [hg28]; rfl) (by decide) ?_
       refine sr_pass (e := 40) rfl rfl (by rw [hg28]; rfl) (by decide) ?_
       refine sr_pass (e := 40) rfl rfl (by rw [hg28]; rfl) (by decide) ?_
       refine sr_pass (e := 40) rfl rfl (by rw [hg28]; rfl) (by decide) ?_
       refine sr_evg (b := false) (e := 36) rfl rfl hg21 (v := .bool false) (ev_pick_f rfl hg28 rfl) (by decide) ?_
       exact sr_weaken (l' := [(36, .bool (decide (n_5 < 3))), (46, .bool false)]) (.cons rfl (.cons rfl (.nil _))) (K29 false _ ⟨(Option.some.inj hS).symm, hj31⟩)
theorem ref22_Quality_ok (w0 : World) (hg : Gs w0) {password_0 : Str} {user_1 : Str} {r : Int} (hS : ref22_Quality password_0 user_1 = some r) :
  Calls Tryd.prog 19 #[str password_0, str user_1] w0 (Ret (fun v w' => v = .int .i64 r ∧ Below w0.heap.size w0 w')) := by
 unfold ref22_Quality at hS
 have hb := Below.refl w0.heap.size w0
 refine calls_of_ke Tryd.func19 rfl (n := 48) rfl rfl (l := [(0, str password_0), (1, str user_1)]) rfl ?_
 refine ke_seq ?_
 refine ke_region ?_
 refine sr_ev (v := .int .i64 0) (ev_assign rfl) (by decide) ?_
 refine sr_end (l' := [(0, str password_0), (1, str user_1)]) (.cons rfl (.cons rfl (.nil _))) ?_
 refine ke_seq ?_
 refine ke_seq ?_
 refine ke_region ?_
 refine sr_ev (v := str password_0) (ev_move rfl) (by decide) ?_
 obtain ⟨y1, hy2, hS⟩ := bind_some' hS
 refine sr_call (vs := [str password_0]) rfl Tryd.call37 rfl (ref22_Password_ok _ (hg.below hb) hy2) (by decide) ?_
 rintro _ w3 ⟨rfl, hbw4⟩
 replace hb := hb.trans (hbw4.mono hb.size)
 refine sr_ev (v := .bool (!y1)) (ev_not rfl) (by decide) ?_
 refine sr_end (l' := [(0, str password_0), (1, str user_1), (11, .bool (!y1))]) (.cons rfl (.cons rfl (.cons rfl (.nil _)))) ?_
 refine ke_cond (t := !y1) rfl (fun hc5 => ?_) (fun hc5 => ?_)
 ·replace hS := ite_true' hS hc5
  refine ke_seq ?_
  refine ke_region ?_
  refine sr_ev (v := .int .i64 4) (ev_assign rfl) (by decide) ?_
  refine sr_end (l' := [(4, .int .i64 4)]) (.cons rfl (.nil _)) ?_
  cases hS
  exact ke_ret1 Tryd.func19 rfl rfl ⟨_, rfl, rfl, hb⟩
 ·replace hS := ite_false' hS hc5
  refine ke_skip ?_
  refine ke_seq ?_
  refine ke_region ?_
  refine sr_ev (v := .int .i64 0) (ev_assign rfl) (by decide) ?_
  refine sr_end (l' := [(0, str password_0), (1, str user_1), (5, .int .i64 0)]) (.cons rfl (.cons rfl (.cons rfl (.nil _)))) ?_
  refine ke_seq ?_
  refine ke_seq ?_
  refine ke_region ?_
  refine sr_ev (v := .int .i64 0) (ev_assign rfl) (by decide) ?_
  refine sr_end (l' := [(0, str password_0), (1, str user_1), (5, .int .i64 0), (6, .int .i64 0)]) (.cons rfl (.cons rfl (.cons rfl (.cons rfl (.nil _))))) ?_
  refine ke_block ?_
  have hK := ref22_Quality_L1_ok hg _ hS hb
  exact ke_weaken (l' := [(0, str password_0), (1, str user_1), (5, .int .i64 0), (6, .int .i64 0)]) (.cons rfl (.cons rfl (.cons rfl (.cons rfl (.nil _))))) (ke_loop hK)
theorem law22_SecretQuality_ok (w0 : World) (hg : Gs w0) {ρA : Tags} (hbd : ∀ b, ρA b ≠ 0 → b < w0.heap.size) (hz : Gz ρA) {password_0 : Str} {user_1 : Str} {r : Bool} (hS : law22_SecretQuality password_0 user_1 = some r) :
  Calls Tryd.prog 4 #[str password_0, str user_1] w0 (Ret (fun v w' => v = .bool r ∧ Below w0.heap.size w0 w')) := by
 unfold law22_SecretQuality at hS
 have hb := flat1_fr (ρ := ρA) (w := w0) hbd
 have hz := hz.flat1
 refine calls_of_ke Tryd.func4 rfl (n := 24) rfl rfl (l := [(0, str password_0), (1, str user_1)]) rfl ?_
 refine ke_seq ?_
 refine ke_region ?_
 refine sr_ev (v := .bool false) (ev_assign rfl) (by decide) ?_
 refine sr_end (l' := [(0, str password_0), (1, str user_1)]) (.cons rfl (.cons rfl (.nil _))) ?_
 refine ke_seq ?_
 refine ke_seq ?_
 refine ke_region ?_
 refine sr_ev (v := str password_0) (ev_move rfl) (by decide) ?_
 refine sr_ev (v := .int .i64 (password_0.length : Int)) (ev_slen Tryd.underlying9 rfl) (by decide) ?_
 refine sr_ev (v := .bool (decide ((password_0.length : Int) > 400))) (ev_gt rfl rfl) (by decide) ?_
 refine sr_ev (v := .bool (decide ((password_0.length : Int) > 400))) (ev_move rfl) (by decide) ?_
 refine sr_join (m := 4) (C := fun (x : Bool) w1 => x = ((decide ((password_0.length : Int) > 400)) || (decide ((user_1.length : Int) > 400))) ∧ w0 = w1) (l' := fun x => [(0, str password_0), (1, str user_1), (12, .bool x)]) ?_ ?_
 ·rintro _ _ ⟨rfl, rfl⟩
  refine sr_end (l' := [(0, str password_0), (1, str user_1), (12, .bool ((decide ((password_0.length : Int) > 400)) || (decide ((user_1.length : Int) > 400))))]) (.cons rfl (.cons rfl (.cons rfl (.nil _)))) ?_
  refine ke_cond (t := (decide ((password_0.length : Int) > 400)) || (decide ((user_1.length : Int) > 400))) rfl (fun hc9 => ?_) (fun hc9 => ?_)
  ·replace hS := ite_true' hS hc9
   refine ke_seq ?_
   refine ke_region ?_
   obtain ⟨y10, hy11, hS⟩ := bind_some' hS
   refine sr_call (vs := []) rfl Tryd.call9 rfl (law22_awake_ok _ (hg.fr hz hb) (ρA := (flat1 ρA)) hb.bd (hz.fr hg hb) hy11) (by decide) ?_
   rintro _ w12 ⟨rfl, hbw13⟩
   have htr14 := Tr.of_below hbw13 hb.bd
   replace hb := hb.trans htr14
   refine sr_ev (v := .bool y10) (ev_assign rfl) (by decide) ?_
   refine sr_end (l' := [(4, .bool y10)]) (.cons rfl (.nil _)) ?_
   cases hS
   exact ke_ret1 Tryd.func4 rfl rfl ⟨_, rfl, rfl, (hb.below (flat1_le _))⟩
  ·replace hS := ite_false' hS hc9
   refine ke_skip ?_
   refine ke_seq ?_
   refine ke_region ?_
   refine sr_ev (v := str password_0) (ev_move rfl) (by decide) ?_
   refine sr_ev (v := str user_1) (ev_move rfl) (by decide) ?_
   obtain ⟨y15, hy16, hS⟩ := bind_some' hS
   refine sr_call (vs := [str password_0, str user_1]) rfl Tryd.call18 rfl (secret_Quality_ok _ (hg.fr hz hb) hy16) (by decide) ?_
   rintro _ w17 ⟨rfl, hbw18⟩
   have htr19 := Tr.of_below hbw18 hb.bd
   replace hb := hb.trans htr19
   refine sr_ev (v := str password_0) (ev_move rfl) (by decide) ?_
   refine sr_ev (v := str user_1) (ev_move rfl) (by decide) ?_
   obtain ⟨y20, hy21, hS⟩ := bind_some' hS
   refine sr_call (vs := [str password_0, str user_1]) rfl Tryd.call19 rfl (ref22_Quality_ok _ (hg.fr hz hb) hy21) (by decide) ?_
   rintro _ w22 ⟨rfl, hbw23⟩
   have htr24 := Tr.of_below hbw23 hb.bd
   replace hb := hb.trans htr24
   refine sr_ev (v := .bool (y15 == y20)) (ev_eq rfl rfl) (by decide) ?_
   refine sr_ev (v := .bool (y15 == y20)) (ev_move rfl) (by decide) ?_
   obtain ⟨z27, hz29, hS⟩ := bind_some' hS
   refine sr_join (m := 2) (C := fun (z : Bool) w1 => z27 = z ∧ ∃ ρ1, Tr (flat1 ρA) w22 (fun _ => false) ρ1 w1) (l' := fun z => [(23, .bool z)]) ?_ ?_
   ·rintro _ w30 ⟨rfl, ρ31, hj28⟩
    replace hb := hb.trans hj28
    refine sr_ev (v := .bool z27) (ev_assign rfl) (by decide) ?_
    refine sr_end (l' := [(4, .bool z27)]) (.cons rfl (.nil _)) ?_
    cases hS
    exact ke_ret1 Tryd.func4 rfl rfl ⟨_, rfl, rfl, (hb.below (flat1_le _))⟩
   ·intro K26
    clear hS
    have hj28 : Tr (flat1 ρA) w22 (fun _ => false) (flat1 ρA) w22 := (Tr.refl hb.bd).weak (fun _ _ => rfl) rfl rfl
    rcases Bool.eq_false_or_eq_true (y15 == y20) with hg25 | hg25
    ·have hS := ite_true' hz29 hg25
     obtain ⟨y33, hy34, hS⟩ := bind_some' hS
     refine sr_callg (b := true) (e := 21) rfl rfl hg25 (vs := []) rfl Tryd.call9 rfl (law22_awake_ok _ (hg.fr hz hb) (ρA := (flat1 ρA)) hb.bd (hz.fr hg hb) hy34) (by decide) ?_
     rintro _ w35 ⟨rfl, hbw36⟩
     have htr37 := Tr.of_below hbw36 hb.bd
     replace hb := hb.trans htr37
     replace hj28 := (hj28.trans htr37).weak (J' := (fun _ => false)) (by intro t h; simp [rng] at h ⊢ <;> omega) rfl rfl
     refine sr_ev (v := .bool y33) (ev_pick_t rfl hg25 rfl) (by decide) ?_
     exact sr_weaken (l' := [(23, .bool y33)]) (.cons rfl (.nil _)) (K26 y33 _ ⟨(Option.some.inj hS).symm, _, hj28⟩)
    ·have hS := ite_false' hz29 hg25
     refine sr_pass (e := 21) rfl rfl (by rw [hg25]; rfl) (by decide) ?_
     refine sr_ev (v := .bool false) (ev_pick_f rfl hg25 rfl) (by decide) ?_
     exact sr_weaken (l' := [(23, .bool false)]) (.cons rfl (.nil _)) (K26 false _ ⟨(Option.some.inj hS).symm, _, hj28⟩)
 ·intro K2
  rcases Bool.eq_false_or_eq_true (decide ((password_0.length : Int) > 400)) with hg1 | hg1
  all_goals try have hj4 : Tr (flat1 ρA) w0 (fun _ => false) (flat1 ρA) w0 := Tr.refl hb.bd
  ·refine sr_pass (e := 8) rfl rfl (by rw [hg1]; rfl) (by decide) ?_
   refine sr_pass (e := 8) rfl rfl (by rw [hg1]; rfl) (by decide) ?_
   refine sr_pass (e := 8) rfl rfl (by rw [hg1]; rfl) (by decide) ?_
   refine sr_ev (v := .bool true) (ev_pick_t rfl hg1 rfl) (by decide) ?_
   exact sr_weaken (l' := [(0, str password_0), (1, str user_1), (12, .bool true)]) (.cons rfl (.cons rfl (.cons rfl (.nil _)))) (K2 true _ ⟨by first | (rw [hg1]; rfl) | rfl, rfl⟩)
  ·refine sr_evg (b := false) (e := 8) rfl rfl hg1 (v := str user_1) (ev_move rfl) (by decide) ?_
   refine sr_evg (b := false) (e := 8) rfl rfl hg1 (v := .int .i64 (user_1.length : Int)) (ev_slen Tryd.underlying9 rfl) (by decide) ?_
   refine sr_evg (b := false) (e := 8) rfl rfl hg1 (v := .bool (decide ((user_1.length : Int) > 400))) (ev_gt rfl rfl) (by decide) ?_
   refine sr_ev (v := .bool (decide ((user_1.length : Int) > 400))) (ev_pick_f rfl hg1 rfl) (by decide) ?_
   exact sr_weaken (l' := [(0, str password_0), (1, str user_1), (12, .bool (decide ((user_1.length : Int) > 400)))]) (.cons rfl (.cons rfl (.cons rfl (.nil _)))) (K2 (decide ((user_1.length : Int) > 400)) _ ⟨by first | (rw [hg1]; rfl) | rfl, rfl⟩)
end YteifnoehmfjogaaDoor
end Go.Proofs
