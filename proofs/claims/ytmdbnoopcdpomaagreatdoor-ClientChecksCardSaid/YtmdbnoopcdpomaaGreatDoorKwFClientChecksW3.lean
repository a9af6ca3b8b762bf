/- Own work: a part of the proofs of this seat. -/
import Derived.Test.YtmdbnoopcdpomaaGreatDoorProg
import Derived.Test.YtmdbnoopcdpomaaGreatDoorShelf
import Derived.Test.YtmdbnoopcdpomaaGreatDoorIter
import Derived.Test.YtmdbnoopcdpomaaGreatDoorKwFS
import Derived.KernelRfl
import Derived.Test.YtmdbnoopcdpomaaGreatDoorKwFClientChecksW2
set_option linter.unusedVariables false
set_option linter.unusedSimpArgs false
set_option linter.unusedSectionVars false
set_option maxHeartbeats 8000000
set_option maxRecDepth 8000
namespace Go.Proofs
namespace YtmdbnoopcdpomaaGreatDoor
open Go Go.KW Go.KW.S Go.RowKit
theorem ref36_Check_ok (w0 : World) (hg : Gs w0) {ρA : Tags} (hbd : ∀ b, ρA b ≠ 0 → b < w0.heap.size) (hz : Gz ρA) {c_0 : api_Client} {v1 : Value} {v3 : Value} {r : Int} (h2 : SlR strC (Wb ρA) w0 v1 c_0.Redirects) (h4 : SlR strC (Wb ρA) w0 v3 c_0.Scopes) (hS : ref36_Check c_0 = some r) :
  Calls Tryz.prog 13 #[.agg #[str c_0.ID, .int .i64 c_0.Kind, str c_0.Tenant, str c_0.Secret.Salt, .int .i64 c_0.Secret.Rounds, str c_0.Secret.Hash, v1, v3, str c_0.Logout]] w0 (Ret (fun v w' => v = .int .i64 r ∧ Below w0.heap.size w0 w')) := by
 unfold ref36_Check at hS
 have hb := flat1_fr (ρ := ρA) (w := w0) hbd
 have hz := hz.flat1
 replace h2 := SlR.mv h2 flat1_rd
 replace h4 := SlR.mv h4 flat1_rd
 refine calls_of_ke Tryz.func13 rfl (n := 90) rfl rfl (l := [(0, .agg #[str c_0.ID, .int .i64 c_0.Kind, str c_0.Tenant, str c_0.Secret.Salt, .int .i64 c_0.Secret.Rounds, str c_0.Secret.Hash, v1, v3, str c_0.Logout])]) rfl ?_
 refine ke_seq ?_
 refine ke_region ?_
 refine sr_boxT 3 (by decide) hb.bd rfl (by decide) ?_
 intro g5 ρ6 w7 hB9 htr8
 replace h2 := h2.mv htr8.rd
 replace h4 := h4.mv htr8.rd
 replace hb := hb.trans htr8
 replace hB9 : Blk ρ6 3 w7 g5 (.cells #[str c_0.ID, .int .i64 c_0.Kind, str c_0.Tenant, str c_0.Secret.Salt, .int .i64 c_0.Secret.Rounds, str c_0.Secret.Hash, v1, v3, str c_0.Logout] 27 (0, 0)) := hB9
 refine sr_ev (v := .int .i64 0) (ev_assign rfl) (by decide) ?_
 refine sr_end (l' := [(1, .pointer (some ⟨g5, 0, none⟩))]) (.cons rfl (.nil _)) ?_
 refine ke_seq ?_
 refine ke_seq ?_
 refine ke_region ?_
 refine sr_ev (v := .pointer (some ⟨g5, 0, none⟩)) (ev_fieldAddr (i := 0) Tryz.underlying27 rfl Tryz.info9 rfl rfl) (by decide) ?_
 refine sr_ev (v := str c_0.ID) (ev_load Tryz.isAgg9 rfl (hB9.cell rfl)) (by decide) ?_
 obtain ⟨y10, hy11, hS⟩ := bind_some' hS
 refine sr_call (vs := [str c_0.ID]) rfl Tryz.call45 rfl (ref01_Word_ok _ (hg.fr hz hb) hy11) (by decide) ?_
 rintro _ w12 ⟨rfl, hbw13⟩
 have htr14 := Tr.of_below hbw13 hb.bd
 replace hB9 := hB9.mv (htr14.mv (i := 3) rfl)
 replace h2 := h2.mv htr14.rd
 replace h4 := h4.mv htr14.rd
 replace hb := hb.trans htr14
 refine sr_ev (v := .bool (!y10)) (ev_not rfl) (by decide) ?_
 refine sr_ev (v := .bool (!y10)) (ev_move rfl) (by decide) ?_
 obtain ⟨z17, hz19, hS⟩ := bind_some' hS
 refine sr_join (m := 5) (C := fun (z : Bool) w1 => z17 = z ∧ ∃ ρ1, Tr ρ6 w12 (fun _ => false) ρ1 w1) (l' := fun z => [(1, .pointer (some ⟨g5, 0, none⟩)), (14, .bool z)]) ?_ ?_
 ·rintro _ w20 ⟨rfl, ρ21, hj18⟩
  replace hB9 := hB9.mv (hj18.mv (i := 3) rfl)
  replace h2 := h2.mv hj18.rd
  replace h4 := h4.mv hj18.rd
  replace hb := hb.trans hj18
  refine sr_end (l' := [(1, .pointer (some ⟨g5, 0, none⟩)), (14, .bool z17)]) (.cons rfl (.cons rfl (.nil _))) ?_
  refine ke_cond (t := z17) rfl (fun hc28 => ?_) (fun hc28 => ?_)
  ·replace hS := ite_true' hS hc28
   refine ke_seq ?_
   refine ke_region ?_
   refine sr_ev (v := .int .i64 5) (ev_assign rfl) (by decide) ?_
   refine sr_end (l' := [(2, .int .i64 5)]) (.cons rfl (.nil _)) ?_
   cases hS
   exact ke_ret1 Tryz.func13 rfl rfl ⟨_, rfl, rfl, (hb.below (flat1_le _))⟩
  ·replace hS := ite_false' hS hc28
   refine ke_skip ?_
   refine ke_seq ?_
   refine ke_seq ?_
   refine ke_region ?_
   refine sr_ev (v := .pointer (some ⟨g5, 1, none⟩)) (ev_fieldAddr (i := 1) Tryz.underlying27 rfl Tryz.info22 rfl rfl) (by decide) ?_
   refine sr_ev (v := .int .i64 c_0.Kind) (ev_load Tryz.isAgg22 rfl (hB9.cell rfl)) (by decide) ?_
   refine sr_ev (v := .bool (c_0.Kind != 1)) (ev_ne rfl rfl) (by decide) ?_
   refine sr_ev (v := .bool (c_0.Kind != 1)) (ev_move rfl) (by decide) ?_
   refine sr_join (m := 4) (C := fun (x : Bool) w1 => x = ((c_0.Kind != 1) && (c_0.Kind != 2)) ∧ w20 = w1) (l' := fun x => [(1, .pointer (some ⟨g5, 0, none⟩)), (22, .bool x)]) ?_ ?_
   ·rintro _ _ ⟨rfl, rfl⟩
    refine sr_end (l' := [(1, .pointer (some ⟨g5, 0, none⟩)), (22, .bool ((c_0.Kind != 1) && (c_0.Kind != 2)))]) (.cons rfl (.cons rfl (.nil _))) ?_
    refine ke_cond (t := (c_0.Kind != 1) && (c_0.Kind != 2)) rfl (fun hc37 => ?_) (fun hc37 => ?_)
    ·replace hS := ite_true' hS hc37
     refine ke_seq ?_
     refine ke_region ?_
     refine sr_ev (v := .int .i64 2) (ev_assign rfl) (by decide) ?_
     refine sr_end (l' := [(2, .int .i64 2)]) (.cons rfl (.nil _)) ?_
     cases hS
     exact ke_ret1 Tryz.func13 rfl rfl ⟨_, rfl, rfl, (hb.below (flat1_le _))⟩
    ·replace hS := ite_false' hS hc37
     refine ke_skip ?_
     refine ke_seq ?_
     refine ke_seq ?_
     refine ke_region ?_
     refine sr_ev (v := .pointer (some ⟨g5, 1, none⟩)) (ev_fieldAddr (i := 1) Tryz.underlying27 rfl Tryz.info22 rfl rfl) (by decide) ?_
     refine sr_ev (v := .int .i64 c_0.Kind) (ev_load Tryz.isAgg22 rfl (hB9.cell rfl)) (by decide) ?_
     refine sr_ev (v := .bool (c_0.Kind == 2)) (ev_eq rfl rfl) (by decide) ?_
     refine sr_ev (v := .bool (c_0.Kind == 2)) (ev_move rfl) (by decide) ?_
     obtain ⟨z40, hz42, hS⟩ := bind_some' hS
     refine sr_join (m := 5) (C := fun (z : Bool) w1 => z40 = z ∧ ∃ ρ1, Tr ρ21 w20 (fun _ => false) ρ1 w1) (l' := fun z => [(1, .pointer (some ⟨g5, 0, none⟩)), (31, .bool z)]) ?_ ?_
     ·rintro _ w43 ⟨rfl, ρ44, hj41⟩
      replace hB9 := hB9.mv (hj41.mv (i := 3) rfl)
      replace h2 := h2.mv hj41.rd
      replace h4 := h4.mv hj41.rd
      replace hb := hb.trans hj41
      refine sr_ev (v := .bool z40) (ev_move rfl) (by decide) ?_
      refine sr_join (m := 10) (C := fun (x : Bool) w1 => x = (z40 || ((c_0.Kind == 1) && (!(api_Verifier.eqb c_0.Secret (api_Verifier.mk ([]) 0 ([])))))) ∧ w43 = w1) (l' := fun x => [(1, .pointer (some ⟨g5, 0, none⟩)), (42, .bool x)]) ?_ ?_
      ·rintro _ _ ⟨rfl, rfl⟩
       refine sr_end (l' := [(1, .pointer (some ⟨g5, 0, none⟩)), (42, .bool (z40 || ((c_0.Kind == 1) && (!(api_Verifier.eqb c_0.Secret (api_Verifier.mk ([]) 0 ([])))))))]) (.cons rfl (.cons rfl (.nil _))) ?_
       refine ke_cond (t := z40 || ((c_0.Kind == 1) && (!(api_Verifier.eqb c_0.Secret (api_Verifier.mk ([]) 0 ([])))))) rfl (fun hc67 => ?_) (fun hc67 => ?_)
       ·replace hS := ite_true' hS hc67
        refine ke_seq ?_
        refine ke_region ?_
        refine sr_ev (v := .int .i64 4) (ev_assign rfl) (by decide) ?_
        refine sr_end (l' := [(2, .int .i64 4)]) (.cons rfl (.nil _)) ?_
        cases hS
        exact ke_ret1 Tryz.func13 rfl rfl ⟨_, rfl, rfl, (hb.below (flat1_le _))⟩
       ·replace hS := ite_false' hS hc67
        refine ke_skip ?_
        refine ke_seq ?_
        refine ke_seq ?_
        refine ke_region ?_
        refine sr_ev (v := .pointer (some ⟨g5, 6, none⟩)) (ev_fieldAddr (i := 4) Tryz.underlying27 rfl Tryz.info25 rfl rfl) (by decide) ?_
        refine sr_ev (v := v1) (ev_load Tryz.isAgg25 rfl (hB9.cell rfl)) (by decide) ?_
        refine sr_ev (v := .int .i64 (c_0.Redirects.length : Int)) (ev_sllen Tryz.underlying25 rfl h2.asSl) (by decide) ?_
        refine sr_ev (v := .bool ((c_0.Redirects.length : Int) == 0)) (ev_eq rfl rfl) (by decide) ?_
        refine sr_end (l' := [(1, .pointer (some ⟨g5, 0, none⟩)), (46, .bool ((c_0.Redirects.length : Int) == 0))]) (.cons rfl (.cons rfl (.nil _))) ?_
        refine ke_cond (t := (c_0.Redirects.length : Int) == 0) rfl (fun hc68 => ?_) (fun hc68 => ?_)
        ·replace hS := ite_true' hS hc68
         refine ke_seq ?_
         refine ke_region ?_
         refine sr_ev (v := .int .i64 6) (ev_assign rfl) (by decide) ?_
         refine sr_end (l' := [(2, .int .i64 6)]) (.cons rfl (.nil _)) ?_
         cases hS
         exact ke_ret1 Tryz.func13 rfl rfl ⟨_, rfl, rfl, (hb.below (flat1_le _))⟩
        ·replace hS := ite_false' hS hc68
         refine ke_skip ?_
         refine ke_seq ?_
         refine ke_seq ?_
         refine ke_region ?_
         refine sr_ev (v := .pointer (some ⟨g5, 6, none⟩)) (ev_fieldAddr (i := 4) Tryz.underlying27 rfl Tryz.info25 rfl rfl) (by decide) ?_
         refine sr_ev (v := v1) (ev_load Tryz.isAgg25 rfl (hB9.cell rfl)) (by decide) ?_
         refine sr_ev (v := .int .i64 (c_0.Redirects.length : Int)) (ev_sllen Tryz.underlying25 rfl h2.asSl) (by decide) ?_
         refine sr_ev (v := .bool (decide ((c_0.Redirects.length : Int) > 8))) (ev_gt rfl rfl) (by decide) ?_
         refine sr_end (l' := [(1, .pointer (some ⟨g5, 0, none⟩)), (50, .bool (decide ((c_0.Redirects.length : Int) > 8)))]) (.cons rfl (.cons rfl (.nil _))) ?_
         refine ke_cond (t := decide ((c_0.Redirects.length : Int) > 8)) rfl (fun hc69 => ?_) (fun hc69 => ?_)
         ·replace hS := ite_true' hS hc69
          refine ke_seq ?_
          refine ke_region ?_
          refine sr_ev (v := .int .i64 3) (ev_assign rfl) (by decide) ?_
          refine sr_end (l' := [(2, .int .i64 3)]) (.cons rfl (.nil _)) ?_
          cases hS
          exact ke_ret1 Tryz.func13 rfl rfl ⟨_, rfl, rfl, (hb.below (flat1_le _))⟩
         ·replace hS := ite_false' hS hc69
          refine ke_skip ?_
          refine ke_seq ?_
          refine ke_seq ?_
          refine ke_region ?_
          refine sr_ev (v := .int .i64 0) (ev_assign rfl) (by decide) ?_
          refine sr_end (l' := [(1, .pointer (some ⟨g5, 0, none⟩)), (3, .int .i64 0)]) (.cons rfl (.cons rfl (.nil _))) ?_
          refine ke_block ?_
          have hK := ref36_Check_L1_ok hg hbd hz _ hS hb h2 h4 hB9
          exact ke_weaken (l' := [(1, .pointer (some ⟨g5, 0, none⟩)), (3, .int .i64 0)]) (.cons rfl (.cons rfl (.nil _))) (ke_loop hK)
      ·intro K52
       rcases Bool.eq_false_or_eq_true z40 with hg51 | hg51
       all_goals try have hj54 : Tr ρ44 w43 (fun _ => false) ρ44 w43 := Tr.refl hb.bd
       ·refine sr_pass (e := 32) rfl rfl (by rw [hg51]; rfl) (by decide) ?_
        refine sr_pass (e := 32) rfl rfl (by rw [hg51]; rfl) (by decide) ?_
        refine sr_pass (e := 32) rfl rfl (by rw [hg51]; rfl) (by decide) ?_
        refine sr_pass (e := 32) rfl rfl (by rw [hg51]; rfl) (by decide) ?_
        refine sr_pass_undef (e := 36) rfl rfl (by decide) ?_
        refine sr_pass_undef (e := 36) rfl rfl (by decide) ?_
        refine sr_pass_undef (e := 36) rfl rfl (by decide) ?_
        refine sr_pass_undef (e := 36) rfl rfl (by decide) ?_
        refine sr_pass (e := 32) rfl rfl (by rw [hg51]; rfl) (by decide) ?_
        refine sr_ev (v := .bool true) (ev_pick_t rfl hg51 rfl) (by decide) ?_
        exact sr_weaken (l' := [(1, .pointer (some ⟨g5, 0, none⟩)), (42, .bool true)]) (.cons rfl (.cons rfl (.nil _))) (K52 true _ ⟨by rw [hg51]; rfl, rfl⟩)
       ·refine sr_evg (b := false) (e := 32) rfl rfl hg51 (v := .pointer (some ⟨g5, 1, none⟩)) (ev_fieldAddr (i := 1) Tryz.underlying27 rfl Tryz.info22 rfl rfl) (by decide) ?_
        refine sr_evg (b := false) (e := 32) rfl rfl hg51 (v := .int .i64 c_0.Kind) (ev_load Tryz.isAgg22 rfl (hB9.cell rfl)) (by decide) ?_
        refine sr_evg (b := false) (e := 32) rfl rfl hg51 (v := .bool (c_0.Kind == 1)) (ev_eq rfl rfl) (by decide) ?_
        refine sr_evg (b := false) (e := 32) rfl rfl hg51 (v := .bool (c_0.Kind == 1)) (ev_move rfl) (by decide) ?_
        refine sr_join (m := 5) (C := fun (x : Bool) w1 => x = ((c_0.Kind == 1) && (!(api_Verifier.eqb c_0.Secret (api_Verifier.mk ([]) 0 ([]))))) ∧ w43 = w1) (l' := fun x => [(1, .pointer (some ⟨g5, 0, none⟩)), (32, .bool z40), (41, .bool x)]) ?_ ?_
        ·rintro _ _ ⟨rfl, rfl⟩
         refine sr_ev (v := .bool ((c_0.Kind == 1) && (!(api_Verifier.eqb c_0.Secret (api_Verifier.mk ([]) 0 ([])))))) (ev_pick_f rfl hg51 rfl) (by decide) ?_
         exact sr_weaken (l' := [(1, .pointer (some ⟨g5, 0, none⟩)), (42, .bool ((c_0.Kind == 1) && (!(api_Verifier.eqb c_0.Secret (api_Verifier.mk ([]) 0 ([]))))))]) (.cons rfl (.cons rfl (.nil _))) (K52 ((c_0.Kind == 1) && (!(api_Verifier.eqb c_0.Secret (api_Verifier.mk ([]) 0 ([]))))) _ ⟨by rw [hg51]; rfl, rfl⟩)
        ·intro K60
         rcases Bool.eq_false_or_eq_true (c_0.Kind == 1) with hg59 | hg59
         all_goals try have hj62 : Tr ρ44 w43 (fun _ => false) ρ44 w43 := Tr.refl hb.bd
         ·refine sr_evg (b := true) (e := 36) rfl rfl hg59 (v := .pointer (some ⟨g5, 3, none⟩)) (ev_fieldAddr (i := 3) Tryz.underlying27 rfl Tryz.info24 rfl rfl) (by decide) ?_
          refine sr_evg (b := true) (e := 36) rfl rfl hg59 (v := .agg #[str c_0.Secret.Salt, .int .i64 c_0.Secret.Rounds, str c_0.Secret.Hash]) (ev_loads (cs := [str c_0.Secret.Salt, .int .i64 c_0.Secret.Rounds, str c_0.Secret.Hash]) Tryz.isAgg24 Tryz.sizeOf24 rfl (hB9.cells (vs := [str c_0.Secret.Salt, .int .i64 c_0.Secret.Rounds, str c_0.Secret.Hash]) rfl)) (by decide) ?_
          refine sr_evg (b := true) (e := 36) rfl rfl hg59 (v := .agg #[str ([]), .int .i64 0, str ([])]) (ev_build (vs := #[]) rfl (fun _ => by kernel_rfl)) (by decide) ?_
          refine sr_evg (b := true) (e := 36) rfl rfl hg59 (v := .bool (!(api_Verifier.eqb c_0.Secret (api_Verifier.mk ([]) 0 ([]))))) (ev_ane (Tryz.eq24 c_0.Secret (api_Verifier.mk ([]) 0 ([]))) rfl rfl) (by decide) ?_
          refine sr_evg (b := false) (e := 32) rfl rfl hg51 (v := .bool (!(api_Verifier.eqb c_0.Secret (api_Verifier.mk ([]) 0 ([]))))) (ev_pick_t rfl hg59 rfl) (by decide) ?_
          exact sr_weaken (l' := [(1, .pointer (some ⟨g5, 0, none⟩)), (32, .bool z40), (41, .bool (!(api_Verifier.eqb c_0.Secret (api_Verifier.mk ([]) 0 ([])))))]) (.cons rfl (.cons rfl (.cons rfl (.nil _)))) (K60 (!(api_Verifier.eqb c_0.Secret (api_Verifier.mk ([]) 0 ([])))) _ ⟨by rw [hg59]; rfl, rfl⟩)
         ·refine sr_pass (e := 36) rfl rfl (by rw [hg59]; rfl) (by decide) ?_
          refine sr_pass (e := 36) rfl rfl (by rw [hg59]; rfl) (by decide) ?_
          refine sr_pass (e := 36) rfl rfl (by rw [hg59]; rfl) (by decide) ?_
          refine sr_pass (e := 36) rfl rfl (by rw [hg59]; rfl) (by decide) ?_
          refine sr_evg (b := false) (e := 32) rfl rfl hg51 (v := .bool false) (ev_pick_f rfl hg59 rfl) (by decide) ?_
          exact sr_weaken (l' := [(1, .pointer (some ⟨g5, 0, none⟩)), (32, .bool z40), (41, .bool false)]) (.cons rfl (.cons rfl (.cons rfl (.nil _)))) (K60 false _ ⟨by rw [hg59]; rfl, rfl⟩)
     ·intro K39
      clear hS
      have hj41 : Tr ρ21 w20 (fun _ => false) ρ21 w20 := (Tr.refl hb.bd).weak (fun _ _ => rfl) rfl rfl
      rcases Bool.eq_false_or_eq_true (c_0.Kind == 2) with hg38 | hg38
      ·have hS := ite_true' hz42 hg38
       refine sr_evg (b := true) (e := 26) rfl rfl hg38 (v := .pointer (some ⟨g5, 3, none⟩)) (ev_fieldAddr (i := 3) Tryz.underlying27 rfl Tryz.info24 rfl rfl) (by decide) ?_
       refine sr_evg (b := true) (e := 26) rfl rfl hg38 (v := .agg #[str c_0.Secret.Salt, .int .i64 c_0.Secret.Rounds, str c_0.Secret.Hash]) (ev_loads (cs := [str c_0.Secret.Salt, .int .i64 c_0.Secret.Rounds, str c_0.Secret.Hash]) Tryz.isAgg24 Tryz.sizeOf24 rfl (hB9.cells (vs := [str c_0.Secret.Salt, .int .i64 c_0.Secret.Rounds, str c_0.Secret.Hash]) rfl)) (by decide) ?_
       obtain ⟨y46, hy47, hS⟩ := bind_some' hS
       refine sr_callg (b := true) (e := 26) rfl rfl hg38 (vs := [.agg #[str c_0.Secret.Salt, .int .i64 c_0.Secret.Rounds, str c_0.Secret.Hash]]) rfl Tryz.call46 rfl (ref22_Valid_ok _ (hg.fr hz hb) hy47) (by decide) ?_
       rintro _ w48 ⟨rfl, hbw49⟩
       have htr50 := Tr.of_below hbw49 hb.bd
       replace hB9 := hB9.mv (htr50.mv (i := 3) rfl)
       replace h2 := h2.mv htr50.rd
       replace h4 := h4.mv htr50.rd
       replace hb := hb.trans htr50
       replace hj41 := (hj41.trans htr50).weak (J' := (fun _ => false)) (by intro t h; simp [rng] at h ⊢ <;> omega) rfl rfl
       refine sr_evg (b := true) (e := 26) rfl rfl hg38 (v := .bool (!y46)) (ev_not rfl) (by decide) ?_
       refine sr_ev (v := .bool (!y46)) (ev_pick_t rfl hg38 rfl) (by decide) ?_
       exact sr_weaken (l' := [(1, .pointer (some ⟨g5, 0, none⟩)), (31, .bool (!y46))]) (.cons rfl (.cons rfl (.nil _))) (K39 (!y46) _ ⟨(Option.some.inj hS).symm, _, hj41⟩)
      ·have hS := ite_false' hz42 hg38
       refine sr_pass (e := 26) rfl rfl (by rw [hg38]; rfl) (by decide) ?_
       refine sr_pass (e := 26) rfl rfl (by rw [hg38]; rfl) (by decide) ?_
       refine sr_pass (e := 26) rfl rfl (by rw [hg38]; rfl) (by decide) ?_
       refine sr_pass (e := 26) rfl rfl (by rw [hg38]; rfl) (by decide) ?_
       refine sr_ev (v := .bool false) (ev_pick_f rfl hg38 rfl) (by decide) ?_
       exact sr_weaken (l' := [(1, .pointer (some ⟨g5, 0, none⟩)), (31, .bool false)]) (.cons rfl (.cons rfl (.nil _))) (K39 false _ ⟨(Option.some.inj hS).symm, _, hj41⟩)
   ·intro K30
    rcases Bool.eq_false_or_eq_true (c_0.Kind != 1) with hg29 | hg29
    all_goals try have hj32 : Tr ρ21 w20 (fun _ => false) ρ21 w20 := Tr.refl hb.bd
    ·refine sr_evg (b := true) (e := 18) rfl rfl hg29 (v := .pointer (some ⟨g5, 1, none⟩)) (ev_fieldAddr (i := 1) Tryz.underlying27 rfl Tryz.info22 rfl rfl) (by decide) ?_
     refine sr_evg (b := true) (e := 18) rfl rfl hg29 (v := .int .i64 c_0.Kind) (ev_load Tryz.isAgg22 rfl (hB9.cell rfl)) (by decide) ?_
     refine sr_evg (b := true) (e := 18) rfl rfl hg29 (v := .bool (c_0.Kind != 2)) (ev_ne rfl rfl) (by decide) ?_
     refine sr_ev (v := .bool (c_0.Kind != 2)) (ev_pick_t rfl hg29 rfl) (by decide) ?_
     exact sr_weaken (l' := [(1, .pointer (some ⟨g5, 0, none⟩)), (22, .bool (c_0.Kind != 2))]) (.cons rfl (.cons rfl (.nil _))) (K30 (c_0.Kind != 2) _ ⟨by rw [hg29]; rfl, rfl⟩)
    ·refine sr_pass (e := 18) rfl rfl (by rw [hg29]; rfl) (by decide) ?_
     refine sr_pass (e := 18) rfl rfl (by rw [hg29]; rfl) (by decide) ?_
     refine sr_pass (e := 18) rfl rfl (by rw [hg29]; rfl) (by decide) ?_
     refine sr_ev (v := .bool false) (ev_pick_f rfl hg29 rfl) (by decide) ?_
     exact sr_weaken (l' := [(1, .pointer (some ⟨g5, 0, none⟩)), (22, .bool false)]) (.cons rfl (.cons rfl (.nil _))) (K30 false _ ⟨by rw [hg29]; rfl, rfl⟩)
 ·intro K16
  clear hS
  have hj18 : Tr ρ6 w12 (fun _ => false) ρ6 w12 := (Tr.refl hb.bd).weak (fun _ _ => rfl) rfl rfl
  rcases Bool.eq_false_or_eq_true (!y10) with hg15 | hg15
  ·have hS := ite_true' hz19 hg15
   refine sr_pass (e := 9) rfl rfl (by rw [hg15]; rfl) (by decide) ?_
   refine sr_pass (e := 9) rfl rfl (by rw [hg15]; rfl) (by decide) ?_
   refine sr_pass (e := 9) rfl rfl (by rw [hg15]; rfl) (by decide) ?_
   refine sr_pass (e := 9) rfl rfl (by rw [hg15]; rfl) (by decide) ?_
   refine sr_ev (v := .bool true) (ev_pick_t rfl hg15 rfl) (by decide) ?_
   exact sr_weaken (l' := [(1, .pointer (some ⟨g5, 0, none⟩)), (14, .bool true)]) (.cons rfl (.cons rfl (.nil _))) (K16 true _ ⟨(Option.some.inj hS).symm, _, hj18⟩)
  ·have hS := ite_false' hz19 hg15
   refine sr_evg (b := false) (e := 9) rfl rfl hg15 (v := .pointer (some ⟨g5, 2, none⟩)) (ev_fieldAddr (i := 2) Tryz.underlying27 rfl Tryz.info9 rfl rfl) (by decide) ?_
   refine sr_evg (b := false) (e := 9) rfl rfl hg15 (v := str c_0.Tenant) (ev_load Tryz.isAgg9 rfl (hB9.cell rfl)) (by decide) ?_
   obtain ⟨y23, hy24, hS⟩ := bind_some' hS
   refine sr_callg (b := false) (e := 9) rfl rfl hg15 (vs := [str c_0.Tenant]) rfl Tryz.call45 rfl (ref01_Word_ok _ (hg.fr hz hb) hy24) (by decide) ?_
   rintro _ w25 ⟨rfl, hbw26⟩
   have htr27 := Tr.of_below hbw26 hb.bd
   replace hB9 := hB9.mv (htr27.mv (i := 3) rfl)
   replace h2 := h2.mv htr27.rd
   replace h4 := h4.mv htr27.rd
   replace hb := hb.trans htr27
   replace hj18 := (hj18.trans htr27).weak (J' := (fun _ => false)) (by intro t h; simp [rng] at h ⊢ <;> omega) rfl rfl
   refine sr_evg (b := false) (e := 9) rfl rfl hg15 (v := .bool (!y23)) (ev_not rfl) (by decide) ?_
   refine sr_ev (v := .bool (!y23)) (ev_pick_f rfl hg15 rfl) (by decide) ?_
   exact sr_weaken (l' := [(1, .pointer (some ⟨g5, 0, none⟩)), (14, .bool (!y23))]) (.cons rfl (.cons rfl (.nil _))) (K16 (!y23) _ ⟨(Option.some.inj hS).symm, _, hj18⟩)
theorem law36_ClientChecks_ok (w0 : World) (hg : Gs w0) {ρA : Tags} (hbd : ∀ b, ρA b ≠ 0 → b < w0.heap.size) (hz : Gz ρA) {c_0 : api_Client} {v1 : Value} {v3 : Value} {r : Bool} (h2 : SlR strC (Wb ρA) w0 v1 c_0.Redirects) (h4 : SlR strC (Wb ρA) w0 v3 c_0.Scopes) (hS : law36_ClientChecks c_0 = some r) :
  Calls Tryz.prog 3 #[.agg #[str c_0.ID, .int .i64 c_0.Kind, str c_0.Tenant, str c_0.Secret.Salt, .int .i64 c_0.Secret.Rounds, str c_0.Secret.Hash, v1, v3, str c_0.Logout]] w0 (Ret (fun v w' => v = .bool r ∧ Below w0.heap.size w0 w')) := by
 unfold law36_ClientChecks at hS
 have hb := flat1_fr (ρ := ρA) (w := w0) hbd
 have hz := hz.flat1
 replace h2 := SlR.mv h2 flat1_rd
 replace h4 := SlR.mv h4 flat1_rd
 refine calls_of_ke Tryz.func3 rfl (n := 15) rfl rfl (l := [(0, .agg #[str c_0.ID, .int .i64 c_0.Kind, str c_0.Tenant, str c_0.Secret.Salt, .int .i64 c_0.Secret.Rounds, str c_0.Secret.Hash, v1, v3, str c_0.Logout])]) rfl ?_
 refine ke_seq ?_
 refine ke_region ?_
 refine sr_boxT 3 (by decide) hb.bd rfl (by decide) ?_
 intro g5 ρ6 w7 hB9 htr8
 replace h2 := h2.mv htr8.rd
 replace h4 := h4.mv htr8.rd
 replace hb := hb.trans htr8
 replace hB9 : Blk ρ6 3 w7 g5 (.cells #[str c_0.ID, .int .i64 c_0.Kind, str c_0.Tenant, str c_0.Secret.Salt, .int .i64 c_0.Secret.Rounds, str c_0.Secret.Hash, v1, v3, str c_0.Logout] 27 (0, 0)) := hB9
 refine sr_ev (v := .bool false) (ev_assign rfl) (by decide) ?_
 refine sr_end (l' := [(1, .pointer (some ⟨g5, 0, none⟩))]) (.cons rfl (.nil _)) ?_
 refine ke_seq ?_
 refine ke_seq ?_
 refine ke_region ?_
 refine sr_ev (v := .agg #[str c_0.ID, .int .i64 c_0.Kind, str c_0.Tenant, str c_0.Secret.Salt, .int .i64 c_0.Secret.Rounds, str c_0.Secret.Hash, v1, v3, str c_0.Logout]) (ev_loads (cs := [str c_0.ID, .int .i64 c_0.Kind, str c_0.Tenant, str c_0.Secret.Salt, .int .i64 c_0.Secret.Rounds, str c_0.Secret.Hash, v1, v3, str c_0.Logout]) Tryz.isAgg27 Tryz.sizeOf27 rfl (hB9.cells (vs := [str c_0.ID, .int .i64 c_0.Kind, str c_0.Tenant, str c_0.Secret.Salt, .int .i64 c_0.Secret.Rounds, str c_0.Secret.Hash, v1, v3, str c_0.Logout]) rfl)) (by decide) ?_
 obtain ⟨y10, hy11, hS⟩ := bind_some' hS
 refine sr_call (vs := [.agg #[str c_0.ID, .int .i64 c_0.Kind, str c_0.Tenant, str c_0.Secret.Salt, .int .i64 c_0.Secret.Rounds, str c_0.Secret.Hash, v1, v3, str c_0.Logout]]) rfl Tryz.call10 rfl (law36_small_ok _ (hg.fr hz hb) (ρA := ρ6) hb.bd (hz.fr hg hb) h2 h4 hy11) (by decide) ?_
 rintro _ w12 ⟨rfl, hbw13⟩
 have htr14 := Tr.of_below hbw13 hb.bd
 replace hB9 := hB9.mv (htr14.mv (i := 3) rfl)
 replace h2 := h2.mv htr14.rd
 replace h4 := h4.mv htr14.rd
 replace hb := hb.trans htr14
 refine sr_ev (v := .bool (!y10)) (ev_not rfl) (by decide) ?_
 refine sr_end (l' := [(1, .pointer (some ⟨g5, 0, none⟩)), (5, .bool (!y10))]) (.cons rfl (.cons rfl (.nil _))) ?_
 refine ke_cond (t := !y10) rfl (fun hc15 => ?_) (fun hc15 => ?_)
 ·replace hS := ite_true' hS hc15
  refine ke_seq ?_
  refine ke_region ?_
  obtain ⟨y16, hy17, hS⟩ := bind_some' hS
  refine sr_call (vs := []) rfl Tryz.call11 rfl (law36_alive_ok _ (hg.fr hz hb) (ρA := ρ6) hb.bd (hz.fr hg hb) hy17) (by decide) ?_
  rintro _ w18 ⟨rfl, hbw19⟩
  have htr20 := Tr.of_below hbw19 hb.bd
  replace hb := hb.trans htr20
  refine sr_ev (v := .bool y16) (ev_assign rfl) (by decide) ?_
  refine sr_end (l' := [(2, .bool y16)]) (.cons rfl (.nil _)) ?_
  cases hS
  exact ke_ret1 Tryz.func3 rfl rfl ⟨_, rfl, rfl, (hb.below (flat1_le _))⟩
 ·replace hS := ite_false' hS hc15
  refine ke_skip ?_
  refine ke_seq ?_
  refine ke_region_q Tryz.mixed (by kernel_rfl) ?_
  refine sq_ev (v := .agg #[str c_0.ID, .int .i64 c_0.Kind, str c_0.Tenant, str c_0.Secret.Salt, .int .i64 c_0.Secret.Rounds, str c_0.Secret.Hash, v1, v3, str c_0.Logout]) (fun w1 hw1 => ev_loads (cs := [str c_0.ID, .int .i64 c_0.Kind, str c_0.Tenant, str c_0.Secret.Salt, .int .i64 c_0.Secret.Rounds, str c_0.Secret.Hash, v1, v3, str c_0.Logout]) Tryz.isAgg27 Tryz.sizeOf27 rfl ((hB9.mv (Mv.of_below (i := 3) (ρ := ρ6) hw1)).cells (vs := [str c_0.ID, .int .i64 c_0.Kind, str c_0.Tenant, str c_0.Secret.Salt, .int .i64 c_0.Secret.Rounds, str c_0.Secret.Hash, v1, v3, str c_0.Logout]) rfl)) (by decide) ?_
  obtain ⟨y23, hy24, hS⟩ := bind_some' hS
  refine sq_call (v := .int .i64 y23) (vs := [.agg #[str c_0.ID, .int .i64 c_0.Kind, str c_0.Tenant, str c_0.Secret.Salt, .int .i64 c_0.Secret.Rounds, str c_0.Secret.Hash, v1, v3, str c_0.Logout]]) rfl Tryz.call12 rfl (fun w1 hw1 => (client_Check_ok _ ((hg.fr hz hb).below hw1) (ρA := ρ6) (fun b h => Nat.lt_of_lt_of_le (hb.bd b h) hw1.size) (hz.fr hg hb) (h2.mv (Mv.of_below (i := 0) hw1)) (h4.mv (Mv.of_below (i := 0) hw1)) hy24)) (by decide) ?_
  refine sq_ev (v := .agg #[str c_0.ID, .int .i64 c_0.Kind, str c_0.Tenant, str c_0.Secret.Salt, .int .i64 c_0.Secret.Rounds, str c_0.Secret.Hash, v1, v3, str c_0.Logout]) (fun w1 hw1 => ev_loads (cs := [str c_0.ID, .int .i64 c_0.Kind, str c_0.Tenant, str c_0.Secret.Salt, .int .i64 c_0.Secret.Rounds, str c_0.Secret.Hash, v1, v3, str c_0.Logout]) Tryz.isAgg27 Tryz.sizeOf27 rfl ((hB9.mv (Mv.of_below (i := 3) (ρ := ρ6) hw1)).cells (vs := [str c_0.ID, .int .i64 c_0.Kind, str c_0.Tenant, str c_0.Secret.Salt, .int .i64 c_0.Secret.Rounds, str c_0.Secret.Hash, v1, v3, str c_0.Logout]) rfl)) (by decide) ?_
  obtain ⟨y28, hy29, hS⟩ := bind_some' hS
  refine sq_call (v := .int .i64 y28) (vs := [.agg #[str c_0.ID, .int .i64 c_0.Kind, str c_0.Tenant, str c_0.Secret.Salt, .int .i64 c_0.Secret.Rounds, str c_0.Secret.Hash, v1, v3, str c_0.Logout]]) rfl Tryz.call13 rfl (fun w1 hw1 => (ref36_Check_ok _ ((hg.fr hz hb).below hw1) (ρA := ρ6) (fun b h => Nat.lt_of_lt_of_le (hb.bd b h) hw1.size) (hz.fr hg hb) (h2.mv (Mv.of_below (i := 0) hw1)) (h4.mv (Mv.of_below (i := 0) hw1)) hy29)) (by decide) ?_
  refine sq_ev (v := .bool (y23 == y28)) (fun w1 hw1 => ev_eq rfl rfl) (by decide) ?_
  refine sq_ev (v := .bool (y23 == y28)) (fun w1 hw1 => ev_move rfl) (by decide) ?_
  obtain ⟨z35, hz37, hS⟩ := bind_some' hS
  refine sq_join (m := 2) (C := fun (x : Bool) => z35 = x) (l' := fun x => [(14, .bool x)]) ?_ ?_
  ·rintro _ rfl
   refine sq_ev (v := .bool z35) (fun w1 hw1 => ev_assign rfl) (by decide) ?_
   refine sq_end (l' := [(2, .bool z35)]) (.cons rfl (.nil _)) (fun w22 hw21 => ?_)
   have htr45 := Tr.of_below hw21 hb.bd
   replace hb := hb.trans htr45
   cases hS
   exact ke_ret1 Tryz.func3 rfl rfl ⟨_, rfl, rfl, (hb.below (flat1_le _))⟩
  ·intro K34
   clear hS
   rcases Bool.eq_false_or_eq_true (y23 == y28) with hg33 | hg33
   ·have hS := ite_true' hz37 hg33
    obtain ⟨y40, hy41, hS⟩ := bind_some' hS
    refine sq_callg (b := true) (e := 12) rfl rfl hg33 (v := .bool y40) (vs := []) rfl Tryz.call11 rfl (fun w1 hw1 => (law36_alive_ok _ ((hg.fr hz hb).below hw1) (ρA := ρ6) (fun b h => Nat.lt_of_lt_of_le (hb.bd b h) hw1.size) (hz.fr hg hb) hy41)) (by decide) ?_
    refine sq_ev (v := .bool y40) (fun w1 hw1 => ev_pick_t rfl hg33 rfl) (by decide) ?_
    exact sq_weaken (l' := [(14, .bool y40)]) (.cons rfl (.nil _)) (K34 y40 (Option.some.inj hS).symm)
   ·have hS := ite_false' hz37 hg33
    refine sq_pass (e := 12) rfl rfl (by rw [hg33]; rfl) (by decide) ?_
    refine sq_ev (v := .bool false) (fun w1 hw1 => ev_pick_f rfl hg33 rfl) (by decide) ?_
    exact sq_weaken (l' := [(14, .bool false)]) (.cons rfl (.nil _)) (K34 false (Option.some.inj hS).symm)
end YtmdbnoopcdpomaaGreatDoor
end Go.Proofs
