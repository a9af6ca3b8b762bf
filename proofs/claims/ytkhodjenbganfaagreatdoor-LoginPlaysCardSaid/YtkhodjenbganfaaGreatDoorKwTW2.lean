/- Own work: a part of the proofs of this seat. -/
import Derived.Test.YtkhodjenbganfaaGreatDoorProg
import Derived.Test.YtkhodjenbganfaaGreatDoorKwShelf
import Derived.Test.YtkhodjenbganfaaGreatDoorKwTS
import Derived.KernelRfl
import Derived.Test.YtkhodjenbganfaaGreatDoorKwTW1
import Derived.Test.YtkhodjenbganfaaGreatDoorKwShort
set_option linter.unusedVariables false
set_option linter.unusedSimpArgs false
set_option linter.unusedSectionVars false
set_option maxHeartbeats 8000000
set_option maxRecDepth 8000
namespace Go.Proofs
namespace YtkhodjenbganfaaGreatDoor
open Go Go.KW Go.KW.S Go.RowKit
theorem strength_count_B2_ok {w0 : World} (hg : Gs w0) {ρA : Tags} (hbd : ∀ b, ρA b ≠ 0 → b < w0.heap.size) (hz : Gz (flat1 ρA)) (r0 : List api_Proof → Int → List Int → Int → Option (Int))
  (hr0 : ∀ {r : Int} {l_0 : List api_Proof} {n_3 : Int} {t_6 : List Int} {t_7 : Int} {vl_0 : Value}, r0 l_0 n_3 t_6 t_7 = some r → ∀ {ρ : Tags} {w : World}, (Fr (flat1 ρA) w0 ρ w) → (SlR api_Proof.c (Wb ρ) w vl_0 l_0) → KE Tryz.prog 51 (Ret (fun v w' => v = .int .i64 r ∧ Below w0.heap.size w0 w')) 17 [.inLoop (sub (bodyOf Tryz.f51) [2, 2, 1, 2, 2, 1]), .inBlock 0, .code (sub (bodyOf Tryz.f51) [2, 2, 2])] [(0, vl_0), (3, .int .i64 n_3), (6, arrV .i64 t_6), (7, .int .i64 t_7)] w) {r : Int} {l_0 : List api_Proof} {n_3 : Int} {t_6 : List Int} {t_7 : Int} {vl_0 : Value} (hS : strength_count_B2 r0 l_0 n_3 t_6 t_7 = some r) {ρ : Tags} {w : World} (hb : Fr (flat1 ρA) w0 ρ w) (hl_0 : SlR api_Proof.c (Wb ρ) w vl_0 l_0) :
  KE Tryz.prog 51 (Ret (fun v w' => v = .int .i64 r ∧ Below w0.heap.size w0 w')) 17 [.inBlock 1, .code (sub (bodyOf Tryz.f51) [2, 2, 1, 2, 2, 1, 2, 2, 2]), .inLoop (sub (bodyOf Tryz.f51) [2, 2, 1, 2, 2, 1]), .inBlock 0, .code (sub (bodyOf Tryz.f51) [2, 2, 2])] [(0, vl_0), (3, .int .i64 n_3), (6, arrV .i64 t_6), (7, .int .i64 t_7)] w := by
 unfold strength_count_B2 at hS
 refine ke_inBlock <| ke_region <| sr_go 2 rfl <| sr_fin [0, 3, 6, 7] rfl ?_
 have hK := hr0 hS hb hl_0
 exact ke_wk hK
theorem strength_count_L1_ok {w0 : World} (hg : Gs w0) {ρA : Tags} (hbd : ∀ b, ρA b ≠ 0 → b < w0.heap.size) (hz : Gz (flat1 ρA)) : ∀ (n : Nat), ∀ {r : Int} {l_0 : List api_Proof} {n_3 : Int} {t_6 : List Int} {t_7 : Int} {vl_0 : Value}, strength_count_L1 n l_0 n_3 t_6 t_7 = some r → ∀ {ρ : Tags} {w : World}, (Fr (flat1 ρA) w0 ρ w) → (SlR api_Proof.c (Wb ρ) w vl_0 l_0) → KE Tryz.prog 51 (Ret (fun v w' => v = .int .i64 r ∧ Below w0.heap.size w0 w')) 17 [.code (sub (bodyOf Tryz.f51) [2, 2, 1, 2, 2, 1]), .inLoop (sub (bodyOf Tryz.f51) [2, 2, 1, 2, 2, 1]), .inBlock 0, .code (sub (bodyOf Tryz.f51) [2, 2, 2])] [(0, vl_0), (3, .int .i64 n_3), (6, arrV .i64 t_6), (7, .int .i64 t_7)] w := by
 intro n
 induction n with
 | zero => intro r l_0 n_3 t_6 t_7 vl_0 hS; cases hS
 | succ n ih =>
  have hr0 : ∀ {r : Int} {l_0 : List api_Proof} {n_3 : Int} {t_6 : List Int} {t_7 : Int} {vl_0 : Value}, strength_count_L1 n l_0 n_3 t_6 t_7 = some r → ∀ {ρ : Tags} {w : World}, (Fr (flat1 ρA) w0 ρ w) → (SlR api_Proof.c (Wb ρ) w vl_0 l_0) → KE Tryz.prog 51 (Ret (fun v w' => v = .int .i64 r ∧ Below w0.heap.size w0 w')) 17 [.inLoop (sub (bodyOf Tryz.f51) [2, 2, 1, 2, 2, 1]), .inBlock 0, .code (sub (bodyOf Tryz.f51) [2, 2, 2])] [(0, vl_0), (3, .int .i64 n_3), (6, arrV .i64 t_6), (7, .int .i64 t_7)] w := fun {r} {l_0} {n_3} {t_6} {t_7} {vl_0} hS {ρ} {w} hb hl_0 => ke_inLoop (ih hS hb hl_0)
  clear ih
  intro r l_0 n_3 t_6 t_7 vl_0 hS ρ w hb hl_0
  unfold strength_count_L1 at hS
  refine ke_seq <| ke_region <| sr_go 1 rfl <| sr_fin [0, 3, 6, 7, 8] rfl <| ke_seq ?_
  refine ke_cond rfl (fun hc8 => ?_) (fun hc8 => ?_)
  ·replace hS := iT hS hc8
   refine ke_skip <| ke_seq ?_
   refine ke_block ?_
   refine ke_seq <| ke_region ?_
   obtain ⟨hk9, hS⟩ := chk_some hS
   obtain ⟨y10, hy11, hS⟩ := bS hS
   refine sr_e (v := .int .i64 y10) (ev_avindex Tryz.underlying125 Tryz.sizeOf40 Tryz.isAgg40 (by simpa using (eq_of_beq hk9).symm) rfl rfl hy11) ?_
   refine sr_go 1 rfl <| sr_fin [0, 3, 5, 6, 7] rfl <| ke_seq <| ke_region <| sr_go 2 rfl ?_
   obtain ⟨y12, hy13, hS⟩ := bS hS
   refine sr_cb Tryz.call52 (strength_has_ok _ (hg.fr hz hb) hb.bd (hz.fr hg hb) hl_0 hy13) hb.bd ?_
   intro w14 t16
   replace hl_0 := hl_0.mv t16.rd
   replace hb := hb.trans t16
   refine sr_fin [0, 3, 6, 7, 12] rfl ?_
   refine ke_cond rfl (fun hc17 => ?_) (fun hc17 => ?_)
   ·replace hS := iT hS hc17
    refine ke_region <| sr_go 3 rfl <| sr_fin [0, 3, 6, 7] rfl ?_
    have hK := strength_count_B2_ok hg hbd hz _ hr0 hS hb hl_0
    exact ke_wk hK
   ·replace hS := iF hS hc17
    refine ke_skip ?_
    have hK := strength_count_B2_ok hg hbd hz _ hr0 hS hb hl_0
    exact ke_wk hK
  ·replace hS := iF hS hc8
   refine ke_exit (k' := _) rfl ?_
   refine ke_seq <| ke_region <| sr_go 2 rfl <| sr_fin [2] rfl ?_
   cases hS
   exact ke_ret1 Tryz.func51 rfl rfl ⟨_, rfl, rfl, (hb.below (flat1_le _))⟩
theorem strength_count_ok (w0 : World) (hg : Gs w0) {ρA : Tags} (hbd : ∀ b, ρA b ≠ 0 → b < w0.heap.size) (hz : Gz ρA) {l_0 : List api_Proof} {v1 : Value} {r : Int} (h2 : SlR api_Proof.c (Wb ρA) w0 v1 l_0) (hS : strength_count l_0 = some r) :
  Calls Tryz.prog 51 #[v1] w0 (Ret (fun v w' => v = .int .i64 r ∧ Below w0.heap.size w0 w')) := by
 unfold strength_count at hS
 have hb := flat1_fr (ρ := ρA) (w := w0) hbd
 have hz := hz.flat1
 replace h2 := SlR.mv h2 flat1_rd
 refine ck Tryz.func51 [0] rfl rfl ?_
 refine ke_seq <| ke_region <| sr_go 1 rfl <| sr_fin [0] rfl <| ke_seq <| ke_region <| sr_go 1 rfl <| sr_fin [0, 3] rfl <| ke_seq <| ke_seq <| ke_region ?_
 obtain ⟨y3, hy4, hS⟩ := bS hS
 refine sr_cb Tryz.call93 (strength_ordinary_ok _ (hg.fr hz hb) hb.bd (hz.fr hg hb) hy4) hb.bd ?_
 intro w5 t7
 replace h2 := h2.mv t7.rd
 replace hb := hb.trans t7
 refine sr_go 1 rfl <| sr_fin [0, 3, 6, 7] rfl ?_
 refine ke_block ?_
 have hK := strength_count_L1_ok hg hbd hz _ hS hb h2
 exact ke_wk (ke_loop hK)
theorem strength_Level_ok (w0 : World) (hg : Gs w0) {ρA : Tags} (hbd : ∀ b, ρA b ≠ 0 → b < w0.heap.size) (hz : Gz ρA) {l_0 : List api_Proof} {v1 : Value} {r : Int} (h2 : SlR api_Proof.c (Wb ρA) w0 v1 l_0) (hS : strength_Level l_0 = some r) :
  Calls Tryz.prog 18 #[v1] w0 (Ret (fun v w' => v = .int .i64 r ∧ Below w0.heap.size w0 w')) := by
 unfold strength_Level at hS
 have hb := flat1_fr (ρ := ρA) (w := w0) hbd
 have hz := hz.flat1
 replace h2 := SlR.mv h2 flat1_rd
 refine ck Tryz.func18 [0] rfl rfl ?_
 refine ke_seq <| ke_region <| sr_go 1 rfl <| sr_fin [0] rfl <| ke_seq <| ke_seq <| ke_region <| sr_go 1 rfl ?_
 obtain ⟨y3, hy4, hS⟩ := bS hS
 refine sr_cb Tryz.call51 (strength_count_ok _ (hg.fr hz hb) hb.bd (hz.fr hg hb) h2 hy4) hb.bd ?_
 intro w5 t7
 replace h2 := h2.mv t7.rd
 replace hb := hb.trans t7
 refine sr_go 1 rfl <| sr_fin [0, 3] rfl <| ke_seq <| ke_region <| sr_go 3 rfl ?_
 obtain ⟨z10, hz12, hS⟩ := bS hS
 refine sr_join (m := 4) (C := fun (z : Bool) w1 => z10 = z ∧ ∃ ρ1, Tr (flat1 ρA) w5 (fun _ => false) ρ1 w1) (l' := fun z => [(3, .int .i64 y3), (12, .bool z)]) ?_ ?_
 ·rintro _ w13 ⟨rfl, ρ14, hj11⟩
  replace hb := hb.trans hj11
  refine sr_fin [3, 12] rfl ?_
  refine ke_cond rfl (fun hc21 => ?_) (fun hc21 => ?_)
  ·replace hS := iT hS hc21
   refine ke_seq <| ke_region <| sr_go 2 rfl <| sr_fin [2] rfl ?_
   cases hS
   exact ke_ret1 Tryz.func18 rfl rfl ⟨_, rfl, rfl, (hb.below (flat1_le _))⟩
  ·replace hS := iF hS hc21
   refine ke_skip <| ke_seq <| ke_region <| sr_go 1 rfl <| sr_fin [2] rfl ?_
   cases hS
   exact ke_ret1 Tryz.func18 rfl rfl ⟨_, rfl, rfl, (hb.below (flat1_le _))⟩
 ·intro K9
  clear hS
  have hj11 : Tr (flat1 ρA) w5 (fun _ => false) (flat1 ρA) w5 := (Tr.refl hb.bd).weak (fun _ _ => rfl) rfl rfl
  rcases Bool.eq_false_or_eq_true (decide (y3 > 0)) with hg8 | hg8
  ·have hS := iT hz12 hg8
   refine sr_setb 8 rfl hg8 <| sr_go 4 rfl ?_
   exact sr_wk (K9 true _ ⟨(Option.some.inj hS).symm, _, hj11⟩)
  ·have hS := iF hz12 hg8
   refine sr_setb 8 rfl hg8 <| sr_go 1 rfl ?_
   obtain ⟨y16, hy17, hS⟩ := bS hS
   refine sr_callg (b := false) (e := 8) rfl rfl rfl (vs := [v1, .int .i64 4]) rfl Tryz.call52 rfl (strength_has_ok _ (hg.fr hz hb) (ρA := (flat1 ρA)) hb.bd (hz.fr hg hb) h2 hy17) (by decide) ?_
   rintro _ w18 ⟨rfl, hbw19⟩
   have t20 := Tr.of_below hbw19 hb.bd
   replace hb := hb.trans t20
   replace hj11 := hj11.tw t20
   refine sr_go 2 rfl ?_
   exact sr_wk (K9 (!y16) _ ⟨(Option.some.inj hS).symm, _, hj11⟩)
theorem login_Logins_Finish_ok (w0 : World) (hg : Gs w0) {ρA : Tags} (hbd : ∀ b, ρA b ≠ 0 → b < w0.heap.size) (hz : Gz ρA) {o : Nat} (ho2 : 2 ≤ o) {l_0 : login_Logins} {id_1 : Str} {level_2 : Int} {now_3 : Int} {gl_0 : Nat} {r : Str × (List api_Proof) × Int × login_Logins} (ho0 : login_Logins.O (fun p => o + p) ρA w0 gl_0 l_0) (hS : login_Logins_Finish l_0 id_1 level_2 now_3 = some r) :
  Calls Tryz.prog 17 #[pT gl_0 0, str id_1, .int .i64 level_2, .int .i64 now_3] w0 (Ret (fun v w' => ∃ ρ' x1, v = .tuple #[str r.1, x1, .int .i64 r.2.2.1] ∧ SlR api_Proof.c (Wb ρ') w' x1 r.2.1 ∧ login_Logins.O (fun p => o + p) ρ' w' gl_0 r.2.2.2 ∧ Tr ρA w0 (rng o 7) ρ' w')) := by
 unfold login_Logins_Finish at hS
 have hb := enter_fr (ρ := ρA) (w := w0) (n := 7) ho2 hbd
 have hz := hz.enter (n := 7) ho2
 obtain ⟨v1, v3, v5, v7, hB9, hP2, h4, h6, h8⟩ := ho0
 replace hB9 := hB9.mv (enter_mv (p := 0) (n := 7) (by decide) ho2)
 replace hP2 := PtrO.mv hP2 secret_Locks.objK (fun p hp => enter_mv (p := 1 + p) (n := 7) (by omega) ho2) (fun p hp => by omega)
 replace h4 := h4.mv (enter_mv (p := 4) (n := 7) (by decide) ho2)
 replace h6 := h6.mv (enter_mv (p := 5) (n := 7) (by decide) ho2)
 replace h8 := h8.mv (enter_mv (p := 6) (n := 7) (by decide) ho2)
 refine ck Tryz.func17 [0, 1, 2, 3] rfl rfl ?_
 refine ke_seq <| ke_region <| sr_go 3 rfl <| sr_fin [0, 1, 2, 3] rfl <| ke_seq <| ke_region <| sr_go 3 rfl ?_
 obtain ⟨y12, hy13, hS⟩ := bS hS
 refine sr_cl Tryz.call49 (login_Logins_find_ok _ (hg.fr hz hb) hb.bd (hz.fr hg hb) (τ0 := (fun p => 100 + p)) (fun p => Nat.le_add_right_of_le (by decide)) (by exact ⟨_, _, _, _, hB9, hP2, h4, h6, h8⟩) hy13) ?_
 rintro _ w14 ⟨v17, rfl, h18, hbw15⟩
 have t16 := Tr.of_below hbw15 hb.bd
 replace hb := hb.trans t16
 refine sr_go 3 rfl ?_
 refine sr_allocT 13 (by decide) hb.bd Tryz.zeroValue74 (by decide) ?_
 intro g19 ρ20 w21 hB23 t22
 replace h18 := h18.mv t22.rd
 replace hB9 := (hB9.m t16).m t22
 replace hP2 := (hP2.m secret_Locks.objK t16).m secret_Locks.objK t22
 replace h4 := (h4.m t16).m t22
 replace h6 := (h6.m t16).m t22
 replace h8 := (h8.m t16).m t22
 replace hb := hb.trans t22
 refine sr_storeT (v := .agg #[str y12.1.user, .int .i64 y12.1.begun, v17]) (vs := [str y12.1.user, .int .i64 y12.1.begun, v17]) (cs' := #[str y12.1.user, .int .i64 y12.1.begun, v17]) hB23 (by decide) hb.bd rfl rfl rfl Tryz.sizeOf74 rfl (by first | rfl | (simp only [List.all_cons, List.all_nil, SlR.oneCell h18]; done) | (simp only [List.all_cons, List.all_nil, SlR.oneCell h18]; rfl)) rfl ?_
 intro w24 hB23 t25
 replace h18 := h18.mv t25.rd
 replace hB9 := hB9.m t25
 replace hP2 := hP2.m secret_Locks.objK t25
 replace h4 := h4.m t25
 replace h6 := h6.m t25
 replace h8 := h8.m t25
 replace hb := hb.trans t25
 refine sr_go 1 rfl <| sr_fin [0, 1, 2, 11, 12] rfl <| ke_seq ?_
 refine ke_block ?_
 refine ke_seq <| ke_region <| sr_go 3 rfl <| sr_fin [0, 1, 2, 11, 12, 20] rfl ?_
 refine ke_cond rfl (fun hc26 => ?_) (fun hc26 => ?_)
 ·replace hS := iT hS hc26
  refine ke_seq <| ke_region <| sr_go 4 rfl <| sr_fin [8, 9, 10] rfl ?_
  cases hS
  exact ke_ret3 Tryz.func17 rfl rfl rfl rfl ⟨_, rfl, _, _, rfl, SlR.nil, ⟨_, _, _, _, (hB9.lv 0 hb), (hP2.lv secret_Locks.objK ho2 hb), (h4.lv 4 hb), (h6.lv 5 hb), (h8.lv 6 hb)⟩, (leave_tr ho2 hb)⟩
 ·replace hS := iF hS hc26
  refine ke_seq <| ke_region ?_
  refine sr_fa 2 Tryz.underlying74 rfl Tryz.info36 ?_
  refine sr_ld v17 Tryz.isAgg36 rfl (hB23.cell rfl) ?_
  obtain ⟨y27, hy28, hS⟩ := bS hS
  refine sr_cb Tryz.call18 (strength_Level_ok _ (hg.fr hz hb) hb.bd (hz.fr hg hb) h18 hy28) hb.bd ?_
  intro w29 t31
  replace hB23 := hB23.m t31
  replace h18 := h18.mv t31.rd
  replace hB9 := hB9.m t31
  replace hP2 := hP2.m secret_Locks.objK t31
  replace h4 := h4.m t31
  replace h6 := h6.m t31
  replace h8 := h8.m t31
  replace hb := hb.trans t31
  refine sr_go 3 rfl <| sr_fin [0, 1, 11, 24] rfl ?_
  refine ke_cond rfl (fun hc32 => ?_) (fun hc32 => ?_)
  ·replace hS := iT hS hc32
   refine ke_seq <| ke_region <| sr_go 3 rfl <| sr_fin [8, 9, 10] rfl ?_
   cases hS
   exact ke_ret3 Tryz.func17 rfl rfl rfl rfl ⟨_, rfl, _, _, rfl, SlR.nil, ⟨_, _, _, _, (hB9.lv 0 hb), (hP2.lv secret_Locks.objK ho2 hb), (h4.lv 4 hb), (h6.lv 5 hb), (h8.lv 6 hb)⟩, (leave_tr ho2 hb)⟩
  ·replace hS := iF hS hc32
   refine ke_skip <| ke_inBlock <| ke_seq <| ke_region <| sr_go 2 rfl ?_
   refine sr_fa 3 Tryz.underlying69 rfl Tryz.info67 ?_
   refine sr_ld v7 Tryz.isAgg67 rfl (hB9.cell rfl) ?_
   refine sr_go 1 rfl ?_
   refine sr_mapDel0 (k := id_1) h8 Tryz.keyB9 Tryz.underlying67 (by decide) hb.bd rfl rfl ?_
   intro w33 h81 t34
   replace h18 := h18.mv t34.rd
   replace hb := hb.trans t34
   replace h8 := h81
   clear h81
   refine sr_fin [11] rfl <| ke_seq ?_
   refine ke_region_j (ρ := ρ20) (fun t => ([41] : List Nat).contains t) 8 Tryz.mixed (fun w36 hw35 => ?_)
   have t37 := Tr.of_below hw35 hb.bd
   replace hB23 := (hB23.m t34).m t37
   replace h18 := h18.mv t37.rd
   replace hB9 := (hB9.m t34).m t37
   replace hP2 := (hP2.m secret_Locks.objK t34).m secret_Locks.objK t37
   replace h4 := (h4.m t34).m t37
   replace h6 := (h6.m t34).m t37
   replace hb := hb.trans t37
   refine dj_h 0 (pT g19 0) hb.bd rfl (fun w1 ρ1 hw1 => ev_fieldAddr (i := 0) Tryz.underlying74 rfl Tryz.info9 rfl rfl) ?_
   refine dj_h 1 (str y12.1.user) hb.bd rfl (fun w1 ρ1 hw1 => ev_load Tryz.isAgg9 rfl ((hB23.mv (hw1.mv (i := 13) rfl)).cell rfl)) ?_
   refine dj_h 2 (pT g19 2) hb.bd rfl (fun w1 ρ1 hw1 => ev_fieldAddr (i := 2) Tryz.underlying74 rfl Tryz.info36 rfl rfl) ?_
   refine dj_h 3 v17 hb.bd rfl (fun w1 ρ1 hw1 => ev_load Tryz.isAgg36 rfl ((hB23.mv (hw1.mv (i := 13) rfl)).cell rfl)) ?_
   refine dj_E 4 (by kernel_rfl) rfl ?_
   have jt57 : Tr ρ20 w36 (fun t => ([41] : List Nat).contains t) ρ20 w36 := (Tr.refl hb.bd).weak (fun _ _ => rfl) rfl rfl
   obtain ⟨y58, hy59, hS⟩ := bS hS
   refine sr_cl Tryz.call50 (slices_Clone_api_Proof_api_Proof_ok _ (hg.fr hz hb) hb.bd (hz.fr hg hb) (o := 41) (by decide) h18 hy59) ?_
   rintro v63 w60 ⟨ρ65, _, rfl, h64, t62⟩
   replace h8 := (h8.m t37).m t62
   replace hb := hb.trans t62
   replace jt57 := jt57.tw t62
   refine dj_nx [36, 39] rfl jt57 ?_
   refine dj_v 5 hb.bd rfl rfl ?_
   refine dj_v 6 hb.bd rfl rfl ?_
   refine dj_v 7 hb.bd rfl rfl ?_
   refine dj_done rfl (by kernel_rfl) ?_
   refine ke_fin [8, 9, 10] rfl ?_
   have t66 := frz_tr (ρ := ρ65) (w := w60) (i := 41) (by decide) hb.bd
   have h67 : SlR api_Proof.c (Wb (frz ρ65 41)) w60 v63 y58 := (SlT.mv h64.sl (frz_mv (ρ := ρ65) (w := w60) (i := 41))).sl
   replace hB9 := (hB9.m t62).m t66
   replace hP2 := (hP2.m secret_Locks.objK t62).m secret_Locks.objK t66
   replace h4 := (h4.m t62).m t66
   replace h6 := (h6.m t62).m t66
   replace h8 := h8.m t66
   replace hb := hb.trans t66
   cases hS
   exact ke_ret3 Tryz.func17 rfl rfl rfl rfl ⟨_, rfl, _, _, rfl, (SlR.mv h67 (leave_rd hb)), ⟨_, _, _, _, (hB9.lv 0 hb), (hP2.lv secret_Locks.objK ho2 hb), (h4.lv 4 hb), (h6.lv 5 hb), (h8.lv 6 hb)⟩, (leave_tr ho2 hb)⟩
theorem codec_Int_ok (w0 : World) (hg : Gs w0) {n_0 : Int} {r : Str} (hS : codec_Int n_0 = some r) :
  Calls Tryz.prog 83 #[.int .i64 n_0] w0 (Ret (fun v w' => v = str r ∧ Below w0.heap.size w0 w')) := by
 unfold codec_Int at hS
 have hb := Below.refl w0.heap.size w0
 refine ck Tryz.func83 [0] rfl rfl ?_
 refine ke_seq <| ke_region <| sr_go 1 rfl <| sr_fin [0] rfl <| ke_seq <| ke_region <| sr_go 1 rfl ?_
 obtain ⟨y1, hy2, hS⟩ := bS hS
 refine sr_cl Tryz.call114 (lib_Itoa_ok _ (hg.below hb) hy2) ?_
 rintro _ w3 ⟨rfl, hbw4⟩
 replace hb := hb.trans (hbw4.mono hb.size)
 refine sr_go 1 rfl <| sr_fin [2] rfl ?_
 cases hS
 exact ke_ret1 Tryz.func83 rfl rfl ⟨_, rfl, rfl, hb⟩
theorem digest_Mac_ok (w0 : World) (hg : Gs w0) {key_0 : Str} {s_1 : Str} {r : Str} (hS : digest_Mac key_0 s_1 = some r) :
  Calls Tryz.prog 82 #[str key_0, str s_1] w0 (Ret (fun v w' => v = str r ∧ Below w0.heap.size w0 w')) := by
 unfold digest_Mac at hS
 have hb := Below.refl w0.heap.size w0
 refine ck Tryz.func82 [0, 1] rfl rfl ?_
 refine ke_seq <| ke_region <| sr_go 1 rfl <| sr_fin [0, 1] rfl <| ke_seq <| ke_region <| sr_go 1 rfl ?_
 refine sr_e (ev_slen Tryz.underlying9 rfl) ?_
 obtain ⟨y1, hy2, hS⟩ := bS hS
 refine sr_cl Tryz.call114 (lib_Itoa_ok _ (hg.below hb) hy2) ?_
 rintro _ w3 ⟨rfl, hbw4⟩
 replace hb := hb.trans (hbw4.mono hb.size)
 obtain ⟨hk5, hS⟩ := chk_some hS
 refine sr_e (ev_cat rfl rfl hk5) ?_
 refine sr_go 1 rfl ?_
 obtain ⟨hk6, hS⟩ := chk_some hS
 refine sr_e (ev_cat rfl rfl hk6) ?_
 refine sr_go 1 rfl <| sr_fin [1, 5] rfl <| ke_seq <| ke_region <| sr_go 3 rfl ?_
 obtain ⟨hk7, hS⟩ := chk_some hS
 refine sr_e (ev_cat rfl rfl hk7) ?_
 obtain ⟨y8, hy9, hS⟩ := bS hS
 refine sr_cl Tryz.call96 (digest_Text_ok _ (hg.below hb) hy9) ?_
 rintro _ w10 ⟨rfl, hbw11⟩
 replace hb := hb.trans (hbw11.mono hb.size)
 obtain ⟨hk12, hS⟩ := chk_some hS
 refine sr_e (ev_cat rfl rfl hk12) ?_
 obtain ⟨y13, hy14, hS⟩ := bS hS
 refine sr_cl Tryz.call96 (digest_Text_ok _ (hg.below hb) hy14) ?_
 rintro _ w15 ⟨rfl, hbw16⟩
 replace hb := hb.trans (hbw16.mono hb.size)
 refine sr_go 1 rfl <| sr_fin [4] rfl ?_
 cases hS
 exact ke_ret1 Tryz.func82 rfl rfl ⟨_, rfl, rfl, hb⟩
theorem otp_code_L1_ok {w0 : World} (hg : Gs w0) {A0 : Nat → Prop} (hA0 : ∀ b, A0 b → b < w0.heap.size) : ∀ (n : Nat), ∀ {r : Str} {n_5 : Int} {out_6 : List Int} {t_15 : Int} {gout_6 : Nat}, otp_code_L1 n n_5 out_6 t_15 = some r → ∀ {w : World} {A : Nat → Prop}, (Below w0.heap.size w0 w) → (∀ b, A b → b < w.heap.size) → (∀ b, A0 b → A b) → (Hp A w0.heap.size w [(gout_6, .cells (out_6.map (Value.int .u8)).toArray 5 (0, 0))]) → KE Tryz.prog 41 (Ret (fun v w' => v = str r ∧ Below w0.heap.size w0 w')) 31 [.code (sub (bodyOf Tryz.f41) [2, 2, 2, 1, 2, 2, 1]), .inLoop (sub (bodyOf Tryz.f41) [2, 2, 2, 1, 2, 2, 1]), .inBlock 0, .code (sub (bodyOf Tryz.f41) [2, 2, 2, 2])] [(5, .int .u64 n_5), (6, .slice (some ⟨gout_6, 0, none⟩) 6 6), (15, .int .i64 t_15)] w := by
 intro n
 induction n with
 | zero => intro r n_5 out_6 t_15 gout_6 hS; cases hS
 | succ n ih =>
  have hr0 : ∀ {r : Str} {n_5 : Int} {out_6 : List Int} {t_15 : Int} {gout_6 : Nat}, otp_code_L1 n n_5 out_6 t_15 = some r → ∀ {w : World} {A : Nat → Prop}, (Below w0.heap.size w0 w) → (∀ b, A b → b < w.heap.size) → (∀ b, A0 b → A b) → (Hp A w0.heap.size w [(gout_6, .cells (out_6.map (Value.int .u8)).toArray 5 (0, 0))]) → KE Tryz.prog 41 (Ret (fun v w' => v = str r ∧ Below w0.heap.size w0 w')) 31 [.inLoop (sub (bodyOf Tryz.f41) [2, 2, 2, 1, 2, 2, 1]), .inBlock 0, .code (sub (bodyOf Tryz.f41) [2, 2, 2, 2])] [(5, .int .u64 n_5), (6, .slice (some ⟨gout_6, 0, none⟩) 6 6), (15, .int .i64 t_15)] w := fun {r} {n_5} {out_6} {t_15} {gout_6} hS {w} {A} hb hA hi hH => ke_inLoop (ih hS hb hA hi hH)
  clear ih
  intro r n_5 out_6 t_15 gout_6 hS w A hb hA hi hH
  unfold otp_code_L1 at hS
  refine ke_seq <| ke_region <| sr_go 1 rfl <| sr_fin [5, 6, 15, 16] rfl <| ke_seq ?_
  refine ke_cond rfl (fun hc20 => ?_) (fun hc20 => ?_)
  ·replace hS := iT hS hc20
   refine ke_skip <| ke_seq ?_
   refine ke_block ?_
   refine ke_seq <| ke_region <| sr_go 2 rfl <| sr_fin [5, 6, 7, 15] rfl <| ke_seq <| ke_region <| sr_go 4 rfl ?_
   refine sr_e (ev_rem rfl rfl (by decide)) ?_
   refine sr_go 1 rfl ?_
   refine sr_e (ev_conv Tryz.underlying5 Tryz.underlying116 rfl) ?_
   obtain ⟨hk21, hS⟩ := chk_some hS
   refine sr_e (ev_arrslindex Tryz.underlying120 Tryz.info5 rfl rfl rfl hk21) ?_
   obtain ⟨hk22, hS⟩ := chk_some hS
   refine sr_store_arr (j := 0) hH rfl Tryz.sizeOf5 rfl rfl hk22 ?_
   intro w23 hH1 hwr24
   replace hb := hwr24.below hb (hH.base _ (List.mem_of_getElem? (i := 0) rfl))
   replace hA := hwr24.lt hA
   replace hH : Hp A w0.heap.size w23 [(gout_6, .cells ((setAt out_6 (IntKind.i64.wrap (5 - t_15)) (IntKind.u8.wrap (IntKind.u64.wrap (48 + (Int.tmod n_5 10))))).map (Value.int .u8)).toArray 5 (0, 0))] := hH1
   clear hH1
   refine sr_fin [5, 6, 15] rfl <| ke_region <| sr_go 1 rfl ?_
   refine sr_e (ev_quo rfl rfl (by decide)) ?_
   refine sr_go 1 rfl <| sr_fin [5, 6, 15] rfl <| ke_inBlock <| ke_region <| sr_go 2 rfl <| sr_fin [5, 6, 15] rfl ?_
   have hK := hr0 hS hb hA hi hH
   exact ke_wk hK
  ·replace hS := iF hS hc20
   refine ke_exit (k' := _) rfl ?_
   refine ke_seq <| ke_region <| sr_go 1 rfl ?_
   obtain ⟨hk25, hS⟩ := chk_some hS
   refine sr_e (ev_arr2s (j := 0) hH rfl (by simpa using hk25) rfl Tryz.underlying120 Tryz.underlying5 Tryz.underlying9 rfl) ?_
   refine sr_go 1 rfl <| sr_fin [4] rfl ?_
   cases hS
   exact ke_ret1 Tryz.func41 rfl rfl ⟨_, rfl, rfl, hb⟩
theorem otp_code_ok (w0 : World) (hg : Gs w0) {secret_0 : Str} {counter_1 : Int} {r : Str} (hS : otp_code secret_0 counter_1 = some r) :
  Calls Tryz.prog 41 #[str secret_0, .int .i64 counter_1] w0 (Ret (fun v w' => v = str r ∧ Below w0.heap.size w0 w')) := by
 unfold otp_code at hS
 have hb := Below.refl w0.heap.size w0
 obtain ⟨A0, hA0, hAe⟩ : ∃ A0 : Nat → Prop, (∀ b, A0 b → b < w0.heap.size) ∧ A0 = fun _ => False := ⟨_, fun _ h => h.elim, rfl⟩
 clear hAe
 have hA := hA0
 have hi : ∀ b, A0 b → A0 b := fun _ h => h
 have hH := Hp.nil A0 w0.heap.size w0
 refine ck Tryz.func41 [0, 1] rfl rfl ?_
 refine ke_seq <| ke_region <| sr_go 1 rfl <| sr_fin [0, 1] rfl <| ke_seq <| ke_region <| sr_go 2 rfl ?_
 obtain ⟨y1, hy2, hS⟩ := bS hS
 refine sr_cl Tryz.call83 (codec_Int_ok _ (hg.below hb) hy2) ?_
 rintro _ w3 ⟨rfl, hbw4⟩
 replace hb := hb.trans (hbw4.mono hb.size)
 replace hA := lt_mono hA hbw4.size
 replace hH := hH.below hbw4
 obtain ⟨y5, hy6, hS⟩ := bS hS
 refine sr_cl Tryz.call82 (digest_Mac_ok _ (hg.below hb) hy6) ?_
 rintro _ w7 ⟨rfl, hbw8⟩
 replace hb := hb.trans (hbw8.mono hb.size)
 replace hA := lt_mono hA hbw8.size
 replace hH := hH.below hbw8
 obtain ⟨y9, hy10, hS⟩ := bS hS
 refine sr_cl Tryz.call81 (digest_Sum_ok _ (hg.below hb) hy10) ?_
 rintro _ w11 ⟨rfl, hbw12⟩
 replace hb := hb.trans (hbw12.mono hb.size)
 replace hA := lt_mono hA hbw12.size
 replace hH := hH.below hbw12
 refine sr_e (ev_rem rfl rfl (by decide)) ?_
 refine sr_go 1 rfl <| sr_fin [5] rfl <| ke_seq <| ke_region ?_
 refine sr_makeArr (m := 6) (E := 5) (kk := .u8) (xs := [0, 0, 0, 0, 0, 0]) hH hb.size hA rfl rfl (fun _ => by kernel_rfl) (by decide) ?_
 intro g13 A14 w15 hH1 hst16 hbw17 hinc18 hA1 hge19
 replace hb := hb.trans (hbw17.mono hb.size)
 replace hi := fun b hb => hinc18 b (hi b hb)
 replace hH : Hp A14 w0.heap.size w15 [(g13, .cells (([0, 0, 0, 0, 0, 0]).map (Value.int .u8)).toArray 5 (0, 0))] := hH1
 replace hA := hA1
 clear hH1 hA1
 refine sr_go 1 rfl <| sr_fin [5, 6] rfl <| ke_seq <| ke_seq <| ke_region <| sr_go 1 rfl <| sr_fin [5, 6, 15] rfl ?_
 refine ke_block ?_
 have hK := otp_code_L1_ok hg hA0 _ hS hb hA hi hH
 exact ke_wk (ke_loop hK)
theorem otp_Code_ok (w0 : World) (hg : Gs w0) {secret_0 : Str} {counter_1 : Int} {r : Str × Int} (hS : otp_Code secret_0 counter_1 = some r) :
  Calls Tryz.prog 12 #[str secret_0, .int .i64 counter_1] w0 (Ret (fun v w' => v = .tuple #[str r.1, .int .i64 r.2] ∧ Below w0.heap.size w0 w')) := by
 unfold otp_Code at hS
 have hb := Below.refl w0.heap.size w0
 refine ck Tryz.func12 [0, 1] rfl rfl ?_
 refine ke_seq <| ke_region <| sr_go 2 rfl <| sr_fin [0, 1] rfl <| ke_seq ?_
 refine ke_block ?_
 refine ke_seq <| ke_region <| sr_go 1 rfl ?_
 obtain ⟨y1, hy2, hS⟩ := bS hS
 refine sr_cl Tryz.call40 (fold_Clean_ok _ (hg.below hb) hy2) ?_
 rintro _ w3 ⟨rfl, hbw4⟩
 replace hb := hb.trans (hbw4.mono hb.size)
 refine sr_go 2 rfl <| sr_fin [0, 1, 6] rfl ?_
 refine ke_cond rfl (fun hc5 => ?_) (fun hc5 => ?_)
 ·replace hS := iT hS hc5
  refine ke_seq <| ke_region <| sr_go 2 rfl <| sr_fin [4, 5] rfl ?_
  cases hS
  exact ke_ret2 Tryz.func12 rfl rfl rfl ⟨_, rfl, rfl, hb⟩
 ·replace hS := iF hS hc5
  refine ke_seq <| ke_region <| sr_go 3 rfl ?_
  refine sr_join (m := 3) (C := fun (x : Bool) w1 => x = ((decide (counter_1 < 0)) || (decide (counter_1 > 36650387592))) ∧ w3 = w1) (l' := fun x => [(0, str secret_0), (1, .int .i64 counter_1), (16, .bool x)]) ?_ ?_
  ·rintro _ _ ⟨rfl, rfl⟩
   refine sr_go 1 rfl <| sr_fin [0, 1, 10] rfl ?_
   refine ke_cond rfl (fun hc13 => ?_) (fun hc13 => ?_)
   ·replace hS := iT hS hc13
    refine ke_seq <| ke_region <| sr_go 2 rfl <| sr_fin [4, 5] rfl ?_
    cases hS
    exact ke_ret2 Tryz.func12 rfl rfl rfl ⟨_, rfl, rfl, hb⟩
   ·replace hS := iF hS hc13
    refine ke_skip <| ke_inBlock <| ke_seq <| ke_region <| sr_go 2 rfl ?_
    obtain ⟨y14, hy15, hS⟩ := bS hS
    refine sr_cl Tryz.call41 (otp_code_ok _ (hg.below hb) hy15) ?_
    rintro _ w16 ⟨rfl, hbw17⟩
    replace hb := hb.trans (hbw17.mono hb.size)
    refine sr_go 2 rfl <| sr_fin [4, 5] rfl ?_
    cases hS
    exact ke_ret2 Tryz.func12 rfl rfl rfl ⟨_, rfl, rfl, hb⟩
  ·intro K7
   rcases Bool.eq_false_or_eq_true (decide (counter_1 < 0)) with hg6 | hg6
   ·refine sr_setb 13 rfl hg6 <| sr_go 3 rfl ?_
    exact sr_wk (K7 true _ ⟨by rw [hg6]; rfl, rfl⟩)
   ·refine sr_setb 13 rfl hg6 <| sr_go 3 rfl ?_
    exact sr_wk (K7 (decide (counter_1 > 36650387592)) _ ⟨by rw [hg6]; rfl, rfl⟩)
theorem login_Logins_last_ok (w0 : World) (hg : Gs w0) {ρA : Tags} (hbd : ∀ b, ρA b ≠ 0 → b < w0.heap.size) (hz : Gz ρA) {τ0 : Nat → Nat} (hτ0 : ∀ p, 1 ≤ τ0 p) {l_0 : login_Logins} {user_1 : Str} {gl_0 : Nat} {r : Int} (ho0 : login_Logins.O τ0 ρA w0 gl_0 l_0) (hS : login_Logins_last l_0 user_1 = some r) :
  Calls Tryz.prog 92 #[pT gl_0 0, str user_1] w0 (Ret (fun v w' => v = .int .i64 r ∧ Below w0.heap.size w0 w')) := by
 unfold login_Logins_last at hS
 have hb := flat1_fr (ρ := ρA) (w := w0) hbd
 have hz := hz.flat1
 obtain ⟨v1, v3, v5, v7, hB9, hP2, h4, h6, h8⟩ := ho0
 replace hB9 := hB9.mv (flat1_mv (hτ0 0))
 replace hP2 := PtrO.mv hP2 secret_Locks.objK (fun p hp => flat1_mv (hτ0 (1 + p))) (fun _ _ => by decide)
 replace h6 := h6.mv (flat1_mv (hτ0 5))
 refine ck Tryz.func92 [0, 1] rfl rfl ?_
 refine ke_seq <| ke_region <| sr_go 1 rfl <| sr_fin [0, 1] rfl <| ke_seq <| ke_region <| sr_go 2 rfl ?_
 refine sr_fa 2 Tryz.underlying69 rfl Tryz.info66 ?_
 refine sr_ld v5 Tryz.isAgg66 rfl (hB9.cell rfl) ?_
 refine sr_go 1 rfl ?_
 obtain ⟨y14, hy15, hS⟩ := bS hS
 replace hy15 := Option.some.inj hy15
 obtain ⟨cs10, hrd11, hl12, hl13⟩ := h6.look (zcs := [.int .i64 0]) (z := 0) Tryz.keyB9 Tryz.underlying66 Tryz.zeroValue3 rfl user_1
 rw [hy15] at hrd11
 obtain rfl : cs10 = [.int .i64 y14] := hrd11
 refine sr_e (hl13 w0 _ _ (Mv.of_below (i := 1) (ρ := (flat1 ρA)) (Below.refl _ _)) rfl rfl) ?_
 refine sr_go 5 rfl <| sr_fin [5, 6] rfl <| ke_seq <| ke_seq <| ke_region <| sr_go 2 rfl <| sr_fin [5, 17] rfl ?_
 refine ke_cond rfl (fun hc16 => ?_) (fun hc16 => ?_)
 ·replace hS := iT hS hc16
  refine ke_seq <| ke_region <| sr_go 1 rfl <| sr_fin [4] rfl ?_
  cases hS
  exact ke_ret1 Tryz.func92 rfl rfl ⟨_, rfl, rfl, (hb.below (flat1_le _))⟩
 ·replace hS := iF hS hc16
  refine ke_skip <| ke_seq <| ke_region <| sr_go 2 rfl <| sr_fin [4] rfl ?_
  cases hS
  exact ke_ret1 Tryz.func92 rfl rfl ⟨_, rfl, rfl, (hb.below (flat1_le _))⟩
theorem otp_six_1_ok (w0 : World) (hg : Gs w0) {c_0 : Int} {r : Bool} (hS : otp_six_1 c_0 = some r) :
  Calls Tryz.prog 144 #[.int .u8 c_0] w0 (Ret (fun v w' => v = .bool r ∧ Below w0.heap.size w0 w')) := by
 unfold otp_six_1 at hS
 have hb := Below.refl w0.heap.size w0
 refine ck Tryz.func144 [0] rfl rfl ?_
 refine ke_seq <| ke_region <| sr_go 1 rfl <| sr_fin [0] rfl <| ke_seq <| ke_region <| sr_go 3 rfl ?_
 refine sr_join (m := 3) (C := fun (x : Bool) w1 => x = ((decide (c_0 < 48)) || (decide (c_0 > 57))) ∧ w0 = w1) (l' := fun x => [(8, .bool x)]) ?_ ?_
 ·rintro _ _ ⟨rfl, rfl⟩
  refine sr_go 1 rfl <| sr_fin [2] rfl ?_
  cases hS
  exact ke_ret1 Tryz.func144 rfl rfl ⟨_, rfl, rfl, hb⟩
 ·intro K2
  rcases Bool.eq_false_or_eq_true (decide (c_0 < 48)) with hg1 | hg1
  ·refine sr_setb 5 rfl hg1 <| sr_go 3 rfl ?_
   exact sr_wk (K2 true _ ⟨by rw [hg1]; rfl, rfl⟩)
  ·refine sr_setb 5 rfl hg1 <| sr_go 3 rfl ?_
   exact sr_wk (K2 (decide (c_0 > 57)) _ ⟨by rw [hg1]; rfl, rfl⟩)
theorem slices_IndexFunc_byte_byte__six_1_L1_ok {w0 : World} (hg : Gs w0) {A0 : Nat → Prop} (hA0 : ∀ b, A0 b → b < w0.heap.size) : ∀ (n : Nat), ∀ {r : Int} {s_0 : List Int} {t_7 : Int} {t_8 : Int} {vs_0 : Value}, slices_IndexFunc_byte_byte__six_1_L1 n s_0 t_7 t_8 = some r → ∀ {w : World} {A : Nat → Prop}, (Below w0.heap.size w0 w) → (∀ b, A b → b < w.heap.size) → (∀ b, A0 b → A b) → (Hp A w0.heap.size w []) → (SlR (intC .u8) A w vs_0 s_0) → KE Tryz.prog 154 (Ret (fun v w' => v = .int .i64 r ∧ Below w0.heap.size w0 w')) 19 [.code (sub (bodyOf Tryz.f154) [2, 1, 2, 2, 1]), .inLoop (sub (bodyOf Tryz.f154) [2, 1, 2, 2, 1]), .inBlock 0, .code (sub (bodyOf Tryz.f154) [2, 2])] [(0, vs_0), (1, .func (.func 144) #[] #[]), (7, .int .i64 t_7), (8, .int .i64 t_8)] w := by
 intro n
 induction n with
 | zero => intro r s_0 t_7 t_8 vs_0 hS; cases hS
 | succ n ih =>
  have hr0 : ∀ {r : Int} {s_0 : List Int} {t_7 : Int} {t_8 : Int} {vs_0 : Value}, slices_IndexFunc_byte_byte__six_1_L1 n s_0 t_7 t_8 = some r → ∀ {w : World} {A : Nat → Prop}, (Below w0.heap.size w0 w) → (∀ b, A b → b < w.heap.size) → (∀ b, A0 b → A b) → (Hp A w0.heap.size w []) → (SlR (intC .u8) A w vs_0 s_0) → KE Tryz.prog 154 (Ret (fun v w' => v = .int .i64 r ∧ Below w0.heap.size w0 w')) 19 [.inLoop (sub (bodyOf Tryz.f154) [2, 1, 2, 2, 1]), .inBlock 0, .code (sub (bodyOf Tryz.f154) [2, 2])] [(0, vs_0), (1, .func (.func 144) #[] #[]), (7, .int .i64 t_7), (8, .int .i64 t_8)] w := fun {r} {s_0} {t_7} {t_8} {vs_0} hS {w} {A} hb hA hi hH hs_0 => ke_inLoop (ih hS hb hA hi hH hs_0)
  clear ih
  intro r s_0 t_7 t_8 vs_0 hS w A hb hA hi hH hs_0
  unfold slices_IndexFunc_byte_byte__six_1_L1 at hS
  refine ke_seq <| ke_region <| sr_go 1 rfl <| sr_fin [0, 1, 7, 8, 9] rfl <| ke_seq ?_
  refine ke_cond rfl (fun hc3 => ?_) (fun hc3 => ?_)
  ·replace hS := iT hS hc3
   refine ke_skip <| ke_seq ?_
   refine ke_block ?_
   refine ke_seq <| ke_region <| sr_go 2 rfl <| sr_fin [0, 1, 5, 7, 8] rfl <| ke_seq <| ke_region <| sr_go 3 rfl ?_
   obtain ⟨y4, hy5, hS⟩ := bS hS
   refine sr_index hs_0 Tryz.underlying120 Tryz.info5 rfl rfl rfl hy5 (by decide) ?_
   intro b6 o7 cs9 he8
   obtain rfl : cs9 = [.int .u8 y4] := he8.rd
   refine sr_ld (.int .u8 y4) Tryz.isAgg5 rfl (he8.cell 0 _ rfl) ?_
   obtain ⟨y10, hy11, hS⟩ := bS hS
   refine sr_cl Tryz.call144 (otp_six_1_ok _ (hg.below hb) hy11) ?_
   rintro _ w12 ⟨rfl, hbw13⟩
   replace hb := hb.trans (hbw13.mono hb.size)
   replace hA := lt_mono hA hbw13.size
   replace hH := hH.below hbw13
   replace hs_0 := hs_0.below hbw13
   refine sr_fin [0, 1, 5, 7, 8, 16] rfl ?_
   refine ke_cond rfl (fun hc14 => ?_) (fun hc14 => ?_)
   ·replace hS := iT hS hc14
    refine ke_seq <| ke_region <| sr_go 2 rfl <| sr_fin [4] rfl ?_
    cases hS
    exact ke_ret1 Tryz.func154 rfl rfl ⟨_, rfl, rfl, hb⟩
   ·replace hS := iF hS hc14
    refine ke_skip <| ke_inBlock <| ke_region <| sr_go 2 rfl <| sr_fin [0, 1, 7, 8] rfl ?_
    have hK := hr0 hS hb hA hi hH hs_0
    exact ke_wk hK
  ·replace hS := iF hS hc3
   refine ke_exit (k' := _) rfl ?_
   refine ke_seq <| ke_region <| sr_go 1 rfl <| sr_fin [4] rfl ?_
   cases hS
   exact ke_ret1 Tryz.func154 rfl rfl ⟨_, rfl, rfl, hb⟩
theorem slices_IndexFunc_byte_byte__six_1_ok {A0 : Nat → Prop} (w0 : World) (hg : Gs w0) {s_0 : List Int} {v1 : Value} {r : Int} (h2 : SlR (intC .u8) A0 w0 v1 s_0) (hS : slices_IndexFunc_byte_byte__six_1 s_0 = some r) :
  Calls Tryz.prog 154 #[v1, .func (.func 144) #[] #[]] w0 (Ret (fun v w' => v = .int .i64 r ∧ Below w0.heap.size w0 w')) := by
 unfold slices_IndexFunc_byte_byte__six_1 at hS
 have hb := Below.refl w0.heap.size w0
 replace h2 := h2.weak (A' := fun _ => False) (fun _ h => h.elim)
 obtain ⟨A0, hA0, hAe⟩ : ∃ A0 : Nat → Prop, (∀ b, A0 b → b < w0.heap.size) ∧ A0 = fun _ => False := ⟨_, fun _ h => h.elim, rfl⟩
 rw [← hAe] at h2
 clear hAe
 have hA := hA0
 have hi : ∀ b, A0 b → A0 b := fun _ h => h
 have hH := Hp.nil A0 w0.heap.size w0
 refine ck Tryz.func154 [0, 1] rfl rfl ?_
 refine ke_seq <| ke_region <| sr_go 1 rfl <| sr_fin [0, 1] rfl <| ke_seq <| ke_seq <| ke_region <| sr_go 1 rfl ?_
 refine sr_e (ev_sllen Tryz.underlying120 rfl h2) ?_
 refine sr_go 1 rfl <| sr_fin [0, 1, 7, 8] rfl ?_
 refine ke_block ?_
 have hK := slices_IndexFunc_byte_byte__six_1_L1_ok hg hA0 _ hS hb hA hi hH h2
 exact ke_wk (ke_loop hK)
theorem slices_ContainsFunc_byte_byte__six_1_ok {A0 : Nat → Prop} (w0 : World) (hg : Gs w0) {s_0 : List Int} {v1 : Value} {r : Bool} (h2 : SlR (intC .u8) A0 w0 v1 s_0) (hS : slices_ContainsFunc_byte_byte__six_1 s_0 = some r) :
  Calls Tryz.prog 145 #[v1, .func (.func 144) #[] #[]] w0 (Ret (fun v w' => v = .bool r ∧ Below w0.heap.size w0 w')) := by
 unfold slices_ContainsFunc_byte_byte__six_1 at hS
 have hb := Below.refl w0.heap.size w0
 replace h2 := h2.weak (A' := fun _ => False) (fun _ h => h.elim)
 obtain ⟨A0, hA0, hAe⟩ : ∃ A0 : Nat → Prop, (∀ b, A0 b → b < w0.heap.size) ∧ A0 = fun _ => False := ⟨_, fun _ h => h.elim, rfl⟩
 rw [← hAe] at h2
 clear hAe
 have hA := hA0
 have hi : ∀ b, A0 b → A0 b := fun _ h => h
 have hH := Hp.nil A0 w0.heap.size w0
 refine ck Tryz.func145 [0, 1] rfl rfl ?_
 refine ke_seq <| ke_region <| sr_go 1 rfl <| sr_fin [0, 1] rfl <| ke_seq <| ke_region <| sr_go 2 rfl ?_
 obtain ⟨y3, hy4, hS⟩ := bS hS
 refine sr_cl Tryz.call154 (slices_IndexFunc_byte_byte__six_1_ok _ (hg.below hb) h2 hy4) ?_
 rintro _ w5 ⟨rfl, hbw6⟩
 replace hb := hb.trans (hbw6.mono hb.size)
 replace hA := lt_mono hA hbw6.size
 replace hH := hH.below hbw6
 refine sr_go 2 rfl <| sr_fin [4] rfl ?_
 cases hS
 exact ke_ret1 Tryz.func145 rfl rfl ⟨_, rfl, rfl, hb⟩
theorem otp_six_ok (w0 : World) (hg : Gs w0) {s_0 : Str} {r : Bool} (hS : otp_six s_0 = some r) :
  Calls Tryz.prog 133 #[str s_0] w0 (Ret (fun v w' => v = .bool r ∧ Below w0.heap.size w0 w')) := by
 unfold otp_six at hS
 have hb := Below.refl w0.heap.size w0
 obtain ⟨A0, hA0, hAe⟩ : ∃ A0 : Nat → Prop, (∀ b, A0 b → b < w0.heap.size) ∧ A0 = fun _ => False := ⟨_, fun _ h => h.elim, rfl⟩
 clear hAe
 have hA := hA0
 have hi : ∀ b, A0 b → A0 b := fun _ h => h
 have hH := Hp.nil A0 w0.heap.size w0
 refine ck Tryz.func133 [0] rfl rfl ?_
 refine ke_seq <| ke_region <| sr_go 1 rfl <| sr_fin [0] rfl <| ke_seq <| ke_region <| sr_go 1 rfl <| sr_fin [0, 3] rfl <| ke_seq <| ke_region <| sr_go 1 rfl ?_
 refine sr_e (ev_slen Tryz.underlying9 rfl) ?_
 refine sr_go 2 rfl ?_
 obtain ⟨z3, hz5, hS⟩ := bS hS
 refine sr_join (m := 6) (C := fun (x : Bool) w1 => z3 = x ∧ Below w0.heap.size w0 w1) (l' := fun x => [(13, .bool x)]) ?_ ?_
 ·rintro _ w6 ⟨rfl, hbw7⟩
  replace hb := hb.trans (hbw7.mono hb.size)
  replace hA := lt_mono hA hbw7.size
  replace hH := hH.below hbw7
  refine sr_go 1 rfl <| sr_fin [2] rfl ?_
  cases hS
  exact ke_ret1 Tryz.func133 rfl rfl ⟨_, rfl, rfl, hb⟩
 ·intro K2
  clear hS
  have hj4 := Below.refl w0.heap.size w0
  rcases Bool.eq_false_or_eq_true ((s_0.length : Int) == 6) with hg1 | hg1
  ·have hS := iT hz5 hg1
   refine sr_setb 7 rfl hg1 <| sr_go 1 rfl ?_
   obtain ⟨hk18, hS⟩ := chk_some hS
   refine sr_unguard rfl rfl rfl ?_
   refine sr_s2b hH hb.size hA Tryz.underlying9 Tryz.underlying120 Tryz.underlying5 hk18 rfl (by decide) ?_
   intro g8 v9 ex10 A11 w12 hH1 hv17 hst13 hbw14 hinc15 hA1 hge16
   replace hb := hb.trans (hbw14.mono hb.size)
   replace hj4 := hj4.trans (hbw14.mono hj4.size)
   replace hi := fun b hb => hinc15 b (hi b hb)
   replace hH : Hp A11 w0.heap.size w12 [(g8, rowObj (Value.int .u8) (strBytes s_0) ex10 5)] := hH1
   replace hA := hA1
   clear hH1 hA1
   refine sr_go 1 rfl ?_
   obtain ⟨y19, hy20, hS⟩ := bS hS
   refine sr_callg (b := true) (e := 7) rfl rfl rfl (vs := [v9, .func (.func 144) #[] #[]]) rfl Tryz.call145 rfl (slices_ContainsFunc_byte_byte__six_1_ok _ (hg.below hb) (hv17.sl (j := 0) hH rfl) hy20) (by decide) ?_
   rintro _ w21 ⟨rfl, hbw22⟩
   replace hb := hb.trans (hbw22.mono hb.size)
   replace hj4 := hj4.trans (hbw22.mono hj4.size)
   replace hA := lt_mono hA hbw22.size
   replace hH := hH.below hbw22
   refine sr_go 2 rfl ?_
   exact sr_wk (K2 (!y19) _ ⟨(Option.some.inj hS).symm, hj4⟩)
  ·have hS := iF hz5 hg1
   refine sr_setb 7 rfl hg1 <| sr_go 6 rfl ?_
   exact sr_wk (K2 false _ ⟨(Option.some.inj hS).symm, hj4⟩)
theorem otp_form_ok (w0 : World) (hg : Gs w0) {secret_0 : Str} {s_1 : Str} {r : Int} (hS : otp_form secret_0 s_1 = some r) :
  Calls Tryz.prog 118 #[str secret_0, str s_1] w0 (Ret (fun v w' => v = .int .i64 r ∧ Below w0.heap.size w0 w')) := by
 unfold otp_form at hS
 have hb := Below.refl w0.heap.size w0
 refine ck Tryz.func118 [0, 1] rfl rfl ?_
 refine ke_seq <| ke_region <| sr_go 1 rfl <| sr_fin [0, 1] rfl <| ke_seq <| ke_seq <| ke_region <| sr_go 1 rfl ?_
 obtain ⟨y1, hy2, hS⟩ := bS hS
 refine sr_cl Tryz.call40 (fold_Clean_ok _ (hg.below hb) hy2) ?_
 rintro _ w3 ⟨rfl, hbw4⟩
 replace hb := hb.trans (hbw4.mono hb.size)
 refine sr_go 2 rfl ?_
 obtain ⟨z7, hz9, hS⟩ := bS hS
 refine sr_join (m := 4) (C := fun (x : Bool) w1 => z7 = x ∧ Below w3.heap.size w3 w1) (l' := fun x => [(12, .bool x)]) ?_ ?_
 ·rintro _ w10 ⟨rfl, hbw11⟩
  replace hb := hb.trans (hbw11.mono hb.size)
  refine sr_fin [12] rfl ?_
  refine ke_cond rfl (fun hc16 => ?_) (fun hc16 => ?_)
  ·replace hS := iT hS hc16
   refine ke_seq <| ke_region <| sr_go 1 rfl <| sr_fin [4] rfl ?_
   cases hS
   exact ke_ret1 Tryz.func118 rfl rfl ⟨_, rfl, rfl, hb⟩
  ·replace hS := iF hS hc16
   refine ke_skip <| ke_seq <| ke_region <| sr_go 1 rfl <| sr_fin [4] rfl ?_
   cases hS
   exact ke_ret1 Tryz.func118 rfl rfl ⟨_, rfl, rfl, hb⟩
 ·intro K6
  clear hS
  have hj8 := Below.refl w3.heap.size w3
  rcases Bool.eq_false_or_eq_true (!y1) with hg5 | hg5
  ·have hS := iT hz9 hg5
   refine sr_setb 8 rfl hg5 <| sr_go 4 rfl ?_
   exact sr_wk (K6 true _ ⟨(Option.some.inj hS).symm, hj8⟩)
  ·have hS := iF hz9 hg5
   refine sr_setb 8 rfl hg5 <| sr_go 1 rfl ?_
   obtain ⟨y12, hy13, hS⟩ := bS hS
   refine sr_callg (b := false) (e := 8) rfl rfl rfl (vs := [str s_1]) rfl Tryz.call133 rfl (otp_six_ok _ (hg.below hb) hy13) (by decide) ?_
   rintro _ w14 ⟨rfl, hbw15⟩
   replace hb := hb.trans (hbw15.mono hb.size)
   replace hj8 := hj8.trans (hbw15.mono hj8.size)
   refine sr_go 2 rfl ?_
   exact sr_wk (K6 (!y12) _ ⟨(Option.some.inj hS).symm, hj8⟩)
theorem otp_Counter_ok (w0 : World) (hg : Gs w0) {now_0 : Int} {r : Int} (hS : otp_Counter now_0 = some r) :
  Calls Tryz.prog 13 #[.int .i64 now_0] w0 (Ret (fun v w' => v = .int .i64 r ∧ Below w0.heap.size w0 w')) := by
 unfold otp_Counter at hS
 have hb := Below.refl w0.heap.size w0
 refine ck Tryz.func13 [0] rfl rfl ?_
 refine ke_seq <| ke_region <| sr_go 1 rfl <| sr_fin [0] rfl <| ke_seq <| ke_region <| sr_go 1 rfl ?_
 obtain ⟨y1, hy2, hS⟩ := bS hS
 refine sr_cl Tryz.call39 (clock_Add_ok _ (hg.below hb) hy2) ?_
 rintro _ w3 ⟨rfl, hbw4⟩
 replace hb := hb.trans (hbw4.mono hb.size)
 refine sr_e (ev_quo rfl rfl (by decide)) ?_
 refine sr_go 1 rfl <| sr_fin [2] rfl ?_
 cases hS
 exact ke_ret1 Tryz.func13 rfl rfl ⟨_, rfl, rfl, hb⟩
theorem otp_VerifyAt_1_ok (w0 : World) (hg : Gs w0) {ρA : Tags} (hbd : ∀ b, ρA b ≠ 0 → b < w0.heap.size) (hz : Gz ρA) {c_0 : Int} {c1 : Str} {c2 : Str} {b1 : Nat} {b3 : Nat} {r : Bool} (he2 : ElT strC ρA 0 w0 b1 0 [str c1] c1) (he4 : ElT strC ρA 0 w0 b3 0 [str c2] c2) (hS : otp_VerifyAt_1 c_0 c1 c2 = some r) :
  Calls Tryz.prog 120 #[.int .i64 c_0, pT b1 0, pT b3 0] w0 (Ret (fun v w' => v = .bool r ∧ Below w0.heap.size w0 w')) := by
 unfold otp_VerifyAt_1 at hS
 have hb := flat1_fr (ρ := ρA) (w := w0) hbd
 have hz := hz.flat1
 replace he2 := he2.mv flat1_rd (Nat.succ_pos _)
 replace he4 := he4.mv flat1_rd (Nat.succ_pos _)
 refine ck Tryz.func120 [0, 1, 2] rfl rfl ?_
 refine ke_seq <| ke_region <| sr_go 1 rfl <| sr_fin [0, 1, 2] rfl <| ke_seq ?_
 refine ke_region_q Tryz.mixed (by kernel_rfl) ?_
 refine sq_ev (v := str c1) (fun w1 hw1 => ev_load Tryz.isAgg9 rfl ((he2.mv (Mv.of_below (i := 0) (ρ := (flat1 ρA)) hw1) (Nat.succ_pos _)).cell 0 _ rfl)) (by decide) ?_
 refine sq_go 1 rfl ?_
 obtain ⟨y7, hy8, hS⟩ := bS hS
 refine sq_call (v := str y7) (vs := [str c1, .int .i64 c_0]) rfl Tryz.call41 rfl (fun w1 hw1 => (otp_code_ok _ ((hg.fr hz hb).below hw1) hy8)) (by decide) ?_
 refine sq_ev (v := str c2) (fun w1 hw1 => ev_load Tryz.isAgg9 rfl ((he4.mv (Mv.of_below (i := 0) (ρ := (flat1 ρA)) hw1) (Nat.succ_pos _)).cell 0 _ rfl)) (by decide) ?_
 refine sq_ev (v := .bool (y7 == c2)) (fun w1 hw1 => ev_seq rfl rfl) (by decide) ?_
 refine sq_go 1 rfl ?_
 refine sq_fin [4] rfl (fun w6 hw5 => ?_)
 have t12 := Tr.of_below hw5 hb.bd
 replace hb := hb.trans t12
 cases hS
 exact ke_ret1 Tryz.func120 rfl rfl ⟨_, rfl, rfl, (hb.below (flat1_le _))⟩
theorem otp_search__VerifyAt_1_L1_ok {w0 : World} (hg : Gs w0) {ρA : Tags} (hbd : ∀ b, ρA b ≠ 0 → b < w0.heap.size) (hz : Gz (flat1 ρA)) : ∀ (n : Nat), ∀ {r : Int × Int} {to_1 : Int} {is_2_c0 : Str} {is_2_c1 : Str} {c_8 : Int} {bis_2_c0 : Nat} {bis_2_c1 : Nat}, otp_search__VerifyAt_1_L1 n to_1 is_2_c0 is_2_c1 c_8 = some r → ∀ {ρ : Tags} {w : World}, (Fr (flat1 ρA) w0 ρ w) → (ElT strC ρ 0 w bis_2_c0 0 [str is_2_c0] is_2_c0) → (ElT strC ρ 0 w bis_2_c1 0 [str is_2_c1] is_2_c1) → KE Tryz.prog 119 (Ret (fun v w' => v = .tuple #[.int .i64 r.1, .int .i64 r.2] ∧ Below w0.heap.size w0 w')) 21 [.code (sub (bodyOf Tryz.f119) [2, 1, 2, 2, 1]), .inLoop (sub (bodyOf Tryz.f119) [2, 1, 2, 2, 1]), .inBlock 0, .code (sub (bodyOf Tryz.f119) [2, 2])] [(1, .int .i64 to_1), (2, .func (.func 120) #[] #[pT bis_2_c0 0, pT bis_2_c1 0]), (8, .int .i64 c_8)] w := by
 intro n
 induction n with
 | zero => intro r to_1 is_2_c0 is_2_c1 c_8 bis_2_c0 bis_2_c1 hS; cases hS
 | succ n ih =>
  have hr0 : ∀ {r : Int × Int} {to_1 : Int} {is_2_c0 : Str} {is_2_c1 : Str} {c_8 : Int} {bis_2_c0 : Nat} {bis_2_c1 : Nat}, otp_search__VerifyAt_1_L1 n to_1 is_2_c0 is_2_c1 c_8 = some r → ∀ {ρ : Tags} {w : World}, (Fr (flat1 ρA) w0 ρ w) → (ElT strC ρ 0 w bis_2_c0 0 [str is_2_c0] is_2_c0) → (ElT strC ρ 0 w bis_2_c1 0 [str is_2_c1] is_2_c1) → KE Tryz.prog 119 (Ret (fun v w' => v = .tuple #[.int .i64 r.1, .int .i64 r.2] ∧ Below w0.heap.size w0 w')) 21 [.inLoop (sub (bodyOf Tryz.f119) [2, 1, 2, 2, 1]), .inBlock 0, .code (sub (bodyOf Tryz.f119) [2, 2])] [(1, .int .i64 to_1), (2, .func (.func 120) #[] #[pT bis_2_c0 0, pT bis_2_c1 0]), (8, .int .i64 c_8)] w := fun {r} {to_1} {is_2_c0} {is_2_c1} {c_8} {bis_2_c0} {bis_2_c1} hS {ρ} {w} hb heis_2_c0 heis_2_c1 => ke_inLoop (ih hS hb heis_2_c0 heis_2_c1)
  clear ih
  intro r to_1 is_2_c0 is_2_c1 c_8 bis_2_c0 bis_2_c1 hS ρ w hb heis_2_c0 heis_2_c1
  unfold otp_search__VerifyAt_1_L1 at hS
  refine ke_seq <| ke_seq <| ke_region <| sr_go 2 rfl ?_
  refine sr_e (ev_min rfl rfl) ?_
  refine sr_go 1 rfl <| sr_fin [1, 2, 8, 14] rfl ?_
  refine ke_cond rfl (fun hc5 => ?_) (fun hc5 => ?_)
  ·replace hS := iT hS hc5
   refine ke_skip <| ke_seq ?_
   refine ke_block ?_
   refine ke_seq <| ke_region <| sr_go 2 rfl ?_
   obtain ⟨y6, hy7, hS⟩ := bS hS
   refine sr_callc (vs := [.int .i64 c_8]) rfl Tryz.call120 rfl (otp_VerifyAt_1_ok _ (hg.fr hz hb) (ρA := ρ) hb.bd (hz.fr hg hb) heis_2_c0 heis_2_c1 hy7) (by decide) ?_
   rintro _ w8 ⟨rfl, hbw9⟩
   have t10 := Tr.of_below hbw9 hb.bd
   replace heis_2_c0 := heis_2_c0.mv (t10.mv (i := 0) rfl) (Nat.succ_pos _)
   replace heis_2_c1 := heis_2_c1.mv (t10.mv (i := 0) rfl) (Nat.succ_pos _)
   replace hb := hb.trans t10
   refine sr_fin [1, 2, 8, 19] rfl ?_
   refine ke_cond rfl (fun hc11 => ?_) (fun hc11 => ?_)
   ·replace hS := iT hS hc11
    refine ke_seq <| ke_region <| sr_go 3 rfl <| sr_fin [6, 7] rfl ?_
    cases hS
    exact ke_ret2 Tryz.func119 rfl rfl rfl ⟨_, rfl, rfl, (hb.below (flat1_le _))⟩
   ·replace hS := iF hS hc11
    refine ke_skip <| ke_inBlock <| ke_region <| sr_go 3 rfl <| sr_fin [1, 2, 8] rfl ?_
    have hK := hr0 hS hb heis_2_c0 heis_2_c1
    exact ke_wk hK
  ·replace hS := iF hS hc5
   refine ke_exit (k' := _) rfl ?_
   refine ke_seq <| ke_region <| sr_go 2 rfl <| sr_fin [6, 7] rfl ?_
   cases hS
   exact ke_ret2 Tryz.func119 rfl rfl rfl ⟨_, rfl, rfl, (hb.below (flat1_le _))⟩
theorem otp_search__VerifyAt_1_ok (w0 : World) (hg : Gs w0) {ρA : Tags} (hbd : ∀ b, ρA b ≠ 0 → b < w0.heap.size) (hz : Gz ρA) {from_0 : Int} {to_1 : Int} {c2_0 : Str} {c2_1 : Str} {b1 : Nat} {b3 : Nat} {r : Int × Int} (he2 : ElT strC ρA 0 w0 b1 0 [str c2_0] c2_0) (he4 : ElT strC ρA 0 w0 b3 0 [str c2_1] c2_1) (hS : otp_search__VerifyAt_1 from_0 to_1 c2_0 c2_1 = some r) :
  Calls Tryz.prog 119 #[.int .i64 from_0, .int .i64 to_1, .func (.func 120) #[] #[pT b1 0, pT b3 0]] w0 (Ret (fun v w' => v = .tuple #[.int .i64 r.1, .int .i64 r.2] ∧ Below w0.heap.size w0 w')) := by
 unfold otp_search__VerifyAt_1 at hS
 have hb := flat1_fr (ρ := ρA) (w := w0) hbd
 have hz := hz.flat1
 replace he2 := he2.mv flat1_rd (Nat.succ_pos _)
 replace he4 := he4.mv flat1_rd (Nat.succ_pos _)
 refine ck Tryz.func119 [0, 1, 2] rfl rfl ?_
 refine ke_seq <| ke_region <| sr_go 2 rfl <| sr_fin [0, 1, 2] rfl <| ke_seq <| ke_seq <| ke_region <| sr_go 1 rfl ?_
 refine sr_e (ev_max rfl rfl) ?_
 refine sr_go 1 rfl <| sr_fin [1, 2, 8] rfl ?_
 refine ke_block ?_
 have hK := otp_search__VerifyAt_1_L1_ok hg hbd hz _ hS hb he2 he4
 exact ke_wk (ke_loop hK)
theorem otp_VerifyAt_ok (w0 : World) (hg : Gs w0) {ρA : Tags} (hbd : ∀ b, ρA b ≠ 0 → b < w0.heap.size) (hz : Gz ρA) {secret_0 : Str} {last_1 : Int} {now_2 : Int} {skew_3 : Int} {s_4 : Str} {r : Int × Int} (hS : otp_VerifyAt secret_0 last_1 now_2 skew_3 s_4 = some r) :
  Calls Tryz.prog 91 #[str secret_0, .int .i64 last_1, .int .i64 now_2, .int .i64 skew_3, str s_4] w0 (Ret (fun v w' => v = .tuple #[.int .i64 r.1, .int .i64 r.2] ∧ Below w0.heap.size w0 w')) := by
 unfold otp_VerifyAt at hS
 have hb := flat1_fr (ρ := ρA) (w := w0) hbd
 have hz := hz.flat1
 refine ck Tryz.func91 [0, 1, 2, 3, 4] rfl rfl ?_
 refine ke_seq <| ke_region ?_
 refine sr_boxT 7 (by decide) hb.bd rfl (by decide) ?_
 intro g1 ρ2 w3 hB5 t4
 replace hb := hb.trans t4
 refine sr_boxT 11 (by decide) hb.bd rfl (by decide) ?_
 intro g6 ρ7 w8 hB10 t9
 replace hB5 := hB5.m t9
 replace hb := hb.trans t9
 refine sr_go 2 rfl <| sr_fin [1, 2, 3, 5, 9] rfl <| ke_seq <| ke_seq <| ke_region ?_
 refine sr_ld (str secret_0) Tryz.isAgg9 rfl (hB5.cell rfl) ?_
 refine sr_ld (str s_4) Tryz.isAgg9 rfl (hB10.cell rfl) ?_
 obtain ⟨y11, hy12, hS⟩ := bS hS
 refine sr_cb Tryz.call118 (otp_form_ok _ (hg.fr hz hb) hy12) hb.bd ?_
 intro w13 t15
 replace hB10 := hB10.m t15
 replace hB5 := hB5.m t15
 replace hb := hb.trans t15
 refine sr_go 1 rfl <| sr_fin [1, 2, 3, 5, 9, 12] rfl <| ke_seq <| ke_region <| sr_go 2 rfl <| sr_fin [1, 2, 3, 5, 9, 12, 18] rfl ?_
 refine ke_cond rfl (fun hc16 => ?_) (fun hc16 => ?_)
 ·replace hS := iT hS hc16
  refine ke_seq <| ke_region <| sr_go 3 rfl <| sr_fin [10, 11] rfl ?_
  cases hS
  exact ke_ret2 Tryz.func91 rfl rfl rfl ⟨_, rfl, rfl, (hb.below (flat1_le _))⟩
 ·replace hS := iF hS hc16
  refine ke_skip <| ke_seq <| ke_seq <| ke_region <| sr_go 3 rfl ?_
  refine sr_join (m := 3) (C := fun (x : Bool) w1 => x = ((decide (last_1 < (-1))) || (decide (last_1 > 36650387592))) ∧ w13 = w1) (l' := fun x => [(1, .int .i64 last_1), (2, .int .i64 now_2), (3, .int .i64 skew_3), (5, pT g1 0), (9, pT g6 0), (25, .bool x)]) ?_ ?_
  ·rintro _ _ ⟨rfl, rfl⟩
   refine sr_fin [1, 2, 3, 5, 9, 25] rfl ?_
   refine ke_cond rfl (fun hc25 => ?_) (fun hc25 => ?_)
   ·replace hS := iT hS hc25
    refine ke_seq <| ke_region <| sr_go 2 rfl <| sr_fin [10, 11] rfl ?_
    cases hS
    exact ke_ret2 Tryz.func91 rfl rfl rfl ⟨_, rfl, rfl, (hb.below (flat1_le _))⟩
   ·replace hS := iF hS hc25
    refine ke_skip <| ke_seq <| ke_region <| sr_go 1 rfl ?_
    refine sr_e (ev_max rfl rfl) ?_
    refine sr_e (ev_min rfl rfl) ?_
    refine sr_e (ev_quo rfl rfl (by decide)) ?_
    refine sr_go 1 rfl <| sr_fin [1, 2, 5, 9, 13] rfl <| ke_seq <| ke_region <| sr_go 3 rfl ?_
    obtain ⟨y26, hy27, hS⟩ := bS hS
    refine sr_cb Tryz.call13 (otp_Counter_ok _ (hg.fr hz hb) hy27) hb.bd ?_
    intro w28 t30
    replace hb := hb.trans t30
    refine sr_go 2 rfl ?_
    refine sr_e (ev_max rfl rfl) ?_
    refine sr_go 1 rfl ?_
    obtain ⟨y31, hy32, hS⟩ := bS hS
    refine sr_cb Tryz.call13 (otp_Counter_ok _ (hg.fr hz hb) hy32) hb.bd ?_
    intro w33 t35
    replace hB10 := (hB10.m t30).m t35
    replace hB5 := (hB5.m t30).m t35
    replace hb := hb.trans t35
    refine sr_go 2 rfl ?_
    have t36 := frz_tr (ρ := ρ7) (w := w33) (i := 7) (by decide) hb.bd
    have he37 : ElT strC (frz ρ7 7) 0 w33 g1 0 [str secret_0] secret_0 := Blk.frzEl hB5 rfl rfl
    replace hB10 := hB10.m t36
    replace hb := hb.trans t36
    have t38 := frz_tr (ρ := (frz ρ7 7)) (w := w33) (i := 11) (by decide) hb.bd
    have he39 : ElT strC (frz (frz ρ7 7) 11) 0 w33 g6 0 [str s_4] s_4 := Blk.frzEl hB10 rfl rfl
    replace he37 := he37.mv (t38.mv (i := 0) rfl) (Nat.succ_pos _)
    replace hb := hb.trans t38
    refine sr_e (v := .func (.func 120) #[] #[pT g1 0, pT g6 0]) (ev_makeFunc rfl) ?_
    obtain ⟨y40, hy41, hS⟩ := bS hS
    refine sr_cb Tryz.call119 (otp_search__VerifyAt_1_ok _ (hg.fr hz hb) (ρA := (frz (frz ρ7 7) 11)) hb.bd (hz.fr hg hb) he37 he39 hy41) hb.bd ?_
    intro w42 t44
    replace hb := hb.trans t44
    refine sr_go 4 rfl <| sr_fin [10, 11] rfl ?_
    cases hS
    exact ke_ret2 Tryz.func91 rfl rfl rfl ⟨_, rfl, rfl, (hb.below (flat1_le _))⟩
  ·intro K18
   rcases Bool.eq_false_or_eq_true (decide (last_1 < (-1))) with hg17 | hg17
   all_goals try have hj20 : Tr ρ7 w13 (fun _ => false) ρ7 w13 := Tr.refl hb.bd
   ·refine sr_setb 22 rfl hg17 <| sr_go 3 rfl ?_
    exact sr_wk (K18 true _ ⟨by first | (rw [hg17]; rfl) | rfl, rfl⟩)
   ·refine sr_setb 22 rfl hg17 <| sr_go 3 rfl ?_
    exact sr_wk (K18 (decide (last_1 > 36650387592)) _ ⟨by first | (rw [hg17]; rfl) | rfl, rfl⟩)
theorem login_Logins_byCode_ok (w0 : World) (hg : Gs w0) {ρA : Tags} (hbd : ∀ b, ρA b ≠ 0 → b < w0.heap.size) (hz : Gz ρA) {o : Nat} (ho2 : 2 ≤ o) {l_0 : login_Logins} {user_1 : Str} {code_2 : Str} {now_3 : Int} {gl_0 : Nat} {r : Bool × login_Logins} (ho0 : login_Logins.O (fun p => o + p) ρA w0 gl_0 l_0) (hS : login_Logins_byCode l_0 user_1 code_2 now_3 = some r) :
  Calls Tryz.prog 48 #[pT gl_0 0, str user_1, str code_2, .int .i64 now_3] w0 (Ret (fun v w' => ∃ ρ', v = .bool r.1 ∧ login_Logins.O (fun p => o + p) ρ' w' gl_0 r.2 ∧ Tr ρA w0 (rng o 7) ρ' w')) := by
 unfold login_Logins_byCode at hS
 have hb := enter_fr (ρ := ρA) (w := w0) (n := 7) ho2 hbd
 have hz := hz.enter (n := 7) ho2
 obtain ⟨v1, v3, v5, v7, hB9, hP2, h4, h6, h8⟩ := ho0
 replace hB9 := hB9.mv (enter_mv (p := 0) (n := 7) (by decide) ho2)
 replace hP2 := PtrO.mv hP2 secret_Locks.objK (fun p hp => enter_mv (p := 1 + p) (n := 7) (by omega) ho2) (fun p hp => by omega)
 replace h4 := h4.mv (enter_mv (p := 4) (n := 7) (by decide) ho2)
 replace h6 := h6.mv (enter_mv (p := 5) (n := 7) (by decide) ho2)
 replace h8 := h8.mv (enter_mv (p := 6) (n := 7) (by decide) ho2)
 refine ck Tryz.func48 [0, 1, 2, 3] rfl rfl ?_
 refine ke_seq <| ke_region <| sr_go 1 rfl <| sr_fin [0, 1, 2, 3] rfl <| ke_seq <| ke_region <| sr_go 2 rfl ?_
 refine sr_fa 1 Tryz.underlying69 rfl Tryz.info65 ?_
 refine sr_ld v3 Tryz.isAgg65 rfl (hB9.cell rfl) ?_
 refine sr_go 1 rfl ?_
 obtain ⟨y14, hy15, hS⟩ := bS hS
 replace hy15 := Option.some.inj hy15
 obtain ⟨cs10, hrd11, hl12, hl13⟩ := h4.look (zcs := [str ([]), .int .i64 0, str ([]), str ([])]) (z := (login_credentials.mk (api_Verifier.mk ([]) 0 ([])) ([]))) Tryz.keyB9 Tryz.underlying65 Tryz.zeroValue98 rfl user_1
 rw [hy15] at hrd11
 obtain rfl : cs10 = [str y14.verifier.Salt, .int .i64 y14.verifier.Rounds, str y14.verifier.Hash, str y14.code] := hrd11
 refine sr_e (hl13 w0 _ _ (Mv.of_below (i := 104) (ρ := (enter ρA o 7)) (Below.refl _ _)) rfl rfl) ?_
 refine sr_go 3 rfl ?_
 refine sr_allocT 11 (by decide) hb.bd Tryz.zeroValue98 (by decide) ?_
 intro g16 ρ17 w18 hB20 t19
 replace hb := hb.trans t19
 refine sr_storeT (v := .agg #[str y14.verifier.Salt, .int .i64 y14.verifier.Rounds, str y14.verifier.Hash, str y14.code]) (vs := [str y14.verifier.Salt, .int .i64 y14.verifier.Rounds, str y14.verifier.Hash, str y14.code]) (cs' := #[str y14.verifier.Salt, .int .i64 y14.verifier.Rounds, str y14.verifier.Hash, str y14.code]) hB20 (by decide) hb.bd rfl rfl rfl Tryz.sizeOf98 rfl rfl rfl ?_
 intro w21 hB20 t22
 replace hB9 := (hB9.m t19).m t22
 replace hP2 := (hP2.m secret_Locks.objK t19).m secret_Locks.objK t22
 replace h4 := (h4.m t19).m t22
 replace h6 := (h6.m t19).m t22
 replace h8 := (h8.m t19).m t22
 replace hb := hb.trans t22
 refine sr_go 1 rfl <| sr_fin [0, 1, 2, 3, 9, 10] rfl <| ke_seq <| ke_seq <| ke_region <| sr_go 3 rfl ?_
 refine sr_join (m := 4) (C := fun (x : Bool) w1 => x = ((!(mhas l_0.users user_1)) || (y14.code == ([]))) ∧ w21 = w1) (l' := fun x => [(0, pT gl_0 0), (1, str user_1), (2, str code_2), (3, .int .i64 now_3), (9, pT g16 0), (28, .bool x)]) ?_ ?_
 ·rintro _ _ ⟨rfl, rfl⟩
  refine sr_fin [0, 1, 2, 3, 9, 28] rfl ?_
  refine ke_cond rfl (fun hc31 => ?_) (fun hc31 => ?_)
  ·replace hS := iT hS hc31
   refine ke_seq <| ke_region <| sr_go 1 rfl <| sr_fin [8] rfl ?_
   cases hS
   exact ke_ret1 Tryz.func48 rfl rfl ⟨_, rfl, _, rfl, ⟨_, _, _, _, (hB9.lv 0 hb), (hP2.lv secret_Locks.objK ho2 hb), (h4.lv 4 hb), (h6.lv 5 hb), (h8.lv 6 hb)⟩, (leave_tr ho2 hb)⟩
  ·replace hS := iF hS hc31
   refine ke_skip <| ke_seq ?_
   refine ke_region_q Tryz.mixed (by kernel_rfl) ?_
   refine sq_ev (v := pT g16 3) (fun w1 hw1 => ev_fieldAddr (i := 1) Tryz.underlying98 rfl Tryz.info9 rfl rfl) (by decide) ?_
   refine sq_ev (v := str y14.code) (fun w1 hw1 => ev_load Tryz.isAgg9 rfl ((hB20.mv (Mv.of_below (i := 11) (ρ := ρ17) hw1)).cell rfl)) (by decide) ?_
   refine sq_go 2 rfl ?_
   obtain ⟨y34, hy35, hS⟩ := bS hS
   refine sq_call (v := .int .i64 y34) (vs := [pT gl_0 0, str user_1]) rfl Tryz.call92 rfl (fun w1 hw1 => (login_Logins_last_ok _ ((hg.fr hz hb).below hw1) (ρA := ρ17) (fun b h => Nat.lt_of_lt_of_le (hb.bd b h) hw1.size) (hz.fr hg hb) (τ0 := (fun p => 100 + p)) (fun p => Nat.le_add_right_of_le (by decide)) (⟨_, _, _, _, (hB9.mv (Mv.of_below (i := 100) (ρ := ρ17) hw1)), (PtrO.mv hP2 secret_Locks.objK (fun p hp => Mv.of_below (i := 100 + (1 + p)) (ρ := ρ17) hw1) (fun p hp => by show 100 + (1 + p) ≠ 0; omega)), (h4.mv (Mv.of_below (i := 104) (ρ := ρ17) hw1)), (h6.mv (Mv.of_below (i := 105) (ρ := ρ17) hw1)), (h8.mv (Mv.of_below (i := 106) (ρ := ρ17) hw1))⟩ : login_Logins.O (fun p => 100 + p) ρ17 w1 gl_0 l_0) hy35)) (by decide) ?_
   refine sq_go 2 rfl ?_
   obtain ⟨y39, hy40, hS⟩ := bS hS
   refine sq_call (v := .tuple #[.int .i64 y39.1, .int .i64 y39.2]) (vs := [str y14.code, .int .i64 y34, .int .i64 now_3, .int .i64 60, str code_2]) rfl Tryz.call91 rfl (fun w1 hw1 => (otp_VerifyAt_ok _ ((hg.fr hz hb).below hw1) (ρA := ρ17) (fun b h => Nat.lt_of_lt_of_le (hb.bd b h) hw1.size) (hz.fr hg hb) hy40)) (by decide) ?_
   refine sq_go 5 rfl ?_
   refine sq_fin [0, 1, 11, 12] rfl (fun w33 hw32 => ?_)
   have t44 := Tr.of_below hw32 hb.bd
   replace hB9 := hB9.m t44
   replace hP2 := hP2.m secret_Locks.objK t44
   replace h4 := h4.m t44
   replace h6 := h6.m t44
   replace h8 := h8.m t44
   replace hb := hb.trans t44
   refine ke_seq <| ke_seq <| ke_region <| sr_go 2 rfl <| sr_fin [0, 1, 11, 41] rfl ?_
   refine ke_cond rfl (fun hc45 => ?_) (fun hc45 => ?_)
   ·replace hS := iT hS hc45
    refine ke_seq <| ke_region <| sr_go 1 rfl <| sr_fin [8] rfl ?_
    cases hS
    exact ke_ret1 Tryz.func48 rfl rfl ⟨_, rfl, _, rfl, ⟨_, _, _, _, (hB9.lv 0 hb), (hP2.lv secret_Locks.objK ho2 hb), (h4.lv 4 hb), (h6.lv 5 hb), (h8.lv 6 hb)⟩, (leave_tr ho2 hb)⟩
   ·replace hS := iF hS hc45
    refine ke_skip <| ke_seq <| ke_region <| sr_go 2 rfl ?_
    refine sr_fa 2 Tryz.underlying69 rfl Tryz.info66 ?_
    refine sr_ld v5 Tryz.isAgg66 rfl (hB9.cell rfl) ?_
    refine sr_go 2 rfl ?_
    obtain ⟨hk46, hS⟩ := chk_some hS
    refine sr_mapPut (k := user_1) (d := y39.1) (u := .int .i64 y39.1) (cs := [.int .i64 y39.1]) h6 hk46 Tryz.keyB9 Tryz.underlying66 (by decide) hb.bd rfl rfl rfl rfl rfl ?_
    intro w47 h61 t48
    replace hB9 := hB9.m t48
    replace hP2 := hP2.m secret_Locks.objK t48
    replace h4 := h4.m t48
    replace h8 := h8.m t48
    replace hb := hb.trans t48
    replace h6 := h61
    clear h61
    refine sr_fin [] rfl <| ke_seq <| ke_region <| sr_go 1 rfl <| sr_fin [8] rfl ?_
    cases hS
    exact ke_ret1 Tryz.func48 rfl rfl ⟨_, rfl, _, rfl, ⟨_, _, _, _, (hB9.lv 0 hb), (hP2.lv secret_Locks.objK ho2 hb), (h4.lv 4 hb), (h6.lv 5 hb), (h8.lv 6 hb)⟩, (leave_tr ho2 hb)⟩
 ·intro K24
  rcases Bool.eq_false_or_eq_true (!(mhas l_0.users user_1)) with hg23 | hg23
  all_goals try have hj26 : Tr ρ17 w21 (fun _ => false) ρ17 w21 := Tr.refl hb.bd
  ·refine sr_setb 24 rfl hg23 <| sr_go 4 rfl ?_
   exact sr_wk (K24 true _ ⟨by first | (rw [hg23]; rfl) | rfl, rfl⟩)
  ·refine sr_eg hg23 (ev_fieldAddr (i := 1) Tryz.underlying98 rfl Tryz.info9 rfl rfl) ?_
   refine sr_eg hg23 (ev_load Tryz.isAgg9 rfl (hB20.cell rfl)) ?_
   refine sr_eg hg23 (ev_seq rfl rfl) ?_
   refine sr_e (ev_pick_f rfl hg23 rfl) ?_
   exact sr_wk (K24 (y14.code == ([])) _ ⟨by first | (rw [hg23]; rfl) | rfl, rfl⟩)
theorem login_Logins_present__Logins_byCode_ok (w0 : World) (hg : Gs w0) {ρA : Tags} (hbd : ∀ b, ρA b ≠ 0 → b < w0.heap.size) (hz : Gz ρA) {o : Nat} (ho2 : 2 ≤ o) {l_0 : login_Logins} {id_1 : Str} {text_2 : Str} {now_3 : Int} {f_4 : Int} {gl_0 : Nat} {r : Int × login_Logins} (ho0 : login_Logins.O (fun p => o + p) ρA w0 gl_0 l_0) (hS : login_Logins_present__Logins_byCode l_0 id_1 text_2 now_3 f_4 = some r) :
  Calls Tryz.prog 47 #[pT gl_0 0, str id_1, str text_2, .int .i64 now_3, .int .i64 f_4, .func (.func 48) #[] #[]] w0 (Ret (fun v w' => ∃ ρ', v = .int .i64 r.1 ∧ login_Logins.O (fun p => o + p) ρ' w' gl_0 r.2 ∧ Tr ρA w0 (rng o 7) ρ' w')) := by
 unfold login_Logins_present__Logins_byCode at hS
 have hb := enter_fr (ρ := ρA) (w := w0) (n := 7) ho2 hbd
 have hz := hz.enter (n := 7) ho2
 obtain ⟨v1, v3, v5, v7, hB9, hP2, h4, h6, h8⟩ := ho0
 replace hB9 := hB9.mv (enter_mv (p := 0) (n := 7) (by decide) ho2)
 replace hP2 := PtrO.mv hP2 secret_Locks.objK (fun p hp => enter_mv (p := 1 + p) (n := 7) (by omega) ho2) (fun p hp => by omega)
 replace h4 := h4.mv (enter_mv (p := 4) (n := 7) (by decide) ho2)
 replace h6 := h6.mv (enter_mv (p := 5) (n := 7) (by decide) ho2)
 replace h8 := h8.mv (enter_mv (p := 6) (n := 7) (by decide) ho2)
 refine ck Tryz.func47 [0, 1, 2, 3, 4, 5] rfl rfl ?_
 refine ke_seq <| ke_region <| sr_go 1 rfl <| sr_fin [0, 1, 2, 3, 4, 5] rfl <| ke_seq <| ke_region <| sr_go 3 rfl ?_
 obtain ⟨y10, hy11, hS⟩ := bS hS
 refine sr_cl Tryz.call49 (login_Logins_find_ok _ (hg.fr hz hb) hb.bd (hz.fr hg hb) (τ0 := (fun p => 100 + p)) (fun p => Nat.le_add_right_of_le (by decide)) (by exact ⟨_, _, _, _, hB9, hP2, h4, h6, h8⟩) hy11) ?_
 rintro _ w12 ⟨v15, rfl, h16, hbw13⟩
 have t14 := Tr.of_below hbw13 hb.bd
 replace hb := hb.trans t14
 refine sr_go 3 rfl ?_
 refine sr_allocT 15 (by decide) hb.bd Tryz.zeroValue74 (by decide) ?_
 intro g17 ρ18 w19 hB21 t20
 replace h16 := h16.mv t20.rd
 replace hB9 := (hB9.m t14).m t20
 replace hP2 := (hP2.m secret_Locks.objK t14).m secret_Locks.objK t20
 replace h4 := (h4.m t14).m t20
 replace h6 := (h6.m t14).m t20
 replace h8 := (h8.m t14).m t20
 replace hb := hb.trans t20
 refine sr_storeT (v := .agg #[str y10.1.user, .int .i64 y10.1.begun, v15]) (vs := [str y10.1.user, .int .i64 y10.1.begun, v15]) (cs' := #[str y10.1.user, .int .i64 y10.1.begun, v15]) hB21 (by decide) hb.bd rfl rfl rfl Tryz.sizeOf74 rfl (by first | rfl | (simp only [List.all_cons, List.all_nil, SlR.oneCell h16]; done) | (simp only [List.all_cons, List.all_nil, SlR.oneCell h16]; rfl)) rfl ?_
 intro w22 hB211 t23
 replace h16 := h16.mv t23.rd
 replace hB9 := hB9.m t23
 replace hP2 := hP2.m secret_Locks.objK t23
 replace h4 := h4.m t23
 replace h6 := h6.m t23
 replace h8 := h8.m t23
 replace hb := hb.trans t23
 replace hB21 : Blk ρ18 15 w22 g17 (.cells #[str y10.1.user, .int .i64 y10.1.begun, v15] 74 (0, 0)) := hB211
 clear hB211
 refine sr_go 1 rfl <| sr_fin [0, 1, 2, 3, 4, 5, 13, 14] rfl <| ke_seq ?_
 refine ke_block ?_
 refine ke_seq <| ke_region <| sr_go 3 rfl <| sr_fin [0, 1, 2, 3, 4, 5, 13, 14, 22] rfl ?_
 refine ke_cond rfl (fun hc24 => ?_) (fun hc24 => ?_)
 ·replace hS := iT hS hc24
  refine ke_seq <| ke_region <| sr_go 2 rfl <| sr_fin [12] rfl ?_
  cases hS
  exact ke_ret1 Tryz.func47 rfl rfl ⟨_, rfl, _, rfl, ⟨_, _, _, _, (hB9.lv 0 hb), (hP2.lv secret_Locks.objK ho2 hb), (h4.lv 4 hb), (h6.lv 5 hb), (h8.lv 6 hb)⟩, (leave_tr ho2 hb)⟩
 ·replace hS := iF hS hc24
  refine ke_seq <| ke_region ?_
  refine sr_e (v := .agg #[str y10.1.user, .int .i64 y10.1.begun, v15]) (ev_loads (cs := [str y10.1.user, .int .i64 y10.1.begun, v15]) Tryz.isAgg74 Tryz.sizeOf74 rfl (hB21.cells (vs := [str y10.1.user, .int .i64 y10.1.begun, v15]) rfl)) ?_
  refine sr_go 1 rfl ?_
  obtain ⟨y25, hy26, hS⟩ := bS hS
  refine sr_cb Tryz.call89 (login_attempt_has_ok _ (hg.fr hz hb) hb.bd (hz.fr hg hb) h16 hy26) hb.bd ?_
  intro w27 t29
  replace hB21 := hB21.m t29
  replace h16 := h16.mv t29.rd
  replace hB9 := hB9.m t29
  replace hP2 := hP2.m secret_Locks.objK t29
  replace h4 := h4.m t29
  replace h6 := h6.m t29
  replace h8 := h8.m t29
  replace hb := hb.trans t29
  refine sr_go 1 rfl <| sr_fin [0, 1, 2, 3, 4, 5, 13, 26] rfl ?_
  refine ke_cond rfl (fun hc30 => ?_) (fun hc30 => ?_)
  ·replace hS := iT hS hc30
   refine ke_seq <| ke_region <| sr_go 1 rfl <| sr_fin [12] rfl ?_
   cases hS
   exact ke_ret1 Tryz.func47 rfl rfl ⟨_, rfl, _, rfl, ⟨_, _, _, _, (hB9.lv 0 hb), (hP2.lv secret_Locks.objK ho2 hb), (h4.lv 4 hb), (h6.lv 5 hb), (h8.lv 6 hb)⟩, (leave_tr ho2 hb)⟩
  ·replace hS := iF hS hc30
   refine ke_seq ?_
   refine ke_region_q Tryz.mixed (by kernel_rfl) ?_
   refine sq_go 2 rfl ?_
   refine sq_ev (v := pT gl_0 0) (fun w1 hw1 => ev_fieldAddr (i := 0) Tryz.underlying69 rfl Tryz.info64 rfl rfl) (by decide) ?_
   refine sq_ev (v := v1) (fun w1 hw1 => ev_load Tryz.isAgg64 rfl ((hB9.mv (Mv.of_below (i := 100) (ρ := ρ18) hw1)).cell rfl)) (by decide) ?_
   refine sq_ev (v := pT g17 0) (fun w1 hw1 => ev_fieldAddr (i := 0) Tryz.underlying74 rfl Tryz.info9 rfl rfl) (by decide) ?_
   refine sq_ev (v := str y10.1.user) (fun w1 hw1 => ev_load Tryz.isAgg9 rfl ((hB21.mv (Mv.of_below (i := 15) (ρ := ρ18) hw1)).cell rfl)) (by decide) ?_
   refine sq_go 1 rfl ?_
   rcases ho34 : l_0.locks with _ | z33
   ·replace hS := optC_none hS ho34
    obtain rfl := hP2.none_ ho34
    obtain ⟨y191, hy192, hS⟩ := bS hS
    obtain rfl : y191 = false := (Option.some.inj hy192).symm
    refine sq_call (v := .bool false) (vs := [.pointer none, str y10.1.user, .int .i64 now_3]) rfl Tryz.call57 rfl (fun w1 hw1 => (secret_Locks_Locked__nil_ok _ ((hg.fr hz hb).below hw1) (ρA := ρ18) (fun b h => Nat.lt_of_lt_of_le (hb.bd b h) hw1.size) (hz.fr hg hb) hy192)) (by decide) ?_
    refine sq_go 1 rfl ?_
    refine sq_fin [0, 1, 2, 3, 4, 5, 13, 30] rfl (fun w32 hw31 => ?_)
    have t196 := Tr.of_below hw31 hb.bd
    replace hB21 := hB21.m t196
    replace h16 := h16.mv t196.rd
    replace hB9 := hB9.m t196
    replace hP2 := hP2.m secret_Locks.objK t196
    replace h4 := h4.m t196
    replace h6 := h6.m t196
    replace h8 := h8.m t196
    replace hb := hb.trans t196
    refine ke_cond rfl (fun h => by cases h) (fun _ => ?_)
    refine ke_seq <| ke_region <| sr_go 2 rfl ?_
    refine sr_fa 0 Tryz.underlying74 rfl Tryz.info9 ?_
    refine sr_ld (str y10.1.user) Tryz.isAgg9 rfl (hB21.cell rfl) ?_
    refine sr_go 2 rfl ?_
    obtain ⟨y197, hy198, hS⟩ := bS hS
    refine sr_cl Tryz.call48 (login_Logins_byCode_ok _ (hg.fr hz hb) hb.bd (hz.fr hg hb) (o := 100) (by decide) (by exact ⟨_, _, _, _, hB9, hP2, h4, h6, h8⟩) hy198) ?_
    rintro _ w199 ⟨ρ211, rfl, ⟨v202, v204, v206, v208, hB210, hP203, h205, h207, h209⟩, t201⟩
    replace hB21 := hB21.m t201
    replace h16 := h16.mv t201.rd
    replace hb := hb.trans t201
    refine sr_go 2 rfl <| sr_fin [0, 1, 3, 4, 13, 39] rfl ?_
    refine ke_cond rfl (fun hc212 => ?_) (fun hc212 => ?_)
    ·replace hS := iT hS hc212
     refine ke_seq ?_
     refine ke_region_j (ρ := ρ211) (fun t => ([101, 102, 103] : List Nat).contains t) 8 Tryz.mixed (fun w214 hw213 => ?_)
     have t215 := Tr.of_below hw213 hb.bd
     replace hB21 := hB21.m t215
     replace hB210 := hB210.m t215
     replace hP203 := hP203.m secret_Locks.objK t215
     replace h205 := h205.m t215
     replace h207 := h207.m t215
     replace h209 := h209.m t215
     replace hb := hb.trans t215
     refine dj_v 0 hb.bd rfl rfl ?_
     refine dj_v 1 hb.bd rfl rfl ?_
     refine dj_h 2 (pT gl_0 0) hb.bd rfl (fun w1 ρ1 hw1 => ev_fieldAddr (i := 0) Tryz.underlying69 rfl Tryz.info64 rfl rfl) ?_
     refine dj_h 3 v202 hb.bd rfl (fun w1 ρ1 hw1 => ev_load Tryz.isAgg64 rfl ((hB210.mv (hw1.mv (i := 100) rfl)).cell rfl)) ?_
     refine dj_h 4 (pT g17 0) hb.bd rfl (fun w1 ρ1 hw1 => ev_fieldAddr (i := 0) Tryz.underlying74 rfl Tryz.info9 rfl rfl) ?_
     refine dj_h 5 (str y10.1.user) hb.bd rfl (fun w1 ρ1 hw1 => ev_load Tryz.isAgg9 rfl ((hB21.mv (hw1.mv (i := 15) rfl)).cell rfl)) ?_
     refine dj_v 6 hb.bd rfl rfl ?_
     refine dj_E 7 (by kernel_rfl) rfl ?_
     have jt267 : Tr ρ211 w214 (fun t => ([101, 102, 103] : List Nat).contains t) ρ211 w214 := (Tr.refl hb.bd).weak (fun _ _ => rfl) rfl rfl
     rcases ho269 : y197.2.locks with _ | z268
     ·replace hS := optC_none hS ho269
      obtain rfl := hP203.none_ ho269
      obtain ⟨y287, hy288, hS⟩ := bS hS
      refine sr_cb Tryz.call90 (secret_Locks_Fail__nil_ok _ (hg.fr hz hb) hb.bd (hz.fr hg hb) hy288) hb.bd ?_
      intro w289 t291
      replace hB210 := hB210.m t291
      replace h205 := h205.m t291
      replace h207 := h207.m t291
      replace h209 := h209.m t291
      replace hb := hb.trans t291
      replace jt267 := jt267.tw t291
      refine dj_nx [] rfl jt267 ?_
      refine dj_done rfl (by kernel_rfl) ?_
      refine ke_fin [] rfl <| ke_seq <| ke_region <| sr_go 1 rfl <| sr_fin [12] rfl ?_
      cases hS
      exact ke_ret1 Tryz.func47 rfl rfl ⟨_, rfl, _, rfl, ⟨_, _, _, _, (hB210.lv 0 hb), PtrO.nil, (h205.lv 4 hb), (h207.lv 5 hb), (h209.lv 6 hb)⟩, (leave_tr ho2 hb)⟩
     ·replace hS := optC_some hS ho269
      obtain ⟨g270, rfl, ⟨v271, lp273, hB275, h272, hR274⟩⟩ := hP203.some_ ho269
      obtain ⟨y276, hy277, hS⟩ := bS hS
      refine sr_cl Tryz.call90 (secret_Locks_Fail_ok _ (hg.fr hz hb) hb.bd (hz.fr hg hb) (o := 101) (by decide) (by exact ⟨_, _, hB275, h272, hR274⟩) hy277) ?_
      rintro _ w278 ⟨ρ286, rfl, ⟨v281, lp283, hB285, h282, hR284⟩, t280⟩
      replace hB210 := hB210.m t280
      replace h205 := h205.m t280
      replace h207 := h207.m t280
      replace h209 := h209.m t280
      replace hb := hb.trans t280
      replace jt267 := jt267.tw t280
      refine dj_nx [] rfl jt267 ?_
      refine dj_done rfl (by kernel_rfl) ?_
      refine ke_fin [] rfl <| ke_seq <| ke_region <| sr_go 1 rfl <| sr_fin [12] rfl ?_
      cases hS
      exact ke_ret1 Tryz.func47 rfl rfl ⟨_, rfl, _, rfl, ⟨_, _, _, _, (hB210.lv 0 hb), (PtrO.mk ⟨_, _, (hB285.lv 1 hb), (h282.lv 2 hb), (Recs.mv hR284 secret_record.objK (leave_mv (p := 3) (by decide) hb) (Nat.ne_of_gt (Nat.lt_of_lt_of_le (Nat.lt_of_lt_of_le Nat.zero_lt_two ho2) (Nat.le_add_right _ _))))⟩), (h205.lv 4 hb), (h207.lv 5 hb), (h209.lv 6 hb)⟩, (leave_tr ho2 hb)⟩
    ·replace hS := iF hS hc212
     refine ke_skip <| ke_inBlock <| ke_seq <| ke_region ?_
     refine sr_fa 2 Tryz.underlying74 rfl Tryz.info36 ?_
     refine sr_ld v15 Tryz.isAgg36 rfl (hB21.cell rfl) ?_
     obtain ⟨y292, hy293, hS⟩ := bS hS
     refine sr_cl Tryz.call50 (slices_Clone_api_Proof_api_Proof_ok _ (hg.fr hz hb) hb.bd (hz.fr hg hb) (o := 60) (by decide) h16 hy293) ?_
     rintro v297 w294 ⟨ρ299, _, rfl, h298, t296⟩
     replace hb := hb.trans t296
     refine sr_go 2 rfl ?_
     obtain ⟨y300, hy301, hS⟩ := bS hS
     refine sr_cb Tryz.call39 (clock_Add_ok _ (hg.fr hz hb) hy301) hb.bd ?_
     intro w302 t304
     replace hB21 := (hB21.m t296).m t304
     replace hB210 := (hB210.m t296).m t304
     replace hP203 := (hP203.m secret_Locks.objK t296).m secret_Locks.objK t304
     replace h205 := (h205.m t296).m t304
     replace h207 := (h207.m t296).m t304
     replace h209 := (h209.m t296).m t304
     replace hb := hb.trans t304
     refine sr_e (v := .agg #[.int .i64 f_4, .int .i64 y300]) (ev_build (vs := #[(0, .int .i64 f_4), (1, .int .i64 y300)]) rfl (fun _ => by kernel_rfl)) ?_
     refine sr_litT (c := api_Proof.c) (ρ := ρ299) (E := 42) (xs := [(api_Proof.mk f_4 y300)]) (vs := #[(0, .agg #[.int .i64 f_4, .int .i64 y300])]) (cs := #[.int .i64 f_4, .int .i64 y300]) (css := [[.int .i64 f_4, .int .i64 y300]]) rfl (fun _ => by kernel_rfl) rfl ⟨rfl, trivial⟩ rfl (by decide) hb.bd (by decide) ?_
     intro v305 w307 h306 hbw309
     have t308 := Tr.of_below hbw309 hb.bd
     replace h298 := (h298.m t304).m t308
     replace hb := hb.trans t308
     obtain ⟨hk310, hS⟩ := chk_some hS
     refine sr_appendT (i := 60) (c := api_Proof.c) (ρ := ρ299) (E := 42) (xs := y292) (ys := ([(api_Proof.mk f_4 y300)] : List api_Proof)) h298 ((SlT.of_sl (i := 0) h306)).x Tryz.underlying36 Tryz.info42 rfl rfl rfl (Nat.succ_pos _) (by decide) (by decide) hb.bd hk310 rfl rfl (by decide) ?_
     intro v311 ρ313 w314 h312 t315
     replace hB21 := (hB21.m t308).m t315
     replace hB210 := (hB210.m t308).m t315
     replace hP203 := (hP203.m secret_Locks.objK t308).m secret_Locks.objK t315
     replace h205 := (h205.m t308).m t315
     replace h207 := (h207.m t308).m t315
     replace h209 := (h209.m t308).m t315
     replace hb := hb.trans t315
     refine sr_fa 2 Tryz.underlying74 rfl Tryz.info36 ?_
     refine sr_storeT (v := v311) (vs := [v311]) (cs' := #[str y10.1.user, .int .i64 y10.1.begun, v311]) hB21 (by decide) hb.bd rfl rfl (one_cells (OwnT.oneCell h312)) Tryz.sizeOf36 rfl (by first | rfl | (simp only [List.all_cons, List.all_nil, OwnT.oneCell h312]; done) | (simp only [List.all_cons, List.all_nil, OwnT.oneCell h312]; rfl)) rfl ?_
     intro w316 hB21 t317
     replace hb := hb.trans t317
     refine sr_fin [0, 1, 13] rfl <| ke_seq ?_
     refine ke_region_j (ρ := ρ313) (fun t => ([60, 106] : List Nat).contains t) 7 Tryz.mixed (fun w319 hw318 => ?_)
     have t320 := Tr.of_below hw318 hb.bd
     replace hB21 := hB21.m t320
     replace h312 := (h312.m t317).m t320
     replace hB210 := (hB210.m t317).m t320
     replace hP203 := (hP203.m secret_Locks.objK t317).m secret_Locks.objK t320
     replace h205 := (h205.m t317).m t320
     replace h207 := (h207.m t317).m t320
     replace h209 := (h209.m t317).m t320
     replace hb := hb.trans t320
     refine dj_v 0 hb.bd rfl rfl ?_
     refine dj_v 1 hb.bd rfl rfl ?_
     refine dj_h 2 (pT gl_0 3) hb.bd rfl (fun w1 ρ1 hw1 => ev_fieldAddr (i := 3) Tryz.underlying69 rfl Tryz.info67 rfl rfl) ?_
     refine dj_h 3 v208 hb.bd rfl (fun w1 ρ1 hw1 => ev_load Tryz.isAgg67 rfl ((hB210.mv (hw1.mv (i := 100) rfl)).cell rfl)) ?_
     refine dj_v 4 hb.bd rfl rfl ?_
     refine dj_h 5 (.agg #[str y10.1.user, .int .i64 y10.1.begun, v311]) hb.bd rfl (fun w1 ρ1 hw1 => ev_loads (cs := [str y10.1.user, .int .i64 y10.1.begun, v311]) Tryz.isAgg74 Tryz.sizeOf74 rfl ((hB21.mv (hw1.mv (i := 15) rfl)).cells (vs := [str y10.1.user, .int .i64 y10.1.begun, v311]) rfl)) ?_
     refine dj_E 6 (by kernel_rfl) rfl ?_
     have jt334 : Tr ρ313 w319 (fun t => ([60, 106] : List Nat).contains t) ρ313 w319 := (Tr.refl hb.bd).weak (fun _ _ => rfl) rfl rfl
     have t335 := frz_tr (ρ := ρ313) (w := w319) (i := 60) (by decide) hb.bd
     have h336 : SlR api_Proof.c (Wb (frz ρ313 60)) w319 v311 (y292 ++ ([(api_Proof.mk f_4 y300)] : List api_Proof)) := (SlT.mv h312.sl (frz_mv (ρ := ρ313) (w := w319) (i := 60))).sl
     replace h209 := h209.m t335
     replace hb := hb.trans t335
     replace jt334 := jt334.tw t335
     obtain ⟨hk337, hS⟩ := chk_some hS
     refine sr_mapPut (k := id_1) (d := (login_attempt.mk y10.1.user y10.1.begun (y292 ++ ([(api_Proof.mk f_4 y300)] : List api_Proof)))) (u := .agg #[str y10.1.user, .int .i64 y10.1.begun, v311]) (cs := [str y10.1.user, .int .i64 y10.1.begun, v311]) h209 hk337 Tryz.keyB9 Tryz.underlying67 (by decide) hb.bd rfl ⟨_, rfl, h336⟩ rfl rfl rfl ?_
     intro w338 h2091 t339
     replace hB210 := (hB210.m t335).m t339
     replace hP203 := (hP203.m secret_Locks.objK t335).m secret_Locks.objK t339
     replace h205 := (h205.m t335).m t339
     replace h207 := (h207.m t335).m t339
     replace hb := hb.trans t339
     replace jt334 := jt334.tw t339
     replace h209 := h2091
     clear h2091
     refine dj_nx [] rfl jt334 ?_
     refine dj_done rfl (by kernel_rfl) ?_
     refine ke_fin [] rfl <| ke_seq <| ke_region <| sr_go 1 rfl <| sr_fin [12] rfl ?_
     cases hS
     exact ke_ret1 Tryz.func47 rfl rfl ⟨_, rfl, _, rfl, ⟨_, _, _, _, (hB210.lv 0 hb), (hP203.lv secret_Locks.objK ho2 hb), (h205.lv 4 hb), (h207.lv 5 hb), (h209.lv 6 hb)⟩, (leave_tr ho2 hb)⟩
   ·replace hS := optC_some hS ho34
    obtain ⟨g35, rfl, ⟨v36, lp38, hB40, h37, hR39⟩⟩ := hP2.some_ ho34
    obtain ⟨y41, hy42, hS⟩ := bS hS
    refine sq_call (v := .bool y41) (vs := [pT g35 0, str y10.1.user, .int .i64 now_3]) rfl Tryz.call57 rfl (fun w1 hw1 => (secret_Locks_Locked_ok _ ((hg.fr hz hb).below hw1) (ρA := ρ18) (fun b h => Nat.lt_of_lt_of_le (hb.bd b h) hw1.size) (hz.fr hg hb) (τ0 := (fun p => 101 + p)) (fun p => Nat.le_add_right_of_le (by decide)) (⟨_, _, (hB40.mv (Mv.of_below (i := 101) (ρ := ρ18) hw1)), (h37.mv (Mv.of_below (i := 102) (ρ := ρ18) hw1)), (Recs.mv hR39 secret_record.objK (Mv.of_below (i := 103) (ρ := ρ18) hw1) (by decide))⟩ : secret_Locks.O (fun p => 101 + p) ρ18 w1 g35 z33) hy42)) (by decide) ?_
    refine sq_go 1 rfl ?_
    refine sq_fin [0, 1, 2, 3, 4, 5, 13, 30] rfl (fun w32 hw31 => ?_)
    have t46 := Tr.of_below hw31 hb.bd
    replace hB21 := hB21.m t46
    replace h16 := h16.mv t46.rd
    replace hB9 := hB9.m t46
    replace hP2 := hP2.m secret_Locks.objK t46
    replace h4 := h4.m t46
    replace h6 := h6.m t46
    replace h8 := h8.m t46
    replace hb := hb.trans t46
    refine ke_cond rfl (fun hc47 => ?_) (fun hc47 => ?_)
    ·replace hS := iT hS hc47
     refine ke_seq <| ke_region <| sr_go 1 rfl <| sr_fin [12] rfl ?_
     cases hS
     exact ke_ret1 Tryz.func47 rfl rfl ⟨_, rfl, _, rfl, ⟨_, _, _, _, (hB9.lv 0 hb), (hP2.lv secret_Locks.objK ho2 hb), (h4.lv 4 hb), (h6.lv 5 hb), (h8.lv 6 hb)⟩, (leave_tr ho2 hb)⟩
    ·replace hS := iF hS hc47
     refine ke_seq <| ke_region <| sr_go 2 rfl ?_
     refine sr_fa 0 Tryz.underlying74 rfl Tryz.info9 ?_
     refine sr_ld (str y10.1.user) Tryz.isAgg9 rfl (hB21.cell rfl) ?_
     refine sr_go 2 rfl ?_
     obtain ⟨y48, hy49, hS⟩ := bS hS
     refine sr_cl Tryz.call48 (login_Logins_byCode_ok _ (hg.fr hz hb) hb.bd (hz.fr hg hb) (o := 100) (by decide) (by exact ⟨_, _, _, _, hB9, hP2, h4, h6, h8⟩) hy49) ?_
     rintro _ w50 ⟨ρ62, rfl, ⟨v53, v55, v57, v59, hB61, hP54, h56, h58, h60⟩, t52⟩
     replace hB21 := hB21.m t52
     replace h16 := h16.mv t52.rd
     replace hb := hb.trans t52
     refine sr_go 2 rfl <| sr_fin [0, 1, 3, 4, 13, 39] rfl ?_
     refine ke_cond rfl (fun hc63 => ?_) (fun hc63 => ?_)
     ·replace hS := iT hS hc63
      refine ke_seq ?_
      refine ke_region_j (ρ := ρ62) (fun t => ([101, 102, 103] : List Nat).contains t) 8 Tryz.mixed (fun w65 hw64 => ?_)
      have t66 := Tr.of_below hw64 hb.bd
      replace hB21 := hB21.m t66
      replace hB61 := hB61.m t66
      replace hP54 := hP54.m secret_Locks.objK t66
      replace h56 := h56.m t66
      replace h58 := h58.m t66
      replace h60 := h60.m t66
      replace hb := hb.trans t66
      refine dj_v 0 hb.bd rfl rfl ?_
      refine dj_v 1 hb.bd rfl rfl ?_
      refine dj_h 2 (pT gl_0 0) hb.bd rfl (fun w1 ρ1 hw1 => ev_fieldAddr (i := 0) Tryz.underlying69 rfl Tryz.info64 rfl rfl) ?_
      refine dj_h 3 v53 hb.bd rfl (fun w1 ρ1 hw1 => ev_load Tryz.isAgg64 rfl ((hB61.mv (hw1.mv (i := 100) rfl)).cell rfl)) ?_
      refine dj_h 4 (pT g17 0) hb.bd rfl (fun w1 ρ1 hw1 => ev_fieldAddr (i := 0) Tryz.underlying74 rfl Tryz.info9 rfl rfl) ?_
      refine dj_h 5 (str y10.1.user) hb.bd rfl (fun w1 ρ1 hw1 => ev_load Tryz.isAgg9 rfl ((hB21.mv (hw1.mv (i := 15) rfl)).cell rfl)) ?_
      refine dj_v 6 hb.bd rfl rfl ?_
      refine dj_E 7 (by kernel_rfl) rfl ?_
      have jt118 : Tr ρ62 w65 (fun t => ([101, 102, 103] : List Nat).contains t) ρ62 w65 := (Tr.refl hb.bd).weak (fun _ _ => rfl) rfl rfl
      rcases ho120 : y48.2.locks with _ | z119
      ·replace hS := optC_none hS ho120
       obtain rfl := hP54.none_ ho120
       obtain ⟨y138, hy139, hS⟩ := bS hS
       refine sr_cb Tryz.call90 (secret_Locks_Fail__nil_ok _ (hg.fr hz hb) hb.bd (hz.fr hg hb) hy139) hb.bd ?_
       intro w140 t142
       replace hB61 := hB61.m t142
       replace h56 := h56.m t142
       replace h58 := h58.m t142
       replace h60 := h60.m t142
       replace hb := hb.trans t142
       replace jt118 := jt118.tw t142
       refine dj_nx [] rfl jt118 ?_
       refine dj_done rfl (by kernel_rfl) ?_
       refine ke_fin [] rfl <| ke_seq <| ke_region <| sr_go 1 rfl <| sr_fin [12] rfl ?_
       cases hS
       exact ke_ret1 Tryz.func47 rfl rfl ⟨_, rfl, _, rfl, ⟨_, _, _, _, (hB61.lv 0 hb), PtrO.nil, (h56.lv 4 hb), (h58.lv 5 hb), (h60.lv 6 hb)⟩, (leave_tr ho2 hb)⟩
      ·replace hS := optC_some hS ho120
       obtain ⟨g121, rfl, ⟨v122, lp124, hB126, h123, hR125⟩⟩ := hP54.some_ ho120
       obtain ⟨y127, hy128, hS⟩ := bS hS
       refine sr_cl Tryz.call90 (secret_Locks_Fail_ok _ (hg.fr hz hb) hb.bd (hz.fr hg hb) (o := 101) (by decide) (by exact ⟨_, _, hB126, h123, hR125⟩) hy128) ?_
       rintro _ w129 ⟨ρ137, rfl, ⟨v132, lp134, hB136, h133, hR135⟩, t131⟩
       replace hB61 := hB61.m t131
       replace h56 := h56.m t131
       replace h58 := h58.m t131
       replace h60 := h60.m t131
       replace hb := hb.trans t131
       replace jt118 := jt118.tw t131
       refine dj_nx [] rfl jt118 ?_
       refine dj_done rfl (by kernel_rfl) ?_
       refine ke_fin [] rfl <| ke_seq <| ke_region <| sr_go 1 rfl <| sr_fin [12] rfl ?_
       cases hS
       exact ke_ret1 Tryz.func47 rfl rfl ⟨_, rfl, _, rfl, ⟨_, _, _, _, (hB61.lv 0 hb), (PtrO.mk ⟨_, _, (hB136.lv 1 hb), (h133.lv 2 hb), (Recs.mv hR135 secret_record.objK (leave_mv (p := 3) (by decide) hb) (Nat.ne_of_gt (Nat.lt_of_lt_of_le (Nat.lt_of_lt_of_le Nat.zero_lt_two ho2) (Nat.le_add_right _ _))))⟩), (h56.lv 4 hb), (h58.lv 5 hb), (h60.lv 6 hb)⟩, (leave_tr ho2 hb)⟩
     ·replace hS := iF hS hc63
      refine ke_skip <| ke_inBlock <| ke_seq <| ke_region ?_
      refine sr_fa 2 Tryz.underlying74 rfl Tryz.info36 ?_
      refine sr_ld v15 Tryz.isAgg36 rfl (hB21.cell rfl) ?_
      obtain ⟨y143, hy144, hS⟩ := bS hS
      refine sr_cl Tryz.call50 (slices_Clone_api_Proof_api_Proof_ok _ (hg.fr hz hb) hb.bd (hz.fr hg hb) (o := 60) (by decide) h16 hy144) ?_
      rintro v148 w145 ⟨ρ150, _, rfl, h149, t147⟩
      replace hb := hb.trans t147
      refine sr_go 2 rfl ?_
      obtain ⟨y151, hy152, hS⟩ := bS hS
      refine sr_cb Tryz.call39 (clock_Add_ok _ (hg.fr hz hb) hy152) hb.bd ?_
      intro w153 t155
      replace hB21 := (hB21.m t147).m t155
      replace hB61 := (hB61.m t147).m t155
      replace hP54 := (hP54.m secret_Locks.objK t147).m secret_Locks.objK t155
      replace h56 := (h56.m t147).m t155
      replace h58 := (h58.m t147).m t155
      replace h60 := (h60.m t147).m t155
      replace hb := hb.trans t155
      refine sr_e (v := .agg #[.int .i64 f_4, .int .i64 y151]) (ev_build (vs := #[(0, .int .i64 f_4), (1, .int .i64 y151)]) rfl (fun _ => by kernel_rfl)) ?_
      refine sr_litT (c := api_Proof.c) (ρ := ρ150) (E := 42) (xs := [(api_Proof.mk f_4 y151)]) (vs := #[(0, .agg #[.int .i64 f_4, .int .i64 y151])]) (cs := #[.int .i64 f_4, .int .i64 y151]) (css := [[.int .i64 f_4, .int .i64 y151]]) rfl (fun _ => by kernel_rfl) rfl ⟨rfl, trivial⟩ rfl (by decide) hb.bd (by decide) ?_
      intro v156 w158 h157 hbw160
      have t159 := Tr.of_below hbw160 hb.bd
      replace h149 := (h149.m t155).m t159
      replace hb := hb.trans t159
      obtain ⟨hk161, hS⟩ := chk_some hS
      refine sr_appendT (i := 60) (c := api_Proof.c) (ρ := ρ150) (E := 42) (xs := y143) (ys := ([(api_Proof.mk f_4 y151)] : List api_Proof)) h149 ((SlT.of_sl (i := 0) h157)).x Tryz.underlying36 Tryz.info42 rfl rfl rfl (Nat.succ_pos _) (by decide) (by decide) hb.bd hk161 rfl rfl (by decide) ?_
      intro v162 ρ164 w165 h163 t166
      replace hB21 := (hB21.m t159).m t166
      replace hB61 := (hB61.m t159).m t166
      replace hP54 := (hP54.m secret_Locks.objK t159).m secret_Locks.objK t166
      replace h56 := (h56.m t159).m t166
      replace h58 := (h58.m t159).m t166
      replace h60 := (h60.m t159).m t166
      replace hb := hb.trans t166
      refine sr_fa 2 Tryz.underlying74 rfl Tryz.info36 ?_
      refine sr_storeT (v := v162) (vs := [v162]) (cs' := #[str y10.1.user, .int .i64 y10.1.begun, v162]) hB21 (by decide) hb.bd rfl rfl (one_cells (OwnT.oneCell h163)) Tryz.sizeOf36 rfl (by first | rfl | (simp only [List.all_cons, List.all_nil, OwnT.oneCell h163]; done) | (simp only [List.all_cons, List.all_nil, OwnT.oneCell h163]; rfl)) rfl ?_
      intro w167 hB21 t168
      replace hb := hb.trans t168
      refine sr_fin [0, 1, 13] rfl <| ke_seq ?_
      refine ke_region_j (ρ := ρ164) (fun t => ([60, 106] : List Nat).contains t) 7 Tryz.mixed (fun w170 hw169 => ?_)
      have t171 := Tr.of_below hw169 hb.bd
      replace hB21 := hB21.m t171
      replace h163 := (h163.m t168).m t171
      replace hB61 := (hB61.m t168).m t171
      replace hP54 := (hP54.m secret_Locks.objK t168).m secret_Locks.objK t171
      replace h56 := (h56.m t168).m t171
      replace h58 := (h58.m t168).m t171
      replace h60 := (h60.m t168).m t171
      replace hb := hb.trans t171
      refine dj_v 0 hb.bd rfl rfl ?_
      refine dj_v 1 hb.bd rfl rfl ?_
      refine dj_h 2 (pT gl_0 3) hb.bd rfl (fun w1 ρ1 hw1 => ev_fieldAddr (i := 3) Tryz.underlying69 rfl Tryz.info67 rfl rfl) ?_
      refine dj_h 3 v59 hb.bd rfl (fun w1 ρ1 hw1 => ev_load Tryz.isAgg67 rfl ((hB61.mv (hw1.mv (i := 100) rfl)).cell rfl)) ?_
      refine dj_v 4 hb.bd rfl rfl ?_
      refine dj_h 5 (.agg #[str y10.1.user, .int .i64 y10.1.begun, v162]) hb.bd rfl (fun w1 ρ1 hw1 => ev_loads (cs := [str y10.1.user, .int .i64 y10.1.begun, v162]) Tryz.isAgg74 Tryz.sizeOf74 rfl ((hB21.mv (hw1.mv (i := 15) rfl)).cells (vs := [str y10.1.user, .int .i64 y10.1.begun, v162]) rfl)) ?_
      refine dj_E 6 (by kernel_rfl) rfl ?_
      have jt185 : Tr ρ164 w170 (fun t => ([60, 106] : List Nat).contains t) ρ164 w170 := (Tr.refl hb.bd).weak (fun _ _ => rfl) rfl rfl
      have t186 := frz_tr (ρ := ρ164) (w := w170) (i := 60) (by decide) hb.bd
      have h187 : SlR api_Proof.c (Wb (frz ρ164 60)) w170 v162 (y143 ++ ([(api_Proof.mk f_4 y151)] : List api_Proof)) := (SlT.mv h163.sl (frz_mv (ρ := ρ164) (w := w170) (i := 60))).sl
      replace h60 := h60.m t186
      replace hb := hb.trans t186
      replace jt185 := jt185.tw t186
      obtain ⟨hk188, hS⟩ := chk_some hS
      refine sr_mapPut (k := id_1) (d := (login_attempt.mk y10.1.user y10.1.begun (y143 ++ ([(api_Proof.mk f_4 y151)] : List api_Proof)))) (u := .agg #[str y10.1.user, .int .i64 y10.1.begun, v162]) (cs := [str y10.1.user, .int .i64 y10.1.begun, v162]) h60 hk188 Tryz.keyB9 Tryz.underlying67 (by decide) hb.bd rfl ⟨_, rfl, h187⟩ rfl rfl rfl ?_
      intro w189 h601 t190
      replace hB61 := (hB61.m t186).m t190
      replace hP54 := (hP54.m secret_Locks.objK t186).m secret_Locks.objK t190
      replace h56 := (h56.m t186).m t190
      replace h58 := (h58.m t186).m t190
      replace hb := hb.trans t190
      replace jt185 := jt185.tw t190
      replace h60 := h601
      clear h601
      refine dj_nx [] rfl jt185 ?_
      refine dj_done rfl (by kernel_rfl) ?_
      refine ke_fin [] rfl <| ke_seq <| ke_region <| sr_go 1 rfl <| sr_fin [12] rfl ?_
      cases hS
      exact ke_ret1 Tryz.func47 rfl rfl ⟨_, rfl, _, rfl, ⟨_, _, _, _, (hB61.lv 0 hb), (hP54.lv secret_Locks.objK ho2 hb), (h56.lv 4 hb), (h58.lv 5 hb), (h60.lv 6 hb)⟩, (leave_tr ho2 hb)⟩
theorem login_Logins_Code_ok (w0 : World) (hg : Gs w0) {ρA : Tags} (hbd : ∀ b, ρA b ≠ 0 → b < w0.heap.size) (hz : Gz ρA) {o : Nat} (ho2 : 2 ≤ o) {l_0 : login_Logins} {id_1 : Str} {code_2 : Str} {now_3 : Int} {gl_0 : Nat} {r : Int × login_Logins} (ho0 : login_Logins.O (fun p => o + p) ρA w0 gl_0 l_0) (hS : login_Logins_Code l_0 id_1 code_2 now_3 = some r) :
  Calls Tryz.prog 15 #[pT gl_0 0, str id_1, str code_2, .int .i64 now_3] w0 (Ret (fun v w' => ∃ ρ', v = .int .i64 r.1 ∧ login_Logins.O (fun p => o + p) ρ' w' gl_0 r.2 ∧ Tr ρA w0 (rng o 7) ρ' w')) := by
 unfold login_Logins_Code at hS
 have hb := enter_fr (ρ := ρA) (w := w0) (n := 7) ho2 hbd
 have hz := hz.enter (n := 7) ho2
 obtain ⟨v1, v3, v5, v7, hB9, hP2, h4, h6, h8⟩ := ho0
 replace hB9 := hB9.mv (enter_mv (p := 0) (n := 7) (by decide) ho2)
 replace hP2 := PtrO.mv hP2 secret_Locks.objK (fun p hp => enter_mv (p := 1 + p) (n := 7) (by omega) ho2) (fun p hp => by omega)
 replace h4 := h4.mv (enter_mv (p := 4) (n := 7) (by decide) ho2)
 replace h6 := h6.mv (enter_mv (p := 5) (n := 7) (by decide) ho2)
 replace h8 := h8.mv (enter_mv (p := 6) (n := 7) (by decide) ho2)
 refine ck Tryz.func15 [0, 1, 2, 3] rfl rfl ?_
 refine ke_seq <| ke_region <| sr_go 1 rfl <| sr_fin [0, 1, 2, 3] rfl <| ke_seq <| ke_region <| sr_go 4 rfl ?_
 obtain ⟨y10, hy11, hS⟩ := bS hS
 refine sr_cl Tryz.call47 (login_Logins_present__Logins_byCode_ok _ (hg.fr hz hb) hb.bd (hz.fr hg hb) (o := 100) (by decide) (by exact ⟨_, _, _, _, hB9, hP2, h4, h6, h8⟩) hy11) ?_
 rintro _ w12 ⟨ρ24, rfl, ⟨v15, v17, v19, v21, hB23, hP16, h18, h20, h22⟩, t14⟩
 replace hb := hb.trans t14
 refine sr_go 1 rfl <| sr_fin [8] rfl ?_
 cases hS
 exact ke_ret1 Tryz.func15 rfl rfl ⟨_, rfl, _, rfl, ⟨_, _, _, _, (hB23.lv 0 hb), (hP16.lv secret_Locks.objK ho2 hb), (h18.lv 4 hb), (h20.lv 5 hb), (h22.lv 6 hb)⟩, (leave_tr ho2 hb)⟩
theorem login_Logins_Locked_ok (w0 : World) (hg : Gs w0) {ρA : Tags} (hbd : ∀ b, ρA b ≠ 0 → b < w0.heap.size) (hz : Gz ρA) {τ0 : Nat → Nat} (hτ0 : ∀ p, 1 ≤ τ0 p) {l_0 : login_Logins} {user_1 : Str} {now_2 : Int} {gl_0 : Nat} {r : Bool} (ho0 : login_Logins.O τ0 ρA w0 gl_0 l_0) (hS : login_Logins_Locked l_0 user_1 now_2 = some r) :
  Calls Tryz.prog 22 #[pT gl_0 0, str user_1, .int .i64 now_2] w0 (Ret (fun v w' => v = .bool r ∧ Below w0.heap.size w0 w')) := by
 unfold login_Logins_Locked at hS
 have hb := flat1_fr (ρ := ρA) (w := w0) hbd
 have hz := hz.flat1
 obtain ⟨v1, v3, v5, v7, hB9, hP2, h4, h6, h8⟩ := ho0
 replace hB9 := hB9.mv (flat1_mv (hτ0 0))
 replace hP2 := PtrO.mv hP2 secret_Locks.objK (fun p hp => flat1_mv (hτ0 (1 + p))) (fun _ _ => by decide)
 replace h4 := h4.mv (flat1_mv (hτ0 4))
 replace h6 := h6.mv (flat1_mv (hτ0 5))
 replace h8 := h8.mv (flat1_mv (hτ0 6))
 refine ck Tryz.func22 [0, 1, 2] rfl rfl ?_
 refine ke_seq <| ke_region <| sr_go 1 rfl <| sr_fin [0, 1, 2] rfl <| ke_seq <| ke_region <| sr_go 1 rfl ?_
 obtain ⟨y10, hy11, hS⟩ := bS hS
 refine sr_cb Tryz.call42 (login_Logins_ready_ok _ (hg.fr hz hb) hb.bd (hz.fr hg hb) (τ0 := (fun _ => 1)) (fun _ => by decide) (by exact ⟨_, _, _, _, hB9, hP2, h4, h6, h8⟩) hy11) hb.bd ?_
 intro w12 t14
 replace hB9 := hB9.m t14
 replace hP2 := hP2.m secret_Locks.objK t14
 replace hb := hb.trans t14
 refine sr_go 1 rfl ?_
 obtain ⟨z17, hz19, hS⟩ := bS hS
 refine sr_join (m := 8) (C := fun (z : Bool) w1 => z17 = z ∧ ∃ ρ1, Tr (flat1 ρA) w12 (fun _ => false) ρ1 w1) (l' := fun z => [(17, .bool z)]) ?_ ?_
 ·rintro _ w20 ⟨rfl, ρ21, hj18⟩
  replace hb := hb.trans hj18
  refine sr_go 1 rfl <| sr_fin [6] rfl ?_
  cases hS
  exact ke_ret1 Tryz.func22 rfl rfl ⟨_, rfl, rfl, (hb.below (flat1_le _))⟩
 ·intro K16
  clear hS
  have hj18 : Tr (flat1 ρA) w12 (fun _ => false) (flat1 ρA) w12 := (Tr.refl hb.bd).weak (fun _ _ => rfl) rfl rfl
  rcases Bool.eq_false_or_eq_true y10 with hg15 | hg15
  ·have hS := iT hz19 hg15
   refine sr_setb 9 rfl hg15 <| sr_go 2 rfl ?_
   refine sr_eg rfl (ev_fieldAddr (i := 0) Tryz.underlying69 rfl Tryz.info64 rfl rfl) ?_
   refine sr_eg rfl (ev_load Tryz.isAgg64 rfl (hB9.cell rfl)) ?_
   refine sr_go 2 rfl ?_
   rcases ho24 : l_0.locks with _ | z23
   ·replace hS := optC_none hS ho24
    obtain rfl := hP2.none_ ho24
    obtain ⟨y36, hy37, hS⟩ := bS hS
    obtain rfl : y36 = false := (Option.some.inj hy37).symm
    refine sr_callg (b := true) (e := 9) rfl rfl rfl (vs := [.pointer none, str user_1, .int .i64 now_2]) rfl Tryz.call57 rfl (secret_Locks_Locked__nil_ok _ (hg.fr hz hb) (ρA := (flat1 ρA)) hb.bd (hz.fr hg hb) hy37) (by decide) ?_
    rintro _ w38 ⟨rfl, hbw39⟩
    have t40 := Tr.of_below hbw39 hb.bd
    replace hb := hb.trans t40
    replace hj18 := hj18.tw t40
    refine sr_go 1 rfl ?_
    exact sr_wk (K16 false _ ⟨(Option.some.inj hS).symm, _, hj18⟩)
   ·replace hS := optC_some hS ho24
    obtain ⟨g25, rfl, ⟨v26, lp28, hB30, h27, hR29⟩⟩ := hP2.some_ ho24
    obtain ⟨y31, hy32, hS⟩ := bS hS
    refine sr_callg (b := true) (e := 9) rfl rfl rfl (vs := [pT g25 0, str user_1, .int .i64 now_2]) rfl Tryz.call57 rfl (secret_Locks_Locked_ok _ (hg.fr hz hb) (ρA := (flat1 ρA)) hb.bd (hz.fr hg hb) (τ0 := (fun _ => 1)) (fun _ => by decide) (⟨_, _, hB30, h27, hR29⟩ : secret_Locks.O (fun _ => 1) (flat1 ρA) w12 g25 z23) hy32) (by decide) ?_
    rintro _ w33 ⟨rfl, hbw34⟩
    have t35 := Tr.of_below hbw34 hb.bd
    replace hb := hb.trans t35
    replace hj18 := hj18.tw t35
    refine sr_go 1 rfl ?_
    exact sr_wk (K16 y31 _ ⟨(Option.some.inj hS).symm, _, hj18⟩)
  ·have hS := iF hz19 hg15
   refine sr_setb 9 rfl hg15 <| sr_go 8 rfl ?_
   exact sr_wk (K16 false _ ⟨(Option.some.inj hS).symm, _, hj18⟩)
theorem law39_alive_ok (w0 : World) (hg : Gs w0) {ρA : Tags} (hbd : ∀ b, ρA b ≠ 0 → b < w0.heap.size) (hz : Gz ρA) {r : Bool} (hS : law39_alive = some r) :
  Calls Tryz.prog 10 #[] w0 (Ret (fun v w' => v = .bool r ∧ Below w0.heap.size w0 w')) := by
 unfold law39_alive at hS
 have hb := flat1_fr (ρ := ρA) (w := w0) hbd
 have hz := hz.flat1
 refine ck Tryz.func10 [] rfl rfl ?_
 refine ke_seq <| ke_region <| sr_go 1 rfl <| sr_fin [] rfl <| ke_seq <| ke_region ?_
 obtain ⟨y1, hy2, hS⟩ := bS hS
 refine sr_cl Tryz.call11 (law39_ann_ok _ (hg.fr hz hb) hb.bd (hz.fr hg hb) (o := 100) (by decide) hy2) ?_
 rintro v6 w3 ⟨ρ8, _, rfl, hP7, t5⟩
 replace hb := hb.trans t5
 rcases ho10 : y1 with _ | z9
 ·replace hS := optC_none hS ho10
  obtain rfl := hP7.none_ ho10
  obtain ⟨y555, hy556, hS⟩ := bS hS
  refine sr_cl Tryz.call11 (law39_ann_ok _ (hg.fr hz hb) hb.bd (hz.fr hg hb) (o := 100) (by decide) hy556) ?_
  rintro v560 w557 ⟨ρ562, _, rfl, hP561, t559⟩
  replace hb := hb.trans t559
  rcases ho564 : y555 with _ | z563
  ·replace hS := optC_none hS ho564
   obtain rfl := hP561.none_ ho564
   refine sr_go 2 rfl <| sr_fin [1, 2] rfl <| ke_seq <| ke_seq <| ke_region <| sr_go 1 rfl ?_
   refine sr_e (ev_peqT_nil Tryz.underlying25 rfl rfl) ?_
   refine sr_go 1 rfl ?_
   refine sr_pass (e := 33) rfl rfl rfl (by decide) ?_
   refine sr_pass (e := 33) rfl rfl rfl (by decide) ?_
   refine sr_go 1 rfl <| sr_fin [1, 2, 36] rfl ?_
   refine ke_cond rfl (fun _ => ?_) (fun h => by cases h)
   refine ke_seq <| ke_region <| sr_go 1 rfl <| sr_fin [0] rfl ?_
   cases hS
   exact ke_ret1 Tryz.func10 rfl rfl ⟨_, rfl, rfl, (hb.below (flat1_le _))⟩
  ·replace hS := optC_some hS ho564
   obtain ⟨g565, rfl, ⟨v566, v568, v570, v572, hB574, hP567, h569, h571, h573⟩⟩ := hP561.some_ ho564
   refine sr_go 2 rfl <| sr_fin [1, 2] rfl <| ke_seq <| ke_seq <| ke_region <| sr_go 1 rfl ?_
   refine sr_e (ev_peqT_nil Tryz.underlying25 rfl rfl) ?_
   refine sr_go 1 rfl ?_
   refine sr_pass (e := 33) rfl rfl rfl (by decide) ?_
   refine sr_pass (e := 33) rfl rfl rfl (by decide) ?_
   refine sr_go 1 rfl <| sr_fin [1, 2, 36] rfl ?_
   refine ke_cond rfl (fun _ => ?_) (fun h => by cases h)
   refine ke_seq <| ke_region <| sr_go 1 rfl <| sr_fin [0] rfl ?_
   cases hS
   exact ke_ret1 Tryz.func10 rfl rfl ⟨_, rfl, rfl, (hb.below (flat1_le _))⟩
 ·replace hS := optC_some hS ho10
  obtain ⟨g11, rfl, ⟨v12, v14, v16, v18, hB20, hP13, h15, h17, h19⟩⟩ := hP7.some_ ho10
  obtain ⟨y21, hy22, hS⟩ := bS hS
  refine sr_cl Tryz.call11 (law39_ann_ok _ (hg.fr hz hb) hb.bd (hz.fr hg hb) (o := 200) (by decide) hy22) ?_
  rintro v26 w23 ⟨ρ28, _, rfl, hP27, t25⟩
  replace hB20 := hB20.m t25
  replace hP13 := hP13.m secret_Locks.objK t25
  replace h15 := h15.m t25
  replace h17 := h17.m t25
  replace h19 := h19.m t25
  replace hb := hb.trans t25
  rcases ho30 : y21 with _ | z29
  ·replace hS := optC_none hS ho30
   obtain rfl := hP27.none_ ho30
   refine sr_go 2 rfl <| sr_fin [1, 2] rfl <| ke_seq <| ke_seq <| ke_region <| sr_go 1 rfl ?_
   refine sr_e (ev_peqT_some Tryz.underlying25 rfl rfl) ?_
   refine sr_go 2 rfl ?_
   refine sr_eg rfl (ev_peqT_nil Tryz.underlying25 rfl rfl) ?_
   refine sr_go 1 rfl <| sr_fin [1, 2, 36] rfl ?_
   refine ke_cond rfl (fun _ => ?_) (fun h => by cases h)
   refine ke_seq <| ke_region <| sr_go 1 rfl <| sr_fin [0] rfl ?_
   cases hS
   exact ke_ret1 Tryz.func10 rfl rfl ⟨_, rfl, rfl, (hb.below (flat1_le _))⟩
  ·replace hS := optC_some hS ho30
   obtain ⟨g31, rfl, ⟨v32, v34, v36, v38, hB40, hP33, h35, h37, h39⟩⟩ := hP27.some_ ho30
   refine sr_go 2 rfl <| sr_fin [1, 2] rfl <| ke_seq <| ke_seq <| ke_region <| sr_go 1 rfl ?_
   refine sr_e (ev_peqT_some Tryz.underlying25 rfl rfl) ?_
   refine sr_go 2 rfl ?_
   refine sr_eg rfl (ev_peqT_some Tryz.underlying25 rfl rfl) ?_
   refine sr_go 1 rfl <| sr_fin [1, 2, 36] rfl ?_
   refine ke_cond rfl (fun h => by cases h) (fun _ => ?_)
   refine ke_skip <| ke_seq <| ke_region <| sr_go 1 rfl ?_
   obtain ⟨y41, hy42, hS⟩ := bS hS
   refine sr_cl Tryz.call14 (login_Logins_Begin_ok _ (hg.fr hz hb) hb.bd (hz.fr hg hb) (o := 100) (by decide) (by exact ⟨_, _, _, _, hB20, hP13, h15, h17, h19⟩) hy42) ?_
   rintro _ w43 ⟨ρ55, rfl, ⟨v46, v48, v50, v52, hB54, hP47, h49, h51, h53⟩, t45⟩
   replace hb := hb.trans t45
   refine sr_go 1 rfl ?_
   obtain ⟨y56, hy57, hS⟩ := bS hS
   refine sr_cl Tryz.call14 (login_Logins_Begin_ok _ (hg.fr hz hb) hb.bd (hz.fr hg hb) (o := 100) (by decide) (by exact ⟨_, _, _, _, hB54, hP47, h49, h51, h53⟩) hy57) ?_
   rintro _ w58 ⟨ρ70, rfl, ⟨v61, v63, v65, v67, hB69, hP62, h64, h66, h68⟩, t60⟩
   replace hB40 := (hB40.m t45).m t60
   replace hP33 := (hP33.m secret_Locks.objK t45).m secret_Locks.objK t60
   replace h35 := (h35.m t45).m t60
   replace h37 := (h37.m t45).m t60
   replace h39 := (h39.m t45).m t60
   replace hb := hb.trans t60
   refine sr_go 2 rfl <| sr_fin [1, 2, 3, 4] rfl <| ke_seq <| ke_region <| sr_go 1 rfl ?_
   obtain ⟨y71, hy72, hS⟩ := bS hS
   refine sr_cl Tryz.call19 (login_Logins_Password_ok _ (hg.fr hz hb) hb.bd (hz.fr hg hb) (o := 100) (by decide) (by exact ⟨_, _, _, _, hB69, hP62, h64, h66, h68⟩) hy72) ?_
   rintro _ w73 ⟨ρ85, rfl, ⟨v76, v78, v80, v82, hB84, hP77, h79, h81, h83⟩, t75⟩
   replace hb := hb.trans t75
   refine sr_go 1 rfl ?_
   obtain ⟨y86, hy87, hS⟩ := bS hS
   refine sr_cl Tryz.call19 (login_Logins_Password_ok _ (hg.fr hz hb) hb.bd (hz.fr hg hb) (o := 100) (by decide) (by exact ⟨_, _, _, _, hB84, hP77, h79, h81, h83⟩) hy87) ?_
   rintro _ w88 ⟨ρ100, rfl, ⟨v91, v93, v95, v97, hB99, hP92, h94, h96, h98⟩, t90⟩
   replace hB40 := (hB40.m t75).m t90
   replace hP33 := (hP33.m secret_Locks.objK t75).m secret_Locks.objK t90
   replace h35 := (h35.m t75).m t90
   replace h37 := (h37.m t75).m t90
   replace h39 := (h39.m t75).m t90
   replace hb := hb.trans t90
   refine sr_go 1 rfl ?_
   obtain ⟨y101, hy102, hS⟩ := bS hS
   refine sr_cl Tryz.call19 (login_Logins_Password_ok _ (hg.fr hz hb) hb.bd (hz.fr hg hb) (o := 100) (by decide) (by exact ⟨_, _, _, _, hB99, hP92, h94, h96, h98⟩) hy102) ?_
   rintro _ w103 ⟨ρ115, rfl, ⟨v106, v108, v110, v112, hB114, hP107, h109, h111, h113⟩, t105⟩
   replace hb := hb.trans t105
   refine sr_go 3 rfl <| sr_fin [1, 2, 3, 4, 5, 6, 7] rfl <| ke_seq <| ke_region <| sr_go 1 rfl ?_
   obtain ⟨y116, hy117, hS⟩ := bS hS
   refine sr_cl Tryz.call17 (login_Logins_Finish_ok _ (hg.fr hz hb) hb.bd (hz.fr hg hb) (o := 100) (by decide) (by exact ⟨_, _, _, _, hB114, hP107, h109, h111, h113⟩) hy117) ?_
   rintro _ w118 ⟨ρ132, v121, rfl, h122, ⟨v123, v125, v127, v129, hB131, hP124, h126, h128, h130⟩, t120⟩
   replace hB40 := (hB40.m t105).m t120
   replace hP33 := (hP33.m secret_Locks.objK t105).m secret_Locks.objK t120
   replace h35 := (h35.m t105).m t120
   replace h37 := (h37.m t105).m t120
   replace h39 := (h39.m t105).m t120
   replace hb := hb.trans t120
   refine sr_go 7 rfl <| sr_fin [1, 2, 3, 4, 5, 6, 7, 10] rfl <| ke_seq <| ke_region <| sr_go 1 rfl ?_
   obtain ⟨y133, hy134, hS⟩ := bS hS
   refine sr_cl Tryz.call17 (login_Logins_Finish_ok _ (hg.fr hz hb) hb.bd (hz.fr hg hb) (o := 100) (by decide) (by exact ⟨_, _, _, _, hB131, hP124, h126, h128, h130⟩) hy134) ?_
   rintro _ w135 ⟨ρ149, v138, rfl, h139, ⟨v140, v142, v144, v146, hB148, hP141, h143, h145, h147⟩, t137⟩
   replace hb := hb.trans t137
   refine sr_go 7 rfl <| sr_fin [1, 2, 3, 4, 5, 6, 7, 10, 11, 12, 13] rfl <| ke_seq <| ke_region <| sr_go 1 rfl ?_
   obtain ⟨y150, hy151, hS⟩ := bS hS
   refine sr_cl Tryz.call17 (login_Logins_Finish_ok _ (hg.fr hz hb) hb.bd (hz.fr hg hb) (o := 100) (by decide) (by exact ⟨_, _, _, _, hB148, hP141, h143, h145, h147⟩) hy151) ?_
   rintro _ w152 ⟨ρ166, v155, rfl, h156, ⟨v157, v159, v161, v163, hB165, hP158, h160, h162, h164⟩, t154⟩
   replace h139 := h139.mv t154.rd
   replace hB40 := (hB40.m t137).m t154
   replace hP33 := (hP33.m secret_Locks.objK t137).m secret_Locks.objK t154
   replace h35 := (h35.m t137).m t154
   replace h37 := (h37.m t137).m t154
   replace h39 := (h39.m t137).m t154
   replace hb := hb.trans t154
   refine sr_go 7 rfl <| sr_fin [1, 2, 3, 4, 5, 6, 7, 10, 11, 12, 13, 16] rfl <| ke_seq <| ke_region <| sr_go 1 rfl ?_
   obtain ⟨y167, hy168, hS⟩ := bS hS
   refine sr_cl Tryz.call14 (login_Logins_Begin_ok _ (hg.fr hz hb) hb.bd (hz.fr hg hb) (o := 200) (by decide) (by exact ⟨_, _, _, _, hB40, hP33, h35, h37, h39⟩) hy168) ?_
   rintro _ w169 ⟨ρ181, rfl, ⟨v172, v174, v176, v178, hB180, hP173, h175, h177, h179⟩, t171⟩
   replace h139 := h139.mv t171.rd
   replace hb := hb.trans t171
   refine sr_fin [1, 2, 3, 4, 5, 6, 7, 10, 11, 12, 13, 16] rfl <| ke_seq <| ke_region <| sr_go 1 rfl ?_
   obtain ⟨y182, hy183, hS⟩ := bS hS
   refine sr_cl Tryz.call14 (login_Logins_Begin_ok _ (hg.fr hz hb) hb.bd (hz.fr hg hb) (o := 200) (by decide) (by exact ⟨_, _, _, _, hB180, hP173, h175, h177, h179⟩) hy183) ?_
   rintro _ w184 ⟨ρ196, rfl, ⟨v187, v189, v191, v193, hB195, hP188, h190, h192, h194⟩, t186⟩
   replace h139 := h139.mv t186.rd
   replace hB165 := (hB165.m t171).m t186
   replace hP158 := (hP158.m secret_Locks.objK t171).m secret_Locks.objK t186
   replace h160 := (h160.m t171).m t186
   replace h162 := (h162.m t171).m t186
   replace h164 := (h164.m t171).m t186
   replace hb := hb.trans t186
   refine sr_fin [1, 2, 3, 4, 5, 6, 7, 10, 11, 12, 13, 16] rfl <| ke_seq <| ke_region <| sr_go 1 rfl ?_
   obtain ⟨y197, hy198, hS⟩ := bS hS
   refine sr_cl Tryz.call19 (login_Logins_Password_ok _ (hg.fr hz hb) hb.bd (hz.fr hg hb) (o := 200) (by decide) (by exact ⟨_, _, _, _, hB195, hP188, h190, h192, h194⟩) hy198) ?_
   rintro _ w199 ⟨ρ211, rfl, ⟨v202, v204, v206, v208, hB210, hP203, h205, h207, h209⟩, t201⟩
   replace h139 := h139.mv t201.rd
   replace hb := hb.trans t201
   refine sr_go 1 rfl ?_
   obtain ⟨y212, hy213, hS⟩ := bS hS
   refine sr_cl Tryz.call19 (login_Logins_Password_ok _ (hg.fr hz hb) hb.bd (hz.fr hg hb) (o := 200) (by decide) (by exact ⟨_, _, _, _, hB210, hP203, h205, h207, h209⟩) hy213) ?_
   rintro _ w214 ⟨ρ226, rfl, ⟨v217, v219, v221, v223, hB225, hP218, h220, h222, h224⟩, t216⟩
   replace h139 := h139.mv t216.rd
   replace hB165 := (hB165.m t201).m t216
   replace hP158 := (hP158.m secret_Locks.objK t201).m secret_Locks.objK t216
   replace h160 := (h160.m t201).m t216
   replace h162 := (h162.m t201).m t216
   replace h164 := (h164.m t201).m t216
   replace hb := hb.trans t216
   refine sr_go 1 rfl ?_
   obtain ⟨y227, hy228, hS⟩ := bS hS
   refine sr_cl Tryz.call19 (login_Logins_Password_ok _ (hg.fr hz hb) hb.bd (hz.fr hg hb) (o := 200) (by decide) (by exact ⟨_, _, _, _, hB225, hP218, h220, h222, h224⟩) hy228) ?_
   rintro _ w229 ⟨ρ241, rfl, ⟨v232, v234, v236, v238, hB240, hP233, h235, h237, h239⟩, t231⟩
   replace h139 := h139.mv t231.rd
   replace hb := hb.trans t231
   refine sr_go 3 rfl <| sr_fin [1, 2, 3, 4, 5, 6, 7, 10, 11, 12, 13, 16, 17, 18, 19] rfl <| ke_seq <| ke_region ?_
   obtain ⟨y242, hy243, hS⟩ := bS hS
   refine sr_cb Tryz.call12 (otp_Code_ok _ (hg.fr hz hb) hy243) hb.bd ?_
   intro w244 t246
   replace h139 := h139.mv t246.rd
   replace hB165 := (hB165.m t231).m t246
   replace hP158 := (hP158.m secret_Locks.objK t231).m secret_Locks.objK t246
   replace h160 := (h160.m t231).m t246
   replace h162 := (h162.m t231).m t246
   replace h164 := (h164.m t231).m t246
   replace hb := hb.trans t246
   refine sr_go 5 rfl <| sr_fin [1, 2, 3, 4, 5, 6, 7, 10, 11, 12, 13, 16, 17, 18, 19, 20, 21] rfl <| ke_seq <| ke_region <| sr_go 1 rfl ?_
   obtain ⟨y247, hy248, hS⟩ := bS hS
   refine sr_cl Tryz.call14 (login_Logins_Begin_ok _ (hg.fr hz hb) hb.bd (hz.fr hg hb) (o := 100) (by decide) (by exact ⟨_, _, _, _, hB165, hP158, h160, h162, h164⟩) hy248) ?_
   rintro _ w249 ⟨ρ261, rfl, ⟨v252, v254, v256, v258, hB260, hP253, h255, h257, h259⟩, t251⟩
   replace h139 := h139.mv t251.rd
   replace hB240 := (hB240.m t246).m t251
   replace hP233 := (hP233.m secret_Locks.objK t246).m secret_Locks.objK t251
   replace h235 := (h235.m t246).m t251
   replace h237 := (h237.m t246).m t251
   replace h239 := (h239.m t246).m t251
   replace hb := hb.trans t251
   refine sr_go 1 rfl <| sr_fin [1, 2, 3, 4, 5, 6, 7, 10, 11, 12, 13, 16, 17, 18, 19, 20, 21, 22] rfl <| ke_seq <| ke_region <| sr_go 2 rfl ?_
   obtain ⟨y262, hy263, hS⟩ := bS hS
   refine sr_cl Tryz.call15 (login_Logins_Code_ok _ (hg.fr hz hb) hb.bd (hz.fr hg hb) (o := 100) (by decide) (by exact ⟨_, _, _, _, hB260, hP253, h255, h257, h259⟩) hy263) ?_
   rintro _ w264 ⟨ρ276, rfl, ⟨v267, v269, v271, v273, hB275, hP268, h270, h272, h274⟩, t266⟩
   replace h139 := h139.mv t266.rd
   replace hb := hb.trans t266
   refine sr_go 1 rfl <| sr_fin [1, 2, 3, 4, 5, 6, 7, 10, 11, 12, 13, 16, 17, 18, 19, 20, 21, 22, 23] rfl <| ke_seq <| ke_region <| sr_go 1 rfl ?_
   obtain ⟨y277, hy278, hS⟩ := bS hS
   refine sr_cl Tryz.call14 (login_Logins_Begin_ok _ (hg.fr hz hb) hb.bd (hz.fr hg hb) (o := 100) (by decide) (by exact ⟨_, _, _, _, hB275, hP268, h270, h272, h274⟩) hy278) ?_
   rintro _ w279 ⟨ρ291, rfl, ⟨v282, v284, v286, v288, hB290, hP283, h285, h287, h289⟩, t281⟩
   replace h139 := h139.mv t281.rd
   replace hB240 := (hB240.m t266).m t281
   replace hP233 := (hP233.m secret_Locks.objK t266).m secret_Locks.objK t281
   replace h235 := (h235.m t266).m t281
   replace h237 := (h237.m t266).m t281
   replace h239 := (h239.m t266).m t281
   replace hb := hb.trans t281
   refine sr_fin [1, 2, 3, 4, 5, 6, 7, 10, 11, 12, 13, 16, 17, 18, 19, 20, 21, 22, 23] rfl <| ke_seq <| ke_region ?_
   obtain ⟨y292, hy293, hS⟩ := bS hS
   refine sr_cb Tryz.call12 (otp_Code_ok _ (hg.fr hz hb) hy293) hb.bd ?_
   intro w294 t296
   replace h139 := h139.mv t296.rd
   replace hb := hb.trans t296
   refine sr_go 5 rfl <| sr_fin [1, 2, 3, 4, 5, 6, 7, 10, 11, 12, 13, 16, 17, 18, 19, 20, 21, 22, 23, 24] rfl <| ke_seq <| ke_region ?_
   obtain ⟨y297, hy298, hS⟩ := bS hS
   refine sr_cb Tryz.call12 (otp_Code_ok _ (hg.fr hz hb) hy298) hb.bd ?_
   intro w299 t301
   replace h139 := h139.mv t301.rd
   replace hB240 := (hB240.m t296).m t301
   replace hP233 := (hP233.m secret_Locks.objK t296).m secret_Locks.objK t301
   replace h235 := (h235.m t296).m t301
   replace h237 := (h237.m t296).m t301
   replace h239 := (h239.m t296).m t301
   replace hB290 := (hB290.m t296).m t301
   replace hP283 := (hP283.m secret_Locks.objK t296).m secret_Locks.objK t301
   replace h285 := (h285.m t296).m t301
   replace h287 := (h287.m t296).m t301
   replace h289 := (h289.m t296).m t301
   replace hb := hb.trans t301
   refine sr_go 5 rfl <| sr_fin [1, 2, 3, 4, 5, 6, 7, 10, 11, 12, 13, 16, 17, 18, 19, 20, 21, 22, 23, 24, 26] rfl <| ke_seq <| ke_region <| sr_go 2 rfl ?_
   obtain ⟨y302, hy303, hS⟩ := bS hS
   refine sr_cl Tryz.call15 (login_Logins_Code_ok _ (hg.fr hz hb) hb.bd (hz.fr hg hb) (o := 100) (by decide) (by exact ⟨_, _, _, _, hB290, hP283, h285, h287, h289⟩) hy303) ?_
   rintro _ w304 ⟨ρ316, rfl, ⟨v307, v309, v311, v313, hB315, hP308, h310, h312, h314⟩, t306⟩
   replace h139 := h139.mv t306.rd
   replace hB240 := hB240.m t306
   replace hP233 := hP233.m secret_Locks.objK t306
   replace h235 := h235.m t306
   replace h237 := h237.m t306
   replace h239 := h239.m t306
   replace hb := hb.trans t306
   refine sr_go 1 rfl <| sr_fin [2, 3, 4, 5, 6, 7, 10, 11, 12, 13, 16, 17, 18, 19, 20, 21, 22, 23, 24, 26, 28] rfl <| ke_seq <| ke_region <| sr_go 3 rfl ?_
   refine sr_join (m := 13) (C := fun (x : Bool) w1 => x = ((y302.1 == 11) || ((y302.1 == 0) && ((y292.1 == y242.1) || (y297.1 == y242.1)))) ∧ w304 = w1) (l' := fun x => [(2, pT g31 0), (3, .int .i64 y41.1), (4, .int .i64 y56.1), (5, .int .i64 y71.1), (6, .int .i64 y86.1), (7, .int .i64 y101.1), (10, .int .i64 y116.2.2.1), (11, str y133.1), (12, v138), (13, .int .i64 y133.2.2.1), (16, .int .i64 y150.2.2.1), (17, .int .i64 y197.1), (18, .int .i64 y212.1), (19, .int .i64 y227.1), (21, .int .i64 y242.2), (22, .int .i64 y247.1), (23, .int .i64 y262.1), (112, .bool x)]) ?_ ?_
   ·rintro _ _ ⟨rfl, rfl⟩
    refine sr_go 1 rfl ?_
    refine sr_join (m := 3) (C := fun (x : Bool) w1 => x = (((y302.1 == 11) || ((y302.1 == 0) && ((y292.1 == y242.1) || (y297.1 == y242.1)))) && (y41.1 == 0)) ∧ w304 = w1) (l' := fun x => [(2, pT g31 0), (4, .int .i64 y56.1), (5, .int .i64 y71.1), (6, .int .i64 y86.1), (7, .int .i64 y101.1), (10, .int .i64 y116.2.2.1), (11, str y133.1), (12, v138), (13, .int .i64 y133.2.2.1), (16, .int .i64 y150.2.2.1), (17, .int .i64 y197.1), (18, .int .i64 y212.1), (19, .int .i64 y227.1), (21, .int .i64 y242.2), (22, .int .i64 y247.1), (23, .int .i64 y262.1), (116, .bool x)]) ?_ ?_
    ·rintro _ _ ⟨rfl, rfl⟩
     refine sr_go 1 rfl ?_
     refine sr_join (m := 3) (C := fun (x : Bool) w1 => x = ((((y302.1 == 11) || ((y302.1 == 0) && ((y292.1 == y242.1) || (y297.1 == y242.1)))) && (y41.1 == 0)) && (y56.1 == 7)) ∧ w304 = w1) (l' := fun x => [(2, pT g31 0), (5, .int .i64 y71.1), (6, .int .i64 y86.1), (7, .int .i64 y101.1), (10, .int .i64 y116.2.2.1), (11, str y133.1), (12, v138), (13, .int .i64 y133.2.2.1), (16, .int .i64 y150.2.2.1), (17, .int .i64 y197.1), (18, .int .i64 y212.1), (19, .int .i64 y227.1), (21, .int .i64 y242.2), (22, .int .i64 y247.1), (23, .int .i64 y262.1), (120, .bool x)]) ?_ ?_
     ·rintro _ _ ⟨rfl, rfl⟩
      refine sr_go 1 rfl ?_
      refine sr_join (m := 3) (C := fun (x : Bool) w1 => x = (((((y302.1 == 11) || ((y302.1 == 0) && ((y292.1 == y242.1) || (y297.1 == y242.1)))) && (y41.1 == 0)) && (y56.1 == 7)) && (y71.1 == 11)) ∧ w304 = w1) (l' := fun x => [(2, pT g31 0), (6, .int .i64 y86.1), (7, .int .i64 y101.1), (10, .int .i64 y116.2.2.1), (11, str y133.1), (12, v138), (13, .int .i64 y133.2.2.1), (16, .int .i64 y150.2.2.1), (17, .int .i64 y197.1), (18, .int .i64 y212.1), (19, .int .i64 y227.1), (21, .int .i64 y242.2), (22, .int .i64 y247.1), (23, .int .i64 y262.1), (124, .bool x)]) ?_ ?_
      ·rintro _ _ ⟨rfl, rfl⟩
       refine sr_go 1 rfl ?_
       refine sr_join (m := 3) (C := fun (x : Bool) w1 => x = ((((((y302.1 == 11) || ((y302.1 == 0) && ((y292.1 == y242.1) || (y297.1 == y242.1)))) && (y41.1 == 0)) && (y56.1 == 7)) && (y71.1 == 11)) && (y86.1 == 0)) ∧ w304 = w1) (l' := fun x => [(2, pT g31 0), (7, .int .i64 y101.1), (10, .int .i64 y116.2.2.1), (11, str y133.1), (12, v138), (13, .int .i64 y133.2.2.1), (16, .int .i64 y150.2.2.1), (17, .int .i64 y197.1), (18, .int .i64 y212.1), (19, .int .i64 y227.1), (21, .int .i64 y242.2), (22, .int .i64 y247.1), (23, .int .i64 y262.1), (128, .bool x)]) ?_ ?_
       ·rintro _ _ ⟨rfl, rfl⟩
        refine sr_go 1 rfl ?_
        refine sr_join (m := 3) (C := fun (x : Bool) w1 => x = (((((((y302.1 == 11) || ((y302.1 == 0) && ((y292.1 == y242.1) || (y297.1 == y242.1)))) && (y41.1 == 0)) && (y56.1 == 7)) && (y71.1 == 11)) && (y86.1 == 0)) && (y101.1 == 12)) ∧ w304 = w1) (l' := fun x => [(2, pT g31 0), (10, .int .i64 y116.2.2.1), (11, str y133.1), (12, v138), (13, .int .i64 y133.2.2.1), (16, .int .i64 y150.2.2.1), (17, .int .i64 y197.1), (18, .int .i64 y212.1), (19, .int .i64 y227.1), (21, .int .i64 y242.2), (22, .int .i64 y247.1), (23, .int .i64 y262.1), (132, .bool x)]) ?_ ?_
        ·rintro _ _ ⟨rfl, rfl⟩
         refine sr_go 1 rfl ?_
         refine sr_join (m := 3) (C := fun (x : Bool) w1 => x = ((((((((y302.1 == 11) || ((y302.1 == 0) && ((y292.1 == y242.1) || (y297.1 == y242.1)))) && (y41.1 == 0)) && (y56.1 == 7)) && (y71.1 == 11)) && (y86.1 == 0)) && (y101.1 == 12)) && (y116.2.2.1 == 21)) ∧ w304 = w1) (l' := fun x => [(2, pT g31 0), (11, str y133.1), (12, v138), (13, .int .i64 y133.2.2.1), (16, .int .i64 y150.2.2.1), (17, .int .i64 y197.1), (18, .int .i64 y212.1), (19, .int .i64 y227.1), (21, .int .i64 y242.2), (22, .int .i64 y247.1), (23, .int .i64 y262.1), (136, .bool x)]) ?_ ?_
         ·rintro _ _ ⟨rfl, rfl⟩
          refine sr_go 1 rfl ?_
          refine sr_join (m := 3) (C := fun (x : Bool) w1 => x = (((((((((y302.1 == 11) || ((y302.1 == 0) && ((y292.1 == y242.1) || (y297.1 == y242.1)))) && (y41.1 == 0)) && (y56.1 == 7)) && (y71.1 == 11)) && (y86.1 == 0)) && (y101.1 == 12)) && (y116.2.2.1 == 21)) && (y133.2.2.1 == 0)) ∧ w304 = w1) (l' := fun x => [(2, pT g31 0), (11, str y133.1), (12, v138), (16, .int .i64 y150.2.2.1), (17, .int .i64 y197.1), (18, .int .i64 y212.1), (19, .int .i64 y227.1), (21, .int .i64 y242.2), (22, .int .i64 y247.1), (23, .int .i64 y262.1), (140, .bool x)]) ?_ ?_
          ·rintro _ _ ⟨rfl, rfl⟩
           refine sr_go 1 rfl ?_
           refine sr_join (m := 3) (C := fun (x : Bool) w1 => x = ((((((((((y302.1 == 11) || ((y302.1 == 0) && ((y292.1 == y242.1) || (y297.1 == y242.1)))) && (y41.1 == 0)) && (y56.1 == 7)) && (y71.1 == 11)) && (y86.1 == 0)) && (y101.1 == 12)) && (y116.2.2.1 == 21)) && (y133.2.2.1 == 0)) && (y133.1 == ([97, 110, 110]))) ∧ w304 = w1) (l' := fun x => [(2, pT g31 0), (12, v138), (16, .int .i64 y150.2.2.1), (17, .int .i64 y197.1), (18, .int .i64 y212.1), (19, .int .i64 y227.1), (21, .int .i64 y242.2), (22, .int .i64 y247.1), (23, .int .i64 y262.1), (144, .bool x)]) ?_ ?_
           ·rintro _ _ ⟨rfl, rfl⟩
            refine sr_go 1 rfl ?_
            refine sr_join (m := 4) (C := fun (x : Bool) w1 => x = (((((((((((y302.1 == 11) || ((y302.1 == 0) && ((y292.1 == y242.1) || (y297.1 == y242.1)))) && (y41.1 == 0)) && (y56.1 == 7)) && (y71.1 == 11)) && (y86.1 == 0)) && (y101.1 == 12)) && (y116.2.2.1 == 21)) && (y133.2.2.1 == 0)) && (y133.1 == ([97, 110, 110]))) && ((y133.2.1.length : Int) == 1)) ∧ w304 = w1) (l' := fun x => [(2, pT g31 0), (12, v138), (16, .int .i64 y150.2.2.1), (17, .int .i64 y197.1), (18, .int .i64 y212.1), (19, .int .i64 y227.1), (21, .int .i64 y242.2), (22, .int .i64 y247.1), (23, .int .i64 y262.1), (149, .bool x)]) ?_ ?_
            ·rintro _ _ ⟨rfl, rfl⟩
             refine sr_go 1 rfl ?_
             obtain ⟨z415, hz417, hS⟩ := bS hS
             refine sr_join (m := 6) (C := fun (z : Bool) w1 => z415 = z ∧ ∃ ρ1, Tr ρ316 w304 (fun _ => false) ρ1 w1) (l' := fun z => [(2, pT g31 0), (16, .int .i64 y150.2.2.1), (17, .int .i64 y197.1), (18, .int .i64 y212.1), (19, .int .i64 y227.1), (21, .int .i64 y242.2), (22, .int .i64 y247.1), (23, .int .i64 y262.1), (156, .bool z)]) ?_ ?_
             ·rintro _ w418 ⟨rfl, ρ419, hj416⟩
              replace hB240 := hB240.m hj416
              replace hP233 := hP233.m secret_Locks.objK hj416
              replace h235 := h235.m hj416
              replace h237 := h237.m hj416
              replace h239 := h239.m hj416
              replace hb := hb.trans hj416
              refine sr_go 1 rfl ?_
              refine sr_join (m := 3) (C := fun (x : Bool) w1 => x = (z415 && (y150.2.2.1 == 6)) ∧ w418 = w1) (l' := fun x => [(2, pT g31 0), (17, .int .i64 y197.1), (18, .int .i64 y212.1), (19, .int .i64 y227.1), (21, .int .i64 y242.2), (22, .int .i64 y247.1), (23, .int .i64 y262.1), (160, .bool x)]) ?_ ?_
              ·rintro _ _ ⟨rfl, rfl⟩
               refine sr_go 1 rfl ?_
               refine sr_join (m := 3) (C := fun (x : Bool) w1 => x = ((z415 && (y150.2.2.1 == 6)) && (y197.1 == 11)) ∧ w418 = w1) (l' := fun x => [(2, pT g31 0), (18, .int .i64 y212.1), (19, .int .i64 y227.1), (21, .int .i64 y242.2), (22, .int .i64 y247.1), (23, .int .i64 y262.1), (164, .bool x)]) ?_ ?_
               ·rintro _ _ ⟨rfl, rfl⟩
                refine sr_go 1 rfl ?_
                refine sr_join (m := 3) (C := fun (x : Bool) w1 => x = (((z415 && (y150.2.2.1 == 6)) && (y197.1 == 11)) && (y212.1 == 11)) ∧ w418 = w1) (l' := fun x => [(2, pT g31 0), (19, .int .i64 y227.1), (21, .int .i64 y242.2), (22, .int .i64 y247.1), (23, .int .i64 y262.1), (168, .bool x)]) ?_ ?_
                ·rintro _ _ ⟨rfl, rfl⟩
                 refine sr_go 1 rfl ?_
                 refine sr_join (m := 3) (C := fun (x : Bool) w1 => x = ((((z415 && (y150.2.2.1 == 6)) && (y197.1 == 11)) && (y212.1 == 11)) && (y227.1 == 22)) ∧ w418 = w1) (l' := fun x => [(2, pT g31 0), (21, .int .i64 y242.2), (22, .int .i64 y247.1), (23, .int .i64 y262.1), (172, .bool x)]) ?_ ?_
                 ·rintro _ _ ⟨rfl, rfl⟩
                  refine sr_go 1 rfl ?_
                  refine sr_join (m := 3) (C := fun (x : Bool) w1 => x = (((((z415 && (y150.2.2.1 == 6)) && (y197.1 == 11)) && (y212.1 == 11)) && (y227.1 == 22)) && (y242.2 == 0)) ∧ w418 = w1) (l' := fun x => [(2, pT g31 0), (22, .int .i64 y247.1), (23, .int .i64 y262.1), (176, .bool x)]) ?_ ?_
                  ·rintro _ _ ⟨rfl, rfl⟩
                   refine sr_go 1 rfl ?_
                   refine sr_join (m := 3) (C := fun (x : Bool) w1 => x = ((((((z415 && (y150.2.2.1 == 6)) && (y197.1 == 11)) && (y212.1 == 11)) && (y227.1 == 22)) && (y242.2 == 0)) && (y247.1 == 0)) ∧ w418 = w1) (l' := fun x => [(2, pT g31 0), (23, .int .i64 y262.1), (180, .bool x)]) ?_ ?_
                   ·rintro _ _ ⟨rfl, rfl⟩
                    refine sr_go 1 rfl ?_
                    refine sr_join (m := 3) (C := fun (x : Bool) w1 => x = (((((((z415 && (y150.2.2.1 == 6)) && (y197.1 == 11)) && (y212.1 == 11)) && (y227.1 == 22)) && (y242.2 == 0)) && (y247.1 == 0)) && (y262.1 == 0)) ∧ w418 = w1) (l' := fun x => [(2, pT g31 0), (184, .bool x)]) ?_ ?_
                    ·rintro _ _ ⟨rfl, rfl⟩
                     refine sr_go 1 rfl ?_
                     obtain ⟨z486, hz488, hS⟩ := bS hS
                     refine sr_join (m := 4) (C := fun (z : Bool × login_Logins) w1 => z486 = z ∧ ∃ ρ1, login_Logins.O (fun p => 200 + p) ρ1 w1 g31 z.2 ∧ Tr ρ419 w418 (fun t => ([200, 201, 202, 203, 204, 205, 206] : List Nat).contains t) ρ1 w1) (l' := fun z => [(2, pT g31 0), (189, .bool z.1)]) ?_ ?_
                     ·rintro _ w489 ⟨rfl, ρ490, ⟨v507, v509, v511, v513, hB515, hP508, h510, h512, h514⟩, hj487⟩
                      replace hb := hb.trans hj487
                      refine sr_go 1 rfl ?_
                      obtain ⟨z518, hz520, hS⟩ := bS hS
                      refine sr_join (m := 4) (C := fun (z : Bool) w1 => z518 = z ∧ ∃ ρ1, Tr ρ490 w489 (fun _ => false) ρ1 w1) (l' := fun z => [(2, pT g31 0), (194, .bool z)]) ?_ ?_
                      ·rintro _ w521 ⟨rfl, ρ522, hj519⟩
                       replace hB515 := hB515.m hj519
                       replace hP508 := hP508.m secret_Locks.objK hj519
                       replace h510 := h510.m hj519
                       replace h512 := h512.m hj519
                       replace h514 := h514.m hj519
                       replace hb := hb.trans hj519
                       refine sr_go 1 rfl ?_
                       obtain ⟨z531, hz533, hS⟩ := bS hS
                       refine sr_join (m := 4) (C := fun (z : Bool) w1 => z531 = z ∧ ∃ ρ1, Tr ρ522 w521 (fun _ => false) ρ1 w1) (l' := fun z => [(2, pT g31 0), (199, .bool z)]) ?_ ?_
                       ·rintro _ w534 ⟨rfl, ρ535, hj532⟩
                        replace hB515 := hB515.m hj532
                        replace hP508 := hP508.m secret_Locks.objK hj532
                        replace h510 := h510.m hj532
                        replace h512 := h512.m hj532
                        replace h514 := h514.m hj532
                        replace hb := hb.trans hj532
                        refine sr_go 1 rfl ?_
                        obtain ⟨z544, hz546, hS⟩ := bS hS
                        refine sr_join (m := 3) (C := fun (z : Bool) w1 => z544 = z ∧ ∃ ρ1, Tr ρ535 w534 (fun _ => false) ρ1 w1) (l' := fun z => [(203, .bool z)]) ?_ ?_
                        ·rintro _ w547 ⟨rfl, ρ548, hj545⟩
                         replace hb := hb.trans hj545
                         refine sr_go 1 rfl <| sr_fin [0] rfl ?_
                         cases hS
                         exact ke_ret1 Tryz.func10 rfl rfl ⟨_, rfl, rfl, (hb.below (flat1_le _))⟩
                        ·intro K543
                         clear hS
                         have hj545 : Tr ρ535 w534 (fun _ => false) ρ535 w534 := (Tr.refl hb.bd).weak (fun _ _ => rfl) rfl rfl
                         rcases Bool.eq_false_or_eq_true z531 with hg542 | hg542
                         ·have hS := iT hz546 hg542
                          refine sr_setb 200 rfl hg542 <| sr_go 1 rfl ?_
                          obtain ⟨y550, hy551, hS⟩ := bS hS
                          refine sr_callg (b := true) (e := 200) rfl rfl rfl (vs := [pT g31 0, str ([97, 110, 110]), .int .i64 0]) rfl Tryz.call22 rfl (login_Logins_Locked_ok _ (hg.fr hz hb) (ρA := ρ535) hb.bd (hz.fr hg hb) (τ0 := (fun p => 200 + p)) (fun p => Nat.le_add_right_of_le (by decide)) (⟨_, _, _, _, hB515, hP508, h510, h512, h514⟩ : login_Logins.O (fun p => 200 + p) ρ535 w534 g31 z486.2) hy551) (by decide) ?_
                          rintro _ w552 ⟨rfl, hbw553⟩
                          have t554 := Tr.of_below hbw553 hb.bd
                          replace hb := hb.trans t554
                          replace hj545 := hj545.tw t554
                          refine sr_go 1 rfl ?_
                          exact sr_wk (K543 y550 _ ⟨(Option.some.inj hS).symm, _, hj545⟩)
                         ·have hS := iF hz546 hg542
                          refine sr_setb 200 rfl hg542 <| sr_go 3 rfl ?_
                          exact sr_wk (K543 false _ ⟨(Option.some.inj hS).symm, _, hj545⟩)
                       ·intro K530
                        clear hS
                        have hj532 : Tr ρ522 w521 (fun _ => false) ρ522 w521 := (Tr.refl hb.bd).weak (fun _ _ => rfl) rfl rfl
                        rcases Bool.eq_false_or_eq_true z518 with hg529 | hg529
                        ·have hS := iT hz533 hg529
                         refine sr_setb 195 rfl hg529 <| sr_go 1 rfl ?_
                         obtain ⟨y537, hy538, hS⟩ := bS hS
                         refine sr_callg (b := true) (e := 195) rfl rfl rfl (vs := [pT g31 0, .int .i64 300]) rfl Tryz.call37 rfl (login_Logins_Open_ok _ (hg.fr hz hb) (ρA := ρ522) hb.bd (hz.fr hg hb) (τ0 := (fun p => 200 + p)) (fun p => Nat.le_add_right_of_le (by decide)) (⟨_, _, _, _, hB515, hP508, h510, h512, h514⟩ : login_Logins.O (fun p => 200 + p) ρ522 w521 g31 z486.2) hy538) (by decide) ?_
                         rintro _ w539 ⟨rfl, hbw540⟩
                         have t541 := Tr.of_below hbw540 hb.bd
                         replace hb := hb.trans t541
                         replace hj532 := hj532.tw t541
                         refine sr_go 2 rfl ?_
                         exact sr_wk (K530 (y537 == 0) _ ⟨(Option.some.inj hS).symm, _, hj532⟩)
                        ·have hS := iF hz533 hg529
                         refine sr_setb 195 rfl hg529 <| sr_go 4 rfl ?_
                         exact sr_wk (K530 false _ ⟨(Option.some.inj hS).symm, _, hj532⟩)
                      ·intro K517
                       clear hS
                       have hj519 : Tr ρ490 w489 (fun _ => false) ρ490 w489 := (Tr.refl hb.bd).weak (fun _ _ => rfl) rfl rfl
                       rcases Bool.eq_false_or_eq_true z486.1 with hg516 | hg516
                       ·have hS := iT hz520 hg516
                        refine sr_setb 190 rfl hg516 <| sr_go 1 rfl ?_
                        obtain ⟨y524, hy525, hS⟩ := bS hS
                        refine sr_callg (b := true) (e := 190) rfl rfl rfl (vs := [pT g31 0, .int .i64 0]) rfl Tryz.call37 rfl (login_Logins_Open_ok _ (hg.fr hz hb) (ρA := ρ490) hb.bd (hz.fr hg hb) (τ0 := (fun p => 200 + p)) (fun p => Nat.le_add_right_of_le (by decide)) (⟨_, _, _, _, hB515, hP508, h510, h512, h514⟩ : login_Logins.O (fun p => 200 + p) ρ490 w489 g31 z486.2) hy525) (by decide) ?_
                        rintro _ w526 ⟨rfl, hbw527⟩
                        have t528 := Tr.of_below hbw527 hb.bd
                        replace hb := hb.trans t528
                        replace hj519 := hj519.tw t528
                        refine sr_go 2 rfl ?_
                        exact sr_wk (K517 (y524 == 2) _ ⟨(Option.some.inj hS).symm, _, hj519⟩)
                       ·have hS := iF hz520 hg516
                        refine sr_setb 190 rfl hg516 <| sr_go 4 rfl ?_
                        exact sr_wk (K517 false _ ⟨(Option.some.inj hS).symm, _, hj519⟩)
                     ·intro K485
                      clear hS
                      have hj487 : Tr ρ419 w418 (fun t => ([200, 201, 202, 203, 204, 205, 206] : List Nat).contains t) ρ419 w418 := (Tr.refl hb.bd).weak (fun _ _ => rfl) rfl rfl
                      rcases Bool.eq_false_or_eq_true (((((((z415 && (y150.2.2.1 == 6)) && (y197.1 == 11)) && (y212.1 == 11)) && (y227.1 == 22)) && (y242.2 == 0)) && (y247.1 == 0)) && (y262.1 == 0)) with hg484 | hg484
                      ·have hS := iT hz488 hg484
                       refine sr_setb 185 rfl hg484 <| sr_go 1 rfl ?_
                       obtain ⟨y492, hy493, hS⟩ := bS hS
                       refine sr_callg (b := true) (e := 185) rfl rfl rfl (vs := [pT g31 0, str ([121]), str ([115, 101, 99, 114, 101, 116, 119, 111, 114, 100]), .int .i64 300]) rfl Tryz.call19 rfl (login_Logins_Password_ok _ (hg.fr hz hb) (ρA := ρ419) hb.bd (hz.fr hg hb) (o := 200) (by decide) (⟨_, _, _, _, hB240, hP233, h235, h237, h239⟩ : login_Logins.O (fun p => 200 + p) ρ419 w418 g31 y227.2) hy493) (by decide) ?_
                       rintro _ w494 ⟨ρ506, rfl, ⟨v497, v499, v501, v503, hB505, hP498, h500, h502, h504⟩, t496⟩
                       replace hb := hb.trans t496
                       replace hj487 := hj487.tw t496
                       refine sr_go 2 rfl ?_
                       exact sr_wk (K485 (y492.1 == 13, y492.2) _ ⟨(Option.some.inj hS).symm, _, ⟨_, _, _, _, hB505, hP498, h500, h502, h504⟩, hj487⟩)
                      ·have hS := iF hz488 hg484
                       refine sr_setb 185 rfl hg484 <| sr_go 4 rfl ?_
                       exact sr_wk (K485 (false, y227.2) _ ⟨(Option.some.inj hS).symm, _, ⟨_, _, _, _, hB240, hP233, h235, h237, h239⟩, hj487⟩)
                    ·intro K477
                     rcases Bool.eq_false_or_eq_true ((((((z415 && (y150.2.2.1 == 6)) && (y197.1 == 11)) && (y212.1 == 11)) && (y227.1 == 22)) && (y242.2 == 0)) && (y247.1 == 0)) with hg476 | hg476
                     all_goals try have hj479 : Tr ρ419 w418 (fun _ => false) ρ419 w418 := Tr.refl hb.bd
                     ·refine sr_setb 181 rfl hg476 <| sr_go 3 rfl ?_
                      exact sr_wk (K477 (y262.1 == 0) _ ⟨by first | (rw [hg476]; rfl) | rfl, rfl⟩)
                     ·refine sr_setb 181 rfl hg476 <| sr_go 3 rfl ?_
                      exact sr_wk (K477 false _ ⟨by first | (rw [hg476]; rfl) | rfl, rfl⟩)
                   ·intro K469
                    rcases Bool.eq_false_or_eq_true (((((z415 && (y150.2.2.1 == 6)) && (y197.1 == 11)) && (y212.1 == 11)) && (y227.1 == 22)) && (y242.2 == 0)) with hg468 | hg468
                    all_goals try have hj471 : Tr ρ419 w418 (fun _ => false) ρ419 w418 := Tr.refl hb.bd
                    ·refine sr_setb 177 rfl hg468 <| sr_go 3 rfl ?_
                     exact sr_wk (K469 (y247.1 == 0) _ ⟨by first | (rw [hg468]; rfl) | rfl, rfl⟩)
                    ·refine sr_setb 177 rfl hg468 <| sr_go 3 rfl ?_
                     exact sr_wk (K469 false _ ⟨by first | (rw [hg468]; rfl) | rfl, rfl⟩)
                  ·intro K461
                   rcases Bool.eq_false_or_eq_true ((((z415 && (y150.2.2.1 == 6)) && (y197.1 == 11)) && (y212.1 == 11)) && (y227.1 == 22)) with hg460 | hg460
                   all_goals try have hj463 : Tr ρ419 w418 (fun _ => false) ρ419 w418 := Tr.refl hb.bd
                   ·refine sr_setb 173 rfl hg460 <| sr_go 3 rfl ?_
                    exact sr_wk (K461 (y242.2 == 0) _ ⟨by first | (rw [hg460]; rfl) | rfl, rfl⟩)
                   ·refine sr_setb 173 rfl hg460 <| sr_go 3 rfl ?_
                    exact sr_wk (K461 false _ ⟨by first | (rw [hg460]; rfl) | rfl, rfl⟩)
                 ·intro K453
                  rcases Bool.eq_false_or_eq_true (((z415 && (y150.2.2.1 == 6)) && (y197.1 == 11)) && (y212.1 == 11)) with hg452 | hg452
                  all_goals try have hj455 : Tr ρ419 w418 (fun _ => false) ρ419 w418 := Tr.refl hb.bd
                  ·refine sr_setb 169 rfl hg452 <| sr_go 3 rfl ?_
                   exact sr_wk (K453 (y227.1 == 22) _ ⟨by first | (rw [hg452]; rfl) | rfl, rfl⟩)
                  ·refine sr_setb 169 rfl hg452 <| sr_go 3 rfl ?_
                   exact sr_wk (K453 false _ ⟨by first | (rw [hg452]; rfl) | rfl, rfl⟩)
                ·intro K445
                 rcases Bool.eq_false_or_eq_true ((z415 && (y150.2.2.1 == 6)) && (y197.1 == 11)) with hg444 | hg444
                 all_goals try have hj447 : Tr ρ419 w418 (fun _ => false) ρ419 w418 := Tr.refl hb.bd
                 ·refine sr_setb 165 rfl hg444 <| sr_go 3 rfl ?_
                  exact sr_wk (K445 (y212.1 == 11) _ ⟨by first | (rw [hg444]; rfl) | rfl, rfl⟩)
                 ·refine sr_setb 165 rfl hg444 <| sr_go 3 rfl ?_
                  exact sr_wk (K445 false _ ⟨by first | (rw [hg444]; rfl) | rfl, rfl⟩)
               ·intro K437
                rcases Bool.eq_false_or_eq_true (z415 && (y150.2.2.1 == 6)) with hg436 | hg436
                all_goals try have hj439 : Tr ρ419 w418 (fun _ => false) ρ419 w418 := Tr.refl hb.bd
                ·refine sr_setb 161 rfl hg436 <| sr_go 3 rfl ?_
                 exact sr_wk (K437 (y197.1 == 11) _ ⟨by first | (rw [hg436]; rfl) | rfl, rfl⟩)
                ·refine sr_setb 161 rfl hg436 <| sr_go 3 rfl ?_
                 exact sr_wk (K437 false _ ⟨by first | (rw [hg436]; rfl) | rfl, rfl⟩)
              ·intro K429
               rcases Bool.eq_false_or_eq_true z415 with hg428 | hg428
               all_goals try have hj431 : Tr ρ419 w418 (fun _ => false) ρ419 w418 := Tr.refl hb.bd
               ·refine sr_setb 157 rfl hg428 <| sr_go 3 rfl ?_
                exact sr_wk (K429 (y150.2.2.1 == 6) _ ⟨by first | (rw [hg428]; rfl) | rfl, rfl⟩)
               ·refine sr_setb 157 rfl hg428 <| sr_go 3 rfl ?_
                exact sr_wk (K429 false _ ⟨by first | (rw [hg428]; rfl) | rfl, rfl⟩)
             ·intro K414
              clear hS
              have hj416 : Tr ρ316 w304 (fun _ => false) ρ316 w304 := (Tr.refl hb.bd).weak (fun _ _ => rfl) rfl rfl
              rcases Bool.eq_false_or_eq_true (((((((((((y302.1 == 11) || ((y302.1 == 0) && ((y292.1 == y242.1) || (y297.1 == y242.1)))) && (y41.1 == 0)) && (y56.1 == 7)) && (y71.1 == 11)) && (y86.1 == 0)) && (y101.1 == 12)) && (y116.2.2.1 == 21)) && (y133.2.2.1 == 0)) && (y133.1 == ([97, 110, 110]))) && ((y133.2.1.length : Int) == 1)) with hg413 | hg413
              ·have hS := iT hz417 hg413
               refine sr_setb 150 rfl hg413 <| sr_go 1 rfl ?_
               obtain ⟨y421, hy422, hS⟩ := bS hS
               obtain ⟨b423, o424, cs426, hq427, he425⟩ := ((SlT.of_sl (i := 0) h139)).elem (P := Tryz.prog) Tryz.underlying36 Tryz.info42 rfl hy422
               obtain rfl : cs426 = [.int .i64 y421.Factor, .int .i64 y421.Time] := he425.rd
               refine sr_eg rfl (hq427 w304 rfl rfl) ?_
               refine sr_eg rfl (v := .agg #[.int .i64 y421.Factor, .int .i64 y421.Time]) (ev_loads (cs := [.int .i64 y421.Factor, .int .i64 y421.Time]) Tryz.isAgg42 Tryz.sizeOf42 rfl he425.cell) ?_
               refine sr_eg rfl (v := .agg #[.int .i64 1, .int .i64 2]) (ev_build (vs := #[(0, .int .i64 1), (1, .int .i64 2)]) rfl (fun _ => by kernel_rfl)) ?_
               refine sr_eg rfl (v := .bool (api_Proof.eqb y421 (api_Proof.mk 1 2))) (ev_aeq (Tryz.eq42 y421 (api_Proof.mk 1 2)) rfl rfl) ?_
               refine sr_go 1 rfl ?_
               exact sr_wk (K414 (api_Proof.eqb y421 (api_Proof.mk 1 2)) _ ⟨(Option.some.inj hS).symm, _, hj416⟩)
              ·have hS := iF hz417 hg413
               refine sr_setb 150 rfl hg413 <| sr_go 6 rfl ?_
               exact sr_wk (K414 false _ ⟨(Option.some.inj hS).symm, _, hj416⟩)
            ·intro K406
             rcases Bool.eq_false_or_eq_true ((((((((((y302.1 == 11) || ((y302.1 == 0) && ((y292.1 == y242.1) || (y297.1 == y242.1)))) && (y41.1 == 0)) && (y56.1 == 7)) && (y71.1 == 11)) && (y86.1 == 0)) && (y101.1 == 12)) && (y116.2.2.1 == 21)) && (y133.2.2.1 == 0)) && (y133.1 == ([97, 110, 110]))) with hg405 | hg405
             all_goals try have hj408 : Tr ρ316 w304 (fun _ => false) ρ316 w304 := Tr.refl hb.bd
             ·refine sr_setb 145 rfl hg405 <| sr_go 1 rfl ?_
              refine sr_eg rfl (ev_sllenW Tryz.underlying36 rfl h139.asSl) ?_
              refine sr_go 2 rfl ?_
              exact sr_wk (K406 ((y133.2.1.length : Int) == 1) _ ⟨by first | (rw [hg405]; rfl) | rfl, rfl⟩)
             ·refine sr_setb 145 rfl hg405 <| sr_go 4 rfl ?_
              exact sr_wk (K406 false _ ⟨by first | (rw [hg405]; rfl) | rfl, rfl⟩)
           ·intro K398
            rcases Bool.eq_false_or_eq_true (((((((((y302.1 == 11) || ((y302.1 == 0) && ((y292.1 == y242.1) || (y297.1 == y242.1)))) && (y41.1 == 0)) && (y56.1 == 7)) && (y71.1 == 11)) && (y86.1 == 0)) && (y101.1 == 12)) && (y116.2.2.1 == 21)) && (y133.2.2.1 == 0)) with hg397 | hg397
            all_goals try have hj400 : Tr ρ316 w304 (fun _ => false) ρ316 w304 := Tr.refl hb.bd
            ·refine sr_setb 141 rfl hg397 <| sr_go 1 rfl ?_
             refine sr_eg rfl (ev_seq rfl rfl) ?_
             refine sr_go 1 rfl ?_
             exact sr_wk (K398 (y133.1 == ([97, 110, 110])) _ ⟨by first | (rw [hg397]; rfl) | rfl, rfl⟩)
            ·refine sr_setb 141 rfl hg397 <| sr_go 3 rfl ?_
             exact sr_wk (K398 false _ ⟨by first | (rw [hg397]; rfl) | rfl, rfl⟩)
          ·intro K390
           rcases Bool.eq_false_or_eq_true ((((((((y302.1 == 11) || ((y302.1 == 0) && ((y292.1 == y242.1) || (y297.1 == y242.1)))) && (y41.1 == 0)) && (y56.1 == 7)) && (y71.1 == 11)) && (y86.1 == 0)) && (y101.1 == 12)) && (y116.2.2.1 == 21)) with hg389 | hg389
           all_goals try have hj392 : Tr ρ316 w304 (fun _ => false) ρ316 w304 := Tr.refl hb.bd
           ·refine sr_setb 137 rfl hg389 <| sr_go 3 rfl ?_
            exact sr_wk (K390 (y133.2.2.1 == 0) _ ⟨by first | (rw [hg389]; rfl) | rfl, rfl⟩)
           ·refine sr_setb 137 rfl hg389 <| sr_go 3 rfl ?_
            exact sr_wk (K390 false _ ⟨by first | (rw [hg389]; rfl) | rfl, rfl⟩)
         ·intro K382
          rcases Bool.eq_false_or_eq_true (((((((y302.1 == 11) || ((y302.1 == 0) && ((y292.1 == y242.1) || (y297.1 == y242.1)))) && (y41.1 == 0)) && (y56.1 == 7)) && (y71.1 == 11)) && (y86.1 == 0)) && (y101.1 == 12)) with hg381 | hg381
          all_goals try have hj384 : Tr ρ316 w304 (fun _ => false) ρ316 w304 := Tr.refl hb.bd
          ·refine sr_setb 133 rfl hg381 <| sr_go 3 rfl ?_
           exact sr_wk (K382 (y116.2.2.1 == 21) _ ⟨by first | (rw [hg381]; rfl) | rfl, rfl⟩)
          ·refine sr_setb 133 rfl hg381 <| sr_go 3 rfl ?_
           exact sr_wk (K382 false _ ⟨by first | (rw [hg381]; rfl) | rfl, rfl⟩)
        ·intro K374
         rcases Bool.eq_false_or_eq_true ((((((y302.1 == 11) || ((y302.1 == 0) && ((y292.1 == y242.1) || (y297.1 == y242.1)))) && (y41.1 == 0)) && (y56.1 == 7)) && (y71.1 == 11)) && (y86.1 == 0)) with hg373 | hg373
         all_goals try have hj376 : Tr ρ316 w304 (fun _ => false) ρ316 w304 := Tr.refl hb.bd
         ·refine sr_setb 129 rfl hg373 <| sr_go 3 rfl ?_
          exact sr_wk (K374 (y101.1 == 12) _ ⟨by first | (rw [hg373]; rfl) | rfl, rfl⟩)
         ·refine sr_setb 129 rfl hg373 <| sr_go 3 rfl ?_
          exact sr_wk (K374 false _ ⟨by first | (rw [hg373]; rfl) | rfl, rfl⟩)
       ·intro K366
        rcases Bool.eq_false_or_eq_true (((((y302.1 == 11) || ((y302.1 == 0) && ((y292.1 == y242.1) || (y297.1 == y242.1)))) && (y41.1 == 0)) && (y56.1 == 7)) && (y71.1 == 11)) with hg365 | hg365
        all_goals try have hj368 : Tr ρ316 w304 (fun _ => false) ρ316 w304 := Tr.refl hb.bd
        ·refine sr_setb 125 rfl hg365 <| sr_go 3 rfl ?_
         exact sr_wk (K366 (y86.1 == 0) _ ⟨by first | (rw [hg365]; rfl) | rfl, rfl⟩)
        ·refine sr_setb 125 rfl hg365 <| sr_go 3 rfl ?_
         exact sr_wk (K366 false _ ⟨by first | (rw [hg365]; rfl) | rfl, rfl⟩)
      ·intro K358
       rcases Bool.eq_false_or_eq_true ((((y302.1 == 11) || ((y302.1 == 0) && ((y292.1 == y242.1) || (y297.1 == y242.1)))) && (y41.1 == 0)) && (y56.1 == 7)) with hg357 | hg357
       all_goals try have hj360 : Tr ρ316 w304 (fun _ => false) ρ316 w304 := Tr.refl hb.bd
       ·refine sr_setb 121 rfl hg357 <| sr_go 3 rfl ?_
        exact sr_wk (K358 (y71.1 == 11) _ ⟨by first | (rw [hg357]; rfl) | rfl, rfl⟩)
       ·refine sr_setb 121 rfl hg357 <| sr_go 3 rfl ?_
        exact sr_wk (K358 false _ ⟨by first | (rw [hg357]; rfl) | rfl, rfl⟩)
     ·intro K350
      rcases Bool.eq_false_or_eq_true (((y302.1 == 11) || ((y302.1 == 0) && ((y292.1 == y242.1) || (y297.1 == y242.1)))) && (y41.1 == 0)) with hg349 | hg349
      all_goals try have hj352 : Tr ρ316 w304 (fun _ => false) ρ316 w304 := Tr.refl hb.bd
      ·refine sr_setb 117 rfl hg349 <| sr_go 3 rfl ?_
       exact sr_wk (K350 (y56.1 == 7) _ ⟨by first | (rw [hg349]; rfl) | rfl, rfl⟩)
      ·refine sr_setb 117 rfl hg349 <| sr_go 3 rfl ?_
       exact sr_wk (K350 false _ ⟨by first | (rw [hg349]; rfl) | rfl, rfl⟩)
    ·intro K342
     rcases Bool.eq_false_or_eq_true ((y302.1 == 11) || ((y302.1 == 0) && ((y292.1 == y242.1) || (y297.1 == y242.1)))) with hg341 | hg341
     all_goals try have hj344 : Tr ρ316 w304 (fun _ => false) ρ316 w304 := Tr.refl hb.bd
     ·refine sr_setb 113 rfl hg341 <| sr_go 3 rfl ?_
      exact sr_wk (K342 (y41.1 == 0) _ ⟨by first | (rw [hg341]; rfl) | rfl, rfl⟩)
     ·refine sr_setb 113 rfl hg341 <| sr_go 3 rfl ?_
      exact sr_wk (K342 false _ ⟨by first | (rw [hg341]; rfl) | rfl, rfl⟩)
   ·intro K318
    rcases Bool.eq_false_or_eq_true (y302.1 == 11) with hg317 | hg317
    all_goals try have hj320 : Tr ρ316 w304 (fun _ => false) ρ316 w304 := Tr.refl hb.bd
    ·refine sr_setb 99 rfl hg317 <| sr_go 13 rfl ?_
     exact sr_wk (K318 true _ ⟨by first | (rw [hg317]; rfl) | rfl, rfl⟩)
    ·refine sr_setb 99 rfl hg317 <| sr_go 3 rfl ?_
     refine sr_join (m := 9) (C := fun (x : Bool) w1 => x = ((y302.1 == 0) && ((y292.1 == y242.1) || (y297.1 == y242.1))) ∧ w304 = w1) (l' := fun x => [(2, pT g31 0), (3, .int .i64 y41.1), (4, .int .i64 y56.1), (5, .int .i64 y71.1), (6, .int .i64 y86.1), (7, .int .i64 y101.1), (10, .int .i64 y116.2.2.1), (11, str y133.1), (12, v138), (13, .int .i64 y133.2.2.1), (16, .int .i64 y150.2.2.1), (17, .int .i64 y197.1), (18, .int .i64 y212.1), (19, .int .i64 y227.1), (21, .int .i64 y242.2), (22, .int .i64 y247.1), (23, .int .i64 y262.1), (99, .bool (y302.1 == 11)), (111, .bool x)]) ?_ ?_
     ·rintro _ _ ⟨rfl, rfl⟩
      refine sr_e (ev_pick_f rfl hg317 rfl) ?_
      exact sr_wk (K318 ((y302.1 == 0) && ((y292.1 == y242.1) || (y297.1 == y242.1))) _ ⟨by first | (rw [hg317]; rfl) | rfl, rfl⟩)
     ·intro K326
      rcases Bool.eq_false_or_eq_true (y302.1 == 0) with hg325 | hg325
      all_goals try have hj328 : Tr ρ316 w304 (fun _ => false) ρ316 w304 := Tr.refl hb.bd
      ·refine sr_setb 102 rfl hg325 <| sr_go 2 rfl ?_
       refine sr_eg rfl (ev_seq rfl rfl) ?_
       refine sr_go 1 rfl ?_
       refine sr_join (m := 4) (C := fun (x : Bool) w1 => x = ((y292.1 == y242.1) || (y297.1 == y242.1)) ∧ w304 = w1) (l' := fun x => [(2, pT g31 0), (3, .int .i64 y41.1), (4, .int .i64 y56.1), (5, .int .i64 y71.1), (6, .int .i64 y86.1), (7, .int .i64 y101.1), (10, .int .i64 y116.2.2.1), (11, str y133.1), (12, v138), (13, .int .i64 y133.2.2.1), (16, .int .i64 y150.2.2.1), (17, .int .i64 y197.1), (18, .int .i64 y212.1), (19, .int .i64 y227.1), (21, .int .i64 y242.2), (22, .int .i64 y247.1), (23, .int .i64 y262.1), (99, .bool (y302.1 == 11)), (102, .bool (y302.1 == 0)), (110, .bool x)]) ?_ ?_
       ·rintro _ _ ⟨rfl, rfl⟩
        refine sr_eg hg317 (ev_pick_t rfl hg325 rfl) ?_
        exact sr_wk (K326 ((y292.1 == y242.1) || (y297.1 == y242.1)) _ ⟨by first | (rw [hg325]; rfl) | rfl, rfl⟩)
       ·intro K334
        rcases Bool.eq_false_or_eq_true (y292.1 == y242.1) with hg333 | hg333
        all_goals try have hj336 : Tr ρ316 w304 (fun _ => false) ρ316 w304 := Tr.refl hb.bd
        ·refine sr_setb 106 rfl hg333 <| sr_go 4 rfl ?_
         refine sr_unb 99 rfl hg317 ?_
         refine sr_unb 102 rfl hg325 ?_
         exact sr_wk (K334 true _ ⟨by first | (rw [hg333]; rfl) | rfl, rfl⟩)
        ·refine sr_setb 106 rfl hg333 <| sr_go 2 rfl ?_
         refine sr_eg rfl (ev_seq rfl rfl) ?_
         refine sr_go 1 rfl ?_
         refine sr_unb 99 rfl hg317 ?_
         refine sr_unb 102 rfl hg325 ?_
         exact sr_wk (K334 (y297.1 == y242.1) _ ⟨by first | (rw [hg333]; rfl) | rfl, rfl⟩)
      ·refine sr_setb 102 rfl hg325 <| sr_go 9 rfl ?_
       refine sr_unb 99 rfl hg317 ?_
       exact sr_wk (K326 false _ ⟨by first | (rw [hg325]; rfl) | rfl, rfl⟩)
theorem ref22_Limited_ok (w0 : World) (hg : Gs w0) {n_0 : Int} {r : Int} (hS : ref22_Limited n_0 = some r) :
  Calls Tryz.prog 98 #[.int .i64 n_0] w0 (Ret (fun v w' => v = .int .i64 r ∧ Below w0.heap.size w0 w')) := by
 unfold ref22_Limited at hS
 have hb := Below.refl w0.heap.size w0
 refine ck Tryz.func98 [0] rfl rfl ?_
 refine ke_seq <| ke_region <| sr_go 1 rfl <| sr_fin [0] rfl <| ke_seq <| ke_region <| sr_go 1 rfl ?_
 refine sr_e (ev_min rfl rfl) ?_
 refine sr_e (ev_max rfl rfl) ?_
 refine sr_go 1 rfl <| sr_fin [2] rfl ?_
 cases hS
 exact ke_ret1 Tryz.func98 rfl rfl ⟨_, rfl, rfl, hb⟩
theorem ref22_NewLocks_ok (w0 : World) (hg : Gs w0) {ρA : Tags} (hbd : ∀ b, ρA b ≠ 0 → b < w0.heap.size) (hz : Gz ρA) {o : Nat} (ho2 : 2 ≤ o) {most_0 : Int} {window_1 : Int} {lock_2 : Int} {r : (Option ref22_Locks) × Int} (hS : ref22_NewLocks most_0 window_1 lock_2 = some r) :
  Calls Tryz.prog 59 #[.int .i64 most_0, .int .i64 window_1, .int .i64 lock_2] w0 (Ret (fun v w' => ∃ ρ' zr0, v = .tuple #[zr0, .int .i64 r.2] ∧ PtrO ref22_Locks.O (fun p => o + p) ρ' w' zr0 r.1 ∧ Tr ρA w0 (rng o 2) ρ' w')) := by
 unfold ref22_NewLocks at hS
 have hb := enter_fr (ρ := ρA) (w := w0) (n := 2) ho2 hbd
 have hz := hz.enter (n := 2) ho2
 refine ck Tryz.func59 [0, 1, 2] rfl rfl ?_
 refine ke_seq <| ke_region <| sr_go 2 rfl <| sr_fin [0, 1, 2] rfl <| ke_seq <| ke_region <| sr_go 1 rfl ?_
 obtain ⟨y1, hy2, hS⟩ := bS hS
 refine sr_cb Tryz.call98 (ref22_Limited_ok _ (hg.fr hz hb) hy2) hb.bd ?_
 intro w3 t5
 replace hb := hb.trans t5
 refine sr_go 1 rfl <| sr_fin [0, 1, 2] rfl <| ke_seq <| ke_region <| sr_go 1 rfl ?_
 obtain ⟨y6, hy7, hS⟩ := bS hS
 refine sr_cb Tryz.call98 (ref22_Limited_ok _ (hg.fr hz hb) hy7) hb.bd ?_
 intro w8 t10
 replace hb := hb.trans t10
 refine sr_go 1 rfl <| sr_fin [0, 1, 2] rfl <| ke_seq <| ke_seq <| ke_region <| sr_go 3 rfl ?_
 refine sr_join (m := 3) (C := fun (x : Bool) w1 => x = ((decide (most_0 < 1)) || (decide (most_0 > 256))) ∧ w8 = w1) (l' := fun x => [(0, .int .i64 most_0), (1, .int .i64 y1), (2, .int .i64 y6), (17, .bool x)]) ?_ ?_
 ·rintro _ _ ⟨rfl, rfl⟩
  refine sr_go 1 rfl ?_
  refine sr_join (m := 3) (C := fun (x : Bool) w1 => x = (((decide (most_0 < 1)) || (decide (most_0 > 256))) || (decide (y1 < 1))) ∧ w8 = w1) (l' := fun x => [(0, .int .i64 most_0), (1, .int .i64 y1), (2, .int .i64 y6), (21, .bool x)]) ?_ ?_
  ·rintro _ _ ⟨rfl, rfl⟩
   refine sr_go 1 rfl ?_
   refine sr_join (m := 3) (C := fun (x : Bool) w1 => x = ((((decide (most_0 < 1)) || (decide (most_0 > 256))) || (decide (y1 < 1))) || (decide (y6 < 1))) ∧ w8 = w1) (l' := fun x => [(0, .int .i64 most_0), (1, .int .i64 y1), (2, .int .i64 y6), (25, .bool x)]) ?_ ?_
   ·rintro _ _ ⟨rfl, rfl⟩
    refine sr_fin [0, 1, 2, 25] rfl ?_
    refine ke_cond rfl (fun hc35 => ?_) (fun hc35 => ?_)
    ·replace hS := iT hS hc35
     refine ke_seq <| ke_region <| sr_go 2 rfl <| sr_fin [6, 7] rfl ?_
     cases hS
     exact ke_ret2 Tryz.func59 rfl rfl rfl ⟨_, rfl, _, _, rfl, PtrO.nil, (leave_tr ho2 hb)⟩
    ·replace hS := iF hS hc35
     refine ke_skip <| ke_seq <| ke_region <| sr_go 3 rfl ?_
     refine sr_e (v := .agg #[.bool true, .int .i64 most_0, .int .i64 y1, .int .i64 y6, (.slice none 0 0)]) (ev_build (vs := #[(0, .bool true), (1, .int .i64 most_0), (2, .int .i64 y1), (3, .int .i64 y6)]) rfl (fun _ => by kernel_rfl)) ?_
     refine sr_boxT 200 (by decide) hb.bd rfl (by decide) ?_
     intro g36 ρ37 w38 hB40 t39
     replace hb := hb.trans t39
     refine sr_go 2 rfl <| sr_fin [6, 7] rfl ?_
     have t41 := rtgR_tr (ρ := ρ37) (w := w38) (a := 200) (N := 2) 100 (by decide) hb.bd
     replace hb := hb.trans t41
     replace hB40 := hB40.mv (rtgR_mv (ρ := ρ37) (w := w38) (a := 200) (b := 100) (N := 2) (p := 0) (by decide) (by decide))
     cases hS
     exact ke_ret2 Tryz.func59 rfl rfl rfl ⟨_, rfl, _, _, rfl, (PtrO.mk ⟨_, (hB40.lv 0 hb), OwnT.nil⟩), (leave_tr ho2 hb)⟩
   ·intro K28
    rcases Bool.eq_false_or_eq_true (((decide (most_0 < 1)) || (decide (most_0 > 256))) || (decide (y1 < 1))) with hg27 | hg27
    all_goals try have hj30 : Tr (enter ρA o 2) w8 (fun _ => false) (enter ρA o 2) w8 := Tr.refl hb.bd
    ·refine sr_setb 22 rfl hg27 <| sr_go 3 rfl ?_
     exact sr_wk (K28 true _ ⟨by first | (rw [hg27]; rfl) | rfl, rfl⟩)
    ·refine sr_setb 22 rfl hg27 <| sr_go 3 rfl ?_
     exact sr_wk (K28 (decide (y6 < 1)) _ ⟨by first | (rw [hg27]; rfl) | rfl, rfl⟩)
  ·intro K20
   rcases Bool.eq_false_or_eq_true ((decide (most_0 < 1)) || (decide (most_0 > 256))) with hg19 | hg19
   all_goals try have hj22 : Tr (enter ρA o 2) w8 (fun _ => false) (enter ρA o 2) w8 := Tr.refl hb.bd
   ·refine sr_setb 18 rfl hg19 <| sr_go 3 rfl ?_
    exact sr_wk (K20 true _ ⟨by first | (rw [hg19]; rfl) | rfl, rfl⟩)
   ·refine sr_setb 18 rfl hg19 <| sr_go 3 rfl ?_
    exact sr_wk (K20 (decide (y1 < 1)) _ ⟨by first | (rw [hg19]; rfl) | rfl, rfl⟩)
 ·intro K12
  rcases Bool.eq_false_or_eq_true (decide (most_0 < 1)) with hg11 | hg11
  all_goals try have hj14 : Tr (enter ρA o 2) w8 (fun _ => false) (enter ρA o 2) w8 := Tr.refl hb.bd
  ·refine sr_setb 14 rfl hg11 <| sr_go 3 rfl ?_
   exact sr_wk (K12 true _ ⟨by first | (rw [hg11]; rfl) | rfl, rfl⟩)
  ·refine sr_setb 14 rfl hg11 <| sr_go 3 rfl ?_
   exact sr_wk (K12 (decide (most_0 > 256)) _ ⟨by first | (rw [hg11]; rfl) | rfl, rfl⟩)
theorem ref39_New_ok (w0 : World) (hg : Gs w0) {ρA : Tags} (hbd : ∀ b, ρA b ≠ 0 → b < w0.heap.size) (hz : Gz ρA) {o : Nat} (ho2 : 2 ≤ o) {most_0 : Int} {window_1 : Int} {lock_2 : Int} {r : (Option ref39_Logins) × Int} (hS : ref39_New most_0 window_1 lock_2 = some r) :
  Calls Tryz.prog 24 #[.int .i64 most_0, .int .i64 window_1, .int .i64 lock_2] w0 (Ret (fun v w' => ∃ ρ' zr0, v = .tuple #[zr0, .int .i64 r.2] ∧ PtrO ref39_Logins.O (fun p => o + p) ρ' w' zr0 r.1 ∧ Tr ρA w0 (rng o 6) ρ' w')) := by
 unfold ref39_New at hS
 have hb := enter_fr (ρ := ρA) (w := w0) (n := 6) ho2 hbd
 have hz := hz.enter (n := 6) ho2
 refine ck Tryz.func24 [0, 1, 2] rfl rfl ?_
 refine ke_seq <| ke_region <| sr_go 2 rfl <| sr_fin [0, 1, 2] rfl <| ke_seq <| ke_region <| sr_go 3 rfl ?_
 obtain ⟨y1, hy2, hS⟩ := bS hS
 refine sr_cl Tryz.call59 (ref22_NewLocks_ok _ (hg.fr hz hb) hb.bd (hz.fr hg hb) (o := 200) (by decide) hy2) ?_
 rintro _ w3 ⟨ρ8, v6, rfl, hP7, t5⟩
 replace hb := hb.trans t5
 rcases ho10 : y1.1 with _ | z9
 ·replace hS := optC_none hS ho10
  obtain rfl := hP7.none_ ho10
  refine sr_go 5 rfl <| sr_fin [8, 9] rfl <| ke_seq <| ke_seq <| ke_region <| sr_go 2 rfl <| sr_fin [8, 9, 18] rfl ?_
  refine ke_cond rfl (fun hc26 => ?_) (fun hc26 => ?_)
  ·replace hS := iT hS hc26
   refine ke_seq <| ke_region <| sr_go 3 rfl <| sr_fin [6, 7] rfl ?_
   cases hS
   exact ke_ret2 Tryz.func24 rfl rfl rfl ⟨_, rfl, _, _, rfl, PtrO.nil, (leave_tr ho2 hb)⟩
  ·replace hS := iF hS hc26
   refine ke_skip <| ke_seq <| ke_region <| sr_go 1 rfl ?_
   refine sr_e (v := .agg #[.pointer none, (.slice none 0 0), (.slice none 0 0)]) (ev_build (vs := #[(0, .pointer none)]) rfl (fun _ => by kernel_rfl)) ?_
   refine sr_boxT 200 (by decide) hb.bd rfl (by decide) ?_
   intro g27 ρ28 w29 hB31 t30
   replace hb := hb.trans t30
   refine sr_go 2 rfl <| sr_fin [6, 7] rfl ?_
   have t32 := rtgR_tr (ρ := ρ28) (w := w29) (a := 200) (N := 6) 100 (by decide) hb.bd
   replace hb := hb.trans t32
   replace hB31 := hB31.mv (rtgR_mv (ρ := ρ28) (w := w29) (a := 200) (b := 100) (N := 6) (p := 0) (by decide) (by decide))
   cases hS
   exact ke_ret2 Tryz.func24 rfl rfl rfl ⟨_, rfl, _, _, rfl, (PtrO.mk ⟨_, _, _, _, (hB31.lv 0 hb), PtrO.nil, OwnT.nil, OwnT.nil, NestT.new⟩), (leave_tr ho2 hb)⟩
 ·replace hS := optC_some hS ho10
  obtain ⟨g11, rfl, ⟨v12, hB14, h13⟩⟩ := hP7.some_ ho10
  refine sr_go 5 rfl <| sr_fin [8, 9] rfl <| ke_seq <| ke_seq <| ke_region <| sr_go 2 rfl <| sr_fin [8, 9, 18] rfl ?_
  refine ke_cond rfl (fun hc15 => ?_) (fun hc15 => ?_)
  ·replace hS := iT hS hc15
   refine ke_seq <| ke_region <| sr_go 3 rfl <| sr_fin [6, 7] rfl ?_
   cases hS
   exact ke_ret2 Tryz.func24 rfl rfl rfl ⟨_, rfl, _, _, rfl, PtrO.nil, (leave_tr ho2 hb)⟩
  ·replace hS := iF hS hc15
   refine ke_skip <| ke_seq <| ke_region <| sr_go 1 rfl ?_
   refine sr_e (v := .agg #[pT g11 0, (.slice none 0 0), (.slice none 0 0)]) (ev_build (vs := #[(0, pT g11 0)]) rfl (fun _ => by kernel_rfl)) ?_
   refine sr_boxT 300 (by decide) hb.bd rfl (by decide) ?_
   intro g16 ρ17 w18 hB20 t19
   replace h13 := h13.m t19
   replace hb := hb.trans t19
   refine sr_go 2 rfl <| sr_fin [6, 7] rfl ?_
   have t21 := rtg_tr (ρ := ρ17) (w := w18) (i := 201) 302 (by decide) hb.bd
   have hmv22 : Mv ρ17 w18 201 (rtg ρ17 201 302) w18 302 := rtg_mv (by decide)
   replace hB14 := (hB14.m t19).m t21
   replace hb := hb.trans t21
   replace h13 := h13.mv hmv22 (by decide)
   have t23 := rtg_tr (ρ := (rtg ρ17 201 302)) (w := w18) (i := 200) 301 (by decide) hb.bd
   have hmv24 : Mv (rtg ρ17 201 302) w18 200 (rtg (rtg ρ17 201 302) 200 301) w18 301 := rtg_mv (by decide)
   replace hB20 := (hB20.m t21).m t23
   replace h13 := h13.m t23
   replace hb := hb.trans t23
   replace hB14 := hB14.mv hmv24
   have t25 := rtgR_tr (ρ := (rtg (rtg ρ17 201 302) 200 301)) (w := w18) (a := 300) (N := 6) 100 (by decide) hb.bd
   replace hb := hb.trans t25
   replace hB20 := hB20.mv (rtgR_mv (ρ := (rtg (rtg ρ17 201 302) 200 301)) (w := w18) (a := 300) (b := 100) (N := 6) (p := 0) (by decide) (by decide))
   replace hB14 := hB14.mv (rtgR_mv (ρ := (rtg (rtg ρ17 201 302) 200 301)) (w := w18) (a := 300) (b := 100) (N := 6) (p := 1) (by decide) (by decide))
   replace h13 := h13.mv (rtgR_mv (ρ := (rtg (rtg ρ17 201 302) 200 301)) (w := w18) (a := 300) (b := 100) (N := 6) (p := 2) (by decide) (by decide)) (by decide)
   cases hS
   exact ke_ret2 Tryz.func24 rfl rfl rfl ⟨_, rfl, leave ρA w0 o 6 (rtgR (rtg (rtg ρ17 201 302) 200 301) 300 100 6), _, rfl, (PtrO.mk ⟨_, _, _, _, (hB20.lv 0 hb), (PtrO.mk ⟨_, (hB14.lv 1 hb), (h13.lv 2 ho2 hb)⟩), OwnT.nil, OwnT.nil, NestT.new⟩), (leave_tr ho2 hb)⟩
theorem law39_verifier_ok (w0 : World) (hg : Gs w0) {o_0 : law39_Op} {r : api_Verifier} (hS : law39_verifier o_0 = some r) :
  Calls Tryz.prog 26 #[.agg #[.int .i64 o_0.Kind, str o_0.ID, str o_0.User, str o_0.Word, str o_0.Code, str o_0.S, .int .i64 o_0.Level, .int .i64 o_0.Rounds, .int .i64 o_0.Now]] w0 (Ret (fun v w' => v = .agg #[str r.Salt, .int .i64 r.Rounds, str r.Hash] ∧ Below w0.heap.size w0 w')) := by
 unfold law39_verifier at hS
 have hb := Below.refl w0.heap.size w0
 obtain ⟨A0, hA0, hAe⟩ : ∃ A0 : Nat → Prop, (∀ b, A0 b → b < w0.heap.size) ∧ A0 = fun _ => False := ⟨_, fun _ h => h.elim, rfl⟩
 clear hAe
 have hA := hA0
 have hi : ∀ b, A0 b → A0 b := fun _ h => h
 have hH := Hp.nil A0 w0.heap.size w0
 refine ck Tryz.func26 [0] rfl rfl ?_
 refine ke_seq <| ke_region ?_
 refine sr_box hH hb.size hA rfl (by decide) ?_
 intro g1 A2 w3 hH1 hst4 hbw5 hinc6 hA1 hge7
 replace hb := hb.trans (hbw5.mono hb.size)
 replace hi := fun b hb => hinc6 b (hi b hb)
 replace hH : Hp A2 w0.heap.size w3 [(g1, .cells #[.int .i64 o_0.Kind, str o_0.ID, str o_0.User, str o_0.Word, str o_0.Code, str o_0.S, .int .i64 o_0.Level, .int .i64 o_0.Rounds, .int .i64 o_0.Now] 33 (0, 0))] := hH1
 replace hA := hA1
 clear hH1 hA1
 refine sr_alloc hH hb.size hA Tryz.zeroValue45 (by decide) ?_
 intro g8 A9 w10 hH1 hst11 hbw12 hinc13 hA1 hge14
 replace hb := hb.trans (hbw12.mono hb.size)
 replace hi := fun b hb => hinc13 b (hi b hb)
 replace hH : Hp A9 w0.heap.size w10 [(g8, .cells #[str ([]), .int .i64 0, str ([])] 45 (0, 0)), (g1, .cells #[.int .i64 o_0.Kind, str o_0.ID, str o_0.User, str o_0.Word, str o_0.Code, str o_0.S, .int .i64 o_0.Level, .int .i64 o_0.Rounds, .int .i64 o_0.Now] 33 (0, 0))] := hH1
 replace hA := hA1
 clear hH1 hA1
 refine sr_fin [1, 2] rfl <| ke_seq <| ke_region ?_
 refine sr_fa 3 Tryz.underlying33 rfl Tryz.info9 ?_
 refine sr_ld (str o_0.Word) Tryz.isAgg9 rfl (hH.cell (i := 1) rfl rfl) ?_
 refine sr_fa 7 Tryz.underlying33 rfl Tryz.info3 ?_
 refine sr_ld (.int .i64 o_0.Rounds) Tryz.isAgg3 rfl (hH.cell (i := 1) rfl rfl) ?_
 refine sr_e (ev_min rfl rfl) ?_
 refine sr_e (ev_max rfl rfl) ?_
 obtain ⟨y15, hy16, hS⟩ := bS hS
 refine sr_cl Tryz.call20 (secret_Make_ok _ (hg.below hb) hy16) ?_
 rintro _ w17 ⟨rfl, hbw18⟩
 replace hb := hb.trans (hbw18.mono hb.size)
 replace hA := lt_mono hA hbw18.size
 replace hH := hH.below hbw18
 refine sr_go 3 rfl ?_
 refine sr_alloc hH hb.size hA Tryz.zeroValue45 (by decide) ?_
 intro g19 A20 w21 hH1 hst22 hbw23 hinc24 hA1 hge25
 replace hb := hb.trans (hbw23.mono hb.size)
 replace hi := fun b hb => hinc24 b (hi b hb)
 replace hH : Hp A20 w0.heap.size w21 [(g19, .cells #[str ([]), .int .i64 0, str ([])] 45 (0, 0)), (g8, .cells #[str ([]), .int .i64 0, str ([])] 45 (0, 0)), (g1, .cells #[.int .i64 o_0.Kind, str o_0.ID, str o_0.User, str o_0.Word, str o_0.Code, str o_0.S, .int .i64 o_0.Level, .int .i64 o_0.Rounds, .int .i64 o_0.Now] 33 (0, 0))] := hH1
 replace hA := hA1
 clear hH1 hA1
 refine sr_store (i := 0) (v := .agg #[str y15.1.Salt, .int .i64 y15.1.Rounds, str y15.1.Hash]) (vs := [str y15.1.Salt, .int .i64 y15.1.Rounds, str y15.1.Hash]) (cs' := #[str y15.1.Salt, .int .i64 y15.1.Rounds, str y15.1.Hash]) hH rfl rfl rfl rfl Tryz.sizeOf45 rfl rfl rfl ?_
 intro w26 hH1 hwr27
 replace hb := hwr27.below hb (hH.base _ (List.mem_of_getElem? (i := 0) rfl))
 replace hA := hwr27.lt hA
 replace hH : Hp A20 w0.heap.size w26 [(g19, .cells #[str y15.1.Salt, .int .i64 y15.1.Rounds, str y15.1.Hash] 45 (0, 0)), (g8, .cells #[str ([]), .int .i64 0, str ([])] 45 (0, 0)), (g1, .cells #[.int .i64 o_0.Kind, str o_0.ID, str o_0.User, str o_0.Word, str o_0.Code, str o_0.S, .int .i64 o_0.Level, .int .i64 o_0.Rounds, .int .i64 o_0.Now] 33 (0, 0))] := hH1
 clear hH1
 refine sr_go 1 rfl <| sr_fin [2, 3] rfl <| ke_seq <| ke_region ?_
 refine sr_e (v := .agg #[str y15.1.Salt, .int .i64 y15.1.Rounds, str y15.1.Hash]) (ev_loads Tryz.isAgg45 Tryz.sizeOf45 rfl (hH.cells (i := 0) (vs := [str y15.1.Salt, .int .i64 y15.1.Rounds, str y15.1.Hash]) rfl rfl)) ?_
 refine sr_store (i := 1) (v := .agg #[str y15.1.Salt, .int .i64 y15.1.Rounds, str y15.1.Hash]) (vs := [str y15.1.Salt, .int .i64 y15.1.Rounds, str y15.1.Hash]) (cs' := #[str y15.1.Salt, .int .i64 y15.1.Rounds, str y15.1.Hash]) hH rfl rfl rfl rfl Tryz.sizeOf45 rfl rfl rfl ?_
 intro w28 hH1 hwr29
 replace hb := hwr29.below hb (hH.base _ (List.mem_of_getElem? (i := 1) rfl))
 replace hA := hwr29.lt hA
 replace hH : Hp A20 w0.heap.size w28 [(g19, .cells #[str y15.1.Salt, .int .i64 y15.1.Rounds, str y15.1.Hash] 45 (0, 0)), (g8, .cells #[str y15.1.Salt, .int .i64 y15.1.Rounds, str y15.1.Hash] 45 (0, 0)), (g1, .cells #[.int .i64 o_0.Kind, str o_0.ID, str o_0.User, str o_0.Word, str o_0.Code, str o_0.S, .int .i64 o_0.Level, .int .i64 o_0.Rounds, .int .i64 o_0.Now] 33 (0, 0))] := hH1
 clear hH1
 refine sr_fin [2] rfl ?_
 cases hS
 exact ke_ret (rs := [.cell 2 45]) (vs := [.agg #[str y15.1.Salt, .int .i64 y15.1.Rounds, str y15.1.Hash]]) Tryz.func26 rfl ⟨⟨_, rfl, run_loadVar_s Tryz.isAgg45 Tryz.sizeOf45 (hH.cells (i := 1) (vs := [str y15.1.Salt, .int .i64 y15.1.Rounds, str y15.1.Hash]) rfl rfl)⟩, trivial⟩ rfl ⟨_, rfl, rfl, hb⟩
theorem ref39_made_ok (w0 : World) (hg : Gs w0) {ρA : Tags} (hbd : ∀ b, ρA b ≠ 0 → b < w0.heap.size) (hz : Gz ρA) {τ0 : Nat → Nat} (hτ0 : ∀ p, 1 ≤ τ0 p) {l_0 : ref39_Logins} {gl_0 : Nat} {r : Bool} (ho0 : ref39_Logins.O τ0 ρA w0 gl_0 l_0) (hS : ref39_made l_0 = some r) :
  Calls Tryz.prog 60 #[pT gl_0 0] w0 (Ret (fun v w' => v = .bool r ∧ Below w0.heap.size w0 w')) := by
 unfold ref39_made at hS
 have hb := flat1_fr (ρ := ρA) (w := w0) hbd
 have hz := hz.flat1
 obtain ⟨v1, v3, v5, M7, hB9, hP2, h4, h6, hN8⟩ := ho0
 replace hB9 := hB9.mv (flat1_mv (hτ0 0))
 replace hP2 := PtrO.mv hP2 ref22_Locks.objK (fun p hp => flat1_mv (hτ0 (1 + p))) (fun _ _ => by decide)
 refine ck Tryz.func60 [0] rfl rfl ?_
 refine ke_seq <| ke_region <| sr_go 1 rfl <| sr_fin [0] rfl <| ke_seq <| ke_region <| sr_go 1 rfl ?_
 refine sr_e (ev_pneT_some Tryz.underlying53 rfl rfl) ?_
 refine sr_go 3 rfl ?_
 refine sr_eg rfl (ev_fieldAddr (i := 0) Tryz.underlying96 rfl Tryz.info90 rfl rfl) ?_
 refine sr_eg rfl (ev_load Tryz.isAgg90 rfl (hB9.cell rfl)) ?_
 refine sr_eg rfl ((hP2).neNil Tryz.underlying90 rfl rfl) ?_
 refine sr_go 2 rfl <| sr_fin [2] rfl ?_
 cases hS
 exact ke_ret1 Tryz.func60 rfl rfl ⟨_, rfl, rfl, (hb.below (flat1_le _))⟩
theorem ref01_letter_ok (w0 : World) (hg : Gs w0) {c_0 : Int} {r : Bool} (hS : ref01_letter c_0 = some r) :
  Calls Tryz.prog 99 #[.int .u8 c_0] w0 (Ret (fun v w' => v = .bool r ∧ Below w0.heap.size w0 w')) := by
 unfold ref01_letter at hS
 have hb := Below.refl w0.heap.size w0
 refine ck Tryz.func99 [0] rfl rfl ?_
 refine ke_seq <| ke_region <| sr_go 1 rfl <| sr_fin [0] rfl <| ke_seq <| ke_region <| sr_go 3 rfl ?_
 refine sr_join (m := 3) (C := fun (x : Bool) w1 => x = ((decide (c_0 ≥ 97)) && (decide (c_0 ≤ 122))) ∧ w0 = w1) (l' := fun x => [(0, .int .u8 c_0), (8, .bool x)]) ?_ ?_
 ·rintro _ _ ⟨rfl, rfl⟩
  refine sr_go 1 rfl ?_
  refine sr_join (m := 7) (C := fun (x : Bool) w1 => x = (((decide (c_0 ≥ 97)) && (decide (c_0 ≤ 122))) || ((decide (c_0 ≥ 65)) && (decide (c_0 ≤ 90)))) ∧ w0 = w1) (l' := fun x => [(16, .bool x)]) ?_ ?_
  ·rintro _ _ ⟨rfl, rfl⟩
   refine sr_go 1 rfl <| sr_fin [2] rfl ?_
   cases hS
   exact ke_ret1 Tryz.func99 rfl rfl ⟨_, rfl, rfl, hb⟩
  ·intro K9
   rcases Bool.eq_false_or_eq_true ((decide (c_0 ≥ 97)) && (decide (c_0 ≤ 122))) with hg8 | hg8
   ·refine sr_setb 9 rfl hg8 <| sr_go 7 rfl ?_
    exact sr_wk (K9 true _ ⟨by rw [hg8]; rfl, rfl⟩)
   ·refine sr_setb 9 rfl hg8 <| sr_go 3 rfl ?_
    refine sr_join (m := 3) (C := fun (x : Bool) w1 => x = ((decide (c_0 ≥ 65)) && (decide (c_0 ≤ 90))) ∧ w0 = w1) (l' := fun x => [(9, .bool ((decide (c_0 ≥ 97)) && (decide (c_0 ≤ 122)))), (15, .bool x)]) ?_ ?_
    ·rintro _ _ ⟨rfl, rfl⟩
     refine sr_e (ev_pick_f rfl hg8 rfl) ?_
     exact sr_wk (K9 ((decide (c_0 ≥ 65)) && (decide (c_0 ≤ 90))) _ ⟨by rw [hg8]; rfl, rfl⟩)
    ·intro K16
     rcases Bool.eq_false_or_eq_true (decide (c_0 ≥ 65)) with hg15 | hg15
     ·refine sr_setb 12 rfl hg15 <| sr_go 3 rfl ?_
      refine sr_unb 9 rfl hg8 ?_
      exact sr_wk (K16 (decide (c_0 ≤ 90)) _ ⟨by rw [hg15]; rfl, rfl⟩)
     ·refine sr_setb 12 rfl hg15 <| sr_go 3 rfl ?_
      refine sr_unb 9 rfl hg8 ?_
      exact sr_wk (K16 false _ ⟨by rw [hg15]; rfl, rfl⟩)
 ·intro K2
  rcases Bool.eq_false_or_eq_true (decide (c_0 ≥ 97)) with hg1 | hg1
  ·refine sr_setb 5 rfl hg1 <| sr_go 3 rfl ?_
   exact sr_wk (K2 (decide (c_0 ≤ 122)) _ ⟨by rw [hg1]; rfl, rfl⟩)
  ·refine sr_setb 5 rfl hg1 <| sr_go 3 rfl ?_
   exact sr_wk (K2 false _ ⟨by rw [hg1]; rfl, rfl⟩)
theorem ref01_digit_ok (w0 : World) (hg : Gs w0) {c_0 : Int} {r : Bool} (hS : ref01_digit c_0 = some r) :
  Calls Tryz.prog 100 #[.int .u8 c_0] w0 (Ret (fun v w' => v = .bool r ∧ Below w0.heap.size w0 w')) := by
 unfold ref01_digit at hS
 have hb := Below.refl w0.heap.size w0
 refine ck Tryz.func100 [0] rfl rfl ?_
 refine ke_seq <| ke_region <| sr_go 1 rfl <| sr_fin [0] rfl <| ke_seq <| ke_region <| sr_go 3 rfl ?_
 refine sr_join (m := 3) (C := fun (x : Bool) w1 => x = ((decide (c_0 ≥ 48)) && (decide (c_0 ≤ 57))) ∧ w0 = w1) (l' := fun x => [(8, .bool x)]) ?_ ?_
 ·rintro _ _ ⟨rfl, rfl⟩
  refine sr_go 1 rfl <| sr_fin [2] rfl ?_
  cases hS
  exact ke_ret1 Tryz.func100 rfl rfl ⟨_, rfl, rfl, hb⟩
 ·intro K2
  rcases Bool.eq_false_or_eq_true (decide (c_0 ≥ 48)) with hg1 | hg1
  ·refine sr_setb 5 rfl hg1 <| sr_go 3 rfl ?_
   exact sr_wk (K2 (decide (c_0 ≤ 57)) _ ⟨by rw [hg1]; rfl, rfl⟩)
  ·refine sr_setb 5 rfl hg1 <| sr_go 3 rfl ?_
   exact sr_wk (K2 false _ ⟨by rw [hg1]; rfl, rfl⟩)
theorem ref01_Word_L1_ok {w0 : World} (hg : Gs w0) : ∀ (n : Nat), ∀ {r : Bool} {s_0 : Str} {i_3 : Int}, ref01_Word_L1 n s_0 i_3 = some r → ∀ {w : World}, (Below w0.heap.size w0 w) → KE Tryz.prog 61 (Ret (fun v w' => v = .bool r ∧ Below w0.heap.size w0 w')) 54 [.code (sub (bodyOf Tryz.f61) [2, 1, 2, 2, 1]), .inLoop (sub (bodyOf Tryz.f61) [2, 1, 2, 2, 1]), .inBlock 0, .code (sub (bodyOf Tryz.f61) [2, 2])] [(0, str s_0), (3, .int .i64 i_3)] w := by
 intro n
 induction n with
 | zero => intro r s_0 i_3 hS; cases hS
 | succ n ih =>
  have hr0 : ∀ {r : Bool} {s_0 : Str} {i_3 : Int}, ref01_Word_L1 n s_0 i_3 = some r → ∀ {w : World}, (Below w0.heap.size w0 w) → KE Tryz.prog 61 (Ret (fun v w' => v = .bool r ∧ Below w0.heap.size w0 w')) 54 [.inLoop (sub (bodyOf Tryz.f61) [2, 1, 2, 2, 1]), .inBlock 0, .code (sub (bodyOf Tryz.f61) [2, 2])] [(0, str s_0), (3, .int .i64 i_3)] w := fun {r} {s_0} {i_3} hS {w} hb => ke_inLoop (ih hS hb)
  clear ih
  intro r s_0 i_3 hS w hb
  unfold ref01_Word_L1 at hS
  refine ke_seq <| ke_seq <| ke_region <| sr_go 2 rfl ?_
  refine sr_e (ev_slen Tryz.underlying9 rfl) ?_
  refine sr_go 1 rfl <| sr_fin [0, 3, 7] rfl ?_
  refine ke_cond rfl (fun hc1 => ?_) (fun hc1 => ?_)
  ·replace hS := iT hS hc1
   refine ke_skip <| ke_seq ?_
   refine ke_block ?_
   refine ke_seq <| ke_region <| sr_go 2 rfl ?_
   obtain ⟨hk2, hS⟩ := chk_some hS
   refine sr_e (ev_sindex Tryz.underlying9 rfl rfl hk2) ?_
   obtain ⟨y3, hy4, hS⟩ := bS hS
   refine sr_cl Tryz.call99 (ref01_letter_ok _ (hg.below hb) hy4) ?_
   rintro _ w5 ⟨rfl, hbw6⟩
   replace hb := hb.trans (hbw6.mono hb.size)
   refine sr_go 2 rfl ?_
   obtain ⟨z9, hz11, hS⟩ := bS hS
   refine sr_join (m := 6) (C := fun (x : Bool) w1 => z9 = x ∧ Below w5.heap.size w5 w1) (l' := fun x => [(0, str s_0), (3, .int .i64 i_3), (21, .bool x)]) ?_ ?_
   ·rintro _ w12 ⟨rfl, hbw13⟩
    replace hb := hb.trans (hbw13.mono hb.size)
    refine sr_go 1 rfl ?_
    obtain ⟨z21, hz23, hS⟩ := bS hS
    refine sr_join (m := 5) (C := fun (x : Bool) w1 => z21 = x ∧ Below w12.heap.size w12 w1) (l' := fun x => [(0, str s_0), (3, .int .i64 i_3), (27, .bool x)]) ?_ ?_
    ·rintro _ w24 ⟨rfl, hbw25⟩
     replace hb := hb.trans (hbw25.mono hb.size)
     refine sr_go 1 rfl ?_
     obtain ⟨z29, hz31, hS⟩ := bS hS
     refine sr_join (m := 5) (C := fun (x : Bool) w1 => z29 = x ∧ Below w24.heap.size w24 w1) (l' := fun x => [(0, str s_0), (3, .int .i64 i_3), (33, .bool x)]) ?_ ?_
     ·rintro _ w32 ⟨rfl, hbw33⟩
      replace hb := hb.trans (hbw33.mono hb.size)
      refine sr_go 1 rfl ?_
      obtain ⟨z37, hz39, hS⟩ := bS hS
      refine sr_join (m := 5) (C := fun (x : Bool) w1 => z37 = x ∧ Below w32.heap.size w32 w1) (l' := fun x => [(0, str s_0), (3, .int .i64 i_3), (39, .bool x)]) ?_ ?_
      ·rintro _ w40 ⟨rfl, hbw41⟩
       replace hb := hb.trans (hbw41.mono hb.size)
       refine sr_go 1 rfl ?_
       obtain ⟨z45, hz47, hS⟩ := bS hS
       refine sr_join (m := 5) (C := fun (x : Bool) w1 => z45 = x ∧ Below w40.heap.size w40 w1) (l' := fun x => [(0, str s_0), (3, .int .i64 i_3), (45, .bool x)]) ?_ ?_
       ·rintro _ w48 ⟨rfl, hbw49⟩
        replace hb := hb.trans (hbw49.mono hb.size)
        refine sr_fin [0, 3, 45] rfl ?_
        refine ke_cond rfl (fun hc51 => ?_) (fun hc51 => ?_)
        ·replace hS := iT hS hc51
         refine ke_seq <| ke_region <| sr_go 1 rfl <| sr_fin [2] rfl ?_
         cases hS
         exact ke_ret1 Tryz.func61 rfl rfl ⟨_, rfl, rfl, hb⟩
        ·replace hS := iF hS hc51
         refine ke_skip <| ke_inBlock <| ke_region <| sr_go 3 rfl <| sr_fin [0, 3] rfl ?_
         have hK := hr0 hS hb
         exact ke_wk hK
       ·intro K44
        clear hS
        have hj46 := Below.refl w40.heap.size w40
        rcases Bool.eq_false_or_eq_true z37 with hg43 | hg43
        ·have hS := iT hz47 hg43
         refine sr_setb 40 rfl hg43 <| sr_go 2 rfl ?_
         obtain ⟨hk50, hS⟩ := chk_some hS
         refine sr_eg rfl (ev_sindex Tryz.underlying9 rfl rfl hk50) ?_
         refine sr_go 2 rfl ?_
         exact sr_wk (K44 ((byteAt s_0 i_3) != 58) _ ⟨(Option.some.inj hS).symm, hj46⟩)
        ·have hS := iF hz47 hg43
         refine sr_setb 40 rfl hg43 <| sr_go 5 rfl ?_
         exact sr_wk (K44 false _ ⟨(Option.some.inj hS).symm, hj46⟩)
      ·intro K36
       clear hS
       have hj38 := Below.refl w32.heap.size w32
       rcases Bool.eq_false_or_eq_true z29 with hg35 | hg35
       ·have hS := iT hz39 hg35
        refine sr_setb 34 rfl hg35 <| sr_go 2 rfl ?_
        obtain ⟨hk42, hS⟩ := chk_some hS
        refine sr_eg rfl (ev_sindex Tryz.underlying9 rfl rfl hk42) ?_
        refine sr_go 2 rfl ?_
        exact sr_wk (K36 ((byteAt s_0 i_3) != 46) _ ⟨(Option.some.inj hS).symm, hj38⟩)
       ·have hS := iF hz39 hg35
        refine sr_setb 34 rfl hg35 <| sr_go 5 rfl ?_
        exact sr_wk (K36 false _ ⟨(Option.some.inj hS).symm, hj38⟩)
     ·intro K28
      clear hS
      have hj30 := Below.refl w24.heap.size w24
      rcases Bool.eq_false_or_eq_true z21 with hg27 | hg27
      ·have hS := iT hz31 hg27
       refine sr_setb 28 rfl hg27 <| sr_go 2 rfl ?_
       obtain ⟨hk34, hS⟩ := chk_some hS
       refine sr_eg rfl (ev_sindex Tryz.underlying9 rfl rfl hk34) ?_
       refine sr_go 2 rfl ?_
       exact sr_wk (K28 ((byteAt s_0 i_3) != 95) _ ⟨(Option.some.inj hS).symm, hj30⟩)
      ·have hS := iF hz31 hg27
       refine sr_setb 28 rfl hg27 <| sr_go 5 rfl ?_
       exact sr_wk (K28 false _ ⟨(Option.some.inj hS).symm, hj30⟩)
    ·intro K20
     clear hS
     have hj22 := Below.refl w12.heap.size w12
     rcases Bool.eq_false_or_eq_true z9 with hg19 | hg19
     ·have hS := iT hz23 hg19
      refine sr_setb 22 rfl hg19 <| sr_go 2 rfl ?_
      obtain ⟨hk26, hS⟩ := chk_some hS
      refine sr_eg rfl (ev_sindex Tryz.underlying9 rfl rfl hk26) ?_
      refine sr_go 2 rfl ?_
      exact sr_wk (K20 ((byteAt s_0 i_3) != 45) _ ⟨(Option.some.inj hS).symm, hj22⟩)
     ·have hS := iF hz23 hg19
      refine sr_setb 22 rfl hg19 <| sr_go 5 rfl ?_
      exact sr_wk (K20 false _ ⟨(Option.some.inj hS).symm, hj22⟩)
   ·intro K8
    clear hS
    have hj10 := Below.refl w5.heap.size w5
    rcases Bool.eq_false_or_eq_true (!y3) with hg7 | hg7
    ·have hS := iT hz11 hg7
     refine sr_setb 15 rfl hg7 <| sr_go 2 rfl ?_
     obtain ⟨hk14, hS⟩ := chk_some hS
     refine sr_eg rfl (ev_sindex Tryz.underlying9 rfl rfl hk14) ?_
     obtain ⟨y15, hy16, hS⟩ := bS hS
     refine sr_callg (b := true) (e := 15) rfl rfl rfl (vs := [.int .u8 (byteAt s_0 i_3)]) rfl Tryz.call100 rfl (ref01_digit_ok _ (hg.below hb) hy16) (by decide) ?_
     rintro _ w17 ⟨rfl, hbw18⟩
     replace hb := hb.trans (hbw18.mono hb.size)
     replace hj10 := hj10.trans (hbw18.mono hj10.size)
     refine sr_go 2 rfl ?_
     exact sr_wk (K8 (!y15) _ ⟨(Option.some.inj hS).symm, hj10⟩)
    ·have hS := iF hz11 hg7
     refine sr_setb 15 rfl hg7 <| sr_go 6 rfl ?_
     exact sr_wk (K8 false _ ⟨(Option.some.inj hS).symm, hj10⟩)
  ·replace hS := iF hS hc1
   refine ke_exit (k' := _) rfl ?_
   refine ke_seq <| ke_region <| sr_go 1 rfl ?_
   refine sr_e (ev_slen Tryz.underlying9 rfl) ?_
   refine sr_go 2 rfl ?_
   refine sr_join (m := 4) (C := fun (x : Bool) w1 => x = ((decide ((s_0.length : Int) ≥ 1)) && (decide ((s_0.length : Int) ≤ 64))) ∧ w = w1) (l' := fun x => [(53, .bool x)]) ?_ ?_
   ·rintro _ _ ⟨rfl, rfl⟩
    refine sr_go 1 rfl <| sr_fin [2] rfl ?_
    cases hS
    exact ke_ret1 Tryz.func61 rfl rfl ⟨_, rfl, rfl, hb⟩
   ·intro K53
    rcases Bool.eq_false_or_eq_true (decide ((s_0.length : Int) ≥ 1)) with hg52 | hg52
    ·refine sr_setb 49 rfl hg52 <| sr_go 1 rfl ?_
     refine sr_eg rfl (ev_slen Tryz.underlying9 rfl) ?_
     refine sr_go 2 rfl ?_
     exact sr_wk (K53 (decide ((s_0.length : Int) ≤ 64)) _ ⟨by rw [hg52]; rfl, rfl⟩)
    ·refine sr_setb 49 rfl hg52 <| sr_go 4 rfl ?_
     exact sr_wk (K53 false _ ⟨by rw [hg52]; rfl, rfl⟩)
theorem ref01_Word_ok (w0 : World) (hg : Gs w0) {s_0 : Str} {r : Bool} (hS : ref01_Word s_0 = some r) :
  Calls Tryz.prog 61 #[str s_0] w0 (Ret (fun v w' => v = .bool r ∧ Below w0.heap.size w0 w')) := by
 unfold ref01_Word at hS
 have hb := Below.refl w0.heap.size w0
 refine ck Tryz.func61 [0] rfl rfl ?_
 refine ke_seq <| ke_region <| sr_go 1 rfl <| sr_fin [0] rfl <| ke_seq <| ke_seq <| ke_region <| sr_go 1 rfl <| sr_fin [0, 3] rfl ?_
 refine ke_block ?_
 have hK := ref01_Word_L1_ok hg _ hS hb
 exact ke_wk (ke_loop hK)
theorem ref03_ReadHex_B2_ok {w0 : World} (hg : Gs w0) (r0 : Str → Int → Int → Option (Int × Int))
  (hr0 : ∀ {r : Int × Int} {s_0 : Str} {n_4 : Int} {i_5 : Int}, r0 s_0 n_4 i_5 = some r → ∀ {w : World}, (Below w0.heap.size w0 w) → KE Tryz.prog 101 (Ret (fun v w' => v = .tuple #[.int .u64 r.1, .int .i64 r.2] ∧ Below w0.heap.size w0 w')) 44 [.inLoop (sub (bodyOf Tryz.f101) [2, 2, 2, 1, 2, 2, 1]), .inBlock 0, .code (sub (bodyOf Tryz.f101) [2, 2, 2, 2])] [(0, str s_0), (4, .int .u64 n_4), (5, .int .i64 i_5)] w) {r : Int × Int} {s_0 : Str} {n_4 : Int} {i_5 : Int} {d_7 : Int} (hS : ref03_ReadHex_B2 r0 s_0 n_4 i_5 d_7 = some r) {w : World} (hb : Below w0.heap.size w0 w) :
  KE Tryz.prog 101 (Ret (fun v w' => v = .tuple #[.int .u64 r.1, .int .i64 r.2] ∧ Below w0.heap.size w0 w')) 44 [.inBlock 2, .code (sub (bodyOf Tryz.f101) [2, 2, 2, 1, 2, 2, 1, 2, 1, 2, 2, 2, 2]), .inBlock 1, .code (sub (bodyOf Tryz.f101) [2, 2, 2, 1, 2, 2, 1, 2, 2]), .inLoop (sub (bodyOf Tryz.f101) [2, 2, 2, 1, 2, 2, 1]), .inBlock 0, .code (sub (bodyOf Tryz.f101) [2, 2, 2, 2])] [(0, str s_0), (4, .int .u64 n_4), (5, .int .i64 i_5), (7, .int .u64 d_7)] w := by
 unfold ref03_ReadHex_B2 at hS
 refine ke_inBlock <| ke_region <| sr_go 1 rfl ?_
 refine sr_e (ev_mul rfl rfl) ?_
 refine sr_go 3 rfl <| sr_fin [0, 4, 5] rfl <| ke_inBlock <| ke_region <| sr_go 3 rfl <| sr_fin [0, 4, 5] rfl ?_
 have hK := hr0 hS hb
 exact ke_wk hK
theorem ref03_ReadHex_L1_ok {w0 : World} (hg : Gs w0) : ∀ (n : Nat), ∀ {r : Int × Int} {s_0 : Str} {n_4 : Int} {i_5 : Int}, ref03_ReadHex_L1 n s_0 n_4 i_5 = some r → ∀ {w : World}, (Below w0.heap.size w0 w) → KE Tryz.prog 101 (Ret (fun v w' => v = .tuple #[.int .u64 r.1, .int .i64 r.2] ∧ Below w0.heap.size w0 w')) 44 [.code (sub (bodyOf Tryz.f101) [2, 2, 2, 1, 2, 2, 1]), .inLoop (sub (bodyOf Tryz.f101) [2, 2, 2, 1, 2, 2, 1]), .inBlock 0, .code (sub (bodyOf Tryz.f101) [2, 2, 2, 2])] [(0, str s_0), (4, .int .u64 n_4), (5, .int .i64 i_5)] w := by
 intro n
 induction n with
 | zero => intro r s_0 n_4 i_5 hS; cases hS
 | succ n ih =>
  have hr0 : ∀ {r : Int × Int} {s_0 : Str} {n_4 : Int} {i_5 : Int}, ref03_ReadHex_L1 n s_0 n_4 i_5 = some r → ∀ {w : World}, (Below w0.heap.size w0 w) → KE Tryz.prog 101 (Ret (fun v w' => v = .tuple #[.int .u64 r.1, .int .i64 r.2] ∧ Below w0.heap.size w0 w')) 44 [.inLoop (sub (bodyOf Tryz.f101) [2, 2, 2, 1, 2, 2, 1]), .inBlock 0, .code (sub (bodyOf Tryz.f101) [2, 2, 2, 2])] [(0, str s_0), (4, .int .u64 n_4), (5, .int .i64 i_5)] w := fun {r} {s_0} {n_4} {i_5} hS {w} hb => ke_inLoop (ih hS hb)
  clear ih
  intro r s_0 n_4 i_5 hS w hb
  unfold ref03_ReadHex_L1 at hS
  refine ke_seq <| ke_seq <| ke_region <| sr_go 2 rfl <| sr_fin [0, 4, 5, 12] rfl ?_
  refine ke_cond rfl (fun hc2 => ?_) (fun hc2 => ?_)
  ·replace hS := iT hS hc2
   refine ke_skip <| ke_seq ?_
   refine ke_block ?_
   refine ke_seq <| ke_region <| sr_go 2 rfl ?_
   obtain ⟨hk3, hS⟩ := chk_some hS
   refine sr_e (ev_sindex Tryz.underlying9 rfl rfl hk3) ?_
   refine sr_go 1 rfl <| sr_fin [0, 4, 5, 6] rfl <| ke_seq <| ke_region <| sr_go 1 rfl <| sr_fin [0, 4, 5, 6] rfl <| ke_seq ?_
   refine ke_block ?_
   refine ke_seq <| ke_region <| sr_go 3 rfl ?_
   refine sr_join (m := 3) (C := fun (x : Bool) w1 => x = ((decide ((byteAt s_0 i_5) ≥ 48)) && (decide ((byteAt s_0 i_5) ≤ 57))) ∧ w = w1) (l' := fun x => [(0, str s_0), (4, .int .u64 n_4), (5, .int .i64 i_5), (6, .int .u8 (byteAt s_0 i_5)), (24, .bool x)]) ?_ ?_
   ·rintro _ _ ⟨rfl, rfl⟩
    refine sr_go 1 rfl <| sr_fin [0, 4, 5, 6, 18] rfl ?_
    refine ke_cond rfl (fun hc11 => ?_) (fun hc11 => ?_)
    ·replace hS := iT hS hc11
     refine ke_region <| sr_go 2 rfl ?_
     refine sr_e (ev_conv Tryz.underlying116 Tryz.underlying5 rfl) ?_
     refine sr_go 1 rfl <| sr_fin [0, 4, 5, 7] rfl ?_
     have hK := ref03_ReadHex_B2_ok hg _ hr0 hS hb
     exact ke_wk hK
    ·replace hS := iF hS hc11
     refine ke_seq <| ke_region <| sr_go 3 rfl ?_
     refine sr_join (m := 3) (C := fun (x : Bool) w1 => x = ((decide ((byteAt s_0 i_5) ≥ 97)) && (decide ((byteAt s_0 i_5) ≤ 102))) ∧ w = w1) (l' := fun x => [(0, str s_0), (4, .int .u64 n_4), (5, .int .i64 i_5), (6, .int .u8 (byteAt s_0 i_5)), (34, .bool x)]) ?_ ?_
     ·rintro _ _ ⟨rfl, rfl⟩
      refine sr_go 1 rfl <| sr_fin [0, 4, 5, 6, 28] rfl ?_
      refine ke_cond rfl (fun hc19 => ?_) (fun hc19 => ?_)
      ·replace hS := iT hS hc19
       refine ke_region <| sr_go 2 rfl ?_
       refine sr_e (ev_conv Tryz.underlying116 Tryz.underlying5 rfl) ?_
       refine sr_go 2 rfl <| sr_fin [0, 4, 5, 7] rfl ?_
       have hK := ref03_ReadHex_B2_ok hg _ hr0 hS hb
       exact ke_wk hK
      ·replace hS := iF hS hc19
       refine ke_seq <| ke_region <| sr_go 2 rfl <| sr_fin [2, 3] rfl ?_
       cases hS
       exact ke_ret2 Tryz.func101 rfl rfl rfl ⟨_, rfl, rfl, hb⟩
     ·intro K13
      rcases Bool.eq_false_or_eq_true (decide ((byteAt s_0 i_5) ≥ 97)) with hg12 | hg12
      ·refine sr_setb 31 rfl hg12 <| sr_go 3 rfl ?_
       exact sr_wk (K13 (decide ((byteAt s_0 i_5) ≤ 102)) _ ⟨by rw [hg12]; rfl, rfl⟩)
      ·refine sr_setb 31 rfl hg12 <| sr_go 3 rfl ?_
       exact sr_wk (K13 false _ ⟨by rw [hg12]; rfl, rfl⟩)
   ·intro K5
    rcases Bool.eq_false_or_eq_true (decide ((byteAt s_0 i_5) ≥ 48)) with hg4 | hg4
    ·refine sr_setb 21 rfl hg4 <| sr_go 3 rfl ?_
     exact sr_wk (K5 (decide ((byteAt s_0 i_5) ≤ 57)) _ ⟨by rw [hg4]; rfl, rfl⟩)
    ·refine sr_setb 21 rfl hg4 <| sr_go 3 rfl ?_
     exact sr_wk (K5 false _ ⟨by rw [hg4]; rfl, rfl⟩)
  ·replace hS := iF hS hc2
   refine ke_exit (k' := _) rfl ?_
   refine ke_seq <| ke_region <| sr_go 3 rfl <| sr_fin [2, 3] rfl ?_
   cases hS
   exact ke_ret2 Tryz.func101 rfl rfl rfl ⟨_, rfl, rfl, hb⟩
theorem ref03_ReadHex_ok (w0 : World) (hg : Gs w0) {s_0 : Str} {r : Int × Int} (hS : ref03_ReadHex s_0 = some r) :
  Calls Tryz.prog 101 #[str s_0] w0 (Ret (fun v w' => v = .tuple #[.int .u64 r.1, .int .i64 r.2] ∧ Below w0.heap.size w0 w')) := by
 unfold ref03_ReadHex at hS
 have hb := Below.refl w0.heap.size w0
 refine ck Tryz.func101 [0] rfl rfl ?_
 refine ke_seq <| ke_region <| sr_go 2 rfl <| sr_fin [0] rfl <| ke_seq <| ke_seq <| ke_region <| sr_go 1 rfl ?_
 refine sr_e (ev_slen Tryz.underlying9 rfl) ?_
 refine sr_go 1 rfl <| sr_fin [0, 10] rfl ?_
 refine ke_cond rfl (fun hc1 => ?_) (fun hc1 => ?_)
 ·replace hS := iT hS hc1
  refine ke_seq <| ke_region <| sr_go 2 rfl <| sr_fin [2, 3] rfl ?_
  cases hS
  exact ke_ret2 Tryz.func101 rfl rfl rfl ⟨_, rfl, rfl, hb⟩
 ·replace hS := iF hS hc1
  refine ke_skip <| ke_seq <| ke_region <| sr_go 1 rfl <| sr_fin [0, 4] rfl <| ke_seq <| ke_seq <| ke_region <| sr_go 1 rfl <| sr_fin [0, 4, 5] rfl ?_
  refine ke_block ?_
  have hK := ref03_ReadHex_L1_ok hg _ hS hb
  exact ke_wk (ke_loop hK)
theorem ref22_Valid_ok (w0 : World) (hg : Gs w0) {v_0 : api_Verifier} {r : Bool} (hS : ref22_Valid v_0 = some r) :
  Calls Tryz.prog 62 #[.agg #[str v_0.Salt, .int .i64 v_0.Rounds, str v_0.Hash]] w0 (Ret (fun v w' => v = .bool r ∧ Below w0.heap.size w0 w')) := by
 unfold ref22_Valid at hS
 have hb := Below.refl w0.heap.size w0
 obtain ⟨A0, hA0, hAe⟩ : ∃ A0 : Nat → Prop, (∀ b, A0 b → b < w0.heap.size) ∧ A0 = fun _ => False := ⟨_, fun _ h => h.elim, rfl⟩
 clear hAe
 have hA := hA0
 have hi : ∀ b, A0 b → A0 b := fun _ h => h
 have hH := Hp.nil A0 w0.heap.size w0
 refine ck Tryz.func62 [0] rfl rfl ?_
 refine ke_seq <| ke_region ?_
 refine sr_box hH hb.size hA rfl (by decide) ?_
 intro g1 A2 w3 hH1 hst4 hbw5 hinc6 hA1 hge7
 replace hb := hb.trans (hbw5.mono hb.size)
 replace hi := fun b hb => hinc6 b (hi b hb)
 replace hH : Hp A2 w0.heap.size w3 [(g1, .cells #[str v_0.Salt, .int .i64 v_0.Rounds, str v_0.Hash] 45 (0, 0))] := hH1
 replace hA := hA1
 clear hH1 hA1
 refine sr_go 1 rfl <| sr_fin [1] rfl <| ke_seq <| ke_region ?_
 refine sr_fa 2 Tryz.underlying45 rfl Tryz.info9 ?_
 refine sr_ld (str v_0.Hash) Tryz.isAgg9 rfl (hH.cell (i := 0) rfl rfl) ?_
 obtain ⟨y8, hy9, hS⟩ := bS hS
 refine sr_cl Tryz.call101 (ref03_ReadHex_ok _ (hg.below hb) hy9) ?_
 rintro _ w10 ⟨rfl, hbw11⟩
 replace hb := hb.trans (hbw11.mono hb.size)
 replace hA := lt_mono hA hbw11.size
 replace hH := hH.below hbw11
 refine sr_go 5 rfl <| sr_fin [1, 4] rfl <| ke_seq <| ke_region ?_
 refine sr_fa 0 Tryz.underlying45 rfl Tryz.info9 ?_
 refine sr_ld (str v_0.Salt) Tryz.isAgg9 rfl (hH.cell (i := 0) rfl rfl) ?_
 obtain ⟨y12, hy13, hS⟩ := bS hS
 refine sr_cl Tryz.call61 (ref01_Word_ok _ (hg.below hb) hy13) ?_
 rintro _ w14 ⟨rfl, hbw15⟩
 replace hb := hb.trans (hbw15.mono hb.size)
 replace hA := lt_mono hA hbw15.size
 replace hH := hH.below hbw15
 refine sr_go 1 rfl ?_
 refine sr_join (m := 4) (C := fun (x : Bool) w1 => x = (y12 && (decide (v_0.Rounds ≥ 1))) ∧ w14 = w1) (l' := fun x => [(1, pT g1 0), (4, .int .i64 y8.2), (18, .bool x)]) ?_ ?_
 ·rintro _ _ ⟨rfl, rfl⟩
  refine sr_go 1 rfl ?_
  refine sr_join (m := 4) (C := fun (x : Bool) w1 => x = ((y12 && (decide (v_0.Rounds ≥ 1))) && (decide (v_0.Rounds ≤ 64))) ∧ w14 = w1) (l' := fun x => [(4, .int .i64 y8.2), (23, .bool x)]) ?_ ?_
  ·rintro _ _ ⟨rfl, rfl⟩
   refine sr_go 1 rfl ?_
   refine sr_join (m := 3) (C := fun (x : Bool) w1 => x = (((y12 && (decide (v_0.Rounds ≥ 1))) && (decide (v_0.Rounds ≤ 64))) && (y8.2 == 0)) ∧ w14 = w1) (l' := fun x => [(27, .bool x)]) ?_ ?_
   ·rintro _ _ ⟨rfl, rfl⟩
    refine sr_go 1 rfl <| sr_fin [2] rfl ?_
    cases hS
    exact ke_ret1 Tryz.func62 rfl rfl ⟨_, rfl, rfl, hb⟩
   ·intro K31
    rcases Bool.eq_false_or_eq_true ((y12 && (decide (v_0.Rounds ≥ 1))) && (decide (v_0.Rounds ≤ 64))) with hg30 | hg30
    ·refine sr_setb 24 rfl hg30 <| sr_go 3 rfl ?_
     exact sr_wk (K31 (y8.2 == 0) _ ⟨by rw [hg30]; rfl, rfl⟩)
    ·refine sr_setb 24 rfl hg30 <| sr_go 3 rfl ?_
     exact sr_wk (K31 false _ ⟨by rw [hg30]; rfl, rfl⟩)
  ·intro K24
   rcases Bool.eq_false_or_eq_true (y12 && (decide (v_0.Rounds ≥ 1))) with hg23 | hg23
   ·refine sr_eg hg23 (ev_fieldAddr (i := 1) Tryz.underlying45 rfl Tryz.info3 rfl rfl) ?_
    refine sr_eg hg23 (ev_load Tryz.isAgg3 rfl (hH.cell (i := 0) rfl rfl)) ?_
    refine sr_setb 19 rfl hg23 <| sr_go 2 rfl ?_
    exact sr_wk (K24 (decide (v_0.Rounds ≤ 64)) _ ⟨by rw [hg23]; rfl, rfl⟩)
   ·refine sr_setb 19 rfl hg23 <| sr_go 4 rfl ?_
    exact sr_wk (K24 false _ ⟨by rw [hg23]; rfl, rfl⟩)
 ·intro K17
  rcases Bool.eq_false_or_eq_true y12 with hg16 | hg16
  ·refine sr_eg hg16 (ev_fieldAddr (i := 1) Tryz.underlying45 rfl Tryz.info3 rfl rfl) ?_
   refine sr_eg hg16 (ev_load Tryz.isAgg3 rfl (hH.cell (i := 0) rfl rfl)) ?_
   refine sr_setb 14 rfl hg16 <| sr_go 2 rfl ?_
   exact sr_wk (K17 (decide (v_0.Rounds ≥ 1)) _ ⟨by rw [hg16]; rfl, rfl⟩)
  ·refine sr_setb 14 rfl hg16 <| sr_go 4 rfl ?_
   exact sr_wk (K17 false _ ⟨by rw [hg16]; rfl, rfl⟩)
theorem ref01_Clean_L1_ok {w0 : World} (hg : Gs w0) : ∀ (n : Nat), ∀ {r : Bool} {s_0 : Str} {i_3 : Int}, ref01_Clean_L1 n s_0 i_3 = some r → ∀ {w : World}, (Below w0.heap.size w0 w) → KE Tryz.prog 63 (Ret (fun v w' => v = .bool r ∧ Below w0.heap.size w0 w')) 41 [.code (sub (bodyOf Tryz.f63) [2, 2, 1, 2, 2, 1]), .inLoop (sub (bodyOf Tryz.f63) [2, 2, 1, 2, 2, 1]), .inBlock 0, .code (sub (bodyOf Tryz.f63) [2, 2, 2])] [(0, str s_0), (3, .int .i64 i_3)] w := by
 intro n
 induction n with
 | zero => intro r s_0 i_3 hS; cases hS
 | succ n ih =>
  have hr0 : ∀ {r : Bool} {s_0 : Str} {i_3 : Int}, ref01_Clean_L1 n s_0 i_3 = some r → ∀ {w : World}, (Below w0.heap.size w0 w) → KE Tryz.prog 63 (Ret (fun v w' => v = .bool r ∧ Below w0.heap.size w0 w')) 41 [.inLoop (sub (bodyOf Tryz.f63) [2, 2, 1, 2, 2, 1]), .inBlock 0, .code (sub (bodyOf Tryz.f63) [2, 2, 2])] [(0, str s_0), (3, .int .i64 i_3)] w := fun {r} {s_0} {i_3} hS {w} hb => ke_inLoop (ih hS hb)
  clear ih
  intro r s_0 i_3 hS w hb
  unfold ref01_Clean_L1 at hS
  refine ke_seq <| ke_seq <| ke_region <| sr_go 2 rfl ?_
  refine sr_e (ev_slen Tryz.underlying9 rfl) ?_
  refine sr_go 1 rfl <| sr_fin [0, 3, 28] rfl ?_
  refine ke_cond rfl (fun hc25 => ?_) (fun hc25 => ?_)
  ·replace hS := iT hS hc25
   refine ke_skip <| ke_seq ?_
   refine ke_block ?_
   refine ke_seq <| ke_region <| sr_go 2 rfl ?_
   obtain ⟨hk26, hS⟩ := chk_some hS
   refine sr_e (ev_sindex Tryz.underlying9 rfl rfl hk26) ?_
   refine sr_go 2 rfl ?_
   obtain ⟨z29, hz31, hS⟩ := bS hS
   refine sr_join (m := 5) (C := fun (x : Bool) w1 => z29 = x ∧ Below w.heap.size w w1) (l' := fun x => [(0, str s_0), (3, .int .i64 i_3), (40, .bool x)]) ?_ ?_
   ·rintro _ w32 ⟨rfl, hbw33⟩
    replace hb := hb.trans (hbw33.mono hb.size)
    refine sr_fin [0, 3, 40] rfl ?_
    refine ke_cond rfl (fun hc35 => ?_) (fun hc35 => ?_)
    ·replace hS := iT hS hc35
     refine ke_seq <| ke_region <| sr_go 1 rfl <| sr_fin [2] rfl ?_
     cases hS
     exact ke_ret1 Tryz.func63 rfl rfl ⟨_, rfl, rfl, hb⟩
    ·replace hS := iF hS hc35
     refine ke_skip <| ke_inBlock <| ke_region <| sr_go 3 rfl <| sr_fin [0, 3] rfl ?_
     have hK := hr0 hS hb
     exact ke_wk hK
   ·intro K28
    clear hS
    have hj30 := Below.refl w.heap.size w
    rcases Bool.eq_false_or_eq_true (decide ((byteAt s_0 i_3) < 32)) with hg27 | hg27
    ·have hS := iT hz31 hg27
     refine sr_setb 35 rfl hg27 <| sr_go 5 rfl ?_
     exact sr_wk (K28 true _ ⟨(Option.some.inj hS).symm, hj30⟩)
    ·have hS := iF hz31 hg27
     refine sr_setb 35 rfl hg27 <| sr_go 2 rfl ?_
     obtain ⟨hk34, hS⟩ := chk_some hS
     refine sr_eg rfl (ev_sindex Tryz.underlying9 rfl rfl hk34) ?_
     refine sr_go 2 rfl ?_
     exact sr_wk (K28 (decide ((byteAt s_0 i_3) > 126)) _ ⟨(Option.some.inj hS).symm, hj30⟩)
  ·replace hS := iF hS hc25
   refine ke_exit (k' := _) rfl ?_
   refine ke_seq <| ke_region <| sr_go 1 rfl <| sr_fin [2] rfl ?_
   cases hS
   exact ke_ret1 Tryz.func63 rfl rfl ⟨_, rfl, rfl, hb⟩
theorem ref01_Clean_ok (w0 : World) (hg : Gs w0) {s_0 : Str} {r : Bool} (hS : ref01_Clean s_0 = some r) :
  Calls Tryz.prog 63 #[str s_0] w0 (Ret (fun v w' => v = .bool r ∧ Below w0.heap.size w0 w')) := by
 unfold ref01_Clean at hS
 have hb := Below.refl w0.heap.size w0
 refine ck Tryz.func63 [0] rfl rfl ?_
 refine ke_seq <| ke_region <| sr_go 1 rfl <| sr_fin [0] rfl <| ke_seq <| ke_seq <| ke_region <| sr_go 1 rfl ?_
 refine sr_e (ev_slen Tryz.underlying9 rfl) ?_
 refine sr_go 2 rfl ?_
 refine sr_join (m := 4) (C := fun (x : Bool) w1 => x = ((decide ((s_0.length : Int) < 1)) || (decide ((s_0.length : Int) > 256))) ∧ w0 = w1) (l' := fun x => [(0, str s_0), (11, .bool x)]) ?_ ?_
 ·rintro _ _ ⟨rfl, rfl⟩
  refine sr_go 1 rfl ?_
  obtain ⟨z10, hz12, hS⟩ := bS hS
  refine sr_join (m := 4) (C := fun (x : Bool) w1 => z10 = x ∧ Below w0.heap.size w0 w1) (l' := fun x => [(0, str s_0), (16, .bool x)]) ?_ ?_
  ·rintro _ w13 ⟨rfl, hbw14⟩
   replace hb := hb.trans (hbw14.mono hb.size)
   refine sr_go 1 rfl ?_
   obtain ⟨z18, hz20, hS⟩ := bS hS
   refine sr_join (m := 7) (C := fun (x : Bool) w1 => z18 = x ∧ Below w13.heap.size w13 w1) (l' := fun x => [(0, str s_0), (24, .bool x)]) ?_ ?_
   ·rintro _ w21 ⟨rfl, hbw22⟩
    replace hb := hb.trans (hbw22.mono hb.size)
    refine sr_fin [0, 24] rfl ?_
    refine ke_cond rfl (fun hc24 => ?_) (fun hc24 => ?_)
    ·replace hS := iT hS hc24
     refine ke_seq <| ke_region <| sr_go 1 rfl <| sr_fin [2] rfl ?_
     cases hS
     exact ke_ret1 Tryz.func63 rfl rfl ⟨_, rfl, rfl, hb⟩
    ·replace hS := iF hS hc24
     refine ke_skip <| ke_seq <| ke_seq <| ke_region <| sr_go 1 rfl <| sr_fin [0, 3] rfl ?_
     refine ke_block ?_
     have hK := ref01_Clean_L1_ok hg _ hS hb
     exact ke_wk (ke_loop hK)
   ·intro K17
    clear hS
    have hj19 := Below.refl w13.heap.size w13
    rcases Bool.eq_false_or_eq_true z10 with hg16 | hg16
    ·have hS := iT hz20 hg16
     refine sr_setb 17 rfl hg16 <| sr_go 7 rfl ?_
     exact sr_wk (K17 true _ ⟨(Option.some.inj hS).symm, hj19⟩)
    ·have hS := iF hz20 hg16
     refine sr_setb 17 rfl hg16 <| sr_go 2 rfl ?_
     refine sr_eg rfl (ev_slen Tryz.underlying9 rfl) ?_
     refine sr_go 1 rfl ?_
     obtain ⟨hk23, hS⟩ := chk_some hS
     refine sr_eg rfl (ev_sindex Tryz.underlying9 rfl rfl hk23) ?_
     refine sr_go 2 rfl ?_
     exact sr_wk (K17 ((byteAt s_0 (IntKind.i64.wrap ((s_0.length : Int) - 1))) == 32) _ ⟨(Option.some.inj hS).symm, hj19⟩)
  ·intro K9
   clear hS
   have hj11 := Below.refl w0.heap.size w0
   rcases Bool.eq_false_or_eq_true ((decide ((s_0.length : Int) < 1)) || (decide ((s_0.length : Int) > 256))) with hg8 | hg8
   ·have hS := iT hz12 hg8
    refine sr_setb 12 rfl hg8 <| sr_go 4 rfl ?_
    exact sr_wk (K9 true _ ⟨(Option.some.inj hS).symm, hj11⟩)
   ·have hS := iF hz12 hg8
    refine sr_setb 12 rfl hg8 <| sr_go 1 rfl ?_
    obtain ⟨hk15, hS⟩ := chk_some hS
    refine sr_eg rfl (ev_sindex Tryz.underlying9 rfl rfl hk15) ?_
    refine sr_go 2 rfl ?_
    exact sr_wk (K9 ((byteAt s_0 0) == 32) _ ⟨(Option.some.inj hS).symm, hj11⟩)
 ·intro K2
  rcases Bool.eq_false_or_eq_true (decide ((s_0.length : Int) < 1)) with hg1 | hg1
  ·refine sr_setb 7 rfl hg1 <| sr_go 4 rfl ?_
   exact sr_wk (K2 true _ ⟨by rw [hg1]; rfl, rfl⟩)
  ·refine sr_setb 7 rfl hg1 <| sr_go 1 rfl ?_
   refine sr_eg rfl (ev_slen Tryz.underlying9 rfl) ?_
   refine sr_go 2 rfl ?_
   exact sr_wk (K2 (decide ((s_0.length : Int) > 256)) _ ⟨by rw [hg1]; rfl, rfl⟩)
theorem ref39_at_L1_ok {w0 : World} (hg : Gs w0) {ρA : Tags} (hbd : ∀ b, ρA b ≠ 0 → b < w0.heap.size) (hz : Gz (flat1 ρA)) : ∀ (n : Nat), ∀ {r : Int} {ol_0 : ref39_Logins} {name_1 : Str} {i_5 : Int} {gl_0 : Nat}, ref39_at_L1 n ol_0 name_1 i_5 = some r → ∀ {ρ : Tags} {w : World}, (Fr (flat1 ρA) w0 ρ w) → (ref39_Logins.O (fun _ => 1) ρ w gl_0 ol_0) → KE Tryz.prog 64 (Ret (fun v w' => v = .int .i64 r ∧ Below w0.heap.size w0 w')) 26 [.code (sub (bodyOf Tryz.f64) [2, 1, 2, 2, 1]), .inLoop (sub (bodyOf Tryz.f64) [2, 1, 2, 2, 1]), .inBlock 0, .code (sub (bodyOf Tryz.f64) [2, 2])] [(0, pT gl_0 0), (1, str name_1), (5, .int .i64 i_5)] w := by
 intro n
 induction n with
 | zero => intro r ol_0 name_1 i_5 gl_0 hS; cases hS
 | succ n ih =>
  have hr0 : ∀ {r : Int} {ol_0 : ref39_Logins} {name_1 : Str} {i_5 : Int} {gl_0 : Nat}, ref39_at_L1 n ol_0 name_1 i_5 = some r → ∀ {ρ : Tags} {w : World}, (Fr (flat1 ρA) w0 ρ w) → (ref39_Logins.O (fun _ => 1) ρ w gl_0 ol_0) → KE Tryz.prog 64 (Ret (fun v w' => v = .int .i64 r ∧ Below w0.heap.size w0 w')) 26 [.inLoop (sub (bodyOf Tryz.f64) [2, 1, 2, 2, 1]), .inBlock 0, .code (sub (bodyOf Tryz.f64) [2, 2])] [(0, pT gl_0 0), (1, str name_1), (5, .int .i64 i_5)] w := fun {r} {ol_0} {name_1} {i_5} {gl_0} hS {ρ} {w} hb hol_0 => ke_inLoop (ih hS hb hol_0)
  clear ih
  intro r ol_0 name_1 i_5 gl_0 hS ρ w hb hol_0
  unfold ref39_at_L1 at hS
  obtain ⟨v10, v12, v14, M16, hB18, hP11, h13, h15, hN17⟩ := hol_0
  refine ke_seq <| ke_seq <| ke_region <| sr_go 3 rfl ?_
  refine sr_fa 1 Tryz.underlying96 rfl Tryz.info93 ?_
  refine sr_ld v12 Tryz.isAgg93 rfl (hB18.cell rfl) ?_
  refine sr_e (ev_sllenW Tryz.underlying93 rfl h13.asSl) ?_
  refine sr_go 1 rfl <| sr_fin [0, 1, 5, 12] rfl ?_
  refine ke_cond rfl (fun hc19 => ?_) (fun hc19 => ?_)
  ·replace hS := iT hS hc19
   refine ke_skip <| ke_seq ?_
   refine ke_block ?_
   refine ke_seq <| ke_region <| sr_go 2 rfl ?_
   refine sr_fa 1 Tryz.underlying96 rfl Tryz.info93 ?_
   refine sr_ld v12 Tryz.isAgg93 rfl (hB18.cell rfl) ?_
   refine sr_go 1 rfl ?_
   obtain ⟨y20, hy21, hS⟩ := bS hS
   obtain ⟨b22, o23, cs25, hq26, he24, hg27, ho28⟩ := h13.elemQ (P := Tryz.prog) Tryz.underlying93 Tryz.info103 rfl hy21
   obtain rfl : cs25 = [str y20.name, str y20.v.Salt, .int .i64 y20.v.Rounds, str y20.v.Hash, str y20.code, .int .i64 y20.last] := he24.rd
   refine sr_e (hq26 w rfl rfl) ?_
   refine sr_fa (o23 + 0) Tryz.underlying103 rfl Tryz.info9 ?_
   refine sr_ld (str y20.name) Tryz.isAgg9 rfl (he24.cell 0 _ rfl) ?_
   refine sr_go 1 rfl ?_
   refine sr_e (ev_seq rfl rfl) ?_
   refine sr_fin [0, 1, 5, 24] rfl ?_
   refine ke_cond rfl (fun hc29 => ?_) (fun hc29 => ?_)
   ·replace hS := iT hS hc29
    refine ke_seq <| ke_region <| sr_go 2 rfl <| sr_fin [4] rfl ?_
    cases hS
    exact ke_ret1 Tryz.func64 rfl rfl ⟨_, rfl, rfl, (hb.below (flat1_le _))⟩
   ·replace hS := iF hS hc29
    refine ke_skip <| ke_inBlock <| ke_region <| sr_go 3 rfl <| sr_fin [0, 1, 5] rfl ?_
    have hK := hr0 hS hb ⟨_, _, _, _, hB18, hP11, h13, h15, hN17⟩
    exact ke_wk hK
  ·replace hS := iF hS hc19
   refine ke_exit (k' := _) rfl ?_
   refine ke_seq <| ke_region <| sr_go 1 rfl <| sr_fin [4] rfl ?_
   cases hS
   exact ke_ret1 Tryz.func64 rfl rfl ⟨_, rfl, rfl, (hb.below (flat1_le _))⟩
theorem ref39_at_ok (w0 : World) (hg : Gs w0) {ρA : Tags} (hbd : ∀ b, ρA b ≠ 0 → b < w0.heap.size) (hz : Gz ρA) {τ0 : Nat → Nat} (hτ0 : ∀ p, 1 ≤ τ0 p) {l_0 : ref39_Logins} {name_1 : Str} {gl_0 : Nat} {r : Int} (ho0 : ref39_Logins.O τ0 ρA w0 gl_0 l_0) (hS : ref39_at l_0 name_1 = some r) :
  Calls Tryz.prog 64 #[pT gl_0 0, str name_1] w0 (Ret (fun v w' => v = .int .i64 r ∧ Below w0.heap.size w0 w')) := by
 unfold ref39_at at hS
 have hb := flat1_fr (ρ := ρA) (w := w0) hbd
 have hz := hz.flat1
 obtain ⟨v1, v3, v5, M7, hB9, hP2, h4, h6, hN8⟩ := ho0
 replace hB9 := hB9.mv (flat1_mv (hτ0 0))
 replace hP2 := PtrO.mv hP2 ref22_Locks.objK (fun p hp => flat1_mv (hτ0 (1 + p))) (fun _ _ => by decide)
 replace h4 := h4.mv (flat1_mv (hτ0 3)) (by decide)
 replace h6 := h6.mv (flat1_mv (hτ0 4)) (by decide)
 replace hN8 := hN8.mv (flat1_mv (hτ0 5)) (by decide)
 refine ck Tryz.func64 [0, 1] rfl rfl ?_
 refine ke_seq <| ke_region <| sr_go 1 rfl <| sr_fin [0, 1] rfl <| ke_seq <| ke_seq <| ke_region <| sr_go 1 rfl <| sr_fin [0, 1, 5] rfl ?_
 refine ke_block ?_
 have hK := ref39_at_L1_ok hg hbd hz _ hS hb ⟨_, _, _, _, hB9, hP2, h4, h6, hN8⟩
 exact ke_wk (ke_loop hK)
theorem ref39_Logins_Enroll_B1_ok {w0 : World} (hg : Gs w0) {ρA : Tags} (hbd : ∀ b, ρA b ≠ 0 → b < w0.heap.size) {o : Nat} (ho2 : 2 ≤ o) {gl_0 : Nat} (hz : Gz (enter ρA o 6)) {r : Int × ref39_Logins} {ol_0 : ref39_Logins} {code_3 : Str} {v_6_0 : Str} {v_6_1 : Int} {v_6_2 : Str} {k_9 : Int} {gv_6 : Nat} (hS : ref39_Logins_Enroll_B1 ol_0 code_3 v_6_0 v_6_1 v_6_2 k_9 = some r) {ρ : Tags} {w : World} (hb : Fr (enter ρA o 6) w0 ρ w) (hol_0 : ref39_Logins.O (fun p => 100 + p) ρ w gl_0 ol_0) (hBv_6 : Blk ρ 8 w gv_6 (.cells #[str v_6_0, .int .i64 v_6_1, str v_6_2] 45 (0, 0))) :
  KE Tryz.prog 27 (Ret (fun v w' => ∃ ρ', v = .int .i64 r.1 ∧ ref39_Logins.O (fun p => o + p) ρ' w' gl_0 r.2 ∧ Tr ρA w0 (rng o 6) ρ' w')) 71 [.code (sub (bodyOf Tryz.f27) [2, 2, 2, 2, 2, 2])] [(0, pT gl_0 0), (3, str code_3), (6, pT gv_6 0), (9, .int .i64 k_9)] w := by
 unfold ref39_Logins_Enroll_B1 at hS
 obtain ⟨v74, v76, v78, M80, hB82, hP75, h77, h79, hN81⟩ := hol_0
 refine ke_seq ?_
 refine ke_region_j (ρ := ρ) (fun t => ([103] : List Nat).contains t) 9 Tryz.mixed (fun w84 hw83 => ?_)
 have t85 := Tr.of_below hw83 hb.bd
 replace hB82 := hB82.m t85
 replace h77 := h77.m t85
 replace hBv_6 := hBv_6.m t85
 replace hb := hb.trans t85
 refine dj_v 0 hb.bd rfl rfl ?_
 refine dj_v 1 hb.bd rfl rfl ?_
 refine dj_h 2 (pT gl_0 1) hb.bd rfl (fun w1 ρ1 hw1 => ev_fieldAddr (i := 1) Tryz.underlying96 rfl Tryz.info93 rfl rfl) ?_
 refine dj_h 3 v76 hb.bd rfl (fun w1 ρ1 hw1 => ev_load Tryz.isAgg93 rfl ((hB82.mv (hw1.mv (i := 100) rfl)).cell rfl)) ?_
 refine dj_v 4 hb.bd rfl rfl ?_
 refine dj_h 5 (.agg #[str v_6_0, .int .i64 v_6_1, str v_6_2]) hb.bd rfl (fun w1 ρ1 hw1 => ev_loads (cs := [str v_6_0, .int .i64 v_6_1, str v_6_2]) Tryz.isAgg45 Tryz.sizeOf45 rfl ((hBv_6.mv (hw1.mv (i := 8) rfl)).cells (vs := [str v_6_0, .int .i64 v_6_1, str v_6_2]) rfl)) ?_
 obtain ⟨y111, hy112, hS⟩ := bS hS
 obtain ⟨b113, o114, cs116, hq117, he115, hg118, ho119⟩ := h77.elemQ (P := Tryz.prog) Tryz.underlying93 Tryz.info103 rfl hy112
 obtain rfl : cs116 = [str y111.name, str y111.v.Salt, .int .i64 y111.v.Rounds, str y111.v.Hash, str y111.code, .int .i64 y111.last] := he115.rd
 refine dj_h 6 (pT b113 o114) hb.bd rfl (fun w1 ρ1 hw1 => hq117 w1 rfl rfl) ?_
 refine dj_h 7 (pT b113 (o114 + 1)) hb.bd rfl (fun w1 ρ1 hw1 => ev_fieldAddr (i := 1) Tryz.underlying103 rfl Tryz.info45 rfl rfl) ?_
 refine dj_E 8 (by kernel_rfl) rfl ?_
 have jt120 : Tr ρ w84 (fun t => ([103] : List Nat).contains t) ρ w84 := (Tr.refl hb.bd).weak (fun _ _ => rfl) rfl rfl
 refine sr_storeEl (z' := (ref39_user.mk y111.name (api_Verifier.mk v_6_0 v_6_1 v_6_2) y111.code y111.last)) (u := .agg #[str v_6_0, .int .i64 v_6_1, str v_6_2]) (vs := [str v_6_0, .int .i64 v_6_1, str v_6_2]) (cs' := [str y111.name, str v_6_0, .int .i64 v_6_1, str v_6_2, str y111.code, .int .i64 y111.last]) (off := 1) h77 hg118 ho119 hy112 he115 (by decide) hb.bd rfl rfl rfl Tryz.sizeOf45 rfl rfl rfl rfl ?_
 intro w121 h771 t122
 replace hB82 := hB82.m t122
 replace hP75 := (hP75.m ref22_Locks.objK t85).m ref22_Locks.objK t122
 replace h79 := (h79.m t85).m t122
 replace hN81 := (hN81.m t85).m t122
 replace hb := hb.trans t122
 replace jt120 := jt120.tw t122
 replace h77 := h771
 clear h771
 refine dj_nx [0, 3, 9] rfl jt120 ?_
 refine dj_done rfl (by kernel_rfl) ?_
 refine ke_fin [0, 3, 9] rfl <| ke_seq <| ke_region <| sr_go 2 rfl ?_
 refine sr_fa 1 Tryz.underlying96 rfl Tryz.info93 ?_
 refine sr_ld v76 Tryz.isAgg93 rfl (hB82.cell rfl) ?_
 refine sr_go 2 rfl ?_
 obtain ⟨y123, hy124, hS⟩ := bS hS
 obtain ⟨b125, o126, cs128, hq129, he127, hg130, ho131⟩ := h77.elemQ (P := Tryz.prog) Tryz.underlying93 Tryz.info103 rfl hy124
 obtain rfl : cs128 = [str y123.name, str y123.v.Salt, .int .i64 y123.v.Rounds, str y123.v.Hash, str y123.code, .int .i64 y123.last] := he127.rd
 refine sr_e (hq129 w121 rfl rfl) ?_
 refine sr_fa (o126 + 4) Tryz.underlying103 rfl Tryz.info9 ?_
 refine sr_storeEl (z' := (ref39_user.mk y123.name y123.v code_3 y123.last)) (u := str code_3) (vs := [str code_3]) (cs' := [str y123.name, str y123.v.Salt, .int .i64 y123.v.Rounds, str y123.v.Hash, str code_3, .int .i64 y123.last]) (off := 4) h77 hg130 ho131 hy124 he127 (by decide) hb.bd rfl rfl rfl Tryz.sizeOf9 rfl rfl rfl rfl ?_
 intro w132 h771 t133
 replace hB82 := hB82.m t133
 replace hP75 := hP75.m ref22_Locks.objK t133
 replace h79 := h79.m t133
 replace hN81 := hN81.m t133
 replace hb := hb.trans t133
 replace h77 := h771
 clear h771
 refine sr_fin [] rfl <| ke_seq <| ke_region <| sr_go 1 rfl <| sr_fin [8] rfl ?_
 cases hS
 exact ke_ret1 Tryz.func27 rfl rfl ⟨_, rfl, _, rfl, ⟨_, _, _, _, (hB82.lv 0 hb), (hP75.lv ref22_Locks.objK ho2 hb), (h77.lv 3 ho2 hb), (h79.lv 4 ho2 hb), (hN81.lv 5 ho2 hb)⟩, (leave_tr ho2 hb)⟩
theorem ref39_Logins_Enroll_ok (w0 : World) (hg : Gs w0) {ρA : Tags} (hbd : ∀ b, ρA b ≠ 0 → b < w0.heap.size) (hz : Gz ρA) {o : Nat} (ho2 : 2 ≤ o) {l_0 : ref39_Logins} {name_1 : Str} {v_2 : api_Verifier} {code_3 : Str} {gl_0 : Nat} {r : Int × ref39_Logins} (ho0 : ref39_Logins.O (fun p => o + p) ρA w0 gl_0 l_0) (hS : ref39_Logins_Enroll l_0 name_1 v_2 code_3 = some r) :
  Calls Tryz.prog 27 #[pT gl_0 0, str name_1, .agg #[str v_2.Salt, .int .i64 v_2.Rounds, str v_2.Hash], str code_3] w0 (Ret (fun v w' => ∃ ρ', v = .int .i64 r.1 ∧ ref39_Logins.O (fun p => o + p) ρ' w' gl_0 r.2 ∧ Tr ρA w0 (rng o 6) ρ' w')) := by
 unfold ref39_Logins_Enroll at hS
 have hb := enter_fr (ρ := ρA) (w := w0) (n := 6) ho2 hbd
 have hz := hz.enter (n := 6) ho2
 obtain ⟨v1, v3, v5, M7, hB9, hP2, h4, h6, hN8⟩ := ho0
 replace hB9 := hB9.mv (enter_mv (p := 0) (n := 6) (by decide) ho2)
 replace hP2 := PtrO.mv hP2 ref22_Locks.objK (fun p hp => enter_mv (p := 1 + p) (n := 6) (by omega) ho2) (fun p hp => by omega)
 replace h4 := h4.mv (enter_mv (p := 3) (n := 6) (by decide) ho2) (by decide)
 replace h6 := h6.mv (enter_mv (p := 4) (n := 6) (by decide) ho2) (by decide)
 replace hN8 := hN8.mv (enter_mv (p := 5) (n := 6) (by decide) ho2) (by decide)
 refine ck Tryz.func27 [0, 1, 2, 3] rfl rfl ?_
 refine ke_seq <| ke_region ?_
 refine sr_boxT 8 (by decide) hb.bd rfl (by decide) ?_
 intro g10 ρ11 w12 hB14 t13
 replace hB9 := hB9.m t13
 replace hP2 := hP2.m ref22_Locks.objK t13
 replace h4 := h4.m t13
 replace h6 := h6.m t13
 replace hN8 := hN8.m t13
 replace hb := hb.trans t13
 refine sr_go 1 rfl <| sr_fin [0, 1, 3, 6] rfl <| ke_seq <| ke_seq <| ke_region <| sr_go 1 rfl ?_
 obtain ⟨y15, hy16, hS⟩ := bS hS
 refine sr_cb Tryz.call60 (ref39_made_ok _ (hg.fr hz hb) hb.bd (hz.fr hg hb) (τ0 := (fun p => 100 + p)) (fun p => Nat.le_add_right_of_le (by decide)) (by exact ⟨_, _, _, _, hB9, hP2, h4, h6, hN8⟩) hy16) hb.bd ?_
 intro w17 t19
 replace hB14 := hB14.m t19
 replace hB9 := hB9.m t19
 replace hP2 := hP2.m ref22_Locks.objK t19
 replace h4 := h4.m t19
 replace h6 := h6.m t19
 replace hN8 := hN8.m t19
 replace hb := hb.trans t19
 refine sr_go 1 rfl <| sr_fin [0, 1, 3, 6, 12] rfl ?_
 refine ke_cond rfl (fun hc20 => ?_) (fun hc20 => ?_)
 ·replace hS := iT hS hc20
  refine ke_seq <| ke_region <| sr_go 1 rfl <| sr_fin [8] rfl ?_
  cases hS
  exact ke_ret1 Tryz.func27 rfl rfl ⟨_, rfl, _, rfl, ⟨_, _, _, _, (hB9.lv 0 hb), (hP2.lv ref22_Locks.objK ho2 hb), (h4.lv 3 ho2 hb), (h6.lv 4 ho2 hb), (hN8.lv 5 ho2 hb)⟩, (leave_tr ho2 hb)⟩
 ·replace hS := iF hS hc20
  refine ke_skip <| ke_seq <| ke_seq <| ke_region <| sr_go 1 rfl ?_
  obtain ⟨y21, hy22, hS⟩ := bS hS
  refine sr_cb Tryz.call61 (ref01_Word_ok _ (hg.fr hz hb) hy22) hb.bd ?_
  intro w23 t25
  replace hB14 := hB14.m t25
  replace hB9 := hB9.m t25
  replace hP2 := hP2.m ref22_Locks.objK t25
  replace h4 := h4.m t25
  replace h6 := h6.m t25
  replace hN8 := hN8.m t25
  replace hb := hb.trans t25
  refine sr_go 1 rfl <| sr_fin [0, 1, 3, 6, 15] rfl ?_
  refine ke_cond rfl (fun hc26 => ?_) (fun hc26 => ?_)
  ·replace hS := iT hS hc26
   refine ke_seq <| ke_region <| sr_go 1 rfl <| sr_fin [8] rfl ?_
   cases hS
   exact ke_ret1 Tryz.func27 rfl rfl ⟨_, rfl, _, rfl, ⟨_, _, _, _, (hB9.lv 0 hb), (hP2.lv ref22_Locks.objK ho2 hb), (h4.lv 3 ho2 hb), (h6.lv 4 ho2 hb), (hN8.lv 5 ho2 hb)⟩, (leave_tr ho2 hb)⟩
  ·replace hS := iF hS hc26
   refine ke_skip <| ke_seq <| ke_seq <| ke_region ?_
   refine sr_e (v := .agg #[str v_2.Salt, .int .i64 v_2.Rounds, str v_2.Hash]) (ev_loads (cs := [str v_2.Salt, .int .i64 v_2.Rounds, str v_2.Hash]) Tryz.isAgg45 Tryz.sizeOf45 rfl (hB14.cells (vs := [str v_2.Salt, .int .i64 v_2.Rounds, str v_2.Hash]) rfl)) ?_
   obtain ⟨y27, hy28, hS⟩ := bS hS
   refine sr_cb Tryz.call62 (ref22_Valid_ok _ (hg.fr hz hb) hy28) hb.bd ?_
   intro w29 t31
   replace hB14 := hB14.m t31
   replace hB9 := hB9.m t31
   replace hP2 := hP2.m ref22_Locks.objK t31
   replace h4 := h4.m t31
   replace h6 := h6.m t31
   replace hN8 := hN8.m t31
   replace hb := hb.trans t31
   refine sr_go 2 rfl ?_
   obtain ⟨z34, hz36, hS⟩ := bS hS
   refine sr_join (m := 8) (C := fun (z : Bool) w1 => z34 = z ∧ ∃ ρ1, Tr ρ11 w29 (fun _ => false) ρ1 w1) (l' := fun z => [(0, pT gl_0 0), (1, str name_1), (3, str code_3), (6, pT g10 0), (27, .bool z)]) ?_ ?_
   ·rintro _ w37 ⟨rfl, ρ38, hj35⟩
    replace hB14 := hB14.m hj35
    replace hB9 := hB9.m hj35
    replace hP2 := hP2.m ref22_Locks.objK hj35
    replace h4 := h4.m hj35
    replace h6 := h6.m hj35
    replace hN8 := hN8.m hj35
    replace hb := hb.trans hj35
    refine sr_fin [0, 1, 3, 6, 27] rfl ?_
    refine ke_cond rfl (fun hc53 => ?_) (fun hc53 => ?_)
    ·replace hS := iT hS hc53
     refine ke_seq <| ke_region <| sr_go 1 rfl <| sr_fin [8] rfl ?_
     cases hS
     exact ke_ret1 Tryz.func27 rfl rfl ⟨_, rfl, _, rfl, ⟨_, _, _, _, (hB9.lv 0 hb), (hP2.lv ref22_Locks.objK ho2 hb), (h4.lv 3 ho2 hb), (h6.lv 4 ho2 hb), (hN8.lv 5 ho2 hb)⟩, (leave_tr ho2 hb)⟩
    ·replace hS := iF hS hc53
     refine ke_skip <| ke_seq <| ke_region <| sr_go 2 rfl ?_
     obtain ⟨y54, hy55, hS⟩ := bS hS
     refine sr_cb Tryz.call64 (ref39_at_ok _ (hg.fr hz hb) hb.bd (hz.fr hg hb) (τ0 := (fun p => 100 + p)) (fun p => Nat.le_add_right_of_le (by decide)) (by exact ⟨_, _, _, _, hB9, hP2, h4, h6, hN8⟩) hy55) hb.bd ?_
     intro w56 t58
     replace hB14 := hB14.m t58
     replace hB9 := hB9.m t58
     replace hP2 := hP2.m ref22_Locks.objK t58
     replace h4 := h4.m t58
     replace h6 := h6.m t58
     replace hN8 := hN8.m t58
     replace hb := hb.trans t58
     refine sr_go 1 rfl <| sr_fin [0, 1, 3, 6, 9] rfl <| ke_seq <| ke_seq <| ke_region <| sr_go 2 rfl <| sr_fin [0, 1, 3, 6, 9, 32] rfl ?_
     refine ke_cond rfl (fun hc59 => ?_) (fun hc59 => ?_)
     ·replace hS := iT hS hc59
      refine ke_seq <| ke_seq <| ke_region <| sr_go 2 rfl ?_
      refine sr_fa 1 Tryz.underlying96 rfl Tryz.info93 ?_
      refine sr_ld v3 Tryz.isAgg93 rfl (hB9.cell rfl) ?_
      refine sr_e (ev_sllenW Tryz.underlying93 rfl h4.asSl) ?_
      refine sr_go 1 rfl <| sr_fin [0, 1, 3, 6, 38] rfl ?_
      refine ke_cond rfl (fun hc60 => ?_) (fun hc60 => ?_)
      ·replace hS := iT hS hc60
       refine ke_seq <| ke_region <| sr_go 1 rfl <| sr_fin [8] rfl ?_
       cases hS
       exact ke_ret1 Tryz.func27 rfl rfl ⟨_, rfl, _, rfl, ⟨_, _, _, _, (hB9.lv 0 hb), (hP2.lv ref22_Locks.objK ho2 hb), (h4.lv 3 ho2 hb), (h6.lv 4 ho2 hb), (hN8.lv 5 ho2 hb)⟩, (leave_tr ho2 hb)⟩
      ·replace hS := iF hS hc60
       refine ke_skip <| ke_seq <| ke_region <| sr_go 2 rfl ?_
       refine sr_fa 1 Tryz.underlying96 rfl Tryz.info93 ?_
       refine sr_ld v3 Tryz.isAgg93 rfl (hB9.cell rfl) ?_
       refine sr_e (ev_sllenW Tryz.underlying93 rfl h4.asSl) ?_
       refine sr_go 1 rfl <| sr_fin [0, 1, 3, 6, 9] rfl <| ke_region <| sr_go 3 rfl ?_
       refine sr_fa 1 Tryz.underlying96 rfl Tryz.info93 ?_
       refine sr_ld v3 Tryz.isAgg93 rfl (hB9.cell rfl) ?_
       refine sr_go 1 rfl ?_
       refine sr_e (v := .agg #[str name_1, str ([]), .int .i64 0, str ([]), str ([]), .int .i64 (-1)]) (ev_build (vs := #[(0, str name_1), (3, .int .i64 (-1))]) rfl (fun _ => by kernel_rfl)) ?_
       refine sr_litT (c := ref39_user.c) (ρ := ρ38) (E := 103) (xs := [(ref39_user.mk name_1 (api_Verifier.mk ([]) 0 ([])) ([]) (-1))]) (vs := #[(0, .agg #[str name_1, str ([]), .int .i64 0, str ([]), str ([]), .int .i64 (-1)])]) (cs := #[str name_1, str ([]), .int .i64 0, str ([]), str ([]), .int .i64 (-1)]) (css := [[str name_1, str ([]), .int .i64 0, str ([]), str ([]), .int .i64 (-1)]]) rfl (fun _ => by kernel_rfl) rfl ⟨rfl, trivial⟩ rfl (by decide) hb.bd (by decide) ?_
       intro v61 w63 h62 hbw65
       have t64 := Tr.of_below hbw65 hb.bd
       replace h4 := h4.m t64
       replace hb := hb.trans t64
       obtain ⟨hk66, hS⟩ := chk_some hS
       refine sr_appendT (i := 103) (c := ref39_user.c) (ρ := ρ38) (E := 103) (xs := l_0.users) (ys := ([(ref39_user.mk name_1 (api_Verifier.mk ([]) 0 ([])) ([]) (-1))] : List ref39_user)) h4 ((SlT.of_sl (i := 0) h62)).x Tryz.underlying93 Tryz.info103 rfl rfl rfl (Nat.succ_pos _) (by decide) (by decide) hb.bd hk66 rfl rfl (by decide) ?_
       intro v67 ρ69 w70 h68 t71
       replace hB14 := (hB14.m t64).m t71
       replace hB9 := (hB9.m t64).m t71
       replace hP2 := (hP2.m ref22_Locks.objK t64).m ref22_Locks.objK t71
       replace h6 := (h6.m t64).m t71
       replace hN8 := (hN8.m t64).m t71
       replace hb := hb.trans t71
       refine sr_go 1 rfl ?_
       refine sr_fa 1 Tryz.underlying96 rfl Tryz.info93 ?_
       refine sr_storeT (v := v67) (vs := [v67]) (cs' := #[v1, v67, v5]) hB9 (by decide) hb.bd rfl rfl (one_cells (OwnT.oneCell h68)) Tryz.sizeOf93 rfl (by first | rfl | (simp only [List.all_cons, List.all_nil, OwnT.oneCell h68]; done) | (simp only [List.all_cons, List.all_nil, OwnT.oneCell h68]; rfl)) rfl ?_
       intro w72 hB9 t73
       replace hB14 := hB14.m t73
       replace hP2 := hP2.m ref22_Locks.objK t73
       replace h68 := h68.m t73
       replace h6 := h6.m t73
       replace hN8 := hN8.m t73
       replace hb := hb.trans t73
       refine sr_fin [0, 3, 6, 9] rfl ?_
       have hK := ref39_Logins_Enroll_B1_ok hg hbd ho2 hz hS hb ⟨_, _, _, _, hB9, hP2, h68, h6, hN8⟩ hB14
       exact ke_wk hK
     ·replace hS := iF hS hc59
      refine ke_skip ?_
      have hK := ref39_Logins_Enroll_B1_ok hg hbd ho2 hz hS hb ⟨_, _, _, _, hB9, hP2, h4, h6, hN8⟩ hB14
      exact ke_wk hK
   ·intro K33
    clear hS
    have hj35 : Tr ρ11 w29 (fun _ => false) ρ11 w29 := (Tr.refl hb.bd).weak (fun _ _ => rfl) rfl rfl
    rcases Bool.eq_false_or_eq_true (!y27) with hg32 | hg32
    ·have hS := iT hz36 hg32
     refine sr_setb 19 rfl hg32 <| sr_go 8 rfl ?_
     exact sr_wk (K33 true _ ⟨(Option.some.inj hS).symm, _, hj35⟩)
    ·have hS := iF hz36 hg32
     refine sr_setb 19 rfl hg32 <| sr_go 1 rfl ?_
     refine sr_eg rfl (ev_sne rfl rfl) ?_
     refine sr_go 1 rfl ?_
     obtain ⟨z42, hz44, hS⟩ := bS hS
     refine sr_join (m := 4) (C := fun (z : Bool) w1 => z42 = z ∧ ∃ ρ1, Tr ρ11 w29 (fun _ => false) ρ1 w1) (l' := fun z => [(0, pT gl_0 0), (1, str name_1), (3, str code_3), (6, pT g10 0), (19, .bool (!y27)), (26, .bool z)]) ?_ ?_
     ·rintro _ w45 ⟨rfl, ρ46, hj43⟩
      replace hb := hb.trans hj43
      replace hj35 := hj35.tw hj43
      refine sr_e (ev_pick_f rfl hg32 rfl) ?_
      exact sr_wk (K33 z42 _ ⟨(Option.some.inj hS).symm, _, hj35⟩)
     ·intro K41
      clear hS
      have hj43 : Tr ρ11 w29 (fun _ => false) ρ11 w29 := (Tr.refl hb.bd).weak (fun _ _ => rfl) rfl rfl
      rcases Bool.eq_false_or_eq_true (!(code_3 == ([]))) with hg40 | hg40
      ·have hS := iT hz44 hg40
       refine sr_setb 22 rfl hg40 <| sr_go 1 rfl ?_
       obtain ⟨y48, hy49, hS⟩ := bS hS
       refine sr_callg (b := true) (e := 22) rfl rfl rfl (vs := [str code_3]) rfl Tryz.call63 rfl (ref01_Clean_ok _ (hg.fr hz hb) hy49) (by decide) ?_
       rintro _ w50 ⟨rfl, hbw51⟩
       have t52 := Tr.of_below hbw51 hb.bd
       replace hb := hb.trans t52
       replace hj35 := hj35.tw t52
       replace hj43 := hj43.tw t52
       refine sr_go 2 rfl ?_
       refine sr_unb 19 rfl hg32 ?_
       exact sr_wk (K41 (!y48) _ ⟨(Option.some.inj hS).symm, _, hj43⟩)
      ·have hS := iF hz44 hg40
       refine sr_setb 22 rfl hg40 <| sr_go 4 rfl ?_
       refine sr_unb 19 rfl hg32 ?_
       exact sr_wk (K41 false _ ⟨(Option.some.inj hS).symm, _, hj43⟩)
theorem ref04_Limit_ok (w0 : World) (hg : Gs w0) {t_0 : Int} {r : Int} (hS : ref04_Limit t_0 = some r) :
  Calls Tryz.prog 67 #[.int .i64 t_0] w0 (Ret (fun v w' => v = .int .i64 r ∧ Below w0.heap.size w0 w')) := by
 unfold ref04_Limit at hS
 have hb := Below.refl w0.heap.size w0
 refine ck Tryz.func67 [0] rfl rfl ?_
 refine ke_seq <| ke_region <| sr_go 1 rfl <| sr_fin [0] rfl <| ke_seq <| ke_region <| sr_go 1 rfl ?_
 refine sr_e (ev_min rfl rfl) ?_
 refine sr_e (ev_max rfl rfl) ?_
 refine sr_go 1 rfl <| sr_fin [2] rfl ?_
 cases hS
 exact ke_ret1 Tryz.func67 rfl rfl ⟨_, rfl, rfl, hb⟩
theorem ref39_expired_ok (w0 : World) (hg : Gs w0) {ρA : Tags} (hbd : ∀ b, ρA b ≠ 0 → b < w0.heap.size) (hz : Gz ρA) {a_0 : ref39_attempt} {now_1 : Int} {v1 : Value} {r : Bool} {kh2 : Nat} (hkh2 : 1 ≤ kh2) (h2 : SlT api_Proof.c ρA kh2 w0 v1 a_0.proofs) (hS : ref39_expired a_0 now_1 = some r) :
  Calls Tryz.prog 66 #[.agg #[str a_0.id, str a_0.user, .int .i64 a_0.begun, v1], .int .i64 now_1] w0 (Ret (fun v w' => v = .bool r ∧ Below w0.heap.size w0 w')) := by
 unfold ref39_expired at hS
 have hb := flat1_fr (ρ := ρA) (w := w0) hbd
 have hz := hz.flat1
 refine ck Tryz.func66 [0, 1] rfl rfl ?_
 refine ke_seq <| ke_region ?_
 refine sr_boxT 4 (by decide) hb.bd rfl (by decide) ?_
 intro g3 ρ4 w5 hB7 t6
 replace hb := hb.trans t6
 refine sr_go 1 rfl <| sr_fin [1, 2] rfl <| ke_seq ?_
 refine ke_region_q Tryz.mixed (by kernel_rfl) ?_
 refine sq_go 1 rfl ?_
 obtain ⟨y10, hy11, hS⟩ := bS hS
 refine sq_call (v := .int .i64 y10) (vs := [.int .i64 now_1]) rfl Tryz.call67 rfl (fun w1 hw1 => (ref04_Limit_ok _ ((hg.fr hz hb).below hw1) hy11)) (by decide) ?_
 refine sq_ev (v := pT g3 2) (fun w1 hw1 => ev_fieldAddr (i := 2) Tryz.underlying108 rfl Tryz.info3 rfl rfl) (by decide) ?_
 refine sq_ev (v := .int .i64 a_0.begun) (fun w1 hw1 => ev_load Tryz.isAgg3 rfl ((hB7.mv (Mv.of_below (i := 4) (ρ := ρ4) hw1)).cell rfl)) (by decide) ?_
 refine sq_go 3 rfl ?_
 refine sq_fin [4] rfl (fun w9 hw8 => ?_)
 have t15 := Tr.of_below hw8 hb.bd
 replace hb := hb.trans t15
 cases hS
 exact ke_ret1 Tryz.func66 rfl rfl ⟨_, rfl, rfl, (hb.below (flat1_le _))⟩
theorem ref39_find_L1_ok {w0 : World} (hg : Gs w0) {ρA : Tags} (hbd : ∀ b, ρA b ≠ 0 → b < w0.heap.size) (hz : Gz (flat1 ρA)) : ∀ (n : Nat), ∀ {r : Int × Int} {ol_0 : ref39_Logins} {id_1 : Str} {now_2 : Int} {i_8 : Int} {gl_0 : Nat}, ref39_find_L1 n ol_0 id_1 now_2 i_8 = some r → ∀ {ρ : Tags} {w : World}, (Fr (flat1 ρA) w0 ρ w) → (ref39_Logins.O (fun _ => 1) ρ w gl_0 ol_0) → KE Tryz.prog 65 (Ret (fun v w' => v = .tuple #[.int .i64 r.1, .int .i64 r.2] ∧ Below w0.heap.size w0 w')) 41 [.code (sub (bodyOf Tryz.f65) [2, 2, 1, 2, 2, 1]), .inLoop (sub (bodyOf Tryz.f65) [2, 2, 1, 2, 2, 1]), .inBlock 0, .code (sub (bodyOf Tryz.f65) [2, 2, 2])] [(0, pT gl_0 0), (1, str id_1), (2, .int .i64 now_2), (8, .int .i64 i_8)] w := by
 intro n
 induction n with
 | zero => intro r ol_0 id_1 now_2 i_8 gl_0 hS; cases hS
 | succ n ih =>
  have hr0 : ∀ {r : Int × Int} {ol_0 : ref39_Logins} {id_1 : Str} {now_2 : Int} {i_8 : Int} {gl_0 : Nat}, ref39_find_L1 n ol_0 id_1 now_2 i_8 = some r → ∀ {ρ : Tags} {w : World}, (Fr (flat1 ρA) w0 ρ w) → (ref39_Logins.O (fun _ => 1) ρ w gl_0 ol_0) → KE Tryz.prog 65 (Ret (fun v w' => v = .tuple #[.int .i64 r.1, .int .i64 r.2] ∧ Below w0.heap.size w0 w')) 41 [.inLoop (sub (bodyOf Tryz.f65) [2, 2, 1, 2, 2, 1]), .inBlock 0, .code (sub (bodyOf Tryz.f65) [2, 2, 2])] [(0, pT gl_0 0), (1, str id_1), (2, .int .i64 now_2), (8, .int .i64 i_8)] w := fun {r} {ol_0} {id_1} {now_2} {i_8} {gl_0} hS {ρ} {w} hb hol_0 => ke_inLoop (ih hS hb hol_0)
  clear ih
  intro r ol_0 id_1 now_2 i_8 gl_0 hS ρ w hb hol_0
  unfold ref39_find_L1 at hS
  obtain ⟨v16, v18, v20, M22, hB24, hP17, h19, h21, hN23⟩ := hol_0
  refine ke_seq <| ke_seq <| ke_region <| sr_go 3 rfl ?_
  refine sr_fa 2 Tryz.underlying96 rfl Tryz.info94 ?_
  refine sr_ld v20 Tryz.isAgg94 rfl (hB24.cell rfl) ?_
  refine sr_e (ev_sllenW Tryz.underlying94 rfl h21.asSl) ?_
  refine sr_go 1 rfl <| sr_fin [0, 1, 2, 8, 18] rfl ?_
  refine ke_cond rfl (fun hc25 => ?_) (fun hc25 => ?_)
  ·replace hS := iT hS hc25
   refine ke_skip <| ke_seq ?_
   refine ke_block ?_
   refine ke_seq <| ke_region <| sr_go 2 rfl ?_
   refine sr_fa 2 Tryz.underlying96 rfl Tryz.info94 ?_
   refine sr_ld v20 Tryz.isAgg94 rfl (hB24.cell rfl) ?_
   refine sr_go 1 rfl ?_
   obtain ⟨y26, hy27, hS⟩ := bS hS
   obtain ⟨b28, o29, cs31, hq32, he30, hg36, ho37⟩ := h21.elemQ (P := Tryz.prog) Tryz.underlying94 Tryz.info108 rfl hy27
   obtain ⟨v33, hcshe30, hR35⟩ := he30.rd
   obtain rfl : cs31 = [str y26.id, str y26.user, .int .i64 y26.begun, v33] := hcshe30
   have h34 := hN23.sl hR35
   refine sr_e (hq32 w rfl rfl) ?_
   refine sr_fa (o29 + 0) Tryz.underlying108 rfl Tryz.info9 ?_
   refine sr_ld (str y26.id) Tryz.isAgg9 rfl (he30.cell 0 _ rfl) ?_
   refine sr_go 1 rfl ?_
   refine sr_e (ev_seq rfl rfl) ?_
   refine sr_fin [0, 1, 2, 8, 30] rfl ?_
   refine ke_cond rfl (fun hc38 => ?_) (fun hc38 => ?_)
   ·replace hS := iT hS hc38
    refine ke_seq <| ke_seq <| ke_region <| sr_go 2 rfl ?_
    refine sr_fa 2 Tryz.underlying96 rfl Tryz.info94 ?_
    refine sr_ld v20 Tryz.isAgg94 rfl (hB24.cell rfl) ?_
    refine sr_go 1 rfl ?_
    obtain ⟨y39, hy40, hS⟩ := bS hS
    obtain ⟨b41, o42, cs44, hq45, he43, hg49, ho50⟩ := h21.elemQ (P := Tryz.prog) Tryz.underlying94 Tryz.info108 rfl hy40
    obtain ⟨v46, hcshe43, hR48⟩ := he43.rd
    obtain rfl : cs44 = [str y39.id, str y39.user, .int .i64 y39.begun, v46] := hcshe43
    have h47 := hN23.sl hR48
    refine sr_e (hq45 w rfl rfl) ?_
    refine sr_e (v := .agg #[str y39.id, str y39.user, .int .i64 y39.begun, v46]) (ev_loads (cs := [str y39.id, str y39.user, .int .i64 y39.begun, v46]) Tryz.isAgg108 Tryz.sizeOf108 rfl he43.cell) ?_
    refine sr_go 1 rfl ?_
    obtain ⟨y51, hy52, hS⟩ := bS hS
    refine sr_cb Tryz.call66 (ref39_expired_ok _ (hg.fr hz hb) hb.bd (hz.fr hg hb) (by decide) h47 hy52) hb.bd ?_
    intro w53 t55
    replace hb := hb.trans t55
    refine sr_fin [8, 39] rfl ?_
    refine ke_cond rfl (fun hc56 => ?_) (fun hc56 => ?_)
    ·replace hS := iT hS hc56
     refine ke_seq <| ke_region <| sr_go 2 rfl <| sr_fin [6, 7] rfl ?_
     cases hS
     exact ke_ret2 Tryz.func65 rfl rfl rfl ⟨_, rfl, rfl, (hb.below (flat1_le _))⟩
    ·replace hS := iF hS hc56
     refine ke_skip <| ke_seq <| ke_region <| sr_go 3 rfl <| sr_fin [6, 7] rfl ?_
     cases hS
     exact ke_ret2 Tryz.func65 rfl rfl rfl ⟨_, rfl, rfl, (hb.below (flat1_le _))⟩
   ·replace hS := iF hS hc38
    refine ke_skip <| ke_inBlock <| ke_region <| sr_go 3 rfl <| sr_fin [0, 1, 2, 8] rfl ?_
    have hK := hr0 hS hb ⟨_, _, _, _, hB24, hP17, h19, h21, hN23⟩
    exact ke_wk hK
  ·replace hS := iF hS hc25
   refine ke_exit (k' := _) rfl ?_
   refine ke_seq <| ke_region <| sr_go 2 rfl <| sr_fin [6, 7] rfl ?_
   cases hS
   exact ke_ret2 Tryz.func65 rfl rfl rfl ⟨_, rfl, rfl, (hb.below (flat1_le _))⟩
theorem ref39_find_ok (w0 : World) (hg : Gs w0) {ρA : Tags} (hbd : ∀ b, ρA b ≠ 0 → b < w0.heap.size) (hz : Gz ρA) {τ0 : Nat → Nat} (hτ0 : ∀ p, 1 ≤ τ0 p) {l_0 : ref39_Logins} {id_1 : Str} {now_2 : Int} {gl_0 : Nat} {r : Int × Int} (ho0 : ref39_Logins.O τ0 ρA w0 gl_0 l_0) (hS : ref39_find l_0 id_1 now_2 = some r) :
  Calls Tryz.prog 65 #[pT gl_0 0, str id_1, .int .i64 now_2] w0 (Ret (fun v w' => v = .tuple #[.int .i64 r.1, .int .i64 r.2] ∧ Below w0.heap.size w0 w')) := by
 unfold ref39_find at hS
 have hb := flat1_fr (ρ := ρA) (w := w0) hbd
 have hz := hz.flat1
 obtain ⟨v1, v3, v5, M7, hB9, hP2, h4, h6, hN8⟩ := ho0
 replace hB9 := hB9.mv (flat1_mv (hτ0 0))
 replace hP2 := PtrO.mv hP2 ref22_Locks.objK (fun p hp => flat1_mv (hτ0 (1 + p))) (fun _ _ => by decide)
 replace h4 := h4.mv (flat1_mv (hτ0 3)) (by decide)
 replace h6 := h6.mv (flat1_mv (hτ0 4)) (by decide)
 replace hN8 := hN8.mv (flat1_mv (hτ0 5)) (by decide)
 refine ck Tryz.func65 [0, 1, 2] rfl rfl ?_
 refine ke_seq <| ke_region <| sr_go 2 rfl <| sr_fin [0, 1, 2] rfl <| ke_seq <| ke_seq <| ke_region <| sr_go 1 rfl ?_
 obtain ⟨y10, hy11, hS⟩ := bS hS
 refine sr_cb Tryz.call60 (ref39_made_ok _ (hg.fr hz hb) hb.bd (hz.fr hg hb) (τ0 := (fun _ => 1)) (fun _ => by decide) (by exact ⟨_, _, _, _, hB9, hP2, h4, h6, hN8⟩) hy11) hb.bd ?_
 intro w12 t14
 replace hB9 := hB9.m t14
 replace hP2 := hP2.m ref22_Locks.objK t14
 replace h4 := h4.m t14
 replace h6 := h6.m t14
 replace hN8 := hN8.m t14
 replace hb := hb.trans t14
 refine sr_go 1 rfl <| sr_fin [0, 1, 2, 11] rfl ?_
 refine ke_cond rfl (fun hc15 => ?_) (fun hc15 => ?_)
 ·replace hS := iT hS hc15
  refine ke_seq <| ke_region <| sr_go 2 rfl <| sr_fin [6, 7] rfl ?_
  cases hS
  exact ke_ret2 Tryz.func65 rfl rfl rfl ⟨_, rfl, rfl, (hb.below (flat1_le _))⟩
 ·replace hS := iF hS hc15
  refine ke_skip <| ke_seq <| ke_seq <| ke_region <| sr_go 1 rfl <| sr_fin [0, 1, 2, 8] rfl ?_
  refine ke_block ?_
  have hK := ref39_find_L1_ok hg hbd hz _ hS hb ⟨_, _, _, _, hB9, hP2, h4, h6, hN8⟩
  exact ke_wk (ke_loop hK)
theorem ref39_Logins_Open_B2_ok {w0 : World} (hg : Gs w0) {ρA : Tags} (hbd : ∀ b, ρA b ≠ 0 → b < w0.heap.size) (hz : Gz (flat1 ρA)) (r0 : ref39_Logins → Int → Int → Int → Option (Int))
  (hr0 : ∀ {r : Int} {ol_0 : ref39_Logins} {now_1 : Int} {n_5 : Int} {i_6 : Int} {gl_0 : Nat}, r0 ol_0 now_1 n_5 i_6 = some r → ∀ {ρ : Tags} {w : World}, (Fr (flat1 ρA) w0 ρ w) → (ref39_Logins.O (fun _ => 1) ρ w gl_0 ol_0) → KE Tryz.prog 38 (Ret (fun v w' => v = .int .i64 r ∧ Below w0.heap.size w0 w')) 33 [.inLoop (sub (bodyOf Tryz.f38) [2, 2, 1, 2, 2, 1]), .inBlock 0, .code (sub (bodyOf Tryz.f38) [2, 2, 2])] [(0, pT gl_0 0), (1, .int .i64 now_1), (5, .int .i64 n_5), (6, .int .i64 i_6)] w) {r : Int} {ol_0 : ref39_Logins} {now_1 : Int} {n_5 : Int} {i_6 : Int} {gl_0 : Nat} (hS : ref39_Logins_Open_B2 r0 ol_0 now_1 n_5 i_6 = some r) {ρ : Tags} {w : World} (hb : Fr (flat1 ρA) w0 ρ w) (hol_0 : ref39_Logins.O (fun _ => 1) ρ w gl_0 ol_0) :
  KE Tryz.prog 38 (Ret (fun v w' => v = .int .i64 r ∧ Below w0.heap.size w0 w')) 33 [.inBlock 1, .code (sub (bodyOf Tryz.f38) [2, 2, 1, 2, 2, 1, 2, 2]), .inLoop (sub (bodyOf Tryz.f38) [2, 2, 1, 2, 2, 1]), .inBlock 0, .code (sub (bodyOf Tryz.f38) [2, 2, 2])] [(0, pT gl_0 0), (1, .int .i64 now_1), (5, .int .i64 n_5), (6, .int .i64 i_6)] w := by
 unfold ref39_Logins_Open_B2 at hS
 obtain ⟨v38, v40, v42, M44, hB46, hP39, h41, h43, hN45⟩ := hol_0
 refine ke_inBlock <| ke_region <| sr_go 3 rfl <| sr_fin [0, 1, 5, 6] rfl ?_
 have hK := hr0 hS hb ⟨_, _, _, _, hB46, hP39, h41, h43, hN45⟩
 exact ke_wk hK
theorem ref39_Logins_Open_L1_ok {w0 : World} (hg : Gs w0) {ρA : Tags} (hbd : ∀ b, ρA b ≠ 0 → b < w0.heap.size) (hz : Gz (flat1 ρA)) : ∀ (n : Nat), ∀ {r : Int} {ol_0 : ref39_Logins} {now_1 : Int} {n_5 : Int} {i_6 : Int} {gl_0 : Nat}, ref39_Logins_Open_L1 n ol_0 now_1 n_5 i_6 = some r → ∀ {ρ : Tags} {w : World}, (Fr (flat1 ρA) w0 ρ w) → (ref39_Logins.O (fun _ => 1) ρ w gl_0 ol_0) → KE Tryz.prog 38 (Ret (fun v w' => v = .int .i64 r ∧ Below w0.heap.size w0 w')) 33 [.code (sub (bodyOf Tryz.f38) [2, 2, 1, 2, 2, 1]), .inLoop (sub (bodyOf Tryz.f38) [2, 2, 1, 2, 2, 1]), .inBlock 0, .code (sub (bodyOf Tryz.f38) [2, 2, 2])] [(0, pT gl_0 0), (1, .int .i64 now_1), (5, .int .i64 n_5), (6, .int .i64 i_6)] w := by
 intro n
 induction n with
 | zero => intro r ol_0 now_1 n_5 i_6 gl_0 hS; cases hS
 | succ n ih =>
  have hr0 : ∀ {r : Int} {ol_0 : ref39_Logins} {now_1 : Int} {n_5 : Int} {i_6 : Int} {gl_0 : Nat}, ref39_Logins_Open_L1 n ol_0 now_1 n_5 i_6 = some r → ∀ {ρ : Tags} {w : World}, (Fr (flat1 ρA) w0 ρ w) → (ref39_Logins.O (fun _ => 1) ρ w gl_0 ol_0) → KE Tryz.prog 38 (Ret (fun v w' => v = .int .i64 r ∧ Below w0.heap.size w0 w')) 33 [.inLoop (sub (bodyOf Tryz.f38) [2, 2, 1, 2, 2, 1]), .inBlock 0, .code (sub (bodyOf Tryz.f38) [2, 2, 2])] [(0, pT gl_0 0), (1, .int .i64 now_1), (5, .int .i64 n_5), (6, .int .i64 i_6)] w := fun {r} {ol_0} {now_1} {n_5} {i_6} {gl_0} hS {ρ} {w} hb hol_0 => ke_inLoop (ih hS hb hol_0)
  clear ih
  intro r ol_0 now_1 n_5 i_6 gl_0 hS ρ w hb hol_0
  unfold ref39_Logins_Open_L1 at hS
  obtain ⟨v10, v12, v14, M16, hB18, hP11, h13, h15, hN17⟩ := hol_0
  refine ke_seq <| ke_seq <| ke_region <| sr_go 1 rfl ?_
  refine sr_e (ev_pneT_some Tryz.underlying53 rfl rfl) ?_
  refine sr_go 4 rfl ?_
  refine sr_eg rfl (ev_fieldAddr (i := 2) Tryz.underlying96 rfl Tryz.info94 rfl rfl) ?_
  refine sr_eg rfl (ev_load Tryz.isAgg94 rfl (hB18.cell rfl)) ?_
  refine sr_eg rfl (ev_sllenW Tryz.underlying94 rfl h15.asSl) ?_
  refine sr_go 2 rfl <| sr_fin [0, 1, 5, 6, 17] rfl ?_
  refine ke_cond rfl (fun hc19 => ?_) (fun hc19 => ?_)
  ·replace hS := iT hS hc19
   refine ke_skip <| ke_seq ?_
   refine ke_block ?_
   refine ke_seq <| ke_region <| sr_go 2 rfl ?_
   refine sr_fa 2 Tryz.underlying96 rfl Tryz.info94 ?_
   refine sr_ld v14 Tryz.isAgg94 rfl (hB18.cell rfl) ?_
   refine sr_go 1 rfl ?_
   obtain ⟨y20, hy21, hS⟩ := bS hS
   obtain ⟨b22, o23, cs25, hq26, he24, hg30, ho31⟩ := h15.elemQ (P := Tryz.prog) Tryz.underlying94 Tryz.info108 rfl hy21
   obtain ⟨v27, hcshe24, hR29⟩ := he24.rd
   obtain rfl : cs25 = [str y20.id, str y20.user, .int .i64 y20.begun, v27] := hcshe24
   have h28 := hN17.sl hR29
   refine sr_e (hq26 w rfl rfl) ?_
   refine sr_e (v := .agg #[str y20.id, str y20.user, .int .i64 y20.begun, v27]) (ev_loads (cs := [str y20.id, str y20.user, .int .i64 y20.begun, v27]) Tryz.isAgg108 Tryz.sizeOf108 rfl he24.cell) ?_
   refine sr_go 1 rfl ?_
   obtain ⟨y32, hy33, hS⟩ := bS hS
   refine sr_cb Tryz.call66 (ref39_expired_ok _ (hg.fr hz hb) hb.bd (hz.fr hg hb) (by decide) h28 hy33) hb.bd ?_
   intro w34 t36
   replace hB18 := hB18.m t36
   replace hP11 := hP11.m ref22_Locks.objK t36
   replace h13 := h13.m t36
   replace h15 := h15.m t36
   replace hN17 := hN17.m t36
   replace hb := hb.trans t36
   refine sr_go 1 rfl <| sr_fin [0, 1, 5, 6, 29] rfl ?_
   refine ke_cond rfl (fun hc37 => ?_) (fun hc37 => ?_)
   ·replace hS := iT hS hc37
    refine ke_region <| sr_go 3 rfl <| sr_fin [0, 1, 5, 6] rfl ?_
    have hK := ref39_Logins_Open_B2_ok hg hbd hz _ hr0 hS hb ⟨_, _, _, _, hB18, hP11, h13, h15, hN17⟩
    exact ke_wk hK
   ·replace hS := iF hS hc37
    refine ke_skip ?_
    have hK := ref39_Logins_Open_B2_ok hg hbd hz _ hr0 hS hb ⟨_, _, _, _, hB18, hP11, h13, h15, hN17⟩
    exact ke_wk hK
  ·replace hS := iF hS hc19
   refine ke_exit (k' := _) rfl ?_
   refine ke_seq <| ke_region <| sr_go 2 rfl <| sr_fin [4] rfl ?_
   cases hS
   exact ke_ret1 Tryz.func38 rfl rfl ⟨_, rfl, rfl, (hb.below (flat1_le _))⟩
theorem ref39_Logins_Open_ok (w0 : World) (hg : Gs w0) {ρA : Tags} (hbd : ∀ b, ρA b ≠ 0 → b < w0.heap.size) (hz : Gz ρA) {τ0 : Nat → Nat} (hτ0 : ∀ p, 1 ≤ τ0 p) {l_0 : ref39_Logins} {now_1 : Int} {gl_0 : Nat} {r : Int} (ho0 : ref39_Logins.O τ0 ρA w0 gl_0 l_0) (hS : ref39_Logins_Open l_0 now_1 = some r) :
  Calls Tryz.prog 38 #[pT gl_0 0, .int .i64 now_1] w0 (Ret (fun v w' => v = .int .i64 r ∧ Below w0.heap.size w0 w')) := by
 unfold ref39_Logins_Open at hS
 have hb := flat1_fr (ρ := ρA) (w := w0) hbd
 have hz := hz.flat1
 obtain ⟨v1, v3, v5, M7, hB9, hP2, h4, h6, hN8⟩ := ho0
 replace hB9 := hB9.mv (flat1_mv (hτ0 0))
 replace hP2 := PtrO.mv hP2 ref22_Locks.objK (fun p hp => flat1_mv (hτ0 (1 + p))) (fun _ _ => by decide)
 replace h4 := h4.mv (flat1_mv (hτ0 3)) (by decide)
 replace h6 := h6.mv (flat1_mv (hτ0 4)) (by decide)
 replace hN8 := hN8.mv (flat1_mv (hτ0 5)) (by decide)
 refine ck Tryz.func38 [0, 1] rfl rfl ?_
 refine ke_seq <| ke_region <| sr_go 1 rfl <| sr_fin [0, 1] rfl <| ke_seq <| ke_region <| sr_go 1 rfl <| sr_fin [0, 1, 5] rfl <| ke_seq <| ke_seq <| ke_region <| sr_go 1 rfl <| sr_fin [0, 1, 5, 6] rfl ?_
 refine ke_block ?_
 have hK := ref39_Logins_Open_L1_ok hg hbd hz _ hS hb ⟨_, _, _, _, hB9, hP2, h4, h6, hN8⟩
 exact ke_wk (ke_loop hK)
theorem ref39_Logins_Begin_B2_ok {w0 : World} (hg : Gs w0) {ρA : Tags} (hbd : ∀ b, ρA b ≠ 0 → b < w0.heap.size) {o : Nat} (ho2 : 2 ≤ o) {gl_0 : Nat} (hz : Gz (enter ρA o 6)) (r0 : ref39_Logins → Str → Str → Int → List ref39_attempt → Int → Option (Int × ref39_Logins))
  (hr0 : ∀ {r : Int × ref39_Logins} {ol_0 : ref39_Logins} {id_1 : Str} {user_2 : Str} {now_3 : Int} {kept_11 : List ref39_attempt} {i_12 : Int} {v42 : Value} {v44 : Value} {v46 : Value} {M48 : NM api_Proof} {vkept_11 : Value}, r0 ol_0 id_1 user_2 now_3 kept_11 i_12 = some r → ∀ {ρ : Tags} {w : World}, (Fr (enter ρA o 6) w0 ρ w) → (Blk ρ 100 w gl_0 (.cells #[v42, v44, v46] 96 (0, 0))) → (PtrO ref22_Locks.O (fun q => 100 + (1 + q)) ρ w v42 ol_0.locks) → (OwnT ref39_user.c 103 ρ 103 w v44 ol_0.users) → (OwnT (ref39_attempt.c M48) 108 ρ 104 w v46 ol_0.attempts) → (NestT api_Proof.c 42 ρ 105 w M48 none) → (OwnT (ref39_attempt.c M48) 108 ρ 13 w vkept_11 kept_11) → KE Tryz.prog 28 (Ret (fun v w' => ∃ ρ', v = .int .i64 r.1 ∧ ref39_Logins.O (fun p => o + p) ρ' w' gl_0 r.2 ∧ Tr ρA w0 (rng o 6) ρ' w')) 77 [.inLoop (sub (bodyOf Tryz.f28) [2, 2, 2, 2, 2, 2, 2, 1, 2, 2, 1]), .inBlock 0, .code (sub (bodyOf Tryz.f28) [2, 2, 2, 2, 2, 2, 2, 2])] [(0, pT gl_0 0), (1, str id_1), (2, str user_2), (3, .int .i64 now_3), (11, vkept_11), (12, .int .i64 i_12)] w) {r : Int × ref39_Logins} {ol_0 : ref39_Logins} {id_1 : Str} {user_2 : Str} {now_3 : Int} {kept_11 : List ref39_attempt} {i_12 : Int} {v93 : Value} {v95 : Value} {v97 : Value} {M99 : NM api_Proof} {vkept_11 : Value} (hS : ref39_Logins_Begin_B2 r0 ol_0 id_1 user_2 now_3 kept_11 i_12 = some r) {ρ : Tags} {w : World} (hb : Fr (enter ρA o 6) w0 ρ w) (hBl_0 : Blk ρ 100 w gl_0 (.cells #[v93, v95, v97] 96 (0, 0))) (hP94 : PtrO ref22_Locks.O (fun q => 100 + (1 + q)) ρ w v93 ol_0.locks) (h96 : OwnT ref39_user.c 103 ρ 103 w v95 ol_0.users) (h98 : OwnT (ref39_attempt.c M99) 108 ρ 104 w v97 ol_0.attempts) (hN100 : NestT api_Proof.c 42 ρ 105 w M99 none) (hkept_11 : OwnT (ref39_attempt.c M99) 108 ρ 13 w vkept_11 kept_11) :
  KE Tryz.prog 28 (Ret (fun v w' => ∃ ρ', v = .int .i64 r.1 ∧ ref39_Logins.O (fun p => o + p) ρ' w' gl_0 r.2 ∧ Tr ρA w0 (rng o 6) ρ' w')) 77 [.inBlock 1, .code (sub (bodyOf Tryz.f28) [2, 2, 2, 2, 2, 2, 2, 1, 2, 2, 1, 2, 2]), .inLoop (sub (bodyOf Tryz.f28) [2, 2, 2, 2, 2, 2, 2, 1, 2, 2, 1]), .inBlock 0, .code (sub (bodyOf Tryz.f28) [2, 2, 2, 2, 2, 2, 2, 2])] [(0, pT gl_0 0), (1, str id_1), (2, str user_2), (3, .int .i64 now_3), (11, vkept_11), (12, .int .i64 i_12)] w := by
 unfold ref39_Logins_Begin_B2 at hS
 refine ke_inBlock <| ke_region <| sr_go 3 rfl <| sr_fin [0, 1, 2, 3, 11, 12] rfl ?_
 have hK := hr0 hS hb hBl_0 hP94 h96 h98 hN100 hkept_11
 exact ke_wk hK
theorem ref39_Logins_Begin_L1_ok {w0 : World} (hg : Gs w0) {ρA : Tags} (hbd : ∀ b, ρA b ≠ 0 → b < w0.heap.size) {o : Nat} (ho2 : 2 ≤ o) {gl_0 : Nat} (hz : Gz (enter ρA o 6)) : ∀ (n : Nat), ∀ {r : Int × ref39_Logins} {ol_0 : ref39_Logins} {id_1 : Str} {user_2 : Str} {now_3 : Int} {kept_11 : List ref39_attempt} {i_12 : Int} {v42 : Value} {v44 : Value} {v46 : Value} {M48 : NM api_Proof} {vkept_11 : Value}, ref39_Logins_Begin_L1 n ol_0 id_1 user_2 now_3 kept_11 i_12 = some r → ∀ {ρ : Tags} {w : World}, (Fr (enter ρA o 6) w0 ρ w) → (Blk ρ 100 w gl_0 (.cells #[v42, v44, v46] 96 (0, 0))) → (PtrO ref22_Locks.O (fun q => 100 + (1 + q)) ρ w v42 ol_0.locks) → (OwnT ref39_user.c 103 ρ 103 w v44 ol_0.users) → (OwnT (ref39_attempt.c M48) 108 ρ 104 w v46 ol_0.attempts) → (NestT api_Proof.c 42 ρ 105 w M48 none) → (OwnT (ref39_attempt.c M48) 108 ρ 13 w vkept_11 kept_11) → KE Tryz.prog 28 (Ret (fun v w' => ∃ ρ', v = .int .i64 r.1 ∧ ref39_Logins.O (fun p => o + p) ρ' w' gl_0 r.2 ∧ Tr ρA w0 (rng o 6) ρ' w')) 77 [.code (sub (bodyOf Tryz.f28) [2, 2, 2, 2, 2, 2, 2, 1, 2, 2, 1]), .inLoop (sub (bodyOf Tryz.f28) [2, 2, 2, 2, 2, 2, 2, 1, 2, 2, 1]), .inBlock 0, .code (sub (bodyOf Tryz.f28) [2, 2, 2, 2, 2, 2, 2, 2])] [(0, pT gl_0 0), (1, str id_1), (2, str user_2), (3, .int .i64 now_3), (11, vkept_11), (12, .int .i64 i_12)] w := by
 intro n
 induction n with
 | zero => intro r ol_0 id_1 user_2 now_3 kept_11 i_12 v42 v44 v46 M48 vkept_11 hS; cases hS
 | succ n ih =>
  have hr0 : ∀ {r : Int × ref39_Logins} {ol_0 : ref39_Logins} {id_1 : Str} {user_2 : Str} {now_3 : Int} {kept_11 : List ref39_attempt} {i_12 : Int} {v42 : Value} {v44 : Value} {v46 : Value} {M48 : NM api_Proof} {vkept_11 : Value}, ref39_Logins_Begin_L1 n ol_0 id_1 user_2 now_3 kept_11 i_12 = some r → ∀ {ρ : Tags} {w : World}, (Fr (enter ρA o 6) w0 ρ w) → (Blk ρ 100 w gl_0 (.cells #[v42, v44, v46] 96 (0, 0))) → (PtrO ref22_Locks.O (fun q => 100 + (1 + q)) ρ w v42 ol_0.locks) → (OwnT ref39_user.c 103 ρ 103 w v44 ol_0.users) → (OwnT (ref39_attempt.c M48) 108 ρ 104 w v46 ol_0.attempts) → (NestT api_Proof.c 42 ρ 105 w M48 none) → (OwnT (ref39_attempt.c M48) 108 ρ 13 w vkept_11 kept_11) → KE Tryz.prog 28 (Ret (fun v w' => ∃ ρ', v = .int .i64 r.1 ∧ ref39_Logins.O (fun p => o + p) ρ' w' gl_0 r.2 ∧ Tr ρA w0 (rng o 6) ρ' w')) 77 [.inLoop (sub (bodyOf Tryz.f28) [2, 2, 2, 2, 2, 2, 2, 1, 2, 2, 1]), .inBlock 0, .code (sub (bodyOf Tryz.f28) [2, 2, 2, 2, 2, 2, 2, 2])] [(0, pT gl_0 0), (1, str id_1), (2, str user_2), (3, .int .i64 now_3), (11, vkept_11), (12, .int .i64 i_12)] w := fun {r} {ol_0} {id_1} {user_2} {now_3} {kept_11} {i_12} {v42} {v44} {v46} {M48} {vkept_11} hS {ρ} {w} hb hBl_0 hP43 h45 h47 hN49 hkept_11 => ke_inLoop (ih hS hb hBl_0 hP43 h45 h47 hN49 hkept_11)
  clear ih
  intro r ol_0 id_1 user_2 now_3 kept_11 i_12 v42 v44 v46 M48 vkept_11 hS ρ w hb hBl_0 hP43 h45 h47 hN49 hkept_11
  unfold ref39_Logins_Begin_L1 at hS
  refine ke_seq <| ke_seq <| ke_region <| sr_go 3 rfl ?_
  refine sr_fa 2 Tryz.underlying96 rfl Tryz.info94 ?_
  refine sr_ld v46 Tryz.isAgg94 rfl (hBl_0.cell rfl) ?_
  refine sr_e (ev_sllenW Tryz.underlying94 rfl h47.asSl) ?_
  refine sr_go 1 rfl <| sr_fin [0, 1, 2, 3, 11, 12, 43] rfl ?_
  refine ke_cond rfl (fun hc51 => ?_) (fun hc51 => ?_)
  ·replace hS := iT hS hc51
   refine ke_skip <| ke_seq ?_
   refine ke_block ?_
   refine ke_seq <| ke_region <| sr_go 2 rfl ?_
   refine sr_fa 2 Tryz.underlying96 rfl Tryz.info94 ?_
   refine sr_ld v46 Tryz.isAgg94 rfl (hBl_0.cell rfl) ?_
   refine sr_go 1 rfl ?_
   obtain ⟨y52, hy53, hS⟩ := bS hS
   obtain ⟨b54, o55, cs57, hq58, he56, hg62, ho63⟩ := h47.elemQ (P := Tryz.prog) Tryz.underlying94 Tryz.info108 rfl hy53
   obtain ⟨v59, hcshe56, hR61⟩ := he56.rd
   obtain rfl : cs57 = [str y52.id, str y52.user, .int .i64 y52.begun, v59] := hcshe56
   have h60 := hN49.sl hR61
   refine sr_e (hq58 w rfl rfl) ?_
   refine sr_e (v := .agg #[str y52.id, str y52.user, .int .i64 y52.begun, v59]) (ev_loads (cs := [str y52.id, str y52.user, .int .i64 y52.begun, v59]) Tryz.isAgg108 Tryz.sizeOf108 rfl he56.cell) ?_
   refine sr_go 1 rfl ?_
   obtain ⟨y64, hy65, hS⟩ := bS hS
   refine sr_cb Tryz.call66 (ref39_expired_ok _ (hg.fr hz hb) hb.bd (hz.fr hg hb) (by decide) h60 hy65) hb.bd ?_
   intro w66 t68
   replace hkept_11 := hkept_11.m t68
   replace hBl_0 := hBl_0.m t68
   replace hP43 := hP43.m ref22_Locks.objK t68
   replace h45 := h45.m t68
   replace h47 := h47.m t68
   replace hN49 := hN49.m t68
   replace hb := hb.trans t68
   refine sr_go 1 rfl <| sr_fin [0, 1, 2, 3, 11, 12, 55] rfl ?_
   refine ke_cond rfl (fun hc69 => ?_) (fun hc69 => ?_)
   ·replace hS := iT hS hc69
    refine ke_region <| sr_go 3 rfl ?_
    refine sr_fa 2 Tryz.underlying96 rfl Tryz.info94 ?_
    refine sr_ld v46 Tryz.isAgg94 rfl (hBl_0.cell rfl) ?_
    refine sr_go 1 rfl ?_
    obtain ⟨y70, hy71, hS⟩ := bS hS
    obtain ⟨b72, o73, cs75, hq76, he74, hg80, ho81⟩ := h47.elemQ (P := Tryz.prog) Tryz.underlying94 Tryz.info108 rfl hy71
    obtain ⟨v77, hcshe74, hR79⟩ := he74.rd
    obtain rfl : cs75 = [str y70.id, str y70.user, .int .i64 y70.begun, v77] := hcshe74
    have h78 := hN49.sl hR79
    refine sr_e (hq76 w66 rfl rfl) ?_
    refine sr_e (v := .agg #[str y70.id, str y70.user, .int .i64 y70.begun, v77]) (ev_loads (cs := [str y70.id, str y70.user, .int .i64 y70.begun, v77]) Tryz.isAgg108 Tryz.sizeOf108 rfl he74.cell) ?_
    refine sr_litT (c := (ref39_attempt.c M48)) (ρ := ρ) (E := 108) (xs := [y70]) (vs := #[(0, .agg #[str y70.id, str y70.user, .int .i64 y70.begun, v77])]) (cs := #[str y70.id, str y70.user, .int .i64 y70.begun, v77]) (css := [[str y70.id, str y70.user, .int .i64 y70.begun, v77]]) rfl (fun _ => by kernel_rfl) rfl ⟨⟨_, rfl, hR79⟩, trivial⟩ rfl (by decide) hb.bd (by decide) ?_
    intro v82 w84 h83 hbw86
    have t85 := Tr.of_below hbw86 hb.bd
    replace hkept_11 := hkept_11.m t85
    replace hb := hb.trans t85
    obtain ⟨hk87, hS⟩ := chk_some hS
    refine sr_appendT (i := 13) (c := (ref39_attempt.c M48)) (ρ := ρ) (E := 108) (xs := kept_11) (ys := ([y70] : List ref39_attempt)) hkept_11 ((SlT.of_sl (i := 0) h83)).x Tryz.underlying94 Tryz.info108 rfl rfl rfl (Nat.succ_pos _) (by decide) (by decide) hb.bd hk87 rfl rfl (by decide) ?_
    intro v88 ρ90 w91 h89 t92
    replace hBl_0 := (hBl_0.m t85).m t92
    replace hP43 := (hP43.m ref22_Locks.objK t85).m ref22_Locks.objK t92
    replace h45 := (h45.m t85).m t92
    replace h47 := (h47.m t85).m t92
    replace hN49 := (hN49.m t85).m t92
    replace hb := hb.trans t92
    refine sr_go 1 rfl <| sr_fin [0, 1, 2, 3, 11, 12] rfl ?_
    have hK := ref39_Logins_Begin_B2_ok hg hbd ho2 hz _ hr0 hS hb hBl_0 hP43 h45 h47 hN49 h89
    exact ke_wk hK
   ·replace hS := iF hS hc69
    refine ke_skip ?_
    have hK := ref39_Logins_Begin_B2_ok hg hbd ho2 hz _ hr0 hS hb hBl_0 hP43 h45 h47 hN49 hkept_11
    exact ke_wk hK
  ·replace hS := iF hS hc51
   refine ke_exit (k' := _) rfl ?_
   refine ke_seq <| ke_region <| sr_go 5 rfl ?_
   obtain ⟨y102, hy103, hS⟩ := bS hS
   refine sr_cb Tryz.call67 (ref04_Limit_ok _ (hg.fr hz hb) hy103) hb.bd ?_
   intro w104 t106
   replace hb := hb.trans t106
   refine sr_e (v := .agg #[str id_1, str user_2, .int .i64 y102, (.slice none 0 0)]) (ev_build (vs := #[(0, str id_1), (1, str user_2), (2, .int .i64 y102)]) rfl (fun _ => by kernel_rfl)) ?_
   refine sr_litT (c := (ref39_attempt.c M48)) (ρ := ρ) (E := 108) (xs := [(ref39_attempt.mk id_1 user_2 y102 ([] : List api_Proof))]) (vs := #[(0, .agg #[str id_1, str user_2, .int .i64 y102, (.slice none 0 0)])]) (cs := #[str id_1, str user_2, .int .i64 y102, (.slice none 0 0)]) (css := [[str id_1, str user_2, .int .i64 y102, (.slice none 0 0)]]) rfl (fun _ => by kernel_rfl) rfl ⟨⟨_, rfl, NR.nil⟩, trivial⟩ rfl (by decide) hb.bd (by decide) ?_
   intro v107 w109 h108 hbw111
   have t110 := Tr.of_below hbw111 hb.bd
   replace hkept_11 := (hkept_11.m t106).m t110
   replace hBl_0 := (hBl_0.m t106).m t110
   replace hP43 := (hP43.m ref22_Locks.objK t106).m ref22_Locks.objK t110
   replace h45 := (h45.m t106).m t110
   replace hN49 := (hN49.m t106).m t110
   replace hb := hb.trans t110
   obtain ⟨hk112, hS⟩ := chk_some hS
   refine sr_appendT (i := 13) (c := (ref39_attempt.c M48)) (ρ := ρ) (E := 108) (xs := kept_11) (ys := ([(ref39_attempt.mk id_1 user_2 y102 ([] : List api_Proof))] : List ref39_attempt)) hkept_11 ((SlT.of_sl (i := 0) h108)).x Tryz.underlying94 Tryz.info108 rfl rfl rfl (Nat.succ_pos _) (by decide) (by decide) hb.bd hk112 rfl rfl (by decide) ?_
   intro v113 ρ115 w116 h114 t117
   replace hBl_0 := hBl_0.m t117
   replace hb := hb.trans t117
   refine sr_go 1 rfl ?_
   refine sr_fa 2 Tryz.underlying96 rfl Tryz.info94 ?_
   refine sr_storeT (v := v113) (vs := [v113]) (cs' := #[v42, v44, v113]) hBl_0 (by decide) hb.bd rfl rfl (one_cells (OwnT.oneCell h114)) Tryz.sizeOf94 rfl (by first | rfl | (simp only [List.all_cons, List.all_nil, OwnT.oneCell h114]; done) | (simp only [List.all_cons, List.all_nil, OwnT.oneCell h114]; rfl)) rfl ?_
   intro w118 hBl_0 t119
   replace hP43 := (hP43.m ref22_Locks.objK t117).m ref22_Locks.objK t119
   replace h45 := (h45.m t117).m t119
   replace h114 := h114.m t119
   replace hN49 := (hN49.m t117).m t119
   replace hb := hb.trans t119
   refine sr_fin [] rfl <| ke_seq <| ke_region <| sr_go 1 rfl <| sr_fin [8] rfl ?_
   have t120 := rtg_tr (ρ := ρ115) (w := w118) (i := 13) 104 (by decide) hb.bd
   have hmv121 : Mv ρ115 w118 13 (rtg ρ115 13 104) w118 104 := rtg_mv (by decide)
   replace hBl_0 := hBl_0.m t120
   replace hP43 := hP43.m ref22_Locks.objK t120
   replace h45 := h45.m t120
   replace hN49 := hN49.m t120
   replace hb := hb.trans t120
   replace h114 := h114.mv hmv121 (by decide)
   cases hS
   exact ke_ret1 Tryz.func28 rfl rfl ⟨_, rfl, _, rfl, ⟨_, _, _, _, (hBl_0.lv 0 hb), (hP43.lv ref22_Locks.objK ho2 hb), (h45.lv 3 ho2 hb), (h114.lv 4 ho2 hb), (hN49.lv 5 ho2 hb)⟩, (leave_tr ho2 hb)⟩
theorem ref39_Logins_Begin_ok (w0 : World) (hg : Gs w0) {ρA : Tags} (hbd : ∀ b, ρA b ≠ 0 → b < w0.heap.size) (hz : Gz ρA) {o : Nat} (ho2 : 2 ≤ o) {l_0 : ref39_Logins} {id_1 : Str} {user_2 : Str} {now_3 : Int} {gl_0 : Nat} {r : Int × ref39_Logins} (ho0 : ref39_Logins.O (fun p => o + p) ρA w0 gl_0 l_0) (hS : ref39_Logins_Begin l_0 id_1 user_2 now_3 = some r) :
  Calls Tryz.prog 28 #[pT gl_0 0, str id_1, str user_2, .int .i64 now_3] w0 (Ret (fun v w' => ∃ ρ', v = .int .i64 r.1 ∧ ref39_Logins.O (fun p => o + p) ρ' w' gl_0 r.2 ∧ Tr ρA w0 (rng o 6) ρ' w')) := by
 unfold ref39_Logins_Begin at hS
 have hb := enter_fr (ρ := ρA) (w := w0) (n := 6) ho2 hbd
 have hz := hz.enter (n := 6) ho2
 obtain ⟨v1, v3, v5, M7, hB9, hP2, h4, h6, hN8⟩ := ho0
 replace hB9 := hB9.mv (enter_mv (p := 0) (n := 6) (by decide) ho2)
 replace hP2 := PtrO.mv hP2 ref22_Locks.objK (fun p hp => enter_mv (p := 1 + p) (n := 6) (by omega) ho2) (fun p hp => by omega)
 replace h4 := h4.mv (enter_mv (p := 3) (n := 6) (by decide) ho2) (by decide)
 replace h6 := h6.mv (enter_mv (p := 4) (n := 6) (by decide) ho2) (by decide)
 replace hN8 := hN8.mv (enter_mv (p := 5) (n := 6) (by decide) ho2) (by decide)
 refine ck Tryz.func28 [0, 1, 2, 3] rfl rfl ?_
 refine ke_seq <| ke_region <| sr_go 1 rfl <| sr_fin [0, 1, 2, 3] rfl <| ke_seq <| ke_region <| sr_go 3 rfl ?_
 obtain ⟨y10, hy11, hS⟩ := bS hS
 refine sr_cb Tryz.call65 (ref39_find_ok _ (hg.fr hz hb) hb.bd (hz.fr hg hb) (τ0 := (fun p => 100 + p)) (fun p => Nat.le_add_right_of_le (by decide)) (by exact ⟨_, _, _, _, hB9, hP2, h4, h6, hN8⟩) hy11) hb.bd ?_
 intro w12 t14
 replace hB9 := hB9.m t14
 replace hP2 := hP2.m ref22_Locks.objK t14
 replace h4 := h4.m t14
 replace h6 := h6.m t14
 replace hN8 := hN8.m t14
 replace hb := hb.trans t14
 refine sr_go 5 rfl <| sr_fin [0, 1, 2, 3, 10] rfl <| ke_seq <| ke_seq <| ke_region <| sr_go 2 rfl <| sr_fin [0, 1, 2, 3, 10, 21] rfl ?_
 refine ke_cond rfl (fun hc15 => ?_) (fun hc15 => ?_)
 ·replace hS := iT hS hc15
  refine ke_seq <| ke_region <| sr_go 2 rfl <| sr_fin [8] rfl ?_
  cases hS
  exact ke_ret1 Tryz.func28 rfl rfl ⟨_, rfl, _, rfl, ⟨_, _, _, _, (hB9.lv 0 hb), (hP2.lv ref22_Locks.objK ho2 hb), (h4.lv 3 ho2 hb), (h6.lv 4 ho2 hb), (hN8.lv 5 ho2 hb)⟩, (leave_tr ho2 hb)⟩
 ·replace hS := iF hS hc15
  refine ke_skip <| ke_seq <| ke_seq <| ke_region <| sr_go 1 rfl ?_
  obtain ⟨y16, hy17, hS⟩ := bS hS
  refine sr_cb Tryz.call61 (ref01_Word_ok _ (hg.fr hz hb) hy17) hb.bd ?_
  intro w18 t20
  replace hB9 := hB9.m t20
  replace hP2 := hP2.m ref22_Locks.objK t20
  replace h4 := h4.m t20
  replace h6 := h6.m t20
  replace hN8 := hN8.m t20
  replace hb := hb.trans t20
  refine sr_go 2 rfl ?_
  obtain ⟨z23, hz25, hS⟩ := bS hS
  refine sr_join (m := 4) (C := fun (z : Bool) w1 => z23 = z ∧ ∃ ρ1, Tr (enter ρA o 6) w18 (fun _ => false) ρ1 w1) (l' := fun z => [(0, pT gl_0 0), (1, str id_1), (2, str user_2), (3, .int .i64 now_3), (10, .int .i64 y10.2), (30, .bool z)]) ?_ ?_
  ·rintro _ w26 ⟨rfl, ρ27, hj24⟩
   replace hB9 := hB9.m hj24
   replace hP2 := hP2.m ref22_Locks.objK hj24
   replace h4 := h4.m hj24
   replace h6 := h6.m hj24
   replace hN8 := hN8.m hj24
   replace hb := hb.trans hj24
   refine sr_fin [0, 1, 2, 3, 10, 30] rfl ?_
   refine ke_cond rfl (fun hc34 => ?_) (fun hc34 => ?_)
   ·replace hS := iT hS hc34
    refine ke_seq <| ke_region <| sr_go 1 rfl <| sr_fin [8] rfl ?_
    cases hS
    exact ke_ret1 Tryz.func28 rfl rfl ⟨_, rfl, _, rfl, ⟨_, _, _, _, (hB9.lv 0 hb), (hP2.lv ref22_Locks.objK ho2 hb), (h4.lv 3 ho2 hb), (h6.lv 4 ho2 hb), (hN8.lv 5 ho2 hb)⟩, (leave_tr ho2 hb)⟩
   ·replace hS := iF hS hc34
    refine ke_skip <| ke_seq <| ke_seq <| ke_region <| sr_go 2 rfl <| sr_fin [0, 1, 2, 3, 32] rfl ?_
    refine ke_cond rfl (fun hc35 => ?_) (fun hc35 => ?_)
    ·replace hS := iT hS hc35
     refine ke_seq <| ke_region <| sr_go 1 rfl <| sr_fin [8] rfl ?_
     cases hS
     exact ke_ret1 Tryz.func28 rfl rfl ⟨_, rfl, _, rfl, ⟨_, _, _, _, (hB9.lv 0 hb), (hP2.lv ref22_Locks.objK ho2 hb), (h4.lv 3 ho2 hb), (h6.lv 4 ho2 hb), (hN8.lv 5 ho2 hb)⟩, (leave_tr ho2 hb)⟩
    ·replace hS := iF hS hc35
     refine ke_skip <| ke_seq <| ke_seq <| ke_region <| sr_go 2 rfl ?_
     obtain ⟨y36, hy37, hS⟩ := bS hS
     refine sr_cb Tryz.call38 (ref39_Logins_Open_ok _ (hg.fr hz hb) hb.bd (hz.fr hg hb) (τ0 := (fun p => 100 + p)) (fun p => Nat.le_add_right_of_le (by decide)) (by exact ⟨_, _, _, _, hB9, hP2, h4, h6, hN8⟩) hy37) hb.bd ?_
     intro w38 t40
     replace hB9 := hB9.m t40
     replace hP2 := hP2.m ref22_Locks.objK t40
     replace h4 := h4.m t40
     replace h6 := h6.m t40
     replace hN8 := hN8.m t40
     replace hb := hb.trans t40
     refine sr_go 1 rfl <| sr_fin [0, 1, 2, 3, 36] rfl ?_
     refine ke_cond rfl (fun hc41 => ?_) (fun hc41 => ?_)
     ·replace hS := iT hS hc41
      refine ke_seq <| ke_region <| sr_go 1 rfl <| sr_fin [8] rfl ?_
      cases hS
      exact ke_ret1 Tryz.func28 rfl rfl ⟨_, rfl, _, rfl, ⟨_, _, _, _, (hB9.lv 0 hb), (hP2.lv ref22_Locks.objK ho2 hb), (h4.lv 3 ho2 hb), (h6.lv 4 ho2 hb), (hN8.lv 5 ho2 hb)⟩, (leave_tr ho2 hb)⟩
     ·replace hS := iF hS hc41
      refine ke_skip <| ke_seq <| ke_region <| sr_go 1 rfl <| sr_fin [0, 1, 2, 3, 11] rfl <| ke_seq <| ke_seq <| ke_region <| sr_go 1 rfl <| sr_fin [0, 1, 2, 3, 11, 12] rfl ?_
      refine ke_block ?_
      have hK := ref39_Logins_Begin_L1_ok hg hbd ho2 hz _ hS hb hB9 hP2 h4 h6 hN8 OwnT.nil
      exact ke_wk (ke_loop hK)
  ·intro K22
   clear hS
   have hj24 : Tr (enter ρA o 6) w18 (fun _ => false) (enter ρA o 6) w18 := (Tr.refl hb.bd).weak (fun _ _ => rfl) rfl rfl
   rcases Bool.eq_false_or_eq_true (!y16) with hg21 | hg21
   ·have hS := iT hz25 hg21
    refine sr_setb 26 rfl hg21 <| sr_go 4 rfl ?_
    exact sr_wk (K22 true _ ⟨(Option.some.inj hS).symm, _, hj24⟩)
   ·have hS := iF hz25 hg21
    refine sr_setb 26 rfl hg21 <| sr_go 1 rfl ?_
    obtain ⟨y29, hy30, hS⟩ := bS hS
    refine sr_callg (b := false) (e := 26) rfl rfl rfl (vs := [str user_2]) rfl Tryz.call61 rfl (ref01_Word_ok _ (hg.fr hz hb) hy30) (by decide) ?_
    rintro _ w31 ⟨rfl, hbw32⟩
    have t33 := Tr.of_below hbw32 hb.bd
    replace hb := hb.trans t33
    replace hj24 := hj24.tw t33
    refine sr_go 2 rfl ?_
    exact sr_wk (K22 (!y29) _ ⟨(Option.some.inj hS).symm, _, hj24⟩)
theorem ref22_Locks_Made_ok (w0 : World) (hg : Gs w0) {ρA : Tags} (hbd : ∀ b, ρA b ≠ 0 → b < w0.heap.size) (hz : Gz ρA) {τ0 : Nat → Nat} (hτ0 : ∀ p, 1 ≤ τ0 p) {k_0 : ref22_Locks} {gk_0 : Nat} {r : Bool} (ho0 : ref22_Locks.O τ0 ρA w0 gk_0 k_0) (hS : ref22_Locks_Made k_0 = some r) :
  Calls Tryz.prog 104 #[pT gk_0 0] w0 (Ret (fun v w' => v = .bool r ∧ Below w0.heap.size w0 w')) := by
 unfold ref22_Locks_Made at hS
 have hb := flat1_fr (ρ := ρA) (w := w0) hbd
 have hz := hz.flat1
 obtain ⟨v1, hB3, h2⟩ := ho0
 replace hB3 := hB3.mv (flat1_mv (hτ0 0))
 refine ck Tryz.func104 [0] rfl rfl ?_
 refine ke_seq <| ke_region <| sr_go 1 rfl <| sr_fin [0] rfl <| ke_seq <| ke_region <| sr_go 1 rfl ?_
 refine sr_e (ev_pneT_some Tryz.underlying90 rfl rfl) ?_
 refine sr_go 3 rfl ?_
 refine sr_eg rfl (ev_fieldAddr (i := 0) Tryz.underlying140 rfl Tryz.info4 rfl rfl) ?_
 refine sr_eg rfl (ev_load Tryz.isAgg4 rfl (hB3.cell rfl)) ?_
 refine sr_go 2 rfl <| sr_fin [2] rfl ?_
 cases hS
 exact ke_ret1 Tryz.func104 rfl rfl ⟨_, rfl, rfl, (hb.below (flat1_le _))⟩
theorem ref22_Locks_find_L1_ok {w0 : World} (hg : Gs w0) {ρA : Tags} (hbd : ∀ b, ρA b ≠ 0 → b < w0.heap.size) (hz : Gz (flat1 ρA)) : ∀ (n : Nat), ∀ {r : Int} {ok_0 : ref22_Locks} {user_1 : Str} {i_5 : Int} {gk_0 : Nat}, ref22_Locks_find_L1 n ok_0 user_1 i_5 = some r → ∀ {ρ : Tags} {w : World}, (Fr (flat1 ρA) w0 ρ w) → (ref22_Locks.O (fun _ => 1) ρ w gk_0 ok_0) → KE Tryz.prog 105 (Ret (fun v w' => v = .int .i64 r ∧ Below w0.heap.size w0 w')) 26 [.code (sub (bodyOf Tryz.f105) [2, 1, 2, 2, 1]), .inLoop (sub (bodyOf Tryz.f105) [2, 1, 2, 2, 1]), .inBlock 0, .code (sub (bodyOf Tryz.f105) [2, 2])] [(0, pT gk_0 0), (1, str user_1), (5, .int .i64 i_5)] w := by
 intro n
 induction n with
 | zero => intro r ok_0 user_1 i_5 gk_0 hS; cases hS
 | succ n ih =>
  have hr0 : ∀ {r : Int} {ok_0 : ref22_Locks} {user_1 : Str} {i_5 : Int} {gk_0 : Nat}, ref22_Locks_find_L1 n ok_0 user_1 i_5 = some r → ∀ {ρ : Tags} {w : World}, (Fr (flat1 ρA) w0 ρ w) → (ref22_Locks.O (fun _ => 1) ρ w gk_0 ok_0) → KE Tryz.prog 105 (Ret (fun v w' => v = .int .i64 r ∧ Below w0.heap.size w0 w')) 26 [.inLoop (sub (bodyOf Tryz.f105) [2, 1, 2, 2, 1]), .inBlock 0, .code (sub (bodyOf Tryz.f105) [2, 2])] [(0, pT gk_0 0), (1, str user_1), (5, .int .i64 i_5)] w := fun {r} {ok_0} {user_1} {i_5} {gk_0} hS {ρ} {w} hb hok_0 => ke_inLoop (ih hS hb hok_0)
  clear ih
  intro r ok_0 user_1 i_5 gk_0 hS ρ w hb hok_0
  unfold ref22_Locks_find_L1 at hS
  obtain ⟨v4, hB6, h5⟩ := hok_0
  refine ke_seq <| ke_seq <| ke_region <| sr_go 3 rfl ?_
  refine sr_fa 4 Tryz.underlying140 rfl Tryz.info138 ?_
  refine sr_ld v4 Tryz.isAgg138 rfl (hB6.cell rfl) ?_
  refine sr_e (ev_sllenW Tryz.underlying138 rfl h5.asSl) ?_
  refine sr_go 1 rfl <| sr_fin [0, 1, 5, 12] rfl ?_
  refine ke_cond rfl (fun hc7 => ?_) (fun hc7 => ?_)
  ·replace hS := iT hS hc7
   refine ke_skip <| ke_seq ?_
   refine ke_block ?_
   refine ke_seq <| ke_region <| sr_go 2 rfl ?_
   refine sr_fa 4 Tryz.underlying140 rfl Tryz.info138 ?_
   refine sr_ld v4 Tryz.isAgg138 rfl (hB6.cell rfl) ?_
   refine sr_go 1 rfl ?_
   obtain ⟨y8, hy9, hS⟩ := bS hS
   obtain ⟨b10, o11, cs13, hq14, he12, hg17, ho18⟩ := h5.elemQ (P := Tryz.prog) Tryz.underlying138 Tryz.info142 rfl hy9
   obtain ⟨v15, hcshe12, h16⟩ := he12.rd
   obtain rfl : cs13 = [str y8.user, v15, .int .i64 y8.until_] := hcshe12
   refine sr_e (hq14 w rfl rfl) ?_
   refine sr_fa (o11 + 0) Tryz.underlying142 rfl Tryz.info9 ?_
   refine sr_ld (str y8.user) Tryz.isAgg9 rfl (he12.cell 0 _ rfl) ?_
   refine sr_go 1 rfl ?_
   refine sr_e (ev_seq rfl rfl) ?_
   refine sr_fin [0, 1, 5, 24] rfl ?_
   refine ke_cond rfl (fun hc19 => ?_) (fun hc19 => ?_)
   ·replace hS := iT hS hc19
    refine ke_seq <| ke_region <| sr_go 2 rfl <| sr_fin [4] rfl ?_
    cases hS
    exact ke_ret1 Tryz.func105 rfl rfl ⟨_, rfl, rfl, (hb.below (flat1_le _))⟩
   ·replace hS := iF hS hc19
    refine ke_skip <| ke_inBlock <| ke_region <| sr_go 3 rfl <| sr_fin [0, 1, 5] rfl ?_
    have hK := hr0 hS hb ⟨_, hB6, h5⟩
    exact ke_wk hK
  ·replace hS := iF hS hc7
   refine ke_exit (k' := _) rfl ?_
   refine ke_seq <| ke_region <| sr_go 1 rfl <| sr_fin [4] rfl ?_
   cases hS
   exact ke_ret1 Tryz.func105 rfl rfl ⟨_, rfl, rfl, (hb.below (flat1_le _))⟩
theorem ref22_Locks_find_ok (w0 : World) (hg : Gs w0) {ρA : Tags} (hbd : ∀ b, ρA b ≠ 0 → b < w0.heap.size) (hz : Gz ρA) {τ0 : Nat → Nat} (hτ0 : ∀ p, 1 ≤ τ0 p) {k_0 : ref22_Locks} {user_1 : Str} {gk_0 : Nat} {r : Int} (ho0 : ref22_Locks.O τ0 ρA w0 gk_0 k_0) (hS : ref22_Locks_find k_0 user_1 = some r) :
  Calls Tryz.prog 105 #[pT gk_0 0, str user_1] w0 (Ret (fun v w' => v = .int .i64 r ∧ Below w0.heap.size w0 w')) := by
 unfold ref22_Locks_find at hS
 have hb := flat1_fr (ρ := ρA) (w := w0) hbd
 have hz := hz.flat1
 obtain ⟨v1, hB3, h2⟩ := ho0
 replace hB3 := hB3.mv (flat1_mv (hτ0 0))
 replace h2 := h2.mv (flat1_mv (hτ0 1)) (by decide)
 refine ck Tryz.func105 [0, 1] rfl rfl ?_
 refine ke_seq <| ke_region <| sr_go 1 rfl <| sr_fin [0, 1] rfl <| ke_seq <| ke_seq <| ke_region <| sr_go 1 rfl <| sr_fin [0, 1, 5] rfl ?_
 refine ke_block ?_
 have hK := ref22_Locks_find_L1_ok hg hbd hz _ hS hb ⟨_, hB3, h2⟩
 exact ke_wk (ke_loop hK)
theorem ref22_Locks_Locked_ok (w0 : World) (hg : Gs w0) {ρA : Tags} (hbd : ∀ b, ρA b ≠ 0 → b < w0.heap.size) (hz : Gz ρA) {τ0 : Nat → Nat} (hτ0 : ∀ p, 1 ≤ τ0 p) {k_0 : ref22_Locks} {user_1 : Str} {now_2 : Int} {gk_0 : Nat} {r : Bool} (ho0 : ref22_Locks.O τ0 ρA w0 gk_0 k_0) (hS : ref22_Locks_Locked k_0 user_1 now_2 = some r) :
  Calls Tryz.prog 76 #[pT gk_0 0, str user_1, .int .i64 now_2] w0 (Ret (fun v w' => v = .bool r ∧ Below w0.heap.size w0 w')) := by
 unfold ref22_Locks_Locked at hS
 have hb := flat1_fr (ρ := ρA) (w := w0) hbd
 have hz := hz.flat1
 obtain ⟨v1, hB3, h2⟩ := ho0
 replace hB3 := hB3.mv (flat1_mv (hτ0 0))
 replace h2 := h2.mv (flat1_mv (hτ0 1)) (by decide)
 refine ck Tryz.func76 [0, 1, 2] rfl rfl ?_
 refine ke_seq <| ke_region <| sr_go 1 rfl <| sr_fin [0, 1, 2] rfl <| ke_seq <| ke_seq <| ke_region <| sr_go 1 rfl ?_
 obtain ⟨y4, hy5, hS⟩ := bS hS
 refine sr_cb Tryz.call104 (ref22_Locks_Made_ok _ (hg.fr hz hb) hb.bd (hz.fr hg hb) (τ0 := (fun _ => 1)) (fun _ => by decide) (by exact ⟨_, hB3, h2⟩) hy5) hb.bd ?_
 intro w6 t8
 replace hB3 := hB3.m t8
 replace h2 := h2.m t8
 replace hb := hb.trans t8
 refine sr_go 1 rfl <| sr_fin [0, 1, 2, 10] rfl ?_
 refine ke_cond rfl (fun hc9 => ?_) (fun hc9 => ?_)
 ·replace hS := iT hS hc9
  refine ke_seq <| ke_region <| sr_go 1 rfl <| sr_fin [6] rfl ?_
  cases hS
  exact ke_ret1 Tryz.func76 rfl rfl ⟨_, rfl, rfl, (hb.below (flat1_le _))⟩
 ·replace hS := iF hS hc9
  refine ke_skip <| ke_seq <| ke_region <| sr_go 2 rfl ?_
  obtain ⟨y10, hy11, hS⟩ := bS hS
  refine sr_cb Tryz.call105 (ref22_Locks_find_ok _ (hg.fr hz hb) hb.bd (hz.fr hg hb) (τ0 := (fun _ => 1)) (fun _ => by decide) (by exact ⟨_, hB3, h2⟩) hy11) hb.bd ?_
  intro w12 t14
  replace hB3 := hB3.m t14
  replace h2 := h2.m t14
  replace hb := hb.trans t14
  refine sr_go 1 rfl <| sr_fin [0, 2, 7] rfl <| ke_seq ?_
  refine ke_region_q Tryz.mixed (by kernel_rfl) ?_
  refine sq_go 3 rfl ?_
  obtain ⟨z19, hz21, hS⟩ := bS hS
  refine sq_join (m := 12) (C := fun (x : Bool) => z19 = x) (l' := fun x => [(28, .bool x)]) ?_ ?_
  ·rintro _ rfl
   refine sq_go 1 rfl ?_
   refine sq_fin [6] rfl (fun w16 hw15 => ?_)
   have t40 := Tr.of_below hw15 hb.bd
   replace hb := hb.trans t40
   cases hS
   exact ke_ret1 Tryz.func76 rfl rfl ⟨_, rfl, rfl, (hb.below (flat1_le _))⟩
  ·intro K18
   clear hS
   rcases Bool.eq_false_or_eq_true (decide (y10 ≥ 0)) with hg17 | hg17
   ·have hS := iT hz21 hg17
    refine sq_setb 16 rfl hg17 <| sq_go 1 rfl ?_
    obtain ⟨y24, hy25, hS⟩ := bS hS
    refine sq_callg (b := true) (e := 16) rfl rfl rfl (v := .int .i64 y24) (vs := [.int .i64 now_2]) rfl Tryz.call98 rfl (fun w1 hw1 => (ref22_Limited_ok _ ((hg.fr hz hb).below hw1) hy25)) (by decide) ?_
    refine sq_go 2 rfl ?_
    refine sq_evg (b := true) (e := 16) rfl rfl rfl (v := pT gk_0 4) (fun w1 hw1 => ev_fieldAddr (i := 4) Tryz.underlying140 rfl Tryz.info138 rfl rfl) (by decide) ?_
    refine sq_evg (b := true) (e := 16) rfl rfl rfl (v := v1) (fun w1 hw1 => ev_load Tryz.isAgg138 rfl ((hB3.mv (Mv.of_below (i := 1) (ρ := (flat1 ρA)) hw1)).cell rfl)) (by decide) ?_
    refine sq_go 1 rfl ?_
    obtain ⟨y29, hy30, hS⟩ := bS hS
    obtain ⟨b31, o32, cs34, hq35, he33, hg38, ho39⟩ := h2.elemQ (P := Tryz.prog) Tryz.underlying138 Tryz.info142 rfl hy30
    obtain ⟨v36, hcshe33, h37⟩ := he33.rd
    obtain rfl : cs34 = [str y29.user, v36, .int .i64 y29.until_] := hcshe33
    refine sq_evg (b := true) (e := 16) rfl rfl rfl (v := pT b31 o32) (fun w1 hw1 => hq35 w1 rfl rfl) (by decide) ?_
    refine sq_evg (b := true) (e := 16) rfl rfl rfl (v := pT b31 (o32 + 2)) (fun w1 hw1 => ev_fieldAddr (i := 2) Tryz.underlying142 rfl Tryz.info3 rfl rfl) (by decide) ?_
    refine sq_evg (b := true) (e := 16) rfl rfl rfl (v := .int .i64 y29.until_) (fun w1 hw1 => ev_load Tryz.isAgg3 rfl ((he33.mv (Mv.of_below (i := 1) (ρ := (flat1 ρA)) hw1) (Nat.succ_pos _)).cell 2 _ rfl)) (by decide) ?_
    refine sq_go 2 rfl ?_
    exact sq_wk (K18 (decide (y24 < y29.until_)) (Option.some.inj hS).symm)
   ·have hS := iF hz21 hg17
    refine sq_setb 16 rfl hg17 <| sq_go 12 rfl ?_
    exact sq_wk (K18 false (Option.some.inj hS).symm)
theorem ref22_Locks_Made__nil_ok (w0 : World) (hg : Gs w0) {ρA : Tags} (hbd : ∀ b, ρA b ≠ 0 → b < w0.heap.size) (hz : Gz ρA) {r : Bool} (hS : ref22_Locks_Made__nil = some r) :
  Calls Tryz.prog 104 #[.pointer none] w0 (Ret (fun v w' => v = .bool r ∧ Below w0.heap.size w0 w')) := by
 unfold ref22_Locks_Made__nil at hS
 have hb := flat1_fr (ρ := ρA) (w := w0) hbd
 have hz := hz.flat1
 refine ck Tryz.func104 [0] rfl rfl ?_
 refine ke_seq <| ke_region <| sr_go 1 rfl <| sr_fin [0] rfl <| ke_seq <| ke_region <| sr_go 1 rfl ?_
 refine sr_e (ev_pneT_nil Tryz.underlying90 rfl rfl) ?_
 refine sr_go 1 rfl ?_
 refine sr_pass (e := 5) rfl rfl rfl (by decide) ?_
 refine sr_pass (e := 5) rfl rfl rfl (by decide) ?_
 refine sr_pass (e := 5) rfl rfl rfl (by decide) ?_
 refine sr_pass (e := 5) rfl rfl rfl (by decide) ?_
 refine sr_go 2 rfl <| sr_fin [2] rfl ?_
 cases hS
 exact ke_ret1 Tryz.func104 rfl rfl ⟨_, rfl, rfl, (hb.below (flat1_le _))⟩
theorem ref22_Locks_Locked__nil_ok (w0 : World) (hg : Gs w0) {ρA : Tags} (hbd : ∀ b, ρA b ≠ 0 → b < w0.heap.size) (hz : Gz ρA) {user_1 : Str} {now_2 : Int} {r : Bool} (hS : ref22_Locks_Locked__nil user_1 now_2 = some r) :
  Calls Tryz.prog 76 #[.pointer none, str user_1, .int .i64 now_2] w0 (Ret (fun v w' => v = .bool r ∧ Below w0.heap.size w0 w')) := by
 unfold ref22_Locks_Locked__nil at hS
 have hb := flat1_fr (ρ := ρA) (w := w0) hbd
 have hz := hz.flat1
 refine ck Tryz.func76 [0, 1, 2] rfl rfl ?_
 refine ke_seq <| ke_region <| sr_go 1 rfl <| sr_fin [0, 1, 2] rfl <| ke_seq <| ke_seq <| ke_region <| sr_go 1 rfl ?_
 obtain ⟨y1, hy2, hS⟩ := bS hS
 obtain rfl : y1 = false := (Option.some.inj hy2).symm
 refine sr_cb Tryz.call104 (ref22_Locks_Made__nil_ok _ (hg.fr hz hb) hb.bd (hz.fr hg hb) hy2) hb.bd ?_
 intro w3 t5
 replace hb := hb.trans t5
 refine sr_e (ev_notc rfl rfl) ?_
 refine sr_fin [0, 1, 2, 10] rfl ?_
 refine ke_cond rfl (fun _ => ?_) (fun h => by cases h)
 refine ke_seq <| ke_region <| sr_go 1 rfl <| sr_fin [6] rfl ?_
 cases hS
 exact ke_ret1 Tryz.func76 rfl rfl ⟨_, rfl, rfl, (hb.below (flat1_le _))⟩
theorem ref39_presented_L1_ok {w0 : World} (hg : Gs w0) {ρA : Tags} (hbd : ∀ b, ρA b ≠ 0 → b < w0.heap.size) (hz : Gz (flat1 ρA)) : ∀ (n : Nat), ∀ {r : Int × Int} {ol_0 : ref39_Logins} {f_2 : Int} {now_3 : Int} {k_10 : Int} {a_12_0 : Str} {a_12_1 : Str} {a_12_2 : Int} {a_12_3 : List api_Proof} {i_13 : Int} {gl_0 : Nat} {ga_12 : Nat} {va_12_3 : Value}, ref39_presented_L1 n ol_0 f_2 now_3 k_10 a_12_0 a_12_1 a_12_2 a_12_3 i_13 = some r → ∀ {ρ : Tags} {w : World}, (Fr (flat1 ρA) w0 ρ w) → (ref39_Logins.O (fun _ => 1) ρ w gl_0 ol_0) → (SlT api_Proof.c ρ 1 w va_12_3 a_12_3) → (Blk ρ 14 w ga_12 (.cells #[str a_12_0, str a_12_1, .int .i64 a_12_2, va_12_3] 108 (0, 0))) → KE Tryz.prog 68 (Ret (fun v w' => v = .tuple #[.int .i64 r.1, .int .i64 r.2] ∧ Below w0.heap.size w0 w')) 55 [.code (sub (bodyOf Tryz.f68) [2, 2, 2, 2, 1, 2, 2, 1]), .inLoop (sub (bodyOf Tryz.f68) [2, 2, 2, 2, 1, 2, 2, 1]), .inBlock 0, .code (sub (bodyOf Tryz.f68) [2, 2, 2, 2, 2])] [(0, pT gl_0 0), (2, .int .i64 f_2), (3, .int .i64 now_3), (10, .int .i64 k_10), (12, pT ga_12 0), (13, .int .i64 i_13)] w := by
 intro n
 induction n with
 | zero => intro r ol_0 f_2 now_3 k_10 a_12_0 a_12_1 a_12_2 a_12_3 i_13 gl_0 ga_12 va_12_3 hS; cases hS
 | succ n ih =>
  have hr0 : ∀ {r : Int × Int} {ol_0 : ref39_Logins} {f_2 : Int} {now_3 : Int} {k_10 : Int} {a_12_0 : Str} {a_12_1 : Str} {a_12_2 : Int} {a_12_3 : List api_Proof} {i_13 : Int} {gl_0 : Nat} {ga_12 : Nat} {va_12_3 : Value}, ref39_presented_L1 n ol_0 f_2 now_3 k_10 a_12_0 a_12_1 a_12_2 a_12_3 i_13 = some r → ∀ {ρ : Tags} {w : World}, (Fr (flat1 ρA) w0 ρ w) → (ref39_Logins.O (fun _ => 1) ρ w gl_0 ol_0) → (SlT api_Proof.c ρ 1 w va_12_3 a_12_3) → (Blk ρ 14 w ga_12 (.cells #[str a_12_0, str a_12_1, .int .i64 a_12_2, va_12_3] 108 (0, 0))) → KE Tryz.prog 68 (Ret (fun v w' => v = .tuple #[.int .i64 r.1, .int .i64 r.2] ∧ Below w0.heap.size w0 w')) 55 [.inLoop (sub (bodyOf Tryz.f68) [2, 2, 2, 2, 1, 2, 2, 1]), .inBlock 0, .code (sub (bodyOf Tryz.f68) [2, 2, 2, 2, 2])] [(0, pT gl_0 0), (2, .int .i64 f_2), (3, .int .i64 now_3), (10, .int .i64 k_10), (12, pT ga_12 0), (13, .int .i64 i_13)] w := fun {r} {ol_0} {f_2} {now_3} {k_10} {a_12_0} {a_12_1} {a_12_2} {a_12_3} {i_13} {gl_0} {ga_12} {va_12_3} hS {ρ} {w} hb hol_0 ha_12_3 hBa_12 => ke_inLoop (ih hS hb hol_0 ha_12_3 hBa_12)
  clear ih
  intro r ol_0 f_2 now_3 k_10 a_12_0 a_12_1 a_12_2 a_12_3 i_13 gl_0 ga_12 va_12_3 hS ρ w hb hol_0 ha_12_3 hBa_12
  unfold ref39_presented_L1 at hS
  obtain ⟨v35, v37, v39, M41, hB43, hP36, h38, h40, hN42⟩ := hol_0
  refine ke_seq <| ke_seq <| ke_region <| sr_go 1 rfl ?_
  refine sr_fa 3 Tryz.underlying108 rfl Tryz.info36 ?_
  refine sr_ld va_12_3 Tryz.isAgg36 rfl (hBa_12.cell rfl) ?_
  refine sr_e (ev_sllenW Tryz.underlying36 rfl ha_12_3.as) ?_
  refine sr_go 1 rfl <| sr_fin [0, 2, 3, 10, 12, 13, 35] rfl ?_
  refine ke_cond rfl (fun hc44 => ?_) (fun hc44 => ?_)
  ·replace hS := iT hS hc44
   refine ke_skip <| ke_seq ?_
   refine ke_block ?_
   refine ke_seq <| ke_region ?_
   refine sr_fa 3 Tryz.underlying108 rfl Tryz.info36 ?_
   refine sr_ld va_12_3 Tryz.isAgg36 rfl (hBa_12.cell rfl) ?_
   refine sr_go 1 rfl ?_
   obtain ⟨y45, hy46, hS⟩ := bS hS
   obtain ⟨b47, o48, cs50, hq51, he49⟩ := (ha_12_3).elem (P := Tryz.prog) Tryz.underlying36 Tryz.info42 rfl hy46
   obtain rfl : cs50 = [.int .i64 y45.Factor, .int .i64 y45.Time] := he49.rd
   refine sr_e (hq51 w rfl rfl) ?_
   refine sr_fa (o48 + 0) Tryz.underlying42 rfl Tryz.info40 ?_
   refine sr_ld (.int .i64 y45.Factor) Tryz.isAgg40 rfl (he49.cell 0 _ rfl) ?_
   refine sr_go 2 rfl <| sr_fin [0, 2, 3, 10, 12, 13, 45] rfl ?_
   refine ke_cond rfl (fun hc52 => ?_) (fun hc52 => ?_)
   ·replace hS := iT hS hc52
    refine ke_seq <| ke_region <| sr_go 2 rfl <| sr_fin [8, 9] rfl ?_
    cases hS
    exact ke_ret2 Tryz.func68 rfl rfl rfl ⟨_, rfl, rfl, (hb.below (flat1_le _))⟩
   ·replace hS := iF hS hc52
    refine ke_skip <| ke_inBlock <| ke_region <| sr_go 3 rfl <| sr_fin [0, 2, 3, 10, 12, 13] rfl ?_
    have hK := hr0 hS hb ⟨_, _, _, _, hB43, hP36, h38, h40, hN42⟩ ha_12_3 hBa_12
    exact ke_wk hK
  ·replace hS := iF hS hc44
   refine ke_exit (k' := _) rfl ?_
   refine ke_seq <| ke_seq ?_
   refine ke_region_q Tryz.mixed (by kernel_rfl) ?_
   refine sq_go 2 rfl ?_
   refine sq_ev (v := pT gl_0 0) (fun w1 hw1 => ev_fieldAddr (i := 0) Tryz.underlying96 rfl Tryz.info90 rfl rfl) (by decide) ?_
   refine sq_ev (v := v35) (fun w1 hw1 => ev_load Tryz.isAgg90 rfl ((hB43.mv (Mv.of_below (i := 1) (ρ := ρ) hw1)).cell rfl)) (by decide) ?_
   refine sq_ev (v := pT ga_12 1) (fun w1 hw1 => ev_fieldAddr (i := 1) Tryz.underlying108 rfl Tryz.info9 rfl rfl) (by decide) ?_
   refine sq_ev (v := str a_12_1) (fun w1 hw1 => ev_load Tryz.isAgg9 rfl ((hBa_12.mv (Mv.of_below (i := 14) (ρ := ρ) hw1)).cell rfl)) (by decide) ?_
   refine sq_go 1 rfl ?_
   rcases ho56 : ol_0.locks with _ | z55
   ·replace hS := optC_none hS ho56
    obtain rfl := hP36.none_ ho56
    obtain ⟨y68, hy69, hS⟩ := bS hS
    refine sq_call (v := .bool y68) (vs := [.pointer none, str a_12_1, .int .i64 now_3]) rfl Tryz.call76 rfl (fun w1 hw1 => (ref22_Locks_Locked__nil_ok _ ((hg.fr hz hb).below hw1) (ρA := ρ) (fun b h => Nat.lt_of_lt_of_le (hb.bd b h) hw1.size) (hz.fr hg hb) hy69)) (by decide) ?_
    refine sq_fin [10, 53] rfl (fun w54 hw53 => ?_)
    have t73 := Tr.of_below hw53 hb.bd
    replace hb := hb.trans t73
    refine ke_cond rfl (fun hc74 => ?_) (fun hc74 => ?_)
    ·replace hS := iT hS hc74
     refine ke_seq <| ke_region <| sr_go 2 rfl <| sr_fin [8, 9] rfl ?_
     cases hS
     exact ke_ret2 Tryz.func68 rfl rfl rfl ⟨_, rfl, rfl, (hb.below (flat1_le _))⟩
    ·replace hS := iF hS hc74
     refine ke_skip <| ke_seq <| ke_region <| sr_go 3 rfl <| sr_fin [8, 9] rfl ?_
     cases hS
     exact ke_ret2 Tryz.func68 rfl rfl rfl ⟨_, rfl, rfl, (hb.below (flat1_le _))⟩
   ·replace hS := optC_some hS ho56
    obtain ⟨g57, rfl, ⟨v58, hB60, h59⟩⟩ := hP36.some_ ho56
    obtain ⟨y61, hy62, hS⟩ := bS hS
    refine sq_call (v := .bool y61) (vs := [pT g57 0, str a_12_1, .int .i64 now_3]) rfl Tryz.call76 rfl (fun w1 hw1 => (ref22_Locks_Locked_ok _ ((hg.fr hz hb).below hw1) (ρA := ρ) (fun b h => Nat.lt_of_lt_of_le (hb.bd b h) hw1.size) (hz.fr hg hb) (τ0 := (fun _ => 1)) (fun _ => by decide) (⟨_, (hB60.mv (Mv.of_below (i := 1) (ρ := ρ) hw1)), (h59.mv (Mv.of_below (i := 1) (ρ := ρ) hw1) (by decide))⟩ : ref22_Locks.O (fun _ => 1) ρ w1 g57 z55) hy62)) (by decide) ?_
    refine sq_fin [10, 53] rfl (fun w54 hw53 => ?_)
    have t66 := Tr.of_below hw53 hb.bd
    replace hb := hb.trans t66
    refine ke_cond rfl (fun hc67 => ?_) (fun hc67 => ?_)
    ·replace hS := iT hS hc67
     refine ke_seq <| ke_region <| sr_go 2 rfl <| sr_fin [8, 9] rfl ?_
     cases hS
     exact ke_ret2 Tryz.func68 rfl rfl rfl ⟨_, rfl, rfl, (hb.below (flat1_le _))⟩
    ·replace hS := iF hS hc67
     refine ke_skip <| ke_seq <| ke_region <| sr_go 3 rfl <| sr_fin [8, 9] rfl ?_
     cases hS
     exact ke_ret2 Tryz.func68 rfl rfl rfl ⟨_, rfl, rfl, (hb.below (flat1_le _))⟩

end YtkhodjenbganfaaGreatDoor
end Go.Proofs
