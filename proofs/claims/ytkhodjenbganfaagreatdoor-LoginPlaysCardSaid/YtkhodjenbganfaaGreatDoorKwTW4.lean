/- Own work: a part of the proofs of this seat. -/
import Derived.Test.YtkhodjenbganfaaGreatDoorProg
import Derived.Test.YtkhodjenbganfaaGreatDoorKwShelf
import Derived.Test.YtkhodjenbganfaaGreatDoorKwTS
import Derived.KernelRfl
import Derived.Test.YtkhodjenbganfaaGreatDoorKwTW3
import Derived.Test.YtkhodjenbganfaaGreatDoorKwShort
set_option linter.unusedVariables false
set_option linter.unusedSimpArgs false
set_option linter.unusedSectionVars false
set_option maxHeartbeats 8000000
set_option maxRecDepth 8000
namespace Go.Proofs
namespace YtkhodjenbganfaaGreatDoor
open Go Go.KW Go.KW.S Go.RowKit
theorem law39_LoginPlays_L1_ok {w0 : World} (hg : Gs w0) {ρA : Tags} (hbd : ∀ b, ρA b ≠ 0 → b < w0.heap.size) (hz : Gz (flat1 ρA)) : ∀ (n : Nat), ∀ {r : Bool} {l_2 : List law39_Op} {oa_7 : login_Logins} {ob_9 : ref39_Logins} {i_11 : Int} {vl_2 : Value} {ga_7 : Nat} {gb_9 : Nat}, law39_LoginPlays_L1 n l_2 oa_7 ob_9 i_11 = some r → ∀ {ρ : Tags} {w : World}, (Fr (flat1 ρA) w0 ρ w) → (SlR law39_Op.c (Wb ρ) w vl_2 l_2) → (login_Logins.O (fun p => 100 + p) ρ w ga_7 oa_7) → (ref39_Logins.O (fun p => 200 + p) ρ w gb_9 ob_9) → KE Tryz.prog 6 (Ret (fun v w' => v = .bool r ∧ Below w0.heap.size w0 w')) 218 [.code (sub (bodyOf Tryz.f6) [2, 2, 2, 2, 2, 2, 1, 2, 2, 1]), .inLoop (sub (bodyOf Tryz.f6) [2, 2, 2, 2, 2, 2, 1, 2, 2, 1]), .inBlock 0, .code (sub (bodyOf Tryz.f6) [2, 2, 2, 2, 2, 2, 2])] [(2, vl_2), (7, pT ga_7 0), (9, pT gb_9 0), (11, .int .i64 i_11)] w := by
 intro n
 induction n with
 | zero => intro r l_2 oa_7 ob_9 i_11 vl_2 ga_7 gb_9 hS; cases hS
 | succ n ih =>
  have hr0 : ∀ {r : Bool} {l_2 : List law39_Op} {oa_7 : login_Logins} {ob_9 : ref39_Logins} {i_11 : Int} {vl_2 : Value} {ga_7 : Nat} {gb_9 : Nat}, law39_LoginPlays_L1 n l_2 oa_7 ob_9 i_11 = some r → ∀ {ρ : Tags} {w : World}, (Fr (flat1 ρA) w0 ρ w) → (SlR law39_Op.c (Wb ρ) w vl_2 l_2) → (login_Logins.O (fun p => 100 + p) ρ w ga_7 oa_7) → (ref39_Logins.O (fun p => 200 + p) ρ w gb_9 ob_9) → KE Tryz.prog 6 (Ret (fun v w' => v = .bool r ∧ Below w0.heap.size w0 w')) 218 [.inLoop (sub (bodyOf Tryz.f6) [2, 2, 2, 2, 2, 2, 1, 2, 2, 1]), .inBlock 0, .code (sub (bodyOf Tryz.f6) [2, 2, 2, 2, 2, 2, 2])] [(2, vl_2), (7, pT ga_7 0), (9, pT gb_9 0), (11, .int .i64 i_11)] w := fun {r} {l_2} {oa_7} {ob_9} {i_11} {vl_2} {ga_7} {gb_9} hS {ρ} {w} hb hl_2 hoa_7 hob_9 => ke_inLoop (ih hS hb hl_2 hoa_7 hob_9)
  clear ih
  intro r l_2 oa_7 ob_9 i_11 vl_2 ga_7 gb_9 hS ρ w hb hl_2 hoa_7 hob_9
  unfold law39_LoginPlays_L1 at hS
  obtain ⟨v63, v65, v67, v69, hB71, hP64, h66, h68, h70⟩ := hoa_7
  obtain ⟨v72, v74, v76, M78, hB80, hP73, h75, h77, hN79⟩ := hob_9
  refine ke_seq <| ke_seq <| ke_region <| sr_go 2 rfl ?_
  refine sr_e (ev_sllenW Tryz.underlying22 rfl hl_2.asSl) ?_
  refine sr_go 1 rfl <| sr_fin [2, 7, 9, 11, 56] rfl ?_
  refine ke_cond rfl (fun hc81 => ?_) (fun hc81 => ?_)
  ·replace hS := iT hS hc81
   refine ke_skip <| ke_seq ?_
   refine ke_block ?_
   refine ke_seq <| ke_region <| sr_go 2 rfl ?_
   obtain ⟨y82, hy83, hS⟩ := bS hS
   obtain ⟨b84, o85, cs87, hq88, he86⟩ := ((SlT.of_sl (i := 0) hl_2)).elem (P := Tryz.prog) Tryz.underlying22 Tryz.info33 rfl hy83
   obtain rfl : cs87 = [.int .i64 y82.Kind, str y82.ID, str y82.User, str y82.Word, str y82.Code, str y82.S, .int .i64 y82.Level, .int .i64 y82.Rounds, .int .i64 y82.Now] := he86.rd
   refine sr_e (hq88 w rfl rfl) ?_
   refine sr_e (v := .agg #[.int .i64 y82.Kind, str y82.ID, str y82.User, str y82.Word, str y82.Code, str y82.S, .int .i64 y82.Level, .int .i64 y82.Rounds, .int .i64 y82.Now]) (ev_loads (cs := [.int .i64 y82.Kind, str y82.ID, str y82.User, str y82.Word, str y82.Code, str y82.S, .int .i64 y82.Level, .int .i64 y82.Rounds, .int .i64 y82.Now]) Tryz.isAgg33 Tryz.sizeOf33 rfl he86.cell) ?_
   refine sr_allocT 14 (by decide) hb.bd Tryz.zeroValue33 (by decide) ?_
   intro g89 ρ90 w91 hB93 t92
   replace hl_2 := hl_2.mv t92.rd
   replace hb := hb.trans t92
   refine sr_storeT (v := .agg #[.int .i64 y82.Kind, str y82.ID, str y82.User, str y82.Word, str y82.Code, str y82.S, .int .i64 y82.Level, .int .i64 y82.Rounds, .int .i64 y82.Now]) (vs := [.int .i64 y82.Kind, str y82.ID, str y82.User, str y82.Word, str y82.Code, str y82.S, .int .i64 y82.Level, .int .i64 y82.Rounds, .int .i64 y82.Now]) (cs' := #[.int .i64 y82.Kind, str y82.ID, str y82.User, str y82.Word, str y82.Code, str y82.S, .int .i64 y82.Level, .int .i64 y82.Rounds, .int .i64 y82.Now]) hB93 (by decide) hb.bd rfl rfl rfl Tryz.sizeOf33 rfl rfl rfl ?_
   intro w94 hB93 t95
   replace hl_2 := hl_2.mv t95.rd
   replace hB71 := (hB71.m t92).m t95
   replace hP64 := (hP64.m secret_Locks.objK t92).m secret_Locks.objK t95
   replace h66 := (h66.m t92).m t95
   replace h68 := (h68.m t92).m t95
   replace h70 := (h70.m t92).m t95
   replace hB80 := (hB80.m t92).m t95
   replace hP73 := (hP73.m ref22_Locks.objK t92).m ref22_Locks.objK t95
   replace h75 := (h75.m t92).m t95
   replace h77 := (h77.m t92).m t95
   replace hN79 := (hN79.m t92).m t95
   replace hb := hb.trans t95
   refine sr_fin [2, 7, 9, 11, 12] rfl <| ke_seq <| ke_region <| sr_go 1 rfl <| sr_fin [2, 7, 9, 11, 12] rfl <| ke_seq <| ke_seq <| ke_region ?_
   refine sr_fa 0 Tryz.underlying33 rfl Tryz.info3 ?_
   refine sr_ld (.int .i64 y82.Kind) Tryz.isAgg3 rfl (hB93.cell rfl) ?_
   refine sr_fin [2, 7, 9, 11, 12, 64] rfl ?_
   refine ke_block ?_
   refine ke_seq <| ke_region <| sr_go 2 rfl <| sr_fin [2, 7, 9, 11, 12, 64, 74] rfl ?_
   refine ke_cond rfl (fun hc96 => ?_) (fun hc96 => ?_)
   ·replace hS := iT hS hc96
    refine ke_region_j (ρ := ρ90) (fun t => ([100, 101, 102, 103, 104, 105, 106, 200, 201, 202, 203, 204, 205] : List Nat).contains t) 18 Tryz.mixed (fun w98 hw97 => ?_)
    have t99 := Tr.of_below hw97 hb.bd
    replace hl_2 := hl_2.mv t99.rd
    replace hB93 := hB93.m t99
    replace hb := hb.trans t99
    refine dj_v 0 hb.bd rfl rfl ?_
    refine dj_h 1 (pT g89 2) hb.bd rfl (fun w1 ρ1 hw1 => ev_fieldAddr (i := 2) Tryz.underlying33 rfl Tryz.info9 rfl rfl) ?_
    refine dj_h 2 (str y82.User) hb.bd rfl (fun w1 ρ1 hw1 => ev_load Tryz.isAgg9 rfl ((hB93.mv (hw1.mv (i := 14) rfl)).cell rfl)) ?_
    refine dj_h 3 (.agg #[.int .i64 y82.Kind, str y82.ID, str y82.User, str y82.Word, str y82.Code, str y82.S, .int .i64 y82.Level, .int .i64 y82.Rounds, .int .i64 y82.Now]) hb.bd rfl (fun w1 ρ1 hw1 => ev_loads (cs := [.int .i64 y82.Kind, str y82.ID, str y82.User, str y82.Word, str y82.Code, str y82.S, .int .i64 y82.Level, .int .i64 y82.Rounds, .int .i64 y82.Now]) Tryz.isAgg33 Tryz.sizeOf33 rfl ((hB93.mv (hw1.mv (i := 14) rfl)).cells (vs := [.int .i64 y82.Kind, str y82.ID, str y82.User, str y82.Word, str y82.Code, str y82.S, .int .i64 y82.Level, .int .i64 y82.Rounds, .int .i64 y82.Now]) rfl)) ?_
    refine dj_h 5 (pT g89 4) hb.bd rfl (fun w1 ρ1 hw1 => ev_fieldAddr (i := 4) Tryz.underlying33 rfl Tryz.info9 rfl rfl) ?_
    refine dj_h 6 (str y82.Code) hb.bd rfl (fun w1 ρ1 hw1 => ev_load Tryz.isAgg9 rfl ((hB93.mv (hw1.mv (i := 14) rfl)).cell rfl)) ?_
    refine dj_v 8 hb.bd rfl rfl ?_
    refine dj_h 9 (pT g89 2) hb.bd rfl (fun w1 ρ1 hw1 => ev_fieldAddr (i := 2) Tryz.underlying33 rfl Tryz.info9 rfl rfl) ?_
    refine dj_h 10 (str y82.User) hb.bd rfl (fun w1 ρ1 hw1 => ev_load Tryz.isAgg9 rfl ((hB93.mv (hw1.mv (i := 14) rfl)).cell rfl)) ?_
    refine dj_h 11 (.agg #[.int .i64 y82.Kind, str y82.ID, str y82.User, str y82.Word, str y82.Code, str y82.S, .int .i64 y82.Level, .int .i64 y82.Rounds, .int .i64 y82.Now]) hb.bd rfl (fun w1 ρ1 hw1 => ev_loads (cs := [.int .i64 y82.Kind, str y82.ID, str y82.User, str y82.Word, str y82.Code, str y82.S, .int .i64 y82.Level, .int .i64 y82.Rounds, .int .i64 y82.Now]) Tryz.isAgg33 Tryz.sizeOf33 rfl ((hB93.mv (hw1.mv (i := 14) rfl)).cells (vs := [.int .i64 y82.Kind, str y82.ID, str y82.User, str y82.Word, str y82.Code, str y82.S, .int .i64 y82.Level, .int .i64 y82.Rounds, .int .i64 y82.Now]) rfl)) ?_
    refine dj_h 13 (pT g89 4) hb.bd rfl (fun w1 ρ1 hw1 => ev_fieldAddr (i := 4) Tryz.underlying33 rfl Tryz.info9 rfl rfl) ?_
    refine dj_h 14 (str y82.Code) hb.bd rfl (fun w1 ρ1 hw1 => ev_load Tryz.isAgg9 rfl ((hB93.mv (hw1.mv (i := 14) rfl)).cell rfl)) ?_
    refine dj_E 4 (by kernel_rfl) rfl ?_
    have jt189 : Tr ρ90 w98 (fun t => ([100, 101, 102, 103, 104, 105, 106, 200, 201, 202, 203, 204, 205] : List Nat).contains t) ρ90 w98 := (Tr.refl hb.bd).weak (fun _ _ => rfl) rfl rfl
    obtain ⟨y190, hy191, hS⟩ := bS hS
    refine sr_cb Tryz.call26 (law39_verifier_ok _ (hg.fr hz hb) hy191) hb.bd ?_
    intro w192 t194
    replace hl_2 := hl_2.mv t194.rd
    replace hB71 := (hB71.m t99).m t194
    replace hP64 := (hP64.m secret_Locks.objK t99).m secret_Locks.objK t194
    replace h66 := (h66.m t99).m t194
    replace h68 := (h68.m t99).m t194
    replace h70 := (h70.m t99).m t194
    replace hB80 := (hB80.m t99).m t194
    replace hP73 := (hP73.m ref22_Locks.objK t99).m ref22_Locks.objK t194
    replace h75 := (h75.m t99).m t194
    replace h77 := (h77.m t99).m t194
    replace hN79 := (hN79.m t99).m t194
    replace hb := hb.trans t194
    replace jt189 := jt189.tw t194
    refine dj_nx [2, 7, 9, 11, 76, 78, 80, 82, 84, 86, 87, 90] rfl jt189 ?_
    refine dj_E 7 (by kernel_rfl) rfl ?_
    have jt195 : Tr ρ90 w192 (fun t => ([100, 101, 102, 103, 104, 105, 106, 200, 201, 202, 203, 204, 205] : List Nat).contains t) ρ90 w192 := (Tr.refl hb.bd).weak (fun _ _ => rfl) rfl rfl
    obtain ⟨y196, hy197, hS⟩ := bS hS
    refine sr_cl Tryz.call25 (login_Logins_Enroll_ok _ (hg.fr hz hb) hb.bd (hz.fr hg hb) (o := 100) (by decide) (by exact ⟨_, _, _, _, hB71, hP64, h66, h68, h70⟩) hy197) ?_
    rintro _ w198 ⟨ρ210, rfl, ⟨v201, v203, v205, v207, hB209, hP202, h204, h206, h208⟩, t200⟩
    replace hl_2 := hl_2.mv t200.rd
    replace hb := hb.trans t200
    replace jt195 := jt195.tw t200
    refine dj_nx [2, 7, 9, 11, 83, 84, 86, 87, 90] rfl jt195 ?_
    refine dj_E 12 (by kernel_rfl) rfl ?_
    have jt211 : Tr ρ210 w198 (fun t => ([100, 101, 102, 103, 104, 105, 106, 200, 201, 202, 203, 204, 205] : List Nat).contains t) ρ210 w198 := (Tr.refl hb.bd).weak (fun _ _ => rfl) rfl rfl
    obtain ⟨y212, hy213, hS⟩ := bS hS
    refine sr_cb Tryz.call26 (law39_verifier_ok _ (hg.fr hz hb) hy213) hb.bd ?_
    intro w214 t216
    replace hl_2 := hl_2.mv t216.rd
    replace hB80 := (hB80.m t200).m t216
    replace hP73 := (hP73.m ref22_Locks.objK t200).m ref22_Locks.objK t216
    replace h75 := (h75.m t200).m t216
    replace h77 := (h77.m t200).m t216
    replace hN79 := (hN79.m t200).m t216
    replace hb := hb.trans t216
    replace jt211 := jt211.tw t216
    refine dj_nx [2, 7, 9, 11, 83, 84, 86, 88, 90] rfl jt211 ?_
    refine dj_E 15 (by kernel_rfl) rfl ?_
    have jt217 : Tr ρ210 w214 (fun t => ([100, 101, 102, 103, 104, 105, 106, 200, 201, 202, 203, 204, 205] : List Nat).contains t) ρ210 w214 := (Tr.refl hb.bd).weak (fun _ _ => rfl) rfl rfl
    obtain ⟨y218, hy219, hS⟩ := bS hS
    refine sr_cl Tryz.call27 (ref39_Logins_Enroll_ok _ (hg.fr hz hb) hb.bd (hz.fr hg hb) (o := 200) (by decide) (by exact ⟨_, _, _, _, hB80, hP73, h75, h77, hN79⟩) hy219) ?_
    rintro _ w220 ⟨ρ232, rfl, ⟨v223, v225, v227, M229, hB231, hP224, h226, h228, hN230⟩, t222⟩
    replace hl_2 := hl_2.mv t222.rd
    replace hB209 := (hB209.m t216).m t222
    replace hP202 := (hP202.m secret_Locks.objK t216).m secret_Locks.objK t222
    replace h204 := (h204.m t216).m t222
    replace h206 := (h206.m t216).m t222
    replace h208 := (h208.m t216).m t222
    replace hb := hb.trans t222
    replace jt217 := jt217.tw t222
    refine dj_nx [2, 7, 9, 11, 83, 91] rfl jt217 ?_
    refine dj_v 16 hb.bd rfl rfl ?_
    refine dj_v 17 hb.bd rfl rfl ?_
    refine dj_done rfl (by kernel_rfl) ?_
    refine ke_fin [2, 7, 9, 11, 13] rfl ?_
    have hK := law39_LoginPlays_B2_ok hg hbd hz _ hr0 hS hb hl_2 ⟨_, _, _, _, hB209, hP202, h204, h206, h208⟩ ⟨_, _, _, _, hB231, hP224, h226, h228, hN230⟩
    exact ke_wk hK
   ·replace hS := iF hS hc96
    refine ke_seq <| ke_region <| sr_go 2 rfl <| sr_fin [2, 7, 9, 11, 12, 64, 93] rfl ?_
    refine ke_cond rfl (fun hc252 => ?_) (fun hc252 => ?_)
    ·replace hS := iT hS hc252
     refine ke_region_j (ρ := ρ90) (fun t => ([100, 101, 102, 103, 104, 105, 106, 200, 201, 202, 203, 204, 205] : List Nat).contains t) 18 Tryz.mixed (fun w254 hw253 => ?_)
     have t255 := Tr.of_below hw253 hb.bd
     replace hl_2 := hl_2.mv t255.rd
     replace hB93 := hB93.m t255
     replace hB71 := hB71.m t255
     replace hP64 := hP64.m secret_Locks.objK t255
     replace h66 := h66.m t255
     replace h68 := h68.m t255
     replace h70 := h70.m t255
     replace hb := hb.trans t255
     refine dj_v 0 hb.bd rfl rfl ?_
     refine dj_h 1 (pT g89 1) hb.bd rfl (fun w1 ρ1 hw1 => ev_fieldAddr (i := 1) Tryz.underlying33 rfl Tryz.info9 rfl rfl) ?_
     refine dj_h 2 (str y82.ID) hb.bd rfl (fun w1 ρ1 hw1 => ev_load Tryz.isAgg9 rfl ((hB93.mv (hw1.mv (i := 14) rfl)).cell rfl)) ?_
     refine dj_h 3 (pT g89 2) hb.bd rfl (fun w1 ρ1 hw1 => ev_fieldAddr (i := 2) Tryz.underlying33 rfl Tryz.info9 rfl rfl) ?_
     refine dj_h 4 (str y82.User) hb.bd rfl (fun w1 ρ1 hw1 => ev_load Tryz.isAgg9 rfl ((hB93.mv (hw1.mv (i := 14) rfl)).cell rfl)) ?_
     refine dj_h 5 (pT g89 8) hb.bd rfl (fun w1 ρ1 hw1 => ev_fieldAddr (i := 8) Tryz.underlying33 rfl Tryz.info3 rfl rfl) ?_
     refine dj_h 6 (.int .i64 y82.Now) hb.bd rfl (fun w1 ρ1 hw1 => ev_load Tryz.isAgg3 rfl ((hB93.mv (hw1.mv (i := 14) rfl)).cell rfl)) ?_
     refine dj_v 8 hb.bd rfl rfl ?_
     refine dj_h 9 (pT g89 1) hb.bd rfl (fun w1 ρ1 hw1 => ev_fieldAddr (i := 1) Tryz.underlying33 rfl Tryz.info9 rfl rfl) ?_
     refine dj_h 10 (str y82.ID) hb.bd rfl (fun w1 ρ1 hw1 => ev_load Tryz.isAgg9 rfl ((hB93.mv (hw1.mv (i := 14) rfl)).cell rfl)) ?_
     refine dj_h 11 (pT g89 2) hb.bd rfl (fun w1 ρ1 hw1 => ev_fieldAddr (i := 2) Tryz.underlying33 rfl Tryz.info9 rfl rfl) ?_
     refine dj_h 12 (str y82.User) hb.bd rfl (fun w1 ρ1 hw1 => ev_load Tryz.isAgg9 rfl ((hB93.mv (hw1.mv (i := 14) rfl)).cell rfl)) ?_
     refine dj_h 13 (pT g89 8) hb.bd rfl (fun w1 ρ1 hw1 => ev_fieldAddr (i := 8) Tryz.underlying33 rfl Tryz.info3 rfl rfl) ?_
     refine dj_h 14 (.int .i64 y82.Now) hb.bd rfl (fun w1 ρ1 hw1 => ev_load Tryz.isAgg3 rfl ((hB93.mv (hw1.mv (i := 14) rfl)).cell rfl)) ?_
     refine dj_E 7 (by kernel_rfl) rfl ?_
     have jt321 : Tr ρ90 w254 (fun t => ([100, 101, 102, 103, 104, 105, 106, 200, 201, 202, 203, 204, 205] : List Nat).contains t) ρ90 w254 := (Tr.refl hb.bd).weak (fun _ _ => rfl) rfl rfl
     obtain ⟨y322, hy323, hS⟩ := bS hS
     refine sr_cl Tryz.call14 (login_Logins_Begin_ok _ (hg.fr hz hb) hb.bd (hz.fr hg hb) (o := 100) (by decide) (by exact ⟨_, _, _, _, hB71, hP64, h66, h68, h70⟩) hy323) ?_
     rintro _ w324 ⟨ρ336, rfl, ⟨v327, v329, v331, v333, hB335, hP328, h330, h332, h334⟩, t326⟩
     replace hl_2 := hl_2.mv t326.rd
     replace hB80 := (hB80.m t255).m t326
     replace hP73 := (hP73.m ref22_Locks.objK t255).m ref22_Locks.objK t326
     replace h75 := (h75.m t255).m t326
     replace h77 := (h77.m t255).m t326
     replace hN79 := (hN79.m t255).m t326
     replace hb := hb.trans t326
     replace jt321 := jt321.tw t326
     refine dj_nx [2, 7, 9, 11, 102, 103, 105, 107, 109] rfl jt321 ?_
     refine dj_E 15 (by kernel_rfl) rfl ?_
     have jt337 : Tr ρ336 w324 (fun t => ([100, 101, 102, 103, 104, 105, 106, 200, 201, 202, 203, 204, 205] : List Nat).contains t) ρ336 w324 := (Tr.refl hb.bd).weak (fun _ _ => rfl) rfl rfl
     obtain ⟨y338, hy339, hS⟩ := bS hS
     refine sr_cl Tryz.call28 (ref39_Logins_Begin_ok _ (hg.fr hz hb) hb.bd (hz.fr hg hb) (o := 200) (by decide) (by exact ⟨_, _, _, _, hB80, hP73, h75, h77, hN79⟩) hy339) ?_
     rintro _ w340 ⟨ρ352, rfl, ⟨v343, v345, v347, M349, hB351, hP344, h346, h348, hN350⟩, t342⟩
     replace hl_2 := hl_2.mv t342.rd
     replace hB335 := hB335.m t342
     replace hP328 := hP328.m secret_Locks.objK t342
     replace h330 := h330.m t342
     replace h332 := h332.m t342
     replace h334 := h334.m t342
     replace hb := hb.trans t342
     replace jt337 := jt337.tw t342
     refine dj_nx [2, 7, 9, 11, 102, 110] rfl jt337 ?_
     refine dj_v 16 hb.bd rfl rfl ?_
     refine dj_v 17 hb.bd rfl rfl ?_
     refine dj_done rfl (by kernel_rfl) ?_
     refine ke_fin [2, 7, 9, 11, 13] rfl ?_
     have hK := law39_LoginPlays_B2_ok hg hbd hz _ hr0 hS hb hl_2 ⟨_, _, _, _, hB335, hP328, h330, h332, h334⟩ ⟨_, _, _, _, hB351, hP344, h346, h348, hN350⟩
     exact ke_wk hK
    ·replace hS := iF hS hc252
     refine ke_seq <| ke_region <| sr_go 2 rfl <| sr_fin [2, 7, 9, 11, 12, 64, 112] rfl ?_
     refine ke_cond rfl (fun hc353 => ?_) (fun hc353 => ?_)
     ·replace hS := iT hS hc353
      refine ke_region_j (ρ := ρ90) (fun t => ([100, 101, 102, 103, 104, 105, 106, 200, 201, 202, 203, 204, 205] : List Nat).contains t) 18 Tryz.mixed (fun w355 hw354 => ?_)
      have t356 := Tr.of_below hw354 hb.bd
      replace hl_2 := hl_2.mv t356.rd
      replace hB93 := hB93.m t356
      replace hB71 := hB71.m t356
      replace hP64 := hP64.m secret_Locks.objK t356
      replace h66 := h66.m t356
      replace h68 := h68.m t356
      replace h70 := h70.m t356
      replace hb := hb.trans t356
      refine dj_v 0 hb.bd rfl rfl ?_
      refine dj_h 1 (pT g89 1) hb.bd rfl (fun w1 ρ1 hw1 => ev_fieldAddr (i := 1) Tryz.underlying33 rfl Tryz.info9 rfl rfl) ?_
      refine dj_h 2 (str y82.ID) hb.bd rfl (fun w1 ρ1 hw1 => ev_load Tryz.isAgg9 rfl ((hB93.mv (hw1.mv (i := 14) rfl)).cell rfl)) ?_
      refine dj_h 3 (pT g89 3) hb.bd rfl (fun w1 ρ1 hw1 => ev_fieldAddr (i := 3) Tryz.underlying33 rfl Tryz.info9 rfl rfl) ?_
      refine dj_h 4 (str y82.Word) hb.bd rfl (fun w1 ρ1 hw1 => ev_load Tryz.isAgg9 rfl ((hB93.mv (hw1.mv (i := 14) rfl)).cell rfl)) ?_
      refine dj_h 5 (pT g89 8) hb.bd rfl (fun w1 ρ1 hw1 => ev_fieldAddr (i := 8) Tryz.underlying33 rfl Tryz.info3 rfl rfl) ?_
      refine dj_h 6 (.int .i64 y82.Now) hb.bd rfl (fun w1 ρ1 hw1 => ev_load Tryz.isAgg3 rfl ((hB93.mv (hw1.mv (i := 14) rfl)).cell rfl)) ?_
      refine dj_v 8 hb.bd rfl rfl ?_
      refine dj_h 9 (pT g89 1) hb.bd rfl (fun w1 ρ1 hw1 => ev_fieldAddr (i := 1) Tryz.underlying33 rfl Tryz.info9 rfl rfl) ?_
      refine dj_h 10 (str y82.ID) hb.bd rfl (fun w1 ρ1 hw1 => ev_load Tryz.isAgg9 rfl ((hB93.mv (hw1.mv (i := 14) rfl)).cell rfl)) ?_
      refine dj_h 11 (pT g89 3) hb.bd rfl (fun w1 ρ1 hw1 => ev_fieldAddr (i := 3) Tryz.underlying33 rfl Tryz.info9 rfl rfl) ?_
      refine dj_h 12 (str y82.Word) hb.bd rfl (fun w1 ρ1 hw1 => ev_load Tryz.isAgg9 rfl ((hB93.mv (hw1.mv (i := 14) rfl)).cell rfl)) ?_
      refine dj_h 13 (pT g89 8) hb.bd rfl (fun w1 ρ1 hw1 => ev_fieldAddr (i := 8) Tryz.underlying33 rfl Tryz.info3 rfl rfl) ?_
      refine dj_h 14 (.int .i64 y82.Now) hb.bd rfl (fun w1 ρ1 hw1 => ev_load Tryz.isAgg3 rfl ((hB93.mv (hw1.mv (i := 14) rfl)).cell rfl)) ?_
      refine dj_E 7 (by kernel_rfl) rfl ?_
      have jt422 : Tr ρ90 w355 (fun t => ([100, 101, 102, 103, 104, 105, 106, 200, 201, 202, 203, 204, 205] : List Nat).contains t) ρ90 w355 := (Tr.refl hb.bd).weak (fun _ _ => rfl) rfl rfl
      obtain ⟨y423, hy424, hS⟩ := bS hS
      refine sr_cl Tryz.call19 (login_Logins_Password_ok _ (hg.fr hz hb) hb.bd (hz.fr hg hb) (o := 100) (by decide) (by exact ⟨_, _, _, _, hB71, hP64, h66, h68, h70⟩) hy424) ?_
      rintro _ w425 ⟨ρ437, rfl, ⟨v428, v430, v432, v434, hB436, hP429, h431, h433, h435⟩, t427⟩
      replace hl_2 := hl_2.mv t427.rd
      replace hB80 := (hB80.m t356).m t427
      replace hP73 := (hP73.m ref22_Locks.objK t356).m ref22_Locks.objK t427
      replace h75 := (h75.m t356).m t427
      replace h77 := (h77.m t356).m t427
      replace hN79 := (hN79.m t356).m t427
      replace hb := hb.trans t427
      replace jt422 := jt422.tw t427
      refine dj_nx [2, 7, 9, 11, 121, 122, 124, 126, 128] rfl jt422 ?_
      refine dj_E 15 (by kernel_rfl) rfl ?_
      have jt438 : Tr ρ437 w425 (fun t => ([100, 101, 102, 103, 104, 105, 106, 200, 201, 202, 203, 204, 205] : List Nat).contains t) ρ437 w425 := (Tr.refl hb.bd).weak (fun _ _ => rfl) rfl rfl
      obtain ⟨y439, hy440, hS⟩ := bS hS
      refine sr_cl Tryz.call29 (ref39_Logins_Password_ok _ (hg.fr hz hb) hb.bd (hz.fr hg hb) (o := 200) (by decide) (by exact ⟨_, _, _, _, hB80, hP73, h75, h77, hN79⟩) hy440) ?_
      rintro _ w441 ⟨ρ453, rfl, ⟨v444, v446, v448, M450, hB452, hP445, h447, h449, hN451⟩, t443⟩
      replace hl_2 := hl_2.mv t443.rd
      replace hB436 := hB436.m t443
      replace hP429 := hP429.m secret_Locks.objK t443
      replace h431 := h431.m t443
      replace h433 := h433.m t443
      replace h435 := h435.m t443
      replace hb := hb.trans t443
      replace jt438 := jt438.tw t443
      refine dj_nx [2, 7, 9, 11, 121, 129] rfl jt438 ?_
      refine dj_v 16 hb.bd rfl rfl ?_
      refine dj_v 17 hb.bd rfl rfl ?_
      refine dj_done rfl (by kernel_rfl) ?_
      refine ke_fin [2, 7, 9, 11, 13] rfl ?_
      have hK := law39_LoginPlays_B2_ok hg hbd hz _ hr0 hS hb hl_2 ⟨_, _, _, _, hB436, hP429, h431, h433, h435⟩ ⟨_, _, _, _, hB452, hP445, h447, h449, hN451⟩
      exact ke_wk hK
     ·replace hS := iF hS hc353
      refine ke_seq <| ke_region <| sr_go 2 rfl <| sr_fin [2, 7, 9, 11, 12, 64, 131] rfl ?_
      refine ke_cond rfl (fun hc454 => ?_) (fun hc454 => ?_)
      ·replace hS := iT hS hc454
       refine ke_region_j (ρ := ρ90) (fun t => ([100, 101, 102, 103, 104, 105, 106, 200, 201, 202, 203, 204, 205] : List Nat).contains t) 18 Tryz.mixed (fun w456 hw455 => ?_)
       have t457 := Tr.of_below hw455 hb.bd
       replace hl_2 := hl_2.mv t457.rd
       replace hB93 := hB93.m t457
       replace hb := hb.trans t457
       refine dj_v 0 hb.bd rfl rfl ?_
       refine dj_h 1 (pT g89 1) hb.bd rfl (fun w1 ρ1 hw1 => ev_fieldAddr (i := 1) Tryz.underlying33 rfl Tryz.info9 rfl rfl) ?_
       refine dj_h 2 (str y82.ID) hb.bd rfl (fun w1 ρ1 hw1 => ev_load Tryz.isAgg9 rfl ((hB93.mv (hw1.mv (i := 14) rfl)).cell rfl)) ?_
       refine dj_h 3 (.agg #[.int .i64 y82.Kind, str y82.ID, str y82.User, str y82.Word, str y82.Code, str y82.S, .int .i64 y82.Level, .int .i64 y82.Rounds, .int .i64 y82.Now]) hb.bd rfl (fun w1 ρ1 hw1 => ev_loads (cs := [.int .i64 y82.Kind, str y82.ID, str y82.User, str y82.Word, str y82.Code, str y82.S, .int .i64 y82.Level, .int .i64 y82.Rounds, .int .i64 y82.Now]) Tryz.isAgg33 Tryz.sizeOf33 rfl ((hB93.mv (hw1.mv (i := 14) rfl)).cells (vs := [.int .i64 y82.Kind, str y82.ID, str y82.User, str y82.Word, str y82.Code, str y82.S, .int .i64 y82.Level, .int .i64 y82.Rounds, .int .i64 y82.Now]) rfl)) ?_
       refine dj_h 5 (pT g89 8) hb.bd rfl (fun w1 ρ1 hw1 => ev_fieldAddr (i := 8) Tryz.underlying33 rfl Tryz.info3 rfl rfl) ?_
       refine dj_h 6 (.int .i64 y82.Now) hb.bd rfl (fun w1 ρ1 hw1 => ev_load Tryz.isAgg3 rfl ((hB93.mv (hw1.mv (i := 14) rfl)).cell rfl)) ?_
       refine dj_v 8 hb.bd rfl rfl ?_
       refine dj_h 9 (pT g89 1) hb.bd rfl (fun w1 ρ1 hw1 => ev_fieldAddr (i := 1) Tryz.underlying33 rfl Tryz.info9 rfl rfl) ?_
       refine dj_h 10 (str y82.ID) hb.bd rfl (fun w1 ρ1 hw1 => ev_load Tryz.isAgg9 rfl ((hB93.mv (hw1.mv (i := 14) rfl)).cell rfl)) ?_
       refine dj_h 11 (.agg #[.int .i64 y82.Kind, str y82.ID, str y82.User, str y82.Word, str y82.Code, str y82.S, .int .i64 y82.Level, .int .i64 y82.Rounds, .int .i64 y82.Now]) hb.bd rfl (fun w1 ρ1 hw1 => ev_loads (cs := [.int .i64 y82.Kind, str y82.ID, str y82.User, str y82.Word, str y82.Code, str y82.S, .int .i64 y82.Level, .int .i64 y82.Rounds, .int .i64 y82.Now]) Tryz.isAgg33 Tryz.sizeOf33 rfl ((hB93.mv (hw1.mv (i := 14) rfl)).cells (vs := [.int .i64 y82.Kind, str y82.ID, str y82.User, str y82.Word, str y82.Code, str y82.S, .int .i64 y82.Level, .int .i64 y82.Rounds, .int .i64 y82.Now]) rfl)) ?_
       refine dj_h 13 (pT g89 8) hb.bd rfl (fun w1 ρ1 hw1 => ev_fieldAddr (i := 8) Tryz.underlying33 rfl Tryz.info3 rfl rfl) ?_
       refine dj_h 14 (.int .i64 y82.Now) hb.bd rfl (fun w1 ρ1 hw1 => ev_load Tryz.isAgg3 rfl ((hB93.mv (hw1.mv (i := 14) rfl)).cell rfl)) ?_
       refine dj_E 4 (by kernel_rfl) rfl ?_
       have jt547 : Tr ρ90 w456 (fun t => ([100, 101, 102, 103, 104, 105, 106, 200, 201, 202, 203, 204, 205] : List Nat).contains t) ρ90 w456 := (Tr.refl hb.bd).weak (fun _ _ => rfl) rfl rfl
       obtain ⟨y548, hy549, hS⟩ := bS hS
       refine sr_cb Tryz.call30 (law39_typed_ok _ (hg.fr hz hb) hy549) hb.bd ?_
       intro w550 t552
       replace hl_2 := hl_2.mv t552.rd
       replace hB71 := (hB71.m t457).m t552
       replace hP64 := (hP64.m secret_Locks.objK t457).m secret_Locks.objK t552
       replace h66 := (h66.m t457).m t552
       replace h68 := (h68.m t457).m t552
       replace h70 := (h70.m t457).m t552
       replace hB80 := (hB80.m t457).m t552
       replace hP73 := (hP73.m ref22_Locks.objK t457).m ref22_Locks.objK t552
       replace h75 := (h75.m t457).m t552
       replace h77 := (h77.m t457).m t552
       replace hN79 := (hN79.m t457).m t552
       replace hb := hb.trans t552
       replace jt547 := jt547.tw t552
       refine dj_nx [2, 7, 9, 11, 133, 135, 137, 139, 141, 143, 144, 147] rfl jt547 ?_
       refine dj_E 7 (by kernel_rfl) rfl ?_
       have jt553 : Tr ρ90 w550 (fun t => ([100, 101, 102, 103, 104, 105, 106, 200, 201, 202, 203, 204, 205] : List Nat).contains t) ρ90 w550 := (Tr.refl hb.bd).weak (fun _ _ => rfl) rfl rfl
       obtain ⟨y554, hy555, hS⟩ := bS hS
       refine sr_cl Tryz.call15 (login_Logins_Code_ok _ (hg.fr hz hb) hb.bd (hz.fr hg hb) (o := 100) (by decide) (by exact ⟨_, _, _, _, hB71, hP64, h66, h68, h70⟩) hy555) ?_
       rintro _ w556 ⟨ρ568, rfl, ⟨v559, v561, v563, v565, hB567, hP560, h562, h564, h566⟩, t558⟩
       replace hl_2 := hl_2.mv t558.rd
       replace hb := hb.trans t558
       replace jt553 := jt553.tw t558
       refine dj_nx [2, 7, 9, 11, 140, 141, 143, 144, 147] rfl jt553 ?_
       refine dj_E 12 (by kernel_rfl) rfl ?_
       have jt569 : Tr ρ568 w556 (fun t => ([100, 101, 102, 103, 104, 105, 106, 200, 201, 202, 203, 204, 205] : List Nat).contains t) ρ568 w556 := (Tr.refl hb.bd).weak (fun _ _ => rfl) rfl rfl
       obtain ⟨y570, hy571, hS⟩ := bS hS
       refine sr_cb Tryz.call30 (law39_typed_ok _ (hg.fr hz hb) hy571) hb.bd ?_
       intro w572 t574
       replace hl_2 := hl_2.mv t574.rd
       replace hB80 := (hB80.m t558).m t574
       replace hP73 := (hP73.m ref22_Locks.objK t558).m ref22_Locks.objK t574
       replace h75 := (h75.m t558).m t574
       replace h77 := (h77.m t558).m t574
       replace hN79 := (hN79.m t558).m t574
       replace hb := hb.trans t574
       replace jt569 := jt569.tw t574
       refine dj_nx [2, 7, 9, 11, 140, 141, 143, 145, 147] rfl jt569 ?_
       refine dj_E 15 (by kernel_rfl) rfl ?_
       have jt575 : Tr ρ568 w572 (fun t => ([100, 101, 102, 103, 104, 105, 106, 200, 201, 202, 203, 204, 205] : List Nat).contains t) ρ568 w572 := (Tr.refl hb.bd).weak (fun _ _ => rfl) rfl rfl
       obtain ⟨y576, hy577, hS⟩ := bS hS
       refine sr_cl Tryz.call31 (ref39_Logins_Code_ok _ (hg.fr hz hb) hb.bd (hz.fr hg hb) (o := 200) (by decide) (by exact ⟨_, _, _, _, hB80, hP73, h75, h77, hN79⟩) hy577) ?_
       rintro _ w578 ⟨ρ590, rfl, ⟨v581, v583, v585, M587, hB589, hP582, h584, h586, hN588⟩, t580⟩
       replace hl_2 := hl_2.mv t580.rd
       replace hB567 := (hB567.m t574).m t580
       replace hP560 := (hP560.m secret_Locks.objK t574).m secret_Locks.objK t580
       replace h562 := (h562.m t574).m t580
       replace h564 := (h564.m t574).m t580
       replace h566 := (h566.m t574).m t580
       replace hb := hb.trans t580
       replace jt575 := jt575.tw t580
       refine dj_nx [2, 7, 9, 11, 140, 148] rfl jt575 ?_
       refine dj_v 16 hb.bd rfl rfl ?_
       refine dj_v 17 hb.bd rfl rfl ?_
       refine dj_done rfl (by kernel_rfl) ?_
       refine ke_fin [2, 7, 9, 11, 13] rfl ?_
       have hK := law39_LoginPlays_B2_ok hg hbd hz _ hr0 hS hb hl_2 ⟨_, _, _, _, hB567, hP560, h562, h564, h566⟩ ⟨_, _, _, _, hB589, hP582, h584, h586, hN588⟩
       exact ke_wk hK
      ·replace hS := iF hS hc454
       refine ke_seq <| ke_region <| sr_go 2 rfl <| sr_fin [2, 7, 9, 11, 12, 64, 150] rfl ?_
       refine ke_cond rfl (fun hc591 => ?_) (fun hc591 => ?_)
       ·replace hS := iT hS hc591
        refine ke_seq <| ke_region <| sr_go 1 rfl ?_
        refine sr_fa 1 Tryz.underlying33 rfl Tryz.info9 ?_
        refine sr_ld (str y82.ID) Tryz.isAgg9 rfl (hB93.cell rfl) ?_
        refine sr_fa 6 Tryz.underlying33 rfl Tryz.info3 ?_
        refine sr_ld (.int .i64 y82.Level) Tryz.isAgg3 rfl (hB93.cell rfl) ?_
        refine sr_fa 8 Tryz.underlying33 rfl Tryz.info3 ?_
        refine sr_ld (.int .i64 y82.Now) Tryz.isAgg3 rfl (hB93.cell rfl) ?_
        obtain ⟨y592, hy593, hS⟩ := bS hS
        refine sr_cl Tryz.call17 (login_Logins_Finish_ok _ (hg.fr hz hb) hb.bd (hz.fr hg hb) (o := 100) (by decide) (by exact ⟨_, _, _, _, hB71, hP64, h66, h68, h70⟩) hy593) ?_
        rintro _ w594 ⟨ρ608, v597, rfl, h598, ⟨v599, v601, v603, v605, hB607, hP600, h602, h604, h606⟩, t596⟩
        replace hl_2 := hl_2.mv t596.rd
        replace hB93 := hB93.m t596
        replace hB80 := hB80.m t596
        replace hP73 := hP73.m ref22_Locks.objK t596
        replace h75 := h75.m t596
        replace h77 := h77.m t596
        replace hN79 := hN79.m t596
        replace hb := hb.trans t596
        refine sr_go 7 rfl <| sr_fin [2, 7, 9, 11, 12, 14, 15, 16] rfl <| ke_seq <| ke_region <| sr_go 1 rfl ?_
        refine sr_fa 1 Tryz.underlying33 rfl Tryz.info9 ?_
        refine sr_ld (str y82.ID) Tryz.isAgg9 rfl (hB93.cell rfl) ?_
        refine sr_fa 6 Tryz.underlying33 rfl Tryz.info3 ?_
        refine sr_ld (.int .i64 y82.Level) Tryz.isAgg3 rfl (hB93.cell rfl) ?_
        refine sr_fa 8 Tryz.underlying33 rfl Tryz.info3 ?_
        refine sr_ld (.int .i64 y82.Now) Tryz.isAgg3 rfl (hB93.cell rfl) ?_
        obtain ⟨y609, hy610, hS⟩ := bS hS
        refine sr_cl Tryz.call32 (ref39_Logins_Finish_ok _ (hg.fr hz hb) hb.bd (hz.fr hg hb) (o := 200) (by decide) (by exact ⟨_, _, _, _, hB80, hP73, h75, h77, hN79⟩) hy610) ?_
        rintro _ w611 ⟨ρ625, v614, rfl, h615, ⟨v616, v618, v620, M622, hB624, hP617, h619, h621, hN623⟩, t613⟩
        replace hl_2 := hl_2.mv t613.rd
        replace h598 := h598.mv t613.rd
        replace hB607 := hB607.m t613
        replace hP600 := hP600.m secret_Locks.objK t613
        replace h602 := h602.m t613
        replace h604 := h604.m t613
        replace h606 := h606.m t613
        replace hb := hb.trans t613
        refine sr_go 7 rfl <| sr_fin [2, 7, 9, 11, 14, 15, 16, 17, 18, 19] rfl <| ke_region <| sr_go 2 rfl ?_
        refine sr_e (ev_seq rfl rfl) ?_
        refine sr_go 1 rfl ?_
        obtain ⟨z628, hz630, hS⟩ := bS hS
        refine sr_join (m := 4) (C := fun (z : Bool) w1 => z628 = z ∧ ∃ ρ1, Tr ρ625 w611 (fun _ => false) ρ1 w1) (l' := fun z => [(2, vl_2), (7, pT ga_7 0), (9, pT gb_9 0), (11, .int .i64 i_11), (16, .int .i64 y592.2.2.1), (19, .int .i64 y609.2.2.1), (183, .bool z)]) ?_ ?_
        ·rintro _ w631 ⟨rfl, ρ632, hj629⟩
         replace hl_2 := hl_2.mv hj629.rd
         replace hB607 := hB607.m hj629
         replace hP600 := hP600.m secret_Locks.objK hj629
         replace h602 := h602.m hj629
         replace h604 := h604.m hj629
         replace h606 := h606.m hj629
         replace hB624 := hB624.m hj629
         replace hP617 := hP617.m ref22_Locks.objK hj629
         replace h619 := h619.m hj629
         replace h621 := h621.m hj629
         replace hN623 := hN623.m hj629
         replace hb := hb.trans hj629
         refine sr_go 1 rfl ?_
         refine sr_join (m := 4) (C := fun (x : Bool) w1 => x = (z628 && (y592.2.2.1 == y609.2.2.1)) ∧ w631 = w1) (l' := fun x => [(2, vl_2), (7, pT ga_7 0), (9, pT gb_9 0), (11, .int .i64 i_11), (188, .bool x)]) ?_ ?_
         ·rintro _ _ ⟨rfl, rfl⟩
          refine sr_go 1 rfl <| sr_fin [2, 7, 9, 11, 13] rfl ?_
          have hK := law39_LoginPlays_B2_ok hg hbd hz _ hr0 hS hb hl_2 ⟨_, _, _, _, hB607, hP600, h602, h604, h606⟩ ⟨_, _, _, _, hB624, hP617, h619, h621, hN623⟩
          exact ke_wk hK
         ·intro K640
          rcases Bool.eq_false_or_eq_true z628 with hg639 | hg639
          all_goals try have hj642 : Tr ρ632 w631 (fun _ => false) ρ632 w631 := Tr.refl hb.bd
          ·refine sr_setb 184 rfl hg639 <| sr_go 4 rfl ?_
           exact sr_wk (K640 (y592.2.2.1 == y609.2.2.1) _ ⟨by first | (rw [hg639]; rfl) | rfl, rfl⟩)
          ·refine sr_setb 184 rfl hg639 <| sr_go 4 rfl ?_
           exact sr_wk (K640 false _ ⟨by first | (rw [hg639]; rfl) | rfl, rfl⟩)
        ·intro K627
         clear hS
         have hj629 : Tr ρ625 w611 (fun _ => false) ρ625 w611 := (Tr.refl hb.bd).weak (fun _ _ => rfl) rfl rfl
         rcases Bool.eq_false_or_eq_true (y592.1 == y609.1) with hg626 | hg626
         ·have hS := iT hz630 hg626
          refine sr_setb 179 rfl hg626 <| sr_go 2 rfl ?_
          obtain ⟨y634, hy635, hS⟩ := bS hS
          refine sr_callg (b := true) (e := 179) rfl rfl rfl (vs := [v597, v614]) rfl Tryz.call33 rfl (ref39_Same_ok _ (hg.fr hz hb) (ρA := ρ625) hb.bd (hz.fr hg hb) h598 h615 hy635) (by decide) ?_
          rintro _ w636 ⟨rfl, hbw637⟩
          have t638 := Tr.of_below hbw637 hb.bd
          replace hb := hb.trans t638
          replace hj629 := hj629.tw t638
          refine sr_go 1 rfl ?_
          exact sr_wk (K627 y634 _ ⟨(Option.some.inj hS).symm, _, hj629⟩)
         ·have hS := iF hz630 hg626
          refine sr_setb 179 rfl hg626 <| sr_go 4 rfl ?_
          exact sr_wk (K627 false _ ⟨(Option.some.inj hS).symm, _, hj629⟩)
       ·replace hS := iF hS hc591
        refine ke_seq <| ke_region <| sr_go 2 rfl <| sr_fin [2, 7, 9, 11, 12, 64, 189] rfl ?_
        refine ke_cond rfl (fun hc647 => ?_) (fun hc647 => ?_)
        ·replace hS := iT hS hc647
         refine ke_region_q Tryz.mixed (by kernel_rfl) ?_
         refine sq_go 1 rfl ?_
         refine sq_ev (v := pT g89 2) (fun w1 hw1 => ev_fieldAddr (i := 2) Tryz.underlying33 rfl Tryz.info9 rfl rfl) (by decide) ?_
         refine sq_ev (v := str y82.User) (fun w1 hw1 => ev_load Tryz.isAgg9 rfl ((hB93.mv (Mv.of_below (i := 14) (ρ := ρ90) hw1)).cell rfl)) (by decide) ?_
         refine sq_ev (v := pT g89 8) (fun w1 hw1 => ev_fieldAddr (i := 8) Tryz.underlying33 rfl Tryz.info3 rfl rfl) (by decide) ?_
         refine sq_ev (v := .int .i64 y82.Now) (fun w1 hw1 => ev_load Tryz.isAgg3 rfl ((hB93.mv (Mv.of_below (i := 14) (ρ := ρ90) hw1)).cell rfl)) (by decide) ?_
         obtain ⟨y650, hy651, hS⟩ := bS hS
         refine sq_call (v := .bool y650) (vs := [pT ga_7 0, str y82.User, .int .i64 y82.Now]) rfl Tryz.call22 rfl (fun w1 hw1 => (login_Logins_Locked_ok _ ((hg.fr hz hb).below hw1) (ρA := ρ90) (fun b h => Nat.lt_of_lt_of_le (hb.bd b h) hw1.size) (hz.fr hg hb) (τ0 := (fun p => 100 + p)) (fun p => Nat.le_add_right_of_le (by decide)) (⟨_, _, _, _, (hB71.mv (Mv.of_below (i := 100) (ρ := ρ90) hw1)), (PtrO.mv hP64 secret_Locks.objK (fun p hp => Mv.of_below (i := 100 + (1 + p)) (ρ := ρ90) hw1) (fun p hp => by show 100 + (1 + p) ≠ 0; omega)), (h66.mv (Mv.of_below (i := 104) (ρ := ρ90) hw1)), (h68.mv (Mv.of_below (i := 105) (ρ := ρ90) hw1)), (h70.mv (Mv.of_below (i := 106) (ρ := ρ90) hw1))⟩ : login_Logins.O (fun p => 100 + p) ρ90 w1 ga_7 oa_7) hy651)) (by decide) ?_
         refine sq_go 1 rfl ?_
         refine sq_ev (v := pT g89 2) (fun w1 hw1 => ev_fieldAddr (i := 2) Tryz.underlying33 rfl Tryz.info9 rfl rfl) (by decide) ?_
         refine sq_ev (v := str y82.User) (fun w1 hw1 => ev_load Tryz.isAgg9 rfl ((hB93.mv (Mv.of_below (i := 14) (ρ := ρ90) hw1)).cell rfl)) (by decide) ?_
         refine sq_ev (v := pT g89 8) (fun w1 hw1 => ev_fieldAddr (i := 8) Tryz.underlying33 rfl Tryz.info3 rfl rfl) (by decide) ?_
         refine sq_ev (v := .int .i64 y82.Now) (fun w1 hw1 => ev_load Tryz.isAgg3 rfl ((hB93.mv (Mv.of_below (i := 14) (ρ := ρ90) hw1)).cell rfl)) (by decide) ?_
         obtain ⟨y655, hy656, hS⟩ := bS hS
         refine sq_call (v := .bool y655) (vs := [pT gb_9 0, str y82.User, .int .i64 y82.Now]) rfl Tryz.call34 rfl (fun w1 hw1 => (ref39_Logins_Locked_ok _ ((hg.fr hz hb).below hw1) (ρA := ρ90) (fun b h => Nat.lt_of_lt_of_le (hb.bd b h) hw1.size) (hz.fr hg hb) (τ0 := (fun p => 200 + p)) (fun p => Nat.le_add_right_of_le (by decide)) (⟨_, _, _, _, (hB80.mv (Mv.of_below (i := 200) (ρ := ρ90) hw1)), (PtrO.mv hP73 ref22_Locks.objK (fun p hp => Mv.of_below (i := 200 + (1 + p)) (ρ := ρ90) hw1) (fun p hp => by show 200 + (1 + p) ≠ 0; omega)), (h75.mv (Mv.of_below (i := 203) (ρ := ρ90) hw1) (by decide)), (h77.mv (Mv.of_below (i := 204) (ρ := ρ90) hw1) (by decide)), (hN79.mv (Mv.of_below (i := 205) (ρ := ρ90) hw1) (by decide))⟩ : ref39_Logins.O (fun p => 200 + p) ρ90 w1 gb_9 ob_9) hy656)) (by decide) ?_
         refine sq_ev (v := .bool (y650 == y655)) (fun w1 hw1 => ev_beq Tryz.underlying4 rfl rfl) (by decide) ?_
         refine sq_go 1 rfl ?_
         refine sq_fin [2, 7, 9, 11, 13] rfl (fun w649 hw648 => ?_)
         have t660 := Tr.of_below hw648 hb.bd
         replace hl_2 := hl_2.mv t660.rd
         replace hB71 := hB71.m t660
         replace hP64 := hP64.m secret_Locks.objK t660
         replace h66 := h66.m t660
         replace h68 := h68.m t660
         replace h70 := h70.m t660
         replace hB80 := hB80.m t660
         replace hP73 := hP73.m ref22_Locks.objK t660
         replace h75 := h75.m t660
         replace h77 := h77.m t660
         replace hN79 := hN79.m t660
         replace hb := hb.trans t660
         have hK := law39_LoginPlays_B2_ok hg hbd hz _ hr0 hS hb hl_2 ⟨_, _, _, _, hB71, hP64, h66, h68, h70⟩ ⟨_, _, _, _, hB80, hP73, h75, h77, hN79⟩
         exact ke_wk hK
        ·replace hS := iF hS hc647
         refine ke_seq <| ke_region <| sr_go 2 rfl <| sr_fin [2, 7, 9, 11, 12, 204] rfl ?_
         refine ke_cond rfl (fun hc661 => ?_) (fun hc661 => ?_)
         ·replace hS := iT hS hc661
          refine ke_region_j (ρ := ρ90) (fun t => ([100, 101, 102, 103, 104, 105, 106, 200, 201, 202, 203, 204, 205] : List Nat).contains t) 10 Tryz.mixed (fun w663 hw662 => ?_)
          have t664 := Tr.of_below hw662 hb.bd
          replace hl_2 := hl_2.mv t664.rd
          replace hB93 := hB93.m t664
          replace hB71 := hB71.m t664
          replace hP64 := hP64.m secret_Locks.objK t664
          replace h66 := h66.m t664
          replace h68 := h68.m t664
          replace h70 := h70.m t664
          replace hb := hb.trans t664
          refine dj_v 0 hb.bd rfl rfl ?_
          refine dj_h 1 (pT g89 2) hb.bd rfl (fun w1 ρ1 hw1 => ev_fieldAddr (i := 2) Tryz.underlying33 rfl Tryz.info9 rfl rfl) ?_
          refine dj_h 2 (str y82.User) hb.bd rfl (fun w1 ρ1 hw1 => ev_load Tryz.isAgg9 rfl ((hB93.mv (hw1.mv (i := 14) rfl)).cell rfl)) ?_
          refine dj_v 4 hb.bd rfl rfl ?_
          refine dj_h 5 (pT g89 2) hb.bd rfl (fun w1 ρ1 hw1 => ev_fieldAddr (i := 2) Tryz.underlying33 rfl Tryz.info9 rfl rfl) ?_
          refine dj_h 6 (str y82.User) hb.bd rfl (fun w1 ρ1 hw1 => ev_load Tryz.isAgg9 rfl ((hB93.mv (hw1.mv (i := 14) rfl)).cell rfl)) ?_
          refine dj_E 3 (by kernel_rfl) rfl ?_
          have jt730 : Tr ρ90 w663 (fun t => ([100, 101, 102, 103, 104, 105, 106, 200, 201, 202, 203, 204, 205] : List Nat).contains t) ρ90 w663 := (Tr.refl hb.bd).weak (fun _ _ => rfl) rfl rfl
          obtain ⟨y731, hy732, hS⟩ := bS hS
          refine sr_cl Tryz.call35 (login_Logins_Drop_ok _ (hg.fr hz hb) hb.bd (hz.fr hg hb) (o := 100) (by decide) (by exact ⟨_, _, _, _, hB71, hP64, h66, h68, h70⟩) hy732) ?_
          rintro _ w733 ⟨ρ745, rfl, ⟨v736, v738, v740, v742, hB744, hP737, h739, h741, h743⟩, t735⟩
          replace hl_2 := hl_2.mv t735.rd
          replace hB80 := (hB80.m t664).m t735
          replace hP73 := (hP73.m ref22_Locks.objK t664).m ref22_Locks.objK t735
          replace h75 := (h75.m t664).m t735
          replace h77 := (h77.m t664).m t735
          replace hN79 := (hN79.m t664).m t735
          replace hb := hb.trans t735
          replace jt730 := jt730.tw t735
          refine dj_nx [2, 7, 9, 11, 209, 210, 212] rfl jt730 ?_
          refine dj_E 7 (by kernel_rfl) rfl ?_
          have jt746 : Tr ρ745 w733 (fun t => ([100, 101, 102, 103, 104, 105, 106, 200, 201, 202, 203, 204, 205] : List Nat).contains t) ρ745 w733 := (Tr.refl hb.bd).weak (fun _ _ => rfl) rfl rfl
          obtain ⟨y747, hy748, hS⟩ := bS hS
          refine sr_cl Tryz.call36 (ref39_Logins_Drop_ok _ (hg.fr hz hb) hb.bd (hz.fr hg hb) (o := 200) (by decide) (by exact ⟨_, _, _, _, hB80, hP73, h75, h77, hN79⟩) hy748) ?_
          rintro _ w749 ⟨ρ761, rfl, ⟨v752, v754, v756, M758, hB760, hP753, h755, h757, hN759⟩, t751⟩
          replace hl_2 := hl_2.mv t751.rd
          replace hB744 := hB744.m t751
          replace hP737 := hP737.m secret_Locks.objK t751
          replace h739 := h739.m t751
          replace h741 := h741.m t751
          replace h743 := h743.m t751
          replace hb := hb.trans t751
          replace jt746 := jt746.tw t751
          refine dj_nx [2, 7, 9, 11, 209, 213] rfl jt746 ?_
          refine dj_h 8 (.bool (y731.1 == y747.1)) hb.bd rfl (fun w1 ρ1 hw1 => ev_beq Tryz.underlying4 rfl rfl) ?_
          refine dj_v 9 hb.bd rfl rfl ?_
          refine dj_done rfl (by kernel_rfl) ?_
          refine ke_fin [2, 7, 9, 11, 13] rfl ?_
          have hK := law39_LoginPlays_B2_ok hg hbd hz _ hr0 hS hb hl_2 ⟨_, _, _, _, hB744, hP737, h739, h741, h743⟩ ⟨_, _, _, _, hB760, hP753, h755, h757, hN759⟩
          exact ke_wk hK
         ·replace hS := iF hS hc661
          refine ke_region_q Tryz.mixed (by kernel_rfl) ?_
          refine sq_go 1 rfl ?_
          refine sq_ev (v := pT g89 8) (fun w1 hw1 => ev_fieldAddr (i := 8) Tryz.underlying33 rfl Tryz.info3 rfl rfl) (by decide) ?_
          refine sq_ev (v := .int .i64 y82.Now) (fun w1 hw1 => ev_load Tryz.isAgg3 rfl ((hB93.mv (Mv.of_below (i := 14) (ρ := ρ90) hw1)).cell rfl)) (by decide) ?_
          obtain ⟨y764, hy765, hS⟩ := bS hS
          refine sq_call (v := .int .i64 y764) (vs := [pT ga_7 0, .int .i64 y82.Now]) rfl Tryz.call37 rfl (fun w1 hw1 => (login_Logins_Open_ok _ ((hg.fr hz hb).below hw1) (ρA := ρ90) (fun b h => Nat.lt_of_lt_of_le (hb.bd b h) hw1.size) (hz.fr hg hb) (τ0 := (fun p => 100 + p)) (fun p => Nat.le_add_right_of_le (by decide)) (⟨_, _, _, _, (hB71.mv (Mv.of_below (i := 100) (ρ := ρ90) hw1)), (PtrO.mv hP64 secret_Locks.objK (fun p hp => Mv.of_below (i := 100 + (1 + p)) (ρ := ρ90) hw1) (fun p hp => by show 100 + (1 + p) ≠ 0; omega)), (h66.mv (Mv.of_below (i := 104) (ρ := ρ90) hw1)), (h68.mv (Mv.of_below (i := 105) (ρ := ρ90) hw1)), (h70.mv (Mv.of_below (i := 106) (ρ := ρ90) hw1))⟩ : login_Logins.O (fun p => 100 + p) ρ90 w1 ga_7 oa_7) hy765)) (by decide) ?_
          refine sq_go 1 rfl ?_
          refine sq_ev (v := pT g89 8) (fun w1 hw1 => ev_fieldAddr (i := 8) Tryz.underlying33 rfl Tryz.info3 rfl rfl) (by decide) ?_
          refine sq_ev (v := .int .i64 y82.Now) (fun w1 hw1 => ev_load Tryz.isAgg3 rfl ((hB93.mv (Mv.of_below (i := 14) (ρ := ρ90) hw1)).cell rfl)) (by decide) ?_
          obtain ⟨y769, hy770, hS⟩ := bS hS
          refine sq_call (v := .int .i64 y769) (vs := [pT gb_9 0, .int .i64 y82.Now]) rfl Tryz.call38 rfl (fun w1 hw1 => (ref39_Logins_Open_ok _ ((hg.fr hz hb).below hw1) (ρA := ρ90) (fun b h => Nat.lt_of_lt_of_le (hb.bd b h) hw1.size) (hz.fr hg hb) (τ0 := (fun p => 200 + p)) (fun p => Nat.le_add_right_of_le (by decide)) (⟨_, _, _, _, (hB80.mv (Mv.of_below (i := 200) (ρ := ρ90) hw1)), (PtrO.mv hP73 ref22_Locks.objK (fun p hp => Mv.of_below (i := 200 + (1 + p)) (ρ := ρ90) hw1) (fun p hp => by show 200 + (1 + p) ≠ 0; omega)), (h75.mv (Mv.of_below (i := 203) (ρ := ρ90) hw1) (by decide)), (h77.mv (Mv.of_below (i := 204) (ρ := ρ90) hw1) (by decide)), (hN79.mv (Mv.of_below (i := 205) (ρ := ρ90) hw1) (by decide))⟩ : ref39_Logins.O (fun p => 200 + p) ρ90 w1 gb_9 ob_9) hy770)) (by decide) ?_
          refine sq_go 2 rfl ?_
          refine sq_fin [2, 7, 9, 11, 13] rfl (fun w763 hw762 => ?_)
          have t774 := Tr.of_below hw762 hb.bd
          replace hl_2 := hl_2.mv t774.rd
          replace hB71 := hB71.m t774
          replace hP64 := hP64.m secret_Locks.objK t774
          replace h66 := h66.m t774
          replace h68 := h68.m t774
          replace h70 := h70.m t774
          replace hB80 := hB80.m t774
          replace hP73 := hP73.m ref22_Locks.objK t774
          replace h75 := h75.m t774
          replace h77 := h77.m t774
          replace hN79 := hN79.m t774
          replace hb := hb.trans t774
          have hK := law39_LoginPlays_B2_ok hg hbd hz _ hr0 hS hb hl_2 ⟨_, _, _, _, hB71, hP64, h66, h68, h70⟩ ⟨_, _, _, _, hB80, hP73, h75, h77, hN79⟩
          exact ke_wk hK
  ·replace hS := iF hS hc81
   refine ke_exit (k' := _) rfl ?_
   refine ke_seq <| ke_region ?_
   obtain ⟨y775, hy776, hS⟩ := bS hS
   refine sr_cb Tryz.call10 (law39_alive_ok _ (hg.fr hz hb) hb.bd (hz.fr hg hb) hy776) hb.bd ?_
   intro w777 t779
   replace hb := hb.trans t779
   refine sr_go 1 rfl <| sr_fin [6] rfl ?_
   cases hS
   exact ke_ret1 Tryz.func6 rfl rfl ⟨_, rfl, rfl, (hb.below (flat1_le _))⟩
theorem law39_LoginPlays_ok (w0 : World) (hg : Gs w0) {ρA : Tags} (hbd : ∀ b, ρA b ≠ 0 → b < w0.heap.size) (hz : Gz ρA) {most_0 : Int} {lock_1 : Int} {l_2 : List law39_Op} {v1 : Value} {r : Bool} (h2 : SlR law39_Op.c (Wb ρA) w0 v1 l_2) (hS : law39_LoginPlays most_0 lock_1 l_2 = some r) :
  Calls Tryz.prog 6 #[.int .i64 most_0, .int .i64 lock_1, v1] w0 (Ret (fun v w' => v = .bool r ∧ Below w0.heap.size w0 w')) := by
 unfold law39_LoginPlays at hS
 have hb := flat1_fr (ρ := ρA) (w := w0) hbd
 have hz := hz.flat1
 replace h2 := SlR.mv h2 flat1_rd
 refine ck Tryz.func6 [0, 1, 2] rfl rfl ?_
 refine ke_seq <| ke_region <| sr_go 1 rfl <| sr_fin [0, 1, 2] rfl <| ke_seq <| ke_seq <| ke_region <| sr_go 1 rfl ?_
 obtain ⟨y3, hy4, hS⟩ := bS hS
 refine sr_cb Tryz.call9 (law39_few_ok _ (hg.fr hz hb) h2.asSl hy4) hb.bd ?_
 intro w5 t7
 replace h2 := h2.mv t7.rd
 replace hb := hb.trans t7
 refine sr_go 1 rfl <| sr_fin [0, 1, 2, 22] rfl ?_
 refine ke_cond rfl (fun hc8 => ?_) (fun hc8 => ?_)
 ·replace hS := iT hS hc8
  refine ke_seq <| ke_region ?_
  obtain ⟨y9, hy10, hS⟩ := bS hS
  refine sr_cb Tryz.call10 (law39_alive_ok _ (hg.fr hz hb) hb.bd (hz.fr hg hb) hy10) hb.bd ?_
  intro w11 t13
  replace hb := hb.trans t13
  refine sr_go 1 rfl <| sr_fin [6] rfl ?_
  cases hS
  exact ke_ret1 Tryz.func6 rfl rfl ⟨_, rfl, rfl, (hb.below (flat1_le _))⟩
 ·replace hS := iF hS hc8
  refine ke_skip <| ke_seq <| ke_region <| sr_go 2 rfl ?_
  obtain ⟨y14, hy15, hS⟩ := bS hS
  refine sr_cl Tryz.call23 (login_New_ok _ (hg.fr hz hb) hb.bd (hz.fr hg hb) (o := 100) (by decide) hy15) ?_
  rintro _ w16 ⟨ρ21, v19, rfl, hP20, t18⟩
  replace h2 := h2.mv t18.rd
  replace hb := hb.trans t18
  rcases ho23 : y14.1 with _ | z22
  ·replace hS := optC_none hS ho23
   obtain rfl := hP20.none_ ho23
   refine sr_go 5 rfl <| sr_fin [0, 1, 2, 7, 8] rfl <| ke_seq <| ke_region <| sr_go 2 rfl ?_
   obtain ⟨y794, hy795, hS⟩ := bS hS
   refine sr_cl Tryz.call24 (ref39_New_ok _ (hg.fr hz hb) hb.bd (hz.fr hg hb) (o := 100) (by decide) hy795) ?_
   rintro _ w796 ⟨ρ801, v799, rfl, hP800, t798⟩
   replace hb := hb.trans t798
   rcases ho803 : y794.1 with _ | z802
   ·replace hS := optC_none hS ho803
    obtain rfl := hP800.none_ ho803
    refine sr_go 5 rfl <| sr_fin [2, 7, 8, 9, 10] rfl <| ke_seq <| ke_seq <| ke_region <| sr_go 4 rfl ?_
    refine sr_join (m := 6) (C := fun (x : Bool) w1 => x = ((y14.2 != y794.2) || (true != true)) ∧ w796 = w1) (l' := fun x => [(2, v1), (7, .pointer none), (9, .pointer none), (45, .bool x)]) ?_ ?_
    ·rintro _ _ ⟨rfl, rfl⟩
     refine sr_fin [2, 7, 9, 45] rfl ?_
     refine ke_cond rfl (fun hc836 => ?_) (fun hc836 => ?_)
     ·replace hS := iT hS hc836
      refine ke_seq <| ke_region <| sr_go 1 rfl <| sr_fin [6] rfl ?_
      cases hS
      exact ke_ret1 Tryz.func6 rfl rfl ⟨_, rfl, rfl, (hb.below (flat1_le _))⟩
     ·replace hS := iF hS hc836
      refine ke_skip <| ke_seq <| ke_seq <| ke_region <| sr_go 1 rfl ?_
      refine sr_e (ev_peqT_nil Tryz.underlying25 rfl rfl) ?_
      refine sr_go 1 rfl ?_
      refine sr_pass (e := 48) rfl rfl rfl (by decide) ?_
      refine sr_pass (e := 48) rfl rfl rfl (by decide) ?_
      refine sr_go 1 rfl <| sr_fin [2, 7, 9, 51] rfl ?_
      refine ke_cond rfl (fun _ => ?_) (fun h => by cases h)
      refine ke_seq <| ke_region ?_
      obtain ⟨y837, hy838, hS⟩ := bS hS
      refine sr_cb Tryz.call10 (law39_alive_ok _ (hg.fr hz hb) hb.bd (hz.fr hg hb) hy838) hb.bd ?_
      intro w839 t841
      replace hb := hb.trans t841
      refine sr_go 1 rfl <| sr_fin [6] rfl ?_
      cases hS
      exact ke_ret1 Tryz.func6 rfl rfl ⟨_, rfl, rfl, (hb.below (flat1_le _))⟩
    ·intro K829
     rcases Bool.eq_false_or_eq_true (y14.2 != y794.2) with hg828 | hg828
     all_goals try have hj831 : Tr ρ801 w796 (fun _ => false) ρ801 w796 := Tr.refl hb.bd
     ·refine sr_setb 39 rfl hg828 <| sr_go 6 rfl ?_
      exact sr_wk (K829 true _ ⟨by first | (rw [hg828]; rfl) | rfl, rfl⟩)
     ·refine sr_setb 39 rfl hg828 <| sr_go 1 rfl ?_
      refine sr_eg rfl (ev_peqT_nil Tryz.underlying25 rfl rfl) ?_
      refine sr_go 1 rfl ?_
      refine sr_eg rfl (ev_peqT_nil Tryz.underlying53 rfl rfl) ?_
      refine sr_eg rfl (ev_bne Tryz.underlying4 rfl rfl) ?_
      refine sr_go 1 rfl ?_
      exact sr_wk (K829 (true != true) _ ⟨by first | (rw [hg828]; rfl) | rfl, rfl⟩)
   ·replace hS := optC_some hS ho803
    obtain ⟨g804, rfl, ⟨v805, v807, v809, M811, hB813, hP806, h808, h810, hN812⟩⟩ := hP800.some_ ho803
    refine sr_go 5 rfl <| sr_fin [2, 7, 8, 9, 10] rfl <| ke_seq <| ke_seq <| ke_region <| sr_go 4 rfl ?_
    refine sr_join (m := 6) (C := fun (x : Bool) w1 => x = ((y14.2 != y794.2) || (true != false)) ∧ w796 = w1) (l' := fun x => [(2, v1), (7, .pointer none), (9, pT g804 0), (45, .bool x)]) ?_ ?_
    ·rintro _ _ ⟨rfl, rfl⟩
     refine sr_fin [2, 7, 9, 45] rfl ?_
     refine ke_cond rfl (fun hc822 => ?_) (fun hc822 => ?_)
     ·replace hS := iT hS hc822
      refine ke_seq <| ke_region <| sr_go 1 rfl <| sr_fin [6] rfl ?_
      cases hS
      exact ke_ret1 Tryz.func6 rfl rfl ⟨_, rfl, rfl, (hb.below (flat1_le _))⟩
     ·replace hS := iF hS hc822
      refine ke_skip <| ke_seq <| ke_seq <| ke_region <| sr_go 1 rfl ?_
      refine sr_e (ev_peqT_nil Tryz.underlying25 rfl rfl) ?_
      refine sr_go 1 rfl ?_
      refine sr_pass (e := 48) rfl rfl rfl (by decide) ?_
      refine sr_pass (e := 48) rfl rfl rfl (by decide) ?_
      refine sr_go 1 rfl <| sr_fin [2, 7, 9, 51] rfl ?_
      refine ke_cond rfl (fun _ => ?_) (fun h => by cases h)
      refine ke_seq <| ke_region ?_
      obtain ⟨y823, hy824, hS⟩ := bS hS
      refine sr_cb Tryz.call10 (law39_alive_ok _ (hg.fr hz hb) hb.bd (hz.fr hg hb) hy824) hb.bd ?_
      intro w825 t827
      replace hb := hb.trans t827
      refine sr_go 1 rfl <| sr_fin [6] rfl ?_
      cases hS
      exact ke_ret1 Tryz.func6 rfl rfl ⟨_, rfl, rfl, (hb.below (flat1_le _))⟩
    ·intro K815
     rcases Bool.eq_false_or_eq_true (y14.2 != y794.2) with hg814 | hg814
     all_goals try have hj817 : Tr ρ801 w796 (fun _ => false) ρ801 w796 := Tr.refl hb.bd
     ·refine sr_setb 39 rfl hg814 <| sr_go 6 rfl ?_
      exact sr_wk (K815 true _ ⟨by first | (rw [hg814]; rfl) | rfl, rfl⟩)
     ·refine sr_setb 39 rfl hg814 <| sr_go 1 rfl ?_
      refine sr_eg rfl (ev_peqT_nil Tryz.underlying25 rfl rfl) ?_
      refine sr_go 1 rfl ?_
      refine sr_eg rfl (ev_peqT_some Tryz.underlying53 rfl rfl) ?_
      refine sr_eg rfl (ev_bne Tryz.underlying4 rfl rfl) ?_
      refine sr_go 1 rfl ?_
      exact sr_wk (K815 (true != false) _ ⟨by first | (rw [hg814]; rfl) | rfl, rfl⟩)
  ·replace hS := optC_some hS ho23
   obtain ⟨g24, rfl, ⟨v25, v27, v29, v31, hB33, hP26, h28, h30, h32⟩⟩ := hP20.some_ ho23
   refine sr_go 5 rfl <| sr_fin [0, 1, 2, 7, 8] rfl <| ke_seq <| ke_region <| sr_go 2 rfl ?_
   obtain ⟨y34, hy35, hS⟩ := bS hS
   refine sr_cl Tryz.call24 (ref39_New_ok _ (hg.fr hz hb) hb.bd (hz.fr hg hb) (o := 200) (by decide) hy35) ?_
   rintro _ w36 ⟨ρ41, v39, rfl, hP40, t38⟩
   replace h2 := h2.mv t38.rd
   replace hB33 := hB33.m t38
   replace hP26 := hP26.m secret_Locks.objK t38
   replace h28 := h28.m t38
   replace h30 := h30.m t38
   replace h32 := h32.m t38
   replace hb := hb.trans t38
   rcases ho43 : y34.1 with _ | z42
   ·replace hS := optC_none hS ho43
    obtain rfl := hP40.none_ ho43
    refine sr_go 5 rfl <| sr_fin [2, 7, 8, 9, 10] rfl <| ke_seq <| ke_seq <| ke_region <| sr_go 4 rfl ?_
    refine sr_join (m := 6) (C := fun (x : Bool) w1 => x = ((y14.2 != y34.2) || (false != true)) ∧ w36 = w1) (l' := fun x => [(2, v1), (7, pT g24 0), (9, .pointer none), (45, .bool x)]) ?_ ?_
    ·rintro _ _ ⟨rfl, rfl⟩
     refine sr_fin [2, 7, 9, 45] rfl ?_
     refine ke_cond rfl (fun hc788 => ?_) (fun hc788 => ?_)
     ·replace hS := iT hS hc788
      refine ke_seq <| ke_region <| sr_go 1 rfl <| sr_fin [6] rfl ?_
      cases hS
      exact ke_ret1 Tryz.func6 rfl rfl ⟨_, rfl, rfl, (hb.below (flat1_le _))⟩
     ·replace hS := iF hS hc788
      refine ke_skip <| ke_seq <| ke_seq <| ke_region <| sr_go 1 rfl ?_
      refine sr_e (ev_peqT_some Tryz.underlying25 rfl rfl) ?_
      refine sr_go 2 rfl ?_
      refine sr_eg rfl (ev_peqT_nil Tryz.underlying53 rfl rfl) ?_
      refine sr_go 1 rfl <| sr_fin [2, 7, 9, 51] rfl ?_
      refine ke_cond rfl (fun _ => ?_) (fun h => by cases h)
      refine ke_seq <| ke_region ?_
      obtain ⟨y789, hy790, hS⟩ := bS hS
      refine sr_cb Tryz.call10 (law39_alive_ok _ (hg.fr hz hb) hb.bd (hz.fr hg hb) hy790) hb.bd ?_
      intro w791 t793
      replace hb := hb.trans t793
      refine sr_go 1 rfl <| sr_fin [6] rfl ?_
      cases hS
      exact ke_ret1 Tryz.func6 rfl rfl ⟨_, rfl, rfl, (hb.below (flat1_le _))⟩
    ·intro K781
     rcases Bool.eq_false_or_eq_true (y14.2 != y34.2) with hg780 | hg780
     all_goals try have hj783 : Tr ρ41 w36 (fun _ => false) ρ41 w36 := Tr.refl hb.bd
     ·refine sr_setb 39 rfl hg780 <| sr_go 6 rfl ?_
      exact sr_wk (K781 true _ ⟨by first | (rw [hg780]; rfl) | rfl, rfl⟩)
     ·refine sr_setb 39 rfl hg780 <| sr_go 1 rfl ?_
      refine sr_eg rfl (ev_peqT_some Tryz.underlying25 rfl rfl) ?_
      refine sr_go 1 rfl ?_
      refine sr_eg rfl (ev_peqT_nil Tryz.underlying53 rfl rfl) ?_
      refine sr_eg rfl (ev_bne Tryz.underlying4 rfl rfl) ?_
      refine sr_go 1 rfl ?_
      exact sr_wk (K781 (false != true) _ ⟨by first | (rw [hg780]; rfl) | rfl, rfl⟩)
   ·replace hS := optC_some hS ho43
    obtain ⟨g44, rfl, ⟨v45, v47, v49, M51, hB53, hP46, h48, h50, hN52⟩⟩ := hP40.some_ ho43
    refine sr_go 5 rfl <| sr_fin [2, 7, 8, 9, 10] rfl <| ke_seq <| ke_seq <| ke_region <| sr_go 4 rfl ?_
    refine sr_join (m := 6) (C := fun (x : Bool) w1 => x = ((y14.2 != y34.2) || (false != false)) ∧ w36 = w1) (l' := fun x => [(2, v1), (7, pT g24 0), (9, pT g44 0), (45, .bool x)]) ?_ ?_
    ·rintro _ _ ⟨rfl, rfl⟩
     refine sr_fin [2, 7, 9, 45] rfl ?_
     refine ke_cond rfl (fun hc62 => ?_) (fun hc62 => ?_)
     ·replace hS := iT hS hc62
      refine ke_seq <| ke_region <| sr_go 1 rfl <| sr_fin [6] rfl ?_
      cases hS
      exact ke_ret1 Tryz.func6 rfl rfl ⟨_, rfl, rfl, (hb.below (flat1_le _))⟩
     ·replace hS := iF hS hc62
      refine ke_skip <| ke_seq <| ke_seq <| ke_region <| sr_go 1 rfl ?_
      refine sr_e (ev_peqT_some Tryz.underlying25 rfl rfl) ?_
      refine sr_go 2 rfl ?_
      refine sr_eg rfl (ev_peqT_some Tryz.underlying53 rfl rfl) ?_
      refine sr_go 1 rfl <| sr_fin [2, 7, 9, 51] rfl ?_
      refine ke_cond rfl (fun h => by cases h) (fun _ => ?_)
      refine ke_skip <| ke_seq <| ke_seq <| ke_region <| sr_go 1 rfl <| sr_fin [2, 7, 9, 11] rfl ?_
      refine ke_block ?_
      have hK := law39_LoginPlays_L1_ok hg hbd hz _ hS hb h2 ⟨_, _, _, _, hB33, hP26, h28, h30, h32⟩ ⟨_, _, _, _, hB53, hP46, h48, h50, hN52⟩
      exact ke_wk (ke_loop hK)
    ·intro K55
     rcases Bool.eq_false_or_eq_true (y14.2 != y34.2) with hg54 | hg54
     all_goals try have hj57 : Tr ρ41 w36 (fun _ => false) ρ41 w36 := Tr.refl hb.bd
     ·refine sr_setb 39 rfl hg54 <| sr_go 6 rfl ?_
      exact sr_wk (K55 true _ ⟨by first | (rw [hg54]; rfl) | rfl, rfl⟩)
     ·refine sr_setb 39 rfl hg54 <| sr_go 1 rfl ?_
      refine sr_eg rfl (ev_peqT_some Tryz.underlying25 rfl rfl) ?_
      refine sr_go 1 rfl ?_
      refine sr_eg rfl (ev_peqT_some Tryz.underlying53 rfl rfl) ?_
      refine sr_eg rfl (ev_bne Tryz.underlying4 rfl rfl) ?_
      refine sr_go 1 rfl ?_
      exact sr_wk (K55 (false != false) _ ⟨by first | (rw [hg54]; rfl) | rfl, rfl⟩)
end YtkhodjenbganfaaGreatDoor
end Go.Proofs
