/- Own work: a part of the proofs of this seat. -/
import Derived.Test.YtmdbnoopcdpomaaGreatDoorProg
import Derived.Test.YtmdbnoopcdpomaaGreatDoorShelf
import Derived.Test.YtmdbnoopcdpomaaGreatDoorIter
import Derived.Test.YtmdbnoopcdpomaaGreatDoorKwFS
import Derived.KernelRfl
import Derived.Test.YtmdbnoopcdpomaaGreatDoorKwFClientApartW2
set_option linter.unusedVariables false
set_option linter.unusedSimpArgs false
set_option linter.unusedSectionVars false
set_option maxHeartbeats 8000000
set_option maxRecDepth 8000
namespace Go.Proofs
namespace YtmdbnoopcdpomaaGreatDoor
open Go Go.KW Go.KW.S Go.RowKit
theorem law36_ClientApart_L1_ok {w0 : World} (hg : Gs w0) {ρA : Tags} (hbd : ∀ b, ρA b ≠ 0 → b < w0.heap.size) (hz : Gz (flat1 ρA)) : ∀ (n : Nat), ∀ {r : Bool} {l_0 : List law36_Op} {x_3_0 : Int} {x_3_1 : Str} {x_3_2 : Int} {x_3_3 : Str} {x_3_4 : Str} {x_3_5 : Int} {x_3_6 : Str} {x_3_7 : List Str} {x_3_8 : List Str} {x_3_9 : Str} {x_3_10 : Str} {x_3_11 : Str} {x_3_12 : List Str} {or_5 : client_Clients} {os_6 : client_Clients} {i_7 : Int} {vl_0 : Value} {gx_3 : Nat} {vx_3_7 : Value} {vx_3_8 : Value} {vx_3_12 : Value} {gr_5 : Nat} {gs_6 : Nat}, law36_ClientApart_L1 n l_0 x_3_0 x_3_1 x_3_2 x_3_3 x_3_4 x_3_5 x_3_6 x_3_7 x_3_8 x_3_9 x_3_10 x_3_11 x_3_12 or_5 os_6 i_7 = some r → ∀ {ρ : Tags} {w : World}, (Fr (flat1 ρA) w0 ρ w) → (SlR law36_Op.c (Wb ρ) w vl_0 l_0) → (SlR strC (Wb ρ) w vx_3_7 x_3_7) → (SlR strC (Wb ρ) w vx_3_8 x_3_8) → (SlR strC (Wb ρ) w vx_3_12 x_3_12) → (Blk ρ 5 w gx_3 (.cells #[.int .i64 x_3_0, str x_3_1, .int .i64 x_3_2, str x_3_3, str x_3_4, .int .i64 x_3_5, str x_3_6, vx_3_7, vx_3_8, str x_3_9, str x_3_10, str x_3_11, vx_3_12] 44 (0, 0))) → (client_Clients.O (fun p => 100 + p) ρ w gr_5 or_5) → (client_Clients.O (fun p => 200 + p) ρ w gs_6 os_6) → KE Tryz.prog 7 (Ret (fun v w' => v = .bool r ∧ Below w0.heap.size w0 w')) 217 [.code (sub (bodyOf Tryz.f7) [2, 2, 2, 2, 1, 2, 2, 1]), .inLoop (sub (bodyOf Tryz.f7) [2, 2, 2, 2, 1, 2, 2, 1]), .inBlock 0, .code (sub (bodyOf Tryz.f7) [2, 2, 2, 2, 2])] [(0, vl_0), (3, .pointer (some ⟨gx_3, 0, none⟩)), (5, .pointer (some ⟨gr_5, 0, none⟩)), (6, .pointer (some ⟨gs_6, 0, none⟩)), (7, .int .i64 i_7)] w := by
 intro n
 induction n with
 | zero => intro r l_0 x_3_0 x_3_1 x_3_2 x_3_3 x_3_4 x_3_5 x_3_6 x_3_7 x_3_8 x_3_9 x_3_10 x_3_11 x_3_12 or_5 os_6 i_7 vl_0 gx_3 vx_3_7 vx_3_8 vx_3_12 gr_5 gs_6 hS; cases hS
 | succ n ih =>
  have hr0 : ∀ {r : Bool} {l_0 : List law36_Op} {x_3_0 : Int} {x_3_1 : Str} {x_3_2 : Int} {x_3_3 : Str} {x_3_4 : Str} {x_3_5 : Int} {x_3_6 : Str} {x_3_7 : List Str} {x_3_8 : List Str} {x_3_9 : Str} {x_3_10 : Str} {x_3_11 : Str} {x_3_12 : List Str} {or_5 : client_Clients} {os_6 : client_Clients} {i_7 : Int} {vl_0 : Value} {gx_3 : Nat} {vx_3_7 : Value} {vx_3_8 : Value} {vx_3_12 : Value} {gr_5 : Nat} {gs_6 : Nat}, law36_ClientApart_L1 n l_0 x_3_0 x_3_1 x_3_2 x_3_3 x_3_4 x_3_5 x_3_6 x_3_7 x_3_8 x_3_9 x_3_10 x_3_11 x_3_12 or_5 os_6 i_7 = some r → ∀ {ρ : Tags} {w : World}, (Fr (flat1 ρA) w0 ρ w) → (SlR law36_Op.c (Wb ρ) w vl_0 l_0) → (SlR strC (Wb ρ) w vx_3_7 x_3_7) → (SlR strC (Wb ρ) w vx_3_8 x_3_8) → (SlR strC (Wb ρ) w vx_3_12 x_3_12) → (Blk ρ 5 w gx_3 (.cells #[.int .i64 x_3_0, str x_3_1, .int .i64 x_3_2, str x_3_3, str x_3_4, .int .i64 x_3_5, str x_3_6, vx_3_7, vx_3_8, str x_3_9, str x_3_10, str x_3_11, vx_3_12] 44 (0, 0))) → (client_Clients.O (fun p => 100 + p) ρ w gr_5 or_5) → (client_Clients.O (fun p => 200 + p) ρ w gs_6 os_6) → KE Tryz.prog 7 (Ret (fun v w' => v = .bool r ∧ Below w0.heap.size w0 w')) 217 [.inLoop (sub (bodyOf Tryz.f7) [2, 2, 2, 2, 1, 2, 2, 1]), .inBlock 0, .code (sub (bodyOf Tryz.f7) [2, 2, 2, 2, 2])] [(0, vl_0), (3, .pointer (some ⟨gx_3, 0, none⟩)), (5, .pointer (some ⟨gr_5, 0, none⟩)), (6, .pointer (some ⟨gs_6, 0, none⟩)), (7, .int .i64 i_7)] w := fun {r} {l_0} {x_3_0} {x_3_1} {x_3_2} {x_3_3} {x_3_4} {x_3_5} {x_3_6} {x_3_7} {x_3_8} {x_3_9} {x_3_10} {x_3_11} {x_3_12} {or_5} {os_6} {i_7} {vl_0} {gx_3} {vx_3_7} {vx_3_8} {vx_3_12} {gr_5} {gs_6} hS {ρ} {w} hb hl_0 hx_3_7 hx_3_8 hx_3_12 hBx_3 hor_5 hos_6 => ke_inLoop (ih hS hb hl_0 hx_3_7 hx_3_8 hx_3_12 hBx_3 hor_5 hos_6)
  clear ih
  intro r l_0 x_3_0 x_3_1 x_3_2 x_3_3 x_3_4 x_3_5 x_3_6 x_3_7 x_3_8 x_3_9 x_3_10 x_3_11 x_3_12 or_5 os_6 i_7 vl_0 gx_3 vx_3_7 vx_3_8 vx_3_12 gr_5 gs_6 hS ρ w hb hl_0 hx_3_7 hx_3_8 hx_3_12 hBx_3 hor_5 hos_6
  unfold law36_ClientApart_L1 at hS
  obtain ⟨v63, hB65, h64⟩ := hor_5
  replace hB65 : Blk ρ 100 w gr_5 (.cells #[v63] 57 (0, 0)) := hB65
  replace h64 : MapT str api_Client.c true ρ 101 w v63 or_5.of_ := h64
  obtain ⟨v66, hB68, h67⟩ := hos_6
  replace hB68 : Blk ρ 200 w gs_6 (.cells #[v66] 57 (0, 0)) := hB68
  replace h67 : MapT str api_Client.c true ρ 201 w v66 os_6.of_ := h67
  refine ke_seq ?_
  refine ke_seq ?_
  refine ke_region ?_
  refine sr_ev (v := .int .i64 i_7) (ev_move rfl) (by decide) ?_
  refine sr_ev (v := vl_0) (ev_move rfl) (by decide) ?_
  refine sr_ev (v := .int .i64 (l_0.length : Int)) (ev_sllen Tryz.underlying39 rfl hl_0.asSl) (by decide) ?_
  refine sr_ev (v := .bool (decide (i_7 < (l_0.length : Int)))) (ev_lt rfl rfl) (by decide) ?_
  refine sr_end (l' := [(0, vl_0), (3, .pointer (some ⟨gx_3, 0, none⟩)), (5, .pointer (some ⟨gr_5, 0, none⟩)), (6, .pointer (some ⟨gs_6, 0, none⟩)), (7, .int .i64 i_7), (35, .bool (decide (i_7 < (l_0.length : Int))))]) (.cons rfl (.cons rfl (.cons rfl (.cons rfl (.cons rfl (.cons rfl (.nil _))))))) ?_
  refine ke_cond (t := decide (i_7 < (l_0.length : Int))) rfl (fun hc69 => ?_) (fun hc69 => ?_)
  ·replace hS := ite_true' hS hc69
   refine ke_skip ?_
   refine ke_seq ?_
   refine ke_block ?_
   refine ke_seq ?_
   refine ke_region ?_
   refine sr_ev (v := .pointer (some ⟨gr_5, 0, none⟩)) (ev_move rfl) (by decide) ?_
   refine sr_ev (v := vl_0) (ev_move rfl) (by decide) ?_
   refine sr_ev (v := .int .i64 i_7) (ev_move rfl) (by decide) ?_
   refine sr_ev (v := .int .i64 i_7) (ev_move rfl) (by decide) ?_
   refine sr_ev (v := .int .i64 (IntKind.i64.wrap (i_7 + 1))) (ev_add rfl rfl) (by decide) ?_
   obtain ⟨hk70, hS⟩ := chk_some hS
   obtain ⟨v71, h72, hq73⟩ := ((SlT.of_sl (i := 0) hl_0)).cutT_lh (P := Tryz.prog) Tryz.underlying39 Tryz.info44 rfl hk70
   replace h72 := h72.sl
   refine sr_ev (v := v71) (hq73 w rfl rfl rfl) (by decide) ?_
   obtain ⟨y74, hy75, hS⟩ := bind_some' hS
   refine sr_call (vs := [.pointer (some ⟨gr_5, 0, none⟩), v71]) rfl Tryz.call37 rfl (law36_play_ok _ (hg.fr hz hb) (ρA := ρ) hb.bd (hz.fr hg hb) (o := 100) (by decide) h72 (⟨_, hB65, h64⟩ : client_Clients.O (fun p => 100 + p) ρ w gr_5 or_5) hy75) (by decide) ?_
   rintro _ w76 ⟨ρ82, rfl, ⟨v79, hB81, h80⟩, htr78⟩
   replace hl_0 := hl_0.mv htr78.rd
   replace hBx_3 := hBx_3.mv (htr78.mv (i := 5) rfl)
   replace hx_3_7 := hx_3_7.mv htr78.rd
   replace hx_3_8 := hx_3_8.mv htr78.rd
   replace hx_3_12 := hx_3_12.mv htr78.rd
   replace hB68 := hB68.mv (htr78.mv (i := 200) rfl)
   replace h67 := h67.mv (htr78.mv (i := 201) rfl)
   replace hb := hb.trans htr78
   replace hB81 : Blk ρ82 100 w76 gr_5 (.cells #[v79] 57 (0, 0)) := hB81
   replace h80 : MapT str api_Client.c true ρ82 101 w76 v79 y74.of_ := h80
   refine sr_end (l' := [(0, vl_0), (3, .pointer (some ⟨gx_3, 0, none⟩)), (5, .pointer (some ⟨gr_5, 0, none⟩)), (6, .pointer (some ⟨gs_6, 0, none⟩)), (7, .int .i64 i_7)]) (.cons rfl (.cons rfl (.cons rfl (.cons rfl (.cons rfl (.nil _)))))) ?_
   refine ke_seq ?_
   refine ke_region_q Tryz.mixed (by kernel_rfl) ?_
   refine sq_ev (v := vl_0) (fun w1 hw1 => ev_move rfl) (by decide) ?_
   refine sq_ev (v := .int .i64 i_7) (fun w1 hw1 => ev_move rfl) (by decide) ?_
   obtain ⟨y85, hy86, hS⟩ := bind_some' hS
   obtain ⟨b87, o88, cs90, hq91, he89⟩ := ((SlT.of_sl (i := 0) hl_0)).elem (P := Tryz.prog) Tryz.underlying39 Tryz.info44 rfl hy86
   obtain ⟨v92, v94, v96, hcshe89, h93, h95, h97⟩ := he89.rd
   obtain rfl : cs90 = [.int .i64 y85.Kind, str y85.Client.ID, .int .i64 y85.Client.Kind, str y85.Client.Tenant, str y85.Client.Secret.Salt, .int .i64 y85.Client.Secret.Rounds, str y85.Client.Secret.Hash, v92, v94, str y85.Client.Logout, str y85.ID, str y85.S, v96] := hcshe89
   refine sq_ev (v := .pointer (some ⟨b87, o88, none⟩)) (fun w1 hw1 => hq91 w1 rfl rfl) (by decide) ?_
   refine sq_ev (v := .pointer (some ⟨b87, o88 + 0, none⟩)) (fun w1 hw1 => ev_fieldAddr (i := 0) Tryz.underlying44 rfl Tryz.info3 rfl rfl) (by decide) ?_
   refine sq_ev (v := .int .i64 y85.Kind) (fun w1 hw1 => ev_load Tryz.isAgg3 rfl ((he89.mv (Mv.of_below (i := 0) (ρ := ρ82) hw1) (Nat.succ_pos _)).cell 0 _ rfl)) (by decide) ?_
   refine sq_ev (v := .bool (y85.Kind == 5)) (fun w1 hw1 => ev_eq rfl rfl) (by decide) ?_
   refine sq_ev (v := .bool (y85.Kind == 5)) (fun w1 hw1 => ev_move rfl) (by decide) ?_
   obtain ⟨z100, hz102, hS⟩ := bind_some' hS
   refine sq_join (m := 9) (C := fun (x : Bool) => z100 = x) (l' := fun x => [(0, vl_0), (3, .pointer (some ⟨gx_3, 0, none⟩)), (5, .pointer (some ⟨gr_5, 0, none⟩)), (6, .pointer (some ⟨gs_6, 0, none⟩)), (7, .int .i64 i_7), (60, .bool x)]) ?_ ?_
   ·rintro _ rfl
    refine sq_ev (v := .bool z100) (fun w1 hw1 => ev_move rfl) (by decide) ?_
    obtain ⟨z120, hz122, hS⟩ := bind_some' hS
    refine sq_join (m := 18) (C := fun (x : Bool) => z120 = x) (l' := fun x => [(0, vl_0), (3, .pointer (some ⟨gx_3, 0, none⟩)), (5, .pointer (some ⟨gr_5, 0, none⟩)), (6, .pointer (some ⟨gs_6, 0, none⟩)), (7, .int .i64 i_7), (79, .bool x)]) ?_ ?_
    ·rintro _ rfl
     refine sq_end (l' := [(0, vl_0), (3, .pointer (some ⟨gx_3, 0, none⟩)), (5, .pointer (some ⟨gr_5, 0, none⟩)), (6, .pointer (some ⟨gs_6, 0, none⟩)), (7, .int .i64 i_7), (79, .bool z120)]) (.cons rfl (.cons rfl (.cons rfl (.cons rfl (.cons rfl (.cons rfl (.nil _))))))) (fun w84 hw83 => ?_)
     have htr158 := Tr.of_below hw83 hb.bd
     replace hl_0 := hl_0.mv htr158.rd
     replace hBx_3 := hBx_3.mv (htr158.mv (i := 5) rfl)
     replace hx_3_7 := hx_3_7.mv htr158.rd
     replace hx_3_8 := hx_3_8.mv htr158.rd
     replace hx_3_12 := hx_3_12.mv htr158.rd
     replace hB81 := hB81.mv (htr158.mv (i := 100) rfl)
     replace h80 := h80.mv (htr158.mv (i := 101) rfl)
     replace hB68 := hB68.mv (htr158.mv (i := 200) rfl)
     replace h67 := h67.mv (htr158.mv (i := 201) rfl)
     replace hb := hb.trans htr158
     refine ke_cond (t := z120) rfl (fun hc159 => ?_) (fun hc159 => ?_)
     ·replace hS := ite_true' hS hc159
      refine ke_region ?_
      refine sr_ev (v := .pointer (some ⟨gs_6, 0, none⟩)) (ev_move rfl) (by decide) ?_
      refine sr_ev (v := vl_0) (ev_move rfl) (by decide) ?_
      refine sr_ev (v := .int .i64 i_7) (ev_move rfl) (by decide) ?_
      refine sr_ev (v := .int .i64 i_7) (ev_move rfl) (by decide) ?_
      refine sr_ev (v := .int .i64 (IntKind.i64.wrap (i_7 + 1))) (ev_add rfl rfl) (by decide) ?_
      obtain ⟨hk160, hS⟩ := chk_some hS
      obtain ⟨v161, h162, hq163⟩ := ((SlT.of_sl (i := 0) hl_0)).cutT_lh (P := Tryz.prog) Tryz.underlying39 Tryz.info44 rfl hk160
      replace h162 := h162.sl
      refine sr_ev (v := v161) (hq163 w84 rfl rfl rfl) (by decide) ?_
      obtain ⟨y164, hy165, hS⟩ := bind_some' hS
      refine sr_call (vs := [.pointer (some ⟨gs_6, 0, none⟩), v161]) rfl Tryz.call37 rfl (law36_play_ok _ (hg.fr hz hb) (ρA := ρ82) hb.bd (hz.fr hg hb) (o := 200) (by decide) h162 (⟨_, hB68, h67⟩ : client_Clients.O (fun p => 200 + p) ρ82 w84 gs_6 os_6) hy165) (by decide) ?_
      rintro _ w166 ⟨ρ172, rfl, ⟨v169, hB171, h170⟩, htr168⟩
      replace hl_0 := hl_0.mv htr168.rd
      replace hBx_3 := hBx_3.mv (htr168.mv (i := 5) rfl)
      replace hx_3_7 := hx_3_7.mv htr168.rd
      replace hx_3_8 := hx_3_8.mv htr168.rd
      replace hx_3_12 := hx_3_12.mv htr168.rd
      replace hB81 := hB81.mv (htr168.mv (i := 100) rfl)
      replace h80 := h80.mv (htr168.mv (i := 101) rfl)
      replace hb := hb.trans htr168
      replace hB171 : Blk ρ172 200 w166 gs_6 (.cells #[v169] 57 (0, 0)) := hB171
      replace h170 : MapT str api_Client.c true ρ172 201 w166 v169 y164.of_ := h170
      refine sr_end (l' := [(0, vl_0), (3, .pointer (some ⟨gx_3, 0, none⟩)), (5, .pointer (some ⟨gr_5, 0, none⟩)), (6, .pointer (some ⟨gs_6, 0, none⟩)), (7, .int .i64 i_7)]) (.cons rfl (.cons rfl (.cons rfl (.cons rfl (.cons rfl (.nil _)))))) ?_
      have hK := law36_ClientApart_B2_ok hg hbd hz _ hr0 hS hb hl_0 hx_3_7 hx_3_8 hx_3_12 hBx_3 ⟨_, hB81, h80⟩ ⟨_, hB171, h170⟩
      exact ke_weaken (l' := [(0, vl_0), (3, .pointer (some ⟨gx_3, 0, none⟩)), (5, .pointer (some ⟨gr_5, 0, none⟩)), (6, .pointer (some ⟨gs_6, 0, none⟩)), (7, .int .i64 i_7)]) (.cons rfl (.cons rfl (.cons rfl (.cons rfl (.cons rfl (.nil _)))))) hK
     ·replace hS := ite_false' hS hc159
      refine ke_skip ?_
      have hK := law36_ClientApart_B2_ok hg hbd hz _ hr0 hS hb hl_0 hx_3_7 hx_3_8 hx_3_12 hBx_3 ⟨_, hB81, h80⟩ ⟨_, hB68, h67⟩
      exact ke_weaken (l' := [(0, vl_0), (3, .pointer (some ⟨gx_3, 0, none⟩)), (5, .pointer (some ⟨gr_5, 0, none⟩)), (6, .pointer (some ⟨gs_6, 0, none⟩)), (7, .int .i64 i_7)]) (.cons rfl (.cons rfl (.cons rfl (.cons rfl (.cons rfl (.nil _)))))) hK
    ·intro K119
     clear hS
     rcases Bool.eq_false_or_eq_true z100 with hg118 | hg118
     ·have hS := ite_true' hz122 hg118
      refine sq_pass (e := 61) rfl rfl (by rw [hg118]; rfl) (by decide) ?_
      refine sq_pass (e := 61) rfl rfl (by rw [hg118]; rfl) (by decide) ?_
      refine sq_pass (e := 61) rfl rfl (by rw [hg118]; rfl) (by decide) ?_
      refine sq_pass (e := 61) rfl rfl (by rw [hg118]; rfl) (by decide) ?_
      refine sq_pass (e := 61) rfl rfl (by rw [hg118]; rfl) (by decide) ?_
      refine sq_pass (e := 61) rfl rfl (by rw [hg118]; rfl) (by decide) ?_
      refine sq_pass (e := 61) rfl rfl (by rw [hg118]; rfl) (by decide) ?_
      refine sq_pass_undef (e := 68) rfl rfl (by decide) ?_
      refine sq_pass_undef (e := 68) rfl rfl (by decide) ?_
      refine sq_pass_undef (e := 68) rfl rfl (by decide) ?_
      refine sq_pass_undef (e := 68) rfl rfl (by decide) ?_
      refine sq_pass_undef (e := 68) rfl rfl (by decide) ?_
      refine sq_pass_undef (e := 68) rfl rfl (by decide) ?_
      refine sq_pass_undef (e := 68) rfl rfl (by decide) ?_
      refine sq_pass_undef (e := 68) rfl rfl (by decide) ?_
      refine sq_pass_undef (e := 68) rfl rfl (by decide) ?_
      refine sq_pass (e := 61) rfl rfl (by rw [hg118]; rfl) (by decide) ?_
      refine sq_ev (v := .bool true) (fun w1 hw1 => ev_pick_t rfl hg118 rfl) (by decide) ?_
      exact sq_weaken (l' := [(0, vl_0), (3, .pointer (some ⟨gx_3, 0, none⟩)), (5, .pointer (some ⟨gr_5, 0, none⟩)), (6, .pointer (some ⟨gs_6, 0, none⟩)), (7, .int .i64 i_7), (79, .bool true)]) (.cons rfl (.cons rfl (.cons rfl (.cons rfl (.cons rfl (.cons rfl (.nil _))))))) (K119 true (Option.some.inj hS).symm)
     ·have hS := ite_false' hz122 hg118
      refine sq_evg (b := false) (e := 61) rfl rfl hg118 (v := vl_0) (fun w1 hw1 => ev_move rfl) (by decide) ?_
      refine sq_evg (b := false) (e := 61) rfl rfl hg118 (v := .int .i64 i_7) (fun w1 hw1 => ev_move rfl) (by decide) ?_
      obtain ⟨y125, hy126, hS⟩ := bind_some' hS
      obtain ⟨b127, o128, cs130, hq131, he129⟩ := ((SlT.of_sl (i := 0) hl_0)).elem (P := Tryz.prog) Tryz.underlying39 Tryz.info44 rfl hy126
      obtain ⟨v132, v134, v136, hcshe129, h133, h135, h137⟩ := he129.rd
      obtain rfl : cs130 = [.int .i64 y125.Kind, str y125.Client.ID, .int .i64 y125.Client.Kind, str y125.Client.Tenant, str y125.Client.Secret.Salt, .int .i64 y125.Client.Secret.Rounds, str y125.Client.Secret.Hash, v132, v134, str y125.Client.Logout, str y125.ID, str y125.S, v136] := hcshe129
      refine sq_evg (b := false) (e := 61) rfl rfl hg118 (v := .pointer (some ⟨b127, o128, none⟩)) (fun w1 hw1 => hq131 w1 rfl rfl) (by decide) ?_
      refine sq_evg (b := false) (e := 61) rfl rfl hg118 (v := .pointer (some ⟨b127, o128 + 0, none⟩)) (fun w1 hw1 => ev_fieldAddr (i := 0) Tryz.underlying44 rfl Tryz.info3 rfl rfl) (by decide) ?_
      refine sq_evg (b := false) (e := 61) rfl rfl hg118 (v := .int .i64 y125.Kind) (fun w1 hw1 => ev_load Tryz.isAgg3 rfl ((he129.mv (Mv.of_below (i := 0) (ρ := ρ82) hw1) (Nat.succ_pos _)).cell 0 _ rfl)) (by decide) ?_
      refine sq_evg (b := false) (e := 61) rfl rfl hg118 (v := .bool (y125.Kind != 5)) (fun w1 hw1 => ev_ne rfl rfl) (by decide) ?_
      refine sq_evg (b := false) (e := 61) rfl rfl hg118 (v := .bool (y125.Kind != 5)) (fun w1 hw1 => ev_move rfl) (by decide) ?_
      obtain ⟨z140, hz142, hS⟩ := bind_some' hS
      refine sq_join (m := 10) (C := fun (x : Bool) => z140 = x) (l' := fun x => [(0, vl_0), (3, .pointer (some ⟨gx_3, 0, none⟩)), (5, .pointer (some ⟨gr_5, 0, none⟩)), (6, .pointer (some ⟨gs_6, 0, none⟩)), (7, .int .i64 i_7), (61, .bool z100), (78, .bool x)]) ?_ ?_
      ·rintro _ rfl
       refine sq_ev (v := .bool z140) (fun w1 hw1 => ev_pick_f rfl hg118 rfl) (by decide) ?_
       exact sq_weaken (l' := [(0, vl_0), (3, .pointer (some ⟨gx_3, 0, none⟩)), (5, .pointer (some ⟨gr_5, 0, none⟩)), (6, .pointer (some ⟨gs_6, 0, none⟩)), (7, .int .i64 i_7), (79, .bool z140)]) (.cons rfl (.cons rfl (.cons rfl (.cons rfl (.cons rfl (.cons rfl (.nil _))))))) (K119 z140 (Option.some.inj hS).symm)
      ·intro K139
       clear hS
       rcases Bool.eq_false_or_eq_true (y125.Kind != 5) with hg138 | hg138
       ·have hS := ite_true' hz142 hg138
        refine sq_evg (b := true) (e := 68) rfl rfl hg138 (v := vl_0) (fun w1 hw1 => ev_move rfl) (by decide) ?_
        refine sq_evg (b := true) (e := 68) rfl rfl hg138 (v := .int .i64 i_7) (fun w1 hw1 => ev_move rfl) (by decide) ?_
        obtain ⟨y145, hy146, hS⟩ := bind_some' hS
        obtain ⟨b147, o148, cs150, hq151, he149⟩ := ((SlT.of_sl (i := 0) hl_0)).elem (P := Tryz.prog) Tryz.underlying39 Tryz.info44 rfl hy146
        obtain ⟨v152, v154, v156, hcshe149, h153, h155, h157⟩ := he149.rd
        obtain rfl : cs150 = [.int .i64 y145.Kind, str y145.Client.ID, .int .i64 y145.Client.Kind, str y145.Client.Tenant, str y145.Client.Secret.Salt, .int .i64 y145.Client.Secret.Rounds, str y145.Client.Secret.Hash, v152, v154, str y145.Client.Logout, str y145.ID, str y145.S, v156] := hcshe149
        refine sq_evg (b := true) (e := 68) rfl rfl hg138 (v := .pointer (some ⟨b147, o148, none⟩)) (fun w1 hw1 => hq151 w1 rfl rfl) (by decide) ?_
        refine sq_evg (b := true) (e := 68) rfl rfl hg138 (v := .pointer (some ⟨b147, o148 + 1, none⟩)) (fun w1 hw1 => ev_fieldAddr (i := 1) Tryz.underlying44 rfl Tryz.info27 rfl rfl) (by decide) ?_
        refine sq_evg (b := true) (e := 68) rfl rfl hg138 (v := .pointer (some ⟨b147, o148 + 1, none⟩)) (fun w1 hw1 => ev_fieldAddr (i := 0) Tryz.underlying27 rfl Tryz.info9 rfl rfl) (by decide) ?_
        refine sq_evg (b := true) (e := 68) rfl rfl hg138 (v := str y145.Client.ID) (fun w1 hw1 => ev_load Tryz.isAgg9 rfl ((he149.mv (Mv.of_below (i := 0) (ρ := ρ82) hw1) (Nat.succ_pos _)).cell 1 _ rfl)) (by decide) ?_
        refine sq_evg (b := true) (e := 68) rfl rfl hg138 (v := .pointer (some ⟨gx_3, 10, none⟩)) (fun w1 hw1 => ev_fieldAddr (i := 2) Tryz.underlying44 rfl Tryz.info9 rfl rfl) (by decide) ?_
        refine sq_evg (b := true) (e := 68) rfl rfl hg138 (v := str x_3_10) (fun w1 hw1 => ev_load Tryz.isAgg9 rfl ((hBx_3.mv (Mv.of_below (i := 5) (ρ := ρ82) hw1)).cell rfl)) (by decide) ?_
        refine sq_evg (b := true) (e := 68) rfl rfl hg138 (v := .bool (y145.Client.ID == x_3_10)) (fun w1 hw1 => ev_seq rfl rfl) (by decide) ?_
        refine sq_evg (b := false) (e := 61) rfl rfl hg118 (v := .bool (y145.Client.ID == x_3_10)) (fun w1 hw1 => ev_pick_t rfl hg138 rfl) (by decide) ?_
        exact sq_weaken (l' := [(0, vl_0), (3, .pointer (some ⟨gx_3, 0, none⟩)), (5, .pointer (some ⟨gr_5, 0, none⟩)), (6, .pointer (some ⟨gs_6, 0, none⟩)), (7, .int .i64 i_7), (61, .bool z100), (78, .bool (y145.Client.ID == x_3_10))]) (.cons rfl (.cons rfl (.cons rfl (.cons rfl (.cons rfl (.cons rfl (.cons rfl (.nil _)))))))) (K139 (y145.Client.ID == x_3_10) (Option.some.inj hS).symm)
       ·have hS := ite_false' hz142 hg138
        refine sq_pass (e := 68) rfl rfl (by rw [hg138]; rfl) (by decide) ?_
        refine sq_pass (e := 68) rfl rfl (by rw [hg138]; rfl) (by decide) ?_
        refine sq_pass (e := 68) rfl rfl (by rw [hg138]; rfl) (by decide) ?_
        refine sq_pass (e := 68) rfl rfl (by rw [hg138]; rfl) (by decide) ?_
        refine sq_pass (e := 68) rfl rfl (by rw [hg138]; rfl) (by decide) ?_
        refine sq_pass (e := 68) rfl rfl (by rw [hg138]; rfl) (by decide) ?_
        refine sq_pass (e := 68) rfl rfl (by rw [hg138]; rfl) (by decide) ?_
        refine sq_pass (e := 68) rfl rfl (by rw [hg138]; rfl) (by decide) ?_
        refine sq_pass (e := 68) rfl rfl (by rw [hg138]; rfl) (by decide) ?_
        refine sq_evg (b := false) (e := 61) rfl rfl hg118 (v := .bool false) (fun w1 hw1 => ev_pick_f rfl hg138 rfl) (by decide) ?_
        exact sq_weaken (l' := [(0, vl_0), (3, .pointer (some ⟨gx_3, 0, none⟩)), (5, .pointer (some ⟨gr_5, 0, none⟩)), (6, .pointer (some ⟨gs_6, 0, none⟩)), (7, .int .i64 i_7), (61, .bool z100), (78, .bool false)]) (.cons rfl (.cons rfl (.cons rfl (.cons rfl (.cons rfl (.cons rfl (.cons rfl (.nil _)))))))) (K139 false (Option.some.inj hS).symm)
   ·intro K99
    clear hS
    rcases Bool.eq_false_or_eq_true (y85.Kind == 5) with hg98 | hg98
    ·have hS := ite_true' hz102 hg98
     refine sq_evg (b := true) (e := 51) rfl rfl hg98 (v := vl_0) (fun w1 hw1 => ev_move rfl) (by decide) ?_
     refine sq_evg (b := true) (e := 51) rfl rfl hg98 (v := .int .i64 i_7) (fun w1 hw1 => ev_move rfl) (by decide) ?_
     obtain ⟨y105, hy106, hS⟩ := bind_some' hS
     obtain ⟨b107, o108, cs110, hq111, he109⟩ := ((SlT.of_sl (i := 0) hl_0)).elem (P := Tryz.prog) Tryz.underlying39 Tryz.info44 rfl hy106
     obtain ⟨v112, v114, v116, hcshe109, h113, h115, h117⟩ := he109.rd
     obtain rfl : cs110 = [.int .i64 y105.Kind, str y105.Client.ID, .int .i64 y105.Client.Kind, str y105.Client.Tenant, str y105.Client.Secret.Salt, .int .i64 y105.Client.Secret.Rounds, str y105.Client.Secret.Hash, v112, v114, str y105.Client.Logout, str y105.ID, str y105.S, v116] := hcshe109
     refine sq_evg (b := true) (e := 51) rfl rfl hg98 (v := .pointer (some ⟨b107, o108, none⟩)) (fun w1 hw1 => hq111 w1 rfl rfl) (by decide) ?_
     refine sq_evg (b := true) (e := 51) rfl rfl hg98 (v := .pointer (some ⟨b107, o108 + 10, none⟩)) (fun w1 hw1 => ev_fieldAddr (i := 2) Tryz.underlying44 rfl Tryz.info9 rfl rfl) (by decide) ?_
     refine sq_evg (b := true) (e := 51) rfl rfl hg98 (v := str y105.ID) (fun w1 hw1 => ev_load Tryz.isAgg9 rfl ((he109.mv (Mv.of_below (i := 0) (ρ := ρ82) hw1) (Nat.succ_pos _)).cell 10 _ rfl)) (by decide) ?_
     refine sq_evg (b := true) (e := 51) rfl rfl hg98 (v := .pointer (some ⟨gx_3, 10, none⟩)) (fun w1 hw1 => ev_fieldAddr (i := 2) Tryz.underlying44 rfl Tryz.info9 rfl rfl) (by decide) ?_
     refine sq_evg (b := true) (e := 51) rfl rfl hg98 (v := str x_3_10) (fun w1 hw1 => ev_load Tryz.isAgg9 rfl ((hBx_3.mv (Mv.of_below (i := 5) (ρ := ρ82) hw1)).cell rfl)) (by decide) ?_
     refine sq_evg (b := true) (e := 51) rfl rfl hg98 (v := .bool (y105.ID == x_3_10)) (fun w1 hw1 => ev_seq rfl rfl) (by decide) ?_
     refine sq_ev (v := .bool (y105.ID == x_3_10)) (fun w1 hw1 => ev_pick_t rfl hg98 rfl) (by decide) ?_
     exact sq_weaken (l' := [(0, vl_0), (3, .pointer (some ⟨gx_3, 0, none⟩)), (5, .pointer (some ⟨gr_5, 0, none⟩)), (6, .pointer (some ⟨gs_6, 0, none⟩)), (7, .int .i64 i_7), (60, .bool (y105.ID == x_3_10))]) (.cons rfl (.cons rfl (.cons rfl (.cons rfl (.cons rfl (.cons rfl (.nil _))))))) (K99 (y105.ID == x_3_10) (Option.some.inj hS).symm)
    ·have hS := ite_false' hz102 hg98
     refine sq_pass (e := 51) rfl rfl (by rw [hg98]; rfl) (by decide) ?_
     refine sq_pass (e := 51) rfl rfl (by rw [hg98]; rfl) (by decide) ?_
     refine sq_pass (e := 51) rfl rfl (by rw [hg98]; rfl) (by decide) ?_
     refine sq_pass (e := 51) rfl rfl (by rw [hg98]; rfl) (by decide) ?_
     refine sq_pass (e := 51) rfl rfl (by rw [hg98]; rfl) (by decide) ?_
     refine sq_pass (e := 51) rfl rfl (by rw [hg98]; rfl) (by decide) ?_
     refine sq_pass (e := 51) rfl rfl (by rw [hg98]; rfl) (by decide) ?_
     refine sq_pass (e := 51) rfl rfl (by rw [hg98]; rfl) (by decide) ?_
     refine sq_ev (v := .bool false) (fun w1 hw1 => ev_pick_f rfl hg98 rfl) (by decide) ?_
     exact sq_weaken (l' := [(0, vl_0), (3, .pointer (some ⟨gx_3, 0, none⟩)), (5, .pointer (some ⟨gr_5, 0, none⟩)), (6, .pointer (some ⟨gs_6, 0, none⟩)), (7, .int .i64 i_7), (60, .bool false)]) (.cons rfl (.cons rfl (.cons rfl (.cons rfl (.cons rfl (.cons rfl (.nil _))))))) (K99 false (Option.some.inj hS).symm)
  ·replace hS := ite_false' hS hc69
   refine ke_exit (k' := _) rfl ?_
   refine ke_seq ?_
   refine ke_region ?_
   refine sr_ev (v := .pointer (some ⟨gr_5, 0, none⟩)) (ev_move rfl) (by decide) ?_
   refine sr_ev (v := .pointer (some ⟨gx_3, 10, none⟩)) (ev_fieldAddr (i := 2) Tryz.underlying44 rfl Tryz.info9 rfl rfl) (by decide) ?_
   refine sr_ev (v := str x_3_10) (ev_load Tryz.isAgg9 rfl (hBx_3.cell rfl)) (by decide) ?_
   obtain ⟨y179, hy180, hS⟩ := bind_some' hS
   refine sr_call (vs := [.pointer (some ⟨gr_5, 0, none⟩), str x_3_10]) rfl Tryz.call24 rfl (client_Clients_Get_ok _ (hg.fr hz hb) (ρA := ρ) hb.bd (hz.fr hg hb) (τ0 := (fun p => 100 + p)) (fun p => Nat.le_add_right_of_le (by decide)) (⟨_, hB65, h64⟩ : client_Clients.O (fun p => 100 + p) ρ w gr_5 or_5) hy180) (by decide) ?_
   rintro _ w181 ⟨v184, v186, rfl, h185, h187, hbw182⟩
   have htr183 := Tr.of_below hbw182 hb.bd
   replace hBx_3 := hBx_3.mv (htr183.mv (i := 5) rfl)
   replace hx_3_7 := hx_3_7.mv htr183.rd
   replace hx_3_8 := hx_3_8.mv htr183.rd
   replace hx_3_12 := hx_3_12.mv htr183.rd
   replace hB65 := hB65.mv (htr183.mv (i := 100) rfl)
   replace h64 := h64.mv (htr183.mv (i := 101) rfl)
   replace hB68 := hB68.mv (htr183.mv (i := 200) rfl)
   replace h67 := h67.mv (htr183.mv (i := 201) rfl)
   replace hb := hb.trans htr183
   refine sr_ev (v := .tuple #[.agg #[str y179.1.ID, .int .i64 y179.1.Kind, str y179.1.Tenant, str y179.1.Secret.Salt, .int .i64 y179.1.Secret.Rounds, str y179.1.Secret.Hash, v184, v186, str y179.1.Logout], .bool y179.2]) (ev_move rfl) (by decide) ?_
   refine sr_ev (v := .agg #[str y179.1.ID, .int .i64 y179.1.Kind, str y179.1.Tenant, str y179.1.Secret.Salt, .int .i64 y179.1.Secret.Rounds, str y179.1.Secret.Hash, v184, v186, str y179.1.Logout]) (ev_extract rfl rfl) (by decide) ?_
   refine sr_ev (v := .bool y179.2) (ev_extract rfl rfl) (by decide) ?_
   refine sr_allocT 10 (by decide) hb.bd Tryz.zeroValue27 (by decide) ?_
   intro g188 ρ189 w190 hB192 htr191
   replace h185 := h185.mv htr191.rd
   replace h187 := h187.mv htr191.rd
   replace hBx_3 := hBx_3.mv (htr191.mv (i := 5) rfl)
   replace hx_3_7 := hx_3_7.mv htr191.rd
   replace hx_3_8 := hx_3_8.mv htr191.rd
   replace hx_3_12 := hx_3_12.mv htr191.rd
   replace hB65 := hB65.mv (htr191.mv (i := 100) rfl)
   replace h64 := h64.mv (htr191.mv (i := 101) rfl)
   replace hB68 := hB68.mv (htr191.mv (i := 200) rfl)
   replace h67 := h67.mv (htr191.mv (i := 201) rfl)
   replace hb := hb.trans htr191
   replace hB192 : Blk ρ189 10 w190 g188 (.cells #[str ([]), .int .i64 0, str ([]), str ([]), .int .i64 0, str ([]), (.slice none 0 0), (.slice none 0 0), str ([])] 27 (0, 0)) := hB192
   refine sr_storeT (v := .agg #[str y179.1.ID, .int .i64 y179.1.Kind, str y179.1.Tenant, str y179.1.Secret.Salt, .int .i64 y179.1.Secret.Rounds, str y179.1.Secret.Hash, v184, v186, str y179.1.Logout]) (vs := [str y179.1.ID, .int .i64 y179.1.Kind, str y179.1.Tenant, str y179.1.Secret.Salt, .int .i64 y179.1.Secret.Rounds, str y179.1.Secret.Hash, v184, v186, str y179.1.Logout]) (cs' := #[str y179.1.ID, .int .i64 y179.1.Kind, str y179.1.Tenant, str y179.1.Secret.Salt, .int .i64 y179.1.Secret.Rounds, str y179.1.Secret.Hash, v184, v186, str y179.1.Logout]) hB192 (by decide) hb.bd rfl rfl rfl Tryz.sizeOf27 rfl (by first | rfl | (simp only [List.all_cons, List.all_nil, SlR.oneCell h185, SlR.oneCell h187]; done) | (simp only [List.all_cons, List.all_nil, SlR.oneCell h185, SlR.oneCell h187]; rfl)) rfl ?_
   intro w193 hB1921 htr194
   replace h185 := h185.mv htr194.rd
   replace h187 := h187.mv htr194.rd
   replace hBx_3 := hBx_3.mv (htr194.mv (i := 5) rfl)
   replace hx_3_7 := hx_3_7.mv htr194.rd
   replace hx_3_8 := hx_3_8.mv htr194.rd
   replace hx_3_12 := hx_3_12.mv htr194.rd
   replace hB65 := hB65.mv (htr194.mv (i := 100) rfl)
   replace h64 := h64.mv (htr194.mv (i := 101) rfl)
   replace hB68 := hB68.mv (htr194.mv (i := 200) rfl)
   replace h67 := h67.mv (htr194.mv (i := 201) rfl)
   replace hb := hb.trans htr194
   replace hB192 : Blk ρ189 10 w193 g188 (.cells #[str y179.1.ID, .int .i64 y179.1.Kind, str y179.1.Tenant, str y179.1.Secret.Salt, .int .i64 y179.1.Secret.Rounds, str y179.1.Secret.Hash, v184, v186, str y179.1.Logout] 27 (0, 0)) := hB1921
   clear hB1921
   refine sr_ev (v := .bool y179.2) (ev_assign rfl) (by decide) ?_
   refine sr_end (l' := [(3, .pointer (some ⟨gx_3, 0, none⟩)), (5, .pointer (some ⟨gr_5, 0, none⟩)), (6, .pointer (some ⟨gs_6, 0, none⟩)), (8, .pointer (some ⟨g188, 0, none⟩)), (9, .bool y179.2)]) (.cons rfl (.cons rfl (.cons rfl (.cons rfl (.cons rfl (.nil _)))))) ?_
   refine ke_seq ?_
   refine ke_region ?_
   refine sr_ev (v := .pointer (some ⟨gs_6, 0, none⟩)) (ev_move rfl) (by decide) ?_
   refine sr_ev (v := .pointer (some ⟨gx_3, 10, none⟩)) (ev_fieldAddr (i := 2) Tryz.underlying44 rfl Tryz.info9 rfl rfl) (by decide) ?_
   refine sr_ev (v := str x_3_10) (ev_load Tryz.isAgg9 rfl (hBx_3.cell rfl)) (by decide) ?_
   obtain ⟨y195, hy196, hS⟩ := bind_some' hS
   refine sr_call (vs := [.pointer (some ⟨gs_6, 0, none⟩), str x_3_10]) rfl Tryz.call24 rfl (client_Clients_Get_ok _ (hg.fr hz hb) (ρA := ρ189) hb.bd (hz.fr hg hb) (τ0 := (fun p => 200 + p)) (fun p => Nat.le_add_right_of_le (by decide)) (⟨_, hB68, h67⟩ : client_Clients.O (fun p => 200 + p) ρ189 w193 gs_6 os_6) hy196) (by decide) ?_
   rintro _ w197 ⟨v200, v202, rfl, h201, h203, hbw198⟩
   have htr199 := Tr.of_below hbw198 hb.bd
   replace hB192 := hB192.mv (htr199.mv (i := 10) rfl)
   replace h185 := h185.mv htr199.rd
   replace h187 := h187.mv htr199.rd
   replace hBx_3 := hBx_3.mv (htr199.mv (i := 5) rfl)
   replace hx_3_7 := hx_3_7.mv htr199.rd
   replace hx_3_8 := hx_3_8.mv htr199.rd
   replace hx_3_12 := hx_3_12.mv htr199.rd
   replace hB65 := hB65.mv (htr199.mv (i := 100) rfl)
   replace h64 := h64.mv (htr199.mv (i := 101) rfl)
   replace hB68 := hB68.mv (htr199.mv (i := 200) rfl)
   replace h67 := h67.mv (htr199.mv (i := 201) rfl)
   replace hb := hb.trans htr199
   refine sr_ev (v := .tuple #[.agg #[str y195.1.ID, .int .i64 y195.1.Kind, str y195.1.Tenant, str y195.1.Secret.Salt, .int .i64 y195.1.Secret.Rounds, str y195.1.Secret.Hash, v200, v202, str y195.1.Logout], .bool y195.2]) (ev_move rfl) (by decide) ?_
   refine sr_ev (v := .agg #[str y195.1.ID, .int .i64 y195.1.Kind, str y195.1.Tenant, str y195.1.Secret.Salt, .int .i64 y195.1.Secret.Rounds, str y195.1.Secret.Hash, v200, v202, str y195.1.Logout]) (ev_extract rfl rfl) (by decide) ?_
   refine sr_ev (v := .bool y195.2) (ev_extract rfl rfl) (by decide) ?_
   refine sr_allocT 12 (by decide) hb.bd Tryz.zeroValue27 (by decide) ?_
   intro g204 ρ205 w206 hB208 htr207
   replace h201 := h201.mv htr207.rd
   replace h203 := h203.mv htr207.rd
   replace hB192 := hB192.mv (htr207.mv (i := 10) rfl)
   replace h185 := h185.mv htr207.rd
   replace h187 := h187.mv htr207.rd
   replace hBx_3 := hBx_3.mv (htr207.mv (i := 5) rfl)
   replace hx_3_7 := hx_3_7.mv htr207.rd
   replace hx_3_8 := hx_3_8.mv htr207.rd
   replace hx_3_12 := hx_3_12.mv htr207.rd
   replace hB65 := hB65.mv (htr207.mv (i := 100) rfl)
   replace h64 := h64.mv (htr207.mv (i := 101) rfl)
   replace hB68 := hB68.mv (htr207.mv (i := 200) rfl)
   replace h67 := h67.mv (htr207.mv (i := 201) rfl)
   replace hb := hb.trans htr207
   replace hB208 : Blk ρ205 12 w206 g204 (.cells #[str ([]), .int .i64 0, str ([]), str ([]), .int .i64 0, str ([]), (.slice none 0 0), (.slice none 0 0), str ([])] 27 (0, 0)) := hB208
   refine sr_storeT (v := .agg #[str y195.1.ID, .int .i64 y195.1.Kind, str y195.1.Tenant, str y195.1.Secret.Salt, .int .i64 y195.1.Secret.Rounds, str y195.1.Secret.Hash, v200, v202, str y195.1.Logout]) (vs := [str y195.1.ID, .int .i64 y195.1.Kind, str y195.1.Tenant, str y195.1.Secret.Salt, .int .i64 y195.1.Secret.Rounds, str y195.1.Secret.Hash, v200, v202, str y195.1.Logout]) (cs' := #[str y195.1.ID, .int .i64 y195.1.Kind, str y195.1.Tenant, str y195.1.Secret.Salt, .int .i64 y195.1.Secret.Rounds, str y195.1.Secret.Hash, v200, v202, str y195.1.Logout]) hB208 (by decide) hb.bd rfl rfl rfl Tryz.sizeOf27 rfl (by first | rfl | (simp only [List.all_cons, List.all_nil, SlR.oneCell h201, SlR.oneCell h203]; done) | (simp only [List.all_cons, List.all_nil, SlR.oneCell h201, SlR.oneCell h203]; rfl)) rfl ?_
   intro w209 hB2081 htr210
   replace h201 := h201.mv htr210.rd
   replace h203 := h203.mv htr210.rd
   replace hB192 := hB192.mv (htr210.mv (i := 10) rfl)
   replace h185 := h185.mv htr210.rd
   replace h187 := h187.mv htr210.rd
   replace hBx_3 := hBx_3.mv (htr210.mv (i := 5) rfl)
   replace hx_3_7 := hx_3_7.mv htr210.rd
   replace hx_3_8 := hx_3_8.mv htr210.rd
   replace hx_3_12 := hx_3_12.mv htr210.rd
   replace hB65 := hB65.mv (htr210.mv (i := 100) rfl)
   replace h64 := h64.mv (htr210.mv (i := 101) rfl)
   replace hB68 := hB68.mv (htr210.mv (i := 200) rfl)
   replace h67 := h67.mv (htr210.mv (i := 201) rfl)
   replace hb := hb.trans htr210
   replace hB208 : Blk ρ205 12 w209 g204 (.cells #[str y195.1.ID, .int .i64 y195.1.Kind, str y195.1.Tenant, str y195.1.Secret.Salt, .int .i64 y195.1.Secret.Rounds, str y195.1.Secret.Hash, v200, v202, str y195.1.Logout] 27 (0, 0)) := hB2081
   clear hB2081
   refine sr_ev (v := .bool y195.2) (ev_assign rfl) (by decide) ?_
   refine sr_end (l' := [(3, .pointer (some ⟨gx_3, 0, none⟩)), (5, .pointer (some ⟨gr_5, 0, none⟩)), (6, .pointer (some ⟨gs_6, 0, none⟩)), (8, .pointer (some ⟨g188, 0, none⟩)), (9, .bool y179.2), (10, .pointer (some ⟨g204, 0, none⟩)), (11, .bool y195.2)]) (.cons rfl (.cons rfl (.cons rfl (.cons rfl (.cons rfl (.cons rfl (.cons rfl (.nil _)))))))) ?_
   refine ke_seq ?_
   refine ke_seq ?_
   refine ke_region_q Tryz.mixed (by kernel_rfl) ?_
   refine sq_ev (v := .bool y179.2) (fun w1 hw1 => ev_move rfl) (by decide) ?_
   refine sq_ev (v := .bool y195.2) (fun w1 hw1 => ev_move rfl) (by decide) ?_
   refine sq_ev (v := .bool (y179.2 != y195.2)) (fun w1 hw1 => ev_bne Tryz.underlying4 rfl rfl) (by decide) ?_
   refine sq_ev (v := .bool (y179.2 != y195.2)) (fun w1 hw1 => ev_move rfl) (by decide) ?_
   obtain ⟨z215, hz217, hS⟩ := bind_some' hS
   refine sq_join (m := 5) (C := fun (x : Bool) => z215 = x) (l' := fun x => [(3, .pointer (some ⟨gx_3, 0, none⟩)), (5, .pointer (some ⟨gr_5, 0, none⟩)), (6, .pointer (some ⟨gs_6, 0, none⟩)), (9, .bool y179.2), (109, .bool x)]) ?_ ?_
   ·rintro _ rfl
    refine sq_ev (v := .bool z215) (fun w1 hw1 => ev_move rfl) (by decide) ?_
    obtain ⟨z227, hz229, hS⟩ := bind_some' hS
    refine sq_join (m := 14) (C := fun (x : Bool) => z227 = x) (l' := fun x => [(3, .pointer (some ⟨gx_3, 0, none⟩)), (5, .pointer (some ⟨gr_5, 0, none⟩)), (6, .pointer (some ⟨gs_6, 0, none⟩)), (9, .bool y179.2), (124, .bool x)]) ?_ ?_
    ·rintro _ rfl
     refine sq_ev (v := .bool z227) (fun w1 hw1 => ev_move rfl) (by decide) ?_
     obtain ⟨z244, hz246, hS⟩ := bind_some' hS
     refine sq_join (m := 14) (C := fun (x : Bool) => z244 = x) (l' := fun x => [(3, .pointer (some ⟨gx_3, 0, none⟩)), (5, .pointer (some ⟨gr_5, 0, none⟩)), (6, .pointer (some ⟨gs_6, 0, none⟩)), (9, .bool y179.2), (139, .bool x)]) ?_ ?_
     ·rintro _ rfl
      refine sq_ev (v := .bool z244) (fun w1 hw1 => ev_move rfl) (by decide) ?_
      obtain ⟨z261, hz263, hS⟩ := bind_some' hS
      refine sq_join (m := 14) (C := fun (x : Bool) => z261 = x) (l' := fun x => [(3, .pointer (some ⟨gx_3, 0, none⟩)), (5, .pointer (some ⟨gr_5, 0, none⟩)), (9, .bool y179.2), (154, .bool x)]) ?_ ?_
      ·rintro _ rfl
       refine sq_end (l' := [(3, .pointer (some ⟨gx_3, 0, none⟩)), (5, .pointer (some ⟨gr_5, 0, none⟩)), (9, .bool y179.2), (154, .bool z261)]) (.cons rfl (.cons rfl (.cons rfl (.cons rfl (.nil _))))) (fun w212 hw211 => ?_)
       have htr276 := Tr.of_below hw211 hb.bd
       replace hBx_3 := hBx_3.mv (htr276.mv (i := 5) rfl)
       replace hx_3_7 := hx_3_7.mv htr276.rd
       replace hx_3_8 := hx_3_8.mv htr276.rd
       replace hx_3_12 := hx_3_12.mv htr276.rd
       replace hB65 := hB65.mv (htr276.mv (i := 100) rfl)
       replace h64 := h64.mv (htr276.mv (i := 101) rfl)
       replace hb := hb.trans htr276
       refine ke_cond (t := z261) rfl (fun hc277 => ?_) (fun hc277 => ?_)
       ·replace hS := ite_true' hS hc277
        refine ke_seq ?_
        refine ke_region ?_
        refine sr_ev (v := .bool false) (ev_assign rfl) (by decide) ?_
        refine sr_end (l' := [(4, .bool false)]) (.cons rfl (.nil _)) ?_
        cases hS
        exact ke_ret1 Tryz.func7 rfl rfl ⟨_, rfl, rfl, (hb.below (flat1_le _))⟩
       ·replace hS := ite_false' hS hc277
        refine ke_skip ?_
        refine ke_seq ?_
        refine ke_region ?_
        refine sr_ev (v := .pointer (some ⟨gr_5, 0, none⟩)) (ev_move rfl) (by decide) ?_
        obtain ⟨y278, hy279, hS⟩ := bind_some' hS
        refine sr_call (vs := [.pointer (some ⟨gr_5, 0, none⟩)]) rfl Tryz.call35 rfl (client_Clients_List_ok _ (hg.fr hz hb) (ρA := ρ205) hb.bd (hz.fr hg hb) (τ0 := (fun p => 100 + p)) (fun p => Nat.le_add_right_of_le (by decide)) (⟨_, hB65, h64⟩ : client_Clients.O (fun p => 100 + p) ρ205 w212 gr_5 or_5) hy279) (by decide) ?_
        rintro v283 w280 ⟨_, rfl, h284, hbw281⟩
        have htr282 := Tr.of_below hbw281 hb.bd
        replace hBx_3 := hBx_3.mv (htr282.mv (i := 5) rfl)
        replace hx_3_7 := hx_3_7.mv htr282.rd
        replace hx_3_8 := hx_3_8.mv htr282.rd
        replace hx_3_12 := hx_3_12.mv htr282.rd
        replace hB65 := hB65.mv (htr282.mv (i := 100) rfl)
        replace h64 := h64.mv (htr282.mv (i := 101) rfl)
        replace hb := hb.trans htr282
        refine sr_ev (v := v283) (ev_assign rfl) (by decide) ?_
        refine sr_end (l' := [(3, .pointer (some ⟨gx_3, 0, none⟩)), (5, .pointer (some ⟨gr_5, 0, none⟩)), (9, .bool y179.2), (12, v283)]) (.cons rfl (.cons rfl (.cons rfl (.cons rfl (.nil _))))) ?_
        refine ke_seq ?_
        refine ke_seq ?_
        refine ke_region ?_
        refine sr_ev (v := .int .i64 1) (ev_assign rfl) (by decide) ?_
        refine sr_end (l' := [(3, .pointer (some ⟨gx_3, 0, none⟩)), (5, .pointer (some ⟨gr_5, 0, none⟩)), (9, .bool y179.2), (12, v283), (13, .int .i64 1)]) (.cons rfl (.cons rfl (.cons rfl (.cons rfl (.cons rfl (.nil _)))))) ?_
        refine ke_block ?_
        have hK := law36_ClientApart_L3_ok hg hbd hz _ hr0 _ hS hb hx_3_7 hx_3_8 hx_3_12 hBx_3 ⟨_, hB65, h64⟩ h284
        exact ke_weaken (l' := [(3, .pointer (some ⟨gx_3, 0, none⟩)), (5, .pointer (some ⟨gr_5, 0, none⟩)), (9, .bool y179.2), (12, v283), (13, .int .i64 1)]) (.cons rfl (.cons rfl (.cons rfl (.cons rfl (.cons rfl (.nil _)))))) (ke_loop hK)
      ·intro K260
       clear hS
       rcases Bool.eq_false_or_eq_true z244 with hg259 | hg259
       ·have hS := ite_true' hz263 hg259
        refine sq_pass (e := 140) rfl rfl (by rw [hg259]; rfl) (by decide) ?_
        refine sq_pass (e := 140) rfl rfl (by rw [hg259]; rfl) (by decide) ?_
        refine sq_pass (e := 140) rfl rfl (by rw [hg259]; rfl) (by decide) ?_
        refine sq_pass (e := 140) rfl rfl (by rw [hg259]; rfl) (by decide) ?_
        refine sq_pass (e := 140) rfl rfl (by rw [hg259]; rfl) (by decide) ?_
        refine sq_pass (e := 140) rfl rfl (by rw [hg259]; rfl) (by decide) ?_
        refine sq_pass (e := 140) rfl rfl (by rw [hg259]; rfl) (by decide) ?_
        refine sq_pass (e := 140) rfl rfl (by rw [hg259]; rfl) (by decide) ?_
        refine sq_pass (e := 140) rfl rfl (by rw [hg259]; rfl) (by decide) ?_
        refine sq_pass (e := 140) rfl rfl (by rw [hg259]; rfl) (by decide) ?_
        refine sq_pass (e := 140) rfl rfl (by rw [hg259]; rfl) (by decide) ?_
        refine sq_pass (e := 140) rfl rfl (by rw [hg259]; rfl) (by decide) ?_
        refine sq_pass (e := 140) rfl rfl (by rw [hg259]; rfl) (by decide) ?_
        refine sq_ev (v := .bool true) (fun w1 hw1 => ev_pick_t rfl hg259 rfl) (by decide) ?_
        exact sq_weaken (l' := [(3, .pointer (some ⟨gx_3, 0, none⟩)), (5, .pointer (some ⟨gr_5, 0, none⟩)), (9, .bool y179.2), (154, .bool true)]) (.cons rfl (.cons rfl (.cons rfl (.cons rfl (.nil _))))) (K260 true (Option.some.inj hS).symm)
       ·have hS := ite_false' hz263 hg259
        refine sq_evg (b := false) (e := 140) rfl rfl hg259 (v := .pointer (some ⟨gr_5, 0, none⟩)) (fun w1 hw1 => ev_move rfl) (by decide) ?_
        refine sq_evg (b := false) (e := 140) rfl rfl hg259 (v := .pointer (some ⟨gx_3, 10, none⟩)) (fun w1 hw1 => ev_fieldAddr (i := 2) Tryz.underlying44 rfl Tryz.info9 rfl rfl) (by decide) ?_
        refine sq_evg (b := false) (e := 140) rfl rfl hg259 (v := str x_3_10) (fun w1 hw1 => ev_load Tryz.isAgg9 rfl ((hBx_3.mv (Mv.of_below (i := 5) (ρ := ρ205) hw1)).cell rfl)) (by decide) ?_
        refine sq_evg (b := false) (e := 140) rfl rfl hg259 (v := .pointer (some ⟨gx_3, 12, none⟩)) (fun w1 hw1 => ev_fieldAddr (i := 4) Tryz.underlying44 rfl Tryz.info25 rfl rfl) (by decide) ?_
        refine sq_evg (b := false) (e := 140) rfl rfl hg259 (v := vx_3_12) (fun w1 hw1 => ev_load Tryz.isAgg25 rfl ((hBx_3.mv (Mv.of_below (i := 5) (ρ := ρ205) hw1)).cell rfl)) (by decide) ?_
        obtain ⟨y266, hy267, hS⟩ := bind_some' hS
        refine sq_callg (b := false) (e := 140) rfl rfl hg259 (v := .int .i64 y266) (vs := [.pointer (some ⟨gr_5, 0, none⟩), str x_3_10, vx_3_12]) rfl Tryz.call19 rfl (fun w1 hw1 => (client_Clients_Allowed_ok _ ((hg.fr hz hb).below hw1) (ρA := ρ205) (fun b h => Nat.lt_of_lt_of_le (hb.bd b h) hw1.size) (hz.fr hg hb) (τ0 := (fun p => 100 + p)) (fun p => Nat.le_add_right_of_le (by decide)) (hx_3_12.mv (Mv.of_below (i := 0) hw1)) (⟨_, (hB65.mv (Mv.of_below (i := 100) (ρ := ρ205) hw1)), (h64.mv (Mv.of_below (i := 101) (ρ := ρ205) hw1))⟩ : client_Clients.O (fun p => 100 + p) ρ205 w1 gr_5 or_5) hy267)) (by decide) ?_
        refine sq_evg (b := false) (e := 140) rfl rfl hg259 (v := .pointer (some ⟨gs_6, 0, none⟩)) (fun w1 hw1 => ev_move rfl) (by decide) ?_
        refine sq_evg (b := false) (e := 140) rfl rfl hg259 (v := .pointer (some ⟨gx_3, 10, none⟩)) (fun w1 hw1 => ev_fieldAddr (i := 2) Tryz.underlying44 rfl Tryz.info9 rfl rfl) (by decide) ?_
        refine sq_evg (b := false) (e := 140) rfl rfl hg259 (v := str x_3_10) (fun w1 hw1 => ev_load Tryz.isAgg9 rfl ((hBx_3.mv (Mv.of_below (i := 5) (ρ := ρ205) hw1)).cell rfl)) (by decide) ?_
        refine sq_evg (b := false) (e := 140) rfl rfl hg259 (v := .pointer (some ⟨gx_3, 12, none⟩)) (fun w1 hw1 => ev_fieldAddr (i := 4) Tryz.underlying44 rfl Tryz.info25 rfl rfl) (by decide) ?_
        refine sq_evg (b := false) (e := 140) rfl rfl hg259 (v := vx_3_12) (fun w1 hw1 => ev_load Tryz.isAgg25 rfl ((hBx_3.mv (Mv.of_below (i := 5) (ρ := ρ205) hw1)).cell rfl)) (by decide) ?_
        obtain ⟨y271, hy272, hS⟩ := bind_some' hS
        refine sq_callg (b := false) (e := 140) rfl rfl hg259 (v := .int .i64 y271) (vs := [.pointer (some ⟨gs_6, 0, none⟩), str x_3_10, vx_3_12]) rfl Tryz.call19 rfl (fun w1 hw1 => (client_Clients_Allowed_ok _ ((hg.fr hz hb).below hw1) (ρA := ρ205) (fun b h => Nat.lt_of_lt_of_le (hb.bd b h) hw1.size) (hz.fr hg hb) (τ0 := (fun p => 200 + p)) (fun p => Nat.le_add_right_of_le (by decide)) (hx_3_12.mv (Mv.of_below (i := 0) hw1)) (⟨_, (hB68.mv (Mv.of_below (i := 200) (ρ := ρ205) hw1)), (h67.mv (Mv.of_below (i := 201) (ρ := ρ205) hw1))⟩ : client_Clients.O (fun p => 200 + p) ρ205 w1 gs_6 os_6) hy272)) (by decide) ?_
        refine sq_evg (b := false) (e := 140) rfl rfl hg259 (v := .bool (y266 != y271)) (fun w1 hw1 => ev_ne rfl rfl) (by decide) ?_
        refine sq_ev (v := .bool (y266 != y271)) (fun w1 hw1 => ev_pick_f rfl hg259 rfl) (by decide) ?_
        exact sq_weaken (l' := [(3, .pointer (some ⟨gx_3, 0, none⟩)), (5, .pointer (some ⟨gr_5, 0, none⟩)), (9, .bool y179.2), (154, .bool (y266 != y271))]) (.cons rfl (.cons rfl (.cons rfl (.cons rfl (.nil _))))) (K260 (y266 != y271) (Option.some.inj hS).symm)
     ·intro K243
      clear hS
      rcases Bool.eq_false_or_eq_true z227 with hg242 | hg242
      ·have hS := ite_true' hz246 hg242
       refine sq_pass (e := 125) rfl rfl (by rw [hg242]; rfl) (by decide) ?_
       refine sq_pass (e := 125) rfl rfl (by rw [hg242]; rfl) (by decide) ?_
       refine sq_pass (e := 125) rfl rfl (by rw [hg242]; rfl) (by decide) ?_
       refine sq_pass (e := 125) rfl rfl (by rw [hg242]; rfl) (by decide) ?_
       refine sq_pass (e := 125) rfl rfl (by rw [hg242]; rfl) (by decide) ?_
       refine sq_pass (e := 125) rfl rfl (by rw [hg242]; rfl) (by decide) ?_
       refine sq_pass (e := 125) rfl rfl (by rw [hg242]; rfl) (by decide) ?_
       refine sq_pass (e := 125) rfl rfl (by rw [hg242]; rfl) (by decide) ?_
       refine sq_pass (e := 125) rfl rfl (by rw [hg242]; rfl) (by decide) ?_
       refine sq_pass (e := 125) rfl rfl (by rw [hg242]; rfl) (by decide) ?_
       refine sq_pass (e := 125) rfl rfl (by rw [hg242]; rfl) (by decide) ?_
       refine sq_pass (e := 125) rfl rfl (by rw [hg242]; rfl) (by decide) ?_
       refine sq_pass (e := 125) rfl rfl (by rw [hg242]; rfl) (by decide) ?_
       refine sq_ev (v := .bool true) (fun w1 hw1 => ev_pick_t rfl hg242 rfl) (by decide) ?_
       exact sq_weaken (l' := [(3, .pointer (some ⟨gx_3, 0, none⟩)), (5, .pointer (some ⟨gr_5, 0, none⟩)), (6, .pointer (some ⟨gs_6, 0, none⟩)), (9, .bool y179.2), (139, .bool true)]) (.cons rfl (.cons rfl (.cons rfl (.cons rfl (.cons rfl (.nil _)))))) (K243 true (Option.some.inj hS).symm)
      ·have hS := ite_false' hz246 hg242
       refine sq_evg (b := false) (e := 125) rfl rfl hg242 (v := .pointer (some ⟨gr_5, 0, none⟩)) (fun w1 hw1 => ev_move rfl) (by decide) ?_
       refine sq_evg (b := false) (e := 125) rfl rfl hg242 (v := .pointer (some ⟨gx_3, 10, none⟩)) (fun w1 hw1 => ev_fieldAddr (i := 2) Tryz.underlying44 rfl Tryz.info9 rfl rfl) (by decide) ?_
       refine sq_evg (b := false) (e := 125) rfl rfl hg242 (v := str x_3_10) (fun w1 hw1 => ev_load Tryz.isAgg9 rfl ((hBx_3.mv (Mv.of_below (i := 5) (ρ := ρ205) hw1)).cell rfl)) (by decide) ?_
       refine sq_evg (b := false) (e := 125) rfl rfl hg242 (v := .pointer (some ⟨gx_3, 11, none⟩)) (fun w1 hw1 => ev_fieldAddr (i := 3) Tryz.underlying44 rfl Tryz.info9 rfl rfl) (by decide) ?_
       refine sq_evg (b := false) (e := 125) rfl rfl hg242 (v := str x_3_11) (fun w1 hw1 => ev_load Tryz.isAgg9 rfl ((hBx_3.mv (Mv.of_below (i := 5) (ρ := ρ205) hw1)).cell rfl)) (by decide) ?_
       obtain ⟨y249, hy250, hS⟩ := bind_some' hS
       refine sq_callg (b := false) (e := 125) rfl rfl hg242 (v := .int .i64 y249) (vs := [.pointer (some ⟨gr_5, 0, none⟩), str x_3_10, str x_3_11]) rfl Tryz.call29 rfl (fun w1 hw1 => (client_Clients_Authenticate_ok _ ((hg.fr hz hb).below hw1) (ρA := ρ205) (fun b h => Nat.lt_of_lt_of_le (hb.bd b h) hw1.size) (hz.fr hg hb) (τ0 := (fun p => 100 + p)) (fun p => Nat.le_add_right_of_le (by decide)) (⟨_, (hB65.mv (Mv.of_below (i := 100) (ρ := ρ205) hw1)), (h64.mv (Mv.of_below (i := 101) (ρ := ρ205) hw1))⟩ : client_Clients.O (fun p => 100 + p) ρ205 w1 gr_5 or_5) hy250)) (by decide) ?_
       refine sq_evg (b := false) (e := 125) rfl rfl hg242 (v := .pointer (some ⟨gs_6, 0, none⟩)) (fun w1 hw1 => ev_move rfl) (by decide) ?_
       refine sq_evg (b := false) (e := 125) rfl rfl hg242 (v := .pointer (some ⟨gx_3, 10, none⟩)) (fun w1 hw1 => ev_fieldAddr (i := 2) Tryz.underlying44 rfl Tryz.info9 rfl rfl) (by decide) ?_
       refine sq_evg (b := false) (e := 125) rfl rfl hg242 (v := str x_3_10) (fun w1 hw1 => ev_load Tryz.isAgg9 rfl ((hBx_3.mv (Mv.of_below (i := 5) (ρ := ρ205) hw1)).cell rfl)) (by decide) ?_
       refine sq_evg (b := false) (e := 125) rfl rfl hg242 (v := .pointer (some ⟨gx_3, 11, none⟩)) (fun w1 hw1 => ev_fieldAddr (i := 3) Tryz.underlying44 rfl Tryz.info9 rfl rfl) (by decide) ?_
       refine sq_evg (b := false) (e := 125) rfl rfl hg242 (v := str x_3_11) (fun w1 hw1 => ev_load Tryz.isAgg9 rfl ((hBx_3.mv (Mv.of_below (i := 5) (ρ := ρ205) hw1)).cell rfl)) (by decide) ?_
       obtain ⟨y254, hy255, hS⟩ := bind_some' hS
       refine sq_callg (b := false) (e := 125) rfl rfl hg242 (v := .int .i64 y254) (vs := [.pointer (some ⟨gs_6, 0, none⟩), str x_3_10, str x_3_11]) rfl Tryz.call29 rfl (fun w1 hw1 => (client_Clients_Authenticate_ok _ ((hg.fr hz hb).below hw1) (ρA := ρ205) (fun b h => Nat.lt_of_lt_of_le (hb.bd b h) hw1.size) (hz.fr hg hb) (τ0 := (fun p => 200 + p)) (fun p => Nat.le_add_right_of_le (by decide)) (⟨_, (hB68.mv (Mv.of_below (i := 200) (ρ := ρ205) hw1)), (h67.mv (Mv.of_below (i := 201) (ρ := ρ205) hw1))⟩ : client_Clients.O (fun p => 200 + p) ρ205 w1 gs_6 os_6) hy255)) (by decide) ?_
       refine sq_evg (b := false) (e := 125) rfl rfl hg242 (v := .bool (y249 != y254)) (fun w1 hw1 => ev_ne rfl rfl) (by decide) ?_
       refine sq_ev (v := .bool (y249 != y254)) (fun w1 hw1 => ev_pick_f rfl hg242 rfl) (by decide) ?_
       exact sq_weaken (l' := [(3, .pointer (some ⟨gx_3, 0, none⟩)), (5, .pointer (some ⟨gr_5, 0, none⟩)), (6, .pointer (some ⟨gs_6, 0, none⟩)), (9, .bool y179.2), (139, .bool (y249 != y254))]) (.cons rfl (.cons rfl (.cons rfl (.cons rfl (.cons rfl (.nil _)))))) (K243 (y249 != y254) (Option.some.inj hS).symm)
    ·intro K226
     clear hS
     rcases Bool.eq_false_or_eq_true z215 with hg225 | hg225
     ·have hS := ite_true' hz229 hg225
      refine sq_pass (e := 110) rfl rfl (by rw [hg225]; rfl) (by decide) ?_
      refine sq_pass (e := 110) rfl rfl (by rw [hg225]; rfl) (by decide) ?_
      refine sq_pass (e := 110) rfl rfl (by rw [hg225]; rfl) (by decide) ?_
      refine sq_pass (e := 110) rfl rfl (by rw [hg225]; rfl) (by decide) ?_
      refine sq_pass (e := 110) rfl rfl (by rw [hg225]; rfl) (by decide) ?_
      refine sq_pass (e := 110) rfl rfl (by rw [hg225]; rfl) (by decide) ?_
      refine sq_pass (e := 110) rfl rfl (by rw [hg225]; rfl) (by decide) ?_
      refine sq_pass (e := 110) rfl rfl (by rw [hg225]; rfl) (by decide) ?_
      refine sq_pass (e := 110) rfl rfl (by rw [hg225]; rfl) (by decide) ?_
      refine sq_pass (e := 110) rfl rfl (by rw [hg225]; rfl) (by decide) ?_
      refine sq_pass (e := 110) rfl rfl (by rw [hg225]; rfl) (by decide) ?_
      refine sq_pass (e := 110) rfl rfl (by rw [hg225]; rfl) (by decide) ?_
      refine sq_pass (e := 110) rfl rfl (by rw [hg225]; rfl) (by decide) ?_
      refine sq_ev (v := .bool true) (fun w1 hw1 => ev_pick_t rfl hg225 rfl) (by decide) ?_
      exact sq_weaken (l' := [(3, .pointer (some ⟨gx_3, 0, none⟩)), (5, .pointer (some ⟨gr_5, 0, none⟩)), (6, .pointer (some ⟨gs_6, 0, none⟩)), (9, .bool y179.2), (124, .bool true)]) (.cons rfl (.cons rfl (.cons rfl (.cons rfl (.cons rfl (.nil _)))))) (K226 true (Option.some.inj hS).symm)
     ·have hS := ite_false' hz229 hg225
      refine sq_evg (b := false) (e := 110) rfl rfl hg225 (v := .pointer (some ⟨gr_5, 0, none⟩)) (fun w1 hw1 => ev_move rfl) (by decide) ?_
      refine sq_evg (b := false) (e := 110) rfl rfl hg225 (v := .pointer (some ⟨gx_3, 10, none⟩)) (fun w1 hw1 => ev_fieldAddr (i := 2) Tryz.underlying44 rfl Tryz.info9 rfl rfl) (by decide) ?_
      refine sq_evg (b := false) (e := 110) rfl rfl hg225 (v := str x_3_10) (fun w1 hw1 => ev_load Tryz.isAgg9 rfl ((hBx_3.mv (Mv.of_below (i := 5) (ρ := ρ205) hw1)).cell rfl)) (by decide) ?_
      refine sq_evg (b := false) (e := 110) rfl rfl hg225 (v := .pointer (some ⟨gx_3, 11, none⟩)) (fun w1 hw1 => ev_fieldAddr (i := 3) Tryz.underlying44 rfl Tryz.info9 rfl rfl) (by decide) ?_
      refine sq_evg (b := false) (e := 110) rfl rfl hg225 (v := str x_3_11) (fun w1 hw1 => ev_load Tryz.isAgg9 rfl ((hBx_3.mv (Mv.of_below (i := 5) (ρ := ρ205) hw1)).cell rfl)) (by decide) ?_
      obtain ⟨y232, hy233, hS⟩ := bind_some' hS
      refine sq_callg (b := false) (e := 110) rfl rfl hg225 (v := .int .i64 y232) (vs := [.pointer (some ⟨gr_5, 0, none⟩), str x_3_10, str x_3_11]) rfl Tryz.call27 rfl (fun w1 hw1 => (client_Clients_Redirect_ok _ ((hg.fr hz hb).below hw1) (ρA := ρ205) (fun b h => Nat.lt_of_lt_of_le (hb.bd b h) hw1.size) (hz.fr hg hb) (τ0 := (fun p => 100 + p)) (fun p => Nat.le_add_right_of_le (by decide)) (⟨_, (hB65.mv (Mv.of_below (i := 100) (ρ := ρ205) hw1)), (h64.mv (Mv.of_below (i := 101) (ρ := ρ205) hw1))⟩ : client_Clients.O (fun p => 100 + p) ρ205 w1 gr_5 or_5) hy233)) (by decide) ?_
      refine sq_evg (b := false) (e := 110) rfl rfl hg225 (v := .pointer (some ⟨gs_6, 0, none⟩)) (fun w1 hw1 => ev_move rfl) (by decide) ?_
      refine sq_evg (b := false) (e := 110) rfl rfl hg225 (v := .pointer (some ⟨gx_3, 10, none⟩)) (fun w1 hw1 => ev_fieldAddr (i := 2) Tryz.underlying44 rfl Tryz.info9 rfl rfl) (by decide) ?_
      refine sq_evg (b := false) (e := 110) rfl rfl hg225 (v := str x_3_10) (fun w1 hw1 => ev_load Tryz.isAgg9 rfl ((hBx_3.mv (Mv.of_below (i := 5) (ρ := ρ205) hw1)).cell rfl)) (by decide) ?_
      refine sq_evg (b := false) (e := 110) rfl rfl hg225 (v := .pointer (some ⟨gx_3, 11, none⟩)) (fun w1 hw1 => ev_fieldAddr (i := 3) Tryz.underlying44 rfl Tryz.info9 rfl rfl) (by decide) ?_
      refine sq_evg (b := false) (e := 110) rfl rfl hg225 (v := str x_3_11) (fun w1 hw1 => ev_load Tryz.isAgg9 rfl ((hBx_3.mv (Mv.of_below (i := 5) (ρ := ρ205) hw1)).cell rfl)) (by decide) ?_
      obtain ⟨y237, hy238, hS⟩ := bind_some' hS
      refine sq_callg (b := false) (e := 110) rfl rfl hg225 (v := .int .i64 y237) (vs := [.pointer (some ⟨gs_6, 0, none⟩), str x_3_10, str x_3_11]) rfl Tryz.call27 rfl (fun w1 hw1 => (client_Clients_Redirect_ok _ ((hg.fr hz hb).below hw1) (ρA := ρ205) (fun b h => Nat.lt_of_lt_of_le (hb.bd b h) hw1.size) (hz.fr hg hb) (τ0 := (fun p => 200 + p)) (fun p => Nat.le_add_right_of_le (by decide)) (⟨_, (hB68.mv (Mv.of_below (i := 200) (ρ := ρ205) hw1)), (h67.mv (Mv.of_below (i := 201) (ρ := ρ205) hw1))⟩ : client_Clients.O (fun p => 200 + p) ρ205 w1 gs_6 os_6) hy238)) (by decide) ?_
      refine sq_evg (b := false) (e := 110) rfl rfl hg225 (v := .bool (y232 != y237)) (fun w1 hw1 => ev_ne rfl rfl) (by decide) ?_
      refine sq_ev (v := .bool (y232 != y237)) (fun w1 hw1 => ev_pick_f rfl hg225 rfl) (by decide) ?_
      exact sq_weaken (l' := [(3, .pointer (some ⟨gx_3, 0, none⟩)), (5, .pointer (some ⟨gr_5, 0, none⟩)), (6, .pointer (some ⟨gs_6, 0, none⟩)), (9, .bool y179.2), (124, .bool (y232 != y237))]) (.cons rfl (.cons rfl (.cons rfl (.cons rfl (.cons rfl (.nil _)))))) (K226 (y232 != y237) (Option.some.inj hS).symm)
   ·intro K214
    clear hS
    rcases Bool.eq_false_or_eq_true (y179.2 != y195.2) with hg213 | hg213
    ·have hS := ite_true' hz217 hg213
     refine sq_pass (e := 104) rfl rfl (by rw [hg213]; rfl) (by decide) ?_
     refine sq_pass (e := 104) rfl rfl (by rw [hg213]; rfl) (by decide) ?_
     refine sq_pass (e := 104) rfl rfl (by rw [hg213]; rfl) (by decide) ?_
     refine sq_pass (e := 104) rfl rfl (by rw [hg213]; rfl) (by decide) ?_
     refine sq_ev (v := .bool true) (fun w1 hw1 => ev_pick_t rfl hg213 rfl) (by decide) ?_
     exact sq_weaken (l' := [(3, .pointer (some ⟨gx_3, 0, none⟩)), (5, .pointer (some ⟨gr_5, 0, none⟩)), (6, .pointer (some ⟨gs_6, 0, none⟩)), (9, .bool y179.2), (109, .bool true)]) (.cons rfl (.cons rfl (.cons rfl (.cons rfl (.cons rfl (.nil _)))))) (K214 true (Option.some.inj hS).symm)
    ·have hS := ite_false' hz217 hg213
     refine sq_evg (b := false) (e := 104) rfl rfl hg213 (v := .agg #[str y179.1.ID, .int .i64 y179.1.Kind, str y179.1.Tenant, str y179.1.Secret.Salt, .int .i64 y179.1.Secret.Rounds, str y179.1.Secret.Hash, v184, v186, str y179.1.Logout]) (fun w1 hw1 => ev_loads (cs := [str y179.1.ID, .int .i64 y179.1.Kind, str y179.1.Tenant, str y179.1.Secret.Salt, .int .i64 y179.1.Secret.Rounds, str y179.1.Secret.Hash, v184, v186, str y179.1.Logout]) Tryz.isAgg27 Tryz.sizeOf27 rfl ((hB192.mv (Mv.of_below (i := 10) (ρ := ρ205) hw1)).cells (vs := [str y179.1.ID, .int .i64 y179.1.Kind, str y179.1.Tenant, str y179.1.Secret.Salt, .int .i64 y179.1.Secret.Rounds, str y179.1.Secret.Hash, v184, v186, str y179.1.Logout]) rfl)) (by decide) ?_
     refine sq_evg (b := false) (e := 104) rfl rfl hg213 (v := .agg #[str y195.1.ID, .int .i64 y195.1.Kind, str y195.1.Tenant, str y195.1.Secret.Salt, .int .i64 y195.1.Secret.Rounds, str y195.1.Secret.Hash, v200, v202, str y195.1.Logout]) (fun w1 hw1 => ev_loads (cs := [str y195.1.ID, .int .i64 y195.1.Kind, str y195.1.Tenant, str y195.1.Secret.Salt, .int .i64 y195.1.Secret.Rounds, str y195.1.Secret.Hash, v200, v202, str y195.1.Logout]) Tryz.isAgg27 Tryz.sizeOf27 rfl ((hB208.mv (Mv.of_below (i := 12) (ρ := ρ205) hw1)).cells (vs := [str y195.1.ID, .int .i64 y195.1.Kind, str y195.1.Tenant, str y195.1.Secret.Salt, .int .i64 y195.1.Secret.Rounds, str y195.1.Secret.Hash, v200, v202, str y195.1.Logout]) rfl)) (by decide) ?_
     obtain ⟨y220, hy221, hS⟩ := bind_some' hS
     refine sq_callg (b := false) (e := 104) rfl rfl hg213 (v := .bool y220) (vs := [.agg #[str y179.1.ID, .int .i64 y179.1.Kind, str y179.1.Tenant, str y179.1.Secret.Salt, .int .i64 y179.1.Secret.Rounds, str y179.1.Secret.Hash, v184, v186, str y179.1.Logout], .agg #[str y195.1.ID, .int .i64 y195.1.Kind, str y195.1.Tenant, str y195.1.Secret.Salt, .int .i64 y195.1.Secret.Rounds, str y195.1.Secret.Hash, v200, v202, str y195.1.Logout]]) rfl Tryz.call26 rfl (fun w1 hw1 => (ref36_Same_ok _ ((hg.fr hz hb).below hw1) (ρA := ρ205) (fun b h => Nat.lt_of_lt_of_le (hb.bd b h) hw1.size) (hz.fr hg hb) (h185.mv (Mv.of_below (i := 0) hw1)) (h187.mv (Mv.of_below (i := 0) hw1)) (h201.mv (Mv.of_below (i := 0) hw1)) (h203.mv (Mv.of_below (i := 0) hw1)) hy221)) (by decide) ?_
     refine sq_evg (b := false) (e := 104) rfl rfl hg213 (v := .bool (!y220)) (fun w1 hw1 => ev_not rfl) (by decide) ?_
     refine sq_ev (v := .bool (!y220)) (fun w1 hw1 => ev_pick_f rfl hg213 rfl) (by decide) ?_
     exact sq_weaken (l' := [(3, .pointer (some ⟨gx_3, 0, none⟩)), (5, .pointer (some ⟨gr_5, 0, none⟩)), (6, .pointer (some ⟨gs_6, 0, none⟩)), (9, .bool y179.2), (109, .bool (!y220))]) (.cons rfl (.cons rfl (.cons rfl (.cons rfl (.cons rfl (.nil _)))))) (K214 (!y220) (Option.some.inj hS).symm)
theorem law36_ClientApart_ok (w0 : World) (hg : Gs w0) {ρA : Tags} (hbd : ∀ b, ρA b ≠ 0 → b < w0.heap.size) (hz : Gz ρA) {l_0 : List law36_Op} {x_1 : law36_Op} {v1 : Value} {v3 : Value} {v5 : Value} {v7 : Value} {r : Bool} (h2 : SlR law36_Op.c (Wb ρA) w0 v1 l_0) (h4 : SlR strC (Wb ρA) w0 v3 x_1.Client.Redirects) (h6 : SlR strC (Wb ρA) w0 v5 x_1.Client.Scopes) (h8 : SlR strC (Wb ρA) w0 v7 x_1.Scopes) (hS : law36_ClientApart l_0 x_1 = some r) :
  Calls Tryz.prog 7 #[v1, .agg #[.int .i64 x_1.Kind, str x_1.Client.ID, .int .i64 x_1.Client.Kind, str x_1.Client.Tenant, str x_1.Client.Secret.Salt, .int .i64 x_1.Client.Secret.Rounds, str x_1.Client.Secret.Hash, v3, v5, str x_1.Client.Logout, str x_1.ID, str x_1.S, v7]] w0 (Ret (fun v w' => v = .bool r ∧ Below w0.heap.size w0 w')) := by
 unfold law36_ClientApart at hS
 have hb := flat1_fr (ρ := ρA) (w := w0) hbd
 have hz := hz.flat1
 replace h2 := SlR.mv h2 flat1_rd
 replace h4 := SlR.mv h4 flat1_rd
 replace h6 := SlR.mv h6 flat1_rd
 replace h8 := SlR.mv h8 flat1_rd
 refine calls_of_ke Tryz.func7 rfl (n := 217) rfl rfl (l := [(0, v1), (1, .agg #[.int .i64 x_1.Kind, str x_1.Client.ID, .int .i64 x_1.Client.Kind, str x_1.Client.Tenant, str x_1.Client.Secret.Salt, .int .i64 x_1.Client.Secret.Rounds, str x_1.Client.Secret.Hash, v3, v5, str x_1.Client.Logout, str x_1.ID, str x_1.S, v7])]) rfl ?_
 refine ke_seq ?_
 refine ke_region ?_
 refine sr_boxT 5 (by decide) hb.bd rfl (by decide) ?_
 intro g9 ρ10 w11 hB13 htr12
 replace h2 := h2.mv htr12.rd
 replace h4 := h4.mv htr12.rd
 replace h6 := h6.mv htr12.rd
 replace h8 := h8.mv htr12.rd
 replace hb := hb.trans htr12
 replace hB13 : Blk ρ10 5 w11 g9 (.cells #[.int .i64 x_1.Kind, str x_1.Client.ID, .int .i64 x_1.Client.Kind, str x_1.Client.Tenant, str x_1.Client.Secret.Salt, .int .i64 x_1.Client.Secret.Rounds, str x_1.Client.Secret.Hash, v3, v5, str x_1.Client.Logout, str x_1.ID, str x_1.S, v7] 44 (0, 0)) := hB13
 refine sr_ev (v := .bool false) (ev_assign rfl) (by decide) ?_
 refine sr_end (l' := [(0, v1), (3, .pointer (some ⟨g9, 0, none⟩))]) (.cons rfl (.cons rfl (.nil _))) ?_
 refine ke_seq ?_
 refine ke_seq ?_
 refine ke_region ?_
 refine sr_ev (v := v1) (ev_move rfl) (by decide) ?_
 obtain ⟨y14, hy15, hS⟩ := bind_some' hS
 refine sr_call (vs := [v1]) rfl Tryz.call21 rfl (law36_few_ok _ (hg.fr hz hb) (ρA := ρ10) hb.bd (hz.fr hg hb) h2 hy15) (by decide) ?_
 rintro _ w16 ⟨rfl, hbw17⟩
 have htr18 := Tr.of_below hbw17 hb.bd
 replace h2 := h2.mv htr18.rd
 replace hB13 := hB13.mv (htr18.mv (i := 5) rfl)
 replace h4 := h4.mv htr18.rd
 replace h6 := h6.mv htr18.rd
 replace h8 := h8.mv htr18.rd
 replace hb := hb.trans htr18
 refine sr_ev (v := .bool (!y14)) (ev_not rfl) (by decide) ?_
 refine sr_ev (v := .bool (!y14)) (ev_move rfl) (by decide) ?_
 obtain ⟨z21, hz23, hS⟩ := bind_some' hS
 refine sr_join (m := 5) (C := fun (z : Bool) w1 => z21 = z ∧ ∃ ρ1, Tr ρ10 w16 (fun _ => false) ρ1 w1) (l' := fun z => [(0, v1), (3, .pointer (some ⟨g9, 0, none⟩)), (22, .bool z)]) ?_ ?_
 ·rintro _ w24 ⟨rfl, ρ25, hj22⟩
  replace h2 := h2.mv hj22.rd
  replace hB13 := hB13.mv (hj22.mv (i := 5) rfl)
  replace h4 := h4.mv hj22.rd
  replace h6 := h6.mv hj22.rd
  replace h8 := h8.mv hj22.rd
  replace hb := hb.trans hj22
  refine sr_end (l' := [(0, v1), (3, .pointer (some ⟨g9, 0, none⟩)), (22, .bool z21)]) (.cons rfl (.cons rfl (.cons rfl (.nil _)))) ?_
  refine ke_cond (t := z21) rfl (fun hc37 => ?_) (fun hc37 => ?_)
  ·replace hS := ite_true' hS hc37
   refine ke_seq ?_
   refine ke_region ?_
   obtain ⟨y38, hy39, hS⟩ := bind_some' hS
   refine sr_call (vs := []) rfl Tryz.call11 rfl (law36_alive_ok _ (hg.fr hz hb) (ρA := ρ25) hb.bd (hz.fr hg hb) hy39) (by decide) ?_
   rintro _ w40 ⟨rfl, hbw41⟩
   have htr42 := Tr.of_below hbw41 hb.bd
   replace hb := hb.trans htr42
   refine sr_ev (v := .bool y38) (ev_assign rfl) (by decide) ?_
   refine sr_end (l' := [(4, .bool y38)]) (.cons rfl (.nil _)) ?_
   cases hS
   exact ke_ret1 Tryz.func7 rfl rfl ⟨_, rfl, rfl, (hb.below (flat1_le _))⟩
  ·replace hS := ite_false' hS hc37
   refine ke_skip ?_
   refine ke_seq ?_
   refine ke_region ?_
   obtain ⟨y43, hy44, hS⟩ := bind_some' hS
   refine sr_call (vs := []) rfl Tryz.call15 rfl (client_New_ok _ (hg.fr hz hb) (ρA := ρ25) hb.bd (hz.fr hg hb) (o := 100) (by decide) hy44) (by decide) ?_
   rintro _ w45 ⟨ρ52, g48, rfl, ⟨v49, hB51, h50⟩, htr47⟩
   replace h2 := h2.mv htr47.rd
   replace hB13 := hB13.mv (htr47.mv (i := 5) rfl)
   replace h4 := h4.mv htr47.rd
   replace h6 := h6.mv htr47.rd
   replace h8 := h8.mv htr47.rd
   replace hb := hb.trans htr47
   replace hB51 : Blk ρ52 100 w45 g48 (.cells #[v49] 57 (0, 0)) := hB51
   replace h50 : MapT str api_Client.c true ρ52 101 w45 v49 y43.of_ := h50
   obtain ⟨y53, hy54, hS⟩ := bind_some' hS
   refine sr_call (vs := []) rfl Tryz.call15 rfl (client_New_ok _ (hg.fr hz hb) (ρA := ρ52) hb.bd (hz.fr hg hb) (o := 200) (by decide) hy54) (by decide) ?_
   rintro _ w55 ⟨ρ62, g58, rfl, ⟨v59, hB61, h60⟩, htr57⟩
   replace h2 := h2.mv htr57.rd
   replace hB51 := hB51.mv (htr57.mv (i := 100) rfl)
   replace h50 := h50.mv (htr57.mv (i := 101) rfl)
   replace hB13 := hB13.mv (htr57.mv (i := 5) rfl)
   replace h4 := h4.mv htr57.rd
   replace h6 := h6.mv htr57.rd
   replace h8 := h8.mv htr57.rd
   replace hb := hb.trans htr57
   replace hB61 : Blk ρ62 200 w55 g58 (.cells #[v59] 57 (0, 0)) := hB61
   replace h60 : MapT str api_Client.c true ρ62 201 w55 v59 y53.of_ := h60
   refine sr_ev (v := .pointer (some ⟨g48, 0, none⟩)) (ev_assign rfl) (by decide) ?_
   refine sr_ev (v := .pointer (some ⟨g58, 0, none⟩)) (ev_assign rfl) (by decide) ?_
   refine sr_end (l' := [(0, v1), (3, .pointer (some ⟨g9, 0, none⟩)), (5, .pointer (some ⟨g48, 0, none⟩)), (6, .pointer (some ⟨g58, 0, none⟩))]) (.cons rfl (.cons rfl (.cons rfl (.cons rfl (.nil _))))) ?_
   refine ke_seq ?_
   refine ke_seq ?_
   refine ke_region ?_
   refine sr_ev (v := .pointer (some ⟨g48, 0, none⟩)) (ev_move rfl) (by decide) ?_
   refine sr_ev (v := .bool false) (ev_peqT_some Tryz.underlying33 rfl rfl) (by decide) ?_
   refine sr_ev (v := .bool false) (ev_move rfl) (by decide) ?_
   refine sr_evg (b := false) (e := 28) rfl rfl rfl (v := .pointer (some ⟨g58, 0, none⟩)) (ev_move rfl) (by decide) ?_
   refine sr_evg (b := false) (e := 28) rfl rfl rfl (v := .bool false) (ev_peqT_some Tryz.underlying33 rfl rfl) (by decide) ?_
   refine sr_ev (v := .bool false) (ev_pick_f rfl rfl rfl) (by decide) ?_
   refine sr_end (l' := [(0, v1), (3, .pointer (some ⟨g9, 0, none⟩)), (5, .pointer (some ⟨g48, 0, none⟩)), (6, .pointer (some ⟨g58, 0, none⟩)), (31, .bool false)]) (.cons rfl (.cons rfl (.cons rfl (.cons rfl (.cons rfl (.nil _)))))) ?_
   refine ke_cond (t := false) rfl (fun h => by cases h) (fun _ => ?_)
   refine ke_skip ?_
   refine ke_seq ?_
   refine ke_seq ?_
   refine ke_region ?_
   refine sr_ev (v := .int .i64 0) (ev_assign rfl) (by decide) ?_
   refine sr_end (l' := [(0, v1), (3, .pointer (some ⟨g9, 0, none⟩)), (5, .pointer (some ⟨g48, 0, none⟩)), (6, .pointer (some ⟨g58, 0, none⟩)), (7, .int .i64 0)]) (.cons rfl (.cons rfl (.cons rfl (.cons rfl (.cons rfl (.nil _)))))) ?_
   refine ke_block ?_
   have hK := law36_ClientApart_L1_ok hg hbd hz _ hS hb h2 h4 h6 h8 hB13 ⟨_, hB51, h50⟩ ⟨_, hB61, h60⟩
   exact ke_weaken (l' := [(0, v1), (3, .pointer (some ⟨g9, 0, none⟩)), (5, .pointer (some ⟨g48, 0, none⟩)), (6, .pointer (some ⟨g58, 0, none⟩)), (7, .int .i64 0)]) (.cons rfl (.cons rfl (.cons rfl (.cons rfl (.cons rfl (.nil _)))))) (ke_loop hK)
 ·intro K20
  clear hS
  have hj22 : Tr ρ10 w16 (fun _ => false) ρ10 w16 := (Tr.refl hb.bd).weak (fun _ _ => rfl) rfl rfl
  rcases Bool.eq_false_or_eq_true (!y14) with hg19 | hg19
  ·have hS := ite_true' hz23 hg19
   refine sr_pass (e := 17) rfl rfl (by rw [hg19]; rfl) (by decide) ?_
   refine sr_pass (e := 17) rfl rfl (by rw [hg19]; rfl) (by decide) ?_
   refine sr_pass (e := 17) rfl rfl (by rw [hg19]; rfl) (by decide) ?_
   refine sr_pass (e := 17) rfl rfl (by rw [hg19]; rfl) (by decide) ?_
   refine sr_ev (v := .bool true) (ev_pick_t rfl hg19 rfl) (by decide) ?_
   exact sr_weaken (l' := [(0, v1), (3, .pointer (some ⟨g9, 0, none⟩)), (22, .bool true)]) (.cons rfl (.cons rfl (.cons rfl (.nil _)))) (K20 true _ ⟨(Option.some.inj hS).symm, _, hj22⟩)
  ·have hS := ite_false' hz23 hg19
   refine sr_evg (b := false) (e := 17) rfl rfl hg19 (v := .agg #[.int .i64 x_1.Kind, str x_1.Client.ID, .int .i64 x_1.Client.Kind, str x_1.Client.Tenant, str x_1.Client.Secret.Salt, .int .i64 x_1.Client.Secret.Rounds, str x_1.Client.Secret.Hash, v3, v5, str x_1.Client.Logout, str x_1.ID, str x_1.S, v7]) (ev_loads (cs := [.int .i64 x_1.Kind, str x_1.Client.ID, .int .i64 x_1.Client.Kind, str x_1.Client.Tenant, str x_1.Client.Secret.Salt, .int .i64 x_1.Client.Secret.Rounds, str x_1.Client.Secret.Hash, v3, v5, str x_1.Client.Logout, str x_1.ID, str x_1.S, v7]) Tryz.isAgg44 Tryz.sizeOf44 rfl (hB13.cells (vs := [.int .i64 x_1.Kind, str x_1.Client.ID, .int .i64 x_1.Client.Kind, str x_1.Client.Tenant, str x_1.Client.Secret.Salt, .int .i64 x_1.Client.Secret.Rounds, str x_1.Client.Secret.Hash, v3, v5, str x_1.Client.Logout, str x_1.ID, str x_1.S, v7]) rfl)) (by decide) ?_
   refine sr_unguard rfl rfl hg19 ?_
   refine sr_litT (c := law36_Op.c) (ρ := ρ10) (E := 44) (xs := [x_1]) (vs := #[(0, .agg #[.int .i64 x_1.Kind, str x_1.Client.ID, .int .i64 x_1.Client.Kind, str x_1.Client.Tenant, str x_1.Client.Secret.Salt, .int .i64 x_1.Client.Secret.Rounds, str x_1.Client.Secret.Hash, v3, v5, str x_1.Client.Logout, str x_1.ID, str x_1.S, v7])]) (cs := #[.int .i64 x_1.Kind, str x_1.Client.ID, .int .i64 x_1.Client.Kind, str x_1.Client.Tenant, str x_1.Client.Secret.Salt, .int .i64 x_1.Client.Secret.Rounds, str x_1.Client.Secret.Hash, v3, v5, str x_1.Client.Logout, str x_1.ID, str x_1.S, v7]) (css := [[.int .i64 x_1.Kind, str x_1.Client.ID, .int .i64 x_1.Client.Kind, str x_1.Client.Tenant, str x_1.Client.Secret.Salt, .int .i64 x_1.Client.Secret.Rounds, str x_1.Client.Secret.Hash, v3, v5, str x_1.Client.Logout, str x_1.ID, str x_1.S, v7]]) rfl (fun _ => by kernel_rfl) rfl ⟨⟨_, _, _, rfl, h4, h6, h8⟩, trivial⟩ rfl (by decide) hb.bd (by decide) ?_
   intro v27 w29 h28 hbw31
   have htr30 := Tr.of_below hbw31 hb.bd
   replace h2 := h2.mv htr30.rd
   replace hB13 := hB13.mv (htr30.mv (i := 5) rfl)
   replace h4 := h4.mv htr30.rd
   replace h6 := h6.mv htr30.rd
   replace h8 := h8.mv htr30.rd
   replace hb := hb.trans htr30
   replace hj22 := (hj22.trans htr30).weak (J' := (fun _ => false)) (by intro t h; simp [rng] at h ⊢ <;> omega) rfl rfl
   obtain ⟨y32, hy33, hS⟩ := bind_some' hS
   refine sr_callg (b := false) (e := 17) rfl rfl hg19 (vs := [v27]) rfl Tryz.call21 rfl (law36_few_ok _ (hg.fr hz hb) (ρA := ρ10) hb.bd (hz.fr hg hb) h28 hy33) (by decide) ?_
   rintro _ w34 ⟨rfl, hbw35⟩
   have htr36 := Tr.of_below hbw35 hb.bd
   replace h2 := h2.mv htr36.rd
   replace hB13 := hB13.mv (htr36.mv (i := 5) rfl)
   replace h4 := h4.mv htr36.rd
   replace h6 := h6.mv htr36.rd
   replace h8 := h8.mv htr36.rd
   replace hb := hb.trans htr36
   replace hj22 := (hj22.trans htr36).weak (J' := (fun _ => false)) (by intro t h; simp [rng] at h ⊢ <;> omega) rfl rfl
   refine sr_evg (b := false) (e := 17) rfl rfl hg19 (v := .bool (!y32)) (ev_not rfl) (by decide) ?_
   refine sr_ev (v := .bool (!y32)) (ev_pick_f rfl hg19 rfl) (by decide) ?_
   exact sr_weaken (l' := [(0, v1), (3, .pointer (some ⟨g9, 0, none⟩)), (22, .bool (!y32))]) (.cons rfl (.cons rfl (.cons rfl (.nil _)))) (K20 (!y32) _ ⟨(Option.some.inj hS).symm, _, hj22⟩)
end YtmdbnoopcdpomaaGreatDoor
end Go.Proofs
