/- Own work: a part of the proofs of this seat. -/
import Derived.Test.YtmdbnoopcdpomaaGreatDoorProg
import Derived.Test.YtmdbnoopcdpomaaGreatDoorShelf
import Derived.Test.YtmdbnoopcdpomaaGreatDoorIter
import Derived.Test.YtmdbnoopcdpomaaGreatDoorKwFS
import Derived.KernelRfl
import Derived.Test.YtmdbnoopcdpomaaGreatDoorKwFClientPlaysW2
set_option linter.unusedVariables false
set_option linter.unusedSimpArgs false
set_option linter.unusedSectionVars false
set_option maxHeartbeats 8000000
set_option maxRecDepth 8000
namespace Go.Proofs
namespace YtmdbnoopcdpomaaGreatDoor
open Go Go.KW Go.KW.S Go.RowKit
theorem ref29_Check_ok {A0 : Nat → Prop} (w0 : World) (hg : Gs w0) {l_0 : List Str} {v1 : Value} {r : Int} (h2 : SlR strC A0 w0 v1 l_0) (hS : ref29_Check l_0 = some r) :
  Calls Tryz.prog 49 #[v1] w0 (Ret (fun v w' => v = .int .i64 r ∧ Below w0.heap.size w0 w')) := by
 unfold ref29_Check at hS
 have hb := Below.refl w0.heap.size w0
 replace h2 := h2.weak (A' := fun _ => False) (fun _ h => h.elim)
 obtain ⟨A0, hA0, hAe⟩ : ∃ A0 : Nat → Prop, (∀ b, A0 b → b < w0.heap.size) ∧ A0 = fun _ => False := ⟨_, fun _ h => h.elim, rfl⟩
 rw [← hAe] at h2
 clear hAe
 have hA := hA0
 have hi : ∀ b, A0 b → A0 b := fun _ h => h
 have hH := Hp.nil A0 w0.heap.size w0
 refine calls_of_ke Tryz.func49 rfl (n := 34) rfl rfl (l := [(0, v1)]) rfl ?_
 refine ke_seq ?_
 refine ke_region ?_
 refine sr_ev (v := .int .i64 0) (ev_assign rfl) (by decide) ?_
 refine sr_end (l' := [(0, v1)]) (.cons rfl (.nil _)) ?_
 refine ke_seq ?_
 refine ke_seq ?_
 refine ke_region ?_
 refine sr_ev (v := v1) (ev_move rfl) (by decide) ?_
 refine sr_ev (v := .int .i64 (l_0.length : Int)) (ev_sllen Tryz.underlying25 rfl h2) (by decide) ?_
 refine sr_ev (v := .bool (decide ((l_0.length : Int) > 16))) (ev_gt rfl rfl) (by decide) ?_
 refine sr_end (l' := [(0, v1), (7, .bool (decide ((l_0.length : Int) > 16)))]) (.cons rfl (.cons rfl (.nil _))) ?_
 refine ke_cond (t := decide ((l_0.length : Int) > 16)) rfl (fun hc3 => ?_) (fun hc3 => ?_)
 ·replace hS := ite_true' hS hc3
  refine ke_seq ?_
  refine ke_region ?_
  refine sr_ev (v := .int .i64 3) (ev_assign rfl) (by decide) ?_
  refine sr_end (l' := [(2, .int .i64 3)]) (.cons rfl (.nil _)) ?_
  cases hS
  exact ke_ret1 Tryz.func49 rfl rfl ⟨_, rfl, rfl, hb⟩
 ·replace hS := ite_false' hS hc3
  refine ke_skip ?_
  refine ke_seq ?_
  refine ke_seq ?_
  refine ke_region ?_
  refine sr_ev (v := .int .i64 0) (ev_assign rfl) (by decide) ?_
  refine sr_end (l' := [(0, v1), (3, .int .i64 0)]) (.cons rfl (.cons rfl (.nil _))) ?_
  refine ke_block ?_
  have hK := ref29_Check_L1_ok hg hA0 _ hS hb hA hi hH h2
  exact ke_weaken (l' := [(0, v1), (3, .int .i64 0)]) (.cons rfl (.cons rfl (.nil _))) (ke_loop hK)
theorem ref36_Check_L1_ok {w0 : World} (hg : Gs w0) {ρA : Tags} (hbd : ∀ b, ρA b ≠ 0 → b < w0.heap.size) (hz : Gz (flat1 ρA)) : ∀ (n : Nat), ∀ {r : Int} {c_1_0 : Str} {c_1_1 : Int} {c_1_2 : Str} {c_1_3 : Str} {c_1_4 : Int} {c_1_5 : Str} {c_1_6 : List Str} {c_1_7 : List Str} {c_1_8 : Str} {i_3 : Int} {gc_1 : Nat} {vc_1_6 : Value} {vc_1_7 : Value}, ref36_Check_L1 n c_1_0 c_1_1 c_1_2 c_1_3 c_1_4 c_1_5 c_1_6 c_1_7 c_1_8 i_3 = some r → ∀ {ρ : Tags} {w : World}, (Fr (flat1 ρA) w0 ρ w) → (SlR strC (Wb ρ) w vc_1_6 c_1_6) → (SlR strC (Wb ρ) w vc_1_7 c_1_7) → (Blk ρ 3 w gc_1 (.cells #[str c_1_0, .int .i64 c_1_1, str c_1_2, str c_1_3, .int .i64 c_1_4, str c_1_5, vc_1_6, vc_1_7, str c_1_8] 27 (0, 0))) → KE Tryz.prog 13 (Ret (fun v w' => v = .int .i64 r ∧ Below w0.heap.size w0 w')) 90 [.code (sub (bodyOf Tryz.f13) [2, 2, 2, 2, 2, 2, 1, 2, 2, 1]), .inLoop (sub (bodyOf Tryz.f13) [2, 2, 2, 2, 2, 2, 1, 2, 2, 1]), .inBlock 0, .code (sub (bodyOf Tryz.f13) [2, 2, 2, 2, 2, 2, 2])] [(1, .pointer (some ⟨gc_1, 0, none⟩)), (3, .int .i64 i_3)] w := by
 intro n
 induction n with
 | zero => intro r c_1_0 c_1_1 c_1_2 c_1_3 c_1_4 c_1_5 c_1_6 c_1_7 c_1_8 i_3 gc_1 vc_1_6 vc_1_7 hS; cases hS
 | succ n ih =>
  have hr0 : ∀ {r : Int} {c_1_0 : Str} {c_1_1 : Int} {c_1_2 : Str} {c_1_3 : Str} {c_1_4 : Int} {c_1_5 : Str} {c_1_6 : List Str} {c_1_7 : List Str} {c_1_8 : Str} {i_3 : Int} {gc_1 : Nat} {vc_1_6 : Value} {vc_1_7 : Value}, ref36_Check_L1 n c_1_0 c_1_1 c_1_2 c_1_3 c_1_4 c_1_5 c_1_6 c_1_7 c_1_8 i_3 = some r → ∀ {ρ : Tags} {w : World}, (Fr (flat1 ρA) w0 ρ w) → (SlR strC (Wb ρ) w vc_1_6 c_1_6) → (SlR strC (Wb ρ) w vc_1_7 c_1_7) → (Blk ρ 3 w gc_1 (.cells #[str c_1_0, .int .i64 c_1_1, str c_1_2, str c_1_3, .int .i64 c_1_4, str c_1_5, vc_1_6, vc_1_7, str c_1_8] 27 (0, 0))) → KE Tryz.prog 13 (Ret (fun v w' => v = .int .i64 r ∧ Below w0.heap.size w0 w')) 90 [.inLoop (sub (bodyOf Tryz.f13) [2, 2, 2, 2, 2, 2, 1, 2, 2, 1]), .inBlock 0, .code (sub (bodyOf Tryz.f13) [2, 2, 2, 2, 2, 2, 2])] [(1, .pointer (some ⟨gc_1, 0, none⟩)), (3, .int .i64 i_3)] w := fun {r} {c_1_0} {c_1_1} {c_1_2} {c_1_3} {c_1_4} {c_1_5} {c_1_6} {c_1_7} {c_1_8} {i_3} {gc_1} {vc_1_6} {vc_1_7} hS {ρ} {w} hb hc_1_6 hc_1_7 hBc_1 => ke_inLoop (ih hS hb hc_1_6 hc_1_7 hBc_1)
  clear ih
  intro r c_1_0 c_1_1 c_1_2 c_1_3 c_1_4 c_1_5 c_1_6 c_1_7 c_1_8 i_3 gc_1 vc_1_6 vc_1_7 hS ρ w hb hc_1_6 hc_1_7 hBc_1
  unfold ref36_Check_L1 at hS
  refine ke_seq ?_
  refine ke_seq ?_
  refine ke_region ?_
  refine sr_ev (v := .int .i64 i_3) (ev_move rfl) (by decide) ?_
  refine sr_ev (v := .pointer (some ⟨gc_1, 6, none⟩)) (ev_fieldAddr (i := 4) Tryz.underlying27 rfl Tryz.info25 rfl rfl) (by decide) ?_
  refine sr_ev (v := vc_1_6) (ev_load Tryz.isAgg25 rfl (hBc_1.cell rfl)) (by decide) ?_
  refine sr_ev (v := .int .i64 (c_1_6.length : Int)) (ev_sllen Tryz.underlying25 rfl hc_1_6.asSl) (by decide) ?_
  refine sr_ev (v := .bool (decide (i_3 < (c_1_6.length : Int)))) (ev_lt rfl rfl) (by decide) ?_
  refine sr_end (l' := [(1, .pointer (some ⟨gc_1, 0, none⟩)), (3, .int .i64 i_3), (55, .bool (decide (i_3 < (c_1_6.length : Int))))]) (.cons rfl (.cons rfl (.cons rfl (.nil _)))) ?_
  refine ke_cond (t := decide (i_3 < (c_1_6.length : Int))) rfl (fun hc70 => ?_) (fun hc70 => ?_)
  ·replace hS := ite_true' hS hc70
   refine ke_skip ?_
   refine ke_seq ?_
   refine ke_block ?_
   refine ke_seq ?_
   refine ke_seq ?_
   refine ke_region ?_
   refine sr_ev (v := .pointer (some ⟨gc_1, 6, none⟩)) (ev_fieldAddr (i := 4) Tryz.underlying27 rfl Tryz.info25 rfl rfl) (by decide) ?_
   refine sr_ev (v := vc_1_6) (ev_load Tryz.isAgg25 rfl (hBc_1.cell rfl)) (by decide) ?_
   refine sr_ev (v := .int .i64 i_3) (ev_move rfl) (by decide) ?_
   obtain ⟨y71, hy72, hS⟩ := bind_some' hS
   obtain ⟨b73, o74, cs76, hq77, he75⟩ := ((SlT.of_sl (i := 0) hc_1_6)).elem (P := Tryz.prog) Tryz.underlying25 Tryz.info9 rfl hy72
   obtain rfl : cs76 = [str y71] := he75.rd
   refine sr_ev (v := .pointer (some ⟨b73, o74, none⟩)) (hq77 w rfl rfl) (by decide) ?_
   refine sr_ev (v := str y71) (ev_load Tryz.isAgg9 rfl (he75.cell 0 _ rfl)) (by decide) ?_
   obtain ⟨y78, hy79, hS⟩ := bind_some' hS
   refine sr_call (vs := [str y71]) rfl Tryz.call47 rfl (ref36_address_ok _ (hg.fr hz hb) hy79) (by decide) ?_
   rintro _ w80 ⟨rfl, hbw81⟩
   have htr82 := Tr.of_below hbw81 hb.bd
   replace hBc_1 := hBc_1.mv (htr82.mv (i := 3) rfl)
   replace hc_1_6 := hc_1_6.mv htr82.rd
   replace hc_1_7 := hc_1_7.mv htr82.rd
   replace hb := hb.trans htr82
   refine sr_ev (v := .bool (!y78)) (ev_not rfl) (by decide) ?_
   refine sr_end (l' := [(1, .pointer (some ⟨gc_1, 0, none⟩)), (3, .int .i64 i_3), (64, .bool (!y78))]) (.cons rfl (.cons rfl (.cons rfl (.nil _)))) ?_
   refine ke_cond (t := !y78) rfl (fun hc83 => ?_) (fun hc83 => ?_)
   ·replace hS := ite_true' hS hc83
    refine ke_seq ?_
    refine ke_region ?_
    refine sr_ev (v := .int .i64 4) (ev_assign rfl) (by decide) ?_
    refine sr_end (l' := [(2, .int .i64 4)]) (.cons rfl (.nil _)) ?_
    cases hS
    exact ke_ret1 Tryz.func13 rfl rfl ⟨_, rfl, rfl, (hb.below (flat1_le _))⟩
   ·replace hS := ite_false' hS hc83
    refine ke_skip ?_
    refine ke_seq ?_
    refine ke_region_q Tryz.mixed (by kernel_rfl) ?_
    refine sq_ev (v := .pointer (some ⟨gc_1, 6, none⟩)) (fun w1 hw1 => ev_fieldAddr (i := 4) Tryz.underlying27 rfl Tryz.info25 rfl rfl) (by decide) ?_
    refine sq_ev (v := vc_1_6) (fun w1 hw1 => ev_load Tryz.isAgg25 rfl ((hBc_1.mv (Mv.of_below (i := 3) (ρ := ρ) hw1)).cell rfl)) (by decide) ?_
    refine sq_ev (v := .int .i64 i_3) (fun w1 hw1 => ev_move rfl) (by decide) ?_
    obtain ⟨hk86, hS⟩ := chk_some hS
    obtain ⟨v87, h88, hq89⟩ := ((SlT.of_sl (i := 0) hc_1_6)).cutT_h (P := Tryz.prog) Tryz.underlying25 Tryz.info9 rfl hk86
    replace h88 := h88.sl
    refine sq_ev (v := v87) (fun w1 hw1 => hq89 w1 rfl rfl) (by decide) ?_
    refine sq_ev (v := .pointer (some ⟨gc_1, 6, none⟩)) (fun w1 hw1 => ev_fieldAddr (i := 4) Tryz.underlying27 rfl Tryz.info25 rfl rfl) (by decide) ?_
    refine sq_ev (v := vc_1_6) (fun w1 hw1 => ev_load Tryz.isAgg25 rfl ((hBc_1.mv (Mv.of_below (i := 3) (ρ := ρ) hw1)).cell rfl)) (by decide) ?_
    refine sq_ev (v := .int .i64 i_3) (fun w1 hw1 => ev_move rfl) (by decide) ?_
    obtain ⟨y90, hy91, hS⟩ := bind_some' hS
    obtain ⟨b92, o93, cs95, hq96, he94⟩ := ((SlT.of_sl (i := 0) hc_1_6)).elem (P := Tryz.prog) Tryz.underlying25 Tryz.info9 rfl hy91
    obtain rfl : cs95 = [str y90] := he94.rd
    refine sq_ev (v := .pointer (some ⟨b92, o93, none⟩)) (fun w1 hw1 => hq96 w1 rfl rfl) (by decide) ?_
    refine sq_ev (v := str y90) (fun w1 hw1 => ev_load Tryz.isAgg9 rfl ((he94.mv (Mv.of_below (i := 0) (ρ := ρ) hw1) (Nat.succ_pos _)).cell 0 _ rfl)) (by decide) ?_
    obtain ⟨y97, hy98, hS⟩ := bind_some' hS
    refine sq_call (v := .bool y97) (vs := [v87, str y90]) rfl Tryz.call48 rfl (fun w1 hw1 => (ref36_contains_ok _ ((hg.fr hz hb).below hw1) (h88.mv (Mv.of_below (i := 0) hw1)).asSl hy98)) (by decide) ?_
    refine sq_end (l' := [(1, .pointer (some ⟨gc_1, 0, none⟩)), (3, .int .i64 i_3), (74, .bool y97)]) (.cons rfl (.cons rfl (.cons rfl (.nil _)))) (fun w85 hw84 => ?_)
    have htr102 := Tr.of_below hw84 hb.bd
    replace hBc_1 := hBc_1.mv (htr102.mv (i := 3) rfl)
    replace hc_1_6 := hc_1_6.mv htr102.rd
    replace hc_1_7 := hc_1_7.mv htr102.rd
    replace hb := hb.trans htr102
    refine ke_cond (t := y97) rfl (fun hc103 => ?_) (fun hc103 => ?_)
    ·replace hS := ite_true' hS hc103
     refine ke_seq ?_
     refine ke_region ?_
     refine sr_ev (v := .int .i64 7) (ev_assign rfl) (by decide) ?_
     refine sr_end (l' := [(2, .int .i64 7)]) (.cons rfl (.nil _)) ?_
     cases hS
     exact ke_ret1 Tryz.func13 rfl rfl ⟨_, rfl, rfl, (hb.below (flat1_le _))⟩
    ·replace hS := ite_false' hS hc103
     refine ke_skip ?_
     refine ke_inBlock ?_
     refine ke_region ?_
     refine sr_ev (v := .int .i64 i_3) (ev_move rfl) (by decide) ?_
     refine sr_ev (v := .int .i64 (IntKind.i64.wrap (i_3 + 1))) (ev_add rfl rfl) (by decide) ?_
     refine sr_ev (v := .int .i64 (IntKind.i64.wrap (i_3 + 1))) (ev_assign rfl) (by decide) ?_
     refine sr_end (l' := [(1, .pointer (some ⟨gc_1, 0, none⟩)), (3, .int .i64 (IntKind.i64.wrap (i_3 + 1)))]) (.cons rfl (.cons rfl (.nil _))) ?_
     have hK := hr0 hS hb hc_1_6 hc_1_7 hBc_1
     exact ke_weaken (l' := [(1, .pointer (some ⟨gc_1, 0, none⟩)), (3, .int .i64 (IntKind.i64.wrap (i_3 + 1)))]) (.cons rfl (.cons rfl (.nil _))) hK
  ·replace hS := ite_false' hS hc70
   refine ke_exit (k' := _) rfl ?_
   refine ke_seq ?_
   refine ke_seq ?_
   refine ke_region ?_
   refine sr_ev (v := .pointer (some ⟨gc_1, 7, none⟩)) (ev_fieldAddr (i := 5) Tryz.underlying27 rfl Tryz.info25 rfl rfl) (by decide) ?_
   refine sr_ev (v := vc_1_7) (ev_load Tryz.isAgg25 rfl (hBc_1.cell rfl)) (by decide) ?_
   obtain ⟨y104, hy105, hS⟩ := bind_some' hS
   refine sr_call (vs := [vc_1_7]) rfl Tryz.call49 rfl (ref29_Check_ok _ (hg.fr hz hb) hc_1_7.asSl hy105) (by decide) ?_
   rintro _ w106 ⟨rfl, hbw107⟩
   have htr108 := Tr.of_below hbw107 hb.bd
   replace hBc_1 := hBc_1.mv (htr108.mv (i := 3) rfl)
   replace hc_1_6 := hc_1_6.mv htr108.rd
   replace hc_1_7 := hc_1_7.mv htr108.rd
   replace hb := hb.trans htr108
   refine sr_ev (v := .int .i64 y104) (ev_assign rfl) (by decide) ?_
   refine sr_end (l' := [(1, .pointer (some ⟨gc_1, 0, none⟩)), (4, .int .i64 y104)]) (.cons rfl (.cons rfl (.nil _))) ?_
   refine ke_seq ?_
   refine ke_region ?_
   refine sr_ev (v := .int .i64 y104) (ev_move rfl) (by decide) ?_
   refine sr_ev (v := .bool (y104 != 0)) (ev_ne rfl rfl) (by decide) ?_
   refine sr_end (l' := [(1, .pointer (some ⟨gc_1, 0, none⟩)), (4, .int .i64 y104), (79, .bool (y104 != 0))]) (.cons rfl (.cons rfl (.cons rfl (.nil _)))) ?_
   refine ke_cond (t := y104 != 0) rfl (fun hc109 => ?_) (fun hc109 => ?_)
   ·replace hS := ite_true' hS hc109
    refine ke_seq ?_
    refine ke_region ?_
    refine sr_ev (v := .int .i64 y104) (ev_move rfl) (by decide) ?_
    refine sr_ev (v := .int .i64 y104) (ev_assign rfl) (by decide) ?_
    refine sr_end (l' := [(2, .int .i64 y104)]) (.cons rfl (.nil _)) ?_
    cases hS
    exact ke_ret1 Tryz.func13 rfl rfl ⟨_, rfl, rfl, (hb.below (flat1_le _))⟩
   ·replace hS := ite_false' hS hc109
    refine ke_skip ?_
    refine ke_seq ?_
    refine ke_seq ?_
    refine ke_region ?_
    refine sr_ev (v := .pointer (some ⟨gc_1, 8, none⟩)) (ev_fieldAddr (i := 6) Tryz.underlying27 rfl Tryz.info9 rfl rfl) (by decide) ?_
    refine sr_ev (v := str c_1_8) (ev_load Tryz.isAgg9 rfl (hBc_1.cell rfl)) (by decide) ?_
    refine sr_ev (v := .bool (!(c_1_8 == ([])))) (ev_sne rfl rfl) (by decide) ?_
    refine sr_ev (v := .bool (!(c_1_8 == ([])))) (ev_move rfl) (by decide) ?_
    obtain ⟨z112, hz114, hS⟩ := bind_some' hS
    refine sr_join (m := 5) (C := fun (z : Bool) w1 => z112 = z ∧ ∃ ρ1, Tr ρ w106 (fun _ => false) ρ1 w1) (l' := fun z => [(89, .bool z)]) ?_ ?_
    ·rintro _ w115 ⟨rfl, ρ116, hj113⟩
     replace hb := hb.trans hj113
     refine sr_end (l' := [(89, .bool z112)]) (.cons rfl (.nil _)) ?_
     refine ke_cond (t := z112) rfl (fun hc123 => ?_) (fun hc123 => ?_)
     ·replace hS := ite_true' hS hc123
      refine ke_seq ?_
      refine ke_region ?_
      refine sr_ev (v := .int .i64 4) (ev_assign rfl) (by decide) ?_
      refine sr_end (l' := [(2, .int .i64 4)]) (.cons rfl (.nil _)) ?_
      cases hS
      exact ke_ret1 Tryz.func13 rfl rfl ⟨_, rfl, rfl, (hb.below (flat1_le _))⟩
     ·replace hS := ite_false' hS hc123
      refine ke_skip ?_
      refine ke_seq ?_
      refine ke_region ?_
      refine sr_ev (v := .int .i64 0) (ev_assign rfl) (by decide) ?_
      refine sr_end (l' := [(2, .int .i64 0)]) (.cons rfl (.nil _)) ?_
      cases hS
      exact ke_ret1 Tryz.func13 rfl rfl ⟨_, rfl, rfl, (hb.below (flat1_le _))⟩
    ·intro K111
     clear hS
     have hj113 : Tr ρ w106 (fun _ => false) ρ w106 := (Tr.refl hb.bd).weak (fun _ _ => rfl) rfl rfl
     rcases Bool.eq_false_or_eq_true (!(c_1_8 == ([]))) with hg110 | hg110
     ·have hS := ite_true' hz114 hg110
      refine sr_evg (b := true) (e := 84) rfl rfl hg110 (v := .pointer (some ⟨gc_1, 8, none⟩)) (ev_fieldAddr (i := 6) Tryz.underlying27 rfl Tryz.info9 rfl rfl) (by decide) ?_
      refine sr_evg (b := true) (e := 84) rfl rfl hg110 (v := str c_1_8) (ev_load Tryz.isAgg9 rfl (hBc_1.cell rfl)) (by decide) ?_
      obtain ⟨y118, hy119, hS⟩ := bind_some' hS
      refine sr_callg (b := true) (e := 84) rfl rfl hg110 (vs := [str c_1_8]) rfl Tryz.call47 rfl (ref36_address_ok _ (hg.fr hz hb) hy119) (by decide) ?_
      rintro _ w120 ⟨rfl, hbw121⟩
      have htr122 := Tr.of_below hbw121 hb.bd
      replace hb := hb.trans htr122
      replace hj113 := (hj113.trans htr122).weak (J' := (fun _ => false)) (by intro t h; simp [rng] at h ⊢ <;> omega) rfl rfl
      refine sr_evg (b := true) (e := 84) rfl rfl hg110 (v := .bool (!y118)) (ev_not rfl) (by decide) ?_
      refine sr_ev (v := .bool (!y118)) (ev_pick_t rfl hg110 rfl) (by decide) ?_
      exact sr_weaken (l' := [(89, .bool (!y118))]) (.cons rfl (.nil _)) (K111 (!y118) _ ⟨(Option.some.inj hS).symm, _, hj113⟩)
     ·have hS := ite_false' hz114 hg110
      refine sr_pass (e := 84) rfl rfl (by rw [hg110]; rfl) (by decide) ?_
      refine sr_pass (e := 84) rfl rfl (by rw [hg110]; rfl) (by decide) ?_
      refine sr_pass (e := 84) rfl rfl (by rw [hg110]; rfl) (by decide) ?_
      refine sr_pass (e := 84) rfl rfl (by rw [hg110]; rfl) (by decide) ?_
      refine sr_ev (v := .bool false) (ev_pick_f rfl hg110 rfl) (by decide) ?_
      exact sr_weaken (l' := [(89, .bool false)]) (.cons rfl (.nil _)) (K111 false _ ⟨(Option.some.inj hS).symm, _, hj113⟩)
theorem ref36_Check_ok (w0 : World) (hg : Gs w0) {ρA : Tags} (hbd : ∀ b, ρA b ≠ 0 → b < w0.heap.size) (hz : Gz ρA) {c_0 : api_Client} {v1 : Value} {v3 : Value} {r : Int} (h2 : SlR strC (Wb ρA) w0 v1 c_0.Redirects) (h4 : SlR strC (Wb ρA) w0 v3 c_0.Scopes) (hS : ref36_Check c_0 = some r) :
  Calls Tryz.prog 13 #[.agg #[str c_0.ID, .int .i64 c_0.Kind, str c_0.Tenant, str c_0.Secret.Salt, .int .i64 c_0.Secret.Rounds, str c_0.Secret.Hash, v1, v3, str c_0.Logout]] w0 (Ret (fun v w' => v = .int .i64 r ∧ Below w0.heap.size w0 w')) := by
 unfold ref36_Check at hS
 have hb := flat1_fr (ρ := ρA) (w := w0) hbd
 have hz := hz.flat1
 replace h2 := SlR.mv h2 flat1_rd
 replace h4 := SlR.mv h4 flat1_rd
 refine calls_of_ke Tryz.func13 rfl (n := 90) rfl rfl (l := [(0, .agg #[str c_0.ID, .int .i64 c_0.Kind, str c_0.Tenant, str c_0.Secret.Salt, .int .i64 c_0.Secret.Rounds, str c_0.Secret.Hash, v1, v3, str c_0.Logout])]) rfl ?_
 refine ke_seq ?_
 refine ke_region ?_
 refine sr_boxT 3 (by decide) hb.bd rfl (by decide) ?_
 intro g5 ρ6 w7 hB9 htr8
 replace h2 := h2.mv htr8.rd
 replace h4 := h4.mv htr8.rd
 replace hb := hb.trans htr8
 replace hB9 : Blk ρ6 3 w7 g5 (.cells #[str c_0.ID, .int .i64 c_0.Kind, str c_0.Tenant, str c_0.Secret.Salt, .int .i64 c_0.Secret.Rounds, str c_0.Secret.Hash, v1, v3, str c_0.Logout] 27 (0, 0)) := hB9
 refine sr_ev (v := .int .i64 0) (ev_assign rfl) (by decide) ?_
 refine sr_end (l' := [(1, .pointer (some ⟨g5, 0, none⟩))]) (.cons rfl (.nil _)) ?_
 refine ke_seq ?_
 refine ke_seq ?_
 refine ke_region ?_
 refine sr_ev (v := .pointer (some ⟨g5, 0, none⟩)) (ev_fieldAddr (i := 0) Tryz.underlying27 rfl Tryz.info9 rfl rfl) (by decide) ?_
 refine sr_ev (v := str c_0.ID) (ev_load Tryz.isAgg9 rfl (hB9.cell rfl)) (by decide) ?_
 obtain ⟨y10, hy11, hS⟩ := bind_some' hS
 refine sr_call (vs := [str c_0.ID]) rfl Tryz.call45 rfl (ref01_Word_ok _ (hg.fr hz hb) hy11) (by decide) ?_
 rintro _ w12 ⟨rfl, hbw13⟩
 have htr14 := Tr.of_below hbw13 hb.bd
 replace hB9 := hB9.mv (htr14.mv (i := 3) rfl)
 replace h2 := h2.mv htr14.rd
 replace h4 := h4.mv htr14.rd
 replace hb := hb.trans htr14
 refine sr_ev (v := .bool (!y10)) (ev_not rfl) (by decide) ?_
 refine sr_ev (v := .bool (!y10)) (ev_move rfl) (by decide) ?_
 obtain ⟨z17, hz19, hS⟩ := bind_some' hS
 refine sr_join (m := 5) (C := fun (z : Bool) w1 => z17 = z ∧ ∃ ρ1, Tr ρ6 w12 (fun _ => false) ρ1 w1) (l' := fun z => [(1, .pointer (some ⟨g5, 0, none⟩)), (14, .bool z)]) ?_ ?_
 ·rintro _ w20 ⟨rfl, ρ21, hj18⟩
  replace hB9 := hB9.mv (hj18.mv (i := 3) rfl)
  replace h2 := h2.mv hj18.rd
  replace h4 := h4.mv hj18.rd
  replace hb := hb.trans hj18
  refine sr_end (l' := [(1, .pointer (some ⟨g5, 0, none⟩)), (14, .bool z17)]) (.cons rfl (.cons rfl (.nil _))) ?_
  refine ke_cond (t := z17) rfl (fun hc28 => ?_) (fun hc28 => ?_)
  ·replace hS := ite_true' hS hc28
   refine ke_seq ?_
   refine ke_region ?_
   refine sr_ev (v := .int .i64 5) (ev_assign rfl) (by decide) ?_
   refine sr_end (l' := [(2, .int .i64 5)]) (.cons rfl (.nil _)) ?_
   cases hS
   exact ke_ret1 Tryz.func13 rfl rfl ⟨_, rfl, rfl, (hb.below (flat1_le _))⟩
  ·replace hS := ite_false' hS hc28
   refine ke_skip ?_
   refine ke_seq ?_
   refine ke_seq ?_
   refine ke_region ?_
   refine sr_ev (v := .pointer (some ⟨g5, 1, none⟩)) (ev_fieldAddr (i := 1) Tryz.underlying27 rfl Tryz.info22 rfl rfl) (by decide) ?_
   refine sr_ev (v := .int .i64 c_0.Kind) (ev_load Tryz.isAgg22 rfl (hB9.cell rfl)) (by decide) ?_
   refine sr_ev (v := .bool (c_0.Kind != 1)) (ev_ne rfl rfl) (by decide) ?_
   refine sr_ev (v := .bool (c_0.Kind != 1)) (ev_move rfl) (by decide) ?_
   refine sr_join (m := 4) (C := fun (x : Bool) w1 => x = ((c_0.Kind != 1) && (c_0.Kind != 2)) ∧ w20 = w1) (l' := fun x => [(1, .pointer (some ⟨g5, 0, none⟩)), (22, .bool x)]) ?_ ?_
   ·rintro _ _ ⟨rfl, rfl⟩
    refine sr_end (l' := [(1, .pointer (some ⟨g5, 0, none⟩)), (22, .bool ((c_0.Kind != 1) && (c_0.Kind != 2)))]) (.cons rfl (.cons rfl (.nil _))) ?_
    refine ke_cond (t := (c_0.Kind != 1) && (c_0.Kind != 2)) rfl (fun hc37 => ?_) (fun hc37 => ?_)
    ·replace hS := ite_true' hS hc37
     refine ke_seq ?_
     refine ke_region ?_
     refine sr_ev (v := .int .i64 2) (ev_assign rfl) (by decide) ?_
     refine sr_end (l' := [(2, .int .i64 2)]) (.cons rfl (.nil _)) ?_
     cases hS
     exact ke_ret1 Tryz.func13 rfl rfl ⟨_, rfl, rfl, (hb.below (flat1_le _))⟩
    ·replace hS := ite_false' hS hc37
     refine ke_skip ?_
     refine ke_seq ?_
     refine ke_seq ?_
     refine ke_region ?_
     refine sr_ev (v := .pointer (some ⟨g5, 1, none⟩)) (ev_fieldAddr (i := 1) Tryz.underlying27 rfl Tryz.info22 rfl rfl) (by decide) ?_
     refine sr_ev (v := .int .i64 c_0.Kind) (ev_load Tryz.isAgg22 rfl (hB9.cell rfl)) (by decide) ?_
     refine sr_ev (v := .bool (c_0.Kind == 2)) (ev_eq rfl rfl) (by decide) ?_
     refine sr_ev (v := .bool (c_0.Kind == 2)) (ev_move rfl) (by decide) ?_
     obtain ⟨z40, hz42, hS⟩ := bind_some' hS
     refine sr_join (m := 5) (C := fun (z : Bool) w1 => z40 = z ∧ ∃ ρ1, Tr ρ21 w20 (fun _ => false) ρ1 w1) (l' := fun z => [(1, .pointer (some ⟨g5, 0, none⟩)), (31, .bool z)]) ?_ ?_
     ·rintro _ w43 ⟨rfl, ρ44, hj41⟩
      replace hB9 := hB9.mv (hj41.mv (i := 3) rfl)
      replace h2 := h2.mv hj41.rd
      replace h4 := h4.mv hj41.rd
      replace hb := hb.trans hj41
      refine sr_ev (v := .bool z40) (ev_move rfl) (by decide) ?_
      refine sr_join (m := 10) (C := fun (x : Bool) w1 => x = (z40 || ((c_0.Kind == 1) && (!(api_Verifier.eqb c_0.Secret (api_Verifier.mk ([]) 0 ([])))))) ∧ w43 = w1) (l' := fun x => [(1, .pointer (some ⟨g5, 0, none⟩)), (42, .bool x)]) ?_ ?_
      ·rintro _ _ ⟨rfl, rfl⟩
       refine sr_end (l' := [(1, .pointer (some ⟨g5, 0, none⟩)), (42, .bool (z40 || ((c_0.Kind == 1) && (!(api_Verifier.eqb c_0.Secret (api_Verifier.mk ([]) 0 ([])))))))]) (.cons rfl (.cons rfl (.nil _))) ?_
       refine ke_cond (t := z40 || ((c_0.Kind == 1) && (!(api_Verifier.eqb c_0.Secret (api_Verifier.mk ([]) 0 ([])))))) rfl (fun hc67 => ?_) (fun hc67 => ?_)
       ·replace hS := ite_true' hS hc67
        refine ke_seq ?_
        refine ke_region ?_
        refine sr_ev (v := .int .i64 4) (ev_assign rfl) (by decide) ?_
        refine sr_end (l' := [(2, .int .i64 4)]) (.cons rfl (.nil _)) ?_
        cases hS
        exact ke_ret1 Tryz.func13 rfl rfl ⟨_, rfl, rfl, (hb.below (flat1_le _))⟩
       ·replace hS := ite_false' hS hc67
        refine ke_skip ?_
        refine ke_seq ?_
        refine ke_seq ?_
        refine ke_region ?_
        refine sr_ev (v := .pointer (some ⟨g5, 6, none⟩)) (ev_fieldAddr (i := 4) Tryz.underlying27 rfl Tryz.info25 rfl rfl) (by decide) ?_
        refine sr_ev (v := v1) (ev_load Tryz.isAgg25 rfl (hB9.cell rfl)) (by decide) ?_
        refine sr_ev (v := .int .i64 (c_0.Redirects.length : Int)) (ev_sllen Tryz.underlying25 rfl h2.asSl) (by decide) ?_
        refine sr_ev (v := .bool ((c_0.Redirects.length : Int) == 0)) (ev_eq rfl rfl) (by decide) ?_
        refine sr_end (l' := [(1, .pointer (some ⟨g5, 0, none⟩)), (46, .bool ((c_0.Redirects.length : Int) == 0))]) (.cons rfl (.cons rfl (.nil _))) ?_
        refine ke_cond (t := (c_0.Redirects.length : Int) == 0) rfl (fun hc68 => ?_) (fun hc68 => ?_)
        ·replace hS := ite_true' hS hc68
         refine ke_seq ?_
         refine ke_region ?_
         refine sr_ev (v := .int .i64 6) (ev_assign rfl) (by decide) ?_
         refine sr_end (l' := [(2, .int .i64 6)]) (.cons rfl (.nil _)) ?_
         cases hS
         exact ke_ret1 Tryz.func13 rfl rfl ⟨_, rfl, rfl, (hb.below (flat1_le _))⟩
        ·replace hS := ite_false' hS hc68
         refine ke_skip ?_
         refine ke_seq ?_
         refine ke_seq ?_
         refine ke_region ?_
         refine sr_ev (v := .pointer (some ⟨g5, 6, none⟩)) (ev_fieldAddr (i := 4) Tryz.underlying27 rfl Tryz.info25 rfl rfl) (by decide) ?_
         refine sr_ev (v := v1) (ev_load Tryz.isAgg25 rfl (hB9.cell rfl)) (by decide) ?_
         refine sr_ev (v := .int .i64 (c_0.Redirects.length : Int)) (ev_sllen Tryz.underlying25 rfl h2.asSl) (by decide) ?_
         refine sr_ev (v := .bool (decide ((c_0.Redirects.length : Int) > 8))) (ev_gt rfl rfl) (by decide) ?_
         refine sr_end (l' := [(1, .pointer (some ⟨g5, 0, none⟩)), (50, .bool (decide ((c_0.Redirects.length : Int) > 8)))]) (.cons rfl (.cons rfl (.nil _))) ?_
         refine ke_cond (t := decide ((c_0.Redirects.length : Int) > 8)) rfl (fun hc69 => ?_) (fun hc69 => ?_)
         ·replace hS := ite_true' hS hc69
          refine ke_seq ?_
          refine ke_region ?_
          refine sr_ev (v := .int .i64 3) (ev_assign rfl) (by decide) ?_
          refine sr_end (l' := [(2, .int .i64 3)]) (.cons rfl (.nil _)) ?_
          cases hS
          exact ke_ret1 Tryz.func13 rfl rfl ⟨_, rfl, rfl, (hb.below (flat1_le _))⟩
         ·replace hS := ite_false' hS hc69
          refine ke_skip ?_
          refine ke_seq ?_
          refine ke_seq ?_
          refine ke_region ?_
          refine sr_ev (v := .int .i64 0) (ev_assign rfl) (by decide) ?_
          refine sr_end (l' := [(1, .pointer (some ⟨g5, 0, none⟩)), (3, .int .i64 0)]) (.cons rfl (.cons rfl (.nil _))) ?_
          refine ke_block ?_
          have hK := ref36_Check_L1_ok hg hbd hz _ hS hb h2 h4 hB9
          exact ke_weaken (l' := [(1, .pointer (some ⟨g5, 0, none⟩)), (3, .int .i64 0)]) (.cons rfl (.cons rfl (.nil _))) (ke_loop hK)
      ·intro K52
       rcases Bool.eq_false_or_eq_true z40 with hg51 | hg51
       all_goals try have hj54 : Tr ρ44 w43 (fun _ => false) ρ44 w43 := Tr.refl hb.bd
       ·refine sr_pass (e := 32) rfl rfl (by rw [hg51]; rfl) (by decide) ?_
        refine sr_pass (e := 32) rfl rfl (by rw [hg51]; rfl) (by decide) ?_
        refine sr_pass (e := 32) rfl rfl (by rw [hg51]; rfl) (by decide) ?_
        refine sr_pass (e := 32) rfl rfl (by rw [hg51]; rfl) (by decide) ?_
        refine sr_pass_undef (e := 36) rfl rfl (by decide) ?_
        refine sr_pass_undef (e := 36) rfl rfl (by decide) ?_
        refine sr_pass_undef (e := 36) rfl rfl (by decide) ?_
        refine sr_pass_undef (e := 36) rfl rfl (by decide) ?_
        refine sr_pass (e := 32) rfl rfl (by rw [hg51]; rfl) (by decide) ?_
        refine sr_ev (v := .bool true) (ev_pick_t rfl hg51 rfl) (by decide) ?_
        exact sr_weaken (l' := [(1, .pointer (some ⟨g5, 0, none⟩)), (42, .bool true)]) (.cons rfl (.cons rfl (.nil _))) (K52 true _ ⟨by rw [hg51]; rfl, rfl⟩)
       ·refine sr_evg (b := false) (e := 32) rfl rfl hg51 (v := .pointer (some ⟨g5, 1, none⟩)) (ev_fieldAddr (i := 1) Tryz.underlying27 rfl Tryz.info22 rfl rfl) (by decide) ?_
        refine sr_evg (b := false) (e := 32) rfl rfl hg51 (v := .int .i64 c_0.Kind) (ev_load Tryz.isAgg22 rfl (hB9.cell rfl)) (by decide) ?_
        refine sr_evg (b := false) (e := 32) rfl rfl hg51 (v := .bool (c_0.Kind == 1)) (ev_eq rfl rfl) (by decide) ?_
        refine sr_evg (b := false) (e := 32) rfl rfl hg51 (v := .bool (c_0.Kind == 1)) (ev_move rfl) (by decide) ?_
        refine sr_join (m := 5) (C := fun (x : Bool) w1 => x = ((c_0.Kind == 1) && (!(api_Verifier.eqb c_0.Secret (api_Verifier.mk ([]) 0 ([]))))) ∧ w43 = w1) (l' := fun x => [(1, .pointer (some ⟨g5, 0, none⟩)), (32, .bool z40), (41, .bool x)]) ?_ ?_
        ·rintro _ _ ⟨rfl, rfl⟩
         refine sr_ev (v := .bool ((c_0.Kind == 1) && (!(api_Verifier.eqb c_0.Secret (api_Verifier.mk ([]) 0 ([])))))) (ev_pick_f rfl hg51 rfl) (by decide) ?_
         exact sr_weaken (l' := [(1, .pointer (some ⟨g5, 0, none⟩)), (42, .bool ((c_0.Kind == 1) && (!(api_Verifier.eqb c_0.Secret (api_Verifier.mk ([]) 0 ([]))))))]) (.cons rfl (.cons rfl (.nil _))) (K52 ((c_0.Kind == 1) && (!(api_Verifier.eqb c_0.Secret (api_Verifier.mk ([]) 0 ([]))))) _ ⟨by rw [hg51]; rfl, rfl⟩)
        ·intro K60
         rcases Bool.eq_false_or_eq_true (c_0.Kind == 1) with hg59 | hg59
         all_goals try have hj62 : Tr ρ44 w43 (fun _ => false) ρ44 w43 := Tr.refl hb.bd
         ·refine sr_evg (b := true) (e := 36) rfl rfl hg59 (v := .pointer (some ⟨g5, 3, none⟩)) (ev_fieldAddr (i := 3) Tryz.underlying27 rfl Tryz.info24 rfl rfl) (by decide) ?_
          refine sr_evg (b := true) (e := 36) rfl rfl hg59 (v := .agg #[str c_0.Secret.Salt, .int .i64 c_0.Secret.Rounds, str c_0.Secret.Hash]) (ev_loads (cs := [str c_0.Secret.Salt, .int .i64 c_0.Secret.Rounds, str c_0.Secret.Hash]) Tryz.isAgg24 Tryz.sizeOf24 rfl (hB9.cells (vs := [str c_0.Secret.Salt, .int .i64 c_0.Secret.Rounds, str c_0.Secret.Hash]) rfl)) (by decide) ?_
          refine sr_evg (b := true) (e := 36) rfl rfl hg59 (v := .agg #[str ([]), .int .i64 0, str ([])]) (ev_build (vs := #[]) rfl (fun _ => by kernel_rfl)) (by decide) ?_
          refine sr_evg (b := true) (e := 36) rfl rfl hg59 (v := .bool (!(api_Verifier.eqb c_0.Secret (api_Verifier.mk ([]) 0 ([]))))) (ev_ane (Tryz.eq24 c_0.Secret (api_Verifier.mk ([]) 0 ([]))) rfl rfl) (by decide) ?_
          refine sr_evg (b := false) (e := 32) rfl rfl hg51 (v := .bool (!(api_Verifier.eqb c_0.Secret (api_Verifier.mk ([]) 0 ([]))))) (ev_pick_t rfl hg59 rfl) (by decide) ?_
          exact sr_weaken (l' := [(1, .pointer (some ⟨g5, 0, none⟩)), (32, .bool z40), (41, .bool (!(api_Verifier.eqb c_0.Secret (api_Verifier.mk ([]) 0 ([])))))]) (.cons rfl (.cons rfl (.cons rfl (.nil _)))) (K60 (!(api_Verifier.eqb c_0.Secret (api_Verifier.mk ([]) 0 ([])))) _ ⟨by rw [hg59]; rfl, rfl⟩)
         ·refine sr_pass (e := 36) rfl rfl (by rw [hg59]; rfl) (by decide) ?_
          refine sr_pass (e := 36) rfl rfl (by rw [hg59]; rfl) (by decide) ?_
          refine sr_pass (e := 36) rfl rfl (by rw [hg59]; rfl) (by decide) ?_
          refine sr_pass (e := 36) rfl rfl (by rw [hg59]; rfl) (by decide) ?_
          refine sr_evg (b := false) (e := 32) rfl rfl hg51 (v := .bool false) (ev_pick_f rfl hg59 rfl) (by decide) ?_
          exact sr_weaken (l' := [(1, .pointer (some ⟨g5, 0, none⟩)), (32, .bool z40), (41, .bool false)]) (.cons rfl (.cons rfl (.cons rfl (.nil _)))) (K60 false _ ⟨by rw [hg59]; rfl, rfl⟩)
     ·intro K39
      clear hS
      have hj41 : Tr ρ21 w20 (fun _ => false) ρ21 w20 := (Tr.refl hb.bd).weak (fun _ _ => rfl) rfl rfl
      rcases Bool.eq_false_or_eq_true (c_0.Kind == 2) with hg38 | hg38
      ·have hS := ite_true' hz42 hg38
       refine sr_evg (b := true) (e := 26) rfl rfl hg38 (v := .pointer (some ⟨g5, 3, none⟩)) (ev_fieldAddr (i := 3) Tryz.underlying27 rfl Tryz.info24 rfl rfl) (by decide) ?_
       refine sr_evg (b := true) (e := 26) rfl rfl hg38 (v := .agg #[str c_0.Secret.Salt, .int .i64 c_0.Secret.Rounds, str c_0.Secret.Hash]) (ev_loads (cs := [str c_0.Secret.Salt, .int .i64 c_0.Secret.Rounds, str c_0.Secret.Hash]) Tryz.isAgg24 Tryz.sizeOf24 rfl (hB9.cells (vs := [str c_0.Secret.Salt, .int .i64 c_0.Secret.Rounds, str c_0.Secret.Hash]) rfl)) (by decide) ?_
       obtain ⟨y46, hy47, hS⟩ := bind_some' hS
       refine sr_callg (b := true) (e := 26) rfl rfl hg38 (vs := [.agg #[str c_0.Secret.Salt, .int .i64 c_0.Secret.Rounds, str c_0.Secret.Hash]]) rfl Tryz.call46 rfl (ref22_Valid_ok _ (hg.fr hz hb) hy47) (by decide) ?_
       rintro _ w48 ⟨rfl, hbw49⟩
       have htr50 := Tr.of_below hbw49 hb.bd
       replace hB9 := hB9.mv (htr50.mv (i := 3) rfl)
       replace h2 := h2.mv htr50.rd
       replace h4 := h4.mv htr50.rd
       replace hb := hb.trans htr50
       replace hj41 := (hj41.trans htr50).weak (J' := (fun _ => false)) (by intro t h; simp [rng] at h ⊢ <;> omega) rfl rfl
       refine sr_evg (b := true) (e := 26) rfl rfl hg38 (v := .bool (!y46)) (ev_not rfl) (by decide) ?_
       refine sr_ev (v := .bool (!y46)) (ev_pick_t rfl hg38 rfl) (by decide) ?_
       exact sr_weaken (l' := [(1, .pointer (some ⟨g5, 0, none⟩)), (31, .bool (!y46))]) (.cons rfl (.cons rfl (.nil _))) (K39 (!y46) _ ⟨(Option.some.inj hS).symm, _, hj41⟩)
      ·have hS := ite_false' hz42 hg38
       refine sr_pass (e := 26) rfl rfl (by rw [hg38]; rfl) (by decide) ?_
       refine sr_pass (e := 26) rfl rfl (by rw [hg38]; rfl) (by decide) ?_
       refine sr_pass (e := 26) rfl rfl (by rw [hg38]; rfl) (by decide) ?_
       refine sr_pass (e := 26) rfl rfl (by rw [hg38]; rfl) (by decide) ?_
       refine sr_ev (v := .bool false) (ev_pick_f rfl hg38 rfl) (by decide) ?_
       exact sr_weaken (l' := [(1, .pointer (some ⟨g5, 0, none⟩)), (31, .bool false)]) (.cons rfl (.cons rfl (.nil _))) (K39 false _ ⟨(Option.some.inj hS).symm, _, hj41⟩)
   ·intro K30
    rcases Bool.eq_false_or_eq_true (c_0.Kind != 1) with hg29 | hg29
    all_goals try have hj32 : Tr ρ21 w20 (fun _ => false) ρ21 w20 := Tr.refl hb.bd
    ·refine sr_evg (b := true) (e := 18) rfl rfl hg29 (v := .pointer (some ⟨g5, 1, none⟩)) (ev_fieldAddr (i := 1) Tryz.underlying27 rfl Tryz.info22 rfl rfl) (by decide) ?_
     refine sr_evg (b := true) (e := 18) rfl rfl hg29 (v := .int .i64 c_0.Kind) (ev_load Tryz.isAgg22 rfl (hB9.cell rfl)) (by decide) ?_
     refine sr_evg (b := true) (e := 18) rfl rfl hg29 (v := .bool (c_0.Kind != 2)) (ev_ne rfl rfl) (by decide) ?_
     refine sr_ev (v := .bool (c_0.Kind != 2)) (ev_pick_t rfl hg29 rfl) (by decide) ?_
     exact sr_weaken (l' := [(1, .pointer (some ⟨g5, 0, none⟩)), (22, .bool (c_0.Kind != 2))]) (.cons rfl (.cons rfl (.nil _))) (K30 (c_0.Kind != 2) _ ⟨by rw [hg29]; rfl, rfl⟩)
    ·refine sr_pass (e := 18) rfl rfl (by rw [hg29]; rfl) (by decide) ?_
     refine sr_pass (e := 18) rfl rfl (by rw [hg29]; rfl) (by decide) ?_
     refine sr_pass (e := 18) rfl rfl (by rw [hg29]; rfl) (by decide) ?_
     refine sr_ev (v := .bool false) (ev_pick_f rfl hg29 rfl) (by decide) ?_
     exact sr_weaken (l' := [(1, .pointer (some ⟨g5, 0, none⟩)), (22, .bool false)]) (.cons rfl (.cons rfl (.nil _))) (K30 false _ ⟨by rw [hg29]; rfl, rfl⟩)
 ·intro K16
  clear hS
  have hj18 : Tr ρ6 w12 (fun _ => false) ρ6 w12 := (Tr.refl hb.bd).weak (fun _ _ => rfl) rfl rfl
  rcases Bool.eq_false_or_eq_true (!y10) with hg15 | hg15
  ·have hS := ite_true' hz19 hg15
   refine sr_pass (e := 9) rfl rfl (by rw [hg15]; rfl) (by decide) ?_
   refine sr_pass (e := 9) rfl rfl (by rw [hg15]; rfl) (by decide) ?_
   refine sr_pass (e := 9) rfl rfl (by rw [hg15]; rfl) (by decide) ?_
   refine sr_pass (e := 9) rfl rfl (by rw [hg15]; rfl) (by decide) ?_
   refine sr_ev (v := .bool true) (ev_pick_t rfl hg15 rfl) (by decide) ?_
   exact sr_weaken (l' := [(1, .pointer (some ⟨g5, 0, none⟩)), (14, .bool true)]) (.cons rfl (.cons rfl (.nil _))) (K16 true _ ⟨(Option.some.inj hS).symm, _, hj18⟩)
  ·have hS := ite_false' hz19 hg15
   refine sr_evg (b := false) (e := 9) rfl rfl hg15 (v := .pointer (some ⟨g5, 2, none⟩)) (ev_fieldAddr (i := 2) Tryz.underlying27 rfl Tryz.info9 rfl rfl) (by decide) ?_
   refine sr_evg (b := false) (e := 9) rfl rfl hg15 (v := str c_0.Tenant) (ev_load Tryz.isAgg9 rfl (hB9.cell rfl)) (by decide) ?_
   obtain ⟨y23, hy24, hS⟩ := bind_some' hS
   refine sr_callg (b := false) (e := 9) rfl rfl hg15 (vs := [str c_0.Tenant]) rfl Tryz.call45 rfl (ref01_Word_ok _ (hg.fr hz hb) hy24) (by decide) ?_
   rintro _ w25 ⟨rfl, hbw26⟩
   have htr27 := Tr.of_below hbw26 hb.bd
   replace hB9 := hB9.mv (htr27.mv (i := 3) rfl)
   replace h2 := h2.mv htr27.rd
   replace h4 := h4.mv htr27.rd
   replace hb := hb.trans htr27
   replace hj18 := (hj18.trans htr27).weak (J' := (fun _ => false)) (by intro t h; simp [rng] at h ⊢ <;> omega) rfl rfl
   refine sr_evg (b := false) (e := 9) rfl rfl hg15 (v := .bool (!y23)) (ev_not rfl) (by decide) ?_
   refine sr_ev (v := .bool (!y23)) (ev_pick_f rfl hg15 rfl) (by decide) ?_
   exact sr_weaken (l' := [(1, .pointer (some ⟨g5, 0, none⟩)), (14, .bool (!y23))]) (.cons rfl (.cons rfl (.nil _))) (K16 (!y23) _ ⟨(Option.some.inj hS).symm, _, hj18⟩)
theorem ref36_at_L1_ok {w0 : World} (hg : Gs w0) {ρA : Tags} (hbd : ∀ b, ρA b ≠ 0 → b < w0.heap.size) (hz : Gz (flat1 ρA)) : ∀ (n : Nat), ∀ {r : Int} {or_0 : ref36_Clients} {id_1 : Str} {i_5 : Int} {gr_0 : Nat}, ref36_at_L1 n or_0 id_1 i_5 = some r → ∀ {ρ : Tags} {w : World}, (Fr (flat1 ρA) w0 ρ w) → (ref36_Clients.O (fun _ => 1) ρ w gr_0 or_0) → KE Tryz.prog 56 (Ret (fun v w' => v = .int .i64 r ∧ Below w0.heap.size w0 w')) 30 [.code (sub (bodyOf Tryz.f56) [2, 1, 2, 2, 1]), .inLoop (sub (bodyOf Tryz.f56) [2, 1, 2, 2, 1]), .inBlock 0, .code (sub (bodyOf Tryz.f56) [2, 2])] [(0, .pointer (some ⟨gr_0, 0, none⟩)), (1, str id_1), (5, .int .i64 i_5)] w := by
 intro n
 induction n with
 | zero => intro r or_0 id_1 i_5 gr_0 hS; cases hS
 | succ n ih =>
  have hr0 : ∀ {r : Int} {or_0 : ref36_Clients} {id_1 : Str} {i_5 : Int} {gr_0 : Nat}, ref36_at_L1 n or_0 id_1 i_5 = some r → ∀ {ρ : Tags} {w : World}, (Fr (flat1 ρA) w0 ρ w) → (ref36_Clients.O (fun _ => 1) ρ w gr_0 or_0) → KE Tryz.prog 56 (Ret (fun v w' => v = .int .i64 r ∧ Below w0.heap.size w0 w')) 30 [.inLoop (sub (bodyOf Tryz.f56) [2, 1, 2, 2, 1]), .inBlock 0, .code (sub (bodyOf Tryz.f56) [2, 2])] [(0, .pointer (some ⟨gr_0, 0, none⟩)), (1, str id_1), (5, .int .i64 i_5)] w := fun {r} {or_0} {id_1} {i_5} {gr_0} hS {ρ} {w} hb hor_0 => ke_inLoop (ih hS hb hor_0)
  clear ih
  intro r or_0 id_1 i_5 gr_0 hS ρ w hb hor_0
  unfold ref36_at_L1 at hS
  obtain ⟨v4, hB6, h5⟩ := hor_0
  replace hB6 : Blk ρ 1 w gr_0 (.cells #[v4, .bool or_0.made] 73 (0, 0)) := hB6
  replace h5 : OwnT api_Client.c 27 ρ 1 w v4 or_0.list := h5
  refine ke_seq ?_
  refine ke_seq ?_
  refine ke_region ?_
  refine sr_ev (v := .pointer (some ⟨gr_0, 0, none⟩)) (ev_move rfl) (by decide) ?_
  refine sr_ev (v := .bool true) (ev_pneT_some Tryz.underlying41 rfl rfl) (by decide) ?_
  refine sr_ev (v := .bool true) (ev_move rfl) (by decide) ?_
  refine sr_evg (b := true) (e := 8) rfl rfl rfl (v := .int .i64 i_5) (ev_move rfl) (by decide) ?_
  refine sr_evg (b := true) (e := 8) rfl rfl rfl (v := .pointer (some ⟨gr_0, 0, none⟩)) (ev_move rfl) (by decide) ?_
  refine sr_evg (b := true) (e := 8) rfl rfl rfl (v := .pointer (some ⟨gr_0, 0, none⟩)) (ev_nilCheck rfl) (by decide) ?_
  refine sr_evg (b := true) (e := 8) rfl rfl rfl (v := .pointer (some ⟨gr_0, 0, none⟩)) (ev_fieldAddr (i := 0) Tryz.underlying73 rfl Tryz.info71 rfl rfl) (by decide) ?_
  refine sr_evg (b := true) (e := 8) rfl rfl rfl (v := v4) (ev_load Tryz.isAgg71 rfl (hB6.cell rfl)) (by decide) ?_
  refine sr_evg (b := true) (e := 8) rfl rfl rfl (v := .int .i64 (or_0.list.length : Int)) (ev_sllen Tryz.underlying71 rfl h5.asSl) (by decide) ?_
  refine sr_evg (b := true) (e := 8) rfl rfl rfl (v := .bool (decide (i_5 < (or_0.list.length : Int)))) (ev_lt rfl rfl) (by decide) ?_
  refine sr_ev (v := .bool (decide (i_5 < (or_0.list.length : Int)))) (ev_pick_t rfl rfl rfl) (by decide) ?_
  refine sr_end (l' := [(0, .pointer (some ⟨gr_0, 0, none⟩)), (1, str id_1), (5, .int .i64 i_5), (16, .bool (decide (i_5 < (or_0.list.length : Int))))]) (.cons rfl (.cons rfl (.cons rfl (.cons rfl (.nil _))))) ?_
  refine ke_cond (t := decide (i_5 < (or_0.list.length : Int))) rfl (fun hc7 => ?_) (fun hc7 => ?_)
  ·replace hS := ite_true' hS hc7
   refine ke_skip ?_
   refine ke_seq ?_
   refine ke_block ?_
   refine ke_seq ?_
   refine ke_region ?_
   refine sr_ev (v := .pointer (some ⟨gr_0, 0, none⟩)) (ev_move rfl) (by decide) ?_
   refine sr_ev (v := .pointer (some ⟨gr_0, 0, none⟩)) (ev_nilCheck rfl) (by decide) ?_
   refine sr_ev (v := .pointer (some ⟨gr_0, 0, none⟩)) (ev_fieldAddr (i := 0) Tryz.underlying73 rfl Tryz.info71 rfl rfl) (by decide) ?_
   refine sr_ev (v := v4) (ev_load Tryz.isAgg71 rfl (hB6.cell rfl)) (by decide) ?_
   refine sr_ev (v := .int .i64 i_5) (ev_move rfl) (by decide) ?_
   obtain ⟨y8, hy9, hS⟩ := bind_some' hS
   obtain ⟨b10, o11, cs13, hq14, he12, hg19, ho20⟩ := h5.elemQ (P := Tryz.prog) Tryz.underlying71 Tryz.info27 rfl hy9
   obtain ⟨v15, v17, hcshe12, h16, h18⟩ := he12.rd
   obtain rfl : cs13 = [str y8.ID, .int .i64 y8.Kind, str y8.Tenant, str y8.Secret.Salt, .int .i64 y8.Secret.Rounds, str y8.Secret.Hash, v15, v17, str y8.Logout] := hcshe12
   refine sr_ev (v := .pointer (some ⟨b10, o11, none⟩)) (hq14 w rfl rfl) (by decide) ?_
   refine sr_ev (v := .pointer (some ⟨b10, o11 + 0, none⟩)) (ev_fieldAddr (i := 0) Tryz.underlying27 rfl Tryz.info9 rfl rfl) (by decide) ?_
   refine sr_ev (v := str y8.ID) (ev_load Tryz.isAgg9 rfl (he12.cell 0 _ rfl)) (by decide) ?_
   refine sr_ev (v := str id_1) (ev_move rfl) (by decide) ?_
   refine sr_ev (v := .bool (y8.ID == id_1)) (ev_seq rfl rfl) (by decide) ?_
   refine sr_end (l' := [(0, .pointer (some ⟨gr_0, 0, none⟩)), (1, str id_1), (5, .int .i64 i_5), (28, .bool (y8.ID == id_1))]) (.cons rfl (.cons rfl (.cons rfl (.cons rfl (.nil _))))) ?_
   refine ke_cond (t := y8.ID == id_1) rfl (fun hc21 => ?_) (fun hc21 => ?_)
   ·replace hS := ite_true' hS hc21
    refine ke_seq ?_
    refine ke_region ?_
    refine sr_ev (v := .int .i64 i_5) (ev_move rfl) (by decide) ?_
    refine sr_ev (v := .int .i64 i_5) (ev_assign rfl) (by decide) ?_
    refine sr_end (l' := [(4, .int .i64 i_5)]) (.cons rfl (.nil _)) ?_
    cases hS
    exact ke_ret1 Tryz.func56 rfl rfl ⟨_, rfl, rfl, (hb.below (flat1_le _))⟩
   ·replace hS := ite_false' hS hc21
    refine ke_skip ?_
    refine ke_inBlock ?_
    refine ke_region ?_
    refine sr_ev (v := .int .i64 i_5) (ev_move rfl) (by decide) ?_
    refine sr_ev (v := .int .i64 (IntKind.i64.wrap (i_5 + 1))) (ev_add rfl rfl) (by decide) ?_
    refine sr_ev (v := .int .i64 (IntKind.i64.wrap (i_5 + 1))) (ev_assign rfl) (by decide) ?_
    refine sr_end (l' := [(0, .pointer (some ⟨gr_0, 0, none⟩)), (1, str id_1), (5, .int .i64 (IntKind.i64.wrap (i_5 + 1)))]) (.cons rfl (.cons rfl (.cons rfl (.nil _)))) ?_
    have hK := hr0 hS hb ⟨_, hB6, h5⟩
    exact ke_weaken (l' := [(0, .pointer (some ⟨gr_0, 0, none⟩)), (1, str id_1), (5, .int .i64 (IntKind.i64.wrap (i_5 + 1)))]) (.cons rfl (.cons rfl (.cons rfl (.nil _)))) hK
  ·replace hS := ite_false' hS hc7
   refine ke_exit (k' := _) rfl ?_
   refine ke_seq ?_
   refine ke_region ?_
   refine sr_ev (v := .int .i64 (-1)) (ev_assign rfl) (by decide) ?_
   refine sr_end (l' := [(4, .int .i64 (-1))]) (.cons rfl (.nil _)) ?_
   cases hS
   exact ke_ret1 Tryz.func56 rfl rfl ⟨_, rfl, rfl, (hb.below (flat1_le _))⟩
theorem ref36_at_ok (w0 : World) (hg : Gs w0) {ρA : Tags} (hbd : ∀ b, ρA b ≠ 0 → b < w0.heap.size) (hz : Gz ρA) {τ0 : Nat → Nat} (hτ0 : ∀ p, 1 ≤ τ0 p) {r_0 : ref36_Clients} {id_1 : Str} {gr_0 : Nat} {r : Int} (ho0 : ref36_Clients.O τ0 ρA w0 gr_0 r_0) (hS : ref36_at r_0 id_1 = some r) :
  Calls Tryz.prog 56 #[.pointer (some ⟨gr_0, 0, none⟩), str id_1] w0 (Ret (fun v w' => v = .int .i64 r ∧ Below w0.heap.size w0 w')) := by
 unfold ref36_at at hS
 have hb := flat1_fr (ρ := ρA) (w := w0) hbd
 have hz := hz.flat1
 obtain ⟨v1, hB3, h2⟩ := ho0
 replace hB3 := hB3.mv (flat1_mv (hτ0 0))
 replace h2 := h2.mv (flat1_mv (hτ0 1)) (by decide)
 replace hB3 : Blk (flat1 ρA) 1 w0 gr_0 (.cells #[v1, .bool r_0.made] 73 (0, 0)) := hB3
 replace h2 : OwnT api_Client.c 27 (flat1 ρA) 1 w0 v1 r_0.list := h2
 refine calls_of_ke Tryz.func56 rfl (n := 30) rfl rfl (l := [(0, .pointer (some ⟨gr_0, 0, none⟩)), (1, str id_1)]) rfl ?_
 refine ke_seq ?_
 refine ke_region ?_
 refine sr_ev (v := .int .i64 0) (ev_assign rfl) (by decide) ?_
 refine sr_end (l' := [(0, .pointer (some ⟨gr_0, 0, none⟩)), (1, str id_1)]) (.cons rfl (.cons rfl (.nil _))) ?_
 refine ke_seq ?_
 refine ke_seq ?_
 refine ke_region ?_
 refine sr_ev (v := .int .i64 0) (ev_assign rfl) (by decide) ?_
 refine sr_end (l' := [(0, .pointer (some ⟨gr_0, 0, none⟩)), (1, str id_1), (5, .int .i64 0)]) (.cons rfl (.cons rfl (.cons rfl (.nil _)))) ?_
 refine ke_block ?_
 have hK := ref36_at_L1_ok hg hbd hz _ hS hb ⟨_, hB3, h2⟩
 exact ke_weaken (l' := [(0, .pointer (some ⟨gr_0, 0, none⟩)), (1, str id_1), (5, .int .i64 0)]) (.cons rfl (.cons rfl (.cons rfl (.nil _)))) (ke_loop hK)
theorem ref36_Clients_Remove_ok (w0 : World) (hg : Gs w0) {ρA : Tags} (hbd : ∀ b, ρA b ≠ 0 → b < w0.heap.size) (hz : Gz ρA) {o : Nat} (ho2 : 2 ≤ o) {r_0 : ref36_Clients} {id_1 : Str} {gr_0 : Nat} {r : Bool × ref36_Clients} (ho0 : ref36_Clients.O (fun p => o + p) ρA w0 gr_0 r_0) (hS : ref36_Clients_Remove r_0 id_1 = some r) :
  Calls Tryz.prog 33 #[.pointer (some ⟨gr_0, 0, none⟩), str id_1] w0 (Ret (fun v w' => ∃ ρ', v = .bool r.1 ∧ ref36_Clients.O (fun p => o + p) ρ' w' gr_0 r.2 ∧ Tr ρA w0 (rng o 2) ρ' w')) := by
 unfold ref36_Clients_Remove at hS
 have hb := enter_fr (ρ := ρA) (w := w0) (n := 2) ho2 hbd
 have hz := hz.enter (n := 2) ho2
 obtain ⟨v1, hB3, h2⟩ := ho0
 replace hB3 := hB3.mv (enter_mv (p := 0) (n := 2) (by decide) ho2)
 replace h2 := h2.mv (enter_mv (p := 1) (n := 2) (by decide) ho2) (by decide)
 replace hB3 : Blk (enter ρA o 2) 100 w0 gr_0 (.cells #[v1, .bool r_0.made] 73 (0, 0)) := hB3
 replace h2 : OwnT api_Client.c 27 (enter ρA o 2) 101 w0 v1 r_0.list := h2
 refine calls_of_ke Tryz.func33 rfl (n := 32) rfl rfl (l := [(0, .pointer (some ⟨gr_0, 0, none⟩)), (1, str id_1)]) rfl ?_
 refine ke_seq ?_
 refine ke_region ?_
 refine sr_ev (v := .bool false) (ev_assign rfl) (by decide) ?_
 refine sr_end (l' := [(0, .pointer (some ⟨gr_0, 0, none⟩)), (1, str id_1)]) (.cons rfl (.cons rfl (.nil _))) ?_
 refine ke_seq ?_
 refine ke_region ?_
 refine sr_ev (v := .pointer (some ⟨gr_0, 0, none⟩)) (ev_move rfl) (by decide) ?_
 refine sr_ev (v := str id_1) (ev_move rfl) (by decide) ?_
 obtain ⟨y4, hy5, hS⟩ := bind_some' hS
 refine sr_call (vs := [.pointer (some ⟨gr_0, 0, none⟩), str id_1]) rfl Tryz.call56 rfl (ref36_at_ok _ (hg.fr hz hb) (ρA := (enter ρA o 2)) hb.bd (hz.fr hg hb) (τ0 := (fun p => 100 + p)) (fun p => Nat.le_add_right_of_le (by decide)) (⟨_, hB3, h2⟩ : ref36_Clients.O (fun p => 100 + p) (enter ρA o 2) w0 gr_0 r_0) hy5) (by decide) ?_
 rintro _ w6 ⟨rfl, hbw7⟩
 have htr8 := Tr.of_below hbw7 hb.bd
 replace hB3 := hB3.mv (htr8.mv (i := 100) rfl)
 replace h2 := h2.mv (htr8.mv (i := 101) rfl) (by decide)
 replace hb := hb.trans htr8
 refine sr_ev (v := .int .i64 y4) (ev_assign rfl) (by decide) ?_
 refine sr_end (l' := [(0, .pointer (some ⟨gr_0, 0, none⟩)), (5, .int .i64 y4)]) (.cons rfl (.cons rfl (.nil _))) ?_
 refine ke_seq ?_
 refine ke_seq ?_
 refine ke_region ?_
 refine sr_ev (v := .int .i64 y4) (ev_move rfl) (by decide) ?_
 refine sr_ev (v := .bool (decide (y4 < 0))) (ev_lt rfl rfl) (by decide) ?_
 refine sr_end (l' := [(0, .pointer (some ⟨gr_0, 0, none⟩)), (5, .int .i64 y4), (11, .bool (decide (y4 < 0)))]) (.cons rfl (.cons rfl (.cons rfl (.nil _)))) ?_
 refine ke_cond (t := decide (y4 < 0)) rfl (fun hc9 => ?_) (fun hc9 => ?_)
 ·replace hS := ite_true' hS hc9
  refine ke_seq ?_
  refine ke_region ?_
  refine sr_ev (v := .bool false) (ev_assign rfl) (by decide) ?_
  refine sr_end (l' := [(4, .bool false)]) (.cons rfl (.nil _)) ?_
  cases hS
  exact ke_ret1 Tryz.func33 rfl rfl ⟨_, rfl, leave ρA w0 o 2 (enter ρA o 2), rfl, ⟨_, (hB3.mv (leave_mv (p := 0) (by decide) hb)), (h2.mv (leave_mv (p := 1) (by decide) hb) (Nat.ne_of_gt (Nat.lt_of_lt_of_le (Nat.lt_of_lt_of_le Nat.zero_lt_two ho2) (Nat.le_add_right _ _))))⟩, (leave_tr ho2 hb)⟩
 ·replace hS := ite_false' hS hc9
  refine ke_skip ?_
  refine ke_seq ?_
  refine ke_region ?_
  refine sr_ev (v := .slice none 0 0) (ev_assign rfl) (by decide) ?_
  refine sr_end (l' := [(0, .pointer (some ⟨gr_0, 0, none⟩)), (5, .int .i64 y4), (6, .slice none 0 0)]) (.cons rfl (.cons rfl (.cons rfl (.nil _)))) ?_
  refine ke_seq ?_
  refine ke_region ?_
  refine sr_ev (v := .slice none 0 0) (ev_move rfl) (by decide) ?_
  refine sr_ev (v := .pointer (some ⟨gr_0, 0, none⟩)) (ev_move rfl) (by decide) ?_
  refine sr_ev (v := .pointer (some ⟨gr_0, 0, none⟩)) (ev_nilCheck rfl) (by decide) ?_
  refine sr_ev (v := .pointer (some ⟨gr_0, 0, none⟩)) (ev_fieldAddr (i := 0) Tryz.underlying73 rfl Tryz.info71 rfl rfl) (by decide) ?_
  refine sr_ev (v := v1) (ev_load Tryz.isAgg71 rfl (hB3.cell rfl)) (by decide) ?_
  refine sr_ev (v := .int .i64 y4) (ev_move rfl) (by decide) ?_
  obtain ⟨hk10, hS⟩ := chk_some hS
  obtain ⟨v11, h12, hq13⟩ := (h2.sl).cutT_h (P := Tryz.prog) Tryz.underlying71 Tryz.info27 rfl hk10
  refine sr_ev (v := v11) (hq13 w6 rfl rfl) (by decide) ?_
  obtain ⟨hk14, hS⟩ := chk_some hS
  refine sr_appendT (i := 21) (c := api_Client.c) (ρ := (enter ρA o 2)) (E := 27) (xs := ([] : List api_Client)) (ys := cut r_0.list 0 y4) OwnT.nil (h12).x Tryz.underlying71 Tryz.info27 rfl rfl rfl (by decide) (by decide) (by decide) hb.bd hk14 rfl rfl (by decide) ?_
  intro v15 ρ17 w18 h16 htr19
  replace hB3 := hB3.mv (htr19.mv (i := 100) rfl)
  replace h2 := h2.mv (htr19.mv (i := 101) rfl) (by decide)
  replace hb := hb.trans htr19
  refine sr_ev (v := v15) (ev_assign rfl) (by decide) ?_
  refine sr_end (l' := [(0, .pointer (some ⟨gr_0, 0, none⟩)), (5, .int .i64 y4), (6, v15)]) (.cons rfl (.cons rfl (.cons rfl (.nil _)))) ?_
  refine ke_seq ?_
  refine ke_region ?_
  refine sr_ev (v := .pointer (some ⟨gr_0, 0, none⟩)) (ev_move rfl) (by decide) ?_
  refine sr_ev (v := v15) (ev_move rfl) (by decide) ?_
  refine sr_ev (v := .pointer (some ⟨gr_0, 0, none⟩)) (ev_move rfl) (by decide) ?_
  refine sr_ev (v := .pointer (some ⟨gr_0, 0, none⟩)) (ev_nilCheck rfl) (by decide) ?_
  refine sr_ev (v := .pointer (some ⟨gr_0, 0, none⟩)) (ev_fieldAddr (i := 0) Tryz.underlying73 rfl Tryz.info71 rfl rfl) (by decide) ?_
  refine sr_ev (v := v1) (ev_load Tryz.isAgg71 rfl (hB3.cell rfl)) (by decide) ?_
  refine sr_ev (v := .int .i64 y4) (ev_move rfl) (by decide) ?_
  refine sr_ev (v := .int .i64 (IntKind.i64.wrap (y4 + 1))) (ev_add rfl rfl) (by decide) ?_
  obtain ⟨hk20, hS⟩ := chk_some hS
  obtain ⟨v21, h22, hq23⟩ := (h2.sl).cutT_l (P := Tryz.prog) Tryz.underlying71 Tryz.info27 rfl hk20
  refine sr_ev (v := v21) (hq23 w18 rfl rfl) (by decide) ?_
  obtain ⟨hk24, hS⟩ := chk_some hS
  refine sr_appendT (i := 21) (c := api_Client.c) (ρ := ρ17) (E := 27) (xs := ([] : List api_Client) ++ (cut r_0.list 0 y4)) (ys := cut r_0.list (IntKind.i64.wrap (y4 + 1)) r_0.list.length) h16 (h22).x Tryz.underlying71 Tryz.info27 rfl rfl rfl (by decide) (by decide) (by decide) hb.bd hk24 rfl rfl (by decide) ?_
  intro v25 ρ27 w28 h26 htr29
  replace hB3 := hB3.mv (htr29.mv (i := 100) rfl)
  replace h2 := h2.mv (htr29.mv (i := 101) rfl) (by decide)
  replace hb := hb.trans htr29
  refine sr_ev (v := .pointer (some ⟨gr_0, 0, none⟩)) (ev_nilCheck rfl) (by decide) ?_
  refine sr_ev (v := .pointer (some ⟨gr_0, 0, none⟩)) (ev_fieldAddr (i := 0) Tryz.underlying73 rfl Tryz.info71 rfl rfl) (by decide) ?_
  refine sr_storeT (v := v25) (vs := [v25]) (cs' := #[v25, .bool r_0.made]) hB3 (by decide) hb.bd rfl rfl (one_cells (OwnT.oneCell h26)) Tryz.sizeOf71 rfl (by first | rfl | (simp only [List.all_cons, List.all_nil, OwnT.oneCell h26]; done) | (simp only [List.all_cons, List.all_nil, OwnT.oneCell h26]; rfl)) rfl ?_
  intro w30 hB31 htr31
  replace h26 := h26.mv (htr31.mv (i := 21) rfl) (by decide)
  replace hb := hb.trans htr31
  replace hB3 : Blk ρ27 100 w30 gr_0 (.cells #[v25, .bool r_0.made] 73 (0, 0)) := hB31
  clear hB31
  refine sr_end (l' := []) (.nil _) ?_
  refine ke_seq ?_
  refine ke_region ?_
  refine sr_ev (v := .bool true) (ev_assign rfl) (by decide) ?_
  refine sr_end (l' := [(4, .bool true)]) (.cons rfl (.nil _)) ?_
  have htr32 := rtg_tr (ρ := ρ27) (w := w30) (i := 21) 101 (by decide) hb.bd
  have hmv33 : Mv ρ27 w30 21 (rtg ρ27 21 101) w30 101 := rtg_mv (by decide)
  replace hB3 := hB3.mv (htr32.mv (i := 100) rfl)
  replace hb := hb.trans htr32
  replace h26 := h26.mv hmv33 (by decide)
  cases hS
  exact ke_ret1 Tryz.func33 rfl rfl ⟨_, rfl, leave ρA w0 o 2 (rtg ρ27 21 101), rfl, ⟨_, (hB3.mv (leave_mv (p := 0) (by decide) hb)), (h26.mv (leave_mv (p := 1) (by decide) hb) (Nat.ne_of_gt (Nat.lt_of_lt_of_le (Nat.lt_of_lt_of_le Nat.zero_lt_two ho2) (Nat.le_add_right _ _))))⟩, (leave_tr ho2 hb)⟩
theorem ref36_copied_ok (w0 : World) (hg : Gs w0) {ρA : Tags} (hbd : ∀ b, ρA b ≠ 0 → b < w0.heap.size) (hz : Gz ρA) {c_0 : api_Client} {v1 : Value} {v3 : Value} {r : api_Client} (h2 : SlR strC (Wb ρA) w0 v1 c_0.Redirects) (h4 : SlR strC (Wb ρA) w0 v3 c_0.Scopes) (hS : ref36_copied c_0 = some r) :
  Calls Tryz.prog 57 #[.agg #[str c_0.ID, .int .i64 c_0.Kind, str c_0.Tenant, str c_0.Secret.Salt, .int .i64 c_0.Secret.Rounds, str c_0.Secret.Hash, v1, v3, str c_0.Logout]] w0 (Ret (fun v w' => ∃ x1 x2, v = .agg #[str r.ID, .int .i64 r.Kind, str r.Tenant, str r.Secret.Salt, .int .i64 r.Secret.Rounds, str r.Secret.Hash, x1, x2, str r.Logout] ∧ SlR strC (Wb ρA) w' x1 r.Redirects ∧ SlR strC (Wb ρA) w' x2 r.Scopes ∧ Below w0.heap.size w0 w')) := by
 unfold ref36_copied at hS
 have hb := flat1_fr (ρ := ρA) (w := w0) hbd
 have hz := hz.flat1
 replace h2 := SlR.mv h2 flat1_rd
 replace h4 := SlR.mv h4 flat1_rd
 refine calls_of_ke Tryz.func57 rfl (n := 14) rfl rfl (l := [(0, .agg #[str c_0.ID, .int .i64 c_0.Kind, str c_0.Tenant, str c_0.Secret.Salt, .int .i64 c_0.Secret.Rounds, str c_0.Secret.Hash, v1, v3, str c_0.Logout])]) rfl ?_
 refine ke_seq ?_
 refine ke_region ?_
 refine sr_boxT 3 (by decide) hb.bd rfl (by decide) ?_
 intro g9 ρ10 w11 hB13 htr12
 replace h2 := h2.mv htr12.rd
 replace h4 := h4.mv htr12.rd
 replace hb := hb.trans htr12
 replace hB13 : Blk ρ10 3 w11 g9 (.cells #[str c_0.ID, .int .i64 c_0.Kind, str c_0.Tenant, str c_0.Secret.Salt, .int .i64 c_0.Secret.Rounds, str c_0.Secret.Hash, v1, v3, str c_0.Logout] 27 (0, 0)) := hB13
 refine sr_allocT 4 (by decide) hb.bd Tryz.zeroValue27 (by decide) ?_
 intro g14 ρ15 w16 hB18 htr17
 replace hB13 := hB13.mv (htr17.mv (i := 3) rfl)
 replace h2 := h2.mv htr17.rd
 replace h4 := h4.mv htr17.rd
 replace hb := hb.trans htr17
 replace hB18 : Blk ρ15 4 w16 g14 (.cells #[str ([]), .int .i64 0, str ([]), str ([]), .int .i64 0, str ([]), (.slice none 0 0), (.slice none 0 0), str ([])] 27 (0, 0)) := hB18
 refine sr_end (l' := [(1, .pointer (some ⟨g9, 0, none⟩)), (2, .pointer (some ⟨g14, 0, none⟩))]) (.cons rfl (.cons rfl (.nil _))) ?_
 refine ke_seq ?_
 refine ke_region ?_
 refine sr_litOwnT (i := 5) (c := strC) (ρ := ρ15) (E := 9) (xs := []) (vs := #[]) (cs := #[]) (css := []) rfl (fun _ => by kernel_rfl) rfl trivial rfl (by decide) (by decide) hb.bd (by decide) ?_
 intro v19 ρ23 w21 h20 htr22
 replace hB18 := hB18.mv (htr22.mv (i := 4) rfl)
 replace hB13 := hB13.mv (htr22.mv (i := 3) rfl)
 replace h2 := h2.mv htr22.rd
 replace h4 := h4.mv htr22.rd
 replace hb := hb.trans htr22
 refine sr_ev (v := .pointer (some ⟨g9, 6, none⟩)) (ev_fieldAddr (i := 4) Tryz.underlying27 rfl Tryz.info25 rfl rfl) (by decide) ?_
 refine sr_ev (v := v1) (ev_load Tryz.isAgg25 rfl (hB13.cell rfl)) (by decide) ?_
 obtain ⟨hk24, hS⟩ := chk_some hS
 refine sr_appendT (i := 5) (c := strC) (ρ := ρ23) (E := 9) (xs := ([] : List Str)) (ys := c_0.Redirects) h20 ((SlT.of_sl (i := 0) h2)).x Tryz.underlying25 Tryz.info9 rfl rfl rfl (by decide) (by decide) (by decide) hb.bd hk24 rfl rfl (by decide) ?_
 intro v25 ρ27 w28 h26 htr29
 replace hB18 := hB18.mv (htr29.mv (i := 4) rfl)
 replace hB13 := hB13.mv (htr29.mv (i := 3) rfl)
 replace h2 := h2.mv htr29.rd
 replace h4 := h4.mv htr29.rd
 replace hb := hb.trans htr29
 refine sr_ev (v := .pointer (some ⟨g9, 6, none⟩)) (ev_fieldAddr (i := 4) Tryz.underlying27 rfl Tryz.info25 rfl rfl) (by decide) ?_
 refine sr_storeT (v := v25) (vs := [v25]) (cs' := #[str c_0.ID, .int .i64 c_0.Kind, str c_0.Tenant, str c_0.Secret.Salt, .int .i64 c_0.Secret.Rounds, str c_0.Secret.Hash, v25, v3, str c_0.Logout]) hB13 (by decide) hb.bd rfl rfl (one_cells (OwnT.oneCell h26)) Tryz.sizeOf25 rfl (by first | rfl | (simp only [List.all_cons, List.all_nil, OwnT.oneCell h26]; done) | (simp only [List.all_cons, List.all_nil, OwnT.oneCell h26]; rfl)) rfl ?_
 intro w30 hB131 htr31
 replace hB18 := hB18.mv (htr31.mv (i := 4) rfl)
 replace h26 := h26.mv (htr31.mv (i := 5) rfl) (by decide)
 replace h4 := h4.mv htr31.rd
 replace hb := hb.trans htr31
 replace hB13 : Blk ρ27 3 w30 g9 (.cells #[str c_0.ID, .int .i64 c_0.Kind, str c_0.Tenant, str c_0.Secret.Salt, .int .i64 c_0.Secret.Rounds, str c_0.Secret.Hash, v25, v3, str c_0.Logout] 27 (0, 0)) := hB131
 clear hB131
 refine sr_end (l' := [(1, .pointer (some ⟨g9, 0, none⟩)), (2, .pointer (some ⟨g14, 0, none⟩))]) (.cons rfl (.cons rfl (.nil _))) ?_
 refine ke_seq ?_
 refine ke_region ?_
 refine sr_litOwnT (i := 10) (c := strC) (ρ := ρ27) (E := 9) (xs := []) (vs := #[]) (cs := #[]) (css := []) rfl (fun _ => by kernel_rfl) rfl trivial rfl (by decide) (by decide) hb.bd (by decide) ?_
 intro v32 ρ36 w34 h33 htr35
 replace hB18 := hB18.mv (htr35.mv (i := 4) rfl)
 replace hB13 := hB13.mv (htr35.mv (i := 3) rfl)
 replace h26 := h26.mv (htr35.mv (i := 5) rfl) (by decide)
 replace h4 := h4.mv htr35.rd
 replace hb := hb.trans htr35
 refine sr_ev (v := .pointer (some ⟨g9, 7, none⟩)) (ev_fieldAddr (i := 5) Tryz.underlying27 rfl Tryz.info25 rfl rfl) (by decide) ?_
 refine sr_ev (v := v3) (ev_load Tryz.isAgg25 rfl (hB13.cell rfl)) (by decide) ?_
 obtain ⟨hk37, hS⟩ := chk_some hS
 refine sr_appendT (i := 10) (c := strC) (ρ := ρ36) (E := 9) (xs := ([] : List Str)) (ys := c_0.Scopes) h33 ((SlT.of_sl (i := 0) h4)).x Tryz.underlying25 Tryz.info9 rfl rfl rfl (by decide) (by decide) (by decide) hb.bd hk37 rfl rfl (by decide) ?_
 intro v38 ρ40 w41 h39 htr42
 replace hB18 := hB18.mv (htr42.mv (i := 4) rfl)
 replace hB13 := hB13.mv (htr42.mv (i := 3) rfl)
 replace h26 := h26.mv (htr42.mv (i := 5) rfl) (by decide)
 replace h4 := h4.mv htr42.rd
 replace hb := hb.trans htr42
 refine sr_ev (v := .pointer (some ⟨g9, 7, none⟩)) (ev_fieldAddr (i := 5) Tryz.underlying27 rfl Tryz.info25 rfl rfl) (by decide) ?_
 refine sr_storeT (v := v38) (vs := [v38]) (cs' := #[str c_0.ID, .int .i64 c_0.Kind, str c_0.Tenant, str c_0.Secret.Salt, .int .i64 c_0.Secret.Rounds, str c_0.Secret.Hash, v25, v38, str c_0.Logout]) hB13 (by decide) hb.bd rfl rfl (one_cells (OwnT.oneCell h39)) Tryz.sizeOf25 rfl (by first | rfl | (simp only [List.all_cons, List.all_nil, OwnT.oneCell h39]; done) | (simp only [List.all_cons, List.all_nil, OwnT.oneCell h39]; rfl)) rfl ?_
 intro w43 hB131 htr44
 replace hB18 := hB18.mv (htr44.mv (i := 4) rfl)
 replace h26 := h26.mv (htr44.mv (i := 5) rfl) (by decide)
 replace h39 := h39.mv (htr44.mv (i := 10) rfl) (by decide)
 replace hb := hb.trans htr44
 replace hB13 : Blk ρ40 3 w43 g9 (.cells #[str c_0.ID, .int .i64 c_0.Kind, str c_0.Tenant, str c_0.Secret.Salt, .int .i64 c_0.Secret.Rounds, str c_0.Secret.Hash, v25, v38, str c_0.Logout] 27 (0, 0)) := hB131
 clear hB131
 refine sr_end (l' := [(1, .pointer (some ⟨g9, 0, none⟩)), (2, .pointer (some ⟨g14, 0, none⟩))]) (.cons rfl (.cons rfl (.nil _))) ?_
 refine ke_seq ?_
 refine ke_region ?_
 refine sr_ev (v := .agg #[str c_0.ID, .int .i64 c_0.Kind, str c_0.Tenant, str c_0.Secret.Salt, .int .i64 c_0.Secret.Rounds, str c_0.Secret.Hash, v25, v38, str c_0.Logout]) (ev_loads (cs := [str c_0.ID, .int .i64 c_0.Kind, str c_0.Tenant, str c_0.Secret.Salt, .int .i64 c_0.Secret.Rounds, str c_0.Secret.Hash, v25, v38, str c_0.Logout]) Tryz.isAgg27 Tryz.sizeOf27 rfl (hB13.cells (vs := [str c_0.ID, .int .i64 c_0.Kind, str c_0.Tenant, str c_0.Secret.Salt, .int .i64 c_0.Secret.Rounds, str c_0.Secret.Hash, v25, v38, str c_0.Logout]) rfl)) (by decide) ?_
 refine sr_storeT (v := .agg #[str c_0.ID, .int .i64 c_0.Kind, str c_0.Tenant, str c_0.Secret.Salt, .int .i64 c_0.Secret.Rounds, str c_0.Secret.Hash, v25, v38, str c_0.Logout]) (vs := [str c_0.ID, .int .i64 c_0.Kind, str c_0.Tenant, str c_0.Secret.Salt, .int .i64 c_0.Secret.Rounds, str c_0.Secret.Hash, v25, v38, str c_0.Logout]) (cs' := #[str c_0.ID, .int .i64 c_0.Kind, str c_0.Tenant, str c_0.Secret.Salt, .int .i64 c_0.Secret.Rounds, str c_0.Secret.Hash, v25, v38, str c_0.Logout]) hB18 (by decide) hb.bd rfl rfl rfl Tryz.sizeOf27 rfl (by first | rfl | (simp only [List.all_cons, List.all_nil, OwnT.oneCell h26, OwnT.oneCell h39]; done) | (simp only [List.all_cons, List.all_nil, OwnT.oneCell h26, OwnT.oneCell h39]; rfl)) rfl ?_
 intro w45 hB181 htr46
 replace h26 := h26.mv (htr46.mv (i := 5) rfl) (by decide)
 replace h39 := h39.mv (htr46.mv (i := 10) rfl) (by decide)
 replace hb := hb.trans htr46
 replace hB18 : Blk ρ40 4 w45 g14 (.cells #[str c_0.ID, .int .i64 c_0.Kind, str c_0.Tenant, str c_0.Secret.Salt, .int .i64 c_0.Secret.Rounds, str c_0.Secret.Hash, v25, v38, str c_0.Logout] 27 (0, 0)) := hB181
 clear hB181
 refine sr_end (l' := [(2, .pointer (some ⟨g14, 0, none⟩))]) (.cons rfl (.nil _)) ?_
 have htr47 := frz_tr (ρ := ρ40) (w := w45) (i := 5) (by decide) hb.bd
 have h48 : SlR strC (Wb (frz ρ40 5)) w45 v25 (([] : List Str) ++ c_0.Redirects) := (SlT.mv h26.sl (frz_mv (ρ := ρ40) (w := w45) (i := 5))).sl
 replace hB18 := hB18.mv (htr47.mv (i := 4) rfl)
 replace h39 := h39.mv (htr47.mv (i := 10) rfl) (by decide)
 replace hb := hb.trans htr47
 have htr49 := frz_tr (ρ := (frz ρ40 5)) (w := w45) (i := 10) (by decide) hb.bd
 have h50 : SlR strC (Wb (frz (frz ρ40 5) 10)) w45 v38 (([] : List Str) ++ c_0.Scopes) := (SlT.mv h39.sl (frz_mv (ρ := (frz ρ40 5)) (w := w45) (i := 10))).sl
 replace hB18 := hB18.mv (htr49.mv (i := 4) rfl)
 replace h48 := h48.mv htr49.rd
 replace hb := hb.trans htr49
 cases hS
 exact ke_ret (rs := [.cell 2 27]) (vs := [.agg #[str c_0.ID, .int .i64 c_0.Kind, str c_0.Tenant, str c_0.Secret.Salt, .int .i64 c_0.Secret.Rounds, str c_0.Secret.Hash, v25, v38, str c_0.Logout]]) Tryz.func57 rfl ⟨⟨_, rfl, run_loadVar_s (cs := [str c_0.ID, .int .i64 c_0.Kind, str c_0.Tenant, str c_0.Secret.Salt, .int .i64 c_0.Secret.Rounds, str c_0.Secret.Hash, v25, v38, str c_0.Logout]) Tryz.isAgg27 Tryz.sizeOf27 (hB18.cells (vs := [str c_0.ID, .int .i64 c_0.Kind, str c_0.Tenant, str c_0.Secret.Salt, .int .i64 c_0.Secret.Rounds, str c_0.Secret.Hash, v25, v38, str c_0.Logout]) rfl)⟩, trivial⟩ rfl ⟨_, rfl, _, _, rfl, (SlR.mv h48 (flat1_back hb hbd)), (SlR.mv h50 (flat1_back hb hbd)), (hb.below (flat1_le _))⟩
theorem ref36_Clients_Register_L1_ok {w0 : World} (hg : Gs w0) {ρA : Tags} (hbd : ∀ b, ρA b ≠ 0 → b < w0.heap.size) {o : Nat} (ho2 : 2 ≤ o) {gr_0 : Nat} (hz : Gz (enter ρA o 2)) : ∀ (n : Nat), ∀ {r : Int × ref36_Clients} {or_0 : ref36_Clients} {c_3_0 : Str} {c_3_1 : Int} {c_3_2 : Str} {c_3_3 : Str} {c_3_4 : Int} {c_3_5 : Str} {c_3_6 : List Str} {c_3_7 : List Str} {c_3_8 : Str} {k_6 : Int} {gc_3 : Nat} {vc_3_6 : Value} {vc_3_7 : Value}, ref36_Clients_Register_L1 n or_0 c_3_0 c_3_1 c_3_2 c_3_3 c_3_4 c_3_5 c_3_6 c_3_7 c_3_8 k_6 = some r → ∀ {ρ : Tags} {w : World}, (Fr (enter ρA o 2) w0 ρ w) → (ref36_Clients.O (fun p => 100 + p) ρ w gr_0 or_0) → (SlR strC (Wb ρ) w vc_3_6 c_3_6) → (SlR strC (Wb ρ) w vc_3_7 c_3_7) → (Blk ρ 5 w gc_3 (.cells #[str c_3_0, .int .i64 c_3_1, str c_3_2, str c_3_3, .int .i64 c_3_4, str c_3_5, vc_3_6, vc_3_7, str c_3_8] 27 (0, 0))) → KE Tryz.prog 23 (Ret (fun v w' => ∃ ρ', v = .int .i64 r.1 ∧ ref36_Clients.O (fun p => o + p) ρ' w' gr_0 r.2 ∧ Tr ρA w0 (rng o 2) ρ' w')) 85 [.code (sub (bodyOf Tryz.f23) [2, 2, 2, 2, 2, 2, 1, 2, 1]), .inLoop (sub (bodyOf Tryz.f23) [2, 2, 2, 2, 2, 2, 1, 2, 1]), .inBlock 0, .code (sub (bodyOf Tryz.f23) [2, 2, 2, 2, 2, 2, 2])] [(0, .pointer (some ⟨gr_0, 0, none⟩)), (3, .pointer (some ⟨gc_3, 0, none⟩)), (6, .int .i64 k_6)] w := by
 intro n
 induction n with
 | zero => intro r or_0 c_3_0 c_3_1 c_3_2 c_3_3 c_3_4 c_3_5 c_3_6 c_3_7 c_3_8 k_6 gc_3 vc_3_6 vc_3_7 hS; cases hS
 | succ n ih =>
  have hr0 : ∀ {r : Int × ref36_Clients} {or_0 : ref36_Clients} {c_3_0 : Str} {c_3_1 : Int} {c_3_2 : Str} {c_3_3 : Str} {c_3_4 : Int} {c_3_5 : Str} {c_3_6 : List Str} {c_3_7 : List Str} {c_3_8 : Str} {k_6 : Int} {gc_3 : Nat} {vc_3_6 : Value} {vc_3_7 : Value}, ref36_Clients_Register_L1 n or_0 c_3_0 c_3_1 c_3_2 c_3_3 c_3_4 c_3_5 c_3_6 c_3_7 c_3_8 k_6 = some r → ∀ {ρ : Tags} {w : World}, (Fr (enter ρA o 2) w0 ρ w) → (ref36_Clients.O (fun p => 100 + p) ρ w gr_0 or_0) → (SlR strC (Wb ρ) w vc_3_6 c_3_6) → (SlR strC (Wb ρ) w vc_3_7 c_3_7) → (Blk ρ 5 w gc_3 (.cells #[str c_3_0, .int .i64 c_3_1, str c_3_2, str c_3_3, .int .i64 c_3_4, str c_3_5, vc_3_6, vc_3_7, str c_3_8] 27 (0, 0))) → KE Tryz.prog 23 (Ret (fun v w' => ∃ ρ', v = .int .i64 r.1 ∧ ref36_Clients.O (fun p => o + p) ρ' w' gr_0 r.2 ∧ Tr ρA w0 (rng o 2) ρ' w')) 85 [.inLoop (sub (bodyOf Tryz.f23) [2, 2, 2, 2, 2, 2, 1, 2, 1]), .inBlock 0, .code (sub (bodyOf Tryz.f23) [2, 2, 2, 2, 2, 2, 2])] [(0, .pointer (some ⟨gr_0, 0, none⟩)), (3, .pointer (some ⟨gc_3, 0, none⟩)), (6, .int .i64 k_6)] w := fun {r} {or_0} {c_3_0} {c_3_1} {c_3_2} {c_3_3} {c_3_4} {c_3_5} {c_3_6} {c_3_7} {c_3_8} {k_6} {gc_3} {vc_3_6} {vc_3_7} hS {ρ} {w} hb hor_0 hc_3_6 hc_3_7 hBc_3 => ke_inLoop (ih hS hb hor_0 hc_3_6 hc_3_7 hBc_3)
  clear ih
  intro r or_0 c_3_0 c_3_1 c_3_2 c_3_3 c_3_4 c_3_5 c_3_6 c_3_7 c_3_8 k_6 gc_3 vc_3_6 vc_3_7 hS ρ w hb hor_0 hc_3_6 hc_3_7 hBc_3
  unfold ref36_Clients_Register_L1 at hS
  obtain ⟨v43, hB45, h44⟩ := hor_0
  replace hB45 : Blk ρ 100 w gr_0 (.cells #[v43, .bool or_0.made] 73 (0, 0)) := hB45
  replace h44 : OwnT api_Client.c 27 ρ 101 w v43 or_0.list := h44
  refine ke_seq ?_
  refine ke_seq ?_
  refine ke_region_q Tryz.mixed (by kernel_rfl) ?_
  refine sq_ev (v := .int .i64 k_6) (fun w1 hw1 => ev_move rfl) (by decide) ?_
  refine sq_ev (v := .pointer (some ⟨gr_0, 0, none⟩)) (fun w1 hw1 => ev_move rfl) (by decide) ?_
  refine sq_ev (v := .pointer (some ⟨gr_0, 0, none⟩)) (fun w1 hw1 => ev_nilCheck rfl) (by decide) ?_
  refine sq_ev (v := .pointer (some ⟨gr_0, 0, none⟩)) (fun w1 hw1 => ev_fieldAddr (i := 0) Tryz.underlying73 rfl Tryz.info71 rfl rfl) (by decide) ?_
  refine sq_ev (v := v43) (fun w1 hw1 => ev_load Tryz.isAgg71 rfl ((hB45.mv (Mv.of_below (i := 100) (ρ := ρ) hw1)).cell rfl)) (by decide) ?_
  refine sq_ev (v := .int .i64 (or_0.list.length : Int)) (fun w1 hw1 => ev_sllen Tryz.underlying71 rfl (h44.mv (Mv.of_below (i := 101) (ρ := ρ) hw1) (by decide)).asSl) (by decide) ?_
  refine sq_ev (v := .bool (decide (k_6 < (or_0.list.length : Int)))) (fun w1 hw1 => ev_lt rfl rfl) (by decide) ?_
  refine sq_ev (v := .bool (decide (k_6 < (or_0.list.length : Int)))) (fun w1 hw1 => ev_move rfl) (by decide) ?_
  obtain ⟨z50, hz52, hS⟩ := bind_some' hS
  refine sq_join (m := 12) (C := fun (x : Bool) => z50 = x) (l' := fun x => [(0, .pointer (some ⟨gr_0, 0, none⟩)), (3, .pointer (some ⟨gc_3, 0, none⟩)), (6, .int .i64 k_6), (58, .bool x)]) ?_ ?_
  ·rintro _ rfl
   refine sq_end (l' := [(0, .pointer (some ⟨gr_0, 0, none⟩)), (3, .pointer (some ⟨gc_3, 0, none⟩)), (6, .int .i64 k_6), (58, .bool z50)]) (.cons rfl (.cons rfl (.cons rfl (.cons rfl (.nil _))))) (fun w47 hw46 => ?_)
   have htr68 := Tr.of_below hw46 hb.bd
   replace hB45 := hB45.mv (htr68.mv (i := 100) rfl)
   replace h44 := h44.mv (htr68.mv (i := 101) rfl) (by decide)
   replace hBc_3 := hBc_3.mv (htr68.mv (i := 5) rfl)
   replace hc_3_6 := hc_3_6.mv htr68.rd
   replace hc_3_7 := hc_3_7.mv htr68.rd
   replace hb := hb.trans htr68
   refine ke_cond (t := z50) rfl (fun hc69 => ?_) (fun hc69 => ?_)
   ·replace hS := ite_true' hS hc69
    refine ke_skip ?_
    refine ke_block ?_
    refine ke_region ?_
    refine sr_ev (v := .int .i64 k_6) (ev_move rfl) (by decide) ?_
    refine sr_ev (v := .int .i64 (IntKind.i64.wrap (k_6 + 1))) (ev_add rfl rfl) (by decide) ?_
    refine sr_ev (v := .int .i64 (IntKind.i64.wrap (k_6 + 1))) (ev_assign rfl) (by decide) ?_
    refine sr_end (l' := [(0, .pointer (some ⟨gr_0, 0, none⟩)), (3, .pointer (some ⟨gc_3, 0, none⟩)), (6, .int .i64 (IntKind.i64.wrap (k_6 + 1)))]) (.cons rfl (.cons rfl (.cons rfl (.nil _)))) ?_
    refine ke_inBlock ?_
    have hK := hr0 hS hb ⟨_, hB45, h44⟩ hc_3_6 hc_3_7 hBc_3
    exact ke_weaken (l' := [(0, .pointer (some ⟨gr_0, 0, none⟩)), (3, .pointer (some ⟨gc_3, 0, none⟩)), (6, .int .i64 (IntKind.i64.wrap (k_6 + 1)))]) (.cons rfl (.cons rfl (.cons rfl (.nil _)))) hK
   ·replace hS := ite_false' hS hc69
    refine ke_exit (k' := _) rfl ?_
    refine ke_seq ?_
    refine ke_region ?_
    refine sr_ev (v := .slice none 0 0) (ev_assign rfl) (by decide) ?_
    refine sr_end (l' := [(0, .pointer (some ⟨gr_0, 0, none⟩)), (3, .pointer (some ⟨gc_3, 0, none⟩)), (6, .int .i64 k_6), (7, .slice none 0 0)]) (.cons rfl (.cons rfl (.cons rfl (.cons rfl (.nil _))))) ?_
    refine ke_seq ?_
    refine ke_region ?_
    refine sr_ev (v := .slice none 0 0) (ev_move rfl) (by decide) ?_
    refine sr_ev (v := .pointer (some ⟨gr_0, 0, none⟩)) (ev_move rfl) (by decide) ?_
    refine sr_ev (v := .pointer (some ⟨gr_0, 0, none⟩)) (ev_nilCheck rfl) (by decide) ?_
    refine sr_ev (v := .pointer (some ⟨gr_0, 0, none⟩)) (ev_fieldAddr (i := 0) Tryz.underlying73 rfl Tryz.info71 rfl rfl) (by decide) ?_
    refine sr_ev (v := v43) (ev_load Tryz.isAgg71 rfl (hB45.cell rfl)) (by decide) ?_
    refine sr_ev (v := .int .i64 k_6) (ev_move rfl) (by decide) ?_
    obtain ⟨hk70, hS⟩ := chk_some hS
    obtain ⟨v71, h72, hq73⟩ := (h44.sl).cutT_h (P := Tryz.prog) Tryz.underlying71 Tryz.info27 rfl hk70
    refine sr_ev (v := v71) (hq73 w47 rfl rfl) (by decide) ?_
    obtain ⟨hk74, hS⟩ := chk_some hS
    refine sr_appendT (i := 70) (c := api_Client.c) (ρ := ρ) (E := 27) (xs := ([] : List api_Client)) (ys := cut or_0.list 0 k_6) OwnT.nil (h72).x Tryz.underlying71 Tryz.info27 rfl rfl rfl (by decide) (by decide) (by decide) hb.bd hk74 rfl rfl (by decide) ?_
    intro v75 ρ77 w78 h76 htr79
    replace hB45 := hB45.mv (htr79.mv (i := 100) rfl)
    replace h44 := h44.mv (htr79.mv (i := 101) rfl) (by decide)
    replace hBc_3 := hBc_3.mv (htr79.mv (i := 5) rfl)
    replace hc_3_6 := hc_3_6.mv htr79.rd
    replace hc_3_7 := hc_3_7.mv htr79.rd
    replace hb := hb.trans htr79
    refine sr_ev (v := v75) (ev_assign rfl) (by decide) ?_
    refine sr_end (l' := [(0, .pointer (some ⟨gr_0, 0, none⟩)), (3, .pointer (some ⟨gc_3, 0, none⟩)), (6, .int .i64 k_6), (7, v75)]) (.cons rfl (.cons rfl (.cons rfl (.cons rfl (.nil _))))) ?_
    refine ke_seq ?_
    refine ke_region ?_
    refine sr_ev (v := v75) (ev_move rfl) (by decide) ?_
    refine sr_ev (v := .agg #[str c_3_0, .int .i64 c_3_1, str c_3_2, str c_3_3, .int .i64 c_3_4, str c_3_5, vc_3_6, vc_3_7, str c_3_8]) (ev_loads (cs := [str c_3_0, .int .i64 c_3_1, str c_3_2, str c_3_3, .int .i64 c_3_4, str c_3_5, vc_3_6, vc_3_7, str c_3_8]) Tryz.isAgg27 Tryz.sizeOf27 rfl (hBc_3.cells (vs := [str c_3_0, .int .i64 c_3_1, str c_3_2, str c_3_3, .int .i64 c_3_4, str c_3_5, vc_3_6, vc_3_7, str c_3_8]) rfl)) (by decide) ?_
    obtain ⟨y80, hy81, hS⟩ := bind_some' hS
    refine sr_call (vs := [.agg #[str c_3_0, .int .i64 c_3_1, str c_3_2, str c_3_3, .int .i64 c_3_4, str c_3_5, vc_3_6, vc_3_7, str c_3_8]]) rfl Tryz.call57 rfl (ref36_copied_ok (c_0 := (api_Client.mk c_3_0 c_3_1 c_3_2 (api_Verifier.mk c_3_3 c_3_4 c_3_5) c_3_6 c_3_7 c_3_8)) _ (hg.fr hz hb) (ρA := ρ77) hb.bd (hz.fr hg hb) hc_3_6 hc_3_7 hy81) (by decide) ?_
    rintro _ w82 ⟨v85, v87, rfl, h86, h88, hbw83⟩
    have htr84 := Tr.of_below hbw83 hb.bd
    replace h76 := h76.mv (htr84.mv (i := 70) rfl) (by decide)
    replace hB45 := hB45.mv (htr84.mv (i := 100) rfl)
    replace h44 := h44.mv (htr84.mv (i := 101) rfl) (by decide)
    replace hb := hb.trans htr84
    refine sr_litT (c := api_Client.c) (ρ := ρ77) (E := 27) (xs := [y80]) (vs := #[(0, .agg #[str y80.ID, .int .i64 y80.Kind, str y80.Tenant, str y80.Secret.Salt, .int .i64 y80.Secret.Rounds, str y80.Secret.Hash, v85, v87, str y80.Logout])]) (cs := #[str y80.ID, .int .i64 y80.Kind, str y80.Tenant, str y80.Secret.Salt, .int .i64 y80.Secret.Rounds, str y80.Secret.Hash, v85, v87, str y80.Logout]) (css := [[str y80.ID, .int .i64 y80.Kind, str y80.Tenant, str y80.Secret.Salt, .int .i64 y80.Secret.Rounds, str y80.Secret.Hash, v85, v87, str y80.Logout]]) rfl (fun _ => by kernel_rfl) rfl ⟨⟨_, _, rfl, h86, h88⟩, trivial⟩ rfl (by decide) hb.bd (by decide) ?_
    intro v89 w91 h90 hbw93
    have htr92 := Tr.of_below hbw93 hb.bd
    replace h76 := h76.mv (htr92.mv (i := 70) rfl) (by decide)
    replace hB45 := hB45.mv (htr92.mv (i := 100) rfl)
    replace h44 := h44.mv (htr92.mv (i := 101) rfl) (by decide)
    replace hb := hb.trans htr92
    obtain ⟨hk94, hS⟩ := chk_some hS
    refine sr_appendT (i := 70) (c := api_Client.c) (ρ := ρ77) (E := 27) (xs := ([] : List api_Client) ++ (cut or_0.list 0 k_6)) (ys := ([y80] : List api_Client)) h76 ((SlT.of_sl (i := 0) h90)).x Tryz.underlying71 Tryz.info27 rfl rfl rfl (by decide) (by decide) (by decide) hb.bd hk94 rfl rfl (by decide) ?_
    intro v95 ρ97 w98 h96 htr99
    replace hB45 := hB45.mv (htr99.mv (i := 100) rfl)
    replace h44 := h44.mv (htr99.mv (i := 101) rfl) (by decide)
    replace hb := hb.trans htr99
    refine sr_ev (v := v95) (ev_assign rfl) (by decide) ?_
    refine sr_end (l' := [(0, .pointer (some ⟨gr_0, 0, none⟩)), (6, .int .i64 k_6), (7, v95)]) (.cons rfl (.cons rfl (.cons rfl (.nil _)))) ?_
    refine ke_seq ?_
    refine ke_region ?_
    refine sr_ev (v := .pointer (some ⟨gr_0, 0, none⟩)) (ev_move rfl) (by decide) ?_
    refine sr_ev (v := v95) (ev_move rfl) (by decide) ?_
    refine sr_ev (v := .pointer (some ⟨gr_0, 0, none⟩)) (ev_move rfl) (by decide) ?_
    refine sr_ev (v := .pointer (some ⟨gr_0, 0, none⟩)) (ev_nilCheck rfl) (by decide) ?_
    refine sr_ev (v := .pointer (some ⟨gr_0, 0, none⟩)) (ev_fieldAddr (i := 0) Tryz.underlying73 rfl Tryz.info71 rfl rfl) (by decide) ?_
    refine sr_ev (v := v43) (ev_load Tryz.isAgg71 rfl (hB45.cell rfl)) (by decide) ?_
    refine sr_ev (v := .int .i64 k_6) (ev_move rfl) (by decide) ?_
    obtain ⟨hk100, hS⟩ := chk_some hS
    obtain ⟨v101, h102, hq103⟩ := (h44.sl).cutT_l (P := Tryz.prog) Tryz.underlying71 Tryz.info27 rfl hk100
    refine sr_ev (v := v101) (hq103 w98 rfl rfl) (by decide) ?_
    obtain ⟨hk104, hS⟩ := chk_some hS
    refine sr_appendT (i := 70) (c := api_Client.c) (ρ := ρ97) (E := 27) (xs := (([] : List api_Client) ++ (cut or_0.list 0 k_6)) ++ ([y80] : List api_Client)) (ys := cut or_0.list k_6 or_0.list.length) h96 (h102).x Tryz.underlying71 Tryz.info27 rfl rfl rfl (by decide) (by decide) (by decide) hb.bd hk104 rfl rfl (by decide) ?_
    intro v105 ρ107 w108 h106 htr109
    replace hB45 := hB45.mv (htr109.mv (i := 100) rfl)
    replace h44 := h44.mv (htr109.mv (i := 101) rfl) (by decide)
    replace hb := hb.trans htr109
    refine sr_ev (v := .pointer (some ⟨gr_0, 0, none⟩)) (ev_nilCheck rfl) (by decide) ?_
    refine sr_ev (v := .pointer (some ⟨gr_0, 0, none⟩)) (ev_fieldAddr (i := 0) Tryz.underlying73 rfl Tryz.info71 rfl rfl) (by decide) ?_
    refine sr_storeT (v := v105) (vs := [v105]) (cs' := #[v105, .bool or_0.made]) hB45 (by decide) hb.bd rfl rfl (one_cells (OwnT.oneCell h106)) Tryz.sizeOf71 rfl (by first | rfl | (simp only [List.all_cons, List.all_nil, OwnT.oneCell h106]; done) | (simp only [List.all_cons, List.all_nil, OwnT.oneCell h106]; rfl)) rfl ?_
    intro w110 hB451 htr111
    replace h106 := h106.mv (htr111.mv (i := 70) rfl) (by decide)
    replace hb := hb.trans htr111
    replace hB45 : Blk ρ107 100 w110 gr_0 (.cells #[v105, .bool or_0.made] 73 (0, 0)) := hB451
    clear hB451
    refine sr_end (l' := []) (.nil _) ?_
    refine ke_seq ?_
    refine ke_region ?_
    refine sr_ev (v := .int .i64 0) (ev_assign rfl) (by decide) ?_
    refine sr_end (l' := [(4, .int .i64 0)]) (.cons rfl (.nil _)) ?_
    have htr112 := rtg_tr (ρ := ρ107) (w := w110) (i := 70) 101 (by decide) hb.bd
    have hmv113 : Mv ρ107 w110 70 (rtg ρ107 70 101) w110 101 := rtg_mv (by decide)
    replace hB45 := hB45.mv (htr112.mv (i := 100) rfl)
    replace hb := hb.trans htr112
    replace h106 := h106.mv hmv113 (by decide)
    cases hS
    exact ke_ret1 Tryz.func23 rfl rfl ⟨_, rfl, leave ρA w0 o 2 (rtg ρ107 70 101), rfl, ⟨_, (hB45.mv (leave_mv (p := 0) (by decide) hb)), (h106.mv (leave_mv (p := 1) (by decide) hb) (Nat.ne_of_gt (Nat.lt_of_lt_of_le (Nat.lt_of_lt_of_le Nat.zero_lt_two ho2) (Nat.le_add_right _ _))))⟩, (leave_tr ho2 hb)⟩
  ·intro K49
   clear hS
   rcases Bool.eq_false_or_eq_true (decide (k_6 < (or_0.list.length : Int))) with hg48 | hg48
   ·have hS := ite_true' hz52 hg48
    refine sq_evg (b := true) (e := 46) rfl rfl hg48 (v := .pointer (some ⟨gr_0, 0, none⟩)) (fun w1 hw1 => ev_move rfl) (by decide) ?_
    refine sq_evg (b := true) (e := 46) rfl rfl hg48 (v := .pointer (some ⟨gr_0, 0, none⟩)) (fun w1 hw1 => ev_nilCheck rfl) (by decide) ?_
    refine sq_evg (b := true) (e := 46) rfl rfl hg48 (v := .pointer (some ⟨gr_0, 0, none⟩)) (fun w1 hw1 => ev_fieldAddr (i := 0) Tryz.underlying73 rfl Tryz.info71 rfl rfl) (by decide) ?_
    refine sq_evg (b := true) (e := 46) rfl rfl hg48 (v := v43) (fun w1 hw1 => ev_load Tryz.isAgg71 rfl ((hB45.mv (Mv.of_below (i := 100) (ρ := ρ) hw1)).cell rfl)) (by decide) ?_
    refine sq_evg (b := true) (e := 46) rfl rfl hg48 (v := .int .i64 k_6) (fun w1 hw1 => ev_move rfl) (by decide) ?_
    obtain ⟨y55, hy56, hS⟩ := bind_some' hS
    obtain ⟨b57, o58, cs60, hq61, he59, hg66, ho67⟩ := h44.elemQ (P := Tryz.prog) Tryz.underlying71 Tryz.info27 rfl hy56
    obtain ⟨v62, v64, hcshe59, h63, h65⟩ := he59.rd
    obtain rfl : cs60 = [str y55.ID, .int .i64 y55.Kind, str y55.Tenant, str y55.Secret.Salt, .int .i64 y55.Secret.Rounds, str y55.Secret.Hash, v62, v64, str y55.Logout] := hcshe59
    refine sq_evg (b := true) (e := 46) rfl rfl hg48 (v := .pointer (some ⟨b57, o58, none⟩)) (fun w1 hw1 => hq61 w1 rfl rfl) (by decide) ?_
    refine sq_evg (b := true) (e := 46) rfl rfl hg48 (v := .pointer (some ⟨b57, o58 + 0, none⟩)) (fun w1 hw1 => ev_fieldAddr (i := 0) Tryz.underlying27 rfl Tryz.info9 rfl rfl) (by decide) ?_
    refine sq_evg (b := true) (e := 46) rfl rfl hg48 (v := str y55.ID) (fun w1 hw1 => ev_load Tryz.isAgg9 rfl ((he59.mv (Mv.of_below (i := 101) (ρ := ρ) hw1) (Nat.succ_pos _)).cell 0 _ rfl)) (by decide) ?_
    refine sq_evg (b := true) (e := 46) rfl rfl hg48 (v := .pointer (some ⟨gc_3, 0, none⟩)) (fun w1 hw1 => ev_fieldAddr (i := 0) Tryz.underlying27 rfl Tryz.info9 rfl rfl) (by decide) ?_
    refine sq_evg (b := true) (e := 46) rfl rfl hg48 (v := str c_3_0) (fun w1 hw1 => ev_load Tryz.isAgg9 rfl ((hBc_3.mv (Mv.of_below (i := 5) (ρ := ρ) hw1)).cell rfl)) (by decide) ?_
    refine sq_evg (b := true) (e := 46) rfl rfl hg48 (v := .bool (sLt y55.ID c_3_0)) (fun w1 hw1 => ev_slt rfl rfl) (by decide) ?_
    refine sq_ev (v := .bool (sLt y55.ID c_3_0)) (fun w1 hw1 => ev_pick_t rfl hg48 rfl) (by decide) ?_
    exact sq_weaken (l' := [(0, .pointer (some ⟨gr_0, 0, none⟩)), (3, .pointer (some ⟨gc_3, 0, none⟩)), (6, .int .i64 k_6), (58, .bool (sLt y55.ID c_3_0))]) (.cons rfl (.cons rfl (.cons rfl (.cons rfl (.nil _))))) (K49 (sLt y55.ID c_3_0) (Option.some.inj hS).symm)
   ·have hS := ite_false' hz52 hg48
    refine sq_pass (e := 46) rfl rfl (by rw [hg48]; rfl) (by decide) ?_
    refine sq_pass (e := 46) rfl rfl (by rw [hg48]; rfl) (by decide) ?_
    refine sq_pass (e := 46) rfl rfl (by rw [hg48]; rfl) (by decide) ?_
    refine sq_pass (e := 46) rfl rfl (by rw [hg48]; rfl) (by decide) ?_
    refine sq_pass (e := 46) rfl rfl (by rw [hg48]; rfl) (by decide) ?_
    refine sq_pass (e := 46) rfl rfl (by rw [hg48]; rfl) (by decide) ?_
    refine sq_pass (e := 46) rfl rfl (by rw [hg48]; rfl) (by decide) ?_
    refine sq_pass (e := 46) rfl rfl (by rw [hg48]; rfl) (by decide) ?_
    refine sq_pass (e := 46) rfl rfl (by rw [hg48]; rfl) (by decide) ?_
    refine sq_pass (e := 46) rfl rfl (by rw [hg48]; rfl) (by decide) ?_
    refine sq_pass (e := 46) rfl rfl (by rw [hg48]; rfl) (by decide) ?_
    refine sq_ev (v := .bool false) (fun w1 hw1 => ev_pick_f rfl hg48 rfl) (by decide) ?_
    exact sq_weaken (l' := [(0, .pointer (some ⟨gr_0, 0, none⟩)), (3, .pointer (some ⟨gc_3, 0, none⟩)), (6, .int .i64 k_6), (58, .bool false)]) (.cons rfl (.cons rfl (.cons rfl (.cons rfl (.nil _))))) (K49 false (Option.some.inj hS).symm)
theorem ref36_Clients_Register_ok (w0 : World) (hg : Gs w0) {ρA : Tags} (hbd : ∀ b, ρA b ≠ 0 → b < w0.heap.size) (hz : Gz ρA) {o : Nat} (ho2 : 2 ≤ o) {r_0 : ref36_Clients} {c_1 : api_Client} {v4 : Value} {v6 : Value} {gr_0 : Nat} {r : Int × ref36_Clients} (h5 : SlR strC (Wb ρA) w0 v4 c_1.Redirects) (h7 : SlR strC (Wb ρA) w0 v6 c_1.Scopes) (ho0 : ref36_Clients.O (fun p => o + p) ρA w0 gr_0 r_0) (hS : ref36_Clients_Register r_0 c_1 = some r) :
  Calls Tryz.prog 23 #[.pointer (some ⟨gr_0, 0, none⟩), .agg #[str c_1.ID, .int .i64 c_1.Kind, str c_1.Tenant, str c_1.Secret.Salt, .int .i64 c_1.Secret.Rounds, str c_1.Secret.Hash, v4, v6, str c_1.Logout]] w0 (Ret (fun v w' => ∃ ρ', v = .int .i64 r.1 ∧ ref36_Clients.O (fun p => o + p) ρ' w' gr_0 r.2 ∧ Tr ρA w0 (rng o 2) ρ' w')) := by
 unfold ref36_Clients_Register at hS
 have hb := enter_fr (ρ := ρA) (w := w0) (n := 2) ho2 hbd
 have hz := hz.enter (n := 2) ho2
 replace h5 := SlR.mv h5 (enter_rd (n := 2) ho2)
 replace h7 := SlR.mv h7 (enter_rd (n := 2) ho2)
 obtain ⟨v1, hB3, h2⟩ := ho0
 replace hB3 := hB3.mv (enter_mv (p := 0) (n := 2) (by decide) ho2)
 replace h2 := h2.mv (enter_mv (p := 1) (n := 2) (by decide) ho2) (by decide)
 replace hB3 : Blk (enter ρA o 2) 100 w0 gr_0 (.cells #[v1, .bool r_0.made] 73 (0, 0)) := hB3
 replace h2 : OwnT api_Client.c 27 (enter ρA o 2) 101 w0 v1 r_0.list := h2
 refine calls_of_ke Tryz.func23 rfl (n := 85) rfl rfl (l := [(0, .pointer (some ⟨gr_0, 0, none⟩)), (1, .agg #[str c_1.ID, .int .i64 c_1.Kind, str c_1.Tenant, str c_1.Secret.Salt, .int .i64 c_1.Secret.Rounds, str c_1.Secret.Hash, v4, v6, str c_1.Logout])]) rfl ?_
 refine ke_seq ?_
 refine ke_region ?_
 refine sr_boxT 5 (by decide) hb.bd rfl (by decide) ?_
 intro g8 ρ9 w10 hB12 htr11
 replace h5 := h5.mv htr11.rd
 replace h7 := h7.mv htr11.rd
 replace hB3 := hB3.mv (htr11.mv (i := 100) rfl)
 replace h2 := h2.mv (htr11.mv (i := 101) rfl) (by decide)
 replace hb := hb.trans htr11
 replace hB12 : Blk ρ9 5 w10 g8 (.cells #[str c_1.ID, .int .i64 c_1.Kind, str c_1.Tenant, str c_1.Secret.Salt, .int .i64 c_1.Secret.Rounds, str c_1.Secret.Hash, v4, v6, str c_1.Logout] 27 (0, 0)) := hB12
 refine sr_ev (v := .int .i64 0) (ev_assign rfl) (by decide) ?_
 refine sr_end (l' := [(0, .pointer (some ⟨gr_0, 0, none⟩)), (3, .pointer (some ⟨g8, 0, none⟩))]) (.cons rfl (.cons rfl (.nil _))) ?_
 refine ke_seq ?_
 refine ke_seq ?_
 refine ke_region ?_
 refine sr_ev (v := .pointer (some ⟨gr_0, 0, none⟩)) (ev_move rfl) (by decide) ?_
 refine sr_ev (v := .bool false) (ev_peqT_some Tryz.underlying41 rfl rfl) (by decide) ?_
 refine sr_ev (v := .bool false) (ev_move rfl) (by decide) ?_
 refine sr_evg (b := false) (e := 10) rfl rfl rfl (v := .pointer (some ⟨gr_0, 0, none⟩)) (ev_move rfl) (by decide) ?_
 refine sr_evg (b := false) (e := 10) rfl rfl rfl (v := .pointer (some ⟨gr_0, 0, none⟩)) (ev_nilCheck rfl) (by decide) ?_
 refine sr_evg (b := false) (e := 10) rfl rfl rfl (v := .pointer (some ⟨gr_0, 1, none⟩)) (ev_fieldAddr (i := 1) Tryz.underlying73 rfl Tryz.info4 rfl rfl) (by decide) ?_
 refine sr_evg (b := false) (e := 10) rfl rfl rfl (v := .bool r_0.made) (ev_load Tryz.isAgg4 rfl (hB3.cell rfl)) (by decide) ?_
 refine sr_evg (b := false) (e := 10) rfl rfl rfl (v := .bool (!r_0.made)) (ev_not rfl) (by decide) ?_
 refine sr_ev (v := .bool (!r_0.made)) (ev_pick_f rfl rfl rfl) (by decide) ?_
 refine sr_end (l' := [(0, .pointer (some ⟨gr_0, 0, none⟩)), (3, .pointer (some ⟨g8, 0, none⟩)), (16, .bool (!r_0.made))]) (.cons rfl (.cons rfl (.cons rfl (.nil _)))) ?_
 refine ke_cond (t := !r_0.made) rfl (fun hc13 => ?_) (fun hc13 => ?_)
 ·replace hS := ite_true' hS hc13
  refine ke_seq ?_
  refine ke_region ?_
  refine sr_ev (v := .int .i64 1) (ev_assign rfl) (by decide) ?_
  refine sr_end (l' := [(4, .int .i64 1)]) (.cons rfl (.nil _)) ?_
  cases hS
  exact ke_ret1 Tryz.func23 rfl rfl ⟨_, rfl, leave ρA w0 o 2 ρ9, rfl, ⟨_, (hB3.mv (leave_mv (p := 0) (by decide) hb)), (h2.mv (leave_mv (p := 1) (by decide) hb) (Nat.ne_of_gt (Nat.lt_of_lt_of_le (Nat.lt_of_lt_of_le Nat.zero_lt_two ho2) (Nat.le_add_right _ _))))⟩, (leave_tr ho2 hb)⟩
 ·replace hS := ite_false' hS hc13
  refine ke_skip ?_
  refine ke_seq ?_
  refine ke_seq ?_
  refine ke_region ?_
  refine sr_ev (v := .agg #[str c_1.ID, .int .i64 c_1.Kind, str c_1.Tenant, str c_1.Secret.Salt, .int .i64 c_1.Secret.Rounds, str c_1.Secret.Hash, v4, v6, str c_1.Logout]) (ev_loads (cs := [str c_1.ID, .int .i64 c_1.Kind, str c_1.Tenant, str c_1.Secret.Salt, .int .i64 c_1.Secret.Rounds, str c_1.Secret.Hash, v4, v6, str c_1.Logout]) Tryz.isAgg27 Tryz.sizeOf27 rfl (hB12.cells (vs := [str c_1.ID, .int .i64 c_1.Kind, str c_1.Tenant, str c_1.Secret.Salt, .int .i64 c_1.Secret.Rounds, str c_1.Secret.Hash, v4, v6, str c_1.Logout]) rfl)) (by decide) ?_
  obtain ⟨y14, hy15, hS⟩ := bind_some' hS
  refine sr_call (vs := [.agg #[str c_1.ID, .int .i64 c_1.Kind, str c_1.Tenant, str c_1.Secret.Salt, .int .i64 c_1.Secret.Rounds, str c_1.Secret.Hash, v4, v6, str c_1.Logout]]) rfl Tryz.call13 rfl (ref36_Check_ok _ (hg.fr hz hb) (ρA := ρ9) hb.bd (hz.fr hg hb) h5 h7 hy15) (by decide) ?_
  rintro _ w16 ⟨rfl, hbw17⟩
  have htr18 := Tr.of_below hbw17 hb.bd
  replace hB12 := hB12.mv (htr18.mv (i := 5) rfl)
  replace h5 := h5.mv htr18.rd
  replace h7 := h7.mv htr18.rd
  replace hB3 := hB3.mv (htr18.mv (i := 100) rfl)
  replace h2 := h2.mv (htr18.mv (i := 101) rfl) (by decide)
  replace hb := hb.trans htr18
  refine sr_ev (v := .int .i64 y14) (ev_assign rfl) (by decide) ?_
  refine sr_end (l' := [(0, .pointer (some ⟨gr_0, 0, none⟩)), (3, .pointer (some ⟨g8, 0, none⟩)), (5, .int .i64 y14)]) (.cons rfl (.cons rfl (.cons rfl (.nil _)))) ?_
  refine ke_seq ?_
  refine ke_region ?_
  refine sr_ev (v := .int .i64 y14) (ev_move rfl) (by decide) ?_
  refine sr_ev (v := .bool (y14 != 0)) (ev_ne rfl rfl) (by decide) ?_
  refine sr_end (l' := [(0, .pointer (some ⟨gr_0, 0, none⟩)), (3, .pointer (some ⟨g8, 0, none⟩)), (5, .int .i64 y14), (20, .bool (y14 != 0))]) (.cons rfl (.cons rfl (.cons rfl (.cons rfl (.nil _))))) ?_
  refine ke_cond (t := y14 != 0) rfl (fun hc19 => ?_) (fun hc19 => ?_)
  ·replace hS := ite_true' hS hc19
   refine ke_seq ?_
   refine ke_region ?_
   refine sr_ev (v := .int .i64 y14) (ev_move rfl) (by decide) ?_
   refine sr_ev (v := .int .i64 y14) (ev_assign rfl) (by decide) ?_
   refine sr_end (l' := [(4, .int .i64 y14)]) (.cons rfl (.nil _)) ?_
   cases hS
   exact ke_ret1 Tryz.func23 rfl rfl ⟨_, rfl, leave ρA w0 o 2 ρ9, rfl, ⟨_, (hB3.mv (leave_mv (p := 0) (by decide) hb)), (h2.mv (leave_mv (p := 1) (by decide) hb) (Nat.ne_of_gt (Nat.lt_of_lt_of_le (Nat.lt_of_lt_of_le Nat.zero_lt_two ho2) (Nat.le_add_right _ _))))⟩, (leave_tr ho2 hb)⟩
  ·replace hS := ite_false' hS hc19
   refine ke_skip ?_
   refine ke_seq ?_
   refine ke_seq ?_
   refine ke_region ?_
   refine sr_ev (v := .pointer (some ⟨gr_0, 0, none⟩)) (ev_move rfl) (by decide) ?_
   refine sr_ev (v := .pointer (some ⟨g8, 0, none⟩)) (ev_fieldAddr (i := 0) Tryz.underlying27 rfl Tryz.info9 rfl rfl) (by decide) ?_
   refine sr_ev (v := str c_1.ID) (ev_load Tryz.isAgg9 rfl (hB12.cell rfl)) (by decide) ?_
   obtain ⟨y20, hy21, hS⟩ := bind_some' hS
   refine sr_call (vs := [.pointer (some ⟨gr_0, 0, none⟩), str c_1.ID]) rfl Tryz.call56 rfl (ref36_at_ok _ (hg.fr hz hb) (ρA := ρ9) hb.bd (hz.fr hg hb) (τ0 := (fun p => 100 + p)) (fun p => Nat.le_add_right_of_le (by decide)) (⟨_, hB3, h2⟩ : ref36_Clients.O (fun p => 100 + p) ρ9 w16 gr_0 r_0) hy21) (by decide) ?_
   rintro _ w22 ⟨rfl, hbw23⟩
   have htr24 := Tr.of_below hbw23 hb.bd
   replace hB12 := hB12.mv (htr24.mv (i := 5) rfl)
   replace h5 := h5.mv htr24.rd
   replace h7 := h7.mv htr24.rd
   replace hB3 := hB3.mv (htr24.mv (i := 100) rfl)
   replace h2 := h2.mv (htr24.mv (i := 101) rfl) (by decide)
   replace hb := hb.trans htr24
   refine sr_ev (v := .bool (decide (y20 < 0))) (ev_lt rfl rfl) (by decide) ?_
   refine sr_ev (v := .bool (decide (y20 < 0))) (ev_move rfl) (by decide) ?_
   refine sr_join (m := 7) (C := fun (x : Bool) w1 => x = ((decide (y20 < 0)) && (decide ((r_0.list.length : Int) ≥ 256))) ∧ w22 = w1) (l' := fun x => [(0, .pointer (some ⟨gr_0, 0, none⟩)), (3, .pointer (some ⟨g8, 0, none⟩)), (34, .bool x)]) ?_ ?_
   ·rintro _ _ ⟨rfl, rfl⟩
    refine sr_end (l' := [(0, .pointer (some ⟨gr_0, 0, none⟩)), (3, .pointer (some ⟨g8, 0, none⟩)), (34, .bool ((decide (y20 < 0)) && (decide ((r_0.list.length : Int) ≥ 256))))]) (.cons rfl (.cons rfl (.cons rfl (.nil _)))) ?_
    refine ke_cond (t := (decide (y20 < 0)) && (decide ((r_0.list.length : Int) ≥ 256))) rfl (fun hc33 => ?_) (fun hc33 => ?_)
    ·replace hS := ite_true' hS hc33
     refine ke_seq ?_
     refine ke_region ?_
     refine sr_ev (v := .int .i64 3) (ev_assign rfl) (by decide) ?_
     refine sr_end (l' := [(4, .int .i64 3)]) (.cons rfl (.nil _)) ?_
     cases hS
     exact ke_ret1 Tryz.func23 rfl rfl ⟨_, rfl, leave ρA w0 o 2 ρ9, rfl, ⟨_, (hB3.mv (leave_mv (p := 0) (by decide) hb)), (h2.mv (leave_mv (p := 1) (by decide) hb) (Nat.ne_of_gt (Nat.lt_of_lt_of_le (Nat.lt_of_lt_of_le Nat.zero_lt_two ho2) (Nat.le_add_right _ _))))⟩, (leave_tr ho2 hb)⟩
    ·replace hS := ite_false' hS hc33
     refine ke_skip ?_
     refine ke_seq ?_
     refine ke_region ?_
     refine sr_ev (v := .pointer (some ⟨gr_0, 0, none⟩)) (ev_move rfl) (by decide) ?_
     refine sr_ev (v := .pointer (some ⟨g8, 0, none⟩)) (ev_fieldAddr (i := 0) Tryz.underlying27 rfl Tryz.info9 rfl rfl) (by decide) ?_
     refine sr_ev (v := str c_1.ID) (ev_load Tryz.isAgg9 rfl (hB12.cell rfl)) (by decide) ?_
     obtain ⟨y34, hy35, hS⟩ := bind_some' hS
     refine sr_call (vs := [.pointer (some ⟨gr_0, 0, none⟩), str c_1.ID]) rfl Tryz.call33 rfl (ref36_Clients_Remove_ok _ (hg.fr hz hb) (ρA := ρ9) hb.bd (hz.fr hg hb) (o := 100) (by decide) (⟨_, hB3, h2⟩ : ref36_Clients.O (fun p => 100 + p) ρ9 w22 gr_0 r_0) hy35) (by decide) ?_
     rintro _ w36 ⟨ρ42, rfl, ⟨v39, hB41, h40⟩, htr38⟩
     replace hB12 := hB12.mv (htr38.mv (i := 5) rfl)
     replace h5 := h5.mv htr38.rd
     replace h7 := h7.mv htr38.rd
     replace hb := hb.trans htr38
     replace hB41 : Blk ρ42 100 w36 gr_0 (.cells #[v39, .bool y34.2.made] 73 (0, 0)) := hB41
     replace h40 : OwnT api_Client.c 27 ρ42 101 w36 v39 y34.2.list := h40
     refine sr_end (l' := [(0, .pointer (some ⟨gr_0, 0, none⟩)), (3, .pointer (some ⟨g8, 0, none⟩))]) (.cons rfl (.cons rfl (.nil _))) ?_
     refine ke_seq ?_
     refine ke_region ?_
     refine sr_ev (v := .int .i64 0) (ev_assign rfl) (by decide) ?_
     refine sr_end (l' := [(0, .pointer (some ⟨gr_0, 0, none⟩)), (3, .pointer (some ⟨g8, 0, none⟩)), (6, .int .i64 0)]) (.cons rfl (.cons rfl (.cons rfl (.nil _)))) ?_
     refine ke_seq ?_
     refine ke_block ?_
     have hK := ref36_Clients_Register_L1_ok hg hbd ho2 hz _ hS hb ⟨_, hB41, h40⟩ h5 h7 hB12
     exact ke_weaken (l' := [(0, .pointer (some ⟨gr_0, 0, none⟩)), (3, .pointer (some ⟨g8, 0, none⟩)), (6, .int .i64 0)]) (.cons rfl (.cons rfl (.cons rfl (.nil _)))) (ke_loop hK)
   ·intro K26
    rcases Bool.eq_false_or_eq_true (decide (y20 < 0)) with hg25 | hg25
    all_goals try have hj28 : Tr ρ9 w22 (fun _ => false) ρ9 w22 := Tr.refl hb.bd
    ·refine sr_evg (b := true) (e := 27) rfl rfl hg25 (v := .pointer (some ⟨gr_0, 0, none⟩)) (ev_move rfl) (by decide) ?_
     refine sr_evg (b := true) (e := 27) rfl rfl hg25 (v := .pointer (some ⟨gr_0, 0, none⟩)) (ev_nilCheck rfl) (by decide) ?_
     refine sr_evg (b := true) (e := 27) rfl rfl hg25 (v := .pointer (some ⟨gr_0, 0, none⟩)) (ev_fieldAddr (i := 0) Tryz.underlying73 rfl Tryz.info71 rfl rfl) (by decide) ?_
     refine sr_evg (b := true) (e := 27) rfl rfl hg25 (v := v1) (ev_load Tryz.isAgg71 rfl (hB3.cell rfl)) (by decide) ?_
     refine sr_evg (b := true) (e := 27) rfl rfl hg25 (v := .int .i64 (r_0.list.length : Int)) (ev_sllen Tryz.underlying71 rfl h2.asSl) (by decide) ?_
     refine sr_evg (b := true) (e := 27) rfl rfl hg25 (v := .bool (decide ((r_0.list.length : Int) ≥ 256))) (ev_ge rfl rfl) (by decide) ?_
     refine sr_ev (v := .bool (decide ((r_0.list.length : Int) ≥ 256))) (ev_pick_t rfl hg25 rfl) (by decide) ?_
     exact sr_weaken (l' := [(0, .pointer (some ⟨gr_0, 0, none⟩)), (3, .pointer (some ⟨g8, 0, none⟩)), (34, .bool (decide ((r_0.list.length : Int) ≥ 256)))]) (.cons rfl (.cons rfl (.cons rfl (.nil _)))) (K26 (decide ((r_0.list.length : Int) ≥ 256)) _ ⟨by rw [hg25]; rfl, rfl⟩)
    ·refine sr_pass (e := 27) rfl rfl (by rw [hg25]; rfl) (by decide) ?_
     refine sr_pass (e := 27) rfl rfl (by rw [hg25]; rfl) (by decide) ?_
     refine sr_pass (e := 27) rfl rfl (by rw [hg25]; rfl) (by decide) ?_
     refine sr_pass (e := 27) rfl rfl (by rw [hg25]; rfl) (by decide) ?_
     refine sr_pass (e := 27) rfl rfl (by rw [hg25]; rfl) (by decide) ?_
     refine sr_pass (e := 27) rfl rfl (by rw [hg25]; rfl) (by decide) ?_
     refine sr_ev (v := .bool false) (ev_pick_f rfl hg25 rfl) (by decide) ?_
     exact sr_weaken (l' := [(0, .pointer (some ⟨gr_0, 0, none⟩)), (3, .pointer (some ⟨g8, 0, none⟩)), (34, .bool false)]) (.cons rfl (.cons rfl (.cons rfl (.nil _)))) (K26 false _ ⟨by rw [hg25]; rfl, rfl⟩)
theorem client_Clients_Get_ok (w0 : World) (hg : Gs w0) {ρA : Tags} (hbd : ∀ b, ρA b ≠ 0 → b < w0.heap.size) (hz : Gz ρA) {τ0 : Nat → Nat} (hτ0 : ∀ p, 1 ≤ τ0 p) {r_0 : client_Clients} {id_1 : Str} {gr_0 : Nat} {r : api_Client × Bool} (ho0 : client_Clients.O τ0 ρA w0 gr_0 r_0) (hS : client_Clients_Get r_0 id_1 = some r) :
  Calls Tryz.prog 24 #[.pointer (some ⟨gr_0, 0, none⟩), str id_1] w0 (Ret (fun v w' => ∃ x1 x2, v = .tuple #[.agg #[str r.1.ID, .int .i64 r.1.Kind, str r.1.Tenant, str r.1.Secret.Salt, .int .i64 r.1.Secret.Rounds, str r.1.Secret.Hash, x1, x2, str r.1.Logout], .bool r.2] ∧ SlR strC (Wb ρA) w' x1 r.1.Redirects ∧ SlR strC (Wb ρA) w' x2 r.1.Scopes ∧ Below w0.heap.size w0 w')) := by
 unfold client_Clients_Get at hS
 have hb := flat1_fr (ρ := ρA) (w := w0) hbd
 have hz := hz.flat1
 obtain ⟨v1, hB3, h2⟩ := ho0
 replace hB3 := hB3.mv (flat1_mv (hτ0 0))
 replace h2 := h2.mv (flat1_mv (hτ0 1))
 replace hB3 : Blk (flat1 ρA) 1 w0 gr_0 (.cells #[v1] 57 (0, 0)) := hB3
 replace h2 : MapT str api_Client.c true (flat1 ρA) 1 w0 v1 r_0.of_ := h2
 refine calls_of_ke Tryz.func24 rfl (n := 18) rfl rfl (l := [(0, .pointer (some ⟨gr_0, 0, none⟩)), (1, str id_1)]) rfl ?_
 refine ke_seq ?_
 refine ke_region ?_
 refine sr_allocT 6 (by decide) hb.bd Tryz.zeroValue27 (by decide) ?_
 intro g8 ρ9 w10 hB12 htr11
 replace hB3 := hB3.mv (htr11.mv (i := 1) rfl)
 replace h2 := h2.mv (htr11.mv (i := 1) rfl)
 replace hb := hb.trans htr11
 replace hB12 : Blk ρ9 6 w10 g8 (.cells #[str ([]), .int .i64 0, str ([]), str ([]), .int .i64 0, str ([]), (.slice none 0 0), (.slice none 0 0), str ([])] 27 (0, 0)) := hB12
 refine sr_ev (v := .bool false) (ev_assign rfl) (by decide) ?_
 refine sr_end (l' := [(0, .pointer (some ⟨gr_0, 0, none⟩)), (1, str id_1), (4, .pointer (some ⟨g8, 0, none⟩))]) (.cons rfl (.cons rfl (.cons rfl (.nil _)))) ?_
 refine ke_seq ?_
 refine ke_region ?_
 refine sr_ev (v := .pointer (some ⟨gr_0, 0, none⟩)) (ev_move rfl) (by decide) ?_
 refine sr_ev (v := str id_1) (ev_move rfl) (by decide) ?_
 obtain ⟨y13, hy14, hS⟩ := bind_some' hS
 refine sr_call (vs := [.pointer (some ⟨gr_0, 0, none⟩), str id_1]) rfl Tryz.call54 rfl (client_Clients_find_ok _ (hg.fr hz hb) (ρA := ρ9) hb.bd (hz.fr hg hb) (τ0 := (fun _ => 1)) (fun _ => Nat.le_refl 1) (⟨_, hB3, h2⟩ : client_Clients.O (fun _ => 1) ρ9 w10 gr_0 r_0) hy14) (by decide) ?_
 rintro _ w15 ⟨v18, v20, rfl, h19, h21, hbw16⟩
 have htr17 := Tr.of_below hbw16 hb.bd
 replace hB12 := hB12.mv (htr17.mv (i := 6) rfl)
 replace hb := hb.trans htr17
 refine sr_ev (v := .tuple #[.agg #[str y13.1.ID, .int .i64 y13.1.Kind, str y13.1.Tenant, str y13.1.Secret.Salt, .int .i64 y13.1.Secret.Rounds, str y13.1.Secret.Hash, v18, v20, str y13.1.Logout], .int .i64 y13.2]) (ev_move rfl) (by decide) ?_
 refine sr_ev (v := .agg #[str y13.1.ID, .int .i64 y13.1.Kind, str y13.1.Tenant, str y13.1.Secret.Salt, .int .i64 y13.1.Secret.Rounds, str y13.1.Secret.Hash, v18, v20, str y13.1.Logout]) (ev_extract rfl rfl) (by decide) ?_
 refine sr_ev (v := .int .i64 y13.2) (ev_extract rfl rfl) (by decide) ?_
 refine sr_allocT 8 (by decide) hb.bd Tryz.zeroValue27 (by decide) ?_
 intro g22 ρ23 w24 hB26 htr25
 replace h19 := h19.mv htr25.rd
 replace h21 := h21.mv htr25.rd
 replace hB12 := hB12.mv (htr25.mv (i := 6) rfl)
 replace hb := hb.trans htr25
 replace hB26 : Blk ρ23 8 w24 g22 (.cells #[str ([]), .int .i64 0, str ([]), str ([]), .int .i64 0, str ([]), (.slice none 0 0), (.slice none 0 0), str ([])] 27 (0, 0)) := hB26
 refine sr_storeT (v := .agg #[str y13.1.ID, .int .i64 y13.1.Kind, str y13.1.Tenant, str y13.1.Secret.Salt, .int .i64 y13.1.Secret.Rounds, str y13.1.Secret.Hash, v18, v20, str y13.1.Logout]) (vs := [str y13.1.ID, .int .i64 y13.1.Kind, str y13.1.Tenant, str y13.1.Secret.Salt, .int .i64 y13.1.Secret.Rounds, str y13.1.Secret.Hash, v18, v20, str y13.1.Logout]) (cs' := #[str y13.1.ID, .int .i64 y13.1.Kind, str y13.1.Tenant, str y13.1.Secret.Salt, .int .i64 y13.1.Secret.Rounds, str y13.1.Secret.Hash, v18, v20, str y13.1.Logout]) hB26 (by decide) hb.bd rfl rfl rfl Tryz.sizeOf27 rfl (by first | rfl | (simp only [List.all_cons, List.all_nil, SlR.oneCell h19, SlR.oneCell h21]; done) | (simp only [List.all_cons, List.all_nil, SlR.oneCell h19, SlR.oneCell h21]; rfl)) rfl ?_
 intro w27 hB261 htr28
 replace h19 := h19.mv htr28.rd
 replace h21 := h21.mv htr28.rd
 replace hB12 := hB12.mv (htr28.mv (i := 6) rfl)
 replace hb := hb.trans htr28
 replace hB26 : Blk ρ23 8 w27 g22 (.cells #[str y13.1.ID, .int .i64 y13.1.Kind, str y13.1.Tenant, str y13.1.Secret.Salt, .int .i64 y13.1.Secret.Rounds, str y13.1.Secret.Hash, v18, v20, str y13.1.Logout] 27 (0, 0)) := hB261
 clear hB261
 refine sr_ev (v := .int .i64 y13.2) (ev_assign rfl) (by decide) ?_
 refine sr_end (l' := [(4, .pointer (some ⟨g8, 0, none⟩)), (6, .pointer (some ⟨g22, 0, none⟩)), (7, .int .i64 y13.2)]) (.cons rfl (.cons rfl (.cons rfl (.nil _)))) ?_
 refine ke_seq ?_
 refine ke_region ?_
 refine sr_ev (v := .agg #[str y13.1.ID, .int .i64 y13.1.Kind, str y13.1.Tenant, str y13.1.Secret.Salt, .int .i64 y13.1.Secret.Rounds, str y13.1.Secret.Hash, v18, v20, str y13.1.Logout]) (ev_loads (cs := [str y13.1.ID, .int .i64 y13.1.Kind, str y13.1.Tenant, str y13.1.Secret.Salt, .int .i64 y13.1.Secret.Rounds, str y13.1.Secret.Hash, v18, v20, str y13.1.Logout]) Tryz.isAgg27 Tryz.sizeOf27 rfl (hB26.cells (vs := [str y13.1.ID, .int .i64 y13.1.Kind, str y13.1.Tenant, str y13.1.Secret.Salt, .int .i64 y13.1.Secret.Rounds, str y13.1.Secret.Hash, v18, v20, str y13.1.Logout]) rfl)) (by decide) ?_
 obtain ⟨y29, hy30, hS⟩ := bind_some' hS
 refine sr_call (vs := [.agg #[str y13.1.ID, .int .i64 y13.1.Kind, str y13.1.Tenant, str y13.1.Secret.Salt, .int .i64 y13.1.Secret.Rounds, str y13.1.Secret.Hash, v18, v20, str y13.1.Logout]]) rfl Tryz.call51 rfl (client_own_ok _ (hg.fr hz hb) (ρA := ρ23) hb.bd (hz.fr hg hb) h19 h21 hy30) (by decide) ?_
 rintro _ w31 ⟨v34, v36, rfl, h35, h37, hbw32⟩
 have htr33 := Tr.of_below hbw32 hb.bd
 replace hB12 := hB12.mv (htr33.mv (i := 6) rfl)
 replace hb := hb.trans htr33
 refine sr_ev (v := .int .i64 y13.2) (ev_move rfl) (by decide) ?_
 refine sr_ev (v := .bool (y13.2 == 0)) (ev_eq rfl rfl) (by decide) ?_
 refine sr_storeT (v := .agg #[str y29.ID, .int .i64 y29.Kind, str y29.Tenant, str y29.Secret.Salt, .int .i64 y29.Secret.Rounds, str y29.Secret.Hash, v34, v36, str y29.Logout]) (vs := [str y29.ID, .int .i64 y29.Kind, str y29.Tenant, str y29.Secret.Salt, .int .i64 y29.Secret.Rounds, str y29.Secret.Hash, v34, v36, str y29.Logout]) (cs' := #[str y29.ID, .int .i64 y29.Kind, str y29.Tenant, str y29.Secret.Salt, .int .i64 y29.Secret.Rounds, str y29.Secret.Hash, v34, v36, str y29.Logout]) hB12 (by decide) hb.bd rfl rfl rfl Tryz.sizeOf27 rfl (by first | rfl | (simp only [List.all_cons, List.all_nil, SlR.oneCell h35, SlR.oneCell h37]; done) | (simp only [List.all_cons, List.all_nil, SlR.oneCell h35, SlR.oneCell h37]; rfl)) rfl ?_
 intro w38 hB121 htr39
 replace h35 := h35.mv htr39.rd
 replace h37 := h37.mv htr39.rd
 replace hb := hb.trans htr39
 replace hB12 : Blk ρ23 6 w38 g8 (.cells #[str y29.ID, .int .i64 y29.Kind, str y29.Tenant, str y29.Secret.Salt, .int .i64 y29.Secret.Rounds, str y29.Secret.Hash, v34, v36, str y29.Logout] 27 (0, 0)) := hB121
 clear hB121
 refine sr_ev (v := .bool (y13.2 == 0)) (ev_assign rfl) (by decide) ?_
 refine sr_end (l' := [(4, .pointer (some ⟨g8, 0, none⟩)), (5, .bool (y13.2 == 0))]) (.cons rfl (.cons rfl (.nil _))) ?_
 cases hS
 exact ke_ret (rs := [.cell 4 27, .tmp 5]) (vs := [.agg #[str y29.ID, .int .i64 y29.Kind, str y29.Tenant, str y29.Secret.Salt, .int .i64 y29.Secret.Rounds, str y29.Secret.Hash, v34, v36, str y29.Logout], .bool (y13.2 == 0)]) Tryz.func24 rfl ⟨⟨_, rfl, run_loadVar_s (cs := [str y29.ID, .int .i64 y29.Kind, str y29.Tenant, str y29.Secret.Salt, .int .i64 y29.Secret.Rounds, str y29.Secret.Hash, v34, v36, str y29.Logout]) Tryz.isAgg27 Tryz.sizeOf27 (hB12.cells (vs := [str y29.ID, .int .i64 y29.Kind, str y29.Tenant, str y29.Secret.Salt, .int .i64 y29.Secret.Rounds, str y29.Secret.Hash, v34, v36, str y29.Logout]) rfl)⟩, rfl, trivial⟩ rfl ⟨_, rfl, _, _, rfl, (SlR.mv h35 (flat1_back hb hbd)), (SlR.mv h37 (flat1_back hb hbd)), (hb.below (flat1_le _))⟩
theorem ref36_Clients_Get_ok (w0 : World) (hg : Gs w0) {ρA : Tags} (hbd : ∀ b, ρA b ≠ 0 → b < w0.heap.size) (hz : Gz ρA) {τ0 : Nat → Nat} (hτ0 : ∀ p, 1 ≤ τ0 p) {r_0 : ref36_Clients} {id_1 : Str} {gr_0 : Nat} {r : api_Client × Bool} (ho0 : ref36_Clients.O τ0 ρA w0 gr_0 r_0) (hS : ref36_Clients_Get r_0 id_1 = some r) :
  Calls Tryz.prog 25 #[.pointer (some ⟨gr_0, 0, none⟩), str id_1] w0 (Ret (fun v w' => ∃ x1 x2, v = .tuple #[.agg #[str r.1.ID, .int .i64 r.1.Kind, str r.1.Tenant, str r.1.Secret.Salt, .int .i64 r.1.Secret.Rounds, str r.1.Secret.Hash, x1, x2, str r.1.Logout], .bool r.2] ∧ SlR strC (Wb ρA) w' x1 r.1.Redirects ∧ SlR strC (Wb ρA) w' x2 r.1.Scopes ∧ Below w0.heap.size w0 w')) := by
 unfold ref36_Clients_Get at hS
 have hb := flat1_fr (ρ := ρA) (w := w0) hbd
 have hz := hz.flat1
 obtain ⟨v1, hB3, h2⟩ := ho0
 replace hB3 := hB3.mv (flat1_mv (hτ0 0))
 replace h2 := h2.mv (flat1_mv (hτ0 1)) (by decide)
 replace hB3 : Blk (flat1 ρA) 1 w0 gr_0 (.cells #[v1, .bool r_0.made] 73 (0, 0)) := hB3
 replace h2 : OwnT api_Client.c 27 (flat1 ρA) 1 w0 v1 r_0.list := h2
 refine calls_of_ke Tryz.func25 rfl (n := 21) rfl rfl (l := [(0, .pointer (some ⟨gr_0, 0, none⟩)), (1, str id_1)]) rfl ?_
 refine ke_seq ?_
 refine ke_region ?_
 refine sr_allocT 6 (by decide) hb.bd Tryz.zeroValue27 (by decide) ?_
 intro g8 ρ9 w10 hB12 htr11
 replace hB3 := hB3.mv (htr11.mv (i := 1) rfl)
 replace h2 := h2.mv (htr11.mv (i := 1) rfl) (by decide)
 replace hb := hb.trans htr11
 replace hB12 : Blk ρ9 6 w10 g8 (.cells #[str ([]), .int .i64 0, str ([]), str ([]), .int .i64 0, str ([]), (.slice none 0 0), (.slice none 0 0), str ([])] 27 (0, 0)) := hB12
 refine sr_ev (v := .bool false) (ev_assign rfl) (by decide) ?_
 refine sr_end (l' := [(0, .pointer (some ⟨gr_0, 0, none⟩)), (1, str id_1), (4, .pointer (some ⟨g8, 0, none⟩))]) (.cons rfl (.cons rfl (.cons rfl (.nil _)))) ?_
 refine ke_seq ?_
 refine ke_seq ?_
 refine ke_region ?_
 refine sr_ev (v := .pointer (some ⟨gr_0, 0, none⟩)) (ev_move rfl) (by decide) ?_
 refine sr_ev (v := str id_1) (ev_move rfl) (by decide) ?_
 obtain ⟨y13, hy14, hS⟩ := bind_some' hS
 refine sr_call (vs := [.pointer (some ⟨gr_0, 0, none⟩), str id_1]) rfl Tryz.call56 rfl (ref36_at_ok _ (hg.fr hz hb) (ρA := ρ9) hb.bd (hz.fr hg hb) (τ0 := (fun _ => 1)) (fun _ => Nat.le_refl 1) (⟨_, hB3, h2⟩ : ref36_Clients.O (fun _ => 1) ρ9 w10 gr_0 r_0) hy14) (by decide) ?_
 rintro _ w15 ⟨rfl, hbw16⟩
 have htr17 := Tr.of_below hbw16 hb.bd
 replace hB12 := hB12.mv (htr17.mv (i := 6) rfl)
 replace hB3 := hB3.mv (htr17.mv (i := 1) rfl)
 replace h2 := h2.mv (htr17.mv (i := 1) rfl) (by decide)
 replace hb := hb.trans htr17
 refine sr_ev (v := .int .i64 y13) (ev_assign rfl) (by decide) ?_
 refine sr_end (l' := [(0, .pointer (some ⟨gr_0, 0, none⟩)), (4, .pointer (some ⟨g8, 0, none⟩)), (6, .int .i64 y13)]) (.cons rfl (.cons rfl (.cons rfl (.nil _)))) ?_
 refine ke_seq ?_
 refine ke_region ?_
 refine sr_ev (v := .int .i64 y13) (ev_move rfl) (by decide) ?_
 refine sr_ev (v := .bool (decide (y13 ≥ 0))) (ev_ge rfl rfl) (by decide) ?_
 refine sr_end (l' := [(0, .pointer (some ⟨gr_0, 0, none⟩)), (4, .pointer (some ⟨g8, 0, none⟩)), (6, .int .i64 y13), (11, .bool (decide (y13 ≥ 0)))]) (.cons rfl (.cons rfl (.cons rfl (.cons rfl (.nil _))))) ?_
 refine ke_cond (t := decide (y13 ≥ 0)) rfl (fun hc18 => ?_) (fun hc18 => ?_)
 ·replace hS := ite_true' hS hc18
  refine ke_seq ?_
  refine ke_region ?_
  refine sr_ev (v := .pointer (some ⟨gr_0, 0, none⟩)) (ev_move rfl) (by decide) ?_
  refine sr_ev (v := .pointer (some ⟨gr_0, 0, none⟩)) (ev_nilCheck rfl) (by decide) ?_
  refine sr_ev (v := .pointer (some ⟨gr_0, 0, none⟩)) (ev_fieldAddr (i := 0) Tryz.underlying73 rfl Tryz.info71 rfl rfl) (by decide) ?_
  refine sr_ev (v := v1) (ev_load Tryz.isAgg71 rfl (hB3.cell rfl)) (by decide) ?_
  refine sr_ev (v := .int .i64 y13) (ev_move rfl) (by decide) ?_
  obtain ⟨y19, hy20, hS⟩ := bind_some' hS
  obtain ⟨b21, o22, cs24, hq25, he23, hg30, ho31⟩ := h2.elemQ (P := Tryz.prog) Tryz.underlying71 Tryz.info27 rfl hy20
  obtain ⟨v26, v28, hcshe23, h27, h29⟩ := he23.rd
  obtain rfl : cs24 = [str y19.ID, .int .i64 y19.Kind, str y19.Tenant, str y19.Secret.Salt, .int .i64 y19.Secret.Rounds, str y19.Secret.Hash, v26, v28, str y19.Logout] := hcshe23
  refine sr_ev (v := .pointer (some ⟨b21, o22, none⟩)) (hq25 w15 rfl rfl) (by decide) ?_
  refine sr_ev (v := .agg #[str y19.ID, .int .i64 y19.Kind, str y19.Tenant, str y19.Secret.Salt, .int .i64 y19.Secret.Rounds, str y19.Secret.Hash, v26, v28, str y19.Logout]) (ev_loads (cs := [str y19.ID, .int .i64 y19.Kind, str y19.Tenant, str y19.Secret.Salt, .int .i64 y19.Secret.Rounds, str y19.Secret.Hash, v26, v28, str y19.Logout]) Tryz.isAgg27 Tryz.sizeOf27 rfl he23.cell) (by decide) ?_
  obtain ⟨y32, hy33, hS⟩ := bind_some' hS
  refine sr_call (vs := [.agg #[str y19.ID, .int .i64 y19.Kind, str y19.Tenant, str y19.Secret.Salt, .int .i64 y19.Secret.Rounds, str y19.Secret.Hash, v26, v28, str y19.Logout]]) rfl Tryz.call57 rfl (ref36_copied_ok _ (hg.fr hz hb) (ρA := ρ9) hb.bd (hz.fr hg hb) h27 h29 hy33) (by decide) ?_
  rintro _ w34 ⟨v37, v39, rfl, h38, h40, hbw35⟩
  have htr36 := Tr.of_below hbw35 hb.bd
  replace hB12 := hB12.mv (htr36.mv (i := 6) rfl)
  replace hb := hb.trans htr36
  refine sr_storeT (v := .agg #[str y32.ID, .int .i64 y32.Kind, str y32.Tenant, str y32.Secret.Salt, .int .i64 y32.Secret.Rounds, str y32.Secret.Hash, v37, v39, str y32.Logout]) (vs := [str y32.ID, .int .i64 y32.Kind, str y32.Tenant, str y32.Secret.Salt, .int .i64 y32.Secret.Rounds, str y32.Secret.Hash, v37, v39, str y32.Logout]) (cs' := #[str y32.ID, .int .i64 y32.Kind, str y32.Tenant, str y32.Secret.Salt, .int .i64 y32.Secret.Rounds, str y32.Secret.Hash, v37, v39, str y32.Logout]) hB12 (by decide) hb.bd rfl rfl rfl Tryz.sizeOf27 rfl (by first | rfl | (simp only [List.all_cons, List.all_nil, SlR.oneCell h38, SlR.oneCell h40]; done) | (simp only [List.all_cons, List.all_nil, SlR.oneCell h38, SlR.oneCell h40]; rfl)) rfl ?_
  intro w41 hB121 htr42
  replace h38 := h38.mv htr42.rd
  replace h40 := h40.mv htr42.rd
  replace hb := hb.trans htr42
  replace hB12 : Blk ρ9 6 w41 g8 (.cells #[str y32.ID, .int .i64 y32.Kind, str y32.Tenant, str y32.Secret.Salt, .int .i64 y32.Secret.Rounds, str y32.Secret.Hash, v37, v39, str y32.Logout] 27 (0, 0)) := hB121
  clear hB121
  refine sr_ev (v := .bool true) (ev_assign rfl) (by decide) ?_
  refine sr_end (l' := [(4, .pointer (some ⟨g8, 0, none⟩)), (5, .bool true)]) (.cons rfl (.cons rfl (.nil _))) ?_
  cases hS
  exact ke_ret (rs := [.cell 4 27, .tmp 5]) (vs := [.agg #[str y32.ID, .int .i64 y32.Kind, str y32.Tenant, str y32.Secret.Salt, .int .i64 y32.Secret.Rounds, str y32.Secret.Hash, v37, v39, str y32.Logout], .bool true]) Tryz.func25 rfl ⟨⟨_, rfl, run_loadVar_s (cs := [str y32.ID, .int .i64 y32.Kind, str y32.Tenant, str y32.Secret.Salt, .int .i64 y32.Secret.Rounds, str y32.Secret.Hash, v37, v39, str y32.Logout]) Tryz.isAgg27 Tryz.sizeOf27 (hB12.cells (vs := [str y32.ID, .int .i64 y32.Kind, str y32.Tenant, str y32.Secret.Salt, .int .i64 y32.Secret.Rounds, str y32.Secret.Hash, v37, v39, str y32.Logout]) rfl)⟩, rfl, trivial⟩ rfl ⟨_, rfl, _, _, rfl, (SlR.mv h38 (flat1_back hb hbd)), (SlR.mv h40 (flat1_back hb hbd)), (hb.below (flat1_le _))⟩
 ·replace hS := ite_false' hS hc18
  refine ke_skip ?_
  refine ke_seq ?_
  refine ke_region ?_
  refine sr_ev (v := .agg #[str ([]), .int .i64 0, str ([]), str ([]), .int .i64 0, str ([]), (.slice none 0 0), (.slice none 0 0), str ([])]) (ev_build (vs := #[]) rfl (fun _ => by kernel_rfl)) (by decide) ?_
  refine sr_storeT (v := .agg #[str ([]), .int .i64 0, str ([]), str ([]), .int .i64 0, str ([]), (.slice none 0 0), (.slice none 0 0), str ([])]) (vs := [str ([]), .int .i64 0, str ([]), str ([]), .int .i64 0, str ([]), (.slice none 0 0), (.slice none 0 0), str ([])]) (cs' := #[str ([]), .int .i64 0, str ([]), str ([]), .int .i64 0, str ([]), (.slice none 0 0), (.slice none 0 0), str ([])]) hB12 (by decide) hb.bd rfl rfl rfl Tryz.sizeOf27 rfl rfl rfl ?_
  intro w43 hB121 htr44
  replace hb := hb.trans htr44
  replace hB12 : Blk ρ9 6 w43 g8 (.cells #[str ([]), .int .i64 0, str ([]), str ([]), .int .i64 0, str ([]), (.slice none 0 0), (.slice none 0 0), str ([])] 27 (0, 0)) := hB121
  clear hB121
  refine sr_ev (v := .bool false) (ev_assign rfl) (by decide) ?_
  refine sr_end (l' := [(4, .pointer (some ⟨g8, 0, none⟩)), (5, .bool false)]) (.cons rfl (.cons rfl (.nil _))) ?_
  cases hS
  exact ke_ret (rs := [.cell 4 27, .tmp 5]) (vs := [.agg #[str ([]), .int .i64 0, str ([]), str ([]), .int .i64 0, str ([]), (.slice none 0 0), (.slice none 0 0), str ([])], .bool false]) Tryz.func25 rfl ⟨⟨_, rfl, run_loadVar_s (cs := [str ([]), .int .i64 0, str ([]), str ([]), .int .i64 0, str ([]), (.slice none 0 0), (.slice none 0 0), str ([])]) Tryz.isAgg27 Tryz.sizeOf27 (hB12.cells (vs := [str ([]), .int .i64 0, str ([]), str ([]), .int .i64 0, str ([]), (.slice none 0 0), (.slice none 0 0), str ([])]) rfl)⟩, rfl, trivial⟩ rfl ⟨_, rfl, _, _, rfl, SlR.nil, SlR.nil, (hb.below (flat1_le _))⟩
theorem ref36_Same_ok (w0 : World) (hg : Gs w0) {ρA : Tags} (hbd : ∀ b, ρA b ≠ 0 → b < w0.heap.size) (hz : Gz ρA) {a_0 : api_Client} {b_1 : api_Client} {v1 : Value} {v3 : Value} {v5 : Value} {v7 : Value} {r : Bool} (h2 : SlR strC (Wb ρA) w0 v1 a_0.Redirects) (h4 : SlR strC (Wb ρA) w0 v3 a_0.Scopes) (h6 : SlR strC (Wb ρA) w0 v5 b_1.Redirects) (h8 : SlR strC (Wb ρA) w0 v7 b_1.Scopes) (hS : ref36_Same a_0 b_1 = some r) :
  Calls Tryz.prog 26 #[.agg #[str a_0.ID, .int .i64 a_0.Kind, str a_0.Tenant, str a_0.Secret.Salt, .int .i64 a_0.Secret.Rounds, str a_0.Secret.Hash, v1, v3, str a_0.Logout], .agg #[str b_1.ID, .int .i64 b_1.Kind, str b_1.Tenant, str b_1.Secret.Salt, .int .i64 b_1.Secret.Rounds, str b_1.Secret.Hash, v5, v7, str b_1.Logout]] w0 (Ret (fun v w' => v = .bool r ∧ Below w0.heap.size w0 w')) := by
 unfold ref36_Same at hS
 have hb := flat1_fr (ρ := ρA) (w := w0) hbd
 have hz := hz.flat1
 replace h2 := SlR.mv h2 flat1_rd
 replace h4 := SlR.mv h4 flat1_rd
 replace h6 := SlR.mv h6 flat1_rd
 replace h8 := SlR.mv h8 flat1_rd
 refine calls_of_ke Tryz.func26 rfl (n := 52) rfl rfl (l := [(0, .agg #[str a_0.ID, .int .i64 a_0.Kind, str a_0.Tenant, str a_0.Secret.Salt, .int .i64 a_0.Secret.Rounds, str a_0.Secret.Hash, v1, v3, str a_0.Logout]), (1, .agg #[str b_1.ID, .int .i64 b_1.Kind, str b_1.Tenant, str b_1.Secret.Salt, .int .i64 b_1.Secret.Rounds, str b_1.Secret.Hash, v5, v7, str b_1.Logout])]) rfl ?_
 refine ke_seq ?_
 refine ke_region ?_
 refine sr_boxT 4 (by decide) hb.bd rfl (by decide) ?_
 intro g9 ρ10 w11 hB13 htr12
 replace h6 := h6.mv htr12.rd
 replace h8 := h8.mv htr12.rd
 replace h2 := h2.mv htr12.rd
 replace h4 := h4.mv htr12.rd
 replace hb := hb.trans htr12
 replace hB13 : Blk ρ10 4 w11 g9 (.cells #[str a_0.ID, .int .i64 a_0.Kind, str a_0.Tenant, str a_0.Secret.Salt, .int .i64 a_0.Secret.Rounds, str a_0.Secret.Hash, v1, v3, str a_0.Logout] 27 (0, 0)) := hB13
 refine sr_boxT 5 (by decide) hb.bd rfl (by decide) ?_
 intro g14 ρ15 w16 hB18 htr17
 replace h6 := h6.mv htr17.rd
 replace h8 := h8.mv htr17.rd
 replace hB13 := hB13.mv (htr17.mv (i := 4) rfl)
 replace h2 := h2.mv htr17.rd
 replace h4 := h4.mv htr17.rd
 replace hb := hb.trans htr17
 replace hB18 : Blk ρ15 5 w16 g14 (.cells #[str b_1.ID, .int .i64 b_1.Kind, str b_1.Tenant, str b_1.Secret.Salt, .int .i64 b_1.Secret.Rounds, str b_1.Secret.Hash, v5, v7, str b_1.Logout] 27 (0, 0)) := hB18
 refine sr_ev (v := .bool false) (ev_assign rfl) (by decide) ?_
 refine sr_end (l' := [(2, .pointer (some ⟨g9, 0, none⟩)), (3, .pointer (some ⟨g14, 0, none⟩))]) (.cons rfl (.cons rfl (.nil _))) ?_
 refine ke_seq ?_
 refine ke_region ?_
 refine sr_ev (v := .pointer (some ⟨g9, 0, none⟩)) (ev_fieldAddr (i := 0) Tryz.underlying27 rfl Tryz.info9 rfl rfl) (by decide) ?_
 refine sr_ev (v := str a_0.ID) (ev_load Tryz.isAgg9 rfl (hB13.cell rfl)) (by decide) ?_
 refine sr_ev (v := .pointer (some ⟨g14, 0, none⟩)) (ev_fieldAddr (i := 0) Tryz.underlying27 rfl Tryz.info9 rfl rfl) (by decide) ?_
 refine sr_ev (v := str b_1.ID) (ev_load Tryz.isAgg9 rfl (hB18.cell rfl)) (by decide) ?_
 refine sr_ev (v := .bool (a_0.ID == b_1.ID)) (ev_seq rfl rfl) (by decide) ?_
 refine sr_ev (v := .bool (a_0.ID == b_1.ID)) (ev_move rfl) (by decide) ?_
 refine sr_join (m := 6) (C := fun (x : Bool) w1 => x = ((a_0.ID == b_1.ID) && (a_0.Kind == b_1.Kind)) ∧ w16 = w1) (l' := fun x => [(2, .pointer (some ⟨g9, 0, none⟩)), (3, .pointer (some ⟨g14, 0, none⟩)), (16, .bool x)]) ?_ ?_
 ·rintro _ _ ⟨rfl, rfl⟩
  refine sr_ev (v := .bool ((a_0.ID == b_1.ID) && (a_0.Kind == b_1.Kind))) (ev_move rfl) (by decide) ?_
  refine sr_join (m := 6) (C := fun (x : Bool) w1 => x = (((a_0.ID == b_1.ID) && (a_0.Kind == b_1.Kind)) && (a_0.Tenant == b_1.Tenant)) ∧ w16 = w1) (l' := fun x => [(2, .pointer (some ⟨g9, 0, none⟩)), (3, .pointer (some ⟨g14, 0, none⟩)), (23, .bool x)]) ?_ ?_
  ·rintro _ _ ⟨rfl, rfl⟩
   refine sr_ev (v := .bool (((a_0.ID == b_1.ID) && (a_0.Kind == b_1.Kind)) && (a_0.Tenant == b_1.Tenant))) (ev_move rfl) (by decide) ?_
   refine sr_join (m := 6) (C := fun (x : Bool) w1 => x = ((((a_0.ID == b_1.ID) && (a_0.Kind == b_1.Kind)) && (a_0.Tenant == b_1.Tenant)) && (api_Verifier.eqb a_0.Secret b_1.Secret)) ∧ w16 = w1) (l' := fun x => [(2, .pointer (some ⟨g9, 0, none⟩)), (3, .pointer (some ⟨g14, 0, none⟩)), (30, .bool x)]) ?_ ?_
   ·rintro _ _ ⟨rfl, rfl⟩
    refine sr_ev (v := .bool ((((a_0.ID == b_1.ID) && (a_0.Kind == b_1.Kind)) && (a_0.Tenant == b_1.Tenant)) && (api_Verifier.eqb a_0.Secret b_1.Secret))) (ev_move rfl) (by decide) ?_
    refine sr_join (m := 6) (C := fun (x : Bool) w1 => x = (((((a_0.ID == b_1.ID) && (a_0.Kind == b_1.Kind)) && (a_0.Tenant == b_1.Tenant)) && (api_Verifier.eqb a_0.Secret b_1.Secret)) && (a_0.Logout == b_1.Logout)) ∧ w16 = w1) (l' := fun x => [(2, .pointer (some ⟨g9, 0, none⟩)), (3, .pointer (some ⟨g14, 0, none⟩)), (37, .bool x)]) ?_ ?_
    ·rintro _ _ ⟨rfl, rfl⟩
     refine sr_ev (v := .bool (((((a_0.ID == b_1.ID) && (a_0.Kind == b_1.Kind)) && (a_0.Tenant == b_1.Tenant)) && (api_Verifier.eqb a_0.Secret b_1.Secret)) && (a_0.Logout == b_1.Logout))) (ev_move rfl) (by decide) ?_
     obtain ⟨z53, hz55, hS⟩ := bind_some' hS
     refine sr_join (m := 6) (C := fun (z : Bool) w1 => z53 = z ∧ ∃ ρ1, Tr ρ15 w16 (fun _ => false) ρ1 w1) (l' := fun z => [(2, .pointer (some ⟨g9, 0, none⟩)), (3, .pointer (some ⟨g14, 0, none⟩)), (44, .bool z)]) ?_ ?_
     ·rintro _ w56 ⟨rfl, ρ57, hj54⟩
      replace hB18 := hB18.mv (hj54.mv (i := 5) rfl)
      replace h6 := h6.mv hj54.rd
      replace h8 := h8.mv hj54.rd
      replace hB13 := hB13.mv (hj54.mv (i := 4) rfl)
      replace h2 := h2.mv hj54.rd
      replace h4 := h4.mv hj54.rd
      replace hb := hb.trans hj54
      refine sr_ev (v := .bool z53) (ev_move rfl) (by decide) ?_
      obtain ⟨z66, hz68, hS⟩ := bind_some' hS
      refine sr_join (m := 6) (C := fun (z : Bool) w1 => z66 = z ∧ ∃ ρ1, Tr ρ57 w56 (fun _ => false) ρ1 w1) (l' := fun z => [(51, .bool z)]) ?_ ?_
      ·rintro _ w69 ⟨rfl, ρ70, hj67⟩
       replace hb := hb.trans hj67
       refine sr_ev (v := .bool z66) (ev_assign rfl) (by decide) ?_
       refine sr_end (l' := [(4, .bool z66)]) (.cons rfl (.nil _)) ?_
       cases hS
       exact ke_ret1 Tryz.func26 rfl rfl ⟨_, rfl, rfl, (hb.below (flat1_le _))⟩
      ·intro K65
       clear hS
       have hj67 : Tr ρ57 w56 (fun _ => false) ρ57 w56 := (Tr.refl hb.bd).weak (fun _ _ => rfl) rfl rfl
       rcases Bool.eq_false_or_eq_true z53 with hg64 | hg64
       ·have hS := ite_true' hz68 hg64
        refine sr_evg (b := true) (e := 45) rfl rfl hg64 (v := .pointer (some ⟨g9, 7, none⟩)) (ev_fieldAddr (i := 5) Tryz.underlying27 rfl Tryz.info25 rfl rfl) (by decide) ?_
        refine sr_evg (b := true) (e := 45) rfl rfl hg64 (v := v3) (ev_load Tryz.isAgg25 rfl (hB13.cell rfl)) (by decide) ?_
        refine sr_evg (b := true) (e := 45) rfl rfl hg64 (v := .pointer (some ⟨g14, 7, none⟩)) (ev_fieldAddr (i := 5) Tryz.underlying27 rfl Tryz.info25 rfl rfl) (by decide) ?_
        refine sr_evg (b := true) (e := 45) rfl rfl hg64 (v := v7) (ev_load Tryz.isAgg25 rfl (hB18.cell rfl)) (by decide) ?_
        obtain ⟨y72, hy73, hS⟩ := bind_some' hS
        refine sr_callg (b := true) (e := 45) rfl rfl hg64 (vs := [v3, v7]) rfl Tryz.call34 rfl (ref07_Lists_ok _ (hg.fr hz hb) h4.asSl h8.asSl hy73) (by decide) ?_
        rintro _ w74 ⟨rfl, hbw75⟩
        have htr76 := Tr.of_below hbw75 hb.bd
        replace hb := hb.trans htr76
        replace hj67 := (hj67.trans htr76).weak (J' := (fun _ => false)) (by intro t h; simp [rng] at h ⊢ <;> omega) rfl rfl
        refine sr_ev (v := .bool y72) (ev_pick_t rfl hg64 rfl) (by decide) ?_
        exact sr_weaken (l' := [(51, .bool y72)]) (.cons rfl (.nil _)) (K65 y72 _ ⟨(Option.some.inj hS).symm, _, hj67⟩)
       ·have hS := ite_false' hz68 hg64
        refine sr_pass (e := 45) rfl rfl (by rw [hg64]; rfl) (by decide) ?_
        refine sr_pass (e := 45) rfl rfl (by rw [hg64]; rfl) (by decide) ?_
        refine sr_pass (e := 45) rfl rfl (by rw [hg64]; rfl) (by decide) ?_
        refine sr_pass (e := 45) rfl rfl (by rw [hg64]; rfl) (by decide) ?_
        refine sr_pass (e := 45) rfl rfl (by rw [hg64]; rfl) (by decide) ?_
        refine sr_ev (v := .bool false) (ev_pick_f rfl hg64 rfl) (by decide) ?_
        exact sr_weaken (l' := [(51, .bool false)]) (.cons rfl (.nil _)) (K65 false _ ⟨(Option.some.inj hS).symm, _, hj67⟩)
     ·intro K52
      clear hS
      have hj54 : Tr ρ15 w16 (fun _ => false) ρ15 w16 := (Tr.refl hb.bd).weak (fun _ _ => rfl) rfl rfl
      rcases Bool.eq_false_or_eq_true (((((a_0.ID == b_1.ID) && (a_0.Kind == b_1.Kind)) && (a_0.Tenant == b_1.Tenant)) && (api_Verifier.eqb a_0.Secret b_1.Secret)) && (a_0.Logout == b_1.Logout)) with hg51 | hg51
      ·have hS := ite_true' hz55 hg51
       refine sr_evg (b := true) (e := 38) rfl rfl hg51 (v := .pointer (some ⟨g9, 6, none⟩)) (ev_fieldAddr (i := 4) Tryz.underlying27 rfl Tryz.info25 rfl rfl) (by decide) ?_
       refine sr_evg (b := true) (e := 38) rfl rfl hg51 (v := v1) (ev_load Tryz.isAgg25 rfl (hB13.cell rfl)) (by decide) ?_
       refine sr_evg (b := true) (e := 38) rfl rfl hg51 (v := .pointer (some ⟨g14, 6, none⟩)) (ev_fieldAddr (i := 4) Tryz.underlying27 rfl Tryz.info25 rfl rfl) (by decide) ?_
       refine sr_evg (b := true) (e := 38) rfl rfl hg51 (v := v5) (ev_load Tryz.isAgg25 rfl (hB18.cell rfl)) (by decide) ?_
       obtain ⟨y59, hy60, hS⟩ := bind_some' hS
       refine sr_callg (b := true) (e := 38) rfl rfl hg51 (vs := [v1, v5]) rfl Tryz.call34 rfl (ref07_Lists_ok _ (hg.fr hz hb) h2.asSl h6.asSl hy60) (by decide) ?_
       rintro _ w61 ⟨rfl, hbw62⟩
       have htr63 := Tr.of_below hbw62 hb.bd
       replace hB18 := hB18.mv (htr63.mv (i := 5) rfl)
       replace h6 := h6.mv htr63.rd
       replace h8 := h8.mv htr63.rd
       replace hB13 := hB13.mv (htr63.mv (i := 4) rfl)
       replace h2 := h2.mv htr63.rd
       replace h4 := h4.mv htr63.rd
       replace hb := hb.trans htr63
       replace hj54 := (hj54.trans htr63).weak (J' := (fun _ => false)) (by intro t h; simp [rng] at h ⊢ <;> omega) rfl rfl
       refine sr_ev (v := .bool y59) (ev_pick_t rfl hg51 rfl) (by decide) ?_
       exact sr_weaken (l' := [(2, .pointer (some ⟨g9, 0, none⟩)), (3, .pointer (some ⟨g14, 0, none⟩)), (44, .bool y59)]) (.cons rfl (.cons rfl (.cons rfl (.nil _)))) (K52 y59 _ ⟨(Option.some.inj hS).symm, _, hj54⟩)
      ·have hS := ite_false' hz55 hg51
       refine sr_pass (e := 38) rfl rfl (by rw [hg51]; rfl) (by decide) ?_
       refine sr_pass (e := 38) rfl rfl (by rw [hg51]; rfl) (by decide) ?_
       refine sr_pass (e := 38) rfl rfl (by rw [hg51]; rfl) (by decide) ?_
       refine sr_pass (e := 38) rfl rfl (by rw [hg51]; rfl) (by decide) ?_
       refine sr_pass (e := 38) rfl rfl (by rw [hg51]; rfl) (by decide) ?_
       refine sr_ev (v := .bool false) (ev_pick_f rfl hg51 rfl) (by decide) ?_
       exact sr_weaken (l' := [(2, .pointer (some ⟨g9, 0, none⟩)), (3, .pointer (some ⟨g14, 0, none⟩)), (44, .bool false)]) (.cons rfl (.cons rfl (.cons rfl (.nil _)))) (K52 false _ ⟨(Option.some.inj hS).symm, _, hj54⟩)
    ·intro K44
     rcases Bool.eq_false_or_eq_true ((((a_0.ID == b_1.ID) && (a_0.Kind == b_1.Kind)) && (a_0.Tenant == b_1.Tenant)) && (api_Verifier.eqb a_0.Secret b_1.Secret)) with hg43 | hg43
     all_goals try have hj46 : Tr ρ15 w16 (fun _ => false) ρ15 w16 := Tr.refl hb.bd
     ·refine sr_evg (b := true) (e := 31) rfl rfl hg43 (v := .pointer (some ⟨g9, 8, none⟩)) (ev_fieldAddr (i := 6) Tryz.underlying27 rfl Tryz.info9 rfl rfl) (by decide) ?_
      refine sr_evg (b := true) (e := 31) rfl rfl hg43 (v := str a_0.Logout) (ev_load Tryz.isAgg9 rfl (hB13.cell rfl)) (by decide) ?_
      refine sr_evg (b := true) (e := 31) rfl rfl hg43 (v := .pointer (some ⟨g14, 8, none⟩)) (ev_fieldAddr (i := 6) Tryz.underlying27 rfl Tryz.info9 rfl rfl) (by decide) ?_
      refine sr_evg (b := true) (e := 31) rfl rfl hg43 (v := str b_1.Logout) (ev_load Tryz.isAgg9 rfl (hB18.cell rfl)) (by decide) ?_
      refine sr_evg (b := true) (e := 31) rfl rfl hg43 (v := .bool (a_0.Logout == b_1.Logout)) (ev_seq rfl rfl) (by decide) ?_
      refine sr_ev (v := .bool (a_0.Logout == b_1.Logout)) (ev_pick_t rfl hg43 rfl) (by decide) ?_
      exact sr_weaken (l' := [(2, .pointer (some ⟨g9, 0, none⟩)), (3, .pointer (some ⟨g14, 0, none⟩)), (37, .bool (a_0.Logout == b_1.Logout))]) (.cons rfl (.cons rfl (.cons rfl (.nil _)))) (K44 (a_0.Logout == b_1.Logout) _ ⟨by rw [hg43]; rfl, rfl⟩)
     ·refine sr_pass (e := 31) rfl rfl (by rw [hg43]; rfl) (by decide) ?_
      refine sr_pass (e := 31) rfl rfl (by rw [hg43]; rfl) (by decide) ?_
      refine sr_pass (e := 31) rfl rfl (by rw [hg43]; rfl) (by decide) ?_
      refine sr_pass (e := 31) rfl rfl (by rw [hg43]; rfl) (by decide) ?_
      refine sr_pass (e := 31) rfl rfl (by rw [hg43]; rfl) (by decide) ?_
      refine sr_ev (v := .bool false) (ev_pick_f rfl hg43 rfl) (by decide) ?_
      exact sr_weaken (l' := [(2, .pointer (some ⟨g9, 0, none⟩)), (3, .pointer (some ⟨g14, 0, none⟩)), (37, .bool false)]) (.cons rfl (.cons rfl (.cons rfl (.nil _)))) (K44 false _ ⟨by rw [hg43]; rfl, rfl⟩)
   ·intro K36
    rcases Bool.eq_false_or_eq_true (((a_0.ID == b_1.ID) && (a_0.Kind == b_1.Kind)) && (a_0.Tenant == b_1.Tenant)) with hg35 | hg35
    all_goals try have hj38 : Tr ρ15 w16 (fun _ => false) ρ15 w16 := Tr.refl hb.bd
    ·refine sr_evg (b := true) (e := 24) rfl rfl hg35 (v := .pointer (some ⟨g9, 3, none⟩)) (ev_fieldAddr (i := 3) Tryz.underlying27 rfl Tryz.info24 rfl rfl) (by decide) ?_
     refine sr_evg (b := true) (e := 24) rfl rfl hg35 (v := .agg #[str a_0.Secret.Salt, .int .i64 a_0.Secret.Rounds, str a_0.Secret.Hash]) (ev_loads (cs := [str a_0.Secret.Salt, .int .i64 a_0.Secret.Rounds, str a_0.Secret.Hash]) Tryz.isAgg24 Tryz.sizeOf24 rfl (hB13.cells (vs := [str a_0.Secret.Salt, .int .i64 a_0.Secret.Rounds, str a_0.Secret.Hash]) rfl)) (by decide) ?_
     refine sr_evg (b := true) (e := 24) rfl rfl hg35 (v := .pointer (some ⟨g14, 3, none⟩)) (ev_fieldAddr (i := 3) Tryz.underlying27 rfl Tryz.info24 rfl rfl) (by decide) ?_
     refine sr_evg (b := true) (e := 24) rfl rfl hg35 (v := .agg #[str b_1.Secret.Salt, .int .i64 b_1.Secret.Rounds, str b_1.Secret.Hash]) (ev_loads (cs := [str b_1.Secret.Salt, .int .i64 b_1.Secret.Rounds, str b_1.Secret.Hash]) Tryz.isAgg24 Tryz.sizeOf24 rfl (hB18.cells (vs := [str b_1.Secret.Salt, .int .i64 b_1.Secret.Rounds, str b_1.Secret.Hash]) rfl)) (by decide) ?_
     refine sr_evg (b := true) (e := 24) rfl rfl hg35 (v := .bool (api_Verifier.eqb a_0.Secret b_1.Secret)) (ev_aeq (Tryz.eq24 a_0.Secret b_1.Secret) rfl rfl) (by decide) ?_
     refine sr_ev (v := .bool (api_Verifier.eqb a_0.Secret b_1.Secret)) (ev_pick_t rfl hg35 rfl) (by decide) ?_
     exact sr_weaken (l' := [(2, .pointer (some ⟨g9, 0, none⟩)), (3, .pointer (some ⟨g14, 0, none⟩)), (30, .bool (api_Verifier.eqb a_0.Secret b_1.Secret))]) (.cons rfl (.cons rfl (.cons rfl (.nil _)))) (K36 (api_Verifier.eqb a_0.Secret b_1.Secret) _ ⟨by rw [hg35]; rfl, rfl⟩)
    ·refine sr_pass (e := 24) rfl rfl (by rw [hg35]; rfl) (by decide) ?_
     refine sr_pass (e := 24) rfl rfl (by rw [hg35]; rfl) (by decide) ?_
     refine sr_pass (e := 24) rfl rfl (by rw [hg35]; rfl) (by decide) ?_
     refine sr_pass (e := 24) rfl rfl (by rw [hg35]; rfl) (by decide) ?_
     refine sr_pass (e := 24) rfl rfl (by rw [hg35]; rfl) (by decide) ?_
     refine sr_ev (v := .bool false) (ev_pick_f rfl hg35 rfl) (by decide) ?_
     exact sr_weaken (l' := [(2, .pointer (some ⟨g9, 0, none⟩)), (3, .pointer (some ⟨g14, 0, none⟩)), (30, .bool false)]) (.cons rfl (.cons rfl (.cons rfl (.nil _)))) (K36 false _ ⟨by rw [hg35]; rfl, rfl⟩)
  ·intro K28
   rcases Bool.eq_false_or_eq_true ((a_0.ID == b_1.ID) && (a_0.Kind == b_1.Kind)) with hg27 | hg27
   all_goals try have hj30 : Tr ρ15 w16 (fun _ => false) ρ15 w16 := Tr.refl hb.bd
   ·refine sr_evg (b := true) (e := 17) rfl rfl hg27 (v := .pointer (some ⟨g9, 2, none⟩)) (ev_fieldAddr (i := 2) Tryz.underlying27 rfl Tryz.info9 rfl rfl) (by decide) ?_
    refine sr_evg (b := true) (e := 17) rfl rfl hg27 (v := str a_0.Tenant) (ev_load Tryz.isAgg9 rfl (hB13.cell rfl)) (by decide) ?_
    refine sr_evg (b := true) (e := 17) rfl rfl hg27 (v := .pointer (some ⟨g14, 2, none⟩)) (ev_fieldAddr (i := 2) Tryz.underlying27 rfl Tryz.info9 rfl rfl) (by decide) ?_
    refine sr_evg (b := true) (e := 17) rfl rfl hg27 (v := str b_1.Tenant) (ev_load Tryz.isAgg9 rfl (hB18.cell rfl)) (by decide) ?_
    refine sr_evg (b := true) (e := 17) rfl rfl hg27 (v := .bool (a_0.Tenant == b_1.Tenant)) (ev_seq rfl rfl) (by decide) ?_
    refine sr_ev (v := .bool (a_0.Tenant == b_1.Tenant)) (ev_pick_t rfl hg27 rfl) (by decide) ?_
    exact sr_weaken (l' := [(2, .pointer (some ⟨g9, 0, none⟩)), (3, .pointer (some ⟨g14, 0, none⟩)), (23, .bool (a_0.Tenant == b_1.Tenant))]) (.cons rfl (.cons rfl (.cons rfl (.nil _)))) (K28 (a_0.Tenant == b_1.Tenant) _ ⟨by rw [hg27]; rfl, rfl⟩)
   ·refine sr_pass (e := 17) rfl rfl (by rw [hg27]; rfl) (by decide) ?_
    refine sr_pass (e := 17) rfl rfl (by rw [hg27]; rfl) (by decide) ?_
    refine sr_pass (e := 17) rfl rfl (by rw [hg27]; rfl) (by decide) ?_
    refine sr_pass (e := 17) rfl rfl (by rw [hg27]; rfl) (by decide) ?_
    refine sr_pass (e := 17) rfl rfl (by rw [hg27]; rfl) (by decide) ?_
    refine sr_ev (v := .bool false) (ev_pick_f rfl hg27 rfl) (by decide) ?_
    exact sr_weaken (l' := [(2, .pointer (some ⟨g9, 0, none⟩)), (3, .pointer (some ⟨g14, 0, none⟩)), (23, .bool false)]) (.cons rfl (.cons rfl (.cons rfl (.nil _)))) (K28 false _ ⟨by rw [hg27]; rfl, rfl⟩)
 ·intro K20
  rcases Bool.eq_false_or_eq_true (a_0.ID == b_1.ID) with hg19 | hg19
  all_goals try have hj22 : Tr ρ15 w16 (fun _ => false) ρ15 w16 := Tr.refl hb.bd
  ·refine sr_evg (b := true) (e := 10) rfl rfl hg19 (v := .pointer (some ⟨g9, 1, none⟩)) (ev_fieldAddr (i := 1) Tryz.underlying27 rfl Tryz.info22 rfl rfl) (by decide) ?_
   refine sr_evg (b := true) (e := 10) rfl rfl hg19 (v := .int .i64 a_0.Kind) (ev_load Tryz.isAgg22 rfl (hB13.cell rfl)) (by decide) ?_
   refine sr_evg (b := true) (e := 10) rfl rfl hg19 (v := .pointer (some ⟨g14, 1, none⟩)) (ev_fieldAddr (i := 1) Tryz.underlying27 rfl Tryz.info22 rfl rfl) (by decide) ?_
   refine sr_evg (b := true) (e := 10) rfl rfl hg19 (v := .int .i64 b_1.Kind) (ev_load Tryz.isAgg22 rfl (hB18.cell rfl)) (by decide) ?_
   refine sr_evg (b := true) (e := 10) rfl rfl hg19 (v := .bool (a_0.Kind == b_1.Kind)) (ev_eq rfl rfl) (by decide) ?_
   refine sr_ev (v := .bool (a_0.Kind == b_1.Kind)) (ev_pick_t rfl hg19 rfl) (by decide) ?_
   exact sr_weaken (l' := [(2, .pointer (some ⟨g9, 0, none⟩)), (3, .pointer (some ⟨g14, 0, none⟩)), (16, .bool (a_0.Kind == b_1.Kind))]) (.cons rfl (.cons rfl (.cons rfl (.nil _)))) (K20 (a_0.Kind == b_1.Kind) _ ⟨by rw [hg19]; rfl, rfl⟩)
  ·refine sr_pass (e := 10) rfl rfl (by rw [hg19]; rfl) (by decide) ?_
   refine sr_pass (e := 10) rfl rfl (by rw [hg19]; rfl) (by decide) ?_
   refine sr_pass (e := 10) rfl rfl (by rw [hg19]; rfl) (by decide) ?_
   refine sr_pass (e := 10) rfl rfl (by rw [hg19]; rfl) (by decide) ?_
   refine sr_pass (e := 10) rfl rfl (by rw [hg19]; rfl) (by decide) ?_
   refine sr_ev (v := .bool false) (ev_pick_f rfl hg19 rfl) (by decide) ?_
   exact sr_weaken (l' := [(2, .pointer (some ⟨g9, 0, none⟩)), (3, .pointer (some ⟨g14, 0, none⟩)), (16, .bool false)]) (.cons rfl (.cons rfl (.cons rfl (.nil _)))) (K20 false _ ⟨by rw [hg19]; rfl, rfl⟩)
theorem ref36_none_ok (w0 : World) (hg : Gs w0) {ρA : Tags} (hbd : ∀ b, ρA b ≠ 0 → b < w0.heap.size) (hz : Gz ρA) {τ0 : Nat → Nat} (hτ0 : ∀ p, 1 ≤ τ0 p) {r_0 : ref36_Clients} {gr_0 : Nat} {r : Int} (ho0 : ref36_Clients.O τ0 ρA w0 gr_0 r_0) (hS : ref36_none r_0 = some r) :
  Calls Tryz.prog 58 #[.pointer (some ⟨gr_0, 0, none⟩)] w0 (Ret (fun v w' => v = .int .i64 r ∧ Below w0.heap.size w0 w')) := by
 unfold ref36_none at hS
 have hb := flat1_fr (ρ := ρA) (w := w0) hbd
 have hz := hz.flat1
 obtain ⟨v1, hB3, h2⟩ := ho0
 replace hB3 := hB3.mv (flat1_mv (hτ0 0))
 replace h2 := h2.mv (flat1_mv (hτ0 1)) (by decide)
 replace hB3 : Blk (flat1 ρA) 1 w0 gr_0 (.cells #[v1, .bool r_0.made] 73 (0, 0)) := hB3
 replace h2 : OwnT api_Client.c 27 (flat1 ρA) 1 w0 v1 r_0.list := h2
 refine calls_of_ke Tryz.func58 rfl (n := 12) rfl rfl (l := [(0, .pointer (some ⟨gr_0, 0, none⟩))]) rfl ?_
 refine ke_seq ?_
 refine ke_region ?_
 refine sr_ev (v := .int .i64 0) (ev_assign rfl) (by decide) ?_
 refine sr_end (l' := [(0, .pointer (some ⟨gr_0, 0, none⟩))]) (.cons rfl (.nil _)) ?_
 refine ke_seq ?_
 refine ke_seq ?_
 refine ke_region ?_
 refine sr_ev (v := .pointer (some ⟨gr_0, 0, none⟩)) (ev_move rfl) (by decide) ?_
 refine sr_ev (v := .bool false) (ev_peqT_some Tryz.underlying41 rfl rfl) (by decide) ?_
 refine sr_ev (v := .bool false) (ev_move rfl) (by decide) ?_
 refine sr_evg (b := false) (e := 5) rfl rfl rfl (v := .pointer (some ⟨gr_0, 0, none⟩)) (ev_move rfl) (by decide) ?_
 refine sr_evg (b := false) (e := 5) rfl rfl rfl (v := .pointer (some ⟨gr_0, 0, none⟩)) (ev_nilCheck rfl) (by decide) ?_
 refine sr_evg (b := false) (e := 5) rfl rfl rfl (v := .pointer (some ⟨gr_0, 1, none⟩)) (ev_fieldAddr (i := 1) Tryz.underlying73 rfl Tryz.info4 rfl rfl) (by decide) ?_
 refine sr_evg (b := false) (e := 5) rfl rfl rfl (v := .bool r_0.made) (ev_load Tryz.isAgg4 rfl (hB3.cell rfl)) (by decide) ?_
 refine sr_evg (b := false) (e := 5) rfl rfl rfl (v := .bool (!r_0.made)) (ev_not rfl) (by decide) ?_
 refine sr_ev (v := .bool (!r_0.made)) (ev_pick_f rfl rfl rfl) (by decide) ?_
 refine sr_end (l' := [(11, .bool (!r_0.made))]) (.cons rfl (.nil _)) ?_
 refine ke_cond (t := !r_0.made) rfl (fun hc4 => ?_) (fun hc4 => ?_)
 ·replace hS := ite_true' hS hc4
  refine ke_seq ?_
  refine ke_region ?_
  refine sr_ev (v := .int .i64 1) (ev_assign rfl) (by decide) ?_
  refine sr_end (l' := [(2, .int .i64 1)]) (.cons rfl (.nil _)) ?_
  cases hS
  exact ke_ret1 Tryz.func58 rfl rfl ⟨_, rfl, rfl, (hb.below (flat1_le _))⟩
 ·replace hS := ite_false' hS hc4
  refine ke_skip ?_
  refine ke_seq ?_
  refine ke_region ?_
  refine sr_ev (v := .int .i64 6) (ev_assign rfl) (by decide) ?_
  refine sr_end (l' := [(2, .int .i64 6)]) (.cons rfl (.nil _)) ?_
  cases hS
  exact ke_ret1 Tryz.func58 rfl rfl ⟨_, rfl, rfl, (hb.below (flat1_le _))⟩
theorem ref36_Clients_Redirect_ok (w0 : World) (hg : Gs w0) {ρA : Tags} (hbd : ∀ b, ρA b ≠ 0 → b < w0.heap.size) (hz : Gz ρA) {τ0 : Nat → Nat} (hτ0 : ∀ p, 1 ≤ τ0 p) {r_0 : ref36_Clients} {id_1 : Str} {address_2 : Str} {gr_0 : Nat} {r : Int} (ho0 : ref36_Clients.O τ0 ρA w0 gr_0 r_0) (hS : ref36_Clients_Redirect r_0 id_1 address_2 = some r) :
  Calls Tryz.prog 28 #[.pointer (some ⟨gr_0, 0, none⟩), str id_1, str address_2] w0 (Ret (fun v w' => v = .int .i64 r ∧ Below w0.heap.size w0 w')) := by
 unfold ref36_Clients_Redirect at hS
 have hb := flat1_fr (ρ := ρA) (w := w0) hbd
 have hz := hz.flat1
 obtain ⟨v1, hB3, h2⟩ := ho0
 replace hB3 := hB3.mv (flat1_mv (hτ0 0))
 replace h2 := h2.mv (flat1_mv (hτ0 1)) (by decide)
 replace hB3 : Blk (flat1 ρA) 1 w0 gr_0 (.cells #[v1, .bool r_0.made] 73 (0, 0)) := hB3
 replace h2 : OwnT api_Client.c 27 (flat1 ρA) 1 w0 v1 r_0.list := h2
 refine calls_of_ke Tryz.func28 rfl (n := 26) rfl rfl (l := [(0, .pointer (some ⟨gr_0, 0, none⟩)), (1, str id_1), (2, str address_2)]) rfl ?_
 refine ke_seq ?_
 refine ke_region ?_
 refine sr_ev (v := .int .i64 0) (ev_assign rfl) (by decide) ?_
 refine sr_end (l' := [(0, .pointer (some ⟨gr_0, 0, none⟩)), (1, str id_1), (2, str address_2)]) (.cons rfl (.cons rfl (.cons rfl (.nil _)))) ?_
 refine ke_seq ?_
 refine ke_region ?_
 refine sr_ev (v := .pointer (some ⟨gr_0, 0, none⟩)) (ev_move rfl) (by decide) ?_
 refine sr_ev (v := str id_1) (ev_move rfl) (by decide) ?_
 obtain ⟨y4, hy5, hS⟩ := bind_some' hS
 refine sr_call (vs := [.pointer (some ⟨gr_0, 0, none⟩), str id_1]) rfl Tryz.call56 rfl (ref36_at_ok _ (hg.fr hz hb) (ρA := (flat1 ρA)) hb.bd (hz.fr hg hb) (τ0 := (fun _ => 1)) (fun _ => Nat.le_refl 1) (⟨_, hB3, h2⟩ : ref36_Clients.O (fun _ => 1) (flat1 ρA) w0 gr_0 r_0) hy5) (by decide) ?_
 rintro _ w6 ⟨rfl, hbw7⟩
 have htr8 := Tr.of_below hbw7 hb.bd
 replace hB3 := hB3.mv (htr8.mv (i := 1) rfl)
 replace h2 := h2.mv (htr8.mv (i := 1) rfl) (by decide)
 replace hb := hb.trans htr8
 refine sr_ev (v := .int .i64 y4) (ev_assign rfl) (by decide) ?_
 refine sr_end (l' := [(0, .pointer (some ⟨gr_0, 0, none⟩)), (2, str address_2), (7, .int .i64 y4)]) (.cons rfl (.cons rfl (.cons rfl (.nil _)))) ?_
 refine ke_seq ?_
 refine ke_seq ?_
 refine ke_region ?_
 refine sr_ev (v := .int .i64 y4) (ev_move rfl) (by decide) ?_
 refine sr_ev (v := .bool (decide (y4 < 0))) (ev_lt rfl rfl) (by decide) ?_
 refine sr_end (l' := [(0, .pointer (some ⟨gr_0, 0, none⟩)), (2, str address_2), (7, .int .i64 y4), (12, .bool (decide (y4 < 0)))]) (.cons rfl (.cons rfl (.cons rfl (.cons rfl (.nil _))))) ?_
 refine ke_cond (t := decide (y4 < 0)) rfl (fun hc9 => ?_) (fun hc9 => ?_)
 ·replace hS := ite_true' hS hc9
  refine ke_seq ?_
  refine ke_region ?_
  refine sr_ev (v := .pointer (some ⟨gr_0, 0, none⟩)) (ev_move rfl) (by decide) ?_
  obtain ⟨y10, hy11, hS⟩ := bind_some' hS
  refine sr_call (vs := [.pointer (some ⟨gr_0, 0, none⟩)]) rfl Tryz.call58 rfl (ref36_none_ok _ (hg.fr hz hb) (ρA := (flat1 ρA)) hb.bd (hz.fr hg hb) (τ0 := (fun _ => 1)) (fun _ => Nat.le_refl 1) (⟨_, hB3, h2⟩ : ref36_Clients.O (fun _ => 1) (flat1 ρA) w6 gr_0 r_0) hy11) (by decide) ?_
  rintro _ w12 ⟨rfl, hbw13⟩
  have htr14 := Tr.of_below hbw13 hb.bd
  replace hb := hb.trans htr14
  refine sr_ev (v := .int .i64 y10) (ev_assign rfl) (by decide) ?_
  refine sr_end (l' := [(6, .int .i64 y10)]) (.cons rfl (.nil _)) ?_
  cases hS
  exact ke_ret1 Tryz.func28 rfl rfl ⟨_, rfl, rfl, (hb.below (flat1_le _))⟩
 ·replace hS := ite_false' hS hc9
  refine ke_skip ?_
  refine ke_seq ?_
  refine ke_seq ?_
  refine ke_region ?_
  refine sr_ev (v := .pointer (some ⟨gr_0, 0, none⟩)) (ev_move rfl) (by decide) ?_
  refine sr_ev (v := .pointer (some ⟨gr_0, 0, none⟩)) (ev_nilCheck rfl) (by decide) ?_
  refine sr_ev (v := .pointer (some ⟨gr_0, 0, none⟩)) (ev_fieldAddr (i := 0) Tryz.underlying73 rfl Tryz.info71 rfl rfl) (by decide) ?_
  refine sr_ev (v := v1) (ev_load Tryz.isAgg71 rfl (hB3.cell rfl)) (by decide) ?_
  refine sr_ev (v := .int .i64 y4) (ev_move rfl) (by decide) ?_
  obtain ⟨y15, hy16, hS⟩ := bind_some' hS
  obtain ⟨b17, o18, cs20, hq21, he19, hg26, ho27⟩ := h2.elemQ (P := Tryz.prog) Tryz.underlying71 Tryz.info27 rfl hy16
  obtain ⟨v22, v24, hcshe19, h23, h25⟩ := he19.rd
  obtain rfl : cs20 = [str y15.ID, .int .i64 y15.Kind, str y15.Tenant, str y15.Secret.Salt, .int .i64 y15.Secret.Rounds, str y15.Secret.Hash, v22, v24, str y15.Logout] := hcshe19
  refine sr_ev (v := .pointer (some ⟨b17, o18, none⟩)) (hq21 w6 rfl rfl) (by decide) ?_
  refine sr_ev (v := .pointer (some ⟨b17, o18 + 6, none⟩)) (ev_fieldAddr (i := 4) Tryz.underlying27 rfl Tryz.info25 rfl rfl) (by decide) ?_
  refine sr_ev (v := v22) (ev_load Tryz.isAgg25 rfl (he19.cell 6 _ rfl)) (by decide) ?_
  refine sr_ev (v := str address_2) (ev_move rfl) (by decide) ?_
  obtain ⟨y28, hy29, hS⟩ := bind_some' hS
  refine sr_call (vs := [v22, str address_2]) rfl Tryz.call48 rfl (ref36_contains_ok _ (hg.fr hz hb) h23.asSl hy29) (by decide) ?_
  rintro _ w30 ⟨rfl, hbw31⟩
  have htr32 := Tr.of_below hbw31 hb.bd
  replace hb := hb.trans htr32
  refine sr_ev (v := .bool (!y28)) (ev_not rfl) (by decide) ?_
  refine sr_end (l' := [(25, .bool (!y28))]) (.cons rfl (.nil _)) ?_
  refine ke_cond (t := !y28) rfl (fun hc33 => ?_) (fun hc33 => ?_)
  ·replace hS := ite_true' hS hc33
   refine ke_seq ?_
   refine ke_region ?_
   refine sr_ev (v := .int .i64 11) (ev_assign rfl) (by decide) ?_
   refine sr_end (l' := [(6, .int .i64 11)]) (.cons rfl (.nil _)) ?_
   cases hS
   exact ke_ret1 Tryz.func28 rfl rfl ⟨_, rfl, rfl, (hb.below (flat1_le _))⟩
  ·replace hS := ite_false' hS hc33
   refine ke_skip ?_
   refine ke_seq ?_
   refine ke_region ?_
   refine sr_ev (v := .int .i64 0) (ev_assign rfl) (by decide) ?_
   refine sr_end (l' := [(6, .int .i64 0)]) (.cons rfl (.nil _)) ?_
   cases hS
   exact ke_ret1 Tryz.func28 rfl rfl ⟨_, rfl, rfl, (hb.below (flat1_le _))⟩
theorem ref22_Password_L1_ok {w0 : World} (hg : Gs w0) : ∀ (n : Nat), ∀ {r : Bool} {s_0 : Str} {i_3 : Int}, ref22_Password_L1 n s_0 i_3 = some r → ∀ {w : World}, (Below w0.heap.size w0 w) → KE Tryz.prog 84 (Ret (fun v w' => v = .bool r ∧ Below w0.heap.size w0 w')) 28 [.code (sub (bodyOf Tryz.f84) [2, 2, 1, 2, 2, 1]), .inLoop (sub (bodyOf Tryz.f84) [2, 2, 1, 2, 2, 1]), .inBlock 0, .code (sub (bodyOf Tryz.f84) [2, 2, 2])] [(0, str s_0), (3, .int .i64 i_3)] w := by
 intro n
 induction n with
 | zero => intro r s_0 i_3 hS; cases hS
 | succ n ih =>
  have hr0 : ∀ {r : Bool} {s_0 : Str} {i_3 : Int}, ref22_Password_L1 n s_0 i_3 = some r → ∀ {w : World}, (Below w0.heap.size w0 w) → KE Tryz.prog 84 (Ret (fun v w' => v = .bool r ∧ Below w0.heap.size w0 w')) 28 [.inLoop (sub (bodyOf Tryz.f84) [2, 2, 1, 2, 2, 1]), .inBlock 0, .code (sub (bodyOf Tryz.f84) [2, 2, 2])] [(0, str s_0), (3, .int .i64 i_3)] w := fun {r} {s_0} {i_3} hS {w} hb => ke_inLoop (ih hS hb)
  clear ih
  intro r s_0 i_3 hS w hb
  unfold ref22_Password_L1 at hS
  refine ke_seq ?_
  refine ke_seq ?_
  refine ke_region ?_
  refine sr_ev (v := .int .i64 i_3) (ev_move rfl) (by decide) ?_
  refine sr_ev (v := str s_0) (ev_move rfl) (by decide) ?_
  refine sr_ev (v := .int .i64 (s_0.length : Int)) (ev_slen Tryz.underlying9 rfl) (by decide) ?_
  refine sr_ev (v := .bool (decide (i_3 < (s_0.length : Int)))) (ev_lt rfl rfl) (by decide) ?_
  refine sr_end (l' := [(0, str s_0), (3, .int .i64 i_3), (15, .bool (decide (i_3 < (s_0.length : Int))))]) (.cons rfl (.cons rfl (.cons rfl (.nil _)))) ?_
  refine ke_cond (t := decide (i_3 < (s_0.length : Int))) rfl (fun hc9 => ?_) (fun hc9 => ?_)
  ·replace hS := ite_true' hS hc9
   refine ke_skip ?_
   refine ke_seq ?_
   refine ke_block ?_
   refine ke_seq ?_
   refine ke_region ?_
   refine sr_ev (v := str s_0) (ev_move rfl) (by decide) ?_
   refine sr_ev (v := .int .i64 i_3) (ev_move rfl) (by decide) ?_
   obtain ⟨hk10, hS⟩ := chk_some hS
   refine sr_ev (v := .int .u8 (byteAt s_0 i_3)) (ev_sindex Tryz.underlying9 rfl rfl hk10) (by decide) ?_
   refine sr_ev (v := .bool (decide ((byteAt s_0 i_3) < 32))) (ev_lt rfl rfl) (by decide) ?_
   refine sr_ev (v := .bool (decide ((byteAt s_0 i_3) < 32))) (ev_move rfl) (by decide) ?_
   obtain ⟨z13, hz15, hS⟩ := bind_some' hS
   refine sr_join (m := 5) (C := fun (x : Bool) w1 => z13 = x ∧ Below w.heap.size w w1) (l' := fun x => [(0, str s_0), (3, .int .i64 i_3), (27, .bool x)]) ?_ ?_
   ·rintro _ w16 ⟨rfl, hbw17⟩
    replace hb := hb.trans (hbw17.mono hb.size)
    refine sr_end (l' := [(0, str s_0), (3, .int .i64 i_3), (27, .bool z13)]) (.cons rfl (.cons rfl (.cons rfl (.nil _)))) ?_
    refine ke_cond (t := z13) rfl (fun hc19 => ?_) (fun hc19 => ?_)
    ·replace hS := ite_true' hS hc19
     refine ke_seq ?_
     refine ke_region ?_
     refine sr_ev (v := .bool false) (ev_assign rfl) (by decide) ?_
     refine sr_end (l' := [(2, .bool false)]) (.cons rfl (.nil _)) ?_
     cases hS
     exact ke_ret1 Tryz.func84 rfl rfl ⟨_, rfl, rfl, hb⟩
    ·replace hS := ite_false' hS hc19
     refine ke_skip ?_
     refine ke_inBlock ?_
     refine ke_region ?_
     refine sr_ev (v := .int .i64 i_3) (ev_move rfl) (by decide) ?_
     refine sr_ev (v := .int .i64 (IntKind.i64.wrap (i_3 + 1))) (ev_add rfl rfl) (by decide) ?_
     refine sr_ev (v := .int .i64 (IntKind.i64.wrap (i_3 + 1))) (ev_assign rfl) (by decide) ?_
     refine sr_end (l' := [(0, str s_0), (3, .int .i64 (IntKind.i64.wrap (i_3 + 1)))]) (.cons rfl (.cons rfl (.nil _))) ?_
     have hK := hr0 hS hb
     exact ke_weaken (l' := [(0, str s_0), (3, .int .i64 (IntKind.i64.wrap (i_3 + 1)))]) (.cons rfl (.cons rfl (.nil _))) hK
   ·intro K12
    clear hS
    have hj14 := Below.refl w.heap.size w
    rcases Bool.eq_false_or_eq_true (decide ((byteAt s_0 i_3) < 32)) with hg11 | hg11
    ·have hS := ite_true' hz15 hg11
     refine sr_pass (e := 22) rfl rfl (by rw [hg11]; rfl) (by decide) ?_
     refine sr_pass (e := 22) rfl rfl (by rw [hg11]; rfl) (by decide) ?_
     refine sr_pass (e := 22) rfl rfl (by rw [hg11]; rfl) (by decide) ?_
     refine sr_pass (e := 22) rfl rfl (by rw [hg11]; rfl) (by decide) ?_
     refine sr_ev (v := .bool true) (ev_pick_t rfl hg11 rfl) (by decide) ?_
     exact sr_weaken (l' := [(0, str s_0), (3, .int .i64 i_3), (27, .bool true)]) (.cons rfl (.cons rfl (.cons rfl (.nil _)))) (K12 true _ ⟨(Option.some.inj hS).symm, hj14⟩)
    ·have hS := ite_false' hz15 hg11
     refine sr_evg (b := false) (e := 22) rfl rfl hg11 (v := str s_0) (ev_move rfl) (by decide) ?_
     refine sr_evg (b := false) (e := 22) rfl rfl hg11 (v := .int .i64 i_3) (ev_move rfl) (by decide) ?_
     obtain ⟨hk18, hS⟩ := chk_some hS
     refine sr_evg (b := false) (e := 22) rfl rfl hg11 (v := .int .u8 (byteAt s_0 i_3)) (ev_sindex Tryz.underlying9 rfl rfl hk18) (by decide) ?_
     refine sr_evg (b := false) (e := 22) rfl rfl hg11 (v := .bool (decide ((byteAt s_0 i_3) > 126))) (ev_gt rfl rfl) (by decide) ?_
     refine sr_ev (v := .bool (decide ((byteAt s_0 i_3) > 126))) (ev_pick_f rfl hg11 rfl) (by decide) ?_
     exact sr_weaken (l' := [(0, str s_0), (3, .int .i64 i_3), (27, .bool (decide ((byteAt s_0 i_3) > 126)))]) (.cons rfl (.cons rfl (.cons rfl (.nil _)))) (K12 (decide ((byteAt s_0 i_3) > 126)) _ ⟨(Option.some.inj hS).symm, hj14⟩)
  ·replace hS := ite_false' hS hc9
   refine ke_exit (k' := _) rfl ?_
   refine ke_seq ?_
   refine ke_region ?_
   refine sr_ev (v := .bool true) (ev_assign rfl) (by decide) ?_
   refine sr_end (l' := [(2, .bool true)]) (.cons rfl (.nil _)) ?_
   cases hS
   exact ke_ret1 Tryz.func84 rfl rfl ⟨_, rfl, rfl, hb⟩
theorem ref22_Password_ok (w0 : World) (hg : Gs w0) {s_0 : Str} {r : Bool} (hS : ref22_Password s_0 = some r) :
  Calls Tryz.prog 84 #[str s_0] w0 (Ret (fun v w' => v = .bool r ∧ Below w0.heap.size w0 w')) := by
 unfold ref22_Password at hS
 have hb := Below.refl w0.heap.size w0
 refine calls_of_ke Tryz.func84 rfl (n := 28) rfl rfl (l := [(0, str s_0)]) rfl ?_
 refine ke_seq ?_
 refine ke_region ?_
 refine sr_ev (v := .bool false) (ev_assign rfl) (by decide) ?_
 refine sr_end (l' := [(0, str s_0)]) (.cons rfl (.nil _)) ?_
 refine ke_seq ?_
 refine ke_seq ?_
 refine ke_region ?_
 refine sr_ev (v := str s_0) (ev_move rfl) (by decide) ?_
 refine sr_ev (v := .int .i64 (s_0.length : Int)) (ev_slen Tryz.underlying9 rfl) (by decide) ?_
 refine sr_ev (v := .bool (decide ((s_0.length : Int) < 8))) (ev_lt rfl rfl) (by decide) ?_
 refine sr_ev (v := .bool (decide ((s_0.length : Int) < 8))) (ev_move rfl) (by decide) ?_
 refine sr_join (m := 4) (C := fun (x : Bool) w1 => x = ((decide ((s_0.length : Int) < 8)) || (decide ((s_0.length : Int) > 256))) ∧ w0 = w1) (l' := fun x => [(0, str s_0), (11, .bool x)]) ?_ ?_
 ·rintro _ _ ⟨rfl, rfl⟩
  refine sr_end (l' := [(0, str s_0), (11, .bool ((decide ((s_0.length : Int) < 8)) || (decide ((s_0.length : Int) > 256))))]) (.cons rfl (.cons rfl (.nil _))) ?_
  refine ke_cond (t := (decide ((s_0.length : Int) < 8)) || (decide ((s_0.length : Int) > 256))) rfl (fun hc8 => ?_) (fun hc8 => ?_)
  ·replace hS := ite_true' hS hc8
   refine ke_seq ?_
   refine ke_region ?_
   refine sr_ev (v := .bool false) (ev_assign rfl) (by decide) ?_
   refine sr_end (l' := [(2, .bool false)]) (.cons rfl (.nil _)) ?_
   cases hS
   exact ke_ret1 Tryz.func84 rfl rfl ⟨_, rfl, rfl, hb⟩
  ·replace hS := ite_false' hS hc8
   refine ke_skip ?_
   refine ke_seq ?_
   refine ke_seq ?_
   refine ke_region ?_
   refine sr_ev (v := .int .i64 0) (ev_assign rfl) (by decide) ?_
   refine sr_end (l' := [(0, str s_0), (3, .int .i64 0)]) (.cons rfl (.cons rfl (.nil _))) ?_
   refine ke_block ?_
   have hK := ref22_Password_L1_ok hg _ hS hb
   exact ke_weaken (l' := [(0, str s_0), (3, .int .i64 0)]) (.cons rfl (.cons rfl (.nil _))) (ke_loop hK)
 ·intro K2
  rcases Bool.eq_false_or_eq_true (decide ((s_0.length : Int) < 8)) with hg1 | hg1
  ·refine sr_pass (e := 7) rfl rfl (by rw [hg1]; rfl) (by decide) ?_
   refine sr_pass (e := 7) rfl rfl (by rw [hg1]; rfl) (by decide) ?_
   refine sr_pass (e := 7) rfl rfl (by rw [hg1]; rfl) (by decide) ?_
   refine sr_ev (v := .bool true) (ev_pick_t rfl hg1 rfl) (by decide) ?_
   exact sr_weaken (l' := [(0, str s_0), (11, .bool true)]) (.cons rfl (.cons rfl (.nil _))) (K2 true _ ⟨by rw [hg1]; rfl, rfl⟩)
  ·refine sr_evg (b := false) (e := 7) rfl rfl hg1 (v := str s_0) (ev_move rfl) (by decide) ?_
   refine sr_evg (b := false) (e := 7) rfl rfl hg1 (v := .int .i64 (s_0.length : Int)) (ev_slen Tryz.underlying9 rfl) (by decide) ?_
   refine sr_evg (b := false) (e := 7) rfl rfl hg1 (v := .bool (decide ((s_0.length : Int) > 256))) (ev_gt rfl rfl) (by decide) ?_
   refine sr_ev (v := .bool (decide ((s_0.length : Int) > 256))) (ev_pick_f rfl hg1 rfl) (by decide) ?_
   exact sr_weaken (l' := [(0, str s_0), (11, .bool (decide ((s_0.length : Int) > 256)))]) (.cons rfl (.cons rfl (.nil _))) (K2 (decide ((s_0.length : Int) > 256)) _ ⟨by rw [hg1]; rfl, rfl⟩)
theorem ref03_Sum_L1_ok {w0 : World} (hg : Gs w0) : ∀ (n : Nat), ∀ {r : Int} {s_0 : Str} {h_3 : Int} {i_4 : Int}, ref03_Sum_L1 n s_0 h_3 i_4 = some r → ∀ {w : World}, (Below w0.heap.size w0 w) → KE Tryz.prog 106 (Ret (fun v w' => v = .int .u64 r ∧ Below w0.heap.size w0 w')) 34 [.code (sub (bodyOf Tryz.f106) [2, 2, 1, 2, 2, 1]), .inLoop (sub (bodyOf Tryz.f106) [2, 2, 1, 2, 2, 1]), .inBlock 0, .code (sub (bodyOf Tryz.f106) [2, 2, 2])] [(0, str s_0), (3, .int .u64 h_3), (4, .int .i64 i_4)] w := by
 intro n
 induction n with
 | zero => intro r s_0 h_3 i_4 hS; cases hS
 | succ n ih =>
  have hr0 : ∀ {r : Int} {s_0 : Str} {h_3 : Int} {i_4 : Int}, ref03_Sum_L1 n s_0 h_3 i_4 = some r → ∀ {w : World}, (Below w0.heap.size w0 w) → KE Tryz.prog 106 (Ret (fun v w' => v = .int .u64 r ∧ Below w0.heap.size w0 w')) 34 [.inLoop (sub (bodyOf Tryz.f106) [2, 2, 1, 2, 2, 1]), .inBlock 0, .code (sub (bodyOf Tryz.f106) [2, 2, 2])] [(0, str s_0), (3, .int .u64 h_3), (4, .int .i64 i_4)] w := fun {r} {s_0} {h_3} {i_4} hS {w} hb => ke_inLoop (ih hS hb)
  clear ih
  intro r s_0 h_3 i_4 hS w hb
  unfold ref03_Sum_L1 at hS
  refine ke_seq ?_
  refine ke_seq ?_
  refine ke_region ?_
  refine sr_ev (v := .int .i64 i_4) (ev_move rfl) (by decide) ?_
  refine sr_ev (v := str s_0) (ev_move rfl) (by decide) ?_
  refine sr_ev (v := .int .i64 (s_0.length : Int)) (ev_slen Tryz.underlying9 rfl) (by decide) ?_
  refine sr_ev (v := .bool (decide (i_4 < (s_0.length : Int)))) (ev_lt rfl rfl) (by decide) ?_
  refine sr_end (l' := [(0, str s_0), (3, .int .u64 h_3), (4, .int .i64 i_4), (8, .bool (decide (i_4 < (s_0.length : Int))))]) (.cons rfl (.cons rfl (.cons rfl (.cons rfl (.nil _))))) ?_
  refine ke_cond (t := decide (i_4 < (s_0.length : Int))) rfl (fun hc1 => ?_) (fun hc1 => ?_)
  ·replace hS := ite_true' hS hc1
   refine ke_skip ?_
   refine ke_seq ?_
   refine ke_block ?_
   refine ke_region ?_
   refine sr_ev (v := .int .u64 h_3) (ev_move rfl) (by decide) ?_
   refine sr_ev (v := str s_0) (ev_move rfl) (by decide) ?_
   refine sr_ev (v := .int .i64 i_4) (ev_move rfl) (by decide) ?_
   obtain ⟨hk2, hS⟩ := chk_some hS
   refine sr_ev (v := .int .u8 (byteAt s_0 i_4)) (ev_sindex Tryz.underlying9 rfl rfl hk2) (by decide) ?_
   refine sr_ev (v := .int .u64 (IntKind.u64.wrap (byteAt s_0 i_4))) (ev_conv Tryz.underlying86 Tryz.underlying5 rfl) (by decide) ?_
   refine sr_ev (v := .int .u64 (bXor .u64 h_3 (IntKind.u64.wrap (byteAt s_0 i_4)))) (ev_xor rfl rfl) (by decide) ?_
   refine sr_ev (v := .int .u64 (IntKind.u64.wrap ((bXor .u64 h_3 (IntKind.u64.wrap (byteAt s_0 i_4))) * 1099511628211))) (ev_mul rfl rfl) (by decide) ?_
   refine sr_ev (v := .int .u64 (IntKind.u64.wrap ((bXor .u64 h_3 (IntKind.u64.wrap (byteAt s_0 i_4))) * 1099511628211))) (ev_assign rfl) (by decide) ?_
   refine sr_end (l' := [(0, str s_0), (3, .int .u64 (IntKind.u64.wrap ((bXor .u64 h_3 (IntKind.u64.wrap (byteAt s_0 i_4))) * 1099511628211))), (4, .int .i64 i_4)]) (.cons rfl (.cons rfl (.cons rfl (.nil _)))) ?_
   refine ke_inBlock ?_
   refine ke_region ?_
   refine sr_ev (v := .int .i64 i_4) (ev_move rfl) (by decide) ?_
   refine sr_ev (v := .int .i64 (IntKind.i64.wrap (i_4 + 1))) (ev_add rfl rfl) (by decide) ?_
   refine sr_ev (v := .int .i64 (IntKind.i64.wrap (i_4 + 1))) (ev_assign rfl) (by decide) ?_
   refine sr_end (l' := [(0, str s_0), (3, .int .u64 (IntKind.u64.wrap ((bXor .u64 h_3 (IntKind.u64.wrap (byteAt s_0 i_4))) * 1099511628211))), (4, .int .i64 (IntKind.i64.wrap (i_4 + 1)))]) (.cons rfl (.cons rfl (.cons rfl (.nil _)))) ?_
   have hK := hr0 hS hb
   exact ke_weaken (l' := [(0, str s_0), (3, .int .u64 (IntKind.u64.wrap ((bXor .u64 h_3 (IntKind.u64.wrap (byteAt s_0 i_4))) * 1099511628211))), (4, .int .i64 (IntKind.i64.wrap (i_4 + 1)))]) (.cons rfl (.cons rfl (.cons rfl (.nil _)))) hK
  ·replace hS := ite_false' hS hc1
   refine ke_exit (k' := _) rfl ?_
   refine ke_seq ?_
   refine ke_region ?_
   refine sr_ev (v := .int .u64 h_3) (ev_move rfl) (by decide) ?_
   refine sr_ev (v := .int .u64 h_3) (ev_move rfl) (by decide) ?_
   refine sr_ev (v := .int .u64 (bShr .u64 h_3 33)) (ev_shr rfl rfl (by decide)) (by decide) ?_
   refine sr_ev (v := .int .u64 (bXor .u64 h_3 (bShr .u64 h_3 33))) (ev_xor rfl rfl) (by decide) ?_
   refine sr_ev (v := .int .u64 (bXor .u64 h_3 (bShr .u64 h_3 33))) (ev_assign rfl) (by decide) ?_
   refine sr_end (l' := [(3, .int .u64 (bXor .u64 h_3 (bShr .u64 h_3 33)))]) (.cons rfl (.nil _)) ?_
   refine ke_seq ?_
   refine ke_region ?_
   refine sr_ev (v := .int .u64 (bXor .u64 h_3 (bShr .u64 h_3 33))) (ev_move rfl) (by decide) ?_
   refine sr_ev (v := .int .u64 (IntKind.u64.wrap ((bXor .u64 h_3 (bShr .u64 h_3 33)) * 18397679294719823053))) (ev_mul rfl rfl) (by decide) ?_
   refine sr_ev (v := .int .u64 (IntKind.u64.wrap ((bXor .u64 h_3 (bShr .u64 h_3 33)) * 18397679294719823053))) (ev_assign rfl) (by decide) ?_
   refine sr_end (l' := [(3, .int .u64 (IntKind.u64.wrap ((bXor .u64 h_3 (bShr .u64 h_3 33)) * 18397679294719823053)))]) (.cons rfl (.nil _)) ?_
   refine ke_seq ?_
   refine ke_region ?_
   refine sr_ev (v := .int .u64 (IntKind.u64.wrap ((bXor .u64 h_3 (bShr .u64 h_3 33)) * 18397679294719823053))) (ev_move rfl) (by decide) ?_
   refine sr_ev (v := .int .u64 (IntKind.u64.wrap ((bXor .u64 h_3 (bShr .u64 h_3 33)) * 18397679294719823053))) (ev_move rfl) (by decide) ?_
   refine sr_ev (v := .int .u64 (bShr .u64 (IntKind.u64.wrap ((bXor .u64 h_3 (bShr .u64 h_3 33)) * 18397679294719823053)) 33)) (ev_shr rfl rfl (by decide)) (by decide) ?_
   refine sr_ev (v := .int .u64 (bXor .u64 (IntKind.u64.wrap ((bXor .u64 h_3 (bShr .u64 h_3 33)) * 18397679294719823053)) (bShr .u64 (IntKind.u64.wrap ((bXor .u64 h_3 (bShr .u64 h_3 33)) * 18397679294719823053)) 33))) (ev_xor rfl rfl) (by decide) ?_
   refine sr_ev (v := .int .u64 (bXor .u64 (IntKind.u64.wrap ((bXor .u64 h_3 (bShr .u64 h_3 33)) * 18397679294719823053)) (bShr .u64 (IntKind.u64.wrap ((bXor .u64 h_3 (bShr .u64 h_3 33)) * 18397679294719823053)) 33))) (ev_assign rfl) (by decide) ?_
   refine sr_end (l' := [(3, .int .u64 (bXor .u64 (IntKind.u64.wrap ((bXor .u64 h_3 (bShr .u64 h_3 33)) * 18397679294719823053)) (bShr .u64 (IntKind.u64.wrap ((bXor .u64 h_3 (bShr .u64 h_3 33)) * 18397679294719823053)) 33)))]) (.cons rfl (.nil _)) ?_
   refine ke_seq ?_
   refine ke_region ?_
   refine sr_ev (v := .int .u64 (bXor .u64 (IntKind.u64.wrap ((bXor .u64 h_3 (bShr .u64 h_3 33)) * 18397679294719823053)) (bShr .u64 (IntKind.u64.wrap ((bXor .u64 h_3 (bShr .u64 h_3 33)) * 18397679294719823053)) 33))) (ev_move rfl) (by decide) ?_
   refine sr_ev (v := .int .u64 (IntKind.u64.wrap ((bXor .u64 (IntKind.u64.wrap ((bXor .u64 h_3 (bShr .u64 h_3 33)) * 18397679294719823053)) (bShr .u64 (IntKind.u64.wrap ((bXor .u64 h_3 (bShr .u64 h_3 33)) * 18397679294719823053)) 33)) * 14181476777654086739))) (ev_mul rfl rfl) (by decide) ?_
   refine sr_ev (v := .int .u64 (IntKind.u64.wrap ((bXor .u64 (IntKind.u64.wrap ((bXor .u64 h_3 (bShr .u64 h_3 33)) * 18397679294719823053)) (bShr .u64 (IntKind.u64.wrap ((bXor .u64 h_3 (bShr .u64 h_3 33)) * 18397679294719823053)) 33)) * 14181476777654086739))) (ev_assign rfl) (by decide) ?_
   refine sr_end (l' := [(3, .int .u64 (IntKind.u64.wrap ((bXor .u64 (IntKind.u64.wrap ((bXor .u64 h_3 (bShr .u64 h_3 33)) * 18397679294719823053)) (bShr .u64 (IntKind.u64.wrap ((bXor .u64 h_3 (bShr .u64 h_3 33)) * 18397679294719823053)) 33)) * 14181476777654086739)))]) (.cons rfl (.nil _)) ?_
   refine ke_seq ?_
   refine ke_region ?_
   refine sr_ev (v := .int .u64 (IntKind.u64.wrap ((bXor .u64 (IntKind.u64.wrap ((bXor .u64 h_3 (bShr .u64 h_3 33)) * 18397679294719823053)) (bShr .u64 (IntKind.u64.wrap ((bXor .u64 h_3 (bShr .u64 h_3 33)) * 18397679294719823053)) 33)) * 14181476777654086739))) (ev_move rfl) (by decide) ?_
   refine sr_ev (v := .int .u64 (IntKind.u64.wrap ((bXor .u64 (IntKind.u64.wrap ((bXor .u64 h_3 (bShr .u64 h_3 33)) * 18397679294719823053)) (bShr .u64 (IntKind.u64.wrap ((bXor .u64 h_3 (bShr .u64 h_3 33)) * 18397679294719823053)) 33)) * 14181476777654086739))) (ev_move rfl) (by decide) ?_
   refine sr_ev (v := .int .u64 (bShr .u64 (IntKind.u64.wrap ((bXor .u64 (IntKind.u64.wrap ((bXor .u64 h_3 (bShr .u64 h_3 33)) * 18397679294719823053)) (bShr .u64 (IntKind.u64.wrap ((bXor .u64 h_3 (bShr .u64 h_3 33)) * 18397679294719823053)) 33)) * 14181476777654086739)) 33)) (ev_shr rfl rfl (by decide)) (by decide) ?_
   refine sr_ev (v := .int .u64 (bXor .u64 (IntKind.u64.wrap ((bXor .u64 (IntKind.u64.wrap ((bXor .u64 h_3 (bShr .u64 h_3 33)) * 18397679294719823053)) (bShr .u64 (IntKind.u64.wrap ((bXor .u64 h_3 (bShr .u64 h_3 33)) * 18397679294719823053)) 33)) * 14181476777654086739)) (bShr .u64 (IntKind.u64.wrap ((bXor .u64 (IntKind.u64.wrap ((bXor .u64 h_3 (bShr .u64 h_3 33)) * 18397679294719823053)) (bShr .u64 (IntKind.u64.wrap ((bXor .u64 h_3 (bShr .u64 h_3 33)) * 18397679294719823053)) 33)) * 14181476777654086739)) 33))) (ev_xor rfl rfl) (by decide) ?_
   refine sr_ev (v := .int .u64 (bXor .u64 (IntKind.u64.wrap ((bXor .u64 (IntKind.u64.wrap ((bXor .u64 h_3 (bShr .u64 h_3 33)) * 18397679294719823053)) (bShr .u64 (IntKind.u64.wrap ((bXor .u64 h_3 (bShr .u64 h_3 33)) * 18397679294719823053)) 33)) * 14181476777654086739)) (bShr .u64 (IntKind.u64.wrap ((bXor .u64 (IntKind.u64.wrap ((bXor .u64 h_3 (bShr .u64 h_3 33)) * 18397679294719823053)) (bShr .u64 (IntKind.u64.wrap ((bXor .u64 h_3 (bShr .u64 h_3 33)) * 18397679294719823053)) 33)) * 14181476777654086739)) 33))) (ev_assign rfl) (by decide) ?_
   refine sr_end (l' := [(2, .int .u64 (bXor .u64 (IntKind.u64.wrap ((bXor .u64 (IntKind.u64.wrap ((bXor .u64 h_3 (bShr .u64 h_3 33)) * 18397679294719823053)) (bShr .u64 (IntKind.u64.wrap ((bXor .u64 h_3 (bShr .u64 h_3 33)) * 18397679294719823053)) 33)) * 14181476777654086739)) (bShr .u64 (IntKind.u64.wrap ((bXor .u64 (IntKind.u64.wrap ((bXor .u64 h_3 (bShr .u64 h_3 33)) * 18397679294719823053)) (bShr .u64 (IntKind.u64.wrap ((bXor .u64 h_3 (bShr .u64 h_3 33)) * 18397679294719823053)) 33)) * 14181476777654086739)) 33)))]) (.cons rfl (.nil _)) ?_
   cases hS
   exact ke_ret1 Tryz.func106 rfl rfl ⟨_, rfl, rfl, hb⟩
theorem ref03_Sum_ok (w0 : World) (hg : Gs w0) {s_0 : Str} {r : Int} (hS : ref03_Sum s_0 = some r) :
  Calls Tryz.prog 106 #[str s_0] w0 (Ret (fun v w' => v = .int .u64 r ∧ Below w0.heap.size w0 w')) := by
 unfold ref03_Sum at hS
 have hb := Below.refl w0.heap.size w0
 refine calls_of_ke Tryz.func106 rfl (n := 34) rfl rfl (l := [(0, str s_0)]) rfl ?_
 refine ke_seq ?_
 refine ke_region ?_
 refine sr_ev (v := .int .u64 0) (ev_assign rfl) (by decide) ?_
 refine sr_end (l' := [(0, str s_0)]) (.cons rfl (.nil _)) ?_
 refine ke_seq ?_
 refine ke_region ?_
 refine sr_ev (v := .int .u64 14695981039346656037) (ev_assign rfl) (by decide) ?_
 refine sr_end (l' := [(0, str s_0), (3, .int .u64 14695981039346656037)]) (.cons rfl (.cons rfl (.nil _))) ?_
 refine ke_seq ?_
 refine ke_seq ?_
 refine ke_region ?_
 refine sr_ev (v := .int .i64 0) (ev_assign rfl) (by decide) ?_
 refine sr_end (l' := [(0, str s_0), (3, .int .u64 14695981039346656037), (4, .int .i64 0)]) (.cons rfl (.cons rfl (.cons rfl (.nil _)))) ?_
 refine ke_block ?_
 have hK := ref03_Sum_L1_ok hg _ hS hb
 exact ke_weaken (l' := [(0, str s_0), (3, .int .u64 14695981039346656037), (4, .int .i64 0)]) (.cons rfl (.cons rfl (.cons rfl (.nil _)))) (ke_loop hK)
theorem ref03_Hex_L1_ok {w0 : World} (hg : Gs w0) : ∀ (n : Nat), ∀ {r : Str} {n_0 : Int} {s_3 : Str} {i_4 : Int}, ref03_Hex_L1 n n_0 s_3 i_4 = some r → ∀ {w : World}, (Below w0.heap.size w0 w) → KE Tryz.prog 105 (Ret (fun v w' => v = str r ∧ Below w0.heap.size w0 w')) 21 [.code (sub (bodyOf Tryz.f105) [2, 2, 1, 2, 2, 1]), .inLoop (sub (bodyOf Tryz.f105) [2, 2, 1, 2, 2, 1]), .inBlock 0, .code (sub (bodyOf Tryz.f105) [2, 2, 2])] [(0, .int .u64 n_0), (3, str s_3), (4, .int .i64 i_4)] w := by
 intro n
 induction n with
 | zero => intro r n_0 s_3 i_4 hS; cases hS
 | succ n ih =>
  have hr0 : ∀ {r : Str} {n_0 : Int} {s_3 : Str} {i_4 : Int}, ref03_Hex_L1 n n_0 s_3 i_4 = some r → ∀ {w : World}, (Below w0.heap.size w0 w) → KE Tryz.prog 105 (Ret (fun v w' => v = str r ∧ Below w0.heap.size w0 w')) 21 [.inLoop (sub (bodyOf Tryz.f105) [2, 2, 1, 2, 2, 1]), .inBlock 0, .code (sub (bodyOf Tryz.f105) [2, 2, 2])] [(0, .int .u64 n_0), (3, str s_3), (4, .int .i64 i_4)] w := fun {r} {n_0} {s_3} {i_4} hS {w} hb => ke_inLoop (ih hS hb)
  clear ih
  intro r n_0 s_3 i_4 hS w hb
  unfold ref03_Hex_L1 at hS
  refine ke_seq ?_
  refine ke_seq ?_
  refine ke_region ?_
  refine sr_ev (v := .int .i64 i_4) (ev_move rfl) (by decide) ?_
  refine sr_ev (v := .bool (decide (i_4 < 16))) (ev_lt rfl rfl) (by decide) ?_
  refine sr_end (l' := [(0, .int .u64 n_0), (3, str s_3), (4, .int .i64 i_4), (7, .bool (decide (i_4 < 16)))]) (.cons rfl (.cons rfl (.cons rfl (.cons rfl (.nil _))))) ?_
  refine ke_cond (t := decide (i_4 < 16)) rfl (fun hc1 => ?_) (fun hc1 => ?_)
  ·replace hS := ite_true' hS hc1
   refine ke_skip ?_
   refine ke_seq ?_
   refine ke_block ?_
   refine ke_seq ?_
   refine ke_region ?_
   refine sr_ev (v := .int .u64 n_0) (ev_move rfl) (by decide) ?_
   refine sr_ev (v := .int .u64 (Int.tmod n_0 16)) (ev_rem rfl rfl (by decide)) (by decide) ?_
   refine sr_ev (v := .int .u64 (Int.tmod n_0 16)) (ev_assign rfl) (by decide) ?_
   refine sr_end (l' := [(0, .int .u64 n_0), (3, str s_3), (4, .int .i64 i_4), (5, .int .u64 (Int.tmod n_0 16))]) (.cons rfl (.cons rfl (.cons rfl (.cons rfl (.nil _))))) ?_
   refine ke_seq ?_
   refine ke_region ?_
   refine sr_ev (v := .int .u64 (Int.tmod n_0 16)) (ev_move rfl) (by decide) ?_
   refine sr_ev (v := .int .u64 (Int.tmod n_0 16)) (ev_move rfl) (by decide) ?_
   refine sr_ev (v := .int .u64 (IntKind.u64.wrap ((Int.tmod n_0 16) + 1))) (ev_add rfl rfl) (by decide) ?_
   obtain ⟨hk2, hS⟩ := chk_some hS
   refine sr_ev (v := str (cut ([48, 49, 50, 51, 52, 53, 54, 55, 56, 57, 97, 98, 99, 100, 101, 102]) (Int.tmod n_0 16) (IntKind.u64.wrap ((Int.tmod n_0 16) + 1)))) (ev_sslice Tryz.underlying9 rfl rfl rfl hk2) (by decide) ?_
   refine sr_ev (v := str s_3) (ev_move rfl) (by decide) ?_
   obtain ⟨hk3, hS⟩ := chk_some hS
   refine sr_ev (v := str ((cut ([48, 49, 50, 51, 52, 53, 54, 55, 56, 57, 97, 98, 99, 100, 101, 102]) (Int.tmod n_0 16) (IntKind.u64.wrap ((Int.tmod n_0 16) + 1))) ++ s_3)) (ev_cat rfl rfl hk3) (by decide) ?_
   refine sr_ev (v := str ((cut ([48, 49, 50, 51, 52, 53, 54, 55, 56, 57, 97, 98, 99, 100, 101, 102]) (Int.tmod n_0 16) (IntKind.u64.wrap ((Int.tmod n_0 16) + 1))) ++ s_3)) (ev_assign rfl) (by decide) ?_
   refine sr_end (l' := [(0, .int .u64 n_0), (3, str ((cut ([48, 49, 50, 51, 52, 53, 54, 55, 56, 57, 97, 98, 99, 100, 101, 102]) (Int.tmod n_0 16) (IntKind.u64.wrap ((Int.tmod n_0 16) + 1))) ++ s_3)), (4, .int .i64 i_4)]) (.cons rfl (.cons rfl (.cons rfl (.nil _)))) ?_
   refine ke_region ?_
   refine sr_ev (v := .int .u64 n_0) (ev_move rfl) (by decide) ?_
   refine sr_ev (v := .int .u64 (IntKind.u64.wrap (n_0.tdiv 16))) (ev_quo rfl rfl (by decide)) (by decide) ?_
   refine sr_ev (v := .int .u64 (IntKind.u64.wrap (n_0.tdiv 16))) (ev_assign rfl) (by decide) ?_
   refine sr_end (l' := [(0, .int .u64 (IntKind.u64.wrap (n_0.tdiv 16))), (3, str ((cut ([48, 49, 50, 51, 52, 53, 54, 55, 56, 57, 97, 98, 99, 100, 101, 102]) (Int.tmod n_0 16) (IntKind.u64.wrap ((Int.tmod n_0 16) + 1))) ++ s_3)), (4, .int .i64 i_4)]) (.cons rfl (.cons rfl (.cons rfl (.nil _)))) ?_
   refine ke_inBlock ?_
   refine ke_region ?_
   refine sr_ev (v := .int .i64 i_4) (ev_move rfl) (by decide) ?_
   refine sr_ev (v := .int .i64 (IntKind.i64.wrap (i_4 + 1))) (ev_add rfl rfl) (by decide) ?_
   refine sr_ev (v := .int .i64 (IntKind.i64.wrap (i_4 + 1))) (ev_assign rfl) (by decide) ?_
   refine sr_end (l' := [(0, .int .u64 (IntKind.u64.wrap (n_0.tdiv 16))), (3, str ((cut ([48, 49, 50, 51, 52, 53, 54, 55, 56, 57, 97, 98, 99, 100, 101, 102]) (Int.tmod n_0 16) (IntKind.u64.wrap ((Int.tmod n_0 16) + 1))) ++ s_3)), (4, .int .i64 (IntKind.i64.wrap (i_4 + 1)))]) (.cons rfl (.cons rfl (.cons rfl (.nil _)))) ?_
   have hK := hr0 hS hb
   exact ke_weaken (l' := [(0, .int .u64 (IntKind.u64.wrap (n_0.tdiv 16))), (3, str ((cut ([48, 49, 50, 51, 52, 53, 54, 55, 56, 57, 97, 98, 99, 100, 101, 102]) (Int.tmod n_0 16) (IntKind.u64.wrap ((Int.tmod n_0 16) + 1))) ++ s_3)), (4, .int .i64 (IntKind.i64.wrap (i_4 + 1)))]) (.cons rfl (.cons rfl (.cons rfl (.nil _)))) hK
  ·replace hS := ite_false' hS hc1
   refine ke_exit (k' := _) rfl ?_
   refine ke_seq ?_
   refine ke_region ?_
   refine sr_ev (v := str s_3) (ev_move rfl) (by decide) ?_
   refine sr_ev (v := str s_3) (ev_assign rfl) (by decide) ?_
   refine sr_end (l' := [(2, str s_3)]) (.cons rfl (.nil _)) ?_
   cases hS
   exact ke_ret1 Tryz.func105 rfl rfl ⟨_, rfl, rfl, hb⟩
theorem ref03_Hex_ok (w0 : World) (hg : Gs w0) {n_0 : Int} {r : Str} (hS : ref03_Hex n_0 = some r) :
  Calls Tryz.prog 105 #[.int .u64 n_0] w0 (Ret (fun v w' => v = str r ∧ Below w0.heap.size w0 w')) := by
 unfold ref03_Hex at hS
 have hb := Below.refl w0.heap.size w0
 refine calls_of_ke Tryz.func105 rfl (n := 21) rfl rfl (l := [(0, .int .u64 n_0)]) rfl ?_
 refine ke_seq ?_
 refine ke_region ?_
 refine sr_ev (v := str ([])) (ev_assign rfl) (by decide) ?_
 refine sr_end (l' := [(0, .int .u64 n_0)]) (.cons rfl (.nil _)) ?_
 refine ke_seq ?_
 refine ke_region ?_
 refine sr_ev (v := str ([])) (ev_assign rfl) (by decide) ?_
 refine sr_end (l' := [(0, .int .u64 n_0), (3, str ([]))]) (.cons rfl (.cons rfl (.nil _))) ?_
 refine ke_seq ?_
 refine ke_seq ?_
 refine ke_region ?_
 refine sr_ev (v := .int .i64 0) (ev_assign rfl) (by decide) ?_
 refine sr_end (l' := [(0, .int .u64 n_0), (3, str ([])), (4, .int .i64 0)]) (.cons rfl (.cons rfl (.cons rfl (.nil _)))) ?_
 refine ke_block ?_
 have hK := ref03_Hex_L1_ok hg _ hS hb
 exact ke_weaken (l' := [(0, .int .u64 n_0), (3, str ([])), (4, .int .i64 0)]) (.cons rfl (.cons rfl (.cons rfl (.nil _)))) (ke_loop hK)
theorem ref03_Text_ok (w0 : World) (hg : Gs w0) {s_0 : Str} {r : Str} (hS : ref03_Text s_0 = some r) :
  Calls Tryz.prog 96 #[str s_0] w0 (Ret (fun v w' => v = str r ∧ Below w0.heap.size w0 w')) := by
 unfold ref03_Text at hS
 have hb := Below.refl w0.heap.size w0
 refine calls_of_ke Tryz.func96 rfl (n := 6) rfl rfl (l := [(0, str s_0)]) rfl ?_
 refine ke_seq ?_
 refine ke_region ?_
 refine sr_ev (v := str ([])) (ev_assign rfl) (by decide) ?_
 refine sr_end (l' := [(0, str s_0)]) (.cons rfl (.nil _)) ?_
 refine ke_seq ?_
 refine ke_region ?_
 refine sr_ev (v := str s_0) (ev_move rfl) (by decide) ?_
 obtain ⟨y1, hy2, hS⟩ := bind_some' hS
 refine sr_call (vs := [str s_0]) rfl Tryz.call106 rfl (ref03_Sum_ok _ (hg.below hb) hy2) (by decide) ?_
 rintro _ w3 ⟨rfl, hbw4⟩
 replace hb := hb.trans (hbw4.mono hb.size)
 obtain ⟨y5, hy6, hS⟩ := bind_some' hS
 refine sr_call (vs := [.int .u64 y1]) rfl Tryz.call105 rfl (ref03_Hex_ok _ (hg.below hb) hy6) (by decide) ?_
 rintro _ w7 ⟨rfl, hbw8⟩
 replace hb := hb.trans (hbw8.mono hb.size)
 refine sr_ev (v := str y5) (ev_assign rfl) (by decide) ?_
 refine sr_end (l' := [(2, str y5)]) (.cons rfl (.nil _)) ?_
 cases hS
 exact ke_ret1 Tryz.func96 rfl rfl ⟨_, rfl, rfl, hb⟩
theorem ref03_Iterate_L1_ok {w0 : World} (hg : Gs w0) : ∀ (n : Nat), ∀ {r : Str} {salt_0 : Str} {rounds_2 : Int} {h_7 : Str} {i_8 : Int}, ref03_Iterate_L1 n salt_0 rounds_2 h_7 i_8 = some r → ∀ {w : World}, (Below w0.heap.size w0 w) → KE Tryz.prog 85 (Ret (fun v w' => v = str r ∧ Below w0.heap.size w0 w')) 29 [.code (sub (bodyOf Tryz.f85) [2, 2, 1, 2, 2, 1]), .inLoop (sub (bodyOf Tryz.f85) [2, 2, 1, 2, 2, 1]), .inBlock 0, .code (sub (bodyOf Tryz.f85) [2, 2, 2])] [(0, str salt_0), (2, .int .i64 rounds_2), (7, str h_7), (8, .int .i64 i_8)] w := by
 intro n
 induction n with
 | zero => intro r salt_0 rounds_2 h_7 i_8 hS; cases hS
 | succ n ih =>
  have hr0 : ∀ {r : Str} {salt_0 : Str} {rounds_2 : Int} {h_7 : Str} {i_8 : Int}, ref03_Iterate_L1 n salt_0 rounds_2 h_7 i_8 = some r → ∀ {w : World}, (Below w0.heap.size w0 w) → KE Tryz.prog 85 (Ret (fun v w' => v = str r ∧ Below w0.heap.size w0 w')) 29 [.inLoop (sub (bodyOf Tryz.f85) [2, 2, 1, 2, 2, 1]), .inBlock 0, .code (sub (bodyOf Tryz.f85) [2, 2, 2])] [(0, str salt_0), (2, .int .i64 rounds_2), (7, str h_7), (8, .int .i64 i_8)] w := fun {r} {salt_0} {rounds_2} {h_7} {i_8} hS {w} hb => ke_inLoop (ih hS hb)
  clear ih
  intro r salt_0 rounds_2 h_7 i_8 hS w hb
  unfold ref03_Iterate_L1 at hS
  refine ke_seq ?_
  refine ke_seq ?_
  refine ke_region ?_
  refine sr_ev (v := .int .i64 i_8) (ev_move rfl) (by decide) ?_
  refine sr_ev (v := .int .i64 rounds_2) (ev_move rfl) (by decide) ?_
  refine sr_ev (v := .bool (decide (i_8 < rounds_2))) (ev_lt rfl rfl) (by decide) ?_
  refine sr_ev (v := .bool (decide (i_8 < rounds_2))) (ev_move rfl) (by decide) ?_
  refine sr_join (m := 3) (C := fun (x : Bool) w1 => x = ((decide (i_8 < rounds_2)) && (decide (i_8 < 64))) ∧ w = w1) (l' := fun x => [(0, str salt_0), (2, .int .i64 rounds_2), (7, str h_7), (8, .int .i64 i_8), (20, .bool x)]) ?_ ?_
  ·rintro _ _ ⟨rfl, rfl⟩
   refine sr_end (l' := [(0, str salt_0), (2, .int .i64 rounds_2), (7, str h_7), (8, .int .i64 i_8), (20, .bool ((decide (i_8 < rounds_2)) && (decide (i_8 < 64))))]) (.cons rfl (.cons rfl (.cons rfl (.cons rfl (.cons rfl (.nil _)))))) ?_
   refine ke_cond (t := (decide (i_8 < rounds_2)) && (decide (i_8 < 64))) rfl (fun hc14 => ?_) (fun hc14 => ?_)
   ·replace hS := ite_true' hS hc14
    refine ke_skip ?_
    refine ke_seq ?_
    refine ke_block ?_
    refine ke_region ?_
    refine sr_ev (v := str h_7) (ev_move rfl) (by decide) ?_
    obtain ⟨hk15, hS⟩ := chk_some hS
    refine sr_ev (v := str (h_7 ++ ([124]))) (ev_cat rfl rfl hk15) (by decide) ?_
    refine sr_ev (v := str salt_0) (ev_move rfl) (by decide) ?_
    obtain ⟨hk16, hS⟩ := chk_some hS
    refine sr_ev (v := str ((h_7 ++ ([124])) ++ salt_0)) (ev_cat rfl rfl hk16) (by decide) ?_
    obtain ⟨y17, hy18, hS⟩ := bind_some' hS
    refine sr_call (vs := [str ((h_7 ++ ([124])) ++ salt_0)]) rfl Tryz.call96 rfl (ref03_Text_ok _ (hg.below hb) hy18) (by decide) ?_
    rintro _ w19 ⟨rfl, hbw20⟩
    replace hb := hb.trans (hbw20.mono hb.size)
    refine sr_ev (v := str y17) (ev_assign rfl) (by decide) ?_
    refine sr_end (l' := [(0, str salt_0), (2, .int .i64 rounds_2), (7, str y17), (8, .int .i64 i_8)]) (.cons rfl (.cons rfl (.cons rfl (.cons rfl (.nil _))))) ?_
    refine ke_inBlock ?_
    refine ke_region ?_
    refine sr_ev (v := .int .i64 i_8) (ev_move rfl) (by decide) ?_
    refine sr_ev (v := .int .i64 (IntKind.i64.wrap (i_8 + 1))) (ev_add rfl rfl) (by decide) ?_
    refine sr_ev (v := .int .i64 (IntKind.i64.wrap (i_8 + 1))) (ev_assign rfl) (by decide) ?_
    refine sr_end (l' := [(0, str salt_0), (2, .int .i64 rounds_2), (7, str y17), (8, .int .i64 (IntKind.i64.wrap (i_8 + 1)))]) (.cons rfl (.cons rfl (.cons rfl (.cons rfl (.nil _))))) ?_
    have hK := hr0 hS hb
    exact ke_weaken (l' := [(0, str salt_0), (2, .int .i64 rounds_2), (7, str y17), (8, .int .i64 (IntKind.i64.wrap (i_8 + 1)))]) (.cons rfl (.cons rfl (.cons rfl (.cons rfl (.nil _))))) hK
   ·replace hS := ite_false' hS hc14
    refine ke_exit (k' := _) rfl ?_
    refine ke_seq ?_
    refine ke_region ?_
    refine sr_ev (v := str h_7) (ev_move rfl) (by decide) ?_
    refine sr_ev (v := str h_7) (ev_assign rfl) (by decide) ?_
    refine sr_end (l' := [(6, str h_7)]) (.cons rfl (.nil _)) ?_
    cases hS
    exact ke_ret1 Tryz.func85 rfl rfl ⟨_, rfl, rfl, hb⟩
  ·intro K8
   rcases Bool.eq_false_or_eq_true (decide (i_8 < rounds_2)) with hg7 | hg7
   ·refine sr_evg (b := true) (e := 17) rfl rfl hg7 (v := .int .i64 i_8) (ev_move rfl) (by decide) ?_
    refine sr_evg (b := true) (e := 17) rfl rfl hg7 (v := .bool (decide (i_8 < 64))) (ev_lt rfl rfl) (by decide) ?_
    refine sr_ev (v := .bool (decide (i_8 < 64))) (ev_pick_t rfl hg7 rfl) (by decide) ?_
    exact sr_weaken (l' := [(0, str salt_0), (2, .int .i64 rounds_2), (7, str h_7), (8, .int .i64 i_8), (20, .bool (decide (i_8 < 64)))]) (.cons rfl (.cons rfl (.cons rfl (.cons rfl (.cons rfl (.nil _)))))) (K8 (decide (i_8 < 64)) _ ⟨by rw [hg7]; rfl, rfl⟩)
   ·refine sr_pass (e := 17) rfl rfl (by rw [hg7]; rfl) (by decide) ?_
    refine sr_pass (e := 17) rfl rfl (by rw [hg7]; rfl) (by decide) ?_
    refine sr_ev (v := .bool false) (ev_pick_f rfl hg7 rfl) (by decide) ?_
    exact sr_weaken (l' := [(0, str salt_0), (2, .int .i64 rounds_2), (7, str h_7), (8, .int .i64 i_8), (20, .bool false)]) (.cons rfl (.cons rfl (.cons rfl (.cons rfl (.cons rfl (.nil _)))))) (K8 false _ ⟨by rw [hg7]; rfl, rfl⟩)
theorem ref03_Iterate_ok (w0 : World) (hg : Gs w0) {salt_0 : Str} {s_1 : Str} {rounds_2 : Int} {r : Str} (hS : ref03_Iterate salt_0 s_1 rounds_2 = some r) :
  Calls Tryz.prog 85 #[str salt_0, str s_1, .int .i64 rounds_2] w0 (Ret (fun v w' => v = str r ∧ Below w0.heap.size w0 w')) := by
 unfold ref03_Iterate at hS
 have hb := Below.refl w0.heap.size w0
 refine calls_of_ke Tryz.func85 rfl (n := 29) rfl rfl (l := [(0, str salt_0), (1, str s_1), (2, .int .i64 rounds_2)]) rfl ?_
 refine ke_seq ?_
 refine ke_region ?_
 refine sr_ev (v := str ([])) (ev_assign rfl) (by decide) ?_
 refine sr_end (l' := [(0, str salt_0), (1, str s_1), (2, .int .i64 rounds_2)]) (.cons rfl (.cons rfl (.cons rfl (.nil _)))) ?_
 refine ke_seq ?_
 refine ke_region ?_
 refine sr_ev (v := str salt_0) (ev_move rfl) (by decide) ?_
 obtain ⟨hk1, hS⟩ := chk_some hS
 refine sr_ev (v := str (salt_0 ++ ([124]))) (ev_cat rfl rfl hk1) (by decide) ?_
 refine sr_ev (v := str s_1) (ev_move rfl) (by decide) ?_
 obtain ⟨hk2, hS⟩ := chk_some hS
 refine sr_ev (v := str ((salt_0 ++ ([124])) ++ s_1)) (ev_cat rfl rfl hk2) (by decide) ?_
 obtain ⟨y3, hy4, hS⟩ := bind_some' hS
 refine sr_call (vs := [str ((salt_0 ++ ([124])) ++ s_1)]) rfl Tryz.call96 rfl (ref03_Text_ok _ (hg.below hb) hy4) (by decide) ?_
 rintro _ w5 ⟨rfl, hbw6⟩
 replace hb := hb.trans (hbw6.mono hb.size)
 refine sr_ev (v := str y3) (ev_assign rfl) (by decide) ?_
 refine sr_end (l' := [(0, str salt_0), (2, .int .i64 rounds_2), (7, str y3)]) (.cons rfl (.cons rfl (.cons rfl (.nil _)))) ?_
 refine ke_seq ?_
 refine ke_seq ?_
 refine ke_region ?_
 refine sr_ev (v := .int .i64 0) (ev_assign rfl) (by decide) ?_
 refine sr_end (l' := [(0, str salt_0), (2, .int .i64 rounds_2), (7, str y3), (8, .int .i64 0)]) (.cons rfl (.cons rfl (.cons rfl (.cons rfl (.nil _))))) ?_
 refine ke_block ?_
 have hK := ref03_Iterate_L1_ok hg _ hS hb
 exact ke_weaken (l' := [(0, str salt_0), (2, .int .i64 rounds_2), (7, str y3), (8, .int .i64 0)]) (.cons rfl (.cons rfl (.cons rfl (.cons rfl (.nil _))))) (ke_loop hK)
theorem ref22_Check_ok (w0 : World) (hg : Gs w0) {v_0 : api_Verifier} {password_1 : Str} {r : Bool} (hS : ref22_Check v_0 password_1 = some r) :
  Calls Tryz.prog 60 #[.agg #[str v_0.Salt, .int .i64 v_0.Rounds, str v_0.Hash], str password_1] w0 (Ret (fun v w' => v = .bool r ∧ Below w0.heap.size w0 w')) := by
 unfold ref22_Check at hS
 have hb := Below.refl w0.heap.size w0
 obtain ⟨A0, hA0, hAe⟩ : ∃ A0 : Nat → Prop, (∀ b, A0 b → b < w0.heap.size) ∧ A0 = fun _ => False := ⟨_, fun _ h => h.elim, rfl⟩
 clear hAe
 have hA := hA0
 have hi : ∀ b, A0 b → A0 b := fun _ h => h
 have hH := Hp.nil A0 w0.heap.size w0
 refine calls_of_ke Tryz.func60 rfl (n := 22) rfl rfl (l := [(0, .agg #[str v_0.Salt, .int .i64 v_0.Rounds, str v_0.Hash]), (1, str password_1)]) rfl ?_
 refine ke_seq ?_
 refine ke_region ?_
 refine sr_box hH hb.size hA rfl (by decide) ?_
 intro g1 A2 w3 hH1 hst4 hbw5 hinc6 hA1 hge7
 replace hb := hb.trans (hbw5.mono hb.size)
 replace hi := fun b hb => hinc6 b (hi b hb)
 replace hH : Hp A2 w0.heap.size w3 [(g1, .cells #[str v_0.Salt, .int .i64 v_0.Rounds, str v_0.Hash] 24 (0, 0))] := hH1
 replace hA := hA1
 clear hH1 hA1
 refine sr_ev (v := .bool false) (ev_assign rfl) (by decide) ?_
 refine sr_end (l' := [(1, str password_1), (2, .pointer (some ⟨g1, 0, none⟩))]) (.cons rfl (.cons rfl (.nil _))) ?_
 refine ke_seq ?_
 refine ke_region_q Tryz.mixed (by kernel_rfl) ?_
 refine sq_ev (v := .agg #[str v_0.Salt, .int .i64 v_0.Rounds, str v_0.Hash]) (fun w1 hw1 => ev_loads Tryz.isAgg24 Tryz.sizeOf24 rfl ((hH.below hw1).cells (i := 0) (vs := [str v_0.Salt, .int .i64 v_0.Rounds, str v_0.Hash]) rfl rfl)) (by decide) ?_
 obtain ⟨y10, hy11, hS⟩ := bind_some' hS
 refine sq_call (v := .bool y10) (vs := [.agg #[str v_0.Salt, .int .i64 v_0.Rounds, str v_0.Hash]]) rfl Tryz.call46 rfl (fun w1 hw1 => (ref22_Valid_ok _ (hg.below (hb.trans (hw1.mono hb.size))) hy11)) (by decide) ?_
 refine sq_ev (v := .bool y10) (fun w1 hw1 => ev_move rfl) (by decide) ?_
 obtain ⟨z16, hz18, hS⟩ := bind_some' hS
 refine sq_join (m := 3) (C := fun (x : Bool) => z16 = x) (l' := fun x => [(1, str password_1), (2, .pointer (some ⟨g1, 0, none⟩)), (10, .bool x)]) ?_ ?_
 ·rintro _ rfl
  refine sq_ev (v := .bool z16) (fun w1 hw1 => ev_move rfl) (by decide) ?_
  obtain ⟨z27, hz29, hS⟩ := bind_some' hS
  refine sq_join (m := 10) (C := fun (x : Bool) => z27 = x) (l' := fun x => [(21, .bool x)]) ?_ ?_
  ·rintro _ rfl
   refine sq_ev (v := .bool z27) (fun w1 hw1 => ev_assign rfl) (by decide) ?_
   refine sq_end (l' := [(4, .bool z27)]) (.cons rfl (.nil _)) (fun w9 hw8 => ?_)
   replace hb := hb.trans (hw8.mono hb.size)
   replace hA := lt_mono hA hw8.size
   replace hH := hH.below hw8
   cases hS
   exact ke_ret1 Tryz.func60 rfl rfl ⟨_, rfl, rfl, hb⟩
  ·intro K26
   clear hS
   rcases Bool.eq_false_or_eq_true z16 with hg25 | hg25
   ·have hS := ite_true' hz29 hg25
    refine sq_evg (b := true) (e := 11) rfl rfl hg25 (v := .pointer (some ⟨g1, 2, none⟩)) (fun w1 hw1 => ev_fieldAddr (i := 2) Tryz.underlying24 rfl Tryz.info9 rfl rfl) (by decide) ?_
    refine sq_evg (b := true) (e := 11) rfl rfl hg25 (v := str v_0.Hash) (fun w1 hw1 => ev_load Tryz.isAgg9 rfl ((hH.below hw1).cell (i := 0) rfl rfl)) (by decide) ?_
    refine sq_evg (b := true) (e := 11) rfl rfl hg25 (v := .pointer (some ⟨g1, 0, none⟩)) (fun w1 hw1 => ev_fieldAddr (i := 0) Tryz.underlying24 rfl Tryz.info9 rfl rfl) (by decide) ?_
    refine sq_evg (b := true) (e := 11) rfl rfl hg25 (v := str v_0.Salt) (fun w1 hw1 => ev_load Tryz.isAgg9 rfl ((hH.below hw1).cell (i := 0) rfl rfl)) (by decide) ?_
    refine sq_evg (b := true) (e := 11) rfl rfl hg25 (v := str password_1) (fun w1 hw1 => ev_move rfl) (by decide) ?_
    refine sq_evg (b := true) (e := 11) rfl rfl hg25 (v := .pointer (some ⟨g1, 1, none⟩)) (fun w1 hw1 => ev_fieldAddr (i := 1) Tryz.underlying24 rfl Tryz.info3 rfl rfl) (by decide) ?_
    refine sq_evg (b := true) (e := 11) rfl rfl hg25 (v := .int .i64 v_0.Rounds) (fun w1 hw1 => ev_load Tryz.isAgg3 rfl ((hH.below hw1).cell (i := 0) rfl rfl)) (by decide) ?_
    obtain ⟨y32, hy33, hS⟩ := bind_some' hS
    refine sq_callg (b := true) (e := 11) rfl rfl hg25 (v := str y32) (vs := [str v_0.Salt, str password_1, .int .i64 v_0.Rounds]) rfl Tryz.call85 rfl (fun w1 hw1 => (ref03_Iterate_ok _ (hg.below (hb.trans (hw1.mono hb.size))) hy33)) (by decide) ?_
    refine sq_evg (b := true) (e := 11) rfl rfl hg25 (v := .bool (v_0.Hash == y32)) (fun w1 hw1 => ev_seq rfl rfl) (by decide) ?_
    refine sq_ev (v := .bool (v_0.Hash == y32)) (fun w1 hw1 => ev_pick_t rfl hg25 rfl) (by decide) ?_
    exact sq_weaken (l' := [(21, .bool (v_0.Hash == y32))]) (.cons rfl (.nil _)) (K26 (v_0.Hash == y32) (Option.some.inj hS).symm)
   ·have hS := ite_false' hz29 hg25
    refine sq_pass (e := 11) rfl rfl (by rw [hg25]; rfl) (by decide) ?_
    refine sq_pass (e := 11) rfl rfl (by rw [hg25]; rfl) (by decide) ?_
    refine sq_pass (e := 11) rfl rfl (by rw [hg25]; rfl) (by decide) ?_
    refine sq_pass (e := 11) rfl rfl (by rw [hg25]; rfl) (by decide) ?_
    refine sq_pass (e := 11) rfl rfl (by rw [hg25]; rfl) (by decide) ?_
    refine sq_pass (e := 11) rfl rfl (by rw [hg25]; rfl) (by decide) ?_
    refine sq_pass (e := 11) rfl rfl (by rw [hg25]; rfl) (by decide) ?_
    refine sq_pass (e := 11) rfl rfl (by rw [hg25]; rfl) (by decide) ?_
    refine sq_pass (e := 11) rfl rfl (by rw [hg25]; rfl) (by decide) ?_
    refine sq_ev (v := .bool false) (fun w1 hw1 => ev_pick_f rfl hg25 rfl) (by decide) ?_
    exact sq_weaken (l' := [(21, .bool false)]) (.cons rfl (.nil _)) (K26 false (Option.some.inj hS).symm)
 ·intro K15
  clear hS
  rcases Bool.eq_false_or_eq_true y10 with hg14 | hg14
  ·have hS := ite_true' hz18 hg14
   refine sq_evg (b := true) (e := 7) rfl rfl hg14 (v := str password_1) (fun w1 hw1 => ev_move rfl) (by decide) ?_
   obtain ⟨y21, hy22, hS⟩ := bind_some' hS
   refine sq_callg (b := true) (e := 7) rfl rfl hg14 (v := .bool y21) (vs := [str password_1]) rfl Tryz.call84 rfl (fun w1 hw1 => (ref22_Password_ok _ (hg.below (hb.trans (hw1.mono hb.size))) hy22)) (by decide) ?_
   refine sq_ev (v := .bool y21) (fun w1 hw1 => ev_pick_t rfl hg14 rfl) (by decide) ?_
   exact sq_weaken (l' := [(1, str password_1), (2, .pointer (some ⟨g1, 0, none⟩)), (10, .bool y21)]) (.cons rfl (.cons rfl (.cons rfl (.nil _)))) (K15 y21 (Option.some.inj hS).symm)
  ·have hS := ite_false' hz18 hg14
   refine sq_pass (e := 7) rfl rfl (by rw [hg14]; rfl) (by decide) ?_
   refine sq_pass (e := 7) rfl rfl (by rw [hg14]; rfl) (by decide) ?_
   refine sq_ev (v := .bool false) (fun w1 hw1 => ev_pick_f rfl hg14 rfl) (by decide) ?_
   exact sq_weaken (l' := [(1, str password_1), (2, .pointer (some ⟨g1, 0, none⟩)), (10, .bool false)]) (.cons rfl (.cons rfl (.cons rfl (.nil _)))) (K15 false (Option.some.inj hS).symm)
theorem ref36_Clients_Authenticate_ok (w0 : World) (hg : Gs w0) {ρA : Tags} (hbd : ∀ b, ρA b ≠ 0 → b < w0.heap.size) (hz : Gz ρA) {τ0 : Nat → Nat} (hτ0 : ∀ p, 1 ≤ τ0 p) {r_0 : ref36_Clients} {id_1 : Str} {secret_2 : Str} {gr_0 : Nat} {r : Int} (ho0 : ref36_Clients.O τ0 ρA w0 gr_0 r_0) (hS : ref36_Clients_Authenticate r_0 id_1 secret_2 = some r) :
  Calls Tryz.prog 30 #[.pointer (some ⟨gr_0, 0, none⟩), str id_1, str secret_2] w0 (Ret (fun v w' => v = .int .i64 r ∧ Below w0.heap.size w0 w')) := by
 unfold ref36_Clients_Authenticate at hS
 have hb := flat1_fr (ρ := ρA) (w := w0) hbd
 have hz := hz.flat1
 obtain ⟨v1, hB3, h2⟩ := ho0
 replace hB3 := hB3.mv (flat1_mv (hτ0 0))
 replace h2 := h2.mv (flat1_mv (hτ0 1)) (by decide)
 replace hB3 : Blk (flat1 ρA) 1 w0 gr_0 (.cells #[v1, .bool r_0.made] 73 (0, 0)) := hB3
 replace h2 : OwnT api_Client.c 27 (flat1 ρA) 1 w0 v1 r_0.list := h2
 refine calls_of_ke Tryz.func30 rfl (n := 42) rfl rfl (l := [(0, .pointer (some ⟨gr_0, 0, none⟩)), (1, str id_1), (2, str secret_2)]) rfl ?_
 refine ke_seq ?_
 refine ke_region ?_
 refine sr_ev (v := .int .i64 0) (ev_assign rfl) (by decide) ?_
 refine sr_end (l' := [(0, .pointer (some ⟨gr_0, 0, none⟩)), (1, str id_1), (2, str secret_2)]) (.cons rfl (.cons rfl (.cons rfl (.nil _)))) ?_
 refine ke_seq ?_
 refine ke_region ?_
 refine sr_ev (v := .pointer (some ⟨gr_0, 0, none⟩)) (ev_move rfl) (by decide) ?_
 refine sr_ev (v := str id_1) (ev_move rfl) (by decide) ?_
 obtain ⟨y4, hy5, hS⟩ := bind_some' hS
 refine sr_call (vs := [.pointer (some ⟨gr_0, 0, none⟩), str id_1]) rfl Tryz.call56 rfl (ref36_at_ok _ (hg.fr hz hb) (ρA := (flat1 ρA)) hb.bd (hz.fr hg hb) (τ0 := (fun _ => 1)) (fun _ => Nat.le_refl 1) (⟨_, hB3, h2⟩ : ref36_Clients.O (fun _ => 1) (flat1 ρA) w0 gr_0 r_0) hy5) (by decide) ?_
 rintro _ w6 ⟨rfl, hbw7⟩
 have htr8 := Tr.of_below hbw7 hb.bd
 replace hB3 := hB3.mv (htr8.mv (i := 1) rfl)
 replace h2 := h2.mv (htr8.mv (i := 1) rfl) (by decide)
 replace hb := hb.trans htr8
 refine sr_ev (v := .int .i64 y4) (ev_assign rfl) (by decide) ?_
 refine sr_end (l' := [(0, .pointer (some ⟨gr_0, 0, none⟩)), (2, str secret_2), (7, .int .i64 y4)]) (.cons rfl (.cons rfl (.cons rfl (.nil _)))) ?_
 refine ke_seq ?_
 refine ke_seq ?_
 refine ke_region ?_
 refine sr_ev (v := .int .i64 y4) (ev_move rfl) (by decide) ?_
 refine sr_ev (v := .bool (decide (y4 < 0))) (ev_lt rfl rfl) (by decide) ?_
 refine sr_end (l' := [(0, .pointer (some ⟨gr_0, 0, none⟩)), (2, str secret_2), (7, .int .i64 y4), (13, .bool (decide (y4 < 0)))]) (.cons rfl (.cons rfl (.cons rfl (.cons rfl (.nil _))))) ?_
 refine ke_cond (t := decide (y4 < 0)) rfl (fun hc9 => ?_) (fun hc9 => ?_)
 ·replace hS := ite_true' hS hc9
  refine ke_seq ?_
  refine ke_region ?_
  refine sr_ev (v := .pointer (some ⟨gr_0, 0, none⟩)) (ev_move rfl) (by decide) ?_
  obtain ⟨y10, hy11, hS⟩ := bind_some' hS
  refine sr_call (vs := [.pointer (some ⟨gr_0, 0, none⟩)]) rfl Tryz.call58 rfl (ref36_none_ok _ (hg.fr hz hb) (ρA := (flat1 ρA)) hb.bd (hz.fr hg hb) (τ0 := (fun _ => 1)) (fun _ => Nat.le_refl 1) (⟨_, hB3, h2⟩ : ref36_Clients.O (fun _ => 1) (flat1 ρA) w6 gr_0 r_0) hy11) (by decide) ?_
  rintro _ w12 ⟨rfl, hbw13⟩
  have htr14 := Tr.of_below hbw13 hb.bd
  replace hb := hb.trans htr14
  refine sr_ev (v := .int .i64 y10) (ev_assign rfl) (by decide) ?_
  refine sr_end (l' := [(6, .int .i64 y10)]) (.cons rfl (.nil _)) ?_
  cases hS
  exact ke_ret1 Tryz.func30 rfl rfl ⟨_, rfl, rfl, (hb.below (flat1_le _))⟩
 ·replace hS := ite_false' hS hc9
  refine ke_skip ?_
  refine ke_seq ?_
  refine ke_region ?_
  refine sr_ev (v := .pointer (some ⟨gr_0, 0, none⟩)) (ev_move rfl) (by decide) ?_
  refine sr_ev (v := .pointer (some ⟨gr_0, 0, none⟩)) (ev_nilCheck rfl) (by decide) ?_
  refine sr_ev (v := .pointer (some ⟨gr_0, 0, none⟩)) (ev_fieldAddr (i := 0) Tryz.underlying73 rfl Tryz.info71 rfl rfl) (by decide) ?_
  refine sr_ev (v := v1) (ev_load Tryz.isAgg71 rfl (hB3.cell rfl)) (by decide) ?_
  refine sr_ev (v := .int .i64 y4) (ev_move rfl) (by decide) ?_
  obtain ⟨y15, hy16, hS⟩ := bind_some' hS
  obtain ⟨b17, o18, cs20, hq21, he19, hg26, ho27⟩ := h2.elemQ (P := Tryz.prog) Tryz.underlying71 Tryz.info27 rfl hy16
  obtain ⟨v22, v24, hcshe19, h23, h25⟩ := he19.rd
  obtain rfl : cs20 = [str y15.ID, .int .i64 y15.Kind, str y15.Tenant, str y15.Secret.Salt, .int .i64 y15.Secret.Rounds, str y15.Secret.Hash, v22, v24, str y15.Logout] := hcshe19
  refine sr_ev (v := .pointer (some ⟨b17, o18, none⟩)) (hq21 w6 rfl rfl) (by decide) ?_
  refine sr_ev (v := .agg #[str y15.ID, .int .i64 y15.Kind, str y15.Tenant, str y15.Secret.Salt, .int .i64 y15.Secret.Rounds, str y15.Secret.Hash, v22, v24, str y15.Logout]) (ev_loads (cs := [str y15.ID, .int .i64 y15.Kind, str y15.Tenant, str y15.Secret.Salt, .int .i64 y15.Secret.Rounds, str y15.Secret.Hash, v22, v24, str y15.Logout]) Tryz.isAgg27 Tryz.sizeOf27 rfl he19.cell) (by decide) ?_
  refine sr_allocT 10 (by decide) hb.bd Tryz.zeroValue27 (by decide) ?_
  intro g28 ρ29 w30 hB32 htr31
  replace h23 := h23.mv htr31.rd
  replace h25 := h25.mv htr31.rd
  replace hb := hb.trans htr31
  replace hB32 : Blk ρ29 10 w30 g28 (.cells #[str ([]), .int .i64 0, str ([]), str ([]), .int .i64 0, str ([]), (.slice none 0 0), (.slice none 0 0), str ([])] 27 (0, 0)) := hB32
  refine sr_storeT (v := .agg #[str y15.ID, .int .i64 y15.Kind, str y15.Tenant, str y15.Secret.Salt, .int .i64 y15.Secret.Rounds, str y15.Secret.Hash, v22, v24, str y15.Logout]) (vs := [str y15.ID, .int .i64 y15.Kind, str y15.Tenant, str y15.Secret.Salt, .int .i64 y15.Secret.Rounds, str y15.Secret.Hash, v22, v24, str y15.Logout]) (cs' := #[str y15.ID, .int .i64 y15.Kind, str y15.Tenant, str y15.Secret.Salt, .int .i64 y15.Secret.Rounds, str y15.Secret.Hash, v22, v24, str y15.Logout]) hB32 (by decide) hb.bd rfl rfl rfl Tryz.sizeOf27 rfl (by first | rfl | (simp only [List.all_cons, List.all_nil, SlR.oneCell h23, SlR.oneCell h25]; done) | (simp only [List.all_cons, List.all_nil, SlR.oneCell h23, SlR.oneCell h25]; rfl)) rfl ?_
  intro w33 hB321 htr34
  replace h23 := h23.mv htr34.rd
  replace h25 := h25.mv htr34.rd
  replace hb := hb.trans htr34
  replace hB32 : Blk ρ29 10 w33 g28 (.cells #[str y15.ID, .int .i64 y15.Kind, str y15.Tenant, str y15.Secret.Salt, .int .i64 y15.Secret.Rounds, str y15.Secret.Hash, v22, v24, str y15.Logout] 27 (0, 0)) := hB321
  clear hB321
  refine sr_end (l' := [(2, str secret_2), (8, .pointer (some ⟨g28, 0, none⟩))]) (.cons rfl (.cons rfl (.nil _))) ?_
  refine ke_seq ?_
  refine ke_seq ?_
  refine ke_region ?_
  refine sr_ev (v := .pointer (some ⟨g28, 1, none⟩)) (ev_fieldAddr (i := 1) Tryz.underlying27 rfl Tryz.info22 rfl rfl) (by decide) ?_
  refine sr_ev (v := .int .i64 y15.Kind) (ev_load Tryz.isAgg22 rfl (hB32.cell rfl)) (by decide) ?_
  refine sr_ev (v := .bool (y15.Kind == 2)) (ev_eq rfl rfl) (by decide) ?_
  refine sr_ev (v := .bool (y15.Kind == 2)) (ev_move rfl) (by decide) ?_
  obtain ⟨z37, hz39, hS⟩ := bind_some' hS
  refine sr_join (m := 6) (C := fun (z : Bool) w1 => z37 = z ∧ ∃ ρ1, Tr ρ29 w33 (fun _ => false) ρ1 w1) (l' := fun z => [(2, str secret_2), (8, .pointer (some ⟨g28, 0, none⟩)), (32, .bool z)]) ?_ ?_
  ·rintro _ w40 ⟨rfl, ρ41, hj38⟩
   replace hB32 := hB32.mv (hj38.mv (i := 10) rfl)
   replace h23 := h23.mv hj38.rd
   replace h25 := h25.mv hj38.rd
   replace hb := hb.trans hj38
   refine sr_ev (v := .bool z37) (ev_move rfl) (by decide) ?_
   refine sr_join (m := 8) (C := fun (x : Bool) w1 => x = (z37 || ((y15.Kind == 1) && (!(secret_2 == ([]))))) ∧ w40 = w1) (l' := fun x => [(41, .bool x)]) ?_ ?_
   ·rintro _ _ ⟨rfl, rfl⟩
    refine sr_end (l' := [(41, .bool (z37 || ((y15.Kind == 1) && (!(secret_2 == ([]))))))]) (.cons rfl (.nil _)) ?_
    refine ke_cond (t := z37 || ((y15.Kind == 1) && (!(secret_2 == ([]))))) rfl (fun hc64 => ?_) (fun hc64 => ?_)
    ·replace hS := ite_true' hS hc64
     refine ke_seq ?_
     refine ke_region ?_
     refine sr_ev (v := .int .i64 11) (ev_assign rfl) (by decide) ?_
     refine sr_end (l' := [(6, .int .i64 11)]) (.cons rfl (.nil _)) ?_
     cases hS
     exact ke_ret1 Tryz.func30 rfl rfl ⟨_, rfl, rfl, (hb.below (flat1_le _))⟩
    ·replace hS := ite_false' hS hc64
     refine ke_skip ?_
     refine ke_seq ?_
     refine ke_region ?_
     refine sr_ev (v := .int .i64 0) (ev_assign rfl) (by decide) ?_
     refine sr_end (l' := [(6, .int .i64 0)]) (.cons rfl (.nil _)) ?_
     cases hS
     exact ke_ret1 Tryz.func30 rfl rfl ⟨_, rfl, rfl, (hb.below (flat1_le _))⟩
   ·intro K49
    rcases Bool.eq_false_or_eq_true z37 with hg48 | hg48
    all_goals try have hj51 : Tr ρ41 w40 (fun _ => false) ρ41 w40 := Tr.refl hb.bd
    ·refine sr_pass (e := 33) rfl rfl (by rw [hg48]; rfl) (by decide) ?_
     refine sr_pass (e := 33) rfl rfl (by rw [hg48]; rfl) (by decide) ?_
     refine sr_pass (e := 33) rfl rfl (by rw [hg48]; rfl) (by decide) ?_
     refine sr_pass (e := 33) rfl rfl (by rw [hg48]; rfl) (by decide) ?_
     refine sr_pass_undef (e := 37) rfl rfl (by decide) ?_
     refine sr_pass_undef (e := 37) rfl rfl (by decide) ?_
     refine sr_pass (e := 33) rfl rfl (by rw [hg48]; rfl) (by decide) ?_
     refine sr_ev (v := .bool true) (ev_pick_t rfl hg48 rfl) (by decide) ?_
     exact sr_weaken (l' := [(41, .bool true)]) (.cons rfl (.nil _)) (K49 true _ ⟨by rw [hg48]; rfl, rfl⟩)
    ·refine sr_evg (b := false) (e := 33) rfl rfl hg48 (v := .pointer (some ⟨g28, 1, none⟩)) (ev_fieldAddr (i := 1) Tryz.underlying27 rfl Tryz.info22 rfl rfl) (by decide) ?_
     refine sr_evg (b := false) (e := 33) rfl rfl hg48 (v := .int .i64 y15.Kind) (ev_load Tryz.isAgg22 rfl (hB32.cell rfl)) (by decide) ?_
     refine sr_evg (b := false) (e := 33) rfl rfl hg48 (v := .bool (y15.Kind == 1)) (ev_eq rfl rfl) (by decide) ?_
     refine sr_evg (b := false) (e := 33) rfl rfl hg48 (v := .bool (y15.Kind == 1)) (ev_move rfl) (by decide) ?_
     refine sr_join (m := 3) (C := fun (x : Bool) w1 => x = ((y15.Kind == 1) && (!(secret_2 == ([])))) ∧ w40 = w1) (l' := fun x => [(33, .bool z37), (40, .bool x)]) ?_ ?_
     ·rintro _ _ ⟨rfl, rfl⟩
      refine sr_ev (v := .bool ((y15.Kind == 1) && (!(secret_2 == ([]))))) (ev_pick_f rfl hg48 rfl) (by decide) ?_
      exact sr_weaken (l' := [(41, .bool ((y15.Kind == 1) && (!(secret_2 == ([])))))]) (.cons rfl (.nil _)) (K49 ((y15.Kind == 1) && (!(secret_2 == ([])))) _ ⟨by rw [hg48]; rfl, rfl⟩)
     ·intro K57
      rcases Bool.eq_false_or_eq_true (y15.Kind == 1) with hg56 | hg56
      all_goals try have hj59 : Tr ρ41 w40 (fun _ => false) ρ41 w40 := Tr.refl hb.bd
      ·refine sr_evg (b := true) (e := 37) rfl rfl hg56 (v := str secret_2) (ev_move rfl) (by decide) ?_
       refine sr_evg (b := true) (e := 37) rfl rfl hg56 (v := .bool (!(secret_2 == ([])))) (ev_sne rfl rfl) (by decide) ?_
       refine sr_evg (b := false) (e := 33) rfl rfl hg48 (v := .bool (!(secret_2 == ([])))) (ev_pick_t rfl hg56 rfl) (by decide) ?_
       exact sr_weaken (l' := [(33, .bool z37), (40, .bool (!(secret_2 == ([]))))]) (.cons rfl (.cons rfl (.nil _))) (K57 (!(secret_2 == ([]))) _ ⟨by rw [hg56]; rfl, rfl⟩)
      ·refine sr_pass (e := 37) rfl rfl (by rw [hg56]; rfl) (by decide) ?_
       refine sr_pass (e := 37) rfl rfl (by rw [hg56]; rfl) (by decide) ?_
       refine sr_evg (b := false) (e := 33) rfl rfl hg48 (v := .bool false) (ev_pick_f rfl hg56 rfl) (by decide) ?_
       exact sr_weaken (l' := [(33, .bool z37), (40, .bool false)]) (.cons rfl (.cons rfl (.nil _))) (K57 false _ ⟨by rw [hg56]; rfl, rfl⟩)
  ·intro K36
   clear hS
   have hj38 : Tr ρ29 w33 (fun _ => false) ρ29 w33 := (Tr.refl hb.bd).weak (fun _ _ => rfl) rfl rfl
   rcases Bool.eq_false_or_eq_true (y15.Kind == 2) with hg35 | hg35
   ·have hS := ite_true' hz39 hg35
    refine sr_evg (b := true) (e := 26) rfl rfl hg35 (v := .pointer (some ⟨g28, 3, none⟩)) (ev_fieldAddr (i := 3) Tryz.underlying27 rfl Tryz.info24 rfl rfl) (by decide) ?_
    refine sr_evg (b := true) (e := 26) rfl rfl hg35 (v := .agg #[str y15.Secret.Salt, .int .i64 y15.Secret.Rounds, str y15.Secret.Hash]) (ev_loads (cs := [str y15.Secret.Salt, .int .i64 y15.Secret.Rounds, str y15.Secret.Hash]) Tryz.isAgg24 Tryz.sizeOf24 rfl (hB32.cells (vs := [str y15.Secret.Salt, .int .i64 y15.Secret.Rounds, str y15.Secret.Hash]) rfl)) (by decide) ?_
    refine sr_evg (b := true) (e := 26) rfl rfl hg35 (v := str secret_2) (ev_move rfl) (by decide) ?_
    obtain ⟨y43, hy44, hS⟩ := bind_some' hS
    refine sr_callg (b := true) (e := 26) rfl rfl hg35 (vs := [.agg #[str y15.Secret.Salt, .int .i64 y15.Secret.Rounds, str y15.Secret.Hash], str secret_2]) rfl Tryz.call60 rfl (ref22_Check_ok _ (hg.fr hz hb) hy44) (by decide) ?_
    rintro _ w45 ⟨rfl, hbw46⟩
    have htr47 := Tr.of_below hbw46 hb.bd
    replace hB32 := hB32.mv (htr47.mv (i := 10) rfl)
    replace h23 := h23.mv htr47.rd
    replace h25 := h25.mv htr47.rd
    replace hb := hb.trans htr47
    replace hj38 := (hj38.trans htr47).weak (J' := (fun _ => false)) (by intro t h; simp [rng] at h ⊢ <;> omega) rfl rfl
    refine sr_evg (b := true) (e := 26) rfl rfl hg35 (v := .bool (!y43)) (ev_not rfl) (by decide) ?_
    refine sr_ev (v := .bool (!y43)) (ev_pick_t rfl hg35 rfl) (by decide) ?_
    exact sr_weaken (l' := [(2, str secret_2), (8, .pointer (some ⟨g28, 0, none⟩)), (32, .bool (!y43))]) (.cons rfl (.cons rfl (.cons rfl (.nil _)))) (K36 (!y43) _ ⟨(Option.some.inj hS).symm, _, hj38⟩)
   ·have hS := ite_false' hz39 hg35
    refine sr_pass (e := 26) rfl rfl (by rw [hg35]; rfl) (by decide) ?_
    refine sr_pass (e := 26) rfl rfl (by rw [hg35]; rfl) (by decide) ?_
    refine sr_pass (e := 26) rfl rfl (by rw [hg35]; rfl) (by decide) ?_
    refine sr_pass (e := 26) rfl rfl (by rw [hg35]; rfl) (by decide) ?_
    refine sr_pass (e := 26) rfl rfl (by rw [hg35]; rfl) (by decide) ?_
    refine sr_ev (v := .bool false) (ev_pick_f rfl hg35 rfl) (by decide) ?_
    exact sr_weaken (l' := [(2, str secret_2), (8, .pointer (some ⟨g28, 0, none⟩)), (32, .bool false)]) (.cons rfl (.cons rfl (.cons rfl (.nil _)))) (K36 false _ ⟨(Option.some.inj hS).symm, _, hj38⟩)
theorem ref29_Implies_ok (w0 : World) (hg : Gs w0) {a_0 : Str} {b_1 : Str} {r : Bool} (hS : ref29_Implies a_0 b_1 = some r) :
  Calls Tryz.prog 97 #[str a_0, str b_1] w0 (Ret (fun v w' => v = .bool r ∧ Below w0.heap.size w0 w')) := by
 unfold ref29_Implies at hS
 have hb := Below.refl w0.heap.size w0
 refine calls_of_ke Tryz.func97 rfl (n := 33) rfl rfl (l := [(0, str a_0), (1, str b_1)]) rfl ?_
 refine ke_seq ?_
 refine ke_region ?_
 refine sr_ev (v := .bool false) (ev_assign rfl) (by decide) ?_
 refine sr_end (l' := [(0, str a_0), (1, str b_1)]) (.cons rfl (.cons rfl (.nil _))) ?_
 refine ke_seq ?_
 refine ke_region ?_
 refine sr_ev (v := str a_0) (ev_move rfl) (by decide) ?_
 obtain ⟨y1, hy2, hS⟩ := bind_some' hS
 refine sr_call (vs := [str a_0]) rfl Tryz.call80 rfl (ref29_Valid_ok _ (hg.below hb) hy2) (by decide) ?_
 rintro _ w3 ⟨rfl, hbw4⟩
 replace hb := hb.trans (hbw4.mono hb.size)
 refine sr_ev (v := .bool y1) (ev_move rfl) (by decide) ?_
 obtain ⟨z7, hz9, hS⟩ := bind_some' hS
 refine sr_join (m := 3) (C := fun (x : Bool) w1 => z7 = x ∧ Below w3.heap.size w3 w1) (l' := fun x => [(0, str a_0), (1, str b_1), (10, .bool x)]) ?_ ?_
 ·rintro _ w10 ⟨rfl, hbw11⟩
  replace hb := hb.trans (hbw11.mono hb.size)
  refine sr_ev (v := .bool z7) (ev_move rfl) (by decide) ?_
  obtain ⟨z18, hz20, hS⟩ := bind_some' hS
  refine sr_join (m := 21) (C := fun (x : Bool) w1 => z18 = x ∧ Below w10.heap.size w10 w1) (l' := fun x => [(32, .bool x)]) ?_ ?_
  ·rintro _ w21 ⟨rfl, hbw22⟩
   replace hb := hb.trans (hbw22.mono hb.size)
   refine sr_ev (v := .bool z18) (ev_assign rfl) (by decide) ?_
   refine sr_end (l' := [(4, .bool z18)]) (.cons rfl (.nil _)) ?_
   cases hS
   exact ke_ret1 Tryz.func97 rfl rfl ⟨_, rfl, rfl, hb⟩
  ·intro K17
   clear hS
   have hj19 := Below.refl w10.heap.size w10
   rcases Bool.eq_false_or_eq_true z7 with hg16 | hg16
   ·have hS := ite_true' hz20 hg16
    refine sr_evg (b := true) (e := 11) rfl rfl hg16 (v := str a_0) (ev_move rfl) (by decide) ?_
    refine sr_evg (b := true) (e := 11) rfl rfl hg16 (v := str b_1) (ev_move rfl) (by decide) ?_
    refine sr_evg (b := true) (e := 11) rfl rfl hg16 (v := .bool (a_0 == b_1)) (ev_seq rfl rfl) (by decide) ?_
    refine sr_evg (b := true) (e := 11) rfl rfl hg16 (v := .bool (a_0 == b_1)) (ev_move rfl) (by decide) ?_
    obtain ⟨z25, hz27, hS⟩ := bind_some' hS
    refine sr_join (m := 16) (C := fun (x : Bool) w1 => z25 = x ∧ Below w10.heap.size w10 w1) (l' := fun x => [(11, .bool z7), (31, .bool x)]) ?_ ?_
    ·rintro _ w28 ⟨rfl, hbw29⟩
     replace hb := hb.trans (hbw29.mono hb.size)
     replace hj19 := hj19.trans (hbw29.mono hj19.size)
     refine sr_ev (v := .bool z25) (ev_pick_t rfl hg16 rfl) (by decide) ?_
     exact sr_weaken (l' := [(32, .bool z25)]) (.cons rfl (.nil _)) (K17 z25 _ ⟨(Option.some.inj hS).symm, hj19⟩)
    ·intro K24
     clear hS
     have hj26 := Below.refl w10.heap.size w10
     rcases Bool.eq_false_or_eq_true (a_0 == b_1) with hg23 | hg23
     ·have hS := ite_true' hz27 hg23
      refine sr_pass (e := 15) rfl rfl (by rw [hg23]; rfl) (by decide) ?_
      refine sr_pass (e := 15) rfl rfl (by rw [hg23]; rfl) (by decide) ?_
      refine sr_pass (e := 15) rfl rfl (by rw [hg23]; rfl) (by decide) ?_
      refine sr_pass (e := 15) rfl rfl (by rw [hg23]; rfl) (by decide) ?_
      refine sr_pass (e := 15) rfl rfl (by rw [hg23]; rfl) (by decide) ?_
      refine sr_pass (e := 15) rfl rfl (by rw [hg23]; rfl) (by decide) ?_
      refine sr_pass_undef (e := 21) rfl rfl (by decide) ?_
      refine sr_pass_undef (e := 21) rfl rfl (by decide) ?_
      refine sr_pass_undef (e := 21) rfl rfl (by decide) ?_
      refine sr_pass_undef (e := 21) rfl rfl (by decide) ?_
      refine sr_pass_undef (e := 21) rfl rfl (by decide) ?_
      refine sr_pass_undef (e := 21) rfl rfl (by decide) ?_
      refine sr_pass_undef (e := 21) rfl rfl (by decide) ?_
      refine sr_pass_undef (e := 21) rfl rfl (by decide) ?_
      refine sr_pass (e := 15) rfl rfl (by rw [hg23]; rfl) (by decide) ?_
      refine sr_evg (b := true) (e := 11) rfl rfl hg16 (v := .bool true) (ev_pick_t rfl hg23 rfl) (by decide) ?_
      exact sr_weaken (l' := [(11, .bool z7), (31, .bool true)]) (.cons rfl (.cons rfl (.nil _))) (K24 true _ ⟨(Option.some.inj hS).symm, hj26⟩)
     ·have hS := ite_false' hz27 hg23
      refine sr_evg (b := false) (e := 15) rfl rfl hg23 (v := str b_1) (ev_move rfl) (by decide) ?_
      refine sr_evg (b := false) (e := 15) rfl rfl hg23 (v := .int .i64 (b_1.length : Int)) (ev_slen Tryz.underlying9 rfl) (by decide) ?_
      refine sr_evg (b := false) (e := 15) rfl rfl hg23 (v := str a_0) (ev_move rfl) (by decide) ?_
      refine sr_evg (b := false) (e := 15) rfl rfl hg23 (v := .int .i64 (a_0.length : Int)) (ev_slen Tryz.underlying9 rfl) (by decide) ?_
      refine sr_evg (b := false) (e := 15) rfl rfl hg23 (v := .bool (decide ((b_1.length : Int) > (a_0.length : Int)))) (ev_gt rfl rfl) (by decide) ?_
      refine sr_evg (b := false) (e := 15) rfl rfl hg23 (v := .bool (decide ((b_1.length : Int) > (a_0.length : Int)))) (ev_move rfl) (by decide) ?_
      obtain ⟨z32, hz34, hS⟩ := bind_some' hS
      refine sr_join (m := 9) (C := fun (x : Bool) w1 => z32 = x ∧ Below w10.heap.size w10 w1) (l' := fun x => [(11, .bool z7), (15, .bool (a_0 == b_1)), (30, .bool x)]) ?_ ?_
      ·rintro _ w35 ⟨rfl, hbw36⟩
       replace hb := hb.trans (hbw36.mono hb.size)
       replace hj19 := hj19.trans (hbw36.mono hj19.size)
       replace hj26 := hj26.trans (hbw36.mono hj26.size)
       refine sr_evg (b := true) (e := 11) rfl rfl hg16 (v := .bool z32) (ev_pick_f rfl hg23 rfl) (by decide) ?_
       exact sr_weaken (l' := [(11, .bool z7), (31, .bool z32)]) (.cons rfl (.cons rfl (.nil _))) (K24 z32 _ ⟨(Option.some.inj hS).symm, hj26⟩)
      ·intro K31
       clear hS
       have hj33 := Below.refl w10.heap.size w10
       rcases Bool.eq_false_or_eq_true (decide ((b_1.length : Int) > (a_0.length : Int))) with hg30 | hg30
       ·have hS := ite_true' hz34 hg30
        refine sr_evg (b := true) (e := 21) rfl rfl hg30 (v := str b_1) (ev_move rfl) (by decide) ?_
        refine sr_evg (b := true) (e := 21) rfl rfl hg30 (v := str a_0) (ev_move rfl) (by decide) ?_
        refine sr_evg (b := true) (e := 21) rfl rfl hg30 (v := .int .i64 (a_0.length : Int)) (ev_slen Tryz.underlying9 rfl) (by decide) ?_
        refine sr_evg (b := true) (e := 21) rfl rfl hg30 (v := .int .i64 (IntKind.i64.wrap ((a_0.length : Int) + 1))) (ev_add rfl rfl) (by decide) ?_
        obtain ⟨hk37, hS⟩ := chk_some hS
        refine sr_evg (b := true) (e := 21) rfl rfl hg30 (v := str (cut b_1 0 (IntKind.i64.wrap ((a_0.length : Int) + 1)))) (ev_sslice_to Tryz.underlying9 rfl rfl hk37) (by decide) ?_
        refine sr_evg (b := true) (e := 21) rfl rfl hg30 (v := str a_0) (ev_move rfl) (by decide) ?_
        obtain ⟨hk38, hS⟩ := chk_some hS
        refine sr_evg (b := true) (e := 21) rfl rfl hg30 (v := str (a_0 ++ ([46]))) (ev_cat rfl rfl hk38) (by decide) ?_
        refine sr_evg (b := true) (e := 21) rfl rfl hg30 (v := .bool ((cut b_1 0 (IntKind.i64.wrap ((a_0.length : Int) + 1))) == (a_0 ++ ([46])))) (ev_seq rfl rfl) (by decide) ?_
        refine sr_evg (b := false) (e := 15) rfl rfl hg23 (v := .bool ((cut b_1 0 (IntKind.i64.wrap ((a_0.length : Int) + 1))) == (a_0 ++ ([46])))) (ev_pick_t rfl hg30 rfl) (by decide) ?_
        exact sr_weaken (l' := [(11, .bool z7), (15, .bool (a_0 == b_1)), (30, .bool ((cut b_1 0 (IntKind.i64.wrap ((a_0.length : Int) + 1))) == (a_0 ++ ([46]))))]) (.cons rfl (.cons rfl (.cons rfl (.nil _)))) (K31 ((cut b_1 0 (IntKind.i64.wrap ((a_0.length : Int) + 1))) == (a_0 ++ ([46]))) _ ⟨(Option.some.inj hS).symm, hj33⟩)
       ·have hS := ite_false' hz34 hg30
        refine sr_pass (e := 21) rfl rfl (by rw [hg30]; rfl) (by decide) ?_
        refine sr_pass (e := 21) rfl rfl (by rw [hg30]; rfl) (by decide) ?_
        refine sr_pass (e := 21) rfl rfl (by rw [hg30]; rfl) (by decide) ?_
        refine sr_pass (e := 21) rfl rfl (by rw [hg30]; rfl) (by decide) ?_
        refine sr_pass (e := 21) rfl rfl (by rw [hg30]; rfl) (by decide) ?_
        refine sr_pass (e := 21) rfl rfl (by rw [hg30]; rfl) (by decide) ?_
        refine sr_pass (e := 21) rfl rfl (by rw [hg30]; rfl) (by decide) ?_
        refine sr_pass (e := 21) rfl rfl (by rw [hg30]; rfl) (by decide) ?_
        refine sr_evg (b := false) (e := 15) rfl rfl hg23 (v := .bool false) (ev_pick_f rfl hg30 rfl) (by decide) ?_
        exact sr_weaken (l' := [(11, .bool z7), (15, .bool (a_0 == b_1)), (30, .bool false)]) (.cons rfl (.cons rfl (.cons rfl (.nil _)))) (K31 false _ ⟨(Option.some.inj hS).symm, hj33⟩)
   ·have hS := ite_false' hz20 hg16
    refine sr_pass (e := 11) rfl rfl (by rw [hg16]; rfl) (by decide) ?_
    refine sr_pass (e := 11) rfl rfl (by rw [hg16]; rfl) (by decide) ?_
    refine sr_pass (e := 11) rfl rfl (by rw [hg16]; rfl) (by decide) ?_
    refine sr_pass (e := 11) rfl rfl (by rw [hg16]; rfl) (by decide) ?_
    refine sr_pass_undef (e := 15) rfl rfl (by decide) ?_
    refine sr_pass_undef (e := 15) rfl rfl (by decide) ?_
    refine sr_pass_undef (e := 15) rfl rfl (by decide) ?_
    refine sr_pass_undef (e := 15) rfl rfl (by decide) ?_
    refine sr_pass_undef (e := 15) rfl rfl (by decide) ?_
    refine sr_pass_undef (e := 15) rfl rfl (by decide) ?_
    refine sr_pass_undef (e := 21) rfl rfl (by decide) ?_
    refine sr_pass_undef (e := 21) rfl rfl (by decide) ?_
    refine sr_pass_undef (e := 21) rfl rfl (by decide) ?_
    refine sr_pass_undef (e := 21) rfl rfl (by decide) ?_
    refine sr_pass_undef (e := 21) rfl rfl (by decide) ?_
    refine sr_pass_undef (e := 21) rfl rfl (by decide) ?_
    refine sr_pass_undef (e := 21) rfl rfl (by decide) ?_
    refine sr_pass_undef (e := 21) rfl rfl (by decide) ?_
    refine sr_pass_undef (e := 15) rfl rfl (by decide) ?_
    refine sr_pass (e := 11) rfl rfl (by rw [hg16]; rfl) (by decide) ?_
    refine sr_ev (v := .bool false) (ev_pick_f rfl hg16 rfl) (by decide) ?_
    exact sr_weaken (l' := [(32, .bool false)]) (.cons rfl (.nil _)) (K17 false _ ⟨(Option.some.inj hS).symm, hj19⟩)
 ·intro K6
  clear hS
  have hj8 := Below.refl w3.heap.size w3
  rcases Bool.eq_false_or_eq_true y1 with hg5 | hg5
  ·have hS := ite_true' hz9 hg5
   refine sr_evg (b := true) (e := 7) rfl rfl hg5 (v := str b_1) (ev_move rfl) (by decide) ?_
   obtain ⟨y12, hy13, hS⟩ := bind_some' hS
   refine sr_callg (b := true) (e := 7) rfl rfl hg5 (vs := [str b_1]) rfl Tryz.call80 rfl (ref29_Valid_ok _ (hg.below hb) hy13) (by decide) ?_
   rintro _ w14 ⟨rfl, hbw15⟩
   replace hb := hb.trans (hbw15.mono hb.size)
   replace hj8 := hj8.trans (hbw15.mono hj8.size)
   refine sr_ev (v := .bool y12) (ev_pick_t rfl hg5 rfl) (by decide) ?_
   exact sr_weaken (l' := [(0, str a_0), (1, str b_1), (10, .bool y12)]) (.cons rfl (.cons rfl (.cons rfl (.nil _)))) (K6 y12 _ ⟨(Option.some.inj hS).symm, hj8⟩)
  ·have hS := ite_false' hz9 hg5
   refine sr_pass (e := 7) rfl rfl (by rw [hg5]; rfl) (by decide) ?_
   refine sr_pass (e := 7) rfl rfl (by rw [hg5]; rfl) (by decide) ?_
   refine sr_ev (v := .bool false) (ev_pick_f rfl hg5 rfl) (by decide) ?_
   exact sr_weaken (l' := [(0, str a_0), (1, str b_1), (10, .bool false)]) (.cons rfl (.cons rfl (.cons rfl (.nil _)))) (K6 false _ ⟨(Option.some.inj hS).symm, hj8⟩)
theorem ref29_covers_L1_ok {w0 : World} (hg : Gs w0) {A0 : Nat → Prop} (hA0 : ∀ b, A0 b → b < w0.heap.size) : ∀ (n : Nat), ∀ {r : Bool} {l_0 : List Str} {s_1 : Str} {i_5 : Int} {vl_0 : Value}, ref29_covers_L1 n l_0 s_1 i_5 = some r → ∀ {w : World} {A : Nat → Prop}, (Below w0.heap.size w0 w) → (∀ b, A b → b < w.heap.size) → (∀ b, A0 b → A b) → (Hp A w0.heap.size w []) → (SlR strC A w vl_0 l_0) → KE Tryz.prog 86 (Ret (fun v w' => v = .bool r ∧ Below w0.heap.size w0 w')) 18 [.code (sub (bodyOf Tryz.f86) [2, 1, 2, 2, 1]), .inLoop (sub (bodyOf Tryz.f86) [2, 1, 2, 2, 1]), .inBlock 0, .code (sub (bodyOf Tryz.f86) [2, 2])] [(0, vl_0), (1, str s_1), (5, .int .i64 i_5)] w := by
 intro n
 induction n with
 | zero => intro r l_0 s_1 i_5 vl_0 hS; cases hS
 | succ n ih =>
  have hr0 : ∀ {r : Bool} {l_0 : List Str} {s_1 : Str} {i_5 : Int} {vl_0 : Value}, ref29_covers_L1 n l_0 s_1 i_5 = some r → ∀ {w : World} {A : Nat → Prop}, (Below w0.heap.size w0 w) → (∀ b, A b → b < w.heap.size) → (∀ b, A0 b → A b) → (Hp A w0.heap.size w []) → (SlR strC A w vl_0 l_0) → KE Tryz.prog 86 (Ret (fun v w' => v = .bool r ∧ Below w0.heap.size w0 w')) 18 [.inLoop (sub (bodyOf Tryz.f86) [2, 1, 2, 2, 1]), .inBlock 0, .code (sub (bodyOf Tryz.f86) [2, 2])] [(0, vl_0), (1, str s_1), (5, .int .i64 i_5)] w := fun {r} {l_0} {s_1} {i_5} {vl_0} hS {w} {A} hb hA hi hH hl_0 => ke_inLoop (ih hS hb hA hi hH hl_0)
  clear ih
  intro r l_0 s_1 i_5 vl_0 hS w A hb hA hi hH hl_0
  unfold ref29_covers_L1 at hS
  refine ke_seq ?_
  refine ke_seq ?_
  refine ke_region ?_
  refine sr_ev (v := .int .i64 i_5) (ev_move rfl) (by decide) ?_
  refine sr_ev (v := vl_0) (ev_move rfl) (by decide) ?_
  refine sr_ev (v := .int .i64 (l_0.length : Int)) (ev_sllen Tryz.underlying25 rfl hl_0) (by decide) ?_
  refine sr_ev (v := .bool (decide (i_5 < (l_0.length : Int)))) (ev_lt rfl rfl) (by decide) ?_
  refine sr_end (l' := [(0, vl_0), (1, str s_1), (5, .int .i64 i_5), (9, .bool (decide (i_5 < (l_0.length : Int))))]) (.cons rfl (.cons rfl (.cons rfl (.cons rfl (.nil _))))) ?_
  refine ke_cond (t := decide (i_5 < (l_0.length : Int))) rfl (fun hc3 => ?_) (fun hc3 => ?_)
  ·replace hS := ite_true' hS hc3
   refine ke_skip ?_
   refine ke_seq ?_
   refine ke_block ?_
   refine ke_seq ?_
   refine ke_region ?_
   refine sr_ev (v := vl_0) (ev_move rfl) (by decide) ?_
   refine sr_ev (v := .int .i64 i_5) (ev_move rfl) (by decide) ?_
   obtain ⟨y4, hy5, hS⟩ := bind_some' hS
   refine sr_index hl_0 Tryz.underlying25 Tryz.info9 rfl rfl rfl hy5 (by decide) ?_
   intro b6 o7 cs9 he8
   obtain rfl : cs9 = [str y4] := he8.rd
   refine sr_ev (v := str y4) (ev_load Tryz.isAgg9 rfl (he8.cell 0 _ rfl)) (by decide) ?_
   refine sr_ev (v := str s_1) (ev_move rfl) (by decide) ?_
   obtain ⟨y10, hy11, hS⟩ := bind_some' hS
   refine sr_call (vs := [str y4, str s_1]) rfl Tryz.call97 rfl (ref29_Implies_ok _ (hg.below hb) hy11) (by decide) ?_
   rintro _ w12 ⟨rfl, hbw13⟩
   replace hb := hb.trans (hbw13.mono hb.size)
   replace hA := lt_mono hA hbw13.size
   replace hH := hH.below hbw13
   replace hl_0 := hl_0.below hbw13
   refine sr_end (l' := [(0, vl_0), (1, str s_1), (5, .int .i64 i_5), (17, .bool y10)]) (.cons rfl (.cons rfl (.cons rfl (.cons rfl (.nil _))))) ?_
   refine ke_cond (t := y10) rfl (fun hc14 => ?_) (fun hc14 => ?_)
   ·replace hS := ite_true' hS hc14
    refine ke_seq ?_
    refine ke_region ?_
    refine sr_ev (v := .bool true) (ev_assign rfl) (by decide) ?_
    refine sr_end (l' := [(4, .bool true)]) (.cons rfl (.nil _)) ?_
    cases hS
    exact ke_ret1 Tryz.func86 rfl rfl ⟨_, rfl, rfl, hb⟩
   ·replace hS := ite_false' hS hc14
    refine ke_skip ?_
    refine ke_inBlock ?_
    refine ke_region ?_
    refine sr_ev (v := .int .i64 i_5) (ev_move rfl) (by decide) ?_
    refine sr_ev (v := .int .i64 (IntKind.i64.wrap (i_5 + 1))) (ev_add rfl rfl) (by decide) ?_
    refine sr_ev (v := .int .i64 (IntKind.i64.wrap (i_5 + 1))) (ev_assign rfl) (by decide) ?_
    refine sr_end (l' := [(0, vl_0), (1, str s_1), (5, .int .i64 (IntKind.i64.wrap (i_5 + 1)))]) (.cons rfl (.cons rfl (.cons rfl (.nil _)))) ?_
    have hK := hr0 hS hb hA hi hH hl_0
    exact ke_weaken (l' := [(0, vl_0), (1, str s_1), (5, .int .i64 (IntKind.i64.wrap (i_5 + 1)))]) (.cons rfl (.cons rfl (.cons rfl (.nil _)))) hK
  ·replace hS := ite_false' hS hc3
   refine ke_exit (k' := _) rfl ?_
   refine ke_seq ?_
   refine ke_region ?_
   refine sr_ev (v := .bool false) (ev_assign rfl) (by decide) ?_
   refine sr_end (l' := [(4, .bool false)]) (.cons rfl (.nil _)) ?_
   cases hS
   exact ke_ret1 Tryz.func86 rfl rfl ⟨_, rfl, rfl, hb⟩
theorem ref29_covers_ok {A0 : Nat → Prop} (w0 : World) (hg : Gs w0) {l_0 : List Str} {s_1 : Str} {v1 : Value} {r : Bool} (h2 : SlR strC A0 w0 v1 l_0) (hS : ref29_covers l_0 s_1 = some r) :
  Calls Tryz.prog 86 #[v1, str s_1] w0 (Ret (fun v w' => v = .bool r ∧ Below w0.heap.size w0 w')) := by
 unfold ref29_covers at hS
 have hb := Below.refl w0.heap.size w0
 replace h2 := h2.weak (A' := fun _ => False) (fun _ h => h.elim)
 obtain ⟨A0, hA0, hAe⟩ : ∃ A0 : Nat → Prop, (∀ b, A0 b → b < w0.heap.size) ∧ A0 = fun _ => False := ⟨_, fun _ h => h.elim, rfl⟩
 rw [← hAe] at h2
 clear hAe
 have hA := hA0
 have hi : ∀ b, A0 b → A0 b := fun _ h => h
 have hH := Hp.nil A0 w0.heap.size w0
 refine calls_of_ke Tryz.func86 rfl (n := 18) rfl rfl (l := [(0, v1), (1, str s_1)]) rfl ?_
 refine ke_seq ?_
 refine ke_region ?_
 refine sr_ev (v := .bool false) (ev_assign rfl) (by decide) ?_
 refine sr_end (l' := [(0, v1), (1, str s_1)]) (.cons rfl (.cons rfl (.nil _))) ?_
 refine ke_seq ?_
 refine ke_seq ?_
 refine ke_region ?_
 refine sr_ev (v := .int .i64 0) (ev_assign rfl) (by decide) ?_
 refine sr_end (l' := [(0, v1), (1, str s_1), (5, .int .i64 0)]) (.cons rfl (.cons rfl (.cons rfl (.nil _)))) ?_
 refine ke_block ?_
 have hK := ref29_covers_L1_ok hg hA0 _ hS hb hA hi hH h2
 exact ke_weaken (l' := [(0, v1), (1, str s_1), (5, .int .i64 0)]) (.cons rfl (.cons rfl (.cons rfl (.nil _)))) (ke_loop hK)
theorem ref29_Within_L1_ok {w0 : World} (hg : Gs w0) {A0 : Nat → Prop} (hA0 : ∀ b, A0 b → b < w0.heap.size) : ∀ (n : Nat), ∀ {r : Bool} {a_0 : List Str} {b_1 : List Str} {i_5 : Int} {va_0 : Value} {vb_1 : Value}, ref29_Within_L1 n a_0 b_1 i_5 = some r → ∀ {w : World} {A : Nat → Prop}, (Below w0.heap.size w0 w) → (∀ b, A b → b < w.heap.size) → (∀ b, A0 b → A b) → (Hp A w0.heap.size w []) → (SlR strC A w va_0 a_0) → (SlR strC A w vb_1 b_1) → KE Tryz.prog 61 (Ret (fun v w' => v = .bool r ∧ Below w0.heap.size w0 w')) 19 [.code (sub (bodyOf Tryz.f61) [2, 1, 2, 2, 1]), .inLoop (sub (bodyOf Tryz.f61) [2, 1, 2, 2, 1]), .inBlock 0, .code (sub (bodyOf Tryz.f61) [2, 2])] [(0, va_0), (1, vb_1), (5, .int .i64 i_5)] w := by
 intro n
 induction n with
 | zero => intro r a_0 b_1 i_5 va_0 vb_1 hS; cases hS
 | succ n ih =>
  have hr0 : ∀ {r : Bool} {a_0 : List Str} {b_1 : List Str} {i_5 : Int} {va_0 : Value} {vb_1 : Value}, ref29_Within_L1 n a_0 b_1 i_5 = some r → ∀ {w : World} {A : Nat → Prop}, (Below w0.heap.size w0 w) → (∀ b, A b → b < w.heap.size) → (∀ b, A0 b → A b) → (Hp A w0.heap.size w []) → (SlR strC A w va_0 a_0) → (SlR strC A w vb_1 b_1) → KE Tryz.prog 61 (Ret (fun v w' => v = .bool r ∧ Below w0.heap.size w0 w')) 19 [.inLoop (sub (bodyOf Tryz.f61) [2, 1, 2, 2, 1]), .inBlock 0, .code (sub (bodyOf Tryz.f61) [2, 2])] [(0, va_0), (1, vb_1), (5, .int .i64 i_5)] w := fun {r} {a_0} {b_1} {i_5} {va_0} {vb_1} hS {w} {A} hb hA hi hH ha_0 hb_1 => ke_inLoop (ih hS hb hA hi hH ha_0 hb_1)
  clear ih
  intro r a_0 b_1 i_5 va_0 vb_1 hS w A hb hA hi hH ha_0 hb_1
  unfold ref29_Within_L1 at hS
  refine ke_seq ?_
  refine ke_seq ?_
  refine ke_region ?_
  refine sr_ev (v := .int .i64 i_5) (ev_move rfl) (by decide) ?_
  refine sr_ev (v := va_0) (ev_move rfl) (by decide) ?_
  refine sr_ev (v := .int .i64 (a_0.length : Int)) (ev_sllen Tryz.underlying25 rfl ha_0) (by decide) ?_
  refine sr_ev (v := .bool (decide (i_5 < (a_0.length : Int)))) (ev_lt rfl rfl) (by decide) ?_
  refine sr_end (l' := [(0, va_0), (1, vb_1), (5, .int .i64 i_5), (9, .bool (decide (i_5 < (a_0.length : Int))))]) (.cons rfl (.cons rfl (.cons rfl (.cons rfl (.nil _))))) ?_
  refine ke_cond (t := decide (i_5 < (a_0.length : Int))) rfl (fun hc5 => ?_) (fun hc5 => ?_)
  ·replace hS := ite_true' hS hc5
   refine ke_skip ?_
   refine ke_seq ?_
   refine ke_block ?_
   refine ke_seq ?_
   refine ke_region ?_
   refine sr_ev (v := vb_1) (ev_move rfl) (by decide) ?_
   refine sr_ev (v := va_0) (ev_move rfl) (by decide) ?_
   refine sr_ev (v := .int .i64 i_5) (ev_move rfl) (by decide) ?_
   obtain ⟨y6, hy7, hS⟩ := bind_some' hS
   refine sr_index ha_0 Tryz.underlying25 Tryz.info9 rfl rfl rfl hy7 (by decide) ?_
   intro b8 o9 cs11 he10
   obtain rfl : cs11 = [str y6] := he10.rd
   refine sr_ev (v := str y6) (ev_load Tryz.isAgg9 rfl (he10.cell 0 _ rfl)) (by decide) ?_
   obtain ⟨y12, hy13, hS⟩ := bind_some' hS
   refine sr_call (vs := [vb_1, str y6]) rfl Tryz.call86 rfl (ref29_covers_ok _ (hg.below hb) hb_1 hy13) (by decide) ?_
   rintro _ w14 ⟨rfl, hbw15⟩
   replace hb := hb.trans (hbw15.mono hb.size)
   replace hA := lt_mono hA hbw15.size
   replace hH := hH.below hbw15
   replace ha_0 := ha_0.below hbw15
   replace hb_1 := hb_1.below hbw15
   refine sr_ev (v := .bool (!y12)) (ev_not rfl) (by decide) ?_
   refine sr_end (l' := [(0, va_0), (1, vb_1), (5, .int .i64 i_5), (18, .bool (!y12))]) (.cons rfl (.cons rfl (.cons rfl (.cons rfl (.nil _))))) ?_
   refine ke_cond (t := !y12) rfl (fun hc16 => ?_) (fun hc16 => ?_)
   ·replace hS := ite_true' hS hc16
    refine ke_seq ?_
    refine ke_region ?_
    refine sr_ev (v := .bool false) (ev_assign rfl) (by decide) ?_
    refine sr_end (l' := [(4, .bool false)]) (.cons rfl (.nil _)) ?_
    cases hS
    exact ke_ret1 Tryz.func61 rfl rfl ⟨_, rfl, rfl, hb⟩
   ·replace hS := ite_false' hS hc16
    refine ke_skip ?_
    refine ke_inBlock ?_
    refine ke_region ?_
    refine sr_ev (v := .int .i64 i_5) (ev_move rfl) (by decide) ?_
    refine sr_ev (v := .int .i64 (IntKind.i64.wrap (i_5 + 1))) (ev_add rfl rfl) (by decide) ?_
    refine sr_ev (v := .int .i64 (IntKind.i64.wrap (i_5 + 1))) (ev_assign rfl) (by decide) ?_
    refine sr_end (l' := [(0, va_0), (1, vb_1), (5, .int .i64 (IntKind.i64.wrap (i_5 + 1)))]) (.cons rfl (.cons rfl (.cons rfl (.nil _)))) ?_
    have hK := hr0 hS hb hA hi hH ha_0 hb_1
    exact ke_weaken (l' := [(0, va_0), (1, vb_1), (5, .int .i64 (IntKind.i64.wrap (i_5 + 1)))]) (.cons rfl (.cons rfl (.cons rfl (.nil _)))) hK
  ·replace hS := ite_false' hS hc5
   refine ke_exit (k' := _) rfl ?_
   refine ke_seq ?_
   refine ke_region ?_
   refine sr_ev (v := .bool true) (ev_assign rfl) (by decide) ?_
   refine sr_end (l' := [(4, .bool true)]) (.cons rfl (.nil _)) ?_
   cases hS
   exact ke_ret1 Tryz.func61 rfl rfl ⟨_, rfl, rfl, hb⟩
theorem ref29_Within_ok {A0 : Nat → Prop} (w0 : World) (hg : Gs w0) {a_0 : List Str} {b_1 : List Str} {v1 : Value} {v3 : Value} {r : Bool} (h2 : SlR strC A0 w0 v1 a_0) (h4 : SlR strC A0 w0 v3 b_1) (hS : ref29_Within a_0 b_1 = some r) :
  Calls Tryz.prog 61 #[v1, v3] w0 (Ret (fun v w' => v = .bool r ∧ Below w0.heap.size w0 w')) := by
 unfold ref29_Within at hS
 have hb := Below.refl w0.heap.size w0
 replace h2 := h2.weak (A' := fun _ => False) (fun _ h => h.elim)
 replace h4 := h4.weak (A' := fun _ => False) (fun _ h => h.elim)
 obtain ⟨A0, hA0, hAe⟩ : ∃ A0 : Nat → Prop, (∀ b, A0 b → b < w0.heap.size) ∧ A0 = fun _ => False := ⟨_, fun _ h => h.elim, rfl⟩
 rw [← hAe] at h2
 rw [← hAe] at h4
 clear hAe
 have hA := hA0
 have hi : ∀ b, A0 b → A0 b := fun _ h => h
 have hH := Hp.nil A0 w0.heap.size w0
 refine calls_of_ke Tryz.func61 rfl (n := 19) rfl rfl (l := [(0, v1), (1, v3)]) rfl ?_
 refine ke_seq ?_
 refine ke_region ?_
 refine sr_ev (v := .bool false) (ev_assign rfl) (by decide) ?_
 refine sr_end (l' := [(0, v1), (1, v3)]) (.cons rfl (.cons rfl (.nil _))) ?_
 refine ke_seq ?_
 refine ke_seq ?_
 refine ke_region ?_
 refine sr_ev (v := .int .i64 0) (ev_assign rfl) (by decide) ?_
 refine sr_end (l' := [(0, v1), (1, v3), (5, .int .i64 0)]) (.cons rfl (.cons rfl (.cons rfl (.nil _)))) ?_
 refine ke_block ?_
 have hK := ref29_Within_L1_ok hg hA0 _ hS hb hA hi hH h2 h4
 exact ke_weaken (l' := [(0, v1), (1, v3), (5, .int .i64 0)]) (.cons rfl (.cons rfl (.cons rfl (.nil _)))) (ke_loop hK)
theorem ref36_Clients_Allowed_ok (w0 : World) (hg : Gs w0) {ρA : Tags} (hbd : ∀ b, ρA b ≠ 0 → b < w0.heap.size) (hz : Gz ρA) {τ0 : Nat → Nat} (hτ0 : ∀ p, 1 ≤ τ0 p) {r_0 : ref36_Clients} {id_1 : Str} {scopes_2 : List Str} {v4 : Value} {gr_0 : Nat} {r : Int} (h5 : SlR strC (Wb ρA) w0 v4 scopes_2) (ho0 : ref36_Clients.O τ0 ρA w0 gr_0 r_0) (hS : ref36_Clients_Allowed r_0 id_1 scopes_2 = some r) :
  Calls Tryz.prog 31 #[.pointer (some ⟨gr_0, 0, none⟩), str id_1, v4] w0 (Ret (fun v w' => v = .int .i64 r ∧ Below w0.heap.size w0 w')) := by
 unfold ref36_Clients_Allowed at hS
 have hb := flat1_fr (ρ := ρA) (w := w0) hbd
 have hz := hz.flat1
 replace h5 := SlR.mv h5 flat1_rd
 obtain ⟨v1, hB3, h2⟩ := ho0
 replace hB3 := hB3.mv (flat1_mv (hτ0 0))
 replace h2 := h2.mv (flat1_mv (hτ0 1)) (by decide)
 replace hB3 : Blk (flat1 ρA) 1 w0 gr_0 (.cells #[v1, .bool r_0.made] 73 (0, 0)) := hB3
 replace h2 : OwnT api_Client.c 27 (flat1 ρA) 1 w0 v1 r_0.list := h2
 refine calls_of_ke Tryz.func31 rfl (n := 26) rfl rfl (l := [(0, .pointer (some ⟨gr_0, 0, none⟩)), (1, str id_1), (2, v4)]) rfl ?_
 refine ke_seq ?_
 refine ke_region ?_
 refine sr_ev (v := .int .i64 0) (ev_assign rfl) (by decide) ?_
 refine sr_end (l' := [(0, .pointer (some ⟨gr_0, 0, none⟩)), (1, str id_1), (2, v4)]) (.cons rfl (.cons rfl (.cons rfl (.nil _)))) ?_
 refine ke_seq ?_
 refine ke_region ?_
 refine sr_ev (v := .pointer (some ⟨gr_0, 0, none⟩)) (ev_move rfl) (by decide) ?_
 refine sr_ev (v := str id_1) (ev_move rfl) (by decide) ?_
 obtain ⟨y6, hy7, hS⟩ := bind_some' hS
 refine sr_call (vs := [.pointer (some ⟨gr_0, 0, none⟩), str id_1]) rfl Tryz.call56 rfl (ref36_at_ok _ (hg.fr hz hb) (ρA := (flat1 ρA)) hb.bd (hz.fr hg hb) (τ0 := (fun _ => 1)) (fun _ => Nat.le_refl 1) (⟨_, hB3, h2⟩ : ref36_Clients.O (fun _ => 1) (flat1 ρA) w0 gr_0 r_0) hy7) (by decide) ?_
 rintro _ w8 ⟨rfl, hbw9⟩
 have htr10 := Tr.of_below hbw9 hb.bd
 replace h5 := h5.mv htr10.rd
 replace hB3 := hB3.mv (htr10.mv (i := 1) rfl)
 replace h2 := h2.mv (htr10.mv (i := 1) rfl) (by decide)
 replace hb := hb.trans htr10
 refine sr_ev (v := .int .i64 y6) (ev_assign rfl) (by decide) ?_
 refine sr_end (l' := [(0, .pointer (some ⟨gr_0, 0, none⟩)), (2, v4), (7, .int .i64 y6)]) (.cons rfl (.cons rfl (.cons rfl (.nil _)))) ?_
 refine ke_seq ?_
 refine ke_seq ?_
 refine ke_region ?_
 refine sr_ev (v := .int .i64 y6) (ev_move rfl) (by decide) ?_
 refine sr_ev (v := .bool (decide (y6 < 0))) (ev_lt rfl rfl) (by decide) ?_
 refine sr_end (l' := [(0, .pointer (some ⟨gr_0, 0, none⟩)), (2, v4), (7, .int .i64 y6), (12, .bool (decide (y6 < 0)))]) (.cons rfl (.cons rfl (.cons rfl (.cons rfl (.nil _))))) ?_
 refine ke_cond (t := decide (y6 < 0)) rfl (fun hc11 => ?_) (fun hc11 => ?_)
 ·replace hS := ite_true' hS hc11
  refine ke_seq ?_
  refine ke_region ?_
  refine sr_ev (v := .pointer (some ⟨gr_0, 0, none⟩)) (ev_move rfl) (by decide) ?_
  obtain ⟨y12, hy13, hS⟩ := bind_some' hS
  refine sr_call (vs := [.pointer (some ⟨gr_0, 0, none⟩)]) rfl Tryz.call58 rfl (ref36_none_ok _ (hg.fr hz hb) (ρA := (flat1 ρA)) hb.bd (hz.fr hg hb) (τ0 := (fun _ => 1)) (fun _ => Nat.le_refl 1) (⟨_, hB3, h2⟩ : ref36_Clients.O (fun _ => 1) (flat1 ρA) w8 gr_0 r_0) hy13) (by decide) ?_
  rintro _ w14 ⟨rfl, hbw15⟩
  have htr16 := Tr.of_below hbw15 hb.bd
  replace hb := hb.trans htr16
  refine sr_ev (v := .int .i64 y12) (ev_assign rfl) (by decide) ?_
  refine sr_end (l' := [(6, .int .i64 y12)]) (.cons rfl (.nil _)) ?_
  cases hS
  exact ke_ret1 Tryz.func31 rfl rfl ⟨_, rfl, rfl, (hb.below (flat1_le _))⟩
 ·replace hS := ite_false' hS hc11
  refine ke_skip ?_
  refine ke_seq ?_
  refine ke_seq ?_
  refine ke_region ?_
  refine sr_ev (v := v4) (ev_move rfl) (by decide) ?_
  refine sr_ev (v := .pointer (some ⟨gr_0, 0, none⟩)) (ev_move rfl) (by decide) ?_
  refine sr_ev (v := .pointer (some ⟨gr_0, 0, none⟩)) (ev_nilCheck rfl) (by decide) ?_
  refine sr_ev (v := .pointer (some ⟨gr_0, 0, none⟩)) (ev_fieldAddr (i := 0) Tryz.underlying73 rfl Tryz.info71 rfl rfl) (by decide) ?_
  refine sr_ev (v := v1) (ev_load Tryz.isAgg71 rfl (hB3.cell rfl)) (by decide) ?_
  refine sr_ev (v := .int .i64 y6) (ev_move rfl) (by decide) ?_
  obtain ⟨y17, hy18, hS⟩ := bind_some' hS
  obtain ⟨b19, o20, cs22, hq23, he21, hg28, ho29⟩ := h2.elemQ (P := Tryz.prog) Tryz.underlying71 Tryz.info27 rfl hy18
  obtain ⟨v24, v26, hcshe21, h25, h27⟩ := he21.rd
  obtain rfl : cs22 = [str y17.ID, .int .i64 y17.Kind, str y17.Tenant, str y17.Secret.Salt, .int .i64 y17.Secret.Rounds, str y17.Secret.Hash, v24, v26, str y17.Logout] := hcshe21
  refine sr_ev (v := .pointer (some ⟨b19, o20, none⟩)) (hq23 w8 rfl rfl) (by decide) ?_
  refine sr_ev (v := .pointer (some ⟨b19, o20 + 7, none⟩)) (ev_fieldAddr (i := 5) Tryz.underlying27 rfl Tryz.info25 rfl rfl) (by decide) ?_
  refine sr_ev (v := v26) (ev_load Tryz.isAgg25 rfl (he21.cell 7 _ rfl)) (by decide) ?_
  obtain ⟨y30, hy31, hS⟩ := bind_some' hS
  refine sr_call (vs := [v4, v26]) rfl Tryz.call61 rfl (ref29_Within_ok _ (hg.fr hz hb) h5.asSl h27.asSl hy31) (by decide) ?_
  rintro _ w32 ⟨rfl, hbw33⟩
  have htr34 := Tr.of_below hbw33 hb.bd
  replace hb := hb.trans htr34
  refine sr_ev (v := .bool (!y30)) (ev_not rfl) (by decide) ?_
  refine sr_end (l' := [(25, .bool (!y30))]) (.cons rfl (.nil _)) ?_
  refine ke_cond (t := !y30) rfl (fun hc35 => ?_) (fun hc35 => ?_)
  ·replace hS := ite_true' hS hc35
   refine ke_seq ?_
   refine ke_region ?_
   refine sr_ev (v := .int .i64 19) (ev_assign rfl) (by decide) ?_
   refine sr_end (l' := [(6, .int .i64 19)]) (.cons rfl (.nil _)) ?_
   cases hS
   exact ke_ret1 Tryz.func31 rfl rfl ⟨_, rfl, rfl, (hb.below (flat1_le _))⟩
  ·replace hS := ite_false' hS hc35
   refine ke_skip ?_
   refine ke_seq ?_
   refine ke_region ?_
   refine sr_ev (v := .int .i64 0) (ev_assign rfl) (by decide) ?_
   refine sr_end (l' := [(6, .int .i64 0)]) (.cons rfl (.nil _)) ?_
   cases hS
   exact ke_ret1 Tryz.func31 rfl rfl ⟨_, rfl, rfl, (hb.below (flat1_le _))⟩
theorem ref36_Clients_List_L1_ok {w0 : World} (hg : Gs w0) {ρA : Tags} (hbd : ∀ b, ρA b ≠ 0 → b < w0.heap.size) (hz : Gz (flat1 ρA)) : ∀ (n : Nat), ∀ {r : List Str} {or_0 : ref36_Clients} {out_3 : List Str} {i_4 : Int} {gr_0 : Nat} {vout_3 : Value}, ref36_Clients_List_L1 n or_0 out_3 i_4 = some r → ∀ {ρ : Tags} {w : World}, (Fr (flat1 ρA) w0 ρ w) → (ref36_Clients.O (fun _ => 1) ρ w gr_0 or_0) → (OwnT strC 9 ρ 5 w vout_3 out_3) → KE Tryz.prog 36 (Ret (fun v w' => ∃ x1, v = x1 ∧ SlR strC (Wb ρA) w' x1 r ∧ Below w0.heap.size w0 w')) 30 [.code (sub (bodyOf Tryz.f36) [2, 2, 1, 2, 2, 1]), .inLoop (sub (bodyOf Tryz.f36) [2, 2, 1, 2, 2, 1]), .inBlock 0, .code (sub (bodyOf Tryz.f36) [2, 2, 2])] [(0, .pointer (some ⟨gr_0, 0, none⟩)), (3, vout_3), (4, .int .i64 i_4)] w := by
 intro n
 induction n with
 | zero => intro r or_0 out_3 i_4 gr_0 vout_3 hS; cases hS
 | succ n ih =>
  have hr0 : ∀ {r : List Str} {or_0 : ref36_Clients} {out_3 : List Str} {i_4 : Int} {gr_0 : Nat} {vout_3 : Value}, ref36_Clients_List_L1 n or_0 out_3 i_4 = some r → ∀ {ρ : Tags} {w : World}, (Fr (flat1 ρA) w0 ρ w) → (ref36_Clients.O (fun _ => 1) ρ w gr_0 or_0) → (OwnT strC 9 ρ 5 w vout_3 out_3) → KE Tryz.prog 36 (Ret (fun v w' => ∃ x1, v = x1 ∧ SlR strC (Wb ρA) w' x1 r ∧ Below w0.heap.size w0 w')) 30 [.inLoop (sub (bodyOf Tryz.f36) [2, 2, 1, 2, 2, 1]), .inBlock 0, .code (sub (bodyOf Tryz.f36) [2, 2, 2])] [(0, .pointer (some ⟨gr_0, 0, none⟩)), (3, vout_3), (4, .int .i64 i_4)] w := fun {r} {or_0} {out_3} {i_4} {gr_0} {vout_3} hS {ρ} {w} hb hor_0 hout_3 => ke_inLoop (ih hS hb hor_0 hout_3)
  clear ih
  intro r or_0 out_3 i_4 gr_0 vout_3 hS ρ w hb hor_0 hout_3
  unfold ref36_Clients_List_L1 at hS
  obtain ⟨v6, hB8, h7⟩ := hor_0
  replace hB8 : Blk ρ 1 w gr_0 (.cells #[v6, .bool or_0.made] 73 (0, 0)) := hB8
  replace h7 : OwnT api_Client.c 27 ρ 1 w v6 or_0.list := h7
  refine ke_seq ?_
  refine ke_seq ?_
  refine ke_region ?_
  refine sr_ev (v := .pointer (some ⟨gr_0, 0, none⟩)) (ev_move rfl) (by decide) ?_
  refine sr_ev (v := .bool true) (ev_pneT_some Tryz.underlying41 rfl rfl) (by decide) ?_
  refine sr_ev (v := .bool true) (ev_move rfl) (by decide) ?_
  refine sr_evg (b := true) (e := 7) rfl rfl rfl (v := .int .i64 i_4) (ev_move rfl) (by decide) ?_
  refine sr_evg (b := true) (e := 7) rfl rfl rfl (v := .pointer (some ⟨gr_0, 0, none⟩)) (ev_move rfl) (by decide) ?_
  refine sr_evg (b := true) (e := 7) rfl rfl rfl (v := .pointer (some ⟨gr_0, 0, none⟩)) (ev_nilCheck rfl) (by decide) ?_
  refine sr_evg (b := true) (e := 7) rfl rfl rfl (v := .pointer (some ⟨gr_0, 0, none⟩)) (ev_fieldAddr (i := 0) Tryz.underlying73 rfl Tryz.info71 rfl rfl) (by decide) ?_
  refine sr_evg (b := true) (e := 7) rfl rfl rfl (v := v6) (ev_load Tryz.isAgg71 rfl (hB8.cell rfl)) (by decide) ?_
  refine sr_evg (b := true) (e := 7) rfl rfl rfl (v := .int .i64 (or_0.list.length : Int)) (ev_sllen Tryz.underlying71 rfl h7.asSl) (by decide) ?_
  refine sr_evg (b := true) (e := 7) rfl rfl rfl (v := .bool (decide (i_4 < (or_0.list.length : Int)))) (ev_lt rfl rfl) (by decide) ?_
  refine sr_ev (v := .bool (decide (i_4 < (or_0.list.length : Int)))) (ev_pick_t rfl rfl rfl) (by decide) ?_
  refine sr_end (l' := [(0, .pointer (some ⟨gr_0, 0, none⟩)), (3, vout_3), (4, .int .i64 i_4), (15, .bool (decide (i_4 < (or_0.list.length : Int))))]) (.cons rfl (.cons rfl (.cons rfl (.cons rfl (.nil _))))) ?_
  refine ke_cond (t := decide (i_4 < (or_0.list.length : Int))) rfl (fun hc11 => ?_) (fun hc11 => ?_)
  ·replace hS := ite_true' hS hc11
   refine ke_skip ?_
   refine ke_seq ?_
   refine ke_block ?_
   refine ke_region ?_
   refine sr_ev (v := vout_3) (ev_move rfl) (by decide) ?_
   refine sr_ev (v := .pointer (some ⟨gr_0, 0, none⟩)) (ev_move rfl) (by decide) ?_
   refine sr_ev (v := .pointer (some ⟨gr_0, 0, none⟩)) (ev_nilCheck rfl) (by decide) ?_
   refine sr_ev (v := .pointer (some ⟨gr_0, 0, none⟩)) (ev_fieldAddr (i := 0) Tryz.underlying73 rfl Tryz.info71 rfl rfl) (by decide) ?_
   refine sr_ev (v := v6) (ev_load Tryz.isAgg71 rfl (hB8.cell rfl)) (by decide) ?_
   refine sr_ev (v := .int .i64 i_4) (ev_move rfl) (by decide) ?_
   obtain ⟨y12, hy13, hS⟩ := bind_some' hS
   obtain ⟨b14, o15, cs17, hq18, he16, hg23, ho24⟩ := h7.elemQ (P := Tryz.prog) Tryz.underlying71 Tryz.info27 rfl hy13
   obtain ⟨v19, v21, hcshe16, h20, h22⟩ := he16.rd
   obtain rfl : cs17 = [str y12.ID, .int .i64 y12.Kind, str y12.Tenant, str y12.Secret.Salt, .int .i64 y12.Secret.Rounds, str y12.Secret.Hash, v19, v21, str y12.Logout] := hcshe16
   refine sr_ev (v := .pointer (some ⟨b14, o15, none⟩)) (hq18 w rfl rfl) (by decide) ?_
   refine sr_ev (v := .pointer (some ⟨b14, o15 + 0, none⟩)) (ev_fieldAddr (i := 0) Tryz.underlying27 rfl Tryz.info9 rfl rfl) (by decide) ?_
   refine sr_ev (v := str y12.ID) (ev_load Tryz.isAgg9 rfl (he16.cell 0 _ rfl)) (by decide) ?_
   refine sr_litT (c := strC) (ρ := ρ) (E := 9) (xs := [y12.ID]) (vs := #[(0, str y12.ID)]) (cs := #[str y12.ID]) (css := [[str y12.ID]]) rfl (fun _ => by kernel_rfl) rfl ⟨rfl, trivial⟩ rfl (by decide) hb.bd (by decide) ?_
   intro v25 w27 h26 hbw29
   have htr28 := Tr.of_below hbw29 hb.bd
   replace hout_3 := hout_3.mv (htr28.mv (i := 5) rfl) (by decide)
   replace hB8 := hB8.mv (htr28.mv (i := 1) rfl)
   replace h7 := h7.mv (htr28.mv (i := 1) rfl) (by decide)
   replace hb := hb.trans htr28
   obtain ⟨hk30, hS⟩ := chk_some hS
   refine sr_appendT (i := 5) (c := strC) (ρ := ρ) (E := 9) (xs := out_3) (ys := ([y12.ID] : List Str)) hout_3 ((SlT.of_sl (i := 0) h26)).x Tryz.underlying25 Tryz.info9 rfl rfl rfl (by decide) (by decide) (by decide) hb.bd hk30 rfl rfl (by decide) ?_
   intro v31 ρ33 w34 h32 htr35
   replace hB8 := hB8.mv (htr35.mv (i := 1) rfl)
   replace h7 := h7.mv (htr35.mv (i := 1) rfl) (by decide)
   replace hb := hb.trans htr35
   refine sr_ev (v := v31) (ev_assign rfl) (by decide) ?_
   refine sr_end (l' := [(0, .pointer (some ⟨gr_0, 0, none⟩)), (3, v31), (4, .int .i64 i_4)]) (.cons rfl (.cons rfl (.cons rfl (.nil _)))) ?_
   refine ke_inBlock ?_
   refine ke_region ?_
   refine sr_ev (v := .int .i64 i_4) (ev_move rfl) (by decide) ?_
   refine sr_ev (v := .int .i64 (IntKind.i64.wrap (i_4 + 1))) (ev_add rfl rfl) (by decide) ?_
   refine sr_ev (v := .int .i64 (IntKind.i64.wrap (i_4 + 1))) (ev_assign rfl) (by decide) ?_
   refine sr_end (l' := [(0, .pointer (some ⟨gr_0, 0, none⟩)), (3, v31), (4, .int .i64 (IntKind.i64.wrap (i_4 + 1)))]) (.cons rfl (.cons rfl (.cons rfl (.nil _)))) ?_
   have hK := hr0 hS hb ⟨_, hB8, h7⟩ h32
   exact ke_weaken (l' := [(0, .pointer (some ⟨gr_0, 0, none⟩)), (3, v31), (4, .int .i64 (IntKind.i64.wrap (i_4 + 1)))]) (.cons rfl (.cons rfl (.cons rfl (.nil _)))) hK
  ·replace hS := ite_false' hS hc11
   refine ke_exit (k' := _) rfl ?_
   refine ke_seq ?_
   refine ke_region ?_
   refine sr_ev (v := vout_3) (ev_move rfl) (by decide) ?_
   refine sr_ev (v := vout_3) (ev_assign rfl) (by decide) ?_
   refine sr_end (l' := [(2, vout_3)]) (.cons rfl (.nil _)) ?_
   have htr36 := frz_tr (ρ := ρ) (w := w) (i := 5) (by decide) hb.bd
   have h37 : SlR strC (Wb (frz ρ 5)) w vout_3 out_3 := (SlT.mv hout_3.sl (frz_mv (ρ := ρ) (w := w) (i := 5))).sl
   replace hb := hb.trans htr36
   cases hS
   exact ke_ret1 Tryz.func36 rfl rfl ⟨_, rfl, _, rfl, (SlR.mv h37 (flat1_back hb hbd)), (hb.below (flat1_le _))⟩
theorem ref36_Clients_List_ok (w0 : World) (hg : Gs w0) {ρA : Tags} (hbd : ∀ b, ρA b ≠ 0 → b < w0.heap.size) (hz : Gz ρA) {τ0 : Nat → Nat} (hτ0 : ∀ p, 1 ≤ τ0 p) {r_0 : ref36_Clients} {gr_0 : Nat} {r : List Str} (ho0 : ref36_Clients.O τ0 ρA w0 gr_0 r_0) (hS : ref36_Clients_List r_0 = some r) :
  Calls Tryz.prog 36 #[.pointer (some ⟨gr_0, 0, none⟩)] w0 (Ret (fun v w' => ∃ x1, v = x1 ∧ SlR strC (Wb ρA) w' x1 r ∧ Below w0.heap.size w0 w')) := by
 unfold ref36_Clients_List at hS
 have hb := flat1_fr (ρ := ρA) (w := w0) hbd
 have hz := hz.flat1
 obtain ⟨v1, hB3, h2⟩ := ho0
 replace hB3 := hB3.mv (flat1_mv (hτ0 0))
 replace h2 := h2.mv (flat1_mv (hτ0 1)) (by decide)
 replace hB3 : Blk (flat1 ρA) 1 w0 gr_0 (.cells #[v1, .bool r_0.made] 73 (0, 0)) := hB3
 replace h2 : OwnT api_Client.c 27 (flat1 ρA) 1 w0 v1 r_0.list := h2
 refine calls_of_ke Tryz.func36 rfl (n := 30) rfl rfl (l := [(0, .pointer (some ⟨gr_0, 0, none⟩))]) rfl ?_
 refine ke_seq ?_
 refine ke_region ?_
 refine sr_ev (v := .slice none 0 0) (ev_assign rfl) (by decide) ?_
 refine sr_end (l' := [(0, .pointer (some ⟨gr_0, 0, none⟩))]) (.cons rfl (.nil _)) ?_
 refine ke_seq ?_
 refine ke_region ?_
 refine sr_ev (v := .slice none 0 0) (ev_assign rfl) (by decide) ?_
 refine sr_end (l' := [(0, .pointer (some ⟨gr_0, 0, none⟩)), (3, .slice none 0 0)]) (.cons rfl (.cons rfl (.nil _))) ?_
 refine ke_seq ?_
 refine ke_seq ?_
 refine ke_region ?_
 refine sr_ev (v := .int .i64 0) (ev_assign rfl) (by decide) ?_
 refine sr_end (l' := [(0, .pointer (some ⟨gr_0, 0, none⟩)), (3, .slice none 0 0), (4, .int .i64 0)]) (.cons rfl (.cons rfl (.cons rfl (.nil _)))) ?_
 refine ke_block ?_
 have hK := ref36_Clients_List_L1_ok hg hbd hz _ hS hb ⟨_, hB3, h2⟩ OwnT.nil
 exact ke_weaken (l' := [(0, .pointer (some ⟨gr_0, 0, none⟩)), (3, (.slice none 0 0)), (4, .int .i64 0)]) (.cons rfl (.cons rfl (.cons rfl (.nil _)))) (ke_loop hK)
theorem law36_ClientPlays_B2_ok {w0 : World} (hg : Gs w0) {ρA : Tags} (hbd : ∀ b, ρA b ≠ 0 → b < w0.heap.size) (hz : Gz (flat1 ρA)) (r0 : List law36_Op → client_Clients → ref36_Clients → Int → Option (Bool))
  (hr0 : ∀ {r : Bool} {l_0 : List law36_Op} {or_3 : client_Clients} {os_4 : ref36_Clients} {i_5 : Int} {vl_0 : Value} {gr_3 : Nat} {gs_4 : Nat}, r0 l_0 or_3 os_4 i_5 = some r → ∀ {ρ : Tags} {w : World}, (Fr (flat1 ρA) w0 ρ w) → (SlR law36_Op.c (Wb ρ) w vl_0 l_0) → (client_Clients.O (fun p => 100 + p) ρ w gr_3 or_3) → (ref36_Clients.O (fun p => 200 + p) ρ w gs_4 os_4) → KE Tryz.prog 5 (Ret (fun v w' => v = .bool r ∧ Below w0.heap.size w0 w')) 131 [.inLoop (sub (bodyOf Tryz.f5) [2, 2, 2, 2, 1, 2, 2, 1]), .inBlock 0, .code (sub (bodyOf Tryz.f5) [2, 2, 2, 2, 2])] [(0, vl_0), (3, .pointer (some ⟨gr_3, 0, none⟩)), (4, .pointer (some ⟨gs_4, 0, none⟩)), (5, .int .i64 i_5)] w) {r : Bool} {l_0 : List law36_Op} {or_3 : client_Clients} {os_4 : ref36_Clients} {i_5 : Int} {same_7 : Bool} {vl_0 : Value} {gr_3 : Nat} {gs_4 : Nat} (hS : law36_ClientPlays_B2 r0 l_0 or_3 os_4 i_5 same_7 = some r) {ρ : Tags} {w : World} (hb : Fr (flat1 ρA) w0 ρ w) (hl_0 : SlR law36_Op.c (Wb ρ) w vl_0 l_0) (hor_3 : client_Clients.O (fun p => 100 + p) ρ w gr_3 or_3) (hos_4 : ref36_Clients.O (fun p => 200 + p) ρ w gs_4 os_4) :
  KE Tryz.prog 5 (Ret (fun v w' => v = .bool r ∧ Below w0.heap.size w0 w')) 131 [.inBlock 2, .code (sub (bodyOf Tryz.f5) [2, 2, 2, 2, 1, 2, 2, 1, 2, 1, 2, 2, 2, 2]), .inBlock 1, .code (sub (bodyOf Tryz.f5) [2, 2, 2, 2, 1, 2, 2, 1, 2, 2]), .inLoop (sub (bodyOf Tryz.f5) [2, 2, 2, 2, 1, 2, 2, 1]), .inBlock 0, .code (sub (bodyOf Tryz.f5) [2, 2, 2, 2, 2])] [(0, vl_0), (3, .pointer (some ⟨gr_3, 0, none⟩)), (4, .pointer (some ⟨gs_4, 0, none⟩)), (5, .int .i64 i_5), (7, .bool same_7)] w := by
 unfold law36_ClientPlays_B2 at hS
 obtain ⟨v126, hB128, h127⟩ := hor_3
 replace hB128 : Blk ρ 100 w gr_3 (.cells #[v126] 57 (0, 0)) := hB128
 replace h127 : MapT str api_Client.c true ρ 101 w v126 or_3.of_ := h127
 obtain ⟨v129, hB131, h130⟩ := hos_4
 replace hB131 : Blk ρ 200 w gs_4 (.cells #[v129, .bool os_4.made] 73 (0, 0)) := hB131
 replace h130 : OwnT api_Client.c 27 ρ 201 w v129 os_4.list := h130
 refine ke_inBlock ?_
 refine ke_seq ?_
 refine ke_region ?_
 refine sr_ev (v := .bool same_7) (ev_move rfl) (by decide) ?_
 refine sr_ev (v := .bool (!same_7)) (ev_not rfl) (by decide) ?_
 refine sr_end (l' := [(0, vl_0), (3, .pointer (some ⟨gr_3, 0, none⟩)), (4, .pointer (some ⟨gs_4, 0, none⟩)), (5, .int .i64 i_5), (129, .bool (!same_7))]) (.cons rfl (.cons rfl (.cons rfl (.cons rfl (.cons rfl (.nil _)))))) ?_
 refine ke_cond (t := !same_7) rfl (fun hc132 => ?_) (fun hc132 => ?_)
 ·replace hS := ite_true' hS hc132
  refine ke_seq ?_
  refine ke_region ?_
  refine sr_ev (v := .bool false) (ev_assign rfl) (by decide) ?_
  refine sr_end (l' := [(2, .bool false)]) (.cons rfl (.nil _)) ?_
  cases hS
  exact ke_ret1 Tryz.func5 rfl rfl ⟨_, rfl, rfl, (hb.below (flat1_le _))⟩
 ·replace hS := ite_false' hS hc132
  refine ke_skip ?_
  refine ke_inBlock ?_
  refine ke_region ?_
  refine sr_ev (v := .int .i64 i_5) (ev_move rfl) (by decide) ?_
  refine sr_ev (v := .int .i64 (IntKind.i64.wrap (i_5 + 1))) (ev_add rfl rfl) (by decide) ?_
  refine sr_ev (v := .int .i64 (IntKind.i64.wrap (i_5 + 1))) (ev_assign rfl) (by decide) ?_
  refine sr_end (l' := [(0, vl_0), (3, .pointer (some ⟨gr_3, 0, none⟩)), (4, .pointer (some ⟨gs_4, 0, none⟩)), (5, .int .i64 (IntKind.i64.wrap (i_5 + 1)))]) (.cons rfl (.cons rfl (.cons rfl (.cons rfl (.nil _))))) ?_
  have hK := hr0 hS hb hl_0 ⟨_, hB128, h127⟩ ⟨_, hB131, h130⟩
  exact ke_weaken (l' := [(0, vl_0), (3, .pointer (some ⟨gr_3, 0, none⟩)), (4, .pointer (some ⟨gs_4, 0, none⟩)), (5, .int .i64 (IntKind.i64.wrap (i_5 + 1)))]) (.cons rfl (.cons rfl (.cons rfl (.cons rfl (.nil _))))) hK

end YtmdbnoopcdpomaaGreatDoor
end Go.Proofs
