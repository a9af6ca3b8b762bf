/- Own work: a part of the proofs of this seat. -/
import Derived.Test.YteifnoehmfjogaaDoorProg
import Derived.Test.YteifnoehmfjogaaDoorShelf
import Derived.Test.YteifnoehmfjogaaDoorKwLS
import Derived.KernelRfl
import Derived.Test.YteifnoehmfjogaaDoorKwLSecretMakesW2
set_option linter.unusedVariables false
set_option linter.unusedSimpArgs false
set_option linter.unusedSectionVars false
set_option maxHeartbeats 8000000
set_option maxRecDepth 8000
namespace Go.Proofs
namespace YteifnoehmfjogaaDoor
open Go Go.KW Go.KW.S Go.RowKit
theorem law22_SecretMakes_L1_ok {w0 : World} (hg : Gs w0) {ρA : Tags} (hbd : ∀ b, ρA b ≠ 0 → b < w0.heap.size) (hz : Gz (flat1 ρA)) : ∀ (n : Nat), ∀ {r : Bool} {password_0 : Str} {l_3 : List api_Verifier} {i_13 : Int} {vl_3 : Value}, law22_SecretMakes_L1 n password_0 l_3 i_13 = some r → ∀ {ρ : Tags} {w : World}, (Fr (flat1 ρA) w0 ρ w) → (SlR api_Verifier.c (Wb ρ) w vl_3 l_3) → KE Tryd.prog 3 (Ret (fun v w' => v = .bool r ∧ Below w0.heap.size w0 w')) 109 [.code (sub (bodyOf Tryd.f3) [2, 2, 2, 2, 2, 1, 2, 2, 1]), .inLoop (sub (bodyOf Tryd.f3) [2, 2, 2, 2, 2, 1, 2, 2, 1]), .inBlock 0, .code (sub (bodyOf Tryd.f3) [2, 2, 2, 2, 2, 2])] [(0, str password_0), (3, vl_3), (13, .int .i64 i_13)] w := by
 intro n
 induction n with
 | zero => intro r password_0 l_3 i_13 vl_3 hS; cases hS
 | succ n ih =>
  have hr0 : ∀ {r : Bool} {password_0 : Str} {l_3 : List api_Verifier} {i_13 : Int} {vl_3 : Value}, law22_SecretMakes_L1 n password_0 l_3 i_13 = some r → ∀ {ρ : Tags} {w : World}, (Fr (flat1 ρA) w0 ρ w) → (SlR api_Verifier.c (Wb ρ) w vl_3 l_3) → KE Tryd.prog 3 (Ret (fun v w' => v = .bool r ∧ Below w0.heap.size w0 w')) 109 [.inLoop (sub (bodyOf Tryd.f3) [2, 2, 2, 2, 2, 1, 2, 2, 1]), .inBlock 0, .code (sub (bodyOf Tryd.f3) [2, 2, 2, 2, 2, 2])] [(0, str password_0), (3, vl_3), (13, .int .i64 i_13)] w := fun {r} {password_0} {l_3} {i_13} {vl_3} hS {ρ} {w} hb hl_3 => ke_inLoop (ih hS hb hl_3)
  clear ih
  intro r password_0 l_3 i_13 vl_3 hS ρ w hb hl_3
  unfold law22_SecretMakes_L1 at hS
  refine ke_seq ?_
  refine ke_seq ?_
  refine ke_region ?_
  refine sr_ev (v := .int .i64 i_13) (ev_move rfl) (by decide) ?_
  refine sr_ev (v := vl_3) (ev_move rfl) (by decide) ?_
  refine sr_ev (v := .int .i64 (l_3.length : Int)) (ev_sllenW Tryd.underlying22 rfl hl_3.asSl) (by decide) ?_
  refine sr_ev (v := .bool (decide (i_13 < (l_3.length : Int)))) (ev_lt rfl rfl) (by decide) ?_
  refine sr_end (l' := [(0, str password_0), (3, vl_3), (13, .int .i64 i_13), (53, .bool (decide (i_13 < (l_3.length : Int))))]) (.cons rfl (.cons rfl (.cons rfl (.cons rfl (.nil _))))) ?_
  refine ke_cond (t := decide (i_13 < (l_3.length : Int))) rfl (fun hc58 => ?_) (fun hc58 => ?_)
  ·replace hS := ite_true' hS hc58
   refine ke_skip ?_
   refine ke_seq ?_
   refine ke_block ?_
   refine ke_seq ?_
   refine ke_seq ?_
   refine ke_region ?_
   refine sr_ev (v := vl_3) (ev_move rfl) (by decide) ?_
   refine sr_ev (v := .int .i64 i_13) (ev_move rfl) (by decide) ?_
   obtain ⟨y59, hy60, hS⟩ := bind_some' hS
   obtain ⟨b61, o62, cs64, hq65, he63⟩ := ((SlT.of_sl (i := 0) hl_3)).elem (P := Tryd.prog) Tryd.underlying22 Tryd.info25 rfl hy60
   obtain rfl : cs64 = [str y59.Salt, .int .i64 y59.Rounds, str y59.Hash] := he63.rd
   refine sr_ev (v := .pointer (some ⟨b61, o62, none⟩)) (hq65 w rfl rfl) (by decide) ?_
   refine sr_ev (v := .pointer (some ⟨b61, o62 + 0, none⟩)) (ev_fieldAddr (i := 0) Tryd.underlying25 rfl Tryd.info9 rfl rfl) (by decide) ?_
   refine sr_ev (v := str y59.Salt) (ev_load Tryd.isAgg9 rfl (he63.cell 0 _ rfl)) (by decide) ?_
   refine sr_ev (v := .int .i64 (y59.Salt.length : Int)) (ev_slen Tryd.underlying9 rfl) (by decide) ?_
   refine sr_ev (v := .bool (decide ((y59.Salt.length : Int) > 400))) (ev_gt rfl rfl) (by decide) ?_
   refine sr_ev (v := .bool (decide ((y59.Salt.length : Int) > 400))) (ev_move rfl) (by decide) ?_
   obtain ⟨z68, hz70, hS⟩ := bind_some' hS
   refine sr_join (m := 8) (C := fun (z : Bool) w1 => z68 = z ∧ ∃ ρ1, Tr ρ w (fun _ => false) ρ1 w1) (l' := fun z => [(0, str password_0), (3, vl_3), (13, .int .i64 i_13), (71, .bool z)]) ?_ ?_
   ·rintro _ w71 ⟨rfl, ρ72, hj69⟩
    replace hl_3 := hl_3.mv hj69.rd
    replace hb := hb.trans hj69
    refine sr_end (l' := [(0, str password_0), (3, vl_3), (13, .int .i64 i_13), (71, .bool z68)]) (.cons rfl (.cons rfl (.cons rfl (.cons rfl (.nil _))))) ?_
    refine ke_cond (t := z68) rfl (fun hc81 => ?_) (fun hc81 => ?_)
    ·replace hS := ite_true' hS hc81
     refine ke_seq ?_
     refine ke_region ?_
     obtain ⟨y82, hy83, hS⟩ := bind_some' hS
     refine sr_call (vs := []) rfl Tryd.call9 rfl (law22_awake_ok _ (hg.fr hz hb) (ρA := ρ72) hb.bd (hz.fr hg hb) hy83) (by decide) ?_
     rintro _ w84 ⟨rfl, hbw85⟩
     have htr86 := Tr.of_below hbw85 hb.bd
     replace hb := hb.trans htr86
     refine sr_ev (v := .bool y82) (ev_assign rfl) (by decide) ?_
     refine sr_end (l' := [(8, .bool y82)]) (.cons rfl (.nil _)) ?_
     cases hS
     exact ke_ret1 Tryd.func3 rfl rfl ⟨_, rfl, rfl, (hb.below (flat1_le _))⟩
    ·replace hS := ite_false' hS hc81
     refine ke_skip ?_
     refine ke_seq ?_
     refine ke_region_q Tryd.mixed (by kernel_rfl) ?_
     refine sq_ev (v := vl_3) (fun w1 hw1 => ev_move rfl) (by decide) ?_
     refine sq_ev (v := .int .i64 i_13) (fun w1 hw1 => ev_move rfl) (by decide) ?_
     obtain ⟨y89, hy90, hS⟩ := bind_some' hS
     obtain ⟨b91, o92, cs94, hq95, he93⟩ := ((SlT.of_sl (i := 0) hl_3)).elem (P := Tryd.prog) Tryd.underlying22 Tryd.info25 rfl hy90
     obtain rfl : cs94 = [str y89.Salt, .int .i64 y89.Rounds, str y89.Hash] := he93.rd
     refine sq_ev (v := .pointer (some ⟨b91, o92, none⟩)) (fun w1 hw1 => hq95 w1 rfl rfl) (by decide) ?_
     refine sq_ev (v := .agg #[str y89.Salt, .int .i64 y89.Rounds, str y89.Hash]) (fun w1 hw1 => ev_loads (cs := [str y89.Salt, .int .i64 y89.Rounds, str y89.Hash]) Tryd.isAgg25 Tryd.sizeOf25 rfl (he93.mv (Mv.of_below (i := 0) (ρ := ρ72) hw1) (Nat.succ_pos _)).cell) (by decide) ?_
     obtain ⟨y96, hy97, hS⟩ := bind_some' hS
     refine sq_call (v := .bool y96) (vs := [.agg #[str y89.Salt, .int .i64 y89.Rounds, str y89.Hash]]) rfl Tryd.call12 rfl (fun w1 hw1 => (secret_Valid_ok _ ((hg.fr hz hb).below hw1) hy97)) (by decide) ?_
     refine sq_ev (v := vl_3) (fun w1 hw1 => ev_move rfl) (by decide) ?_
     refine sq_ev (v := .int .i64 i_13) (fun w1 hw1 => ev_move rfl) (by decide) ?_
     obtain ⟨y101, hy102, hS⟩ := bind_some' hS
     obtain ⟨b103, o104, cs106, hq107, he105⟩ := ((SlT.of_sl (i := 0) hl_3)).elem (P := Tryd.prog) Tryd.underlying22 Tryd.info25 rfl hy102
     obtain rfl : cs106 = [str y101.Salt, .int .i64 y101.Rounds, str y101.Hash] := he105.rd
     refine sq_ev (v := .pointer (some ⟨b103, o104, none⟩)) (fun w1 hw1 => hq107 w1 rfl rfl) (by decide) ?_
     refine sq_ev (v := .agg #[str y101.Salt, .int .i64 y101.Rounds, str y101.Hash]) (fun w1 hw1 => ev_loads (cs := [str y101.Salt, .int .i64 y101.Rounds, str y101.Hash]) Tryd.isAgg25 Tryd.sizeOf25 rfl (he105.mv (Mv.of_below (i := 0) (ρ := ρ72) hw1) (Nat.succ_pos _)).cell) (by decide) ?_
     obtain ⟨y108, hy109, hS⟩ := bind_some' hS
     refine sq_call (v := .bool y108) (vs := [.agg #[str y101.Salt, .int .i64 y101.Rounds, str y101.Hash]]) rfl Tryd.call13 rfl (fun w1 hw1 => (ref22_Valid_ok _ ((hg.fr hz hb).below hw1) hy109)) (by decide) ?_
     refine sq_ev (v := .bool (y96 != y108)) (fun w1 hw1 => ev_bne Tryd.underlying4 rfl rfl) (by decide) ?_
     refine sq_ev (v := .bool (y96 != y108)) (fun w1 hw1 => ev_move rfl) (by decide) ?_
     obtain ⟨z115, hz117, hS⟩ := bind_some' hS
     refine sq_join (m := 14) (C := fun (x : Bool) => z115 = x) (l' := fun x => [(0, str password_0), (3, vl_3), (13, .int .i64 i_13), (98, .bool x)]) ?_ ?_
     ·rintro _ rfl
      refine sq_end (l' := [(0, str password_0), (3, vl_3), (13, .int .i64 i_13), (98, .bool z115)]) (.cons rfl (.cons rfl (.cons rfl (.cons rfl (.nil _))))) (fun w88 hw87 => ?_)
      have htr144 := Tr.of_below hw87 hb.bd
      replace hl_3 := hl_3.mv htr144.rd
      replace hb := hb.trans htr144
      refine ke_cond (t := z115) rfl (fun hc145 => ?_) (fun hc145 => ?_)
      ·replace hS := ite_true' hS hc145
       refine ke_seq ?_
       refine ke_region ?_
       refine sr_ev (v := .bool false) (ev_assign rfl) (by decide) ?_
       refine sr_end (l' := [(8, .bool false)]) (.cons rfl (.nil _)) ?_
       cases hS
       exact ke_ret1 Tryd.func3 rfl rfl ⟨_, rfl, rfl, (hb.below (flat1_le _))⟩
      ·replace hS := ite_false' hS hc145
       refine ke_skip ?_
       refine ke_inBlock ?_
       refine ke_region ?_
       refine sr_ev (v := .int .i64 i_13) (ev_move rfl) (by decide) ?_
       refine sr_ev (v := .int .i64 (IntKind.i64.wrap (i_13 + 1))) (ev_add rfl rfl) (by decide) ?_
       refine sr_ev (v := .int .i64 (IntKind.i64.wrap (i_13 + 1))) (ev_assign rfl) (by decide) ?_
       refine sr_end (l' := [(0, str password_0), (3, vl_3), (13, .int .i64 (IntKind.i64.wrap (i_13 + 1)))]) (.cons rfl (.cons rfl (.cons rfl (.nil _)))) ?_
       have hK := hr0 hS hb hl_3
       exact ke_weaken (l' := [(0, str password_0), (3, vl_3), (13, .int .i64 (IntKind.i64.wrap (i_13 + 1)))]) (.cons rfl (.cons rfl (.cons rfl (.nil _)))) hK
     ·intro K114
      clear hS
      rcases Bool.eq_false_or_eq_true (y96 != y108) with hg113 | hg113
      ·have hS := ite_true' hz117 hg113
       refine sq_pass (e := 84) rfl rfl (by rw [hg113]; rfl) (by decide) ?_
       refine sq_pass (e := 84) rfl rfl (by rw [hg113]; rfl) (by decide) ?_
       refine sq_pass (e := 84) rfl rfl (by rw [hg113]; rfl) (by decide) ?_
       refine sq_pass (e := 84) rfl rfl (by rw [hg113]; rfl) (by decide) ?_
       refine sq_pass (e := 84) rfl rfl (by rw [hg113]; rfl) (by decide) ?_
       refine sq_pass (e := 84) rfl rfl (by rw [hg113]; rfl) (by decide) ?_
       refine sq_pass (e := 84) rfl rfl (by rw [hg113]; rfl) (by decide) ?_
       refine sq_pass (e := 84) rfl rfl (by rw [hg113]; rfl) (by decide) ?_
       refine sq_pass (e := 84) rfl rfl (by rw [hg113]; rfl) (by decide) ?_
       refine sq_pass (e := 84) rfl rfl (by rw [hg113]; rfl) (by decide) ?_
       refine sq_pass (e := 84) rfl rfl (by rw [hg113]; rfl) (by decide) ?_
       refine sq_pass (e := 84) rfl rfl (by rw [hg113]; rfl) (by decide) ?_
       refine sq_pass (e := 84) rfl rfl (by rw [hg113]; rfl) (by decide) ?_
       refine sq_ev (v := .bool true) (fun w1 hw1 => ev_pick_t rfl hg113 rfl) (by decide) ?_
       exact sq_weaken (l' := [(0, str password_0), (3, vl_3), (13, .int .i64 i_13), (98, .bool true)]) (.cons rfl (.cons rfl (.cons rfl (.cons rfl (.nil _))))) (K114 true (Option.some.inj hS).symm)
      ·have hS := ite_false' hz117 hg113
       refine sq_evg (b := false) (e := 84) rfl rfl hg113 (v := vl_3) (fun w1 hw1 => ev_move rfl) (by decide) ?_
       refine sq_evg (b := false) (e := 84) rfl rfl hg113 (v := .int .i64 i_13) (fun w1 hw1 => ev_move rfl) (by decide) ?_
       obtain ⟨y120, hy121, hS⟩ := bind_some' hS
       obtain ⟨b122, o123, cs125, hq126, he124⟩ := ((SlT.of_sl (i := 0) hl_3)).elem (P := Tryd.prog) Tryd.underlying22 Tryd.info25 rfl hy121
       obtain rfl : cs125 = [str y120.Salt, .int .i64 y120.Rounds, str y120.Hash] := he124.rd
       refine sq_evg (b := false) (e := 84) rfl rfl hg113 (v := .pointer (some ⟨b122, o123, none⟩)) (fun w1 hw1 => hq126 w1 rfl rfl) (by decide) ?_
       refine sq_evg (b := false) (e := 84) rfl rfl hg113 (v := .agg #[str y120.Salt, .int .i64 y120.Rounds, str y120.Hash]) (fun w1 hw1 => ev_loads (cs := [str y120.Salt, .int .i64 y120.Rounds, str y120.Hash]) Tryd.isAgg25 Tryd.sizeOf25 rfl (he124.mv (Mv.of_below (i := 0) (ρ := ρ72) hw1) (Nat.succ_pos _)).cell) (by decide) ?_
       refine sq_evg (b := false) (e := 84) rfl rfl hg113 (v := str password_0) (fun w1 hw1 => ev_move rfl) (by decide) ?_
       obtain ⟨y127, hy128, hS⟩ := bind_some' hS
       refine sq_callg (b := false) (e := 84) rfl rfl hg113 (v := .bool y127) (vs := [.agg #[str y120.Salt, .int .i64 y120.Rounds, str y120.Hash], str password_0]) rfl Tryd.call14 rfl (fun w1 hw1 => (secret_Check_ok _ ((hg.fr hz hb).below hw1) hy128)) (by decide) ?_
       refine sq_evg (b := false) (e := 84) rfl rfl hg113 (v := vl_3) (fun w1 hw1 => ev_move rfl) (by decide) ?_
       refine sq_evg (b := false) (e := 84) rfl rfl hg113 (v := .int .i64 i_13) (fun w1 hw1 => ev_move rfl) (by decide) ?_
       obtain ⟨y132, hy133, hS⟩ := bind_some' hS
       obtain ⟨b134, o135, cs137, hq138, he136⟩ := ((SlT.of_sl (i := 0) hl_3)).elem (P := Tryd.prog) Tryd.underlying22 Tryd.info25 rfl hy133
       obtain rfl : cs137 = [str y132.Salt, .int .i64 y132.Rounds, str y132.Hash] := he136.rd
       refine sq_evg (b := false) (e := 84) rfl rfl hg113 (v := .pointer (some ⟨b134, o135, none⟩)) (fun w1 hw1 => hq138 w1 rfl rfl) (by decide) ?_
       refine sq_evg (b := false) (e := 84) rfl rfl hg113 (v := .agg #[str y132.Salt, .int .i64 y132.Rounds, str y132.Hash]) (fun w1 hw1 => ev_loads (cs := [str y132.Salt, .int .i64 y132.Rounds, str y132.Hash]) Tryd.isAgg25 Tryd.sizeOf25 rfl (he136.mv (Mv.of_below (i := 0) (ρ := ρ72) hw1) (Nat.succ_pos _)).cell) (by decide) ?_
       refine sq_evg (b := false) (e := 84) rfl rfl hg113 (v := str password_0) (fun w1 hw1 => ev_move rfl) (by decide) ?_
       obtain ⟨y139, hy140, hS⟩ := bind_some' hS
       refine sq_callg (b := false) (e := 84) rfl rfl hg113 (v := .bool y139) (vs := [.agg #[str y132.Salt, .int .i64 y132.Rounds, str y132.Hash], str password_0]) rfl Tryd.call15 rfl (fun w1 hw1 => (ref22_Check_ok _ ((hg.fr hz hb).below hw1) hy140)) (by decide) ?_
       refine sq_evg (b := false) (e := 84) rfl rfl hg113 (v := .bool (y127 != y139)) (fun w1 hw1 => ev_bne Tryd.underlying4 rfl rfl) (by decide) ?_
       refine sq_ev (v := .bool (y127 != y139)) (fun w1 hw1 => ev_pick_f rfl hg113 rfl) (by decide) ?_
       exact sq_weaken (l' := [(0, str password_0), (3, vl_3), (13, .int .i64 i_13), (98, .bool (y127 != y139))]) (.cons rfl (.cons rfl (.cons rfl (.cons rfl (.nil _))))) (K114 (y127 != y139) (Option.some.inj hS).symm)
   ·intro K67
    clear hS
    have hj69 : Tr ρ w (fun _ => false) ρ w := (Tr.refl hb.bd).weak (fun _ _ => rfl) rfl rfl
    rcases Bool.eq_false_or_eq_true (decide ((y59.Salt.length : Int) > 400)) with hg66 | hg66
    ·have hS := ite_true' hz70 hg66
     refine sr_pass (e := 63) rfl rfl (by rw [hg66]; rfl) (by decide) ?_
     refine sr_pass (e := 63) rfl rfl (by rw [hg66]; rfl) (by decide) ?_
     refine sr_pass (e := 63) rfl rfl (by rw [hg66]; rfl) (by decide) ?_
     refine sr_pass (e := 63) rfl rfl (by rw [hg66]; rfl) (by decide) ?_
     refine sr_pass (e := 63) rfl rfl (by rw [hg66]; rfl) (by decide) ?_
     refine sr_pass (e := 63) rfl rfl (by rw [hg66]; rfl) (by decide) ?_
     refine sr_pass (e := 63) rfl rfl (by rw [hg66]; rfl) (by decide) ?_
     refine sr_ev (v := .bool true) (ev_pick_t rfl hg66 rfl) (by decide) ?_
     exact sr_weaken (l' := [(0, str password_0), (3, vl_3), (13, .int .i64 i_13), (71, .bool true)]) (.cons rfl (.cons rfl (.cons rfl (.cons rfl (.nil _))))) (K67 true _ ⟨(Option.some.inj hS).symm, _, hj69⟩)
    ·have hS := ite_false' hz70 hg66
     refine sr_evg (b := false) (e := 63) rfl rfl hg66 (v := vl_3) (ev_move rfl) (by decide) ?_
     refine sr_evg (b := false) (e := 63) rfl rfl hg66 (v := .int .i64 i_13) (ev_move rfl) (by decide) ?_
     obtain ⟨y74, hy75, hS⟩ := bind_some' hS
     obtain ⟨b76, o77, cs79, hq80, he78⟩ := ((SlT.of_sl (i := 0) hl_3)).elem (P := Tryd.prog) Tryd.underlying22 Tryd.info25 rfl hy75
     obtain rfl : cs79 = [str y74.Salt, .int .i64 y74.Rounds, str y74.Hash] := he78.rd
     refine sr_evg (b := false) (e := 63) rfl rfl hg66 (v := .pointer (some ⟨b76, o77, none⟩)) (hq80 w rfl rfl) (by decide) ?_
     refine sr_evg (b := false) (e := 63) rfl rfl hg66 (v := .pointer (some ⟨b76, o77 + 2, none⟩)) (ev_fieldAddr (i := 2) Tryd.underlying25 rfl Tryd.info9 rfl rfl) (by decide) ?_
     refine sr_evg (b := false) (e := 63) rfl rfl hg66 (v := str y74.Hash) (ev_load Tryd.isAgg9 rfl (he78.cell 2 _ rfl)) (by decide) ?_
     refine sr_evg (b := false) (e := 63) rfl rfl hg66 (v := .int .i64 (y74.Hash.length : Int)) (ev_slen Tryd.underlying9 rfl) (by decide) ?_
     refine sr_evg (b := false) (e := 63) rfl rfl hg66 (v := .bool (decide ((y74.Hash.length : Int) > 400))) (ev_gt rfl rfl) (by decide) ?_
     refine sr_ev (v := .bool (decide ((y74.Hash.length : Int) > 400))) (ev_pick_f rfl hg66 rfl) (by decide) ?_
     exact sr_weaken (l' := [(0, str password_0), (3, vl_3), (13, .int .i64 i_13), (71, .bool (decide ((y74.Hash.length : Int) > 400)))]) (.cons rfl (.cons rfl (.cons rfl (.cons rfl (.nil _))))) (K67 (decide ((y74.Hash.length : Int) > 400)) _ ⟨(Option.some.inj hS).symm, _, hj69⟩)
  ·replace hS := ite_false' hS hc58
   refine ke_exit (k' := _) rfl ?_
   refine ke_seq ?_
   refine ke_region ?_
   refine sr_ev (v := vl_3) (ev_move rfl) (by decide) ?_
   refine sr_ev (v := str password_0) (ev_move rfl) (by decide) ?_
   obtain ⟨y146, hy147, hS⟩ := bind_some' hS
   refine sr_call (vs := [vl_3, str password_0]) rfl Tryd.call16 rfl (secret_Reused_ok _ (hg.fr hz hb) hl_3.asSl hy147) (by decide) ?_
   rintro _ w148 ⟨rfl, hbw149⟩
   have htr150 := Tr.of_below hbw149 hb.bd
   replace hl_3 := hl_3.mv htr150.rd
   replace hb := hb.trans htr150
   refine sr_ev (v := vl_3) (ev_move rfl) (by decide) ?_
   refine sr_ev (v := str password_0) (ev_move rfl) (by decide) ?_
   obtain ⟨y151, hy152, hS⟩ := bind_some' hS
   refine sr_call (vs := [vl_3, str password_0]) rfl Tryd.call17 rfl (ref22_Reused_ok _ (hg.fr hz hb) hl_3.asSl hy152) (by decide) ?_
   rintro _ w153 ⟨rfl, hbw154⟩
   have htr155 := Tr.of_below hbw154 hb.bd
   replace hb := hb.trans htr155
   refine sr_ev (v := .bool (y146 == y151)) (ev_beq Tryd.underlying4 rfl rfl) (by decide) ?_
   refine sr_ev (v := .bool (y146 == y151)) (ev_move rfl) (by decide) ?_
   obtain ⟨z158, hz160, hS⟩ := bind_some' hS
   refine sr_join (m := 2) (C := fun (z : Bool) w1 => z158 = z ∧ ∃ ρ1, Tr ρ w153 (fun _ => false) ρ1 w1) (l' := fun z => [(108, .bool z)]) ?_ ?_
   ·rintro _ w161 ⟨rfl, ρ162, hj159⟩
    replace hb := hb.trans hj159
    refine sr_ev (v := .bool z158) (ev_assign rfl) (by decide) ?_
    refine sr_end (l' := [(8, .bool z158)]) (.cons rfl (.nil _)) ?_
    cases hS
    exact ke_ret1 Tryd.func3 rfl rfl ⟨_, rfl, rfl, (hb.below (flat1_le _))⟩
   ·intro K157
    clear hS
    have hj159 : Tr ρ w153 (fun _ => false) ρ w153 := (Tr.refl hb.bd).weak (fun _ _ => rfl) rfl rfl
    rcases Bool.eq_false_or_eq_true (y146 == y151) with hg156 | hg156
    ·have hS := ite_true' hz160 hg156
     obtain ⟨y164, hy165, hS⟩ := bind_some' hS
     refine sr_callg (b := true) (e := 106) rfl rfl hg156 (vs := []) rfl Tryd.call9 rfl (law22_awake_ok _ (hg.fr hz hb) (ρA := ρ) hb.bd (hz.fr hg hb) hy165) (by decide) ?_
     rintro _ w166 ⟨rfl, hbw167⟩
     have htr168 := Tr.of_below hbw167 hb.bd
     replace hb := hb.trans htr168
     replace hj159 := (hj159.trans htr168).weak (J' := (fun _ => false)) (by intro t h; simp [rng] at h ⊢ <;> omega) rfl rfl
     refine sr_ev (v := .bool y164) (ev_pick_t rfl hg156 rfl) (by decide) ?_
     exact sr_weaken (l' := [(108, .bool y164)]) (.cons rfl (.nil _)) (K157 y164 _ ⟨(Option.some.inj hS).symm, _, hj159⟩)
    ·have hS := ite_false' hz160 hg156
     refine sr_pass (e := 106) rfl rfl (by rw [hg156]; rfl) (by decide) ?_
     refine sr_ev (v := .bool false) (ev_pick_f rfl hg156 rfl) (by decide) ?_
     exact sr_weaken (l' := [(108, .bool false)]) (.cons rfl (.nil _)) (K157 false _ ⟨(Option.some.inj hS).symm, _, hj159⟩)
theorem law22_SecretMakes_ok (w0 : World) (hg : Gs w0) {ρA : Tags} (hbd : ∀ b, ρA b ≠ 0 → b < w0.heap.size) (hz : Gz ρA) {password_0 : Str} {salt_1 : Str} {rounds_2 : Int} {l_3 : List api_Verifier} {v1 : Value} {r : Bool} (h2 : SlR api_Verifier.c (Wb ρA) w0 v1 l_3) (hS : law22_SecretMakes password_0 salt_1 rounds_2 l_3 = some r) :
  Calls Tryd.prog 3 #[str password_0, str salt_1, .int .i64 rounds_2, v1] w0 (Ret (fun v w' => v = .bool r ∧ Below w0.heap.size w0 w')) := by
 unfold law22_SecretMakes at hS
 have hb := flat1_fr (ρ := ρA) (w := w0) hbd
 have hz := hz.flat1
 replace h2 := SlR.mv h2 flat1_rd
 refine calls_of_ke Tryd.func3 rfl (n := 109) rfl rfl (l := [(0, str password_0), (1, str salt_1), (2, .int .i64 rounds_2), (3, v1)]) rfl ?_
 refine ke_seq ?_
 refine ke_region ?_
 refine sr_ev (v := .bool false) (ev_assign rfl) (by decide) ?_
 refine sr_end (l' := [(0, str password_0), (1, str salt_1), (2, .int .i64 rounds_2), (3, v1)]) (.cons rfl (.cons rfl (.cons rfl (.cons rfl (.nil _))))) ?_
 refine ke_seq ?_
 refine ke_seq ?_
 refine ke_region ?_
 refine sr_ev (v := str password_0) (ev_move rfl) (by decide) ?_
 refine sr_ev (v := .int .i64 (password_0.length : Int)) (ev_slen Tryd.underlying9 rfl) (by decide) ?_
 refine sr_ev (v := .bool (decide ((password_0.length : Int) > 400))) (ev_gt rfl rfl) (by decide) ?_
 refine sr_ev (v := .bool (decide ((password_0.length : Int) > 400))) (ev_move rfl) (by decide) ?_
 refine sr_join (m := 4) (C := fun (x : Bool) w1 => x = ((decide ((password_0.length : Int) > 400)) || (decide ((salt_1.length : Int) > 400))) ∧ w0 = w1) (l' := fun x => [(0, str password_0), (1, str salt_1), (2, .int .i64 rounds_2), (3, v1), (21, .bool x)]) ?_ ?_
 ·rintro _ _ ⟨rfl, rfl⟩
  refine sr_ev (v := .bool ((decide ((password_0.length : Int) > 400)) || (decide ((salt_1.length : Int) > 400)))) (ev_move rfl) (by decide) ?_
  refine sr_join (m := 4) (C := fun (x : Bool) w1 => x = (((decide ((password_0.length : Int) > 400)) || (decide ((salt_1.length : Int) > 400))) || (decide ((l_3.length : Int) > 4))) ∧ w0 = w1) (l' := fun x => [(0, str password_0), (1, str salt_1), (2, .int .i64 rounds_2), (3, v1), (26, .bool x)]) ?_ ?_
  ·rintro _ _ ⟨rfl, rfl⟩
   refine sr_end (l' := [(0, str password_0), (1, str salt_1), (2, .int .i64 rounds_2), (3, v1), (26, .bool (((decide ((password_0.length : Int) > 400)) || (decide ((salt_1.length : Int) > 400))) || (decide ((l_3.length : Int) > 4))))]) (.cons rfl (.cons rfl (.cons rfl (.cons rfl (.cons rfl (.nil _)))))) ?_
   refine ke_cond (t := ((decide ((password_0.length : Int) > 400)) || (decide ((salt_1.length : Int) > 400))) || (decide ((l_3.length : Int) > 4))) rfl (fun hc19 => ?_) (fun hc19 => ?_)
   ·replace hS := ite_true' hS hc19
    refine ke_seq ?_
    refine ke_region ?_
    obtain ⟨y20, hy21, hS⟩ := bind_some' hS
    refine sr_call (vs := []) rfl Tryd.call9 rfl (law22_awake_ok _ (hg.fr hz hb) (ρA := (flat1 ρA)) hb.bd (hz.fr hg hb) hy21) (by decide) ?_
    rintro _ w22 ⟨rfl, hbw23⟩
    have htr24 := Tr.of_below hbw23 hb.bd
    replace hb := hb.trans htr24
    refine sr_ev (v := .bool y20) (ev_assign rfl) (by decide) ?_
    refine sr_end (l' := [(8, .bool y20)]) (.cons rfl (.nil _)) ?_
    cases hS
    exact ke_ret1 Tryd.func3 rfl rfl ⟨_, rfl, rfl, (hb.below (flat1_le _))⟩
   ·replace hS := ite_false' hS hc19
    refine ke_skip ?_
    refine ke_seq ?_
    refine ke_region ?_
    refine sr_ev (v := str password_0) (ev_move rfl) (by decide) ?_
    refine sr_ev (v := str salt_1) (ev_move rfl) (by decide) ?_
    refine sr_ev (v := .int .i64 rounds_2) (ev_move rfl) (by decide) ?_
    obtain ⟨y25, hy26, hS⟩ := bind_some' hS
    refine sr_call (vs := [str password_0, str salt_1, .int .i64 rounds_2]) rfl Tryd.call10 rfl (secret_Make_ok _ (hg.fr hz hb) hy26) (by decide) ?_
    rintro _ w27 ⟨rfl, hbw28⟩
    have htr29 := Tr.of_below hbw28 hb.bd
    replace h2 := h2.mv htr29.rd
    replace hb := hb.trans htr29
    refine sr_ev (v := .tuple #[.agg #[str y25.1.Salt, .int .i64 y25.1.Rounds, str y25.1.Hash], .int .i64 y25.2]) (ev_move rfl) (by decide) ?_
    refine sr_ev (v := .agg #[str y25.1.Salt, .int .i64 y25.1.Rounds, str y25.1.Hash]) (ev_extract rfl rfl) (by decide) ?_
    refine sr_ev (v := .int .i64 y25.2) (ev_extract rfl rfl) (by decide) ?_
    refine sr_allocT 11 (by decide) hb.bd Tryd.zeroValue25 (by decide) ?_
    intro g30 ρ31 w32 hB34 htr33
    replace h2 := h2.mv htr33.rd
    replace hb := hb.trans htr33
    replace hB34 : Blk ρ31 11 w32 g30 (.cells #[str ([]), .int .i64 0, str ([])] 25 (0, 0)) := hB34
    refine sr_storeT (v := .agg #[str y25.1.Salt, .int .i64 y25.1.Rounds, str y25.1.Hash]) (vs := [str y25.1.Salt, .int .i64 y25.1.Rounds, str y25.1.Hash]) (cs' := #[str y25.1.Salt, .int .i64 y25.1.Rounds, str y25.1.Hash]) hB34 (by decide) hb.bd rfl rfl rfl Tryd.sizeOf25 rfl rfl rfl ?_
    intro w35 hB341 htr36
    replace h2 := h2.mv htr36.rd
    replace hb := hb.trans htr36
    replace hB34 : Blk ρ31 11 w35 g30 (.cells #[str y25.1.Salt, .int .i64 y25.1.Rounds, str y25.1.Hash] 25 (0, 0)) := hB341
    clear hB341
    refine sr_ev (v := .int .i64 y25.2) (ev_assign rfl) (by decide) ?_
    refine sr_end (l' := [(0, str password_0), (1, str salt_1), (2, .int .i64 rounds_2), (3, v1), (9, .pointer (some ⟨g30, 0, none⟩)), (10, .int .i64 y25.2)]) (.cons rfl (.cons rfl (.cons rfl (.cons rfl (.cons rfl (.cons rfl (.nil _))))))) ?_
    refine ke_seq ?_
    refine ke_region ?_
    refine sr_ev (v := str password_0) (ev_move rfl) (by decide) ?_
    refine sr_ev (v := str salt_1) (ev_move rfl) (by decide) ?_
    refine sr_ev (v := .int .i64 rounds_2) (ev_move rfl) (by decide) ?_
    obtain ⟨y37, hy38, hS⟩ := bind_some' hS
    refine sr_call (vs := [str password_0, str salt_1, .int .i64 rounds_2]) rfl Tryd.call11 rfl (ref22_Make_ok _ (hg.fr hz hb) hy38) (by decide) ?_
    rintro _ w39 ⟨rfl, hbw40⟩
    have htr41 := Tr.of_below hbw40 hb.bd
    replace h2 := h2.mv htr41.rd
    replace hB34 := hB34.mv (htr41.mv (i := 11) rfl)
    replace hb := hb.trans htr41
    refine sr_ev (v := .tuple #[.agg #[str y37.1.Salt, .int .i64 y37.1.Rounds, str y37.1.Hash], .int .i64 y37.2]) (ev_move rfl) (by decide) ?_
    refine sr_ev (v := .agg #[str y37.1.Salt, .int .i64 y37.1.Rounds, str y37.1.Hash]) (ev_extract rfl rfl) (by decide) ?_
    refine sr_ev (v := .int .i64 y37.2) (ev_extract rfl rfl) (by decide) ?_
    refine sr_allocT 13 (by decide) hb.bd Tryd.zeroValue25 (by decide) ?_
    intro g42 ρ43 w44 hB46 htr45
    replace h2 := h2.mv htr45.rd
    replace hB34 := hB34.mv (htr45.mv (i := 11) rfl)
    replace hb := hb.trans htr45
    replace hB46 : Blk ρ43 13 w44 g42 (.cells #[str ([]), .int .i64 0, str ([])] 25 (0, 0)) := hB46
    refine sr_storeT (v := .agg #[str y37.1.Salt, .int .i64 y37.1.Rounds, str y37.1.Hash]) (vs := [str y37.1.Salt, .int .i64 y37.1.Rounds, str y37.1.Hash]) (cs' := #[str y37.1.Salt, .int .i64 y37.1.Rounds, str y37.1.Hash]) hB46 (by decide) hb.bd rfl rfl rfl Tryd.sizeOf25 rfl rfl rfl ?_
    intro w47 hB461 htr48
    replace h2 := h2.mv htr48.rd
    replace hB34 := hB34.mv (htr48.mv (i := 11) rfl)
    replace hb := hb.trans htr48
    replace hB46 : Blk ρ43 13 w47 g42 (.cells #[str y37.1.Salt, .int .i64 y37.1.Rounds, str y37.1.Hash] 25 (0, 0)) := hB461
    clear hB461
    refine sr_ev (v := .int .i64 y37.2) (ev_assign rfl) (by decide) ?_
    refine sr_end (l' := [(0, str password_0), (3, v1), (9, .pointer (some ⟨g30, 0, none⟩)), (10, .int .i64 y25.2), (11, .pointer (some ⟨g42, 0, none⟩)), (12, .int .i64 y37.2)]) (.cons rfl (.cons rfl (.cons rfl (.cons rfl (.cons rfl (.cons rfl (.nil _))))))) ?_
    refine ke_seq ?_
    refine ke_seq ?_
    refine ke_region ?_
    refine sr_ev (v := .agg #[str y25.1.Salt, .int .i64 y25.1.Rounds, str y25.1.Hash]) (ev_loads (cs := [str y25.1.Salt, .int .i64 y25.1.Rounds, str y25.1.Hash]) Tryd.isAgg25 Tryd.sizeOf25 rfl (hB34.cells (vs := [str y25.1.Salt, .int .i64 y25.1.Rounds, str y25.1.Hash]) rfl)) (by decide) ?_
    refine sr_ev (v := .agg #[str y37.1.Salt, .int .i64 y37.1.Rounds, str y37.1.Hash]) (ev_loads (cs := [str y37.1.Salt, .int .i64 y37.1.Rounds, str y37.1.Hash]) Tryd.isAgg25 Tryd.sizeOf25 rfl (hB46.cells (vs := [str y37.1.Salt, .int .i64 y37.1.Rounds, str y37.1.Hash]) rfl)) (by decide) ?_
    refine sr_ev (v := .bool (!(api_Verifier.eqb y25.1 y37.1))) (ev_ane (Tryd.eq25 y25.1 y37.1) rfl rfl) (by decide) ?_
    refine sr_ev (v := .bool (!(api_Verifier.eqb y25.1 y37.1))) (ev_move rfl) (by decide) ?_
    refine sr_join (m := 4) (C := fun (x : Bool) w1 => x = ((!(api_Verifier.eqb y25.1 y37.1)) || (y25.2 != y37.2)) ∧ w47 = w1) (l' := fun x => [(0, str password_0), (3, v1), (49, .bool x)]) ?_ ?_
    ·rintro _ _ ⟨rfl, rfl⟩
     refine sr_end (l' := [(0, str password_0), (3, v1), (49, .bool ((!(api_Verifier.eqb y25.1 y37.1)) || (y25.2 != y37.2)))]) (.cons rfl (.cons rfl (.cons rfl (.nil _)))) ?_
     refine ke_cond (t := (!(api_Verifier.eqb y25.1 y37.1)) || (y25.2 != y37.2)) rfl (fun hc57 => ?_) (fun hc57 => ?_)
     ·replace hS := ite_true' hS hc57
      refine ke_seq ?_
      refine ke_region ?_
      refine sr_ev (v := .bool false) (ev_assign rfl) (by decide) ?_
      refine sr_end (l' := [(8, .bool false)]) (.cons rfl (.nil _)) ?_
      cases hS
      exact ke_ret1 Tryd.func3 rfl rfl ⟨_, rfl, rfl, (hb.below (flat1_le _))⟩
     ·replace hS := ite_false' hS hc57
      refine ke_skip ?_
      refine ke_seq ?_
      refine ke_seq ?_
      refine ke_region ?_
      refine sr_ev (v := .int .i64 0) (ev_assign rfl) (by decide) ?_
      refine sr_end (l' := [(0, str password_0), (3, v1), (13, .int .i64 0)]) (.cons rfl (.cons rfl (.cons rfl (.nil _)))) ?_
      refine ke_block ?_
      have hK := law22_SecretMakes_L1_ok hg hbd hz _ hS hb h2
      exact ke_weaken (l' := [(0, str password_0), (3, v1), (13, .int .i64 0)]) (.cons rfl (.cons rfl (.cons rfl (.nil _)))) (ke_loop hK)
    ·intro K50
     rcases Bool.eq_false_or_eq_true (!(api_Verifier.eqb y25.1 y37.1)) with hg49 | hg49
     all_goals try have hj52 : Tr ρ43 w47 (fun _ => false) ρ43 w47 := Tr.refl hb.bd
     ·refine sr_pass (e := 45) rfl rfl (by rw [hg49]; rfl) (by decide) ?_
      refine sr_pass (e := 45) rfl rfl (by rw [hg49]; rfl) (by decide) ?_
      refine sr_pass (e := 45) rfl rfl (by rw [hg49]; rfl) (by decide) ?_
      refine sr_ev (v := .bool true) (ev_pick_t rfl hg49 rfl) (by decide) ?_
      exact sr_weaken (l' := [(0, str password_0), (3, v1), (49, .bool true)]) (.cons rfl (.cons rfl (.cons rfl (.nil _)))) (K50 true _ ⟨by first | (rw [hg49]; rfl) | rfl, rfl⟩)
     ·refine sr_evg (b := false) (e := 45) rfl rfl hg49 (v := .int .i64 y25.2) (ev_move rfl) (by decide) ?_
      refine sr_evg (b := false) (e := 45) rfl rfl hg49 (v := .int .i64 y37.2) (ev_move rfl) (by decide) ?_
      refine sr_evg (b := false) (e := 45) rfl rfl hg49 (v := .bool (y25.2 != y37.2)) (ev_ne rfl rfl) (by decide) ?_
      refine sr_ev (v := .bool (y25.2 != y37.2)) (ev_pick_f rfl hg49 rfl) (by decide) ?_
      exact sr_weaken (l' := [(0, str password_0), (3, v1), (49, .bool (y25.2 != y37.2))]) (.cons rfl (.cons rfl (.cons rfl (.nil _)))) (K50 (y25.2 != y37.2) _ ⟨by first | (rw [hg49]; rfl) | rfl, rfl⟩)
  ·intro K12
   rcases Bool.eq_false_or_eq_true ((decide ((password_0.length : Int) > 400)) || (decide ((salt_1.length : Int) > 400))) with hg11 | hg11
   all_goals try have hj14 : Tr (flat1 ρA) w0 (fun _ => false) (flat1 ρA) w0 := Tr.refl hb.bd
   ·refine sr_pass (e := 22) rfl rfl (by rw [hg11]; rfl) (by decide) ?_
    refine sr_pass (e := 22) rfl rfl (by rw [hg11]; rfl) (by decide) ?_
    refine sr_pass (e := 22) rfl rfl (by rw [hg11]; rfl) (by decide) ?_
    refine sr_ev (v := .bool true) (ev_pick_t rfl hg11 rfl) (by decide) ?_
    exact sr_weaken (l' := [(0, str password_0), (1, str salt_1), (2, .int .i64 rounds_2), (3, v1), (26, .bool true)]) (.cons rfl (.cons rfl (.cons rfl (.cons rfl (.cons rfl (.nil _)))))) (K12 true _ ⟨by first | (rw [hg11]; rfl) | rfl, rfl⟩)
   ·refine sr_evg (b := false) (e := 22) rfl rfl hg11 (v := v1) (ev_move rfl) (by decide) ?_
    refine sr_evg (b := false) (e := 22) rfl rfl hg11 (v := .int .i64 (l_3.length : Int)) (ev_sllenW Tryd.underlying22 rfl h2.asSl) (by decide) ?_
    refine sr_evg (b := false) (e := 22) rfl rfl hg11 (v := .bool (decide ((l_3.length : Int) > 4))) (ev_gt rfl rfl) (by decide) ?_
    refine sr_ev (v := .bool (decide ((l_3.length : Int) > 4))) (ev_pick_f rfl hg11 rfl) (by decide) ?_
    exact sr_weaken (l' := [(0, str password_0), (1, str salt_1), (2, .int .i64 rounds_2), (3, v1), (26, .bool (decide ((l_3.length : Int) > 4)))]) (.cons rfl (.cons rfl (.cons rfl (.cons rfl (.cons rfl (.nil _)))))) (K12 (decide ((l_3.length : Int) > 4)) _ ⟨by first | (rw [hg11]; rfl) | rfl, rfl⟩)
 ·intro K4
  rcases Bool.eq_false_or_eq_true (decide ((password_0.length : Int) > 400)) with hg3 | hg3
  all_goals try have hj6 : Tr (flat1 ρA) w0 (fun _ => false) (flat1 ρA) w0 := Tr.refl hb.bd
  ·refine sr_pass (e := 17) rfl rfl (by rw [hg3]; rfl) (by decide) ?_
   refine sr_pass (e := 17) rfl rfl (by rw [hg3]; rfl) (by decide) ?_
   refine sr_pass (e := 17) rfl rfl (by rw [hg3]; rfl) (by decide) ?_
   refine sr_ev (v := .bool true) (ev_pick_t rfl hg3 rfl) (by decide) ?_
   exact sr_weaken (l' := [(0, str password_0), (1, str salt_1), (2, .int .i64 rounds_2), (3, v1), (21, .bool true)]) (.cons rfl (.cons rfl (.cons rfl (.cons rfl (.cons rfl (.nil _)))))) (K4 true _ ⟨by first | (rw [hg3]; rfl) | rfl, rfl⟩)
  ·refine sr_evg (b := false) (e := 17) rfl rfl hg3 (v := str salt_1) (ev_move rfl) (by decide) ?_
   refine sr_evg (b := false) (e := 17) rfl rfl hg3 (v := .int .i64 (salt_1.length : Int)) (ev_slen Tryd.underlying9 rfl) (by decide) ?_
   refine sr_evg (b := false) (e := 17) rfl rfl hg3 (v := .bool (decide ((salt_1.length : Int) > 400))) (ev_gt rfl rfl) (by decide) ?_
   refine sr_ev (v := .bool (decide ((salt_1.length : Int) > 400))) (ev_pick_f rfl hg3 rfl) (by decide) ?_
   exact sr_weaken (l' := [(0, str password_0), (1, str salt_1), (2, .int .i64 rounds_2), (3, v1), (21, .bool (decide ((salt_1.length : Int) > 400)))]) (.cons rfl (.cons rfl (.cons rfl (.cons rfl (.cons rfl (.nil _)))))) (K4 (decide ((salt_1.length : Int) > 400)) _ ⟨by first | (rw [hg3]; rfl) | rfl, rfl⟩)
end YteifnoehmfjogaaDoor
end Go.Proofs
