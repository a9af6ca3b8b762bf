/- Own work: a part of the proofs of this seat. -/
import Derived.Test.YtmdbnoopcdpomaaGreatDoorProg
import Derived.Test.YtmdbnoopcdpomaaGreatDoorShelf
import Derived.Test.YtmdbnoopcdpomaaGreatDoorIter
import Derived.Test.YtmdbnoopcdpomaaGreatDoorKwFS
import Derived.KernelRfl
import Derived.Test.YtmdbnoopcdpomaaGreatDoorKwFClientNilW2
set_option linter.unusedVariables false
set_option linter.unusedSimpArgs false
set_option linter.unusedSectionVars false
set_option maxHeartbeats 8000000
set_option maxRecDepth 8000
namespace Go.Proofs
namespace YtmdbnoopcdpomaaGreatDoor
open Go Go.KW Go.KW.S Go.RowKit
theorem law36_ClientNil_ok (w0 : World) (hg : Gs w0) {ρA : Tags} (hbd : ∀ b, ρA b ≠ 0 → b < w0.heap.size) (hz : Gz ρA) {o_0 : law36_Op} {v1 : Value} {v3 : Value} {v5 : Value} {r : Bool} (h2 : SlR strC (Wb ρA) w0 v1 o_0.Client.Redirects) (h4 : SlR strC (Wb ρA) w0 v3 o_0.Client.Scopes) (h6 : SlR strC (Wb ρA) w0 v5 o_0.Scopes) (hS : law36_ClientNil o_0 = some r) :
  Calls Tryz.prog 8 #[.agg #[.int .i64 o_0.Kind, str o_0.Client.ID, .int .i64 o_0.Client.Kind, str o_0.Client.Tenant, str o_0.Client.Secret.Salt, .int .i64 o_0.Client.Secret.Rounds, str o_0.Client.Secret.Hash, v1, v3, str o_0.Client.Logout, str o_0.ID, str o_0.S, v5]] w0 (Ret (fun v w' => v = .bool r ∧ Below w0.heap.size w0 w')) := by
 unfold law36_ClientNil at hS
 have hb := flat1_fr (ρ := ρA) (w := w0) hbd
 have hz := hz.flat1
 replace h2 := SlR.mv h2 flat1_rd
 replace h4 := SlR.mv h4 flat1_rd
 replace h6 := SlR.mv h6 flat1_rd
 refine calls_of_ke Tryz.func8 rfl (n := 78) rfl rfl (l := [(0, .agg #[.int .i64 o_0.Kind, str o_0.Client.ID, .int .i64 o_0.Client.Kind, str o_0.Client.Tenant, str o_0.Client.Secret.Salt, .int .i64 o_0.Client.Secret.Rounds, str o_0.Client.Secret.Hash, v1, v3, str o_0.Client.Logout, str o_0.ID, str o_0.S, v5])]) rfl ?_
 refine ke_seq ?_
 refine ke_region ?_
 refine sr_boxT 3 (by decide) hb.bd rfl (by decide) ?_
 intro g7 ρ8 w9 hB11 htr10
 replace h2 := h2.mv htr10.rd
 replace h4 := h4.mv htr10.rd
 replace h6 := h6.mv htr10.rd
 replace hb := hb.trans htr10
 replace hB11 : Blk ρ8 3 w9 g7 (.cells #[.int .i64 o_0.Kind, str o_0.Client.ID, .int .i64 o_0.Client.Kind, str o_0.Client.Tenant, str o_0.Client.Secret.Salt, .int .i64 o_0.Client.Secret.Rounds, str o_0.Client.Secret.Hash, v1, v3, str o_0.Client.Logout, str o_0.ID, str o_0.S, v5] 44 (0, 0)) := hB11
 refine sr_ev (v := .bool false) (ev_assign rfl) (by decide) ?_
 refine sr_end (l' := [(1, .pointer (some ⟨g7, 0, none⟩))]) (.cons rfl (.nil _)) ?_
 refine ke_seq ?_
 refine ke_seq ?_
 refine ke_region ?_
 refine sr_ev (v := .agg #[.int .i64 o_0.Kind, str o_0.Client.ID, .int .i64 o_0.Client.Kind, str o_0.Client.Tenant, str o_0.Client.Secret.Salt, .int .i64 o_0.Client.Secret.Rounds, str o_0.Client.Secret.Hash, v1, v3, str o_0.Client.Logout, str o_0.ID, str o_0.S, v5]) (ev_loads (cs := [.int .i64 o_0.Kind, str o_0.Client.ID, .int .i64 o_0.Client.Kind, str o_0.Client.Tenant, str o_0.Client.Secret.Salt, .int .i64 o_0.Client.Secret.Rounds, str o_0.Client.Secret.Hash, v1, v3, str o_0.Client.Logout, str o_0.ID, str o_0.S, v5]) Tryz.isAgg44 Tryz.sizeOf44 rfl (hB11.cells (vs := [.int .i64 o_0.Kind, str o_0.Client.ID, .int .i64 o_0.Client.Kind, str o_0.Client.Tenant, str o_0.Client.Secret.Salt, .int .i64 o_0.Client.Secret.Rounds, str o_0.Client.Secret.Hash, v1, v3, str o_0.Client.Logout, str o_0.ID, str o_0.S, v5]) rfl)) (by decide) ?_
 refine sr_litT (c := law36_Op.c) (ρ := ρ8) (E := 44) (xs := [o_0]) (vs := #[(0, .agg #[.int .i64 o_0.Kind, str o_0.Client.ID, .int .i64 o_0.Client.Kind, str o_0.Client.Tenant, str o_0.Client.Secret.Salt, .int .i64 o_0.Client.Secret.Rounds, str o_0.Client.Secret.Hash, v1, v3, str o_0.Client.Logout, str o_0.ID, str o_0.S, v5])]) (cs := #[.int .i64 o_0.Kind, str o_0.Client.ID, .int .i64 o_0.Client.Kind, str o_0.Client.Tenant, str o_0.Client.Secret.Salt, .int .i64 o_0.Client.Secret.Rounds, str o_0.Client.Secret.Hash, v1, v3, str o_0.Client.Logout, str o_0.ID, str o_0.S, v5]) (css := [[.int .i64 o_0.Kind, str o_0.Client.ID, .int .i64 o_0.Client.Kind, str o_0.Client.Tenant, str o_0.Client.Secret.Salt, .int .i64 o_0.Client.Secret.Rounds, str o_0.Client.Secret.Hash, v1, v3, str o_0.Client.Logout, str o_0.ID, str o_0.S, v5]]) rfl (fun _ => by kernel_rfl) rfl ⟨⟨_, _, _, rfl, h2, h4, h6⟩, trivial⟩ rfl (by decide) hb.bd (by decide) ?_
 intro v12 w14 h13 hbw16
 have htr15 := Tr.of_below hbw16 hb.bd
 replace hB11 := hB11.mv (htr15.mv (i := 3) rfl)
 replace h2 := h2.mv htr15.rd
 replace h4 := h4.mv htr15.rd
 replace h6 := h6.mv htr15.rd
 replace hb := hb.trans htr15
 obtain ⟨y17, hy18, hS⟩ := bind_some' hS
 refine sr_call (vs := [v12]) rfl Tryz.call21 rfl (law36_few_ok _ (hg.fr hz hb) (ρA := ρ8) hb.bd (hz.fr hg hb) h13 hy18) (by decide) ?_
 rintro _ w19 ⟨rfl, hbw20⟩
 have htr21 := Tr.of_below hbw20 hb.bd
 replace hB11 := hB11.mv (htr21.mv (i := 3) rfl)
 replace h2 := h2.mv htr21.rd
 replace h4 := h4.mv htr21.rd
 replace h6 := h6.mv htr21.rd
 replace hb := hb.trans htr21
 refine sr_ev (v := .bool (!y17)) (ev_not rfl) (by decide) ?_
 refine sr_end (l' := [(1, .pointer (some ⟨g7, 0, none⟩)), (11, .bool (!y17))]) (.cons rfl (.cons rfl (.nil _))) ?_
 refine ke_cond (t := !y17) rfl (fun hc22 => ?_) (fun hc22 => ?_)
 ·replace hS := ite_true' hS hc22
  refine ke_seq ?_
  refine ke_region ?_
  obtain ⟨y23, hy24, hS⟩ := bind_some' hS
  refine sr_call (vs := []) rfl Tryz.call11 rfl (law36_alive_ok _ (hg.fr hz hb) (ρA := ρ8) hb.bd (hz.fr hg hb) hy24) (by decide) ?_
  rintro _ w25 ⟨rfl, hbw26⟩
  have htr27 := Tr.of_below hbw26 hb.bd
  replace hb := hb.trans htr27
  refine sr_ev (v := .bool y23) (ev_assign rfl) (by decide) ?_
  refine sr_end (l' := [(2, .bool y23)]) (.cons rfl (.nil _)) ?_
  cases hS
  exact ke_ret1 Tryz.func8 rfl rfl ⟨_, rfl, rfl, (hb.below (flat1_le _))⟩
 ·replace hS := ite_false' hS hc22
  refine ke_skip ?_
  refine ke_seq ?_
  refine ke_region ?_
  refine sr_ev (v := .pointer none) (ev_assign rfl) (by decide) ?_
  refine sr_end (l' := [(1, .pointer (some ⟨g7, 0, none⟩)), (3, .pointer none)]) (.cons rfl (.cons rfl (.nil _))) ?_
  refine ke_seq ?_
  refine ke_seq ?_
  refine ke_region ?_
  refine sr_ev (v := .pointer none) (ev_move rfl) (by decide) ?_
  refine sr_ev (v := .agg #[(.map none)]) (ev_build (vs := #[]) rfl (fun _ => by kernel_rfl)) (by decide) ?_
  refine sr_boxT 100 (by decide) hb.bd rfl (by decide) ?_
  intro g28 ρ29 w30 hB32 htr31
  replace hB11 := hB11.mv (htr31.mv (i := 3) rfl)
  replace h2 := h2.mv htr31.rd
  replace h4 := h4.mv htr31.rd
  replace h6 := h6.mv htr31.rd
  replace hb := hb.trans htr31
  replace hB32 : Blk ρ29 100 w30 g28 (.cells #[(.map none)] 57 (0, 0)) := hB32
  refine sr_litT (c := ptrC) (ρ := ρ29) (E := 33) (xs := ([none, some g28] : List (Option Nat))) (vs := #[(0, .pointer none), (1, .pointer (some ⟨g28, 0, none⟩))]) (cs := #[.pointer none, .pointer (some ⟨g28, 0, none⟩)]) (css := [[.pointer none], [.pointer (some ⟨g28, 0, none⟩)]]) rfl (fun _ => by kernel_rfl) rfl ⟨rfl, ⟨rfl, trivial⟩⟩ rfl (by decide) hb.bd (by decide) ?_
  intro v33 w35 h34 hbw37
  have htr36 := Tr.of_below hbw37 hb.bd
  replace hB32 := hB32.mv (htr36.mv (i := 100) rfl)
  replace hB11 := hB11.mv (htr36.mv (i := 3) rfl)
  replace h2 := h2.mv htr36.rd
  replace h4 := h4.mv htr36.rd
  replace h6 := h6.mv htr36.rd
  replace hb := hb.trans htr36
  refine sr_ev (v := .int .i64 2) (ev_sllenW Tryz.underlying58 rfl h34.asSl) (by decide) ?_
  refine sr_ev (v := .int .i64 0) (ev_move rfl) (by decide) ?_
  refine sr_end (l' := [(1, .pointer (some ⟨g7, 0, none⟩)), (16, v33), (17, .int .i64 2), (18, .int .i64 0)]) (.cons rfl (.cons rfl (.cons rfl (.cons rfl (.nil _))))) ?_
  refine ke_block ?_
  refine ke_loop ?_
  refine ke_seq ?_
  refine ke_region ?_
  refine sr_ev (v := .bool true) (ev_ltc rfl rfl (by decide)) (by decide) ?_
  refine sr_end (l' := [(1, .pointer (some ⟨g7, 0, none⟩)), (16, v33), (17, .int .i64 2), (18, .int .i64 0), (19, .bool true)]) (.cons rfl (.cons rfl (.cons rfl (.cons rfl (.cons rfl (.nil _)))))) ?_
  refine ke_seq ?_
  refine ke_cond (t := true) rfl (fun _ => ?_) (fun h => by cases h)
  refine ke_skip ?_
  refine ke_seq ?_
  refine ke_block ?_
  refine ke_seq ?_
  refine ke_region ?_
  obtain ⟨b38, o39, cs41, hq42, he40⟩ := ((SlT.of_sl (i := 0) h34)).elem (P := Tryz.prog) (z := none) (q := 0) Tryz.underlying58 Tryz.info33 rfl rfl
  obtain rfl : cs41 = [.pointer none] := he40.rd
  refine sr_ev (v := .pointer (some ⟨b38, o39, none⟩)) (hq42 w35 rfl rfl) (by decide) ?_
  refine sr_ev (v := .pointer none) (ev_load Tryz.isAgg33 rfl (he40.cell 0 _ rfl)) (by decide) ?_
  refine sr_ev (v := .pointer none) (ev_assign rfl) (by decide) ?_
  refine sr_end (l' := [(1, .pointer (some ⟨g7, 0, none⟩)), (5, .pointer none), (16, v33), (17, .int .i64 2), (18, .int .i64 0)]) (.cons rfl (.cons rfl (.cons rfl (.cons rfl (.cons rfl (.nil _)))))) ?_
  refine ke_seq ?_
  refine ke_region ?_
  refine sr_ev (v := .pointer none) (ev_move rfl) (by decide) ?_
  refine sr_ev (v := .pointer (some ⟨g7, 10, none⟩)) (ev_fieldAddr (i := 2) Tryz.underlying44 rfl Tryz.info9 rfl rfl) (by decide) ?_
  refine sr_ev (v := str o_0.ID) (ev_load Tryz.isAgg9 rfl (hB11.cell rfl)) (by decide) ?_
  obtain ⟨y43, hy44, hS⟩ := bind_some' hS
  refine sr_call (vs := [.pointer none, str o_0.ID]) rfl Tryz.call24 rfl (client_Clients_Get__nil_ok _ (hg.fr hz hb) (ρA := ρ29) hb.bd (hz.fr hg hb) hy44) (by decide) ?_
  rintro _ w45 ⟨v48, v50, rfl, h49, h51, hbw46⟩
  have htr47 := Tr.of_below hbw46 hb.bd
  replace h34 := h34.mv htr47.rd
  replace hB32 := hB32.mv (htr47.mv (i := 100) rfl)
  replace hB11 := hB11.mv (htr47.mv (i := 3) rfl)
  replace h2 := h2.mv htr47.rd
  replace h4 := h4.mv htr47.rd
  replace h6 := h6.mv htr47.rd
  replace hb := hb.trans htr47
  refine sr_ev (v := .tuple #[.agg #[str y43.1.ID, .int .i64 y43.1.Kind, str y43.1.Tenant, str y43.1.Secret.Salt, .int .i64 y43.1.Secret.Rounds, str y43.1.Secret.Hash, v48, v50, str y43.1.Logout], .bool y43.2]) (ev_move rfl) (by decide) ?_
  refine sr_ev (v := .agg #[str y43.1.ID, .int .i64 y43.1.Kind, str y43.1.Tenant, str y43.1.Secret.Salt, .int .i64 y43.1.Secret.Rounds, str y43.1.Secret.Hash, v48, v50, str y43.1.Logout]) (ev_extract rfl rfl) (by decide) ?_
  refine sr_ev (v := .bool y43.2) (ev_extract rfl rfl) (by decide) ?_
  refine sr_allocT 8 (by decide) hb.bd Tryz.zeroValue27 (by decide) ?_
  intro g52 ρ53 w54 hB56 htr55
  replace h34 := h34.mv htr55.rd
  replace h49 := h49.mv htr55.rd
  replace h51 := h51.mv htr55.rd
  replace hB32 := hB32.mv (htr55.mv (i := 100) rfl)
  replace hB11 := hB11.mv (htr55.mv (i := 3) rfl)
  replace h2 := h2.mv htr55.rd
  replace h4 := h4.mv htr55.rd
  replace h6 := h6.mv htr55.rd
  replace hb := hb.trans htr55
  replace hB56 : Blk ρ53 8 w54 g52 (.cells #[str ([]), .int .i64 0, str ([]), str ([]), .int .i64 0, str ([]), (.slice none 0 0), (.slice none 0 0), str ([])] 27 (0, 0)) := hB56
  refine sr_storeT (v := .agg #[str y43.1.ID, .int .i64 y43.1.Kind, str y43.1.Tenant, str y43.1.Secret.Salt, .int .i64 y43.1.Secret.Rounds, str y43.1.Secret.Hash, v48, v50, str y43.1.Logout]) (vs := [str y43.1.ID, .int .i64 y43.1.Kind, str y43.1.Tenant, str y43.1.Secret.Salt, .int .i64 y43.1.Secret.Rounds, str y43.1.Secret.Hash, v48, v50, str y43.1.Logout]) (cs' := #[str y43.1.ID, .int .i64 y43.1.Kind, str y43.1.Tenant, str y43.1.Secret.Salt, .int .i64 y43.1.Secret.Rounds, str y43.1.Secret.Hash, v48, v50, str y43.1.Logout]) hB56 (by decide) hb.bd rfl rfl rfl Tryz.sizeOf27 rfl (by first | rfl | (simp only [List.all_cons, List.all_nil, SlR.oneCell h49, SlR.oneCell h51]; done) | (simp only [List.all_cons, List.all_nil, SlR.oneCell h49, SlR.oneCell h51]; rfl)) rfl ?_
  intro w57 hB561 htr58
  replace h34 := h34.mv htr58.rd
  replace h49 := h49.mv htr58.rd
  replace h51 := h51.mv htr58.rd
  replace hB32 := hB32.mv (htr58.mv (i := 100) rfl)
  replace hB11 := hB11.mv (htr58.mv (i := 3) rfl)
  replace h2 := h2.mv htr58.rd
  replace h4 := h4.mv htr58.rd
  replace h6 := h6.mv htr58.rd
  replace hb := hb.trans htr58
  replace hB56 : Blk ρ53 8 w57 g52 (.cells #[str y43.1.ID, .int .i64 y43.1.Kind, str y43.1.Tenant, str y43.1.Secret.Salt, .int .i64 y43.1.Secret.Rounds, str y43.1.Secret.Hash, v48, v50, str y43.1.Logout] 27 (0, 0)) := hB561
  clear hB561
  refine sr_ev (v := .bool y43.2) (ev_assign rfl) (by decide) ?_
  refine sr_end (l' := [(1, .pointer (some ⟨g7, 0, none⟩)), (5, .pointer none), (7, .bool y43.2), (16, v33), (17, .int .i64 2), (18, .int .i64 0)]) (.cons rfl (.cons rfl (.cons rfl (.cons rfl (.cons rfl (.cons rfl (.nil _))))))) ?_
  refine ke_seq ?_
  refine ke_region ?_
  refine sr_ev (v := .bool y43.2) (ev_move rfl) (by decide) ?_
  refine sr_ev (v := .bool y43.2) (ev_move rfl) (by decide) ?_
  obtain ⟨z61, hz63, hS⟩ := bind_some' hS
  refine sr_join (m := 6) (C := fun (z : Bool) w1 => z61 = z ∧ ∃ ρ1, Tr ρ53 w57 (fun _ => false) ρ1 w1) (l' := fun z => [(1, .pointer (some ⟨g7, 0, none⟩)), (5, .pointer none), (16, v33), (17, .int .i64 2), (18, .int .i64 0), (36, .bool z)]) ?_ ?_
  ·rintro _ w64 ⟨rfl, ρ65, hj62⟩
   replace h34 := h34.mv hj62.rd
   replace hB32 := hB32.mv (hj62.mv (i := 100) rfl)
   replace hB11 := hB11.mv (hj62.mv (i := 3) rfl)
   replace h2 := h2.mv hj62.rd
   replace h4 := h4.mv hj62.rd
   replace h6 := h6.mv hj62.rd
   replace hb := hb.trans hj62
   refine sr_ev (v := .bool z61) (ev_move rfl) (by decide) ?_
   obtain ⟨z74, hz76, hS⟩ := bind_some' hS
   refine sr_join (m := 8) (C := fun (z : Bool) w1 => z74 = z ∧ ∃ ρ1, Tr ρ65 w64 (fun _ => false) ρ1 w1) (l' := fun z => [(1, .pointer (some ⟨g7, 0, none⟩)), (5, .pointer none), (16, v33), (17, .int .i64 2), (18, .int .i64 0), (45, .bool z)]) ?_ ?_
   ·rintro _ w77 ⟨rfl, ρ78, hj75⟩
    replace h34 := h34.mv hj75.rd
    replace hB32 := hB32.mv (hj75.mv (i := 100) rfl)
    replace hB11 := hB11.mv (hj75.mv (i := 3) rfl)
    replace h2 := h2.mv hj75.rd
    replace h4 := h4.mv hj75.rd
    replace h6 := h6.mv hj75.rd
    replace hb := hb.trans hj75
    refine sr_ev (v := .bool z74) (ev_move rfl) (by decide) ?_
    obtain ⟨z87, hz89, hS⟩ := bind_some' hS
    refine sr_join (m := 8) (C := fun (z : Bool) w1 => z87 = z ∧ ∃ ρ1, Tr ρ78 w77 (fun _ => false) ρ1 w1) (l' := fun z => [(1, .pointer (some ⟨g7, 0, none⟩)), (5, .pointer none), (16, v33), (17, .int .i64 2), (18, .int .i64 0), (54, .bool z)]) ?_ ?_
    ·rintro _ w90 ⟨rfl, ρ91, hj88⟩
     replace h34 := h34.mv hj88.rd
     replace hB32 := hB32.mv (hj88.mv (i := 100) rfl)
     replace hB11 := hB11.mv (hj88.mv (i := 3) rfl)
     replace h2 := h2.mv hj88.rd
     replace h4 := h4.mv hj88.rd
     replace h6 := h6.mv hj88.rd
     replace hb := hb.trans hj88
     refine sr_ev (v := .bool z87) (ev_move rfl) (by decide) ?_
     obtain ⟨z100, hz102, hS⟩ := bind_some' hS
     refine sr_join (m := 8) (C := fun (z : Bool) w1 => z100 = z ∧ ∃ ρ1, Tr ρ91 w90 (fun _ => false) ρ1 w1) (l' := fun z => [(1, .pointer (some ⟨g7, 0, none⟩)), (5, .pointer none), (16, v33), (17, .int .i64 2), (18, .int .i64 0), (63, .bool z)]) ?_ ?_
     ·rintro _ w103 ⟨rfl, ρ104, hj101⟩
      replace h34 := h34.mv hj101.rd
      replace hB32 := hB32.mv (hj101.mv (i := 100) rfl)
      replace hB11 := hB11.mv (hj101.mv (i := 3) rfl)
      replace h2 := h2.mv hj101.rd
      replace h4 := h4.mv hj101.rd
      replace h6 := h6.mv hj101.rd
      replace hb := hb.trans hj101
      refine sr_ev (v := .bool z100) (ev_move rfl) (by decide) ?_
      obtain ⟨z113, hz115, hS⟩ := bind_some' hS
      refine sr_join (m := 5) (C := fun (z : Bool) w1 => z113 = z ∧ ∃ ρ1, Tr ρ104 w103 (fun _ => false) ρ1 w1) (l' := fun z => [(1, .pointer (some ⟨g7, 0, none⟩)), (5, .pointer none), (16, v33), (17, .int .i64 2), (18, .int .i64 0), (69, .bool z)]) ?_ ?_
      ·rintro _ w116 ⟨rfl, ρ117, hj114⟩
       replace h34 := h34.mv hj114.rd
       replace hB32 := hB32.mv (hj114.mv (i := 100) rfl)
       replace hB11 := hB11.mv (hj114.mv (i := 3) rfl)
       replace h2 := h2.mv hj114.rd
       replace h4 := h4.mv hj114.rd
       replace h6 := h6.mv hj114.rd
       replace hb := hb.trans hj114
       refine sr_ev (v := .bool z113) (ev_move rfl) (by decide) ?_
       obtain ⟨z126, hz128, hS⟩ := bind_some' hS
       refine sr_join (m := 5) (C := fun (z : Bool) w1 => z126 = z ∧ ∃ ρ1, Tr ρ117 w116 (fun _ => false) ρ1 w1) (l' := fun z => [(1, .pointer (some ⟨g7, 0, none⟩)), (16, v33), (17, .int .i64 2), (18, .int .i64 0), (75, .bool z)]) ?_ ?_
       ·rintro _ w129 ⟨rfl, ρ130, hj127⟩
        replace h34 := h34.mv hj127.rd
        replace hB32 := hB32.mv (hj127.mv (i := 100) rfl)
        replace hB11 := hB11.mv (hj127.mv (i := 3) rfl)
        replace h2 := h2.mv hj127.rd
        replace h4 := h4.mv hj127.rd
        replace h6 := h6.mv hj127.rd
        replace hb := hb.trans hj127
        refine sr_end (l' := [(1, .pointer (some ⟨g7, 0, none⟩)), (16, v33), (17, .int .i64 2), (18, .int .i64 0), (75, .bool z126)]) (.cons rfl (.cons rfl (.cons rfl (.cons rfl (.cons rfl (.nil _)))))) ?_
        refine ke_cond (t := z126) rfl (fun hc139 => ?_) (fun hc139 => ?_)
        ·replace hS := ite_true' hS hc139
         refine ke_seq ?_
         refine ke_region ?_
         refine sr_ev (v := .bool false) (ev_assign rfl) (by decide) ?_
         refine sr_end (l' := [(2, .bool false)]) (.cons rfl (.nil _)) ?_
         cases hS
         exact ke_ret1 Tryz.func8 rfl rfl ⟨_, rfl, rfl, (hb.below (flat1_le _))⟩
        ·replace hS := ite_false' hS hc139
         refine ke_skip ?_
         refine ke_inBlock ?_
         refine ke_region ?_
         refine sr_ev (v := .int .i64 1) (ev_addc rfl rfl (by decide)) (by decide) ?_
         refine sr_ev (v := .int .i64 1) (ev_move rfl) (by decide) ?_
         refine sr_end (l' := [(1, .pointer (some ⟨g7, 0, none⟩)), (16, v33), (17, .int .i64 2), (18, .int .i64 1)]) (.cons rfl (.cons rfl (.cons rfl (.cons rfl (.nil _))))) ?_
         refine ke_inLoop ?_
         refine ke_seq ?_
         refine ke_region ?_
         refine sr_ev (v := .bool true) (ev_ltc rfl rfl (by decide)) (by decide) ?_
         refine sr_end (l' := [(1, .pointer (some ⟨g7, 0, none⟩)), (16, v33), (17, .int .i64 2), (18, .int .i64 1), (19, .bool true)]) (.cons rfl (.cons rfl (.cons rfl (.cons rfl (.cons rfl (.nil _)))))) ?_
         refine ke_seq ?_
         refine ke_cond (t := true) rfl (fun _ => ?_) (fun h => by cases h)
         refine ke_skip ?_
         refine ke_seq ?_
         refine ke_block ?_
         refine ke_seq ?_
         refine ke_region ?_
         obtain ⟨b140, o141, cs143, hq144, he142⟩ := ((SlT.of_sl (i := 0) h34)).elem (P := Tryz.prog) (z := (some g28)) (q := 1) Tryz.underlying58 Tryz.info33 rfl rfl
         obtain rfl : cs143 = [.pointer (some ⟨g28, 0, none⟩)] := he142.rd
         refine sr_ev (v := .pointer (some ⟨b140, o141, none⟩)) (hq144 w129 rfl rfl) (by decide) ?_
         refine sr_ev (v := .pointer (some ⟨g28, 0, none⟩)) (ev_load Tryz.isAgg33 rfl (he142.cell 0 _ rfl)) (by decide) ?_
         refine sr_ev (v := .pointer (some ⟨g28, 0, none⟩)) (ev_assign rfl) (by decide) ?_
         refine sr_end (l' := [(1, .pointer (some ⟨g7, 0, none⟩)), (5, .pointer (some ⟨g28, 0, none⟩)), (16, v33), (17, .int .i64 2), (18, .int .i64 1)]) (.cons rfl (.cons rfl (.cons rfl (.cons rfl (.cons rfl (.nil _)))))) ?_
         refine ke_seq ?_
         refine ke_region ?_
         refine sr_ev (v := .pointer (some ⟨g28, 0, none⟩)) (ev_move rfl) (by decide) ?_
         refine sr_ev (v := .pointer (some ⟨g7, 10, none⟩)) (ev_fieldAddr (i := 2) Tryz.underlying44 rfl Tryz.info9 rfl rfl) (by decide) ?_
         refine sr_ev (v := str o_0.ID) (ev_load Tryz.isAgg9 rfl (hB11.cell rfl)) (by decide) ?_
         obtain ⟨y145, hy146, hS⟩ := bind_some' hS
         refine sr_call (vs := [.pointer (some ⟨g28, 0, none⟩), str o_0.ID]) rfl Tryz.call24 rfl (client_Clients_Get_ok _ (hg.fr hz hb) (ρA := ρ130) hb.bd (hz.fr hg hb) (τ0 := (fun p => 100 + p)) (fun p => Nat.le_add_right_of_le (by decide)) (⟨_, hB32, MapT.nil⟩ : client_Clients.O (fun p => 100 + p) ρ130 w129 g28 (client_Clients.mk (none : GMap Str api_Client))) hy146) (by decide) ?_
         rintro _ w147 ⟨v150, v152, rfl, h151, h153, hbw148⟩
         have htr149 := Tr.of_below hbw148 hb.bd
         replace h34 := h34.mv htr149.rd
         replace hB32 := hB32.mv (htr149.mv (i := 100) rfl)
         replace hB11 := hB11.mv (htr149.mv (i := 3) rfl)
         replace h2 := h2.mv htr149.rd
         replace h4 := h4.mv htr149.rd
         replace h6 := h6.mv htr149.rd
         replace hb := hb.trans htr149
         refine sr_ev (v := .tuple #[.agg #[str y145.1.ID, .int .i64 y145.1.Kind, str y145.1.Tenant, str y145.1.Secret.Salt, .int .i64 y145.1.Secret.Rounds, str y145.1.Secret.Hash, v150, v152, str y145.1.Logout], .bool y145.2]) (ev_move rfl) (by decide) ?_
         refine sr_ev (v := .agg #[str y145.1.ID, .int .i64 y145.1.Kind, str y145.1.Tenant, str y145.1.Secret.Salt, .int .i64 y145.1.Secret.Rounds, str y145.1.Secret.Hash, v150, v152, str y145.1.Logout]) (ev_extract rfl rfl) (by decide) ?_
         refine sr_ev (v := .bool y145.2) (ev_extract rfl rfl) (by decide) ?_
         refine sr_allocT 8 (by decide) hb.bd Tryz.zeroValue27 (by decide) ?_
         intro g154 ρ155 w156 hB158 htr157
         replace h34 := h34.mv htr157.rd
         replace h151 := h151.mv htr157.rd
         replace h153 := h153.mv htr157.rd
         replace hB32 := hB32.mv (htr157.mv (i := 100) rfl)
         replace hB11 := hB11.mv (htr157.mv (i := 3) rfl)
         replace h2 := h2.mv htr157.rd
         replace h4 := h4.mv htr157.rd
         replace h6 := h6.mv htr157.rd
         replace hb := hb.trans htr157
         replace hB158 : Blk ρ155 8 w156 g154 (.cells #[str ([]), .int .i64 0, str ([]), str ([]), .int .i64 0, str ([]), (.slice none 0 0), (.slice none 0 0), str ([])] 27 (0, 0)) := hB158
         refine sr_storeT (v := .agg #[str y145.1.ID, .int .i64 y145.1.Kind, str y145.1.Tenant, str y145.1.Secret.Salt, .int .i64 y145.1.Secret.Rounds, str y145.1.Secret.Hash, v150, v152, str y145.1.Logout]) (vs := [str y145.1.ID, .int .i64 y145.1.Kind, str y145.1.Tenant, str y145.1.Secret.Salt, .int .i64 y145.1.Secret.Rounds, str y145.1.Secret.Hash, v150, v152, str y145.1.Logout]) (cs' := #[str y145.1.ID, .int .i64 y145.1.Kind, str y145.1.Tenant, str y145.1.Secret.Salt, .int .i64 y145.1.Secret.Rounds, str y145.1.Secret.Hash, v150, v152, str y145.1.Logout]) hB158 (by decide) hb.bd rfl rfl rfl Tryz.sizeOf27 rfl (by first | rfl | (simp only [List.all_cons, List.all_nil, SlR.oneCell h151, SlR.oneCell h153]; done) | (simp only [List.all_cons, List.all_nil, SlR.oneCell h151, SlR.oneCell h153]; rfl)) rfl ?_
         intro w159 hB1581 htr160
         replace h34 := h34.mv htr160.rd
         replace h151 := h151.mv htr160.rd
         replace h153 := h153.mv htr160.rd
         replace hB32 := hB32.mv (htr160.mv (i := 100) rfl)
         replace hB11 := hB11.mv (htr160.mv (i := 3) rfl)
         replace h2 := h2.mv htr160.rd
         replace h4 := h4.mv htr160.rd
         replace h6 := h6.mv htr160.rd
         replace hb := hb.trans htr160
         replace hB158 : Blk ρ155 8 w159 g154 (.cells #[str y145.1.ID, .int .i64 y145.1.Kind, str y145.1.Tenant, str y145.1.Secret.Salt, .int .i64 y145.1.Secret.Rounds, str y145.1.Secret.Hash, v150, v152, str y145.1.Logout] 27 (0, 0)) := hB1581
         clear hB1581
         refine sr_ev (v := .bool y145.2) (ev_assign rfl) (by decide) ?_
         refine sr_end (l' := [(1, .pointer (some ⟨g7, 0, none⟩)), (5, .pointer (some ⟨g28, 0, none⟩)), (7, .bool y145.2), (16, v33), (17, .int .i64 2), (18, .int .i64 1)]) (.cons rfl (.cons rfl (.cons rfl (.cons rfl (.cons rfl (.cons rfl (.nil _))))))) ?_
         refine ke_seq ?_
         refine ke_region ?_
         refine sr_ev (v := .bool y145.2) (ev_move rfl) (by decide) ?_
         refine sr_ev (v := .bool y145.2) (ev_move rfl) (by decide) ?_
         obtain ⟨z163, hz165, hS⟩ := bind_some' hS
         refine sr_join (m := 6) (C := fun (z : Bool × client_Clients) w1 => z163 = z ∧ ∃ ρ1, client_Clients.O (fun p => 100 + p) ρ1 w1 g28 z.2 ∧ Tr ρ155 w159 (fun t => ([100, 101] : List Nat).contains t) ρ1 w1) (l' := fun z => [(1, .pointer (some ⟨g7, 0, none⟩)), (5, .pointer (some ⟨g28, 0, none⟩)), (16, v33), (17, .int .i64 2), (18, .int .i64 1), (36, .bool z.1)]) ?_ ?_
         ·rintro _ w166 ⟨rfl, ρ167, ⟨v178, hB180, h179⟩, hj164⟩
          replace h34 := h34.mv hj164.rd
          replace hB11 := hB11.mv (hj164.mv (i := 3) rfl)
          replace h2 := h2.mv hj164.rd
          replace h4 := h4.mv hj164.rd
          replace h6 := h6.mv hj164.rd
          replace hb := hb.trans hj164
          replace hB180 : Blk ρ167 100 w166 g28 (.cells #[v178] 57 (0, 0)) := hB180
          replace h179 : MapT str api_Client.c true ρ167 101 w166 v178 z163.2.of_ := h179
          refine sr_ev (v := .bool z163.1) (ev_move rfl) (by decide) ?_
          obtain ⟨z183, hz185, hS⟩ := bind_some' hS
          refine sr_join (m := 8) (C := fun (z : Bool) w1 => z183 = z ∧ ∃ ρ1, Tr ρ167 w166 (fun _ => false) ρ1 w1) (l' := fun z => [(1, .pointer (some ⟨g7, 0, none⟩)), (5, .pointer (some ⟨g28, 0, none⟩)), (16, v33), (17, .int .i64 2), (18, .int .i64 1), (45, .bool z)]) ?_ ?_
          ·rintro _ w186 ⟨rfl, ρ187, hj184⟩
           replace h34 := h34.mv hj184.rd
           replace hB180 := hB180.mv (hj184.mv (i := 100) rfl)
           replace h179 := h179.mv (hj184.mv (i := 101) rfl)
           replace hB11 := hB11.mv (hj184.mv (i := 3) rfl)
           replace h2 := h2.mv hj184.rd
           replace h4 := h4.mv hj184.rd
           replace h6 := h6.mv hj184.rd
           replace hb := hb.trans hj184
           refine sr_ev (v := .bool z183) (ev_move rfl) (by decide) ?_
           obtain ⟨z196, hz198, hS⟩ := bind_some' hS
           refine sr_join (m := 8) (C := fun (z : Bool) w1 => z196 = z ∧ ∃ ρ1, Tr ρ187 w186 (fun _ => false) ρ1 w1) (l' := fun z => [(1, .pointer (some ⟨g7, 0, none⟩)), (5, .pointer (some ⟨g28, 0, none⟩)), (16, v33), (17, .int .i64 2), (18, .int .i64 1), (54, .bool z)]) ?_ ?_
           ·rintro _ w199 ⟨rfl, ρ200, hj197⟩
            replace h34 := h34.mv hj197.rd
            replace hB180 := hB180.mv (hj197.mv (i := 100) rfl)
            replace h179 := h179.mv (hj197.mv (i := 101) rfl)
            replace hB11 := hB11.mv (hj197.mv (i := 3) rfl)
            replace h2 := h2.mv hj197.rd
            replace h4 := h4.mv hj197.rd
            replace h6 := h6.mv hj197.rd
            replace hb := hb.trans hj197
            refine sr_ev (v := .bool z196) (ev_move rfl) (by decide) ?_
            obtain ⟨z209, hz211, hS⟩ := bind_some' hS
            refine sr_join (m := 8) (C := fun (z : Bool) w1 => z209 = z ∧ ∃ ρ1, Tr ρ200 w199 (fun _ => false) ρ1 w1) (l' := fun z => [(1, .pointer (some ⟨g7, 0, none⟩)), (5, .pointer (some ⟨g28, 0, none⟩)), (16, v33), (17, .int .i64 2), (18, .int .i64 1), (63, .bool z)]) ?_ ?_
            ·rintro _ w212 ⟨rfl, ρ213, hj210⟩
             replace h34 := h34.mv hj210.rd
             replace hB180 := hB180.mv (hj210.mv (i := 100) rfl)
             replace h179 := h179.mv (hj210.mv (i := 101) rfl)
             replace hB11 := hB11.mv (hj210.mv (i := 3) rfl)
             replace h2 := h2.mv hj210.rd
             replace h4 := h4.mv hj210.rd
             replace h6 := h6.mv hj210.rd
             replace hb := hb.trans hj210
             refine sr_ev (v := .bool z209) (ev_move rfl) (by decide) ?_
             obtain ⟨z222, hz224, hS⟩ := bind_some' hS
             refine sr_join (m := 5) (C := fun (z : Bool × client_Clients) w1 => z222 = z ∧ ∃ ρ1, client_Clients.O (fun p => 100 + p) ρ1 w1 g28 z.2 ∧ Tr ρ213 w212 (fun t => ([100, 101] : List Nat).contains t) ρ1 w1) (l' := fun z => [(1, .pointer (some ⟨g7, 0, none⟩)), (5, .pointer (some ⟨g28, 0, none⟩)), (16, v33), (17, .int .i64 2), (18, .int .i64 1), (69, .bool z.1)]) ?_ ?_
             ·rintro _ w225 ⟨rfl, ρ226, ⟨v237, hB239, h238⟩, hj223⟩
              replace h34 := h34.mv hj223.rd
              replace hB11 := hB11.mv (hj223.mv (i := 3) rfl)
              replace h2 := h2.mv hj223.rd
              replace h4 := h4.mv hj223.rd
              replace h6 := h6.mv hj223.rd
              replace hb := hb.trans hj223
              replace hB239 : Blk ρ226 100 w225 g28 (.cells #[v237] 57 (0, 0)) := hB239
              replace h238 : MapT str api_Client.c true ρ226 101 w225 v237 z222.2.of_ := h238
              refine sr_ev (v := .bool z222.1) (ev_move rfl) (by decide) ?_
              obtain ⟨z242, hz244, hS⟩ := bind_some' hS
              refine sr_join (m := 5) (C := fun (z : Bool) w1 => z242 = z ∧ ∃ ρ1, Tr ρ226 w225 (fun _ => false) ρ1 w1) (l' := fun z => [(1, .pointer (some ⟨g7, 0, none⟩)), (16, v33), (17, .int .i64 2), (18, .int .i64 1), (75, .bool z)]) ?_ ?_
              ·rintro _ w245 ⟨rfl, ρ246, hj243⟩
               replace h34 := h34.mv hj243.rd
               replace hB239 := hB239.mv (hj243.mv (i := 100) rfl)
               replace h238 := h238.mv (hj243.mv (i := 101) rfl)
               replace hB11 := hB11.mv (hj243.mv (i := 3) rfl)
               replace h2 := h2.mv hj243.rd
               replace h4 := h4.mv hj243.rd
               replace h6 := h6.mv hj243.rd
               replace hb := hb.trans hj243
               refine sr_end (l' := [(1, .pointer (some ⟨g7, 0, none⟩)), (16, v33), (17, .int .i64 2), (18, .int .i64 1), (75, .bool z242)]) (.cons rfl (.cons rfl (.cons rfl (.cons rfl (.cons rfl (.nil _)))))) ?_
               refine ke_cond (t := z242) rfl (fun hc255 => ?_) (fun hc255 => ?_)
               ·replace hS := ite_true' hS hc255
                refine ke_seq ?_
                refine ke_region ?_
                refine sr_ev (v := .bool false) (ev_assign rfl) (by decide) ?_
                refine sr_end (l' := [(2, .bool false)]) (.cons rfl (.nil _)) ?_
                cases hS
                exact ke_ret1 Tryz.func8 rfl rfl ⟨_, rfl, rfl, (hb.below (flat1_le _))⟩
               ·replace hS := ite_false' hS hc255
                refine ke_skip ?_
                refine ke_inBlock ?_
                refine ke_region ?_
                refine sr_ev (v := .int .i64 2) (ev_addc rfl rfl (by decide)) (by decide) ?_
                refine sr_ev (v := .int .i64 2) (ev_move rfl) (by decide) ?_
                refine sr_end (l' := [(1, .pointer (some ⟨g7, 0, none⟩)), (16, v33), (17, .int .i64 2), (18, .int .i64 2)]) (.cons rfl (.cons rfl (.cons rfl (.cons rfl (.nil _))))) ?_
                refine ke_inLoop ?_
                refine ke_seq ?_
                refine ke_region ?_
                refine sr_ev (v := .bool false) (ev_ltc rfl rfl (by decide)) (by decide) ?_
                refine sr_end (l' := [(1, .pointer (some ⟨g7, 0, none⟩)), (16, v33), (17, .int .i64 2), (18, .int .i64 2), (19, .bool false)]) (.cons rfl (.cons rfl (.cons rfl (.cons rfl (.cons rfl (.nil _)))))) ?_
                refine ke_seq ?_
                refine ke_cond (t := false) rfl (fun h => by cases h) (fun _ => ?_)
                refine ke_exit (k' := _) rfl ?_
                refine ke_seq ?_
                refine ke_region ?_
                obtain ⟨y256, hy257, hS⟩ := bind_some' hS
                refine sr_call (vs := []) rfl Tryz.call11 rfl (law36_alive_ok _ (hg.fr hz hb) (ρA := ρ246) hb.bd (hz.fr hg hb) hy257) (by decide) ?_
                rintro _ w258 ⟨rfl, hbw259⟩
                have htr260 := Tr.of_below hbw259 hb.bd
                replace hb := hb.trans htr260
                refine sr_ev (v := .bool y256) (ev_assign rfl) (by decide) ?_
                refine sr_end (l' := [(2, .bool y256)]) (.cons rfl (.nil _)) ?_
                cases hS
                exact ke_ret1 Tryz.func8 rfl rfl ⟨_, rfl, rfl, (hb.below (flat1_le _))⟩
              ·intro K241
               clear hS
               have hj243 : Tr ρ226 w225 (fun _ => false) ρ226 w225 := (Tr.refl hb.bd).weak (fun _ _ => rfl) rfl rfl
               rcases Bool.eq_false_or_eq_true z222.1 with hg240 | hg240
               ·have hS := ite_true' hz244 hg240
                refine sr_pass (e := 70) rfl rfl (by rw [hg240]; rfl) (by decide) ?_
                refine sr_pass (e := 70) rfl rfl (by rw [hg240]; rfl) (by decide) ?_
                refine sr_pass (e := 70) rfl rfl (by rw [hg240]; rfl) (by decide) ?_
                refine sr_pass (e := 70) rfl rfl (by rw [hg240]; rfl) (by decide) ?_
                refine sr_ev (v := .bool true) (ev_pick_t rfl hg240 rfl) (by decide) ?_
                exact sr_weaken (l' := [(1, .pointer (some ⟨g7, 0, none⟩)), (16, v33), (17, .int .i64 2), (18, .int .i64 1), (75, .bool true)]) (.cons rfl (.cons rfl (.cons rfl (.cons rfl (.cons rfl (.nil _)))))) (K241 true _ ⟨(Option.some.inj hS).symm, _, hj243⟩)
               ·have hS := ite_false' hz244 hg240
                refine sr_evg (b := false) (e := 70) rfl rfl hg240 (v := .pointer (some ⟨g28, 0, none⟩)) (ev_move rfl) (by decide) ?_
                obtain ⟨y248, hy249, hS⟩ := bind_some' hS
                refine sr_callg (b := false) (e := 70) rfl rfl hg240 (vs := [.pointer (some ⟨g28, 0, none⟩)]) rfl Tryz.call35 rfl (client_Clients_List_ok _ (hg.fr hz hb) (ρA := ρ226) hb.bd (hz.fr hg hb) (τ0 := (fun p => 100 + p)) (fun p => Nat.le_add_right_of_le (by decide)) (⟨_, hB239, h238⟩ : client_Clients.O (fun p => 100 + p) ρ226 w225 g28 z222.2) hy249) (by decide) ?_
                rintro v253 w250 ⟨_, rfl, h254, hbw251⟩
                have htr252 := Tr.of_below hbw251 hb.bd
                replace h34 := h34.mv htr252.rd
                replace hB239 := hB239.mv (htr252.mv (i := 100) rfl)
                replace h238 := h238.mv (htr252.mv (i := 101) rfl)
                replace hB11 := hB11.mv (htr252.mv (i := 3) rfl)
                replace h2 := h2.mv htr252.rd
                replace h4 := h4.mv htr252.rd
                replace h6 := h6.mv htr252.rd
                replace hb := hb.trans htr252
                replace hj243 := (hj243.trans htr252).weak (J' := (fun _ => false)) (by intro t h; simp [rng] at h ⊢ <;> omega) rfl rfl
                refine sr_evg (b := false) (e := 70) rfl rfl hg240 (v := .int .i64 (y248.length : Int)) (ev_sllenW Tryz.underlying25 rfl h254.asSl) (by decide) ?_
                refine sr_evg (b := false) (e := 70) rfl rfl hg240 (v := .bool ((y248.length : Int) != 0)) (ev_ne rfl rfl) (by decide) ?_
                refine sr_ev (v := .bool ((y248.length : Int) != 0)) (ev_pick_f rfl hg240 rfl) (by decide) ?_
                exact sr_weaken (l' := [(1, .pointer (some ⟨g7, 0, none⟩)), (16, v33), (17, .int .i64 2), (18, .int .i64 1), (75, .bool ((y248.length : Int) != 0))]) (.cons rfl (.cons rfl (.cons rfl (.cons rfl (.cons rfl (.nil _)))))) (K241 ((y248.length : Int) != 0) _ ⟨(Option.some.inj hS).symm, _, hj243⟩)
             ·intro K221
              clear hS
              have hj223 : Tr ρ213 w212 (fun t => ([100, 101] : List Nat).contains t) ρ213 w212 := (Tr.refl hb.bd).weak (fun _ _ => rfl) rfl rfl
              rcases Bool.eq_false_or_eq_true z209 with hg220 | hg220
              ·have hS := ite_true' hz224 hg220
               refine sr_pass (e := 64) rfl rfl (by rw [hg220]; rfl) (by decide) ?_
               refine sr_pass (e := 64) rfl rfl (by rw [hg220]; rfl) (by decide) ?_
               refine sr_pass (e := 64) rfl rfl (by rw [hg220]; rfl) (by decide) ?_
               refine sr_pass (e := 64) rfl rfl (by rw [hg220]; rfl) (by decide) ?_
               refine sr_ev (v := .bool true) (ev_pick_t rfl hg220 rfl) (by decide) ?_
               exact sr_weaken (l' := [(1, .pointer (some ⟨g7, 0, none⟩)), (5, .pointer (some ⟨g28, 0, none⟩)), (16, v33), (17, .int .i64 2), (18, .int .i64 1), (69, .bool true)]) (.cons rfl (.cons rfl (.cons rfl (.cons rfl (.cons rfl (.cons rfl (.nil _))))))) (K221 (true, z163.2) _ ⟨(Option.some.inj hS).symm, _, ⟨_, hB180, h179⟩, hj223⟩)
              ·have hS := ite_false' hz224 hg220
               refine sr_evg (b := false) (e := 64) rfl rfl hg220 (v := .pointer (some ⟨g28, 0, none⟩)) (ev_move rfl) (by decide) ?_
               refine sr_evg (b := false) (e := 64) rfl rfl hg220 (v := .pointer (some ⟨g7, 10, none⟩)) (ev_fieldAddr (i := 2) Tryz.underlying44 rfl Tryz.info9 rfl rfl) (by decide) ?_
               refine sr_evg (b := false) (e := 64) rfl rfl hg220 (v := str o_0.ID) (ev_load Tryz.isAgg9 rfl (hB11.cell rfl)) (by decide) ?_
               obtain ⟨y228, hy229, hS⟩ := bind_some' hS
               refine sr_callg (b := false) (e := 64) rfl rfl hg220 (vs := [.pointer (some ⟨g28, 0, none⟩), str o_0.ID]) rfl Tryz.call32 rfl (client_Clients_Remove_ok _ (hg.fr hz hb) (ρA := ρ213) hb.bd (hz.fr hg hb) (o := 100) (by decide) (⟨_, hB180, h179⟩ : client_Clients.O (fun p => 100 + p) ρ213 w212 g28 z163.2) hy229) (by decide) ?_
               rintro _ w230 ⟨ρ236, rfl, ⟨v233, hB235, h234⟩, htr232⟩
               replace h34 := h34.mv htr232.rd
               replace hB11 := hB11.mv (htr232.mv (i := 3) rfl)
               replace h2 := h2.mv htr232.rd
               replace h4 := h4.mv htr232.rd
               replace h6 := h6.mv htr232.rd
               replace hb := hb.trans htr232
               replace hj223 := (hj223.trans htr232).weak (J' := (fun t => ([100, 101] : List Nat).contains t)) (by intro t h; simp [rng] at h ⊢ <;> omega) rfl rfl
               replace hB235 : Blk ρ236 100 w230 g28 (.cells #[v233] 57 (0, 0)) := hB235
               replace h234 : MapT str api_Client.c true ρ236 101 w230 v233 y228.2.of_ := h234
               refine sr_ev (v := .bool y228.1) (ev_pick_f rfl hg220 rfl) (by decide) ?_
               exact sr_weaken (l' := [(1, .pointer (some ⟨g7, 0, none⟩)), (5, .pointer (some ⟨g28, 0, none⟩)), (16, v33), (17, .int .i64 2), (18, .int .i64 1), (69, .bool y228.1)]) (.cons rfl (.cons rfl (.cons rfl (.cons rfl (.cons rfl (.cons rfl (.nil _))))))) (K221 (y228.1, y228.2) _ ⟨(Option.some.inj hS).symm, _, ⟨_, hB235, h234⟩, hj223⟩)
            ·intro K208
             clear hS
             have hj210 : Tr ρ200 w199 (fun _ => false) ρ200 w199 := (Tr.refl hb.bd).weak (fun _ _ => rfl) rfl rfl
             rcases Bool.eq_false_or_eq_true z196 with hg207 | hg207
             ·have hS := ite_true' hz211 hg207
              refine sr_pass (e := 55) rfl rfl (by rw [hg207]; rfl) (by decide) ?_
              refine sr_pass (e := 55) rfl rfl (by rw [hg207]; rfl) (by decide) ?_
              refine sr_pass (e := 55) rfl rfl (by rw [hg207]; rfl) (by decide) ?_
              refine sr_pass (e := 55) rfl rfl (by rw [hg207]; rfl) (by decide) ?_
              refine sr_pass (e := 55) rfl rfl (by rw [hg207]; rfl) (by decide) ?_
              refine sr_pass (e := 55) rfl rfl (by rw [hg207]; rfl) (by decide) ?_
              refine sr_pass (e := 55) rfl rfl (by rw [hg207]; rfl) (by decide) ?_
              refine sr_ev (v := .bool true) (ev_pick_t rfl hg207 rfl) (by decide) ?_
              exact sr_weaken (l' := [(1, .pointer (some ⟨g7, 0, none⟩)), (5, .pointer (some ⟨g28, 0, none⟩)), (16, v33), (17, .int .i64 2), (18, .int .i64 1), (63, .bool true)]) (.cons rfl (.cons rfl (.cons rfl (.cons rfl (.cons rfl (.cons rfl (.nil _))))))) (K208 true _ ⟨(Option.some.inj hS).symm, _, hj210⟩)
             ·have hS := ite_false' hz211 hg207
              refine sr_evg (b := false) (e := 55) rfl rfl hg207 (v := .pointer (some ⟨g28, 0, none⟩)) (ev_move rfl) (by decide) ?_
              refine sr_evg (b := false) (e := 55) rfl rfl hg207 (v := .pointer (some ⟨g7, 10, none⟩)) (ev_fieldAddr (i := 2) Tryz.underlying44 rfl Tryz.info9 rfl rfl) (by decide) ?_
              refine sr_evg (b := false) (e := 55) rfl rfl hg207 (v := str o_0.ID) (ev_load Tryz.isAgg9 rfl (hB11.cell rfl)) (by decide) ?_
              refine sr_evg (b := false) (e := 55) rfl rfl hg207 (v := .pointer (some ⟨g7, 12, none⟩)) (ev_fieldAddr (i := 4) Tryz.underlying44 rfl Tryz.info25 rfl rfl) (by decide) ?_
              refine sr_evg (b := false) (e := 55) rfl rfl hg207 (v := v5) (ev_load Tryz.isAgg25 rfl (hB11.cell rfl)) (by decide) ?_
              obtain ⟨y215, hy216, hS⟩ := bind_some' hS
              refine sr_callg (b := false) (e := 55) rfl rfl hg207 (vs := [.pointer (some ⟨g28, 0, none⟩), str o_0.ID, v5]) rfl Tryz.call19 rfl (client_Clients_Allowed_ok _ (hg.fr hz hb) (ρA := ρ200) hb.bd (hz.fr hg hb) (τ0 := (fun p => 100 + p)) (fun p => Nat.le_add_right_of_le (by decide)) h6 (⟨_, hB180, h179⟩ : client_Clients.O (fun p => 100 + p) ρ200 w199 g28 z163.2) hy216) (by decide) ?_
              rintro _ w217 ⟨rfl, hbw218⟩
              have htr219 := Tr.of_below hbw218 hb.bd
              replace h34 := h34.mv htr219.rd
              replace hB180 := hB180.mv (htr219.mv (i := 100) rfl)
              replace h179 := h179.mv (htr219.mv (i := 101) rfl)
              replace hB11 := hB11.mv (htr219.mv (i := 3) rfl)
              replace h2 := h2.mv htr219.rd
              replace h4 := h4.mv htr219.rd
              replace h6 := h6.mv htr219.rd
              replace hb := hb.trans htr219
              replace hj210 := (hj210.trans htr219).weak (J' := (fun _ => false)) (by intro t h; simp [rng] at h ⊢ <;> omega) rfl rfl
              refine sr_evg (b := false) (e := 55) rfl rfl hg207 (v := .bool (y215 != 1)) (ev_ne rfl rfl) (by decide) ?_
              refine sr_ev (v := .bool (y215 != 1)) (ev_pick_f rfl hg207 rfl) (by decide) ?_
              exact sr_weaken (l' := [(1, .pointer (some ⟨g7, 0, none⟩)), (5, .pointer (some ⟨g28, 0, none⟩)), (16, v33), (17, .int .i64 2), (18, .int .i64 1), (63, .bool (y215 != 1))]) (.cons rfl (.cons rfl (.cons rfl (.cons rfl (.cons rfl (.cons rfl (.nil _))))))) (K208 (y215 != 1) _ ⟨(Option.some.inj hS).symm, _, hj210⟩)
           ·intro K195
            clear hS
            have hj197 : Tr ρ187 w186 (fun _ => false) ρ187 w186 := (Tr.refl hb.bd).weak (fun _ _ => rfl) rfl rfl
            rcases Bool.eq_false_or_eq_true z183 with hg194 | hg194
            ·have hS := ite_true' hz198 hg194
             refine sr_pass (e := 46) rfl rfl (by rw [hg194]; rfl) (by decide) ?_
             refine sr_pass (e := 46) rfl rfl (by rw [hg194]; rfl) (by decide) ?_
             refine sr_pass (e := 46) rfl rfl (by rw [hg194]; rfl) (by decide) ?_
             refine sr_pass (e := 46) rfl rfl (by rw [hg194]; rfl) (by decide) ?_
             refine sr_pass (e := 46) rfl rfl (by rw [hg194]; rfl) (by decide) ?_
             refine sr_pass (e := 46) rfl rfl (by rw [hg194]; rfl) (by decide) ?_
             refine sr_pass (e := 46) rfl rfl (by rw [hg194]; rfl) (by decide) ?_
             refine sr_ev (v := .bool true) (ev_pick_t rfl hg194 rfl) (by decide) ?_
             exact sr_weaken (l' := [(1, .pointer (some ⟨g7, 0, none⟩)), (5, .pointer (some ⟨g28, 0, none⟩)), (16, v33), (17, .int .i64 2), (18, .int .i64 1), (54, .bool true)]) (.cons rfl (.cons rfl (.cons rfl (.cons rfl (.cons rfl (.cons rfl (.nil _))))))) (K195 true _ ⟨(Option.some.inj hS).symm, _, hj197⟩)
            ·have hS := ite_false' hz198 hg194
             refine sr_evg (b := false) (e := 46) rfl rfl hg194 (v := .pointer (some ⟨g28, 0, none⟩)) (ev_move rfl) (by decide) ?_
             refine sr_evg (b := false) (e := 46) rfl rfl hg194 (v := .pointer (some ⟨g7, 10, none⟩)) (ev_fieldAddr (i := 2) Tryz.underlying44 rfl Tryz.info9 rfl rfl) (by decide) ?_
             refine sr_evg (b := false) (e := 46) rfl rfl hg194 (v := str o_0.ID) (ev_load Tryz.isAgg9 rfl (hB11.cell rfl)) (by decide) ?_
             refine sr_evg (b := false) (e := 46) rfl rfl hg194 (v := .pointer (some ⟨g7, 11, none⟩)) (ev_fieldAddr (i := 3) Tryz.underlying44 rfl Tryz.info9 rfl rfl) (by decide) ?_
             refine sr_evg (b := false) (e := 46) rfl rfl hg194 (v := str o_0.S) (ev_load Tryz.isAgg9 rfl (hB11.cell rfl)) (by decide) ?_
             obtain ⟨y202, hy203, hS⟩ := bind_some' hS
             refine sr_callg (b := false) (e := 46) rfl rfl hg194 (vs := [.pointer (some ⟨g28, 0, none⟩), str o_0.ID, str o_0.S]) rfl Tryz.call29 rfl (client_Clients_Authenticate_ok _ (hg.fr hz hb) (ρA := ρ187) hb.bd (hz.fr hg hb) (τ0 := (fun p => 100 + p)) (fun p => Nat.le_add_right_of_le (by decide)) (⟨_, hB180, h179⟩ : client_Clients.O (fun p => 100 + p) ρ187 w186 g28 z163.2) hy203) (by decide) ?_
             rintro _ w204 ⟨rfl, hbw205⟩
             have htr206 := Tr.of_below hbw205 hb.bd
             replace h34 := h34.mv htr206.rd
             replace hB180 := hB180.mv (htr206.mv (i := 100) rfl)
             replace h179 := h179.mv (htr206.mv (i := 101) rfl)
             replace hB11 := hB11.mv (htr206.mv (i := 3) rfl)
             replace h2 := h2.mv htr206.rd
             replace h4 := h4.mv htr206.rd
             replace h6 := h6.mv htr206.rd
             replace hb := hb.trans htr206
             replace hj197 := (hj197.trans htr206).weak (J' := (fun _ => false)) (by intro t h; simp [rng] at h ⊢ <;> omega) rfl rfl
             refine sr_evg (b := false) (e := 46) rfl rfl hg194 (v := .bool (y202 != 1)) (ev_ne rfl rfl) (by decide) ?_
             refine sr_ev (v := .bool (y202 != 1)) (ev_pick_f rfl hg194 rfl) (by decide) ?_
             exact sr_weaken (l' := [(1, .pointer (some ⟨g7, 0, none⟩)), (5, .pointer (some ⟨g28, 0, none⟩)), (16, v33), (17, .int .i64 2), (18, .int .i64 1), (54, .bool (y202 != 1))]) (.cons rfl (.cons rfl (.cons rfl (.cons rfl (.cons rfl (.cons rfl (.nil _))))))) (K195 (y202 != 1) _ ⟨(Option.some.inj hS).symm, _, hj197⟩)
          ·intro K182
           clear hS
           have hj184 : Tr ρ167 w166 (fun _ => false) ρ167 w166 := (Tr.refl hb.bd).weak (fun _ _ => rfl) rfl rfl
           rcases Bool.eq_false_or_eq_true z163.1 with hg181 | hg181
           ·have hS := ite_true' hz185 hg181
            refine sr_pass (e := 37) rfl rfl (by rw [hg181]; rfl) (by decide) ?_
            refine sr_pass (e := 37) rfl rfl (by rw [hg181]; rfl) (by decide) ?_
            refine sr_pass (e := 37) rfl rfl (by rw [hg181]; rfl) (by decide) ?_
            refine sr_pass (e := 37) rfl rfl (by rw [hg181]; rfl) (by decide) ?_
            refine sr_pass (e := 37) rfl rfl (by rw [hg181]; rfl) (by decide) ?_
            refine sr_pass (e := 37) rfl rfl (by rw [hg181]; rfl) (by decide) ?_
            refine sr_pass (e := 37) rfl rfl (by rw [hg181]; rfl) (by decide) ?_
            refine sr_ev (v := .bool true) (ev_pick_t rfl hg181 rfl) (by decide) ?_
            exact sr_weaken (l' := [(1, .pointer (some ⟨g7, 0, none⟩)), (5, .pointer (some ⟨g28, 0, none⟩)), (16, v33), (17, .int .i64 2), (18, .int .i64 1), (45, .bool true)]) (.cons rfl (.cons rfl (.cons rfl (.cons rfl (.cons rfl (.cons rfl (.nil _))))))) (K182 true _ ⟨(Option.some.inj hS).symm, _, hj184⟩)
           ·have hS := ite_false' hz185 hg181
            refine sr_evg (b := false) (e := 37) rfl rfl hg181 (v := .pointer (some ⟨g28, 0, none⟩)) (ev_move rfl) (by decide) ?_
            refine sr_evg (b := false) (e := 37) rfl rfl hg181 (v := .pointer (some ⟨g7, 10, none⟩)) (ev_fieldAddr (i := 2) Tryz.underlying44 rfl Tryz.info9 rfl rfl) (by decide) ?_
            refine sr_evg (b := false) (e := 37) rfl rfl hg181 (v := str o_0.ID) (ev_load Tryz.isAgg9 rfl (hB11.cell rfl)) (by decide) ?_
            refine sr_evg (b := false) (e := 37) rfl rfl hg181 (v := .pointer (some ⟨g7, 11, none⟩)) (ev_fieldAddr (i := 3) Tryz.underlying44 rfl Tryz.info9 rfl rfl) (by decide) ?_
            refine sr_evg (b := false) (e := 37) rfl rfl hg181 (v := str o_0.S) (ev_load Tryz.isAgg9 rfl (hB11.cell rfl)) (by decide) ?_
            obtain ⟨y189, hy190, hS⟩ := bind_some' hS
            refine sr_callg (b := false) (e := 37) rfl rfl hg181 (vs := [.pointer (some ⟨g28, 0, none⟩), str o_0.ID, str o_0.S]) rfl Tryz.call27 rfl (client_Clients_Redirect_ok _ (hg.fr hz hb) (ρA := ρ167) hb.bd (hz.fr hg hb) (τ0 := (fun p => 100 + p)) (fun p => Nat.le_add_right_of_le (by decide)) (⟨_, hB180, h179⟩ : client_Clients.O (fun p => 100 + p) ρ167 w166 g28 z163.2) hy190) (by decide) ?_
            rintro _ w191 ⟨rfl, hbw192⟩
            have htr193 := Tr.of_below hbw192 hb.bd
            replace h34 := h34.mv htr193.rd
            replace hB180 := hB180.mv (htr193.mv (i := 100) rfl)
            replace h179 := h179.mv (htr193.mv (i := 101) rfl)
            replace hB11 := hB11.mv (htr193.mv (i := 3) rfl)
            replace h2 := h2.mv htr193.rd
            replace h4 := h4.mv htr193.rd
            replace h6 := h6.mv htr193.rd
            replace hb := hb.trans htr193
            replace hj184 := (hj184.trans htr193).weak (J' := (fun _ => false)) (by intro t h; simp [rng] at h ⊢ <;> omega) rfl rfl
            refine sr_evg (b := false) (e := 37) rfl rfl hg181 (v := .bool (y189 != 1)) (ev_ne rfl rfl) (by decide) ?_
            refine sr_ev (v := .bool (y189 != 1)) (ev_pick_f rfl hg181 rfl) (by decide) ?_
            exact sr_weaken (l' := [(1, .pointer (some ⟨g7, 0, none⟩)), (5, .pointer (some ⟨g28, 0, none⟩)), (16, v33), (17, .int .i64 2), (18, .int .i64 1), (45, .bool (y189 != 1))]) (.cons rfl (.cons rfl (.cons rfl (.cons rfl (.cons rfl (.cons rfl (.nil _))))))) (K182 (y189 != 1) _ ⟨(Option.some.inj hS).symm, _, hj184⟩)
         ·intro K162
          clear hS
          have hj164 : Tr ρ155 w159 (fun t => ([100, 101] : List Nat).contains t) ρ155 w159 := (Tr.refl hb.bd).weak (fun _ _ => rfl) rfl rfl
          rcases Bool.eq_false_or_eq_true y145.2 with hg161 | hg161
          ·have hS := ite_true' hz165 hg161
           refine sr_pass (e := 30) rfl rfl (by rw [hg161]; rfl) (by decide) ?_
           refine sr_pass (e := 30) rfl rfl (by rw [hg161]; rfl) (by decide) ?_
           refine sr_pass (e := 30) rfl rfl (by rw [hg161]; rfl) (by decide) ?_
           refine sr_pass (e := 30) rfl rfl (by rw [hg161]; rfl) (by decide) ?_
           refine sr_pass (e := 30) rfl rfl (by rw [hg161]; rfl) (by decide) ?_
           refine sr_ev (v := .bool true) (ev_pick_t rfl hg161 rfl) (by decide) ?_
           exact sr_weaken (l' := [(1, .pointer (some ⟨g7, 0, none⟩)), (5, .pointer (some ⟨g28, 0, none⟩)), (16, v33), (17, .int .i64 2), (18, .int .i64 1), (36, .bool true)]) (.cons rfl (.cons rfl (.cons rfl (.cons rfl (.cons rfl (.cons rfl (.nil _))))))) (K162 (true, (client_Clients.mk (none : GMap Str api_Client))) _ ⟨(Option.some.inj hS).symm, _, ⟨_, hB32, MapT.nil⟩, hj164⟩)
          ·have hS := ite_false' hz165 hg161
           refine sr_evg (b := false) (e := 30) rfl rfl hg161 (v := .pointer (some ⟨g28, 0, none⟩)) (ev_move rfl) (by decide) ?_
           refine sr_evg (b := false) (e := 30) rfl rfl hg161 (v := .pointer (some ⟨g7, 1, none⟩)) (ev_fieldAddr (i := 1) Tryz.underlying44 rfl Tryz.info27 rfl rfl) (by decide) ?_
           refine sr_evg (b := false) (e := 30) rfl rfl hg161 (v := .agg #[str o_0.Client.ID, .int .i64 o_0.Client.Kind, str o_0.Client.Tenant, str o_0.Client.Secret.Salt, .int .i64 o_0.Client.Secret.Rounds, str o_0.Client.Secret.Hash, v1, v3, str o_0.Client.Logout]) (ev_loads (cs := [str o_0.Client.ID, .int .i64 o_0.Client.Kind, str o_0.Client.Tenant, str o_0.Client.Secret.Salt, .int .i64 o_0.Client.Secret.Rounds, str o_0.Client.Secret.Hash, v1, v3, str o_0.Client.Logout]) Tryz.isAgg27 Tryz.sizeOf27 rfl (hB11.cells (vs := [str o_0.Client.ID, .int .i64 o_0.Client.Kind, str o_0.Client.Tenant, str o_0.Client.Secret.Salt, .int .i64 o_0.Client.Secret.Rounds, str o_0.Client.Secret.Hash, v1, v3, str o_0.Client.Logout]) rfl)) (by decide) ?_
           obtain ⟨y169, hy170, hS⟩ := bind_some' hS
           refine sr_callg (b := false) (e := 30) rfl rfl hg161 (vs := [.pointer (some ⟨g28, 0, none⟩), .agg #[str o_0.Client.ID, .int .i64 o_0.Client.Kind, str o_0.Client.Tenant, str o_0.Client.Secret.Salt, .int .i64 o_0.Client.Secret.Rounds, str o_0.Client.Secret.Hash, v1, v3, str o_0.Client.Logout]]) rfl Tryz.call17 rfl (client_Clients_Register_ok _ (hg.fr hz hb) (ρA := ρ155) hb.bd (hz.fr hg hb) (o := 100) (by decide) h2 h4 (⟨_, hB32, MapT.nil⟩ : client_Clients.O (fun p => 100 + p) ρ155 w159 g28 (client_Clients.mk (none : GMap Str api_Client))) hy170) (by decide) ?_
           rintro _ w171 ⟨ρ177, rfl, ⟨v174, hB176, h175⟩, htr173⟩
           replace h34 := h34.mv htr173.rd
           replace hB11 := hB11.mv (htr173.mv (i := 3) rfl)
           replace h2 := h2.mv htr173.rd
           replace h4 := h4.mv htr173.rd
           replace h6 := h6.mv htr173.rd
           replace hb := hb.trans htr173
           replace hj164 := (hj164.trans htr173).weak (J' := (fun t => ([100, 101] : List Nat).contains t)) (by intro t h; simp [rng] at h ⊢ <;> omega) rfl rfl
           replace hB176 : Blk ρ177 100 w171 g28 (.cells #[v174] 57 (0, 0)) := hB176
           replace h175 : MapT str api_Client.c true ρ177 101 w171 v174 y169.2.of_ := h175
           refine sr_evg (b := false) (e := 30) rfl rfl hg161 (v := .bool (y169.1 != 1)) (ev_ne rfl rfl) (by decide) ?_
           refine sr_ev (v := .bool (y169.1 != 1)) (ev_pick_f rfl hg161 rfl) (by decide) ?_
           exact sr_weaken (l' := [(1, .pointer (some ⟨g7, 0, none⟩)), (5, .pointer (some ⟨g28, 0, none⟩)), (16, v33), (17, .int .i64 2), (18, .int .i64 1), (36, .bool (y169.1 != 1))]) (.cons rfl (.cons rfl (.cons rfl (.cons rfl (.cons rfl (.cons rfl (.nil _))))))) (K162 (y169.1 != 1, y169.2) _ ⟨(Option.some.inj hS).symm, _, ⟨_, hB176, h175⟩, hj164⟩)
       ·intro K125
        clear hS
        have hj127 : Tr ρ117 w116 (fun _ => false) ρ117 w116 := (Tr.refl hb.bd).weak (fun _ _ => rfl) rfl rfl
        rcases Bool.eq_false_or_eq_true z113 with hg124 | hg124
        ·have hS := ite_true' hz128 hg124
         refine sr_pass (e := 70) rfl rfl (by rw [hg124]; rfl) (by decide) ?_
         refine sr_pass (e := 70) rfl rfl (by rw [hg124]; rfl) (by decide) ?_
         refine sr_pass (e := 70) rfl rfl (by rw [hg124]; rfl) (by decide) ?_
         refine sr_pass (e := 70) rfl rfl (by rw [hg124]; rfl) (by decide) ?_
         refine sr_ev (v := .bool true) (ev_pick_t rfl hg124 rfl) (by decide) ?_
         exact sr_weaken (l' := [(1, .pointer (some ⟨g7, 0, none⟩)), (16, v33), (17, .int .i64 2), (18, .int .i64 0), (75, .bool true)]) (.cons rfl (.cons rfl (.cons rfl (.cons rfl (.cons rfl (.nil _)))))) (K125 true _ ⟨(Option.some.inj hS).symm, _, hj127⟩)
        ·have hS := ite_false' hz128 hg124
         refine sr_evg (b := false) (e := 70) rfl rfl hg124 (v := .pointer none) (ev_move rfl) (by decide) ?_
         obtain ⟨y132, hy133, hS⟩ := bind_some' hS
         refine sr_callg (b := false) (e := 70) rfl rfl hg124 (vs := [.pointer none]) rfl Tryz.call35 rfl (client_Clients_List__nil_ok _ (hg.fr hz hb) (ρA := ρ117) hb.bd (hz.fr hg hb) hy133) (by decide) ?_
         rintro v137 w134 ⟨_, rfl, h138, hbw135⟩
         have htr136 := Tr.of_below hbw135 hb.bd
         replace h34 := h34.mv htr136.rd
         replace hB32 := hB32.mv (htr136.mv (i := 100) rfl)
         replace hB11 := hB11.mv (htr136.mv (i := 3) rfl)
         replace h2 := h2.mv htr136.rd
         replace h4 := h4.mv htr136.rd
         replace h6 := h6.mv htr136.rd
         replace hb := hb.trans htr136
         replace hj127 := (hj127.trans htr136).weak (J' := (fun _ => false)) (by intro t h; simp [rng] at h ⊢ <;> omega) rfl rfl
         refine sr_evg (b := false) (e := 70) rfl rfl hg124 (v := .int .i64 (y132.length : Int)) (ev_sllenW Tryz.underlying25 rfl h138.asSl) (by decide) ?_
         refine sr_evg (b := false) (e := 70) rfl rfl hg124 (v := .bool ((y132.length : Int) != 0)) (ev_ne rfl rfl) (by decide) ?_
         refine sr_ev (v := .bool ((y132.length : Int) != 0)) (ev_pick_f rfl hg124 rfl) (by decide) ?_
         exact sr_weaken (l' := [(1, .pointer (some ⟨g7, 0, none⟩)), (16, v33), (17, .int .i64 2), (18, .int .i64 0), (75, .bool ((y132.length : Int) != 0))]) (.cons rfl (.cons rfl (.cons rfl (.cons rfl (.cons rfl (.nil _)))))) (K125 ((y132.length : Int) != 0) _ ⟨(Option.some.inj hS).symm, _, hj127⟩)
      ·intro K112
       clear hS
       have hj114 : Tr ρ104 w103 (fun _ => false) ρ104 w103 := (Tr.refl hb.bd).weak (fun _ _ => rfl) rfl rfl
       rcases Bool.eq_false_or_eq_true z100 with hg111 | hg111
       ·have hS := ite_true' hz115 hg111
        refine sr_pass (e := 64) rfl rfl (by rw [hg111]; rfl) (by decide) ?_
        refine sr_pass (e := 64) rfl rfl (by rw [hg111]; rfl) (by decide) ?_
        refine sr_pass (e := 64) rfl rfl (by rw [hg111]; rfl) (by decide) ?_
        refine sr_pass (e := 64) rfl rfl (by rw [hg111]; rfl) (by decide) ?_
        refine sr_ev (v := .bool true) (ev_pick_t rfl hg111 rfl) (by decide) ?_
        exact sr_weaken (l' := [(1, .pointer (some ⟨g7, 0, none⟩)), (5, .pointer none), (16, v33), (17, .int .i64 2), (18, .int .i64 0), (69, .bool true)]) (.cons rfl (.cons rfl (.cons rfl (.cons rfl (.cons rfl (.cons rfl (.nil _))))))) (K112 true _ ⟨(Option.some.inj hS).symm, _, hj114⟩)
       ·have hS := ite_false' hz115 hg111
        refine sr_evg (b := false) (e := 64) rfl rfl hg111 (v := .pointer none) (ev_move rfl) (by decide) ?_
        refine sr_evg (b := false) (e := 64) rfl rfl hg111 (v := .pointer (some ⟨g7, 10, none⟩)) (ev_fieldAddr (i := 2) Tryz.underlying44 rfl Tryz.info9 rfl rfl) (by decide) ?_
        refine sr_evg (b := false) (e := 64) rfl rfl hg111 (v := str o_0.ID) (ev_load Tryz.isAgg9 rfl (hB11.cell rfl)) (by decide) ?_
        obtain ⟨y119, hy120, hS⟩ := bind_some' hS
        refine sr_callg (b := false) (e := 64) rfl rfl hg111 (vs := [.pointer none, str o_0.ID]) rfl Tryz.call32 rfl (client_Clients_Remove__nil_ok _ (hg.fr hz hb) (ρA := ρ104) hb.bd (hz.fr hg hb) hy120) (by decide) ?_
        rintro _ w121 ⟨rfl, hbw122⟩
        have htr123 := Tr.of_below hbw122 hb.bd
        replace h34 := h34.mv htr123.rd
        replace hB32 := hB32.mv (htr123.mv (i := 100) rfl)
        replace hB11 := hB11.mv (htr123.mv (i := 3) rfl)
        replace h2 := h2.mv htr123.rd
        replace h4 := h4.mv htr123.rd
        replace h6 := h6.mv htr123.rd
        replace hb := hb.trans htr123
        replace hj114 := (hj114.trans htr123).weak (J' := (fun _ => false)) (by intro t h; simp [rng] at h ⊢ <;> omega) rfl rfl
        refine sr_ev (v := .bool y119) (ev_pick_f rfl hg111 rfl) (by decide) ?_
        exact sr_weaken (l' := [(1, .pointer (some ⟨g7, 0, none⟩)), (5, .pointer none), (16, v33), (17, .int .i64 2), (18, .int .i64 0), (69, .bool y119)]) (.cons rfl (.cons rfl (.cons rfl (.cons rfl (.cons rfl (.cons rfl (.nil _))))))) (K112 y119 _ ⟨(Option.some.inj hS).symm, _, hj114⟩)
     ·intro K99
      clear hS
      have hj101 : Tr ρ91 w90 (fun _ => false) ρ91 w90 := (Tr.refl hb.bd).weak (fun _ _ => rfl) rfl rfl
      rcases Bool.eq_false_or_eq_true z87 with hg98 | hg98
      ·have hS := ite_true' hz102 hg98
       refine sr_pass (e := 55) rfl rfl (by rw [hg98]; rfl) (by decide) ?_
       refine sr_pass (e := 55) rfl rfl (by rw [hg98]; rfl) (by decide) ?_
       refine sr_pass (e := 55) rfl rfl (by rw [hg98]; rfl) (by decide) ?_
       refine sr_pass (e := 55) rfl rfl (by rw [hg98]; rfl) (by decide) ?_
       refine sr_pass (e := 55) rfl rfl (by rw [hg98]; rfl) (by decide) ?_
       refine sr_pass (e := 55) rfl rfl (by rw [hg98]; rfl) (by decide) ?_
       refine sr_pass (e := 55) rfl rfl (by rw [hg98]; rfl) (by decide) ?_
       refine sr_ev (v := .bool true) (ev_pick_t rfl hg98 rfl) (by decide) ?_
       exact sr_weaken (l' := [(1, .pointer (some ⟨g7, 0, none⟩)), (5, .pointer none), (16, v33), (17, .int .i64 2), (18, .int .i64 0), (63, .bool true)]) (.cons rfl (.cons rfl (.cons rfl (.cons rfl (.cons rfl (.cons rfl (.nil _))))))) (K99 true _ ⟨(Option.some.inj hS).symm, _, hj101⟩)
      ·have hS := ite_false' hz102 hg98
       refine sr_evg (b := false) (e := 55) rfl rfl hg98 (v := .pointer none) (ev_move rfl) (by decide) ?_
       refine sr_evg (b := false) (e := 55) rfl rfl hg98 (v := .pointer (some ⟨g7, 10, none⟩)) (ev_fieldAddr (i := 2) Tryz.underlying44 rfl Tryz.info9 rfl rfl) (by decide) ?_
       refine sr_evg (b := false) (e := 55) rfl rfl hg98 (v := str o_0.ID) (ev_load Tryz.isAgg9 rfl (hB11.cell rfl)) (by decide) ?_
       refine sr_evg (b := false) (e := 55) rfl rfl hg98 (v := .pointer (some ⟨g7, 12, none⟩)) (ev_fieldAddr (i := 4) Tryz.underlying44 rfl Tryz.info25 rfl rfl) (by decide) ?_
       refine sr_evg (b := false) (e := 55) rfl rfl hg98 (v := v5) (ev_load Tryz.isAgg25 rfl (hB11.cell rfl)) (by decide) ?_
       obtain ⟨y106, hy107, hS⟩ := bind_some' hS
       refine sr_callg (b := false) (e := 55) rfl rfl hg98 (vs := [.pointer none, str o_0.ID, v5]) rfl Tryz.call19 rfl (client_Clients_Allowed__nil_ok _ (hg.fr hz hb) (ρA := ρ91) hb.bd (hz.fr hg hb) h6 hy107) (by decide) ?_
       rintro _ w108 ⟨rfl, hbw109⟩
       have htr110 := Tr.of_below hbw109 hb.bd
       replace h34 := h34.mv htr110.rd
       replace hB32 := hB32.mv (htr110.mv (i := 100) rfl)
       replace hB11 := hB11.mv (htr110.mv (i := 3) rfl)
       replace h2 := h2.mv htr110.rd
       replace h4 := h4.mv htr110.rd
       replace h6 := h6.mv htr110.rd
       replace hb := hb.trans htr110
       replace hj101 := (hj101.trans htr110).weak (J' := (fun _ => false)) (by intro t h; simp [rng] at h ⊢ <;> omega) rfl rfl
       refine sr_evg (b := false) (e := 55) rfl rfl hg98 (v := .bool (y106 != 1)) (ev_ne rfl rfl) (by decide) ?_
       refine sr_ev (v := .bool (y106 != 1)) (ev_pick_f rfl hg98 rfl) (by decide) ?_
       exact sr_weaken (l' := [(1, .pointer (some ⟨g7, 0, none⟩)), (5, .pointer none), (16, v33), (17, .int .i64 2), (18, .int .i64 0), (63, .bool (y106 != 1))]) (.cons rfl (.cons rfl (.cons rfl (.cons rfl (.cons rfl (.cons rfl (.nil _))))))) (K99 (y106 != 1) _ ⟨(Option.some.inj hS).symm, _, hj101⟩)
    ·intro K86
     clear hS
     have hj88 : Tr ρ78 w77 (fun _ => false) ρ78 w77 := (Tr.refl hb.bd).weak (fun _ _ => rfl) rfl rfl
     rcases Bool.eq_false_or_eq_true z74 with hg85 | hg85
     ·have hS := ite_true' hz89 hg85
      refine sr_pass (e := 46) rfl rfl (by rw [hg85]; rfl) (by decide) ?_
      refine sr_pass (e := 46) rfl rfl (by rw [hg85]; rfl) (by decide) ?_
      refine sr_pass (e := 46) rfl rfl (by rw [hg85]; rfl) (by decide) ?_
      refine sr_pass (e := 46) rfl rfl (by rw [hg85]; rfl) (by decide) ?_
      refine sr_pass (e := 46) rfl rfl (by rw [hg85]; rfl) (by decide) ?_
      refine sr_pass (e := 46) rfl rfl (by rw [hg85]; rfl) (by decide) ?_
      refine sr_pass (e := 46) rfl rfl (by rw [hg85]; rfl) (by decide) ?_
      refine sr_ev (v := .bool true) (ev_pick_t rfl hg85 rfl) (by decide) ?_
      exact sr_weaken (l' := [(1, .pointer (some ⟨g7, 0, none⟩)), (5, .pointer none), (16, v33), (17, .int .i64 2), (18, .int .i64 0), (54, .bool true)]) (.cons rfl (.cons rfl (.cons rfl (.cons rfl (.cons rfl (.cons rfl (.nil _))))))) (K86 true _ ⟨(Option.some.inj hS).symm, _, hj88⟩)
     ·have hS := ite_false' hz89 hg85
      refine sr_evg (b := false) (e := 46) rfl rfl hg85 (v := .pointer none) (ev_move rfl) (by decide) ?_
      refine sr_evg (b := false) (e := 46) rfl rfl hg85 (v := .pointer (some ⟨g7, 10, none⟩)) (ev_fieldAddr (i := 2) Tryz.underlying44 rfl Tryz.info9 rfl rfl) (by decide) ?_
      refine sr_evg (b := false) (e := 46) rfl rfl hg85 (v := str o_0.ID) (ev_load Tryz.isAgg9 rfl (hB11.cell rfl)) (by decide) ?_
      refine sr_evg (b := false) (e := 46) rfl rfl hg85 (v := .pointer (some ⟨g7, 11, none⟩)) (ev_fieldAddr (i := 3) Tryz.underlying44 rfl Tryz.info9 rfl rfl) (by decide) ?_
      refine sr_evg (b := false) (e := 46) rfl rfl hg85 (v := str o_0.S) (ev_load Tryz.isAgg9 rfl (hB11.cell rfl)) (by decide) ?_
      obtain ⟨y93, hy94, hS⟩ := bind_some' hS
      refine sr_callg (b := false) (e := 46) rfl rfl hg85 (vs := [.pointer none, str o_0.ID, str o_0.S]) rfl Tryz.call29 rfl (client_Clients_Authenticate__nil_ok _ (hg.fr hz hb) (ρA := ρ78) hb.bd (hz.fr hg hb) hy94) (by decide) ?_
      rintro _ w95 ⟨rfl, hbw96⟩
      have htr97 := Tr.of_below hbw96 hb.bd
      replace h34 := h34.mv htr97.rd
      replace hB32 := hB32.mv (htr97.mv (i := 100) rfl)
      replace hB11 := hB11.mv (htr97.mv (i := 3) rfl)
      replace h2 := h2.mv htr97.rd
      replace h4 := h4.mv htr97.rd
      replace h6 := h6.mv htr97.rd
      replace hb := hb.trans htr97
      replace hj88 := (hj88.trans htr97).weak (J' := (fun _ => false)) (by intro t h; simp [rng] at h ⊢ <;> omega) rfl rfl
      refine sr_evg (b := false) (e := 46) rfl rfl hg85 (v := .bool (y93 != 1)) (ev_ne rfl rfl) (by decide) ?_
      refine sr_ev (v := .bool (y93 != 1)) (ev_pick_f rfl hg85 rfl) (by decide) ?_
      exact sr_weaken (l' := [(1, .pointer (some ⟨g7, 0, none⟩)), (5, .pointer none), (16, v33), (17, .int .i64 2), (18, .int .i64 0), (54, .bool (y93 != 1))]) (.cons rfl (.cons rfl (.cons rfl (.cons rfl (.cons rfl (.cons rfl (.nil _))))))) (K86 (y93 != 1) _ ⟨(Option.some.inj hS).symm, _, hj88⟩)
   ·intro K73
    clear hS
    have hj75 : Tr ρ65 w64 (fun _ => false) ρ65 w64 := (Tr.refl hb.bd).weak (fun _ _ => rfl) rfl rfl
    rcases Bool.eq_false_or_eq_true z61 with hg72 | hg72
    ·have hS := ite_true' hz76 hg72
     refine sr_pass (e := 37) rfl rfl (by rw [hg72]; rfl) (by decide) ?_
     refine sr_pass (e := 37) rfl rfl (by rw [hg72]; rfl) (by decide) ?_
     refine sr_pass (e := 37) rfl rfl (by rw [hg72]; rfl) (by decide) ?_
     refine sr_pass (e := 37) rfl rfl (by rw [hg72]; rfl) (by decide) ?_
     refine sr_pass (e := 37) rfl rfl (by rw [hg72]; rfl) (by decide) ?_
     refine sr_pass (e := 37) rfl rfl (by rw [hg72]; rfl) (by decide) ?_
     refine sr_pass (e := 37) rfl rfl (by rw [hg72]; rfl) (by decide) ?_
     refine sr_ev (v := .bool true) (ev_pick_t rfl hg72 rfl) (by decide) ?_
     exact sr_weaken (l' := [(1, .pointer (some ⟨g7, 0, none⟩)), (5, .pointer none), (16, v33), (17, .int .i64 2), (18, .int .i64 0), (45, .bool true)]) (.cons rfl (.cons rfl (.cons rfl (.cons rfl (.cons rfl (.cons rfl (.nil _))))))) (K73 true _ ⟨(Option.some.inj hS).symm, _, hj75⟩)
    ·have hS := ite_false' hz76 hg72
     refine sr_evg (b := false) (e := 37) rfl rfl hg72 (v := .pointer none) (ev_move rfl) (by decide) ?_
     refine sr_evg (b := false) (e := 37) rfl rfl hg72 (v := .pointer (some ⟨g7, 10, none⟩)) (ev_fieldAddr (i := 2) Tryz.underlying44 rfl Tryz.info9 rfl rfl) (by decide) ?_
     refine sr_evg (b := false) (e := 37) rfl rfl hg72 (v := str o_0.ID) (ev_load Tryz.isAgg9 rfl (hB11.cell rfl)) (by decide) ?_
     refine sr_evg (b := false) (e := 37) rfl rfl hg72 (v := .pointer (some ⟨g7, 11, none⟩)) (ev_fieldAddr (i := 3) Tryz.underlying44 rfl Tryz.info9 rfl rfl) (by decide) ?_
     refine sr_evg (b := false) (e := 37) rfl rfl hg72 (v := str o_0.S) (ev_load Tryz.isAgg9 rfl (hB11.cell rfl)) (by decide) ?_
     obtain ⟨y80, hy81, hS⟩ := bind_some' hS
     refine sr_callg (b := false) (e := 37) rfl rfl hg72 (vs := [.pointer none, str o_0.ID, str o_0.S]) rfl Tryz.call27 rfl (client_Clients_Redirect__nil_ok _ (hg.fr hz hb) (ρA := ρ65) hb.bd (hz.fr hg hb) hy81) (by decide) ?_
     rintro _ w82 ⟨rfl, hbw83⟩
     have htr84 := Tr.of_below hbw83 hb.bd
     replace h34 := h34.mv htr84.rd
     replace hB32 := hB32.mv (htr84.mv (i := 100) rfl)
     replace hB11 := hB11.mv (htr84.mv (i := 3) rfl)
     replace h2 := h2.mv htr84.rd
     replace h4 := h4.mv htr84.rd
     replace h6 := h6.mv htr84.rd
     replace hb := hb.trans htr84
     replace hj75 := (hj75.trans htr84).weak (J' := (fun _ => false)) (by intro t h; simp [rng] at h ⊢ <;> omega) rfl rfl
     refine sr_evg (b := false) (e := 37) rfl rfl hg72 (v := .bool (y80 != 1)) (ev_ne rfl rfl) (by decide) ?_
     refine sr_ev (v := .bool (y80 != 1)) (ev_pick_f rfl hg72 rfl) (by decide) ?_
     exact sr_weaken (l' := [(1, .pointer (some ⟨g7, 0, none⟩)), (5, .pointer none), (16, v33), (17, .int .i64 2), (18, .int .i64 0), (45, .bool (y80 != 1))]) (.cons rfl (.cons rfl (.cons rfl (.cons rfl (.cons rfl (.cons rfl (.nil _))))))) (K73 (y80 != 1) _ ⟨(Option.some.inj hS).symm, _, hj75⟩)
  ·intro K60
   clear hS
   have hj62 : Tr ρ53 w57 (fun _ => false) ρ53 w57 := (Tr.refl hb.bd).weak (fun _ _ => rfl) rfl rfl
   rcases Bool.eq_false_or_eq_true y43.2 with hg59 | hg59
   ·have hS := ite_true' hz63 hg59
    refine sr_pass (e := 30) rfl rfl (by rw [hg59]; rfl) (by decide) ?_
    refine sr_pass (e := 30) rfl rfl (by rw [hg59]; rfl) (by decide) ?_
    refine sr_pass (e := 30) rfl rfl (by rw [hg59]; rfl) (by decide) ?_
    refine sr_pass (e := 30) rfl rfl (by rw [hg59]; rfl) (by decide) ?_
    refine sr_pass (e := 30) rfl rfl (by rw [hg59]; rfl) (by decide) ?_
    refine sr_ev (v := .bool true) (ev_pick_t rfl hg59 rfl) (by decide) ?_
    exact sr_weaken (l' := [(1, .pointer (some ⟨g7, 0, none⟩)), (5, .pointer none), (16, v33), (17, .int .i64 2), (18, .int .i64 0), (36, .bool true)]) (.cons rfl (.cons rfl (.cons rfl (.cons rfl (.cons rfl (.cons rfl (.nil _))))))) (K60 true _ ⟨(Option.some.inj hS).symm, _, hj62⟩)
   ·have hS := ite_false' hz63 hg59
    refine sr_evg (b := false) (e := 30) rfl rfl hg59 (v := .pointer none) (ev_move rfl) (by decide) ?_
    refine sr_evg (b := false) (e := 30) rfl rfl hg59 (v := .pointer (some ⟨g7, 1, none⟩)) (ev_fieldAddr (i := 1) Tryz.underlying44 rfl Tryz.info27 rfl rfl) (by decide) ?_
    refine sr_evg (b := false) (e := 30) rfl rfl hg59 (v := .agg #[str o_0.Client.ID, .int .i64 o_0.Client.Kind, str o_0.Client.Tenant, str o_0.Client.Secret.Salt, .int .i64 o_0.Client.Secret.Rounds, str o_0.Client.Secret.Hash, v1, v3, str o_0.Client.Logout]) (ev_loads (cs := [str o_0.Client.ID, .int .i64 o_0.Client.Kind, str o_0.Client.Tenant, str o_0.Client.Secret.Salt, .int .i64 o_0.Client.Secret.Rounds, str o_0.Client.Secret.Hash, v1, v3, str o_0.Client.Logout]) Tryz.isAgg27 Tryz.sizeOf27 rfl (hB11.cells (vs := [str o_0.Client.ID, .int .i64 o_0.Client.Kind, str o_0.Client.Tenant, str o_0.Client.Secret.Salt, .int .i64 o_0.Client.Secret.Rounds, str o_0.Client.Secret.Hash, v1, v3, str o_0.Client.Logout]) rfl)) (by decide) ?_
    obtain ⟨y67, hy68, hS⟩ := bind_some' hS
    refine sr_callg (b := false) (e := 30) rfl rfl hg59 (vs := [.pointer none, .agg #[str o_0.Client.ID, .int .i64 o_0.Client.Kind, str o_0.Client.Tenant, str o_0.Client.Secret.Salt, .int .i64 o_0.Client.Secret.Rounds, str o_0.Client.Secret.Hash, v1, v3, str o_0.Client.Logout]]) rfl Tryz.call17 rfl (client_Clients_Register__nil_ok _ (hg.fr hz hb) (ρA := ρ53) hb.bd (hz.fr hg hb) h2 h4 hy68) (by decide) ?_
    rintro _ w69 ⟨rfl, hbw70⟩
    have htr71 := Tr.of_below hbw70 hb.bd
    replace h34 := h34.mv htr71.rd
    replace hB32 := hB32.mv (htr71.mv (i := 100) rfl)
    replace hB11 := hB11.mv (htr71.mv (i := 3) rfl)
    replace h2 := h2.mv htr71.rd
    replace h4 := h4.mv htr71.rd
    replace h6 := h6.mv htr71.rd
    replace hb := hb.trans htr71
    replace hj62 := (hj62.trans htr71).weak (J' := (fun _ => false)) (by intro t h; simp [rng] at h ⊢ <;> omega) rfl rfl
    refine sr_evg (b := false) (e := 30) rfl rfl hg59 (v := .bool (y67 != 1)) (ev_ne rfl rfl) (by decide) ?_
    refine sr_ev (v := .bool (y67 != 1)) (ev_pick_f rfl hg59 rfl) (by decide) ?_
    exact sr_weaken (l' := [(1, .pointer (some ⟨g7, 0, none⟩)), (5, .pointer none), (16, v33), (17, .int .i64 2), (18, .int .i64 0), (36, .bool (y67 != 1))]) (.cons rfl (.cons rfl (.cons rfl (.cons rfl (.cons rfl (.cons rfl (.nil _))))))) (K60 (y67 != 1) _ ⟨(Option.some.inj hS).symm, _, hj62⟩)
end YtmdbnoopcdpomaaGreatDoor
end Go.Proofs
