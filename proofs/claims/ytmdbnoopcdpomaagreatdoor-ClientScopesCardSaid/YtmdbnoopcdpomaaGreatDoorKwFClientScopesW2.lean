/- Own work: a part of the proofs of this seat. -/
import Derived.Test.YtmdbnoopcdpomaaGreatDoorProg
import Derived.Test.YtmdbnoopcdpomaaGreatDoorShelf
import Derived.Test.YtmdbnoopcdpomaaGreatDoorIter
import Derived.Test.YtmdbnoopcdpomaaGreatDoorKwFS
import Derived.KernelRfl
import Derived.Test.YtmdbnoopcdpomaaGreatDoorKwFClientScopesW1
set_option linter.unusedVariables false
set_option linter.unusedSimpArgs false
set_option linter.unusedSectionVars false
set_option maxHeartbeats 8000000
set_option maxRecDepth 8000
namespace Go.Proofs
namespace YtmdbnoopcdpomaaGreatDoor
open Go Go.KW Go.KW.S Go.RowKit
theorem secret_Check_ok (w0 : World) (hg : Gs w0) {v_0 : api_Verifier} {password_1 : Str} {r : Bool} (hS : secret_Check v_0 password_1 = some r) :
  Calls Tryz.prog 40 #[.agg #[str v_0.Salt, .int .i64 v_0.Rounds, str v_0.Hash], str password_1] w0 (Ret (fun v w' => v = .bool r ∧ Below w0.heap.size w0 w')) := by
 unfold secret_Check at hS
 have hb := Below.refl w0.heap.size w0
 obtain ⟨A0, hA0, hAe⟩ : ∃ A0 : Nat → Prop, (∀ b, A0 b → b < w0.heap.size) ∧ A0 = fun _ => False := ⟨_, fun _ h => h.elim, rfl⟩
 clear hAe
 have hA := hA0
 have hi : ∀ b, A0 b → A0 b := fun _ h => h
 have hH := Hp.nil A0 w0.heap.size w0
 refine calls_of_ke Tryz.func40 rfl (n := 22) rfl rfl (l := [(0, .agg #[str v_0.Salt, .int .i64 v_0.Rounds, str v_0.Hash]), (1, str password_1)]) rfl ?_
 refine ke_seq ?_
 refine ke_region ?_
 refine sr_box hH hb.size hA rfl (by decide) ?_
 intro g1 A2 w3 hH1 hst4 hbw5 hinc6 hA1 hge7
 replace hb := hb.trans (hbw5.mono hb.size)
 replace hi := fun b hb => hinc6 b (hi b hb)
 replace hH : Hp A2 w0.heap.size w3 [(g1, .cells #[str v_0.Salt, .int .i64 v_0.Rounds, str v_0.Hash] 24 (0, 0))] := hH1
 replace hA := hA1
 clear hH1 hA1
 refine sr_ev (v := .bool false) (ev_assign rfl) (by decide) ?_
 refine sr_end (l' := [(1, str password_1), (2, .pointer (some ⟨g1, 0, none⟩))]) (.cons rfl (.cons rfl (.nil _))) ?_
 refine ke_seq ?_
 refine ke_region_q Tryz.mixed (by kernel_rfl) ?_
 refine sq_ev (v := .agg #[str v_0.Salt, .int .i64 v_0.Rounds, str v_0.Hash]) (fun w1 hw1 => ev_loads Tryz.isAgg24 Tryz.sizeOf24 rfl ((hH.below hw1).cells (i := 0) (vs := [str v_0.Salt, .int .i64 v_0.Rounds, str v_0.Hash]) rfl rfl)) (by decide) ?_
 obtain ⟨y10, hy11, hS⟩ := bind_some' hS
 refine sq_call (v := .bool y10) (vs := [.agg #[str v_0.Salt, .int .i64 v_0.Rounds, str v_0.Hash]]) rfl Tryz.call66 rfl (fun w1 hw1 => (secret_Valid_ok _ (hg.below (hb.trans (hw1.mono hb.size))) hy11)) (by decide) ?_
 refine sq_ev (v := .bool y10) (fun w1 hw1 => ev_move rfl) (by decide) ?_
 obtain ⟨z16, hz18, hS⟩ := bind_some' hS
 refine sq_join (m := 3) (C := fun (x : Bool) => z16 = x) (l' := fun x => [(1, str password_1), (2, .pointer (some ⟨g1, 0, none⟩)), (10, .bool x)]) ?_ ?_
 ·rintro _ rfl
  refine sq_ev (v := .bool z16) (fun w1 hw1 => ev_move rfl) (by decide) ?_
  obtain ⟨z27, hz29, hS⟩ := bind_some' hS
  refine sq_join (m := 10) (C := fun (x : Bool) => z27 = x) (l' := fun x => [(21, .bool x)]) ?_ ?_
  ·rintro _ rfl
   refine sq_ev (v := .bool z27) (fun w1 hw1 => ev_assign rfl) (by decide) ?_
   refine sq_end (l' := [(4, .bool z27)]) (.cons rfl (.nil _)) (fun w9 hw8 => ?_)
   replace hb := hb.trans (hw8.mono hb.size)
   replace hA := lt_mono hA hw8.size
   replace hH := hH.below hw8
   cases hS
   exact ke_ret1 Tryz.func40 rfl rfl ⟨_, rfl, rfl, hb⟩
  ·intro K26
   clear hS
   rcases Bool.eq_false_or_eq_true z16 with hg25 | hg25
   ·have hS := ite_true' hz29 hg25
    refine sq_evg (b := true) (e := 11) rfl rfl hg25 (v := .pointer (some ⟨g1, 2, none⟩)) (fun w1 hw1 => ev_fieldAddr (i := 2) Tryz.underlying24 rfl Tryz.info9 rfl rfl) (by decide) ?_
    refine sq_evg (b := true) (e := 11) rfl rfl hg25 (v := str v_0.Hash) (fun w1 hw1 => ev_load Tryz.isAgg9 rfl ((hH.below hw1).cell (i := 0) rfl rfl)) (by decide) ?_
    refine sq_evg (b := true) (e := 11) rfl rfl hg25 (v := .pointer (some ⟨g1, 0, none⟩)) (fun w1 hw1 => ev_fieldAddr (i := 0) Tryz.underlying24 rfl Tryz.info9 rfl rfl) (by decide) ?_
    refine sq_evg (b := true) (e := 11) rfl rfl hg25 (v := str v_0.Salt) (fun w1 hw1 => ev_load Tryz.isAgg9 rfl ((hH.below hw1).cell (i := 0) rfl rfl)) (by decide) ?_
    refine sq_evg (b := true) (e := 11) rfl rfl hg25 (v := str password_1) (fun w1 hw1 => ev_move rfl) (by decide) ?_
    refine sq_evg (b := true) (e := 11) rfl rfl hg25 (v := .pointer (some ⟨g1, 1, none⟩)) (fun w1 hw1 => ev_fieldAddr (i := 1) Tryz.underlying24 rfl Tryz.info3 rfl rfl) (by decide) ?_
    refine sq_evg (b := true) (e := 11) rfl rfl hg25 (v := .int .i64 v_0.Rounds) (fun w1 hw1 => ev_load Tryz.isAgg3 rfl ((hH.below hw1).cell (i := 0) rfl rfl)) (by decide) ?_
    obtain ⟨y32, hy33, hS⟩ := bind_some' hS
    refine sq_callg (b := true) (e := 11) rfl rfl hg25 (v := str y32) (vs := [str v_0.Salt, str password_1, .int .i64 v_0.Rounds]) rfl Tryz.call65 rfl (fun w1 hw1 => (digest_Iterate_ok _ (hg.below (hb.trans (hw1.mono hb.size))) hy33)) (by decide) ?_
    refine sq_evg (b := true) (e := 11) rfl rfl hg25 (v := .bool (v_0.Hash == y32)) (fun w1 hw1 => ev_seq rfl rfl) (by decide) ?_
    refine sq_ev (v := .bool (v_0.Hash == y32)) (fun w1 hw1 => ev_pick_t rfl hg25 rfl) (by decide) ?_
    exact sq_weaken (l' := [(21, .bool (v_0.Hash == y32))]) (.cons rfl (.nil _)) (K26 (v_0.Hash == y32) (Option.some.inj hS).symm)
   ·have hS := ite_false' hz29 hg25
    refine sq_pass (e := 11) rfl rfl (by rw [hg25]; rfl) (by decide) ?_
    refine sq_pass (e := 11) rfl rfl (by rw [hg25]; rfl) (by decide) ?_
    refine sq_pass (e := 11) rfl rfl (by rw [hg25]; rfl) (by decide) ?_
    refine sq_pass (e := 11) rfl rfl (by rw [hg25]; rfl) (by decide) ?_
    refine sq_pass (e := 11) rfl rfl (by rw [hg25]; rfl) (by decide) ?_
    refine sq_pass (e := 11) rfl rfl (by rw [hg25]; rfl) (by decide) ?_
    refine sq_pass (e := 11) rfl rfl (by rw [hg25]; rfl) (by decide) ?_
    refine sq_pass (e := 11) rfl rfl (by rw [hg25]; rfl) (by decide) ?_
    refine sq_pass (e := 11) rfl rfl (by rw [hg25]; rfl) (by decide) ?_
    refine sq_ev (v := .bool false) (fun w1 hw1 => ev_pick_f rfl hg25 rfl) (by decide) ?_
    exact sq_weaken (l' := [(21, .bool false)]) (.cons rfl (.nil _)) (K26 false (Option.some.inj hS).symm)
 ·intro K15
  clear hS
  rcases Bool.eq_false_or_eq_true y10 with hg14 | hg14
  ·have hS := ite_true' hz18 hg14
   refine sq_evg (b := true) (e := 7) rfl rfl hg14 (v := str password_1) (fun w1 hw1 => ev_move rfl) (by decide) ?_
   obtain ⟨y21, hy22, hS⟩ := bind_some' hS
   refine sq_callg (b := true) (e := 7) rfl rfl hg14 (v := .bool y21) (vs := [str password_1]) rfl Tryz.call64 rfl (fun w1 hw1 => (secret_isPassword_ok _ (hg.below (hb.trans (hw1.mono hb.size))) hy22)) (by decide) ?_
   refine sq_ev (v := .bool y21) (fun w1 hw1 => ev_pick_t rfl hg14 rfl) (by decide) ?_
   exact sq_weaken (l' := [(1, str password_1), (2, .pointer (some ⟨g1, 0, none⟩)), (10, .bool y21)]) (.cons rfl (.cons rfl (.cons rfl (.nil _)))) (K15 y21 (Option.some.inj hS).symm)
  ·have hS := ite_false' hz18 hg14
   refine sq_pass (e := 7) rfl rfl (by rw [hg14]; rfl) (by decide) ?_
   refine sq_pass (e := 7) rfl rfl (by rw [hg14]; rfl) (by decide) ?_
   refine sq_ev (v := .bool false) (fun w1 hw1 => ev_pick_f rfl hg14 rfl) (by decide) ?_
   exact sq_weaken (l' := [(1, str password_1), (2, .pointer (some ⟨g1, 0, none⟩)), (10, .bool false)]) (.cons rfl (.cons rfl (.cons rfl (.nil _)))) (K15 false (Option.some.inj hS).symm)
theorem client_accepts_ok (w0 : World) (hg : Gs w0) {ρA : Tags} (hbd : ∀ b, ρA b ≠ 0 → b < w0.heap.size) (hz : Gz ρA) {c_0 : api_Client} {s_1 : Str} {v1 : Value} {v3 : Value} {r : Bool} (h2 : SlR strC (Wb ρA) w0 v1 c_0.Redirects) (h4 : SlR strC (Wb ρA) w0 v3 c_0.Scopes) (hS : client_accepts c_0 s_1 = some r) :
  Calls Tryz.prog 59 #[.agg #[str c_0.ID, .int .i64 c_0.Kind, str c_0.Tenant, str c_0.Secret.Salt, .int .i64 c_0.Secret.Rounds, str c_0.Secret.Hash, v1, v3, str c_0.Logout], str s_1] w0 (Ret (fun v w' => v = .bool r ∧ Below w0.heap.size w0 w')) := by
 unfold client_accepts at hS
 have hb := flat1_fr (ρ := ρA) (w := w0) hbd
 have hz := hz.flat1
 replace h2 := SlR.mv h2 flat1_rd
 replace h4 := SlR.mv h4 flat1_rd
 refine calls_of_ke Tryz.func59 rfl (n := 14) rfl rfl (l := [(0, .agg #[str c_0.ID, .int .i64 c_0.Kind, str c_0.Tenant, str c_0.Secret.Salt, .int .i64 c_0.Secret.Rounds, str c_0.Secret.Hash, v1, v3, str c_0.Logout]), (1, str s_1)]) rfl ?_
 refine ke_seq ?_
 refine ke_region ?_
 refine sr_boxT 4 (by decide) hb.bd rfl (by decide) ?_
 intro g5 ρ6 w7 hB9 htr8
 replace h2 := h2.mv htr8.rd
 replace h4 := h4.mv htr8.rd
 replace hb := hb.trans htr8
 replace hB9 : Blk ρ6 4 w7 g5 (.cells #[str c_0.ID, .int .i64 c_0.Kind, str c_0.Tenant, str c_0.Secret.Salt, .int .i64 c_0.Secret.Rounds, str c_0.Secret.Hash, v1, v3, str c_0.Logout] 27 (0, 0)) := hB9
 refine sr_ev (v := .bool false) (ev_assign rfl) (by decide) ?_
 refine sr_end (l' := [(1, str s_1), (2, .pointer (some ⟨g5, 0, none⟩))]) (.cons rfl (.cons rfl (.nil _))) ?_
 refine ke_seq ?_
 refine ke_seq ?_
 refine ke_region ?_
 refine sr_ev (v := .pointer (some ⟨g5, 1, none⟩)) (ev_fieldAddr (i := 1) Tryz.underlying27 rfl Tryz.info22 rfl rfl) (by decide) ?_
 refine sr_ev (v := .int .i64 c_0.Kind) (ev_load Tryz.isAgg22 rfl (hB9.cell rfl)) (by decide) ?_
 refine sr_ev (v := .bool (c_0.Kind == 1)) (ev_eq rfl rfl) (by decide) ?_
 refine sr_end (l' := [(1, str s_1), (2, .pointer (some ⟨g5, 0, none⟩)), (7, .bool (c_0.Kind == 1))]) (.cons rfl (.cons rfl (.cons rfl (.nil _)))) ?_
 refine ke_cond (t := c_0.Kind == 1) rfl (fun hc10 => ?_) (fun hc10 => ?_)
 ·replace hS := ite_true' hS hc10
  refine ke_seq ?_
  refine ke_region ?_
  refine sr_ev (v := str s_1) (ev_move rfl) (by decide) ?_
  refine sr_ev (v := .bool (s_1 == ([]))) (ev_seq rfl rfl) (by decide) ?_
  refine sr_ev (v := .bool (s_1 == ([]))) (ev_assign rfl) (by decide) ?_
  refine sr_end (l' := [(4, .bool (s_1 == ([])))]) (.cons rfl (.nil _)) ?_
  cases hS
  exact ke_ret1 Tryz.func59 rfl rfl ⟨_, rfl, rfl, (hb.below (flat1_le _))⟩
 ·replace hS := ite_false' hS hc10
  refine ke_skip ?_
  refine ke_seq ?_
  refine ke_region ?_
  refine sr_ev (v := .pointer (some ⟨g5, 3, none⟩)) (ev_fieldAddr (i := 3) Tryz.underlying27 rfl Tryz.info24 rfl rfl) (by decide) ?_
  refine sr_ev (v := .agg #[str c_0.Secret.Salt, .int .i64 c_0.Secret.Rounds, str c_0.Secret.Hash]) (ev_loads (cs := [str c_0.Secret.Salt, .int .i64 c_0.Secret.Rounds, str c_0.Secret.Hash]) Tryz.isAgg24 Tryz.sizeOf24 rfl (hB9.cells (vs := [str c_0.Secret.Salt, .int .i64 c_0.Secret.Rounds, str c_0.Secret.Hash]) rfl)) (by decide) ?_
  refine sr_ev (v := str s_1) (ev_move rfl) (by decide) ?_
  obtain ⟨y11, hy12, hS⟩ := bind_some' hS
  refine sr_call (vs := [.agg #[str c_0.Secret.Salt, .int .i64 c_0.Secret.Rounds, str c_0.Secret.Hash], str s_1]) rfl Tryz.call40 rfl (secret_Check_ok _ (hg.fr hz hb) hy12) (by decide) ?_
  rintro _ w13 ⟨rfl, hbw14⟩
  have htr15 := Tr.of_below hbw14 hb.bd
  replace hb := hb.trans htr15
  refine sr_ev (v := .bool y11) (ev_assign rfl) (by decide) ?_
  refine sr_end (l' := [(4, .bool y11)]) (.cons rfl (.nil _)) ?_
  cases hS
  exact ke_ret1 Tryz.func59 rfl rfl ⟨_, rfl, rfl, (hb.below (flat1_le _))⟩
theorem client_Clients_Authenticate_ok (w0 : World) (hg : Gs w0) {ρA : Tags} (hbd : ∀ b, ρA b ≠ 0 → b < w0.heap.size) (hz : Gz ρA) {τ0 : Nat → Nat} (hτ0 : ∀ p, 1 ≤ τ0 p) {r_0 : client_Clients} {id_1 : Str} {secret_2 : Str} {gr_0 : Nat} {r : Int} (ho0 : client_Clients.O τ0 ρA w0 gr_0 r_0) (hS : client_Clients_Authenticate r_0 id_1 secret_2 = some r) :
  Calls Tryz.prog 29 #[.pointer (some ⟨gr_0, 0, none⟩), str id_1, str secret_2] w0 (Ret (fun v w' => v = .int .i64 r ∧ Below w0.heap.size w0 w')) := by
 unfold client_Clients_Authenticate at hS
 have hb := flat1_fr (ρ := ρA) (w := w0) hbd
 have hz := hz.flat1
 obtain ⟨v1, hB3, h2⟩ := ho0
 replace hB3 := hB3.mv (flat1_mv (hτ0 0))
 replace h2 := h2.mv (flat1_mv (hτ0 1))
 replace hB3 : Blk (flat1 ρA) 1 w0 gr_0 (.cells #[v1] 57 (0, 0)) := hB3
 replace h2 : MapT str api_Client.c true (flat1 ρA) 1 w0 v1 r_0.of_ := h2
 refine calls_of_ke Tryz.func29 rfl (n := 24) rfl rfl (l := [(0, .pointer (some ⟨gr_0, 0, none⟩)), (1, str id_1), (2, str secret_2)]) rfl ?_
 refine ke_seq ?_
 refine ke_region ?_
 refine sr_ev (v := .int .i64 0) (ev_assign rfl) (by decide) ?_
 refine sr_end (l' := [(0, .pointer (some ⟨gr_0, 0, none⟩)), (1, str id_1), (2, str secret_2)]) (.cons rfl (.cons rfl (.cons rfl (.nil _)))) ?_
 refine ke_seq ?_
 refine ke_region ?_
 refine sr_ev (v := .pointer (some ⟨gr_0, 0, none⟩)) (ev_move rfl) (by decide) ?_
 refine sr_ev (v := str id_1) (ev_move rfl) (by decide) ?_
 obtain ⟨y4, hy5, hS⟩ := bind_some' hS
 refine sr_call (vs := [.pointer (some ⟨gr_0, 0, none⟩), str id_1]) rfl Tryz.call54 rfl (client_Clients_find_ok _ (hg.fr hz hb) (ρA := (flat1 ρA)) hb.bd (hz.fr hg hb) (τ0 := (fun _ => 1)) (fun _ => Nat.le_refl 1) (⟨_, hB3, h2⟩ : client_Clients.O (fun _ => 1) (flat1 ρA) w0 gr_0 r_0) hy5) (by decide) ?_
 rintro _ w6 ⟨v9, v11, rfl, h10, h12, hbw7⟩
 have htr8 := Tr.of_below hbw7 hb.bd
 replace hb := hb.trans htr8
 refine sr_ev (v := .tuple #[.agg #[str y4.1.ID, .int .i64 y4.1.Kind, str y4.1.Tenant, str y4.1.Secret.Salt, .int .i64 y4.1.Secret.Rounds, str y4.1.Secret.Hash, v9, v11, str y4.1.Logout], .int .i64 y4.2]) (ev_move rfl) (by decide) ?_
 refine sr_ev (v := .agg #[str y4.1.ID, .int .i64 y4.1.Kind, str y4.1.Tenant, str y4.1.Secret.Salt, .int .i64 y4.1.Secret.Rounds, str y4.1.Secret.Hash, v9, v11, str y4.1.Logout]) (ev_extract rfl rfl) (by decide) ?_
 refine sr_ev (v := .int .i64 y4.2) (ev_extract rfl rfl) (by decide) ?_
 refine sr_allocT 9 (by decide) hb.bd Tryz.zeroValue27 (by decide) ?_
 intro g13 ρ14 w15 hB17 htr16
 replace h10 := h10.mv htr16.rd
 replace h12 := h12.mv htr16.rd
 replace hb := hb.trans htr16
 replace hB17 : Blk ρ14 9 w15 g13 (.cells #[str ([]), .int .i64 0, str ([]), str ([]), .int .i64 0, str ([]), (.slice none 0 0), (.slice none 0 0), str ([])] 27 (0, 0)) := hB17
 refine sr_storeT (v := .agg #[str y4.1.ID, .int .i64 y4.1.Kind, str y4.1.Tenant, str y4.1.Secret.Salt, .int .i64 y4.1.Secret.Rounds, str y4.1.Secret.Hash, v9, v11, str y4.1.Logout]) (vs := [str y4.1.ID, .int .i64 y4.1.Kind, str y4.1.Tenant, str y4.1.Secret.Salt, .int .i64 y4.1.Secret.Rounds, str y4.1.Secret.Hash, v9, v11, str y4.1.Logout]) (cs' := #[str y4.1.ID, .int .i64 y4.1.Kind, str y4.1.Tenant, str y4.1.Secret.Salt, .int .i64 y4.1.Secret.Rounds, str y4.1.Secret.Hash, v9, v11, str y4.1.Logout]) hB17 (by decide) hb.bd rfl rfl rfl Tryz.sizeOf27 rfl (by first | rfl | (simp only [List.all_cons, List.all_nil, SlR.oneCell h10, SlR.oneCell h12]; done) | (simp only [List.all_cons, List.all_nil, SlR.oneCell h10, SlR.oneCell h12]; rfl)) rfl ?_
 intro w18 hB171 htr19
 replace h10 := h10.mv htr19.rd
 replace h12 := h12.mv htr19.rd
 replace hb := hb.trans htr19
 replace hB17 : Blk ρ14 9 w18 g13 (.cells #[str y4.1.ID, .int .i64 y4.1.Kind, str y4.1.Tenant, str y4.1.Secret.Salt, .int .i64 y4.1.Secret.Rounds, str y4.1.Secret.Hash, v9, v11, str y4.1.Logout] 27 (0, 0)) := hB171
 clear hB171
 refine sr_ev (v := .int .i64 y4.2) (ev_assign rfl) (by decide) ?_
 refine sr_end (l' := [(2, str secret_2), (7, .pointer (some ⟨g13, 0, none⟩)), (8, .int .i64 y4.2)]) (.cons rfl (.cons rfl (.cons rfl (.nil _)))) ?_
 refine ke_seq ?_
 refine ke_seq ?_
 refine ke_region ?_
 refine sr_ev (v := .int .i64 y4.2) (ev_move rfl) (by decide) ?_
 refine sr_ev (v := .bool (y4.2 == 0)) (ev_eq rfl rfl) (by decide) ?_
 refine sr_ev (v := .bool (y4.2 == 0)) (ev_move rfl) (by decide) ?_
 obtain ⟨z22, hz24, hS⟩ := bind_some' hS
 refine sr_join (m := 5) (C := fun (z : Bool) w1 => z22 = z ∧ ∃ ρ1, Tr ρ14 w18 (fun _ => false) ρ1 w1) (l' := fun z => [(8, .int .i64 y4.2), (22, .bool z)]) ?_ ?_
 ·rintro _ w25 ⟨rfl, ρ26, hj23⟩
  replace hb := hb.trans hj23
  refine sr_end (l' := [(8, .int .i64 y4.2), (22, .bool z22)]) (.cons rfl (.cons rfl (.nil _))) ?_
  refine ke_cond (t := z22) rfl (fun hc33 => ?_) (fun hc33 => ?_)
  ·replace hS := ite_true' hS hc33
   refine ke_seq ?_
   refine ke_region ?_
   refine sr_ev (v := .int .i64 11) (ev_assign rfl) (by decide) ?_
   refine sr_end (l' := [(6, .int .i64 11)]) (.cons rfl (.nil _)) ?_
   cases hS
   exact ke_ret1 Tryz.func29 rfl rfl ⟨_, rfl, rfl, (hb.below (flat1_le _))⟩
  ·replace hS := ite_false' hS hc33
   refine ke_skip ?_
   refine ke_seq ?_
   refine ke_region ?_
   refine sr_ev (v := .int .i64 y4.2) (ev_move rfl) (by decide) ?_
   refine sr_ev (v := .int .i64 y4.2) (ev_assign rfl) (by decide) ?_
   refine sr_end (l' := [(6, .int .i64 y4.2)]) (.cons rfl (.nil _)) ?_
   cases hS
   exact ke_ret1 Tryz.func29 rfl rfl ⟨_, rfl, rfl, (hb.below (flat1_le _))⟩
 ·intro K21
  clear hS
  have hj23 : Tr ρ14 w18 (fun _ => false) ρ14 w18 := (Tr.refl hb.bd).weak (fun _ _ => rfl) rfl rfl
  rcases Bool.eq_false_or_eq_true (y4.2 == 0) with hg20 | hg20
  ·have hS := ite_true' hz24 hg20
   refine sr_evg (b := true) (e := 17) rfl rfl hg20 (v := .agg #[str y4.1.ID, .int .i64 y4.1.Kind, str y4.1.Tenant, str y4.1.Secret.Salt, .int .i64 y4.1.Secret.Rounds, str y4.1.Secret.Hash, v9, v11, str y4.1.Logout]) (ev_loads (cs := [str y4.1.ID, .int .i64 y4.1.Kind, str y4.1.Tenant, str y4.1.Secret.Salt, .int .i64 y4.1.Secret.Rounds, str y4.1.Secret.Hash, v9, v11, str y4.1.Logout]) Tryz.isAgg27 Tryz.sizeOf27 rfl (hB17.cells (vs := [str y4.1.ID, .int .i64 y4.1.Kind, str y4.1.Tenant, str y4.1.Secret.Salt, .int .i64 y4.1.Secret.Rounds, str y4.1.Secret.Hash, v9, v11, str y4.1.Logout]) rfl)) (by decide) ?_
   refine sr_evg (b := true) (e := 17) rfl rfl hg20 (v := str secret_2) (ev_move rfl) (by decide) ?_
   obtain ⟨y28, hy29, hS⟩ := bind_some' hS
   refine sr_callg (b := true) (e := 17) rfl rfl hg20 (vs := [.agg #[str y4.1.ID, .int .i64 y4.1.Kind, str y4.1.Tenant, str y4.1.Secret.Salt, .int .i64 y4.1.Secret.Rounds, str y4.1.Secret.Hash, v9, v11, str y4.1.Logout], str secret_2]) rfl Tryz.call59 rfl (client_accepts_ok _ (hg.fr hz hb) (ρA := ρ14) hb.bd (hz.fr hg hb) h10 h12 hy29) (by decide) ?_
   rintro _ w30 ⟨rfl, hbw31⟩
   have htr32 := Tr.of_below hbw31 hb.bd
   replace hb := hb.trans htr32
   replace hj23 := (hj23.trans htr32).weak (J' := (fun _ => false)) (by intro t h; simp [rng] at h ⊢ <;> omega) rfl rfl
   refine sr_evg (b := true) (e := 17) rfl rfl hg20 (v := .bool (!y28)) (ev_not rfl) (by decide) ?_
   refine sr_ev (v := .bool (!y28)) (ev_pick_t rfl hg20 rfl) (by decide) ?_
   exact sr_weaken (l' := [(8, .int .i64 y4.2), (22, .bool (!y28))]) (.cons rfl (.cons rfl (.nil _))) (K21 (!y28) _ ⟨(Option.some.inj hS).symm, _, hj23⟩)
  ·have hS := ite_false' hz24 hg20
   refine sr_pass (e := 17) rfl rfl (by rw [hg20]; rfl) (by decide) ?_
   refine sr_pass (e := 17) rfl rfl (by rw [hg20]; rfl) (by decide) ?_
   refine sr_pass (e := 17) rfl rfl (by rw [hg20]; rfl) (by decide) ?_
   refine sr_pass (e := 17) rfl rfl (by rw [hg20]; rfl) (by decide) ?_
   refine sr_ev (v := .bool false) (ev_pick_f rfl hg20 rfl) (by decide) ?_
   exact sr_weaken (l' := [(8, .int .i64 y4.2), (22, .bool false)]) (.cons rfl (.cons rfl (.nil _))) (K21 false _ ⟨(Option.some.inj hS).symm, _, hj23⟩)
theorem scope_Implies_ok (w0 : World) (hg : Gs w0) {a_0 : Str} {b_1 : Str} {r : Bool} (hS : scope_Implies a_0 b_1 = some r) :
  Calls Tryz.prog 83 #[str a_0, str b_1] w0 (Ret (fun v w' => v = .bool r ∧ Below w0.heap.size w0 w')) := by
 unfold scope_Implies at hS
 have hb := Below.refl w0.heap.size w0
 refine calls_of_ke Tryz.func83 rfl (n := 22) rfl rfl (l := [(0, str a_0), (1, str b_1)]) rfl ?_
 refine ke_seq ?_
 refine ke_region ?_
 refine sr_ev (v := .bool false) (ev_assign rfl) (by decide) ?_
 refine sr_end (l' := [(0, str a_0), (1, str b_1)]) (.cons rfl (.cons rfl (.nil _))) ?_
 refine ke_seq ?_
 refine ke_region ?_
 refine sr_ev (v := str a_0) (ev_move rfl) (by decide) ?_
 obtain ⟨y1, hy2, hS⟩ := bind_some' hS
 refine sr_call (vs := [str a_0]) rfl Tryz.call52 rfl (scope_valid_ok _ (hg.below hb) hy2) (by decide) ?_
 rintro _ w3 ⟨rfl, hbw4⟩
 replace hb := hb.trans (hbw4.mono hb.size)
 refine sr_ev (v := .bool y1) (ev_move rfl) (by decide) ?_
 obtain ⟨z7, hz9, hS⟩ := bind_some' hS
 refine sr_join (m := 3) (C := fun (x : Bool) w1 => z7 = x ∧ Below w3.heap.size w3 w1) (l' := fun x => [(0, str a_0), (1, str b_1), (10, .bool x)]) ?_ ?_
 ·rintro _ w10 ⟨rfl, hbw11⟩
  replace hb := hb.trans (hbw11.mono hb.size)
  refine sr_ev (v := .bool z7) (ev_move rfl) (by decide) ?_
  obtain ⟨z18, hz20, hS⟩ := bind_some' hS
  refine sr_join (m := 10) (C := fun (x : Bool) w1 => z18 = x ∧ Below w10.heap.size w10 w1) (l' := fun x => [(21, .bool x)]) ?_ ?_
  ·rintro _ w21 ⟨rfl, hbw22⟩
   replace hb := hb.trans (hbw22.mono hb.size)
   refine sr_ev (v := .bool z18) (ev_assign rfl) (by decide) ?_
   refine sr_end (l' := [(4, .bool z18)]) (.cons rfl (.nil _)) ?_
   cases hS
   exact ke_ret1 Tryz.func83 rfl rfl ⟨_, rfl, rfl, hb⟩
  ·intro K17
   clear hS
   have hj19 := Below.refl w10.heap.size w10
   rcases Bool.eq_false_or_eq_true z7 with hg16 | hg16
   ·have hS := ite_true' hz20 hg16
    refine sr_evg (b := true) (e := 11) rfl rfl hg16 (v := str a_0) (ev_move rfl) (by decide) ?_
    refine sr_evg (b := true) (e := 11) rfl rfl hg16 (v := str b_1) (ev_move rfl) (by decide) ?_
    refine sr_evg (b := true) (e := 11) rfl rfl hg16 (v := .bool (a_0 == b_1)) (ev_seq rfl rfl) (by decide) ?_
    refine sr_evg (b := true) (e := 11) rfl rfl hg16 (v := .bool (a_0 == b_1)) (ev_move rfl) (by decide) ?_
    obtain ⟨z25, hz27, hS⟩ := bind_some' hS
    refine sr_join (m := 5) (C := fun (x : Bool) w1 => z25 = x ∧ Below w10.heap.size w10 w1) (l' := fun x => [(11, .bool z7), (20, .bool x)]) ?_ ?_
    ·rintro _ w28 ⟨rfl, hbw29⟩
     replace hb := hb.trans (hbw29.mono hb.size)
     replace hj19 := hj19.trans (hbw29.mono hj19.size)
     refine sr_ev (v := .bool z25) (ev_pick_t rfl hg16 rfl) (by decide) ?_
     exact sr_weaken (l' := [(21, .bool z25)]) (.cons rfl (.nil _)) (K17 z25 _ ⟨(Option.some.inj hS).symm, hj19⟩)
    ·intro K24
     clear hS
     have hj26 := Below.refl w10.heap.size w10
     rcases Bool.eq_false_or_eq_true (a_0 == b_1) with hg23 | hg23
     ·have hS := ite_true' hz27 hg23
      refine sr_pass (e := 15) rfl rfl (by rw [hg23]; rfl) (by decide) ?_
      refine sr_pass (e := 15) rfl rfl (by rw [hg23]; rfl) (by decide) ?_
      refine sr_pass (e := 15) rfl rfl (by rw [hg23]; rfl) (by decide) ?_
      refine sr_pass (e := 15) rfl rfl (by rw [hg23]; rfl) (by decide) ?_
      refine sr_evg (b := true) (e := 11) rfl rfl hg16 (v := .bool true) (ev_pick_t rfl hg23 rfl) (by decide) ?_
      exact sr_weaken (l' := [(11, .bool z7), (20, .bool true)]) (.cons rfl (.cons rfl (.nil _))) (K24 true _ ⟨(Option.some.inj hS).symm, hj26⟩)
     ·have hS := ite_false' hz27 hg23
      refine sr_evg (b := false) (e := 15) rfl rfl hg23 (v := str b_1) (ev_move rfl) (by decide) ?_
      refine sr_evg (b := false) (e := 15) rfl rfl hg23 (v := str a_0) (ev_move rfl) (by decide) ?_
      obtain ⟨hk30, hS⟩ := chk_some hS
      refine sr_evg (b := false) (e := 15) rfl rfl hg23 (v := str (a_0 ++ ([46]))) (ev_cat rfl rfl hk30) (by decide) ?_
      obtain ⟨y31, hy32, hS⟩ := bind_some' hS
      refine sr_callg (b := false) (e := 15) rfl rfl hg23 (vs := [str b_1, str (a_0 ++ ([46]))]) rfl Tryz.call74 rfl (strings_HasPrefix_ok _ (hg.below hb) hy32) (by decide) ?_
      rintro _ w33 ⟨rfl, hbw34⟩
      replace hb := hb.trans (hbw34.mono hb.size)
      replace hj19 := hj19.trans (hbw34.mono hj19.size)
      replace hj26 := hj26.trans (hbw34.mono hj26.size)
      refine sr_evg (b := true) (e := 11) rfl rfl hg16 (v := .bool y31) (ev_pick_f rfl hg23 rfl) (by decide) ?_
      exact sr_weaken (l' := [(11, .bool z7), (20, .bool y31)]) (.cons rfl (.cons rfl (.nil _))) (K24 y31 _ ⟨(Option.some.inj hS).symm, hj26⟩)
   ·have hS := ite_false' hz20 hg16
    refine sr_pass (e := 11) rfl rfl (by rw [hg16]; rfl) (by decide) ?_
    refine sr_pass (e := 11) rfl rfl (by rw [hg16]; rfl) (by decide) ?_
    refine sr_pass (e := 11) rfl rfl (by rw [hg16]; rfl) (by decide) ?_
    refine sr_pass (e := 11) rfl rfl (by rw [hg16]; rfl) (by decide) ?_
    refine sr_pass_undef (e := 15) rfl rfl (by decide) ?_
    refine sr_pass_undef (e := 15) rfl rfl (by decide) ?_
    refine sr_pass_undef (e := 15) rfl rfl (by decide) ?_
    refine sr_pass_undef (e := 15) rfl rfl (by decide) ?_
    refine sr_pass (e := 11) rfl rfl (by rw [hg16]; rfl) (by decide) ?_
    refine sr_ev (v := .bool false) (ev_pick_f rfl hg16 rfl) (by decide) ?_
    exact sr_weaken (l' := [(21, .bool false)]) (.cons rfl (.nil _)) (K17 false _ ⟨(Option.some.inj hS).symm, hj19⟩)
 ·intro K6
  clear hS
  have hj8 := Below.refl w3.heap.size w3
  rcases Bool.eq_false_or_eq_true y1 with hg5 | hg5
  ·have hS := ite_true' hz9 hg5
   refine sr_evg (b := true) (e := 7) rfl rfl hg5 (v := str b_1) (ev_move rfl) (by decide) ?_
   obtain ⟨y12, hy13, hS⟩ := bind_some' hS
   refine sr_callg (b := true) (e := 7) rfl rfl hg5 (vs := [str b_1]) rfl Tryz.call52 rfl (scope_valid_ok _ (hg.below hb) hy13) (by decide) ?_
   rintro _ w14 ⟨rfl, hbw15⟩
   replace hb := hb.trans (hbw15.mono hb.size)
   replace hj8 := hj8.trans (hbw15.mono hj8.size)
   refine sr_ev (v := .bool y12) (ev_pick_t rfl hg5 rfl) (by decide) ?_
   exact sr_weaken (l' := [(0, str a_0), (1, str b_1), (10, .bool y12)]) (.cons rfl (.cons rfl (.cons rfl (.nil _)))) (K6 y12 _ ⟨(Option.some.inj hS).symm, hj8⟩)
  ·have hS := ite_false' hz9 hg5
   refine sr_pass (e := 7) rfl rfl (by rw [hg5]; rfl) (by decide) ?_
   refine sr_pass (e := 7) rfl rfl (by rw [hg5]; rfl) (by decide) ?_
   refine sr_ev (v := .bool false) (ev_pick_f rfl hg5 rfl) (by decide) ?_
   exact sr_weaken (l' := [(0, str a_0), (1, str b_1), (10, .bool false)]) (.cons rfl (.cons rfl (.cons rfl (.nil _)))) (K6 false _ ⟨(Option.some.inj hS).symm, hj8⟩)
theorem scope_covered_L1_ok {w0 : World} (hg : Gs w0) {A0 : Nat → Prop} (hA0 : ∀ b, A0 b → b < w0.heap.size) : ∀ (n : Nat), ∀ {r : Bool} {s_0 : Str} {t_7 : List Str} {t_8 : Int} {t_9 : Int} {vt_7 : Value}, scope_covered_L1 n s_0 t_7 t_8 t_9 = some r → ∀ {w : World} {A : Nat → Prop}, (Below w0.heap.size w0 w) → (∀ b, A b → b < w.heap.size) → (∀ b, A0 b → A b) → (Hp A w0.heap.size w []) → (SlR strC A w vt_7 t_7) → KE Tryz.prog 55 (Ret (fun v w' => v = .bool r ∧ Below w0.heap.size w0 w')) 17 [.code (sub (bodyOf Tryz.f55) [2, 1, 2, 2, 1]), .inLoop (sub (bodyOf Tryz.f55) [2, 1, 2, 2, 1]), .inBlock 0, .code (sub (bodyOf Tryz.f55) [2, 2])] [(0, str s_0), (7, vt_7), (8, .int .i64 t_8), (9, .int .i64 t_9)] w := by
 intro n
 induction n with
 | zero => intro r s_0 t_7 t_8 t_9 vt_7 hS; cases hS
 | succ n ih =>
  have hr0 : ∀ {r : Bool} {s_0 : Str} {t_7 : List Str} {t_8 : Int} {t_9 : Int} {vt_7 : Value}, scope_covered_L1 n s_0 t_7 t_8 t_9 = some r → ∀ {w : World} {A : Nat → Prop}, (Below w0.heap.size w0 w) → (∀ b, A b → b < w.heap.size) → (∀ b, A0 b → A b) → (Hp A w0.heap.size w []) → (SlR strC A w vt_7 t_7) → KE Tryz.prog 55 (Ret (fun v w' => v = .bool r ∧ Below w0.heap.size w0 w')) 17 [.inLoop (sub (bodyOf Tryz.f55) [2, 1, 2, 2, 1]), .inBlock 0, .code (sub (bodyOf Tryz.f55) [2, 2])] [(0, str s_0), (7, vt_7), (8, .int .i64 t_8), (9, .int .i64 t_9)] w := fun {r} {s_0} {t_7} {t_8} {t_9} {vt_7} hS {w} {A} hb hA hi hH ht_7 => ke_inLoop (ih hS hb hA hi hH ht_7)
  clear ih
  intro r s_0 t_7 t_8 t_9 vt_7 hS w A hb hA hi hH ht_7
  unfold scope_covered_L1 at hS
  refine ke_seq ?_
  refine ke_region ?_
  refine sr_ev (v := .bool (decide (t_9 < t_8))) (ev_lt rfl rfl) (by decide) ?_
  refine sr_end (l' := [(0, str s_0), (7, vt_7), (8, .int .i64 t_8), (9, .int .i64 t_9), (10, .bool (decide (t_9 < t_8)))]) (.cons rfl (.cons rfl (.cons rfl (.cons rfl (.cons rfl (.nil _)))))) ?_
  refine ke_seq ?_
  refine ke_cond (t := decide (t_9 < t_8)) rfl (fun hc3 => ?_) (fun hc3 => ?_)
  ·replace hS := ite_true' hS hc3
   refine ke_skip ?_
   refine ke_seq ?_
   refine ke_block ?_
   refine ke_seq ?_
   refine ke_region ?_
   obtain ⟨y4, hy5, hS⟩ := bind_some' hS
   refine sr_index ht_7 Tryz.underlying25 Tryz.info9 rfl rfl rfl hy5 (by decide) ?_
   intro b6 o7 cs9 he8
   obtain rfl : cs9 = [str y4] := he8.rd
   refine sr_ev (v := str y4) (ev_load Tryz.isAgg9 rfl (he8.cell 0 _ rfl)) (by decide) ?_
   refine sr_ev (v := str y4) (ev_assign rfl) (by decide) ?_
   refine sr_end (l' := [(0, str s_0), (6, str y4), (7, vt_7), (8, .int .i64 t_8), (9, .int .i64 t_9)]) (.cons rfl (.cons rfl (.cons rfl (.cons rfl (.cons rfl (.nil _)))))) ?_
   refine ke_seq ?_
   refine ke_region ?_
   refine sr_ev (v := str y4) (ev_move rfl) (by decide) ?_
   refine sr_ev (v := str s_0) (ev_move rfl) (by decide) ?_
   obtain ⟨y10, hy11, hS⟩ := bind_some' hS
   refine sr_call (vs := [str y4, str s_0]) rfl Tryz.call83 rfl (scope_Implies_ok _ (hg.below hb) hy11) (by decide) ?_
   rintro _ w12 ⟨rfl, hbw13⟩
   replace hb := hb.trans (hbw13.mono hb.size)
   replace hA := lt_mono hA hbw13.size
   replace hH := hH.below hbw13
   replace ht_7 := ht_7.below hbw13
   refine sr_end (l' := [(0, str s_0), (7, vt_7), (8, .int .i64 t_8), (9, .int .i64 t_9), (15, .bool y10)]) (.cons rfl (.cons rfl (.cons rfl (.cons rfl (.cons rfl (.nil _)))))) ?_
   refine ke_cond (t := y10) rfl (fun hc14 => ?_) (fun hc14 => ?_)
   ·replace hS := ite_true' hS hc14
    refine ke_seq ?_
    refine ke_region ?_
    refine sr_ev (v := .bool true) (ev_assign rfl) (by decide) ?_
    refine sr_end (l' := [(4, .bool true)]) (.cons rfl (.nil _)) ?_
    cases hS
    exact ke_ret1 Tryz.func55 rfl rfl ⟨_, rfl, rfl, hb⟩
   ·replace hS := ite_false' hS hc14
    refine ke_skip ?_
    refine ke_inBlock ?_
    refine ke_region ?_
    refine sr_ev (v := .int .i64 (IntKind.i64.wrap (t_9 + 1))) (ev_add rfl rfl) (by decide) ?_
    refine sr_ev (v := .int .i64 (IntKind.i64.wrap (t_9 + 1))) (ev_move rfl) (by decide) ?_
    refine sr_end (l' := [(0, str s_0), (7, vt_7), (8, .int .i64 t_8), (9, .int .i64 (IntKind.i64.wrap (t_9 + 1)))]) (.cons rfl (.cons rfl (.cons rfl (.cons rfl (.nil _))))) ?_
    have hK := hr0 hS hb hA hi hH ht_7
    exact ke_weaken (l' := [(0, str s_0), (7, vt_7), (8, .int .i64 t_8), (9, .int .i64 (IntKind.i64.wrap (t_9 + 1)))]) (.cons rfl (.cons rfl (.cons rfl (.cons rfl (.nil _))))) hK
  ·replace hS := ite_false' hS hc3
   refine ke_exit (k' := _) rfl ?_
   refine ke_seq ?_
   refine ke_region ?_
   refine sr_ev (v := .bool false) (ev_assign rfl) (by decide) ?_
   refine sr_end (l' := [(4, .bool false)]) (.cons rfl (.nil _)) ?_
   cases hS
   exact ke_ret1 Tryz.func55 rfl rfl ⟨_, rfl, rfl, hb⟩
theorem scope_covered_ok {A0 : Nat → Prop} (w0 : World) (hg : Gs w0) {s_0 : Str} {l_1 : List Str} {v1 : Value} {r : Bool} (h2 : SlR strC A0 w0 v1 l_1) (hS : scope_covered s_0 l_1 = some r) :
  Calls Tryz.prog 55 #[str s_0, v1] w0 (Ret (fun v w' => v = .bool r ∧ Below w0.heap.size w0 w')) := by
 unfold scope_covered at hS
 have hb := Below.refl w0.heap.size w0
 replace h2 := h2.weak (A' := fun _ => False) (fun _ h => h.elim)
 obtain ⟨A0, hA0, hAe⟩ : ∃ A0 : Nat → Prop, (∀ b, A0 b → b < w0.heap.size) ∧ A0 = fun _ => False := ⟨_, fun _ h => h.elim, rfl⟩
 rw [← hAe] at h2
 clear hAe
 have hA := hA0
 have hi : ∀ b, A0 b → A0 b := fun _ h => h
 have hH := Hp.nil A0 w0.heap.size w0
 refine calls_of_ke Tryz.func55 rfl (n := 17) rfl rfl (l := [(0, str s_0), (1, v1)]) rfl ?_
 refine ke_seq ?_
 refine ke_region ?_
 refine sr_ev (v := .bool false) (ev_assign rfl) (by decide) ?_
 refine sr_end (l' := [(0, str s_0), (1, v1)]) (.cons rfl (.cons rfl (.nil _))) ?_
 refine ke_seq ?_
 refine ke_seq ?_
 refine ke_region ?_
 refine sr_ev (v := v1) (ev_move rfl) (by decide) ?_
 refine sr_ev (v := .int .i64 (l_1.length : Int)) (ev_sllen Tryz.underlying25 rfl h2) (by decide) ?_
 refine sr_ev (v := .int .i64 0) (ev_move rfl) (by decide) ?_
 refine sr_end (l' := [(0, str s_0), (7, v1), (8, .int .i64 (l_1.length : Int)), (9, .int .i64 0)]) (.cons rfl (.cons rfl (.cons rfl (.cons rfl (.nil _))))) ?_
 refine ke_block ?_
 have hK := scope_covered_L1_ok hg hA0 _ hS hb hA hi hH h2
 exact ke_weaken (l' := [(0, str s_0), (7, v1), (8, .int .i64 (l_1.length : Int)), (9, .int .i64 0)]) (.cons rfl (.cons rfl (.cons rfl (.cons rfl (.nil _))))) (ke_loop hK)
theorem scope_Within_L1_ok {w0 : World} (hg : Gs w0) {A0 : Nat → Prop} (hA0 : ∀ b, A0 b → b < w0.heap.size) : ∀ (n : Nat), ∀ {r : Bool} {b_1 : List Str} {t_7 : List Str} {t_8 : Int} {t_9 : Int} {vb_1 : Value} {vt_7 : Value}, scope_Within_L1 n b_1 t_7 t_8 t_9 = some r → ∀ {w : World} {A : Nat → Prop}, (Below w0.heap.size w0 w) → (∀ b, A b → b < w.heap.size) → (∀ b, A0 b → A b) → (Hp A w0.heap.size w []) → (SlR strC A w vb_1 b_1) → (SlR strC A w vt_7 t_7) → KE Tryz.prog 20 (Ret (fun v w' => v = .bool r ∧ Below w0.heap.size w0 w')) 18 [.code (sub (bodyOf Tryz.f20) [2, 1, 2, 2, 1]), .inLoop (sub (bodyOf Tryz.f20) [2, 1, 2, 2, 1]), .inBlock 0, .code (sub (bodyOf Tryz.f20) [2, 2])] [(1, vb_1), (7, vt_7), (8, .int .i64 t_8), (9, .int .i64 t_9)] w := by
 intro n
 induction n with
 | zero => intro r b_1 t_7 t_8 t_9 vb_1 vt_7 hS; cases hS
 | succ n ih =>
  have hr0 : ∀ {r : Bool} {b_1 : List Str} {t_7 : List Str} {t_8 : Int} {t_9 : Int} {vb_1 : Value} {vt_7 : Value}, scope_Within_L1 n b_1 t_7 t_8 t_9 = some r → ∀ {w : World} {A : Nat → Prop}, (Below w0.heap.size w0 w) → (∀ b, A b → b < w.heap.size) → (∀ b, A0 b → A b) → (Hp A w0.heap.size w []) → (SlR strC A w vb_1 b_1) → (SlR strC A w vt_7 t_7) → KE Tryz.prog 20 (Ret (fun v w' => v = .bool r ∧ Below w0.heap.size w0 w')) 18 [.inLoop (sub (bodyOf Tryz.f20) [2, 1, 2, 2, 1]), .inBlock 0, .code (sub (bodyOf Tryz.f20) [2, 2])] [(1, vb_1), (7, vt_7), (8, .int .i64 t_8), (9, .int .i64 t_9)] w := fun {r} {b_1} {t_7} {t_8} {t_9} {vb_1} {vt_7} hS {w} {A} hb hA hi hH hb_1 ht_7 => ke_inLoop (ih hS hb hA hi hH hb_1 ht_7)
  clear ih
  intro r b_1 t_7 t_8 t_9 vb_1 vt_7 hS w A hb hA hi hH hb_1 ht_7
  unfold scope_Within_L1 at hS
  refine ke_seq ?_
  refine ke_region ?_
  refine sr_ev (v := .bool (decide (t_9 < t_8))) (ev_lt rfl rfl) (by decide) ?_
  refine sr_end (l' := [(1, vb_1), (7, vt_7), (8, .int .i64 t_8), (9, .int .i64 t_9), (10, .bool (decide (t_9 < t_8)))]) (.cons rfl (.cons rfl (.cons rfl (.cons rfl (.cons rfl (.nil _)))))) ?_
  refine ke_seq ?_
  refine ke_cond (t := decide (t_9 < t_8)) rfl (fun hc5 => ?_) (fun hc5 => ?_)
  ·replace hS := ite_true' hS hc5
   refine ke_skip ?_
   refine ke_seq ?_
   refine ke_block ?_
   refine ke_seq ?_
   refine ke_region ?_
   obtain ⟨y6, hy7, hS⟩ := bind_some' hS
   refine sr_index ht_7 Tryz.underlying25 Tryz.info9 rfl rfl rfl hy7 (by decide) ?_
   intro b8 o9 cs11 he10
   obtain rfl : cs11 = [str y6] := he10.rd
   refine sr_ev (v := str y6) (ev_load Tryz.isAgg9 rfl (he10.cell 0 _ rfl)) (by decide) ?_
   refine sr_ev (v := str y6) (ev_assign rfl) (by decide) ?_
   refine sr_end (l' := [(1, vb_1), (6, str y6), (7, vt_7), (8, .int .i64 t_8), (9, .int .i64 t_9)]) (.cons rfl (.cons rfl (.cons rfl (.cons rfl (.cons rfl (.nil _)))))) ?_
   refine ke_seq ?_
   refine ke_region ?_
   refine sr_ev (v := str y6) (ev_move rfl) (by decide) ?_
   refine sr_ev (v := vb_1) (ev_move rfl) (by decide) ?_
   obtain ⟨y12, hy13, hS⟩ := bind_some' hS
   refine sr_call (vs := [str y6, vb_1]) rfl Tryz.call55 rfl (scope_covered_ok _ (hg.below hb) hb_1 hy13) (by decide) ?_
   rintro _ w14 ⟨rfl, hbw15⟩
   replace hb := hb.trans (hbw15.mono hb.size)
   replace hA := lt_mono hA hbw15.size
   replace hH := hH.below hbw15
   replace hb_1 := hb_1.below hbw15
   replace ht_7 := ht_7.below hbw15
   refine sr_ev (v := .bool (!y12)) (ev_not rfl) (by decide) ?_
   refine sr_end (l' := [(1, vb_1), (7, vt_7), (8, .int .i64 t_8), (9, .int .i64 t_9), (16, .bool (!y12))]) (.cons rfl (.cons rfl (.cons rfl (.cons rfl (.cons rfl (.nil _)))))) ?_
   refine ke_cond (t := !y12) rfl (fun hc16 => ?_) (fun hc16 => ?_)
   ·replace hS := ite_true' hS hc16
    refine ke_seq ?_
    refine ke_region ?_
    refine sr_ev (v := .bool false) (ev_assign rfl) (by decide) ?_
    refine sr_end (l' := [(4, .bool false)]) (.cons rfl (.nil _)) ?_
    cases hS
    exact ke_ret1 Tryz.func20 rfl rfl ⟨_, rfl, rfl, hb⟩
   ·replace hS := ite_false' hS hc16
    refine ke_skip ?_
    refine ke_inBlock ?_
    refine ke_region ?_
    refine sr_ev (v := .int .i64 (IntKind.i64.wrap (t_9 + 1))) (ev_add rfl rfl) (by decide) ?_
    refine sr_ev (v := .int .i64 (IntKind.i64.wrap (t_9 + 1))) (ev_move rfl) (by decide) ?_
    refine sr_end (l' := [(1, vb_1), (7, vt_7), (8, .int .i64 t_8), (9, .int .i64 (IntKind.i64.wrap (t_9 + 1)))]) (.cons rfl (.cons rfl (.cons rfl (.cons rfl (.nil _))))) ?_
    have hK := hr0 hS hb hA hi hH hb_1 ht_7
    exact ke_weaken (l' := [(1, vb_1), (7, vt_7), (8, .int .i64 t_8), (9, .int .i64 (IntKind.i64.wrap (t_9 + 1)))]) (.cons rfl (.cons rfl (.cons rfl (.cons rfl (.nil _))))) hK
  ·replace hS := ite_false' hS hc5
   refine ke_exit (k' := _) rfl ?_
   refine ke_seq ?_
   refine ke_region ?_
   refine sr_ev (v := .bool true) (ev_assign rfl) (by decide) ?_
   refine sr_end (l' := [(4, .bool true)]) (.cons rfl (.nil _)) ?_
   cases hS
   exact ke_ret1 Tryz.func20 rfl rfl ⟨_, rfl, rfl, hb⟩
theorem scope_Within_ok {A0 : Nat → Prop} (w0 : World) (hg : Gs w0) {a_0 : List Str} {b_1 : List Str} {v1 : Value} {v3 : Value} {r : Bool} (h2 : SlR strC A0 w0 v1 a_0) (h4 : SlR strC A0 w0 v3 b_1) (hS : scope_Within a_0 b_1 = some r) :
  Calls Tryz.prog 20 #[v1, v3] w0 (Ret (fun v w' => v = .bool r ∧ Below w0.heap.size w0 w')) := by
 unfold scope_Within at hS
 have hb := Below.refl w0.heap.size w0
 replace h2 := h2.weak (A' := fun _ => False) (fun _ h => h.elim)
 replace h4 := h4.weak (A' := fun _ => False) (fun _ h => h.elim)
 obtain ⟨A0, hA0, hAe⟩ : ∃ A0 : Nat → Prop, (∀ b, A0 b → b < w0.heap.size) ∧ A0 = fun _ => False := ⟨_, fun _ h => h.elim, rfl⟩
 rw [← hAe] at h2
 rw [← hAe] at h4
 clear hAe
 have hA := hA0
 have hi : ∀ b, A0 b → A0 b := fun _ h => h
 have hH := Hp.nil A0 w0.heap.size w0
 refine calls_of_ke Tryz.func20 rfl (n := 18) rfl rfl (l := [(0, v1), (1, v3)]) rfl ?_
 refine ke_seq ?_
 refine ke_region ?_
 refine sr_ev (v := .bool false) (ev_assign rfl) (by decide) ?_
 refine sr_end (l' := [(0, v1), (1, v3)]) (.cons rfl (.cons rfl (.nil _))) ?_
 refine ke_seq ?_
 refine ke_seq ?_
 refine ke_region ?_
 refine sr_ev (v := v1) (ev_move rfl) (by decide) ?_
 refine sr_ev (v := .int .i64 (a_0.length : Int)) (ev_sllen Tryz.underlying25 rfl h2) (by decide) ?_
 refine sr_ev (v := .int .i64 0) (ev_move rfl) (by decide) ?_
 refine sr_end (l' := [(1, v3), (7, v1), (8, .int .i64 (a_0.length : Int)), (9, .int .i64 0)]) (.cons rfl (.cons rfl (.cons rfl (.cons rfl (.nil _))))) ?_
 refine ke_block ?_
 have hK := scope_Within_L1_ok hg hA0 _ hS hb hA hi hH h4 h2
 exact ke_weaken (l' := [(1, v3), (7, v1), (8, .int .i64 (a_0.length : Int)), (9, .int .i64 0)]) (.cons rfl (.cons rfl (.cons rfl (.cons rfl (.nil _))))) (ke_loop hK)
theorem client_Clients_Allowed_ok (w0 : World) (hg : Gs w0) {ρA : Tags} (hbd : ∀ b, ρA b ≠ 0 → b < w0.heap.size) (hz : Gz ρA) {τ0 : Nat → Nat} (hτ0 : ∀ p, 1 ≤ τ0 p) {r_0 : client_Clients} {id_1 : Str} {scopes_2 : List Str} {v4 : Value} {gr_0 : Nat} {r : Int} (h5 : SlR strC (Wb ρA) w0 v4 scopes_2) (ho0 : client_Clients.O τ0 ρA w0 gr_0 r_0) (hS : client_Clients_Allowed r_0 id_1 scopes_2 = some r) :
  Calls Tryz.prog 19 #[.pointer (some ⟨gr_0, 0, none⟩), str id_1, v4] w0 (Ret (fun v w' => v = .int .i64 r ∧ Below w0.heap.size w0 w')) := by
 unfold client_Clients_Allowed at hS
 have hb := flat1_fr (ρ := ρA) (w := w0) hbd
 have hz := hz.flat1
 replace h5 := SlR.mv h5 flat1_rd
 obtain ⟨v1, hB3, h2⟩ := ho0
 replace hB3 := hB3.mv (flat1_mv (hτ0 0))
 replace h2 := h2.mv (flat1_mv (hτ0 1))
 replace hB3 : Blk (flat1 ρA) 1 w0 gr_0 (.cells #[v1] 57 (0, 0)) := hB3
 replace h2 : MapT str api_Client.c true (flat1 ρA) 1 w0 v1 r_0.of_ := h2
 refine calls_of_ke Tryz.func19 rfl (n := 25) rfl rfl (l := [(0, .pointer (some ⟨gr_0, 0, none⟩)), (1, str id_1), (2, v4)]) rfl ?_
 refine ke_seq ?_
 refine ke_region ?_
 refine sr_ev (v := .int .i64 0) (ev_assign rfl) (by decide) ?_
 refine sr_end (l' := [(0, .pointer (some ⟨gr_0, 0, none⟩)), (1, str id_1), (2, v4)]) (.cons rfl (.cons rfl (.cons rfl (.nil _)))) ?_
 refine ke_seq ?_
 refine ke_region ?_
 refine sr_ev (v := .pointer (some ⟨gr_0, 0, none⟩)) (ev_move rfl) (by decide) ?_
 refine sr_ev (v := str id_1) (ev_move rfl) (by decide) ?_
 obtain ⟨y6, hy7, hS⟩ := bind_some' hS
 refine sr_call (vs := [.pointer (some ⟨gr_0, 0, none⟩), str id_1]) rfl Tryz.call54 rfl (client_Clients_find_ok _ (hg.fr hz hb) (ρA := (flat1 ρA)) hb.bd (hz.fr hg hb) (τ0 := (fun _ => 1)) (fun _ => Nat.le_refl 1) (⟨_, hB3, h2⟩ : client_Clients.O (fun _ => 1) (flat1 ρA) w0 gr_0 r_0) hy7) (by decide) ?_
 rintro _ w8 ⟨v11, v13, rfl, h12, h14, hbw9⟩
 have htr10 := Tr.of_below hbw9 hb.bd
 replace h5 := h5.mv htr10.rd
 replace hb := hb.trans htr10
 refine sr_ev (v := .tuple #[.agg #[str y6.1.ID, .int .i64 y6.1.Kind, str y6.1.Tenant, str y6.1.Secret.Salt, .int .i64 y6.1.Secret.Rounds, str y6.1.Secret.Hash, v11, v13, str y6.1.Logout], .int .i64 y6.2]) (ev_move rfl) (by decide) ?_
 refine sr_ev (v := .agg #[str y6.1.ID, .int .i64 y6.1.Kind, str y6.1.Tenant, str y6.1.Secret.Salt, .int .i64 y6.1.Secret.Rounds, str y6.1.Secret.Hash, v11, v13, str y6.1.Logout]) (ev_extract rfl rfl) (by decide) ?_
 refine sr_ev (v := .int .i64 y6.2) (ev_extract rfl rfl) (by decide) ?_
 refine sr_allocT 9 (by decide) hb.bd Tryz.zeroValue27 (by decide) ?_
 intro g15 ρ16 w17 hB19 htr18
 replace h5 := h5.mv htr18.rd
 replace h12 := h12.mv htr18.rd
 replace h14 := h14.mv htr18.rd
 replace hb := hb.trans htr18
 replace hB19 : Blk ρ16 9 w17 g15 (.cells #[str ([]), .int .i64 0, str ([]), str ([]), .int .i64 0, str ([]), (.slice none 0 0), (.slice none 0 0), str ([])] 27 (0, 0)) := hB19
 refine sr_storeT (v := .agg #[str y6.1.ID, .int .i64 y6.1.Kind, str y6.1.Tenant, str y6.1.Secret.Salt, .int .i64 y6.1.Secret.Rounds, str y6.1.Secret.Hash, v11, v13, str y6.1.Logout]) (vs := [str y6.1.ID, .int .i64 y6.1.Kind, str y6.1.Tenant, str y6.1.Secret.Salt, .int .i64 y6.1.Secret.Rounds, str y6.1.Secret.Hash, v11, v13, str y6.1.Logout]) (cs' := #[str y6.1.ID, .int .i64 y6.1.Kind, str y6.1.Tenant, str y6.1.Secret.Salt, .int .i64 y6.1.Secret.Rounds, str y6.1.Secret.Hash, v11, v13, str y6.1.Logout]) hB19 (by decide) hb.bd rfl rfl rfl Tryz.sizeOf27 rfl (by first | rfl | (simp only [List.all_cons, List.all_nil, SlR.oneCell h12, SlR.oneCell h14]; done) | (simp only [List.all_cons, List.all_nil, SlR.oneCell h12, SlR.oneCell h14]; rfl)) rfl ?_
 intro w20 hB191 htr21
 replace h5 := h5.mv htr21.rd
 replace h12 := h12.mv htr21.rd
 replace h14 := h14.mv htr21.rd
 replace hb := hb.trans htr21
 replace hB19 : Blk ρ16 9 w20 g15 (.cells #[str y6.1.ID, .int .i64 y6.1.Kind, str y6.1.Tenant, str y6.1.Secret.Salt, .int .i64 y6.1.Secret.Rounds, str y6.1.Secret.Hash, v11, v13, str y6.1.Logout] 27 (0, 0)) := hB191
 clear hB191
 refine sr_ev (v := .int .i64 y6.2) (ev_assign rfl) (by decide) ?_
 refine sr_end (l' := [(2, v4), (7, .pointer (some ⟨g15, 0, none⟩)), (8, .int .i64 y6.2)]) (.cons rfl (.cons rfl (.cons rfl (.nil _)))) ?_
 refine ke_seq ?_
 refine ke_seq ?_
 refine ke_region ?_
 refine sr_ev (v := .int .i64 y6.2) (ev_move rfl) (by decide) ?_
 refine sr_ev (v := .bool (y6.2 == 0)) (ev_eq rfl rfl) (by decide) ?_
 refine sr_ev (v := .bool (y6.2 == 0)) (ev_move rfl) (by decide) ?_
 obtain ⟨z24, hz26, hS⟩ := bind_some' hS
 refine sr_join (m := 6) (C := fun (z : Bool) w1 => z24 = z ∧ ∃ ρ1, Tr ρ16 w20 (fun _ => false) ρ1 w1) (l' := fun z => [(8, .int .i64 y6.2), (23, .bool z)]) ?_ ?_
 ·rintro _ w27 ⟨rfl, ρ28, hj25⟩
  replace hb := hb.trans hj25
  refine sr_end (l' := [(8, .int .i64 y6.2), (23, .bool z24)]) (.cons rfl (.cons rfl (.nil _))) ?_
  refine ke_cond (t := z24) rfl (fun hc35 => ?_) (fun hc35 => ?_)
  ·replace hS := ite_true' hS hc35
   refine ke_seq ?_
   refine ke_region ?_
   refine sr_ev (v := .int .i64 19) (ev_assign rfl) (by decide) ?_
   refine sr_end (l' := [(6, .int .i64 19)]) (.cons rfl (.nil _)) ?_
   cases hS
   exact ke_ret1 Tryz.func19 rfl rfl ⟨_, rfl, rfl, (hb.below (flat1_le _))⟩
  ·replace hS := ite_false' hS hc35
   refine ke_skip ?_
   refine ke_seq ?_
   refine ke_region ?_
   refine sr_ev (v := .int .i64 y6.2) (ev_move rfl) (by decide) ?_
   refine sr_ev (v := .int .i64 y6.2) (ev_assign rfl) (by decide) ?_
   refine sr_end (l' := [(6, .int .i64 y6.2)]) (.cons rfl (.nil _)) ?_
   cases hS
   exact ke_ret1 Tryz.func19 rfl rfl ⟨_, rfl, rfl, (hb.below (flat1_le _))⟩
 ·intro K23
  clear hS
  have hj25 : Tr ρ16 w20 (fun _ => false) ρ16 w20 := (Tr.refl hb.bd).weak (fun _ _ => rfl) rfl rfl
  rcases Bool.eq_false_or_eq_true (y6.2 == 0) with hg22 | hg22
  ·have hS := ite_true' hz26 hg22
   refine sr_evg (b := true) (e := 17) rfl rfl hg22 (v := v4) (ev_move rfl) (by decide) ?_
   refine sr_evg (b := true) (e := 17) rfl rfl hg22 (v := .pointer (some ⟨g15, 7, none⟩)) (ev_fieldAddr (i := 5) Tryz.underlying27 rfl Tryz.info25 rfl rfl) (by decide) ?_
   refine sr_evg (b := true) (e := 17) rfl rfl hg22 (v := v13) (ev_load Tryz.isAgg25 rfl (hB19.cell rfl)) (by decide) ?_
   obtain ⟨y30, hy31, hS⟩ := bind_some' hS
   refine sr_callg (b := true) (e := 17) rfl rfl hg22 (vs := [v4, v13]) rfl Tryz.call20 rfl (scope_Within_ok _ (hg.fr hz hb) h5.asSl h14.asSl hy31) (by decide) ?_
   rintro _ w32 ⟨rfl, hbw33⟩
   have htr34 := Tr.of_below hbw33 hb.bd
   replace hb := hb.trans htr34
   replace hj25 := (hj25.trans htr34).weak (J' := (fun _ => false)) (by intro t h; simp [rng] at h ⊢ <;> omega) rfl rfl
   refine sr_evg (b := true) (e := 17) rfl rfl hg22 (v := .bool (!y30)) (ev_not rfl) (by decide) ?_
   refine sr_ev (v := .bool (!y30)) (ev_pick_t rfl hg22 rfl) (by decide) ?_
   exact sr_weaken (l' := [(8, .int .i64 y6.2), (23, .bool (!y30))]) (.cons rfl (.cons rfl (.nil _))) (K23 (!y30) _ ⟨(Option.some.inj hS).symm, _, hj25⟩)
  ·have hS := ite_false' hz26 hg22
   refine sr_pass (e := 17) rfl rfl (by rw [hg22]; rfl) (by decide) ?_
   refine sr_pass (e := 17) rfl rfl (by rw [hg22]; rfl) (by decide) ?_
   refine sr_pass (e := 17) rfl rfl (by rw [hg22]; rfl) (by decide) ?_
   refine sr_pass (e := 17) rfl rfl (by rw [hg22]; rfl) (by decide) ?_
   refine sr_pass (e := 17) rfl rfl (by rw [hg22]; rfl) (by decide) ?_
   refine sr_ev (v := .bool false) (ev_pick_f rfl hg22 rfl) (by decide) ?_
   exact sr_weaken (l' := [(8, .int .i64 y6.2), (23, .bool false)]) (.cons rfl (.cons rfl (.nil _))) (K23 false _ ⟨(Option.some.inj hS).symm, _, hj25⟩)
theorem client_Clients_List_ok (w0 : World) (hg : Gs w0) {ρA : Tags} (hbd : ∀ b, ρA b ≠ 0 → b < w0.heap.size) (hz : Gz ρA) {τ0 : Nat → Nat} (hτ0 : ∀ p, 1 ≤ τ0 p) {r_0 : client_Clients} {gr_0 : Nat} {r : List Str} (ho0 : client_Clients.O τ0 ρA w0 gr_0 r_0) (hS : client_Clients_List r_0 = some r) :
  Calls Tryz.prog 35 #[.pointer (some ⟨gr_0, 0, none⟩)] w0 (Ret (fun v w' => ∃ x1, v = x1 ∧ SlR strC (Wb ρA) w' x1 r ∧ Below w0.heap.size w0 w')) := by
 unfold client_Clients_List at hS
 have hb := flat1_fr (ρ := ρA) (w := w0) hbd
 have hz := hz.flat1
 obtain ⟨v1, hB3, h2⟩ := ho0
 replace hB3 := hB3.mv (flat1_mv (hτ0 0))
 replace h2 := h2.mv (flat1_mv (hτ0 1))
 replace hB3 : Blk (flat1 ρA) 1 w0 gr_0 (.cells #[v1] 57 (0, 0)) := hB3
 replace h2 : MapT str api_Client.c true (flat1 ρA) 1 w0 v1 r_0.of_ := h2
 refine calls_of_ke Tryz.func35 rfl (n := 12) rfl rfl (l := [(0, .pointer (some ⟨gr_0, 0, none⟩))]) rfl ?_
 refine ke_seq ?_
 refine ke_region ?_
 refine sr_ev (v := .slice none 0 0) (ev_assign rfl) (by decide) ?_
 refine sr_end (l' := [(0, .pointer (some ⟨gr_0, 0, none⟩))]) (.cons rfl (.nil _)) ?_
 refine ke_seq ?_
 refine ke_seq ?_
 refine ke_region ?_
 refine sr_ev (v := .pointer (some ⟨gr_0, 0, none⟩)) (ev_move rfl) (by decide) ?_
 obtain ⟨y6, hy7, hS⟩ := bind_some' hS
 refine sr_call (vs := [.pointer (some ⟨gr_0, 0, none⟩)]) rfl Tryz.call50 rfl (client_Clients_ready_ok _ (hg.fr hz hb) (ρA := (flat1 ρA)) hb.bd (hz.fr hg hb) (τ0 := (fun _ => 1)) (fun _ => Nat.le_refl 1) (⟨_, hB3, h2⟩ : client_Clients.O (fun _ => 1) (flat1 ρA) w0 gr_0 r_0) hy7) (by decide) ?_
 rintro _ w8 ⟨rfl, hbw9⟩
 have htr10 := Tr.of_below hbw9 hb.bd
 replace hB3 := hB3.mv (htr10.mv (i := 1) rfl)
 replace h2 := h2.mv (htr10.mv (i := 1) rfl)
 replace hb := hb.trans htr10
 refine sr_ev (v := .bool (!y6)) (ev_not rfl) (by decide) ?_
 refine sr_end (l' := [(0, .pointer (some ⟨gr_0, 0, none⟩)), (5, .bool (!y6))]) (.cons rfl (.cons rfl (.nil _))) ?_
 refine ke_cond (t := !y6) rfl (fun hc11 => ?_) (fun hc11 => ?_)
 ·replace hS := ite_true' hS hc11
  refine ke_seq ?_
  refine ke_region ?_
  refine sr_ev (v := .slice none 0 0) (ev_assign rfl) (by decide) ?_
  refine sr_end (l' := [(2, .slice none 0 0)]) (.cons rfl (.nil _)) ?_
  cases hS
  exact ke_ret1 Tryz.func35 rfl rfl ⟨_, rfl, _, rfl, SlR.nil, (hb.below (flat1_le _))⟩
 ·replace hS := ite_false' hS hc11
  refine ke_skip ?_
  refine ke_seq ?_
  refine ke_region ?_
  refine sr_ev (v := .pointer (some ⟨gr_0, 0, none⟩)) (ev_move rfl) (by decide) ?_
  refine sr_ev (v := .pointer (some ⟨gr_0, 0, none⟩)) (ev_nilCheck rfl) (by decide) ?_
  refine sr_ev (v := .pointer (some ⟨gr_0, 0, none⟩)) (ev_fieldAddr (i := 0) Tryz.underlying57 rfl Tryz.info55 rfl rfl) (by decide) ?_
  refine sr_ev (v := v1) (ev_load Tryz.isAgg55 rfl (hB3.cell rfl)) (by decide) ?_
  obtain ⟨y12, hy13, hS⟩ := bind_some' hS
  refine sr_call (vs := [v1]) rfl Tryz.call63 rfl (keys_call (fun mb W => Tryz.maps_Keys_63 mb W) h2) (by decide) ?_
  rintro _ _ ⟨rfl, rfl⟩
  refine sr_call (vs := [.func (.func 89) #[] #[.pointer (some ⟨w8.heap.size, 0, none⟩)]]) rfl Tryz.call62 rfl (sortedKeys_ok (E := 9) Tryz.underlying9 (fun b nn D0 R w h1 h2 h3 => Tryz.slices_Sorted_keys_62_63 b nn D0 R w h1 h2 h3) (fun w => Tryz.slices_Sorted_keys_nil_62_63 w) h2 hb.bd hy13) (by decide) ?_
  rintro v14 w16 hfr18
  obtain ⟨h15, htr17⟩ := freshT (i := 13) (by decide) hb.bd hfr18
  replace hb := hb.trans htr17
  refine sr_ev (v := v14) (ev_assign rfl) (by decide) ?_
  refine sr_end (l' := [(2, v14)]) (.cons rfl (.nil _)) ?_
  have htr19 := frz_tr (ρ := (ownTags (flat1 ρA) 13 v14)) (w := w16) (i := 13) (by decide) hb.bd
  have h20 : SlR strC (Wb (frz (ownTags (flat1 ρA) 13 v14) 13)) w16 v14 y12 := (SlT.mv h15.sl (frz_mv (ρ := (ownTags (flat1 ρA) 13 v14)) (w := w16) (i := 13))).sl
  replace hb := hb.trans htr19
  cases hS
  exact ke_ret1 Tryz.func35 rfl rfl ⟨_, rfl, _, rfl, (SlR.mv h20 (flat1_back hb hbd)), (hb.below (flat1_le _))⟩
theorem ref07_Lists_L1_ok {w0 : World} (hg : Gs w0) {A0 : Nat → Prop} (hA0 : ∀ b, A0 b → b < w0.heap.size) : ∀ (n : Nat), ∀ {r : Bool} {a_0 : List Str} {b_1 : List Str} {i_5 : Int} {va_0 : Value} {vb_1 : Value}, ref07_Lists_L1 n a_0 b_1 i_5 = some r → ∀ {w : World} {A : Nat → Prop}, (Below w0.heap.size w0 w) → (∀ b, A b → b < w.heap.size) → (∀ b, A0 b → A b) → (Hp A w0.heap.size w []) → (SlR strC A w va_0 a_0) → (SlR strC A w vb_1 b_1) → KE Tryz.prog 34 (Ret (fun v w' => v = .bool r ∧ Below w0.heap.size w0 w')) 26 [.code (sub (bodyOf Tryz.f34) [2, 2, 1, 2, 2, 1]), .inLoop (sub (bodyOf Tryz.f34) [2, 2, 1, 2, 2, 1]), .inBlock 0, .code (sub (bodyOf Tryz.f34) [2, 2, 2])] [(0, va_0), (1, vb_1), (5, .int .i64 i_5)] w := by
 intro n
 induction n with
 | zero => intro r a_0 b_1 i_5 va_0 vb_1 hS; cases hS
 | succ n ih =>
  have hr0 : ∀ {r : Bool} {a_0 : List Str} {b_1 : List Str} {i_5 : Int} {va_0 : Value} {vb_1 : Value}, ref07_Lists_L1 n a_0 b_1 i_5 = some r → ∀ {w : World} {A : Nat → Prop}, (Below w0.heap.size w0 w) → (∀ b, A b → b < w.heap.size) → (∀ b, A0 b → A b) → (Hp A w0.heap.size w []) → (SlR strC A w va_0 a_0) → (SlR strC A w vb_1 b_1) → KE Tryz.prog 34 (Ret (fun v w' => v = .bool r ∧ Below w0.heap.size w0 w')) 26 [.inLoop (sub (bodyOf Tryz.f34) [2, 2, 1, 2, 2, 1]), .inBlock 0, .code (sub (bodyOf Tryz.f34) [2, 2, 2])] [(0, va_0), (1, vb_1), (5, .int .i64 i_5)] w := fun {r} {a_0} {b_1} {i_5} {va_0} {vb_1} hS {w} {A} hb hA hi hH ha_0 hb_1 => ke_inLoop (ih hS hb hA hi hH ha_0 hb_1)
  clear ih
  intro r a_0 b_1 i_5 va_0 vb_1 hS w A hb hA hi hH ha_0 hb_1
  unfold ref07_Lists_L1 at hS
  refine ke_seq ?_
  refine ke_seq ?_
  refine ke_region ?_
  refine sr_ev (v := .int .i64 i_5) (ev_move rfl) (by decide) ?_
  refine sr_ev (v := va_0) (ev_move rfl) (by decide) ?_
  refine sr_ev (v := .int .i64 (a_0.length : Int)) (ev_sllen Tryz.underlying25 rfl ha_0) (by decide) ?_
  refine sr_ev (v := .bool (decide (i_5 < (a_0.length : Int)))) (ev_lt rfl rfl) (by decide) ?_
  refine sr_end (l' := [(0, va_0), (1, vb_1), (5, .int .i64 i_5), (14, .bool (decide (i_5 < (a_0.length : Int))))]) (.cons rfl (.cons rfl (.cons rfl (.cons rfl (.nil _))))) ?_
  refine ke_cond (t := decide (i_5 < (a_0.length : Int))) rfl (fun hc6 => ?_) (fun hc6 => ?_)
  ·replace hS := ite_true' hS hc6
   refine ke_skip ?_
   refine ke_seq ?_
   refine ke_block ?_
   refine ke_seq ?_
   refine ke_region_q Tryz.mixed (by kernel_rfl) ?_
   refine sq_ev (v := va_0) (fun w1 hw1 => ev_move rfl) (by decide) ?_
   refine sq_ev (v := .int .i64 i_5) (fun w1 hw1 => ev_move rfl) (by decide) ?_
   obtain ⟨y9, hy10, hS⟩ := bind_some' hS
   obtain ⟨b11, o12, cs14, he13, hixhe13⟩ := ha_0.elem Tryz.underlying25 Tryz.info9 rfl (P := Tryz.prog) hy10
   obtain rfl : cs14 = [str y9] := he13.rd
   refine sq_ev (v := .pointer (some ⟨b11, o12, none⟩)) (fun w1 hw1 => hixhe13 w1 hw1 rfl rfl) (by decide) ?_
   refine sq_ev (v := str y9) (fun w1 hw1 => ev_load Tryz.isAgg9 rfl ((he13.step (.of_below hw1) (Nat.succ_pos _)).cell 0 _ rfl)) (by decide) ?_
   refine sq_ev (v := vb_1) (fun w1 hw1 => ev_move rfl) (by decide) ?_
   refine sq_ev (v := .int .i64 i_5) (fun w1 hw1 => ev_move rfl) (by decide) ?_
   obtain ⟨y15, hy16, hS⟩ := bind_some' hS
   obtain ⟨b17, o18, cs20, he19, hixhe19⟩ := hb_1.elem Tryz.underlying25 Tryz.info9 rfl (P := Tryz.prog) hy16
   obtain rfl : cs20 = [str y15] := he19.rd
   refine sq_ev (v := .pointer (some ⟨b17, o18, none⟩)) (fun w1 hw1 => hixhe19 w1 hw1 rfl rfl) (by decide) ?_
   refine sq_ev (v := str y15) (fun w1 hw1 => ev_load Tryz.isAgg9 rfl ((he19.step (.of_below hw1) (Nat.succ_pos _)).cell 0 _ rfl)) (by decide) ?_
   refine sq_ev (v := .bool (!(y9 == y15))) (fun w1 hw1 => ev_sne rfl rfl) (by decide) ?_
   refine sq_end (l' := [(0, va_0), (1, vb_1), (5, .int .i64 i_5), (25, .bool (!(y9 == y15)))]) (.cons rfl (.cons rfl (.cons rfl (.cons rfl (.nil _))))) (fun w8 hw7 => ?_)
   replace hb := hb.trans (hw7.mono hb.size)
   replace hA := lt_mono hA hw7.size
   replace hH := hH.below hw7
   replace ha_0 := ha_0.below hw7
   replace hb_1 := hb_1.below hw7
   refine ke_cond (t := !(y9 == y15)) rfl (fun hc21 => ?_) (fun hc21 => ?_)
   ·replace hS := ite_true' hS hc21
    refine ke_seq ?_
    refine ke_region ?_
    refine sr_ev (v := .bool false) (ev_assign rfl) (by decide) ?_
    refine sr_end (l' := [(4, .bool false)]) (.cons rfl (.nil _)) ?_
    cases hS
    exact ke_ret1 Tryz.func34 rfl rfl ⟨_, rfl, rfl, hb⟩
   ·replace hS := ite_false' hS hc21
    refine ke_skip ?_
    refine ke_inBlock ?_
    refine ke_region ?_
    refine sr_ev (v := .int .i64 i_5) (ev_move rfl) (by decide) ?_
    refine sr_ev (v := .int .i64 (IntKind.i64.wrap (i_5 + 1))) (ev_add rfl rfl) (by decide) ?_
    refine sr_ev (v := .int .i64 (IntKind.i64.wrap (i_5 + 1))) (ev_assign rfl) (by decide) ?_
    refine sr_end (l' := [(0, va_0), (1, vb_1), (5, .int .i64 (IntKind.i64.wrap (i_5 + 1)))]) (.cons rfl (.cons rfl (.cons rfl (.nil _)))) ?_
    have hK := hr0 hS hb hA hi hH ha_0 hb_1
    exact ke_weaken (l' := [(0, va_0), (1, vb_1), (5, .int .i64 (IntKind.i64.wrap (i_5 + 1)))]) (.cons rfl (.cons rfl (.cons rfl (.nil _)))) hK
  ·replace hS := ite_false' hS hc6
   refine ke_exit (k' := _) rfl ?_
   refine ke_seq ?_
   refine ke_region ?_
   refine sr_ev (v := .bool true) (ev_assign rfl) (by decide) ?_
   refine sr_end (l' := [(4, .bool true)]) (.cons rfl (.nil _)) ?_
   cases hS
   exact ke_ret1 Tryz.func34 rfl rfl ⟨_, rfl, rfl, hb⟩
theorem ref07_Lists_ok {A0 : Nat → Prop} (w0 : World) (hg : Gs w0) {a_0 : List Str} {b_1 : List Str} {v1 : Value} {v3 : Value} {r : Bool} (h2 : SlR strC A0 w0 v1 a_0) (h4 : SlR strC A0 w0 v3 b_1) (hS : ref07_Lists a_0 b_1 = some r) :
  Calls Tryz.prog 34 #[v1, v3] w0 (Ret (fun v w' => v = .bool r ∧ Below w0.heap.size w0 w')) := by
 unfold ref07_Lists at hS
 have hb := Below.refl w0.heap.size w0
 replace h2 := h2.weak (A' := fun _ => False) (fun _ h => h.elim)
 replace h4 := h4.weak (A' := fun _ => False) (fun _ h => h.elim)
 obtain ⟨A0, hA0, hAe⟩ : ∃ A0 : Nat → Prop, (∀ b, A0 b → b < w0.heap.size) ∧ A0 = fun _ => False := ⟨_, fun _ h => h.elim, rfl⟩
 rw [← hAe] at h2
 rw [← hAe] at h4
 clear hAe
 have hA := hA0
 have hi : ∀ b, A0 b → A0 b := fun _ h => h
 have hH := Hp.nil A0 w0.heap.size w0
 refine calls_of_ke Tryz.func34 rfl (n := 26) rfl rfl (l := [(0, v1), (1, v3)]) rfl ?_
 refine ke_seq ?_
 refine ke_region ?_
 refine sr_ev (v := .bool false) (ev_assign rfl) (by decide) ?_
 refine sr_end (l' := [(0, v1), (1, v3)]) (.cons rfl (.cons rfl (.nil _))) ?_
 refine ke_seq ?_
 refine ke_seq ?_
 refine ke_region ?_
 refine sr_ev (v := v1) (ev_move rfl) (by decide) ?_
 refine sr_ev (v := .int .i64 (a_0.length : Int)) (ev_sllen Tryz.underlying25 rfl h2) (by decide) ?_
 refine sr_ev (v := v3) (ev_move rfl) (by decide) ?_
 refine sr_ev (v := .int .i64 (b_1.length : Int)) (ev_sllen Tryz.underlying25 rfl h4) (by decide) ?_
 refine sr_ev (v := .bool ((a_0.length : Int) != (b_1.length : Int))) (ev_ne rfl rfl) (by decide) ?_
 refine sr_end (l' := [(0, v1), (1, v3), (10, .bool ((a_0.length : Int) != (b_1.length : Int)))]) (.cons rfl (.cons rfl (.cons rfl (.nil _)))) ?_
 refine ke_cond (t := (a_0.length : Int) != (b_1.length : Int)) rfl (fun hc5 => ?_) (fun hc5 => ?_)
 ·replace hS := ite_true' hS hc5
  refine ke_seq ?_
  refine ke_region ?_
  refine sr_ev (v := .bool false) (ev_assign rfl) (by decide) ?_
  refine sr_end (l' := [(4, .bool false)]) (.cons rfl (.nil _)) ?_
  cases hS
  exact ke_ret1 Tryz.func34 rfl rfl ⟨_, rfl, rfl, hb⟩
 ·replace hS := ite_false' hS hc5
  refine ke_skip ?_
  refine ke_seq ?_
  refine ke_seq ?_
  refine ke_region ?_
  refine sr_ev (v := .int .i64 0) (ev_assign rfl) (by decide) ?_
  refine sr_end (l' := [(0, v1), (1, v3), (5, .int .i64 0)]) (.cons rfl (.cons rfl (.cons rfl (.nil _)))) ?_
  refine ke_block ?_
  have hK := ref07_Lists_L1_ok hg hA0 _ hS hb hA hi hH h2 h4
  exact ke_weaken (l' := [(0, v1), (1, v3), (5, .int .i64 0)]) (.cons rfl (.cons rfl (.cons rfl (.nil _)))) (ke_loop hK)
theorem client_Clients_Remove_B1_ok {w0 : World} (hg : Gs w0) {ρA : Tags} (hbd : ∀ b, ρA b ≠ 0 → b < w0.heap.size) {o : Nat} (ho2 : 2 ≤ o) {gr_0 : Nat} (hz : Gz (enter ρA o 2)) {r : Bool × client_Clients} {e_6 : Int} {ogr_0 : client_Clients} (hS : client_Clients_Remove_B1 e_6 ogr_0 = some r) {ρ : Tags} {w : World} (hb : Fr (enter ρA o 2) w0 ρ w) (hogr_0 : client_Clients.O (fun p => 100 + p) ρ w gr_0 ogr_0) :
  KE Tryz.prog 32 (Ret (fun v w' => ∃ ρ', v = .bool r.1 ∧ client_Clients.O (fun p => o + p) ρ' w' gr_0 r.2 ∧ Tr ρA w0 (rng o 2) ρ' w')) 22 [.code (sub (bodyOf Tryz.f32) [2, 2, 2])] [(6, .int .i64 e_6)] w := by
 unfold client_Clients_Remove_B1 at hS
 obtain ⟨v23, hB25, h24⟩ := hogr_0
 replace hB25 : Blk ρ 100 w gr_0 (.cells #[v23] 57 (0, 0)) := hB25
 replace h24 : MapT str api_Client.c true ρ 101 w v23 ogr_0.of_ := h24
 refine ke_seq ?_
 refine ke_region ?_
 refine sr_ev (v := .int .i64 e_6) (ev_move rfl) (by decide) ?_
 refine sr_ev (v := .bool (e_6 == 0)) (ev_eq rfl rfl) (by decide) ?_
 refine sr_ev (v := .bool (e_6 == 0)) (ev_assign rfl) (by decide) ?_
 refine sr_end (l' := [(4, .bool (e_6 == 0))]) (.cons rfl (.nil _)) ?_
 cases hS
 exact ke_ret1 Tryz.func32 rfl rfl ⟨_, rfl, leave ρA w0 o 2 ρ, rfl, ⟨_, (hB25.mv (leave_mv (p := 0) (by decide) hb)), (h24.mv (leave_mv (p := 1) (by decide) hb))⟩, (leave_tr ho2 hb)⟩
theorem client_Clients_Remove_ok (w0 : World) (hg : Gs w0) {ρA : Tags} (hbd : ∀ b, ρA b ≠ 0 → b < w0.heap.size) (hz : Gz ρA) {o : Nat} (ho2 : 2 ≤ o) {r_0 : client_Clients} {id_1 : Str} {gr_0 : Nat} {r : Bool × client_Clients} (ho0 : client_Clients.O (fun p => o + p) ρA w0 gr_0 r_0) (hS : client_Clients_Remove r_0 id_1 = some r) :
  Calls Tryz.prog 32 #[.pointer (some ⟨gr_0, 0, none⟩), str id_1] w0 (Ret (fun v w' => ∃ ρ', v = .bool r.1 ∧ client_Clients.O (fun p => o + p) ρ' w' gr_0 r.2 ∧ Tr ρA w0 (rng o 2) ρ' w')) := by
 unfold client_Clients_Remove at hS
 have hb := enter_fr (ρ := ρA) (w := w0) (n := 2) ho2 hbd
 have hz := hz.enter (n := 2) ho2
 obtain ⟨v1, hB3, h2⟩ := ho0
 replace hB3 := hB3.mv (enter_mv (p := 0) (n := 2) (by decide) ho2)
 replace h2 := h2.mv (enter_mv (p := 1) (n := 2) (by decide) ho2)
 replace hB3 : Blk (enter ρA o 2) 100 w0 gr_0 (.cells #[v1] 57 (0, 0)) := hB3
 replace h2 : MapT str api_Client.c true (enter ρA o 2) 101 w0 v1 r_0.of_ := h2
 refine calls_of_ke Tryz.func32 rfl (n := 22) rfl rfl (l := [(0, .pointer (some ⟨gr_0, 0, none⟩)), (1, str id_1)]) rfl ?_
 refine ke_seq ?_
 refine ke_region ?_
 refine sr_ev (v := .bool false) (ev_assign rfl) (by decide) ?_
 refine sr_end (l' := [(0, .pointer (some ⟨gr_0, 0, none⟩)), (1, str id_1)]) (.cons rfl (.cons rfl (.nil _))) ?_
 refine ke_seq ?_
 refine ke_region ?_
 refine sr_ev (v := .pointer (some ⟨gr_0, 0, none⟩)) (ev_move rfl) (by decide) ?_
 refine sr_ev (v := str id_1) (ev_move rfl) (by decide) ?_
 obtain ⟨y4, hy5, hS⟩ := bind_some' hS
 refine sr_call (vs := [.pointer (some ⟨gr_0, 0, none⟩), str id_1]) rfl Tryz.call54 rfl (client_Clients_find_ok _ (hg.fr hz hb) (ρA := (enter ρA o 2)) hb.bd (hz.fr hg hb) (τ0 := (fun p => 100 + p)) (fun p => Nat.le_add_right_of_le (by decide)) (⟨_, hB3, h2⟩ : client_Clients.O (fun p => 100 + p) (enter ρA o 2) w0 gr_0 r_0) hy5) (by decide) ?_
 rintro _ w6 ⟨v9, v11, rfl, h10, h12, hbw7⟩
 have htr8 := Tr.of_below hbw7 hb.bd
 replace hB3 := hB3.mv (htr8.mv (i := 100) rfl)
 replace h2 := h2.mv (htr8.mv (i := 101) rfl)
 replace hb := hb.trans htr8
 refine sr_ev (v := .tuple #[.agg #[str y4.1.ID, .int .i64 y4.1.Kind, str y4.1.Tenant, str y4.1.Secret.Salt, .int .i64 y4.1.Secret.Rounds, str y4.1.Secret.Hash, v9, v11, str y4.1.Logout], .int .i64 y4.2]) (ev_move rfl) (by decide) ?_
 refine sr_ev (v := .agg #[str y4.1.ID, .int .i64 y4.1.Kind, str y4.1.Tenant, str y4.1.Secret.Salt, .int .i64 y4.1.Secret.Rounds, str y4.1.Secret.Hash, v9, v11, str y4.1.Logout]) (ev_extract rfl rfl) (by decide) ?_
 refine sr_ev (v := .int .i64 y4.2) (ev_extract rfl rfl) (by decide) ?_
 refine sr_allocT 7 (by decide) hb.bd Tryz.zeroValue27 (by decide) ?_
 intro g13 ρ14 w15 hB17 htr16
 replace h10 := h10.mv htr16.rd
 replace h12 := h12.mv htr16.rd
 replace hB3 := hB3.mv (htr16.mv (i := 100) rfl)
 replace h2 := h2.mv (htr16.mv (i := 101) rfl)
 replace hb := hb.trans htr16
 replace hB17 : Blk ρ14 7 w15 g13 (.cells #[str ([]), .int .i64 0, str ([]), str ([]), .int .i64 0, str ([]), (.slice none 0 0), (.slice none 0 0), str ([])] 27 (0, 0)) := hB17
 refine sr_storeT (v := .agg #[str y4.1.ID, .int .i64 y4.1.Kind, str y4.1.Tenant, str y4.1.Secret.Salt, .int .i64 y4.1.Secret.Rounds, str y4.1.Secret.Hash, v9, v11, str y4.1.Logout]) (vs := [str y4.1.ID, .int .i64 y4.1.Kind, str y4.1.Tenant, str y4.1.Secret.Salt, .int .i64 y4.1.Secret.Rounds, str y4.1.Secret.Hash, v9, v11, str y4.1.Logout]) (cs' := #[str y4.1.ID, .int .i64 y4.1.Kind, str y4.1.Tenant, str y4.1.Secret.Salt, .int .i64 y4.1.Secret.Rounds, str y4.1.Secret.Hash, v9, v11, str y4.1.Logout]) hB17 (by decide) hb.bd rfl rfl rfl Tryz.sizeOf27 rfl (by first | rfl | (simp only [List.all_cons, List.all_nil, SlR.oneCell h10, SlR.oneCell h12]; done) | (simp only [List.all_cons, List.all_nil, SlR.oneCell h10, SlR.oneCell h12]; rfl)) rfl ?_
 intro w18 hB171 htr19
 replace h10 := h10.mv htr19.rd
 replace h12 := h12.mv htr19.rd
 replace hB3 := hB3.mv (htr19.mv (i := 100) rfl)
 replace h2 := h2.mv (htr19.mv (i := 101) rfl)
 replace hb := hb.trans htr19
 replace hB17 : Blk ρ14 7 w18 g13 (.cells #[str y4.1.ID, .int .i64 y4.1.Kind, str y4.1.Tenant, str y4.1.Secret.Salt, .int .i64 y4.1.Secret.Rounds, str y4.1.Secret.Hash, v9, v11, str y4.1.Logout] 27 (0, 0)) := hB171
 clear hB171
 refine sr_ev (v := .int .i64 y4.2) (ev_assign rfl) (by decide) ?_
 refine sr_end (l' := [(0, .pointer (some ⟨gr_0, 0, none⟩)), (1, str id_1), (6, .int .i64 y4.2)]) (.cons rfl (.cons rfl (.cons rfl (.nil _)))) ?_
 refine ke_seq ?_
 refine ke_seq ?_
 refine ke_region ?_
 refine sr_ev (v := .int .i64 y4.2) (ev_move rfl) (by decide) ?_
 refine sr_ev (v := .bool (y4.2 == 0)) (ev_eq rfl rfl) (by decide) ?_
 refine sr_end (l' := [(0, .pointer (some ⟨gr_0, 0, none⟩)), (1, str id_1), (6, .int .i64 y4.2), (14, .bool (y4.2 == 0))]) (.cons rfl (.cons rfl (.cons rfl (.cons rfl (.nil _))))) ?_
 refine ke_cond (t := y4.2 == 0) rfl (fun hc20 => ?_) (fun hc20 => ?_)
 ·replace hS := ite_true' hS hc20
  refine ke_region ?_
  refine sr_ev (v := .pointer (some ⟨gr_0, 0, none⟩)) (ev_move rfl) (by decide) ?_
  refine sr_ev (v := .pointer (some ⟨gr_0, 0, none⟩)) (ev_nilCheck rfl) (by decide) ?_
  refine sr_ev (v := .pointer (some ⟨gr_0, 0, none⟩)) (ev_fieldAddr (i := 0) Tryz.underlying57 rfl Tryz.info55 rfl rfl) (by decide) ?_
  refine sr_ev (v := v1) (ev_load Tryz.isAgg55 rfl (hB3.cell rfl)) (by decide) ?_
  refine sr_ev (v := str id_1) (ev_move rfl) (by decide) ?_
  refine sr_mapDel0 (k := id_1) h2 Tryz.keyB9 Tryz.underlying55 (by decide) hb.bd rfl rfl ?_
  intro w21 h21 htr22
  replace hB3 := hB3.mv (htr22.mv (i := 100) rfl)
  replace hb := hb.trans htr22
  replace h2 := h21
  clear h21
  refine sr_end (l' := [(6, .int .i64 y4.2)]) (.cons rfl (.nil _)) ?_
  have hK := client_Clients_Remove_B1_ok hg hbd ho2 hz hS hb ⟨_, hB3, h2⟩
  exact ke_weaken (l' := [(6, .int .i64 y4.2)]) (.cons rfl (.nil _)) hK
 ·replace hS := ite_false' hS hc20
  refine ke_skip ?_
  have hK := client_Clients_Remove_B1_ok hg hbd ho2 hz hS hb ⟨_, hB3, h2⟩
  exact ke_weaken (l' := [(6, .int .i64 y4.2)]) (.cons rfl (.nil _)) hK
theorem law36_alive_ok (w0 : World) (hg : Gs w0) {ρA : Tags} (hbd : ∀ b, ρA b ≠ 0 → b < w0.heap.size) (hz : Gz ρA) {r : Bool} (hS : law36_alive = some r) :
  Calls Tryz.prog 11 #[] w0 (Ret (fun v w' => v = .bool r ∧ Below w0.heap.size w0 w')) := by
 unfold law36_alive at hS
 have hb := flat1_fr (ρ := ρA) (w := w0) hbd
 have hz := hz.flat1
 refine calls_of_ke Tryz.func11 rfl (n := 88) rfl rfl (l := []) rfl ?_
 refine ke_seq ?_
 refine ke_region ?_
 refine sr_ev (v := .bool false) (ev_assign rfl) (by decide) ?_
 refine sr_end (l' := []) (.nil _) ?_
 refine ke_seq ?_
 refine ke_region ?_
 obtain ⟨y1, hy2, hS⟩ := bind_some' hS
 refine sr_call (vs := []) rfl Tryz.call15 rfl (client_New_ok _ (hg.fr hz hb) (ρA := (flat1 ρA)) hb.bd (hz.fr hg hb) (o := 100) (by decide) hy2) (by decide) ?_
 rintro _ w3 ⟨ρ10, g6, rfl, ⟨v7, hB9, h8⟩, htr5⟩
 replace hb := hb.trans htr5
 replace hB9 : Blk ρ10 100 w3 g6 (.cells #[v7] 57 (0, 0)) := hB9
 replace h8 : MapT str api_Client.c true ρ10 101 w3 v7 y1.of_ := h8
 refine sr_ev (v := .pointer (some ⟨g6, 0, none⟩)) (ev_assign rfl) (by decide) ?_
 refine sr_end (l' := [(1, .pointer (some ⟨g6, 0, none⟩))]) (.cons rfl (.nil _)) ?_
 refine ke_seq ?_
 refine ke_seq ?_
 refine ke_region ?_
 refine sr_ev (v := .pointer (some ⟨g6, 0, none⟩)) (ev_move rfl) (by decide) ?_
 refine sr_ev (v := .bool false) (ev_peqT_some Tryz.underlying33 rfl rfl) (by decide) ?_
 refine sr_end (l' := [(1, .pointer (some ⟨g6, 0, none⟩)), (8, .bool false)]) (.cons rfl (.cons rfl (.nil _))) ?_
 refine ke_cond (t := false) rfl (fun h => by cases h) (fun _ => ?_)
 refine ke_skip ?_
 refine ke_seq ?_
 refine ke_region ?_
 refine sr_ev (v := .pointer (some ⟨g6, 0, none⟩)) (ev_move rfl) (by decide) ?_
 obtain ⟨y11, hy12, hS⟩ := bind_some' hS
 refine sr_call (vs := []) rfl Tryz.call16 rfl (law36_app_ok _ (hg.fr hz hb) (ρA := ρ10) hb.bd (hz.fr hg hb) hy12) (by decide) ?_
 rintro _ w13 ⟨v16, v18, rfl, h17, h19, hbw14⟩
 have htr15 := Tr.of_below hbw14 hb.bd
 replace hB9 := hB9.mv (htr15.mv (i := 100) rfl)
 replace h8 := h8.mv (htr15.mv (i := 101) rfl)
 replace hb := hb.trans htr15
 obtain ⟨y20, hy21, hS⟩ := bind_some' hS
 refine sr_call (vs := [.pointer (some ⟨g6, 0, none⟩), .agg #[str y11.ID, .int .i64 y11.Kind, str y11.Tenant, str y11.Secret.Salt, .int .i64 y11.Secret.Rounds, str y11.Secret.Hash, v16, v18, str y11.Logout]]) rfl Tryz.call17 rfl (client_Clients_Register_ok _ (hg.fr hz hb) (ρA := ρ10) hb.bd (hz.fr hg hb) (o := 100) (by decide) h17 h19 (⟨_, hB9, h8⟩ : client_Clients.O (fun p => 100 + p) ρ10 w13 g6 y1) hy21) (by decide) ?_
 rintro _ w22 ⟨ρ28, rfl, ⟨v25, hB27, h26⟩, htr24⟩
 replace hb := hb.trans htr24
 replace hB27 : Blk ρ28 100 w22 g6 (.cells #[v25] 57 (0, 0)) := hB27
 replace h26 : MapT str api_Client.c true ρ28 101 w22 v25 y20.2.of_ := h26
 refine sr_ev (v := .int .i64 y20.1) (ev_assign rfl) (by decide) ?_
 refine sr_end (l' := [(1, .pointer (some ⟨g6, 0, none⟩)), (2, .int .i64 y20.1)]) (.cons rfl (.cons rfl (.nil _))) ?_
 refine ke_seq ?_
 refine ke_region ?_
 obtain ⟨y29, hy30, hS⟩ := bind_some' hS
 refine sr_call (vs := []) rfl Tryz.call16 rfl (law36_app_ok _ (hg.fr hz hb) (ρA := ρ28) hb.bd (hz.fr hg hb) hy30) (by decide) ?_
 rintro _ w31 ⟨v34, v36, rfl, h35, h37, hbw32⟩
 have htr33 := Tr.of_below hbw32 hb.bd
 replace hB27 := hB27.mv (htr33.mv (i := 100) rfl)
 replace h26 := h26.mv (htr33.mv (i := 101) rfl)
 replace hb := hb.trans htr33
 obtain ⟨y38, hy39, hS⟩ := bind_some' hS
 refine sr_call (vs := []) rfl Tryz.call16 rfl (law36_app_ok _ (hg.fr hz hb) (ρA := ρ28) hb.bd (hz.fr hg hb) hy39) (by decide) ?_
 rintro _ w40 ⟨v43, v45, rfl, h44, h46, hbw41⟩
 have htr42 := Tr.of_below hbw41 hb.bd
 replace h35 := h35.mv htr42.rd
 replace h37 := h37.mv htr42.rd
 replace hB27 := hB27.mv (htr42.mv (i := 100) rfl)
 replace h26 := h26.mv (htr42.mv (i := 101) rfl)
 replace hb := hb.trans htr42
 obtain ⟨y47, hy48, hS⟩ := bind_some' hS
 refine sr_call (vs := []) rfl Tryz.call16 rfl (law36_app_ok _ (hg.fr hz hb) (ρA := ρ28) hb.bd (hz.fr hg hb) hy48) (by decide) ?_
 rintro _ w49 ⟨v52, v54, rfl, h53, h55, hbw50⟩
 have htr51 := Tr.of_below hbw50 hb.bd
 replace h35 := h35.mv htr51.rd
 replace h37 := h37.mv htr51.rd
 replace h44 := h44.mv htr51.rd
 replace h46 := h46.mv htr51.rd
 replace hB27 := hB27.mv (htr51.mv (i := 100) rfl)
 replace h26 := h26.mv (htr51.mv (i := 101) rfl)
 replace hb := hb.trans htr51
 refine sr_allocT 5 (by decide) hb.bd Tryz.zeroValue27 (by decide) ?_
 intro g56 ρ57 w58 hB60 htr59
 replace h35 := h35.mv htr59.rd
 replace h37 := h37.mv htr59.rd
 replace h44 := h44.mv htr59.rd
 replace h46 := h46.mv htr59.rd
 replace h53 := h53.mv htr59.rd
 replace h55 := h55.mv htr59.rd
 replace hB27 := hB27.mv (htr59.mv (i := 100) rfl)
 replace h26 := h26.mv (htr59.mv (i := 101) rfl)
 replace hb := hb.trans htr59
 replace hB60 : Blk ρ57 5 w58 g56 (.cells #[str ([]), .int .i64 0, str ([]), str ([]), .int .i64 0, str ([]), (.slice none 0 0), (.slice none 0 0), str ([])] 27 (0, 0)) := hB60
 refine sr_allocT 6 (by decide) hb.bd Tryz.zeroValue27 (by decide) ?_
 intro g61 ρ62 w63 hB65 htr64
 replace h35 := h35.mv htr64.rd
 replace h37 := h37.mv htr64.rd
 replace h44 := h44.mv htr64.rd
 replace h46 := h46.mv htr64.rd
 replace h53 := h53.mv htr64.rd
 replace h55 := h55.mv htr64.rd
 replace hB60 := hB60.mv (htr64.mv (i := 5) rfl)
 replace hB27 := hB27.mv (htr64.mv (i := 100) rfl)
 replace h26 := h26.mv (htr64.mv (i := 101) rfl)
 replace hb := hb.trans htr64
 replace hB65 : Blk ρ62 6 w63 g61 (.cells #[str ([]), .int .i64 0, str ([]), str ([]), .int .i64 0, str ([]), (.slice none 0 0), (.slice none 0 0), str ([])] 27 (0, 0)) := hB65
 refine sr_allocT 7 (by decide) hb.bd Tryz.zeroValue27 (by decide) ?_
 intro g66 ρ67 w68 hB70 htr69
 replace h35 := h35.mv htr69.rd
 replace h37 := h37.mv htr69.rd
 replace h44 := h44.mv htr69.rd
 replace h46 := h46.mv htr69.rd
 replace h53 := h53.mv htr69.rd
 replace h55 := h55.mv htr69.rd
 replace hB65 := hB65.mv (htr69.mv (i := 6) rfl)
 replace hB60 := hB60.mv (htr69.mv (i := 5) rfl)
 replace hB27 := hB27.mv (htr69.mv (i := 100) rfl)
 replace h26 := h26.mv (htr69.mv (i := 101) rfl)
 replace hb := hb.trans htr69
 replace hB70 : Blk ρ67 7 w68 g66 (.cells #[str ([]), .int .i64 0, str ([]), str ([]), .int .i64 0, str ([]), (.slice none 0 0), (.slice none 0 0), str ([])] 27 (0, 0)) := hB70
 refine sr_storeT (v := .agg #[str y29.ID, .int .i64 y29.Kind, str y29.Tenant, str y29.Secret.Salt, .int .i64 y29.Secret.Rounds, str y29.Secret.Hash, v34, v36, str y29.Logout]) (vs := [str y29.ID, .int .i64 y29.Kind, str y29.Tenant, str y29.Secret.Salt, .int .i64 y29.Secret.Rounds, str y29.Secret.Hash, v34, v36, str y29.Logout]) (cs' := #[str y29.ID, .int .i64 y29.Kind, str y29.Tenant, str y29.Secret.Salt, .int .i64 y29.Secret.Rounds, str y29.Secret.Hash, v34, v36, str y29.Logout]) hB60 (by decide) hb.bd rfl rfl rfl Tryz.sizeOf27 rfl (by first | rfl | (simp only [List.all_cons, List.all_nil, SlR.oneCell h35, SlR.oneCell h37]; done) | (simp only [List.all_cons, List.all_nil, SlR.oneCell h35, SlR.oneCell h37]; rfl)) rfl ?_
 intro w71 hB601 htr72
 replace h44 := h44.mv htr72.rd
 replace h46 := h46.mv htr72.rd
 replace h53 := h53.mv htr72.rd
 replace h55 := h55.mv htr72.rd
 replace hB70 := hB70.mv (htr72.mv (i := 7) rfl)
 replace hB65 := hB65.mv (htr72.mv (i := 6) rfl)
 replace h35 := h35.mv htr72.rd
 replace h37 := h37.mv htr72.rd
 replace hB27 := hB27.mv (htr72.mv (i := 100) rfl)
 replace h26 := h26.mv (htr72.mv (i := 101) rfl)
 replace hb := hb.trans htr72
 replace hB60 : Blk ρ67 5 w71 g56 (.cells #[str y29.ID, .int .i64 y29.Kind, str y29.Tenant, str y29.Secret.Salt, .int .i64 y29.Secret.Rounds, str y29.Secret.Hash, v34, v36, str y29.Logout] 27 (0, 0)) := hB601
 clear hB601
 refine sr_storeT (v := .agg #[str y38.ID, .int .i64 y38.Kind, str y38.Tenant, str y38.Secret.Salt, .int .i64 y38.Secret.Rounds, str y38.Secret.Hash, v43, v45, str y38.Logout]) (vs := [str y38.ID, .int .i64 y38.Kind, str y38.Tenant, str y38.Secret.Salt, .int .i64 y38.Secret.Rounds, str y38.Secret.Hash, v43, v45, str y38.Logout]) (cs' := #[str y38.ID, .int .i64 y38.Kind, str y38.Tenant, str y38.Secret.Salt, .int .i64 y38.Secret.Rounds, str y38.Secret.Hash, v43, v45, str y38.Logout]) hB65 (by decide) hb.bd rfl rfl rfl Tryz.sizeOf27 rfl (by first | rfl | (simp only [List.all_cons, List.all_nil, SlR.oneCell h44, SlR.oneCell h46]; done) | (simp only [List.all_cons, List.all_nil, SlR.oneCell h44, SlR.oneCell h46]; rfl)) rfl ?_
 intro w73 hB651 htr74
 replace h53 := h53.mv htr74.rd
 replace h55 := h55.mv htr74.rd
 replace hB70 := hB70.mv (htr74.mv (i := 7) rfl)
 replace h44 := h44.mv htr74.rd
 replace h46 := h46.mv htr74.rd
 replace hB60 := hB60.mv (htr74.mv (i := 5) rfl)
 replace h35 := h35.mv htr74.rd
 replace h37 := h37.mv htr74.rd
 replace hB27 := hB27.mv (htr74.mv (i := 100) rfl)
 replace h26 := h26.mv (htr74.mv (i := 101) rfl)
 replace hb := hb.trans htr74
 replace hB65 : Blk ρ67 6 w73 g61 (.cells #[str y38.ID, .int .i64 y38.Kind, str y38.Tenant, str y38.Secret.Salt, .int .i64 y38.Secret.Rounds, str y38.Secret.Hash, v43, v45, str y38.Logout] 27 (0, 0)) := hB651
 clear hB651
 refine sr_storeT (v := .agg #[str y47.ID, .int .i64 y47.Kind, str y47.Tenant, str y47.Secret.Salt, .int .i64 y47.Secret.Rounds, str y47.Secret.Hash, v52, v54, str y47.Logout]) (vs := [str y47.ID, .int .i64 y47.Kind, str y47.Tenant, str y47.Secret.Salt, .int .i64 y47.Secret.Rounds, str y47.Secret.Hash, v52, v54, str y47.Logout]) (cs' := #[str y47.ID, .int .i64 y47.Kind, str y47.Tenant, str y47.Secret.Salt, .int .i64 y47.Secret.Rounds, str y47.Secret.Hash, v52, v54, str y47.Logout]) hB70 (by decide) hb.bd rfl rfl rfl Tryz.sizeOf27 rfl (by first | rfl | (simp only [List.all_cons, List.all_nil, SlR.oneCell h53, SlR.oneCell h55]; done) | (simp only [List.all_cons, List.all_nil, SlR.oneCell h53, SlR.oneCell h55]; rfl)) rfl ?_
 intro w75 hB701 htr76
 replace h53 := h53.mv htr76.rd
 replace h55 := h55.mv htr76.rd
 replace hB65 := hB65.mv (htr76.mv (i := 6) rfl)
 replace h44 := h44.mv htr76.rd
 replace h46 := h46.mv htr76.rd
 replace hB60 := hB60.mv (htr76.mv (i := 5) rfl)
 replace h35 := h35.mv htr76.rd
 replace h37 := h37.mv htr76.rd
 replace hB27 := hB27.mv (htr76.mv (i := 100) rfl)
 replace h26 := h26.mv (htr76.mv (i := 101) rfl)
 replace hb := hb.trans htr76
 replace hB70 : Blk ρ67 7 w75 g66 (.cells #[str y47.ID, .int .i64 y47.Kind, str y47.Tenant, str y47.Secret.Salt, .int .i64 y47.Secret.Rounds, str y47.Secret.Hash, v52, v54, str y47.Logout] 27 (0, 0)) := hB701
 clear hB701
 refine sr_end (l' := [(1, .pointer (some ⟨g6, 0, none⟩)), (2, .int .i64 y20.1), (3, .pointer (some ⟨g56, 0, none⟩)), (4, .pointer (some ⟨g61, 0, none⟩)), (5, .pointer (some ⟨g66, 0, none⟩))]) (.cons rfl (.cons rfl (.cons rfl (.cons rfl (.cons rfl (.nil _)))))) ?_
 refine ke_seq ?_
 refine ke_region ?_
 refine sr_ev (v := .pointer (some ⟨g56, 1, none⟩)) (ev_fieldAddr (i := 1) Tryz.underlying27 rfl Tryz.info22 rfl rfl) (by decide) ?_
 refine sr_storeT (v := .int .i64 2) (vs := [.int .i64 2]) (cs' := #[str y29.ID, .int .i64 2, str y29.Tenant, str y29.Secret.Salt, .int .i64 y29.Secret.Rounds, str y29.Secret.Hash, v34, v36, str y29.Logout]) hB60 (by decide) hb.bd rfl rfl rfl Tryz.sizeOf22 rfl rfl rfl ?_
 intro w77 hB601 htr78
 replace hB70 := hB70.mv (htr78.mv (i := 7) rfl)
 replace h53 := h53.mv htr78.rd
 replace h55 := h55.mv htr78.rd
 replace hB65 := hB65.mv (htr78.mv (i := 6) rfl)
 replace h44 := h44.mv htr78.rd
 replace h46 := h46.mv htr78.rd
 replace h35 := h35.mv htr78.rd
 replace h37 := h37.mv htr78.rd
 replace hB27 := hB27.mv (htr78.mv (i := 100) rfl)
 replace h26 := h26.mv (htr78.mv (i := 101) rfl)
 replace hb := hb.trans htr78
 replace hB60 : Blk ρ67 5 w77 g56 (.cells #[str y29.ID, .int .i64 2, str y29.Tenant, str y29.Secret.Salt, .int .i64 y29.Secret.Rounds, str y29.Secret.Hash, v34, v36, str y29.Logout] 27 (0, 0)) := hB601
 clear hB601
 refine sr_end (l' := [(1, .pointer (some ⟨g6, 0, none⟩)), (2, .int .i64 y20.1), (3, .pointer (some ⟨g56, 0, none⟩)), (4, .pointer (some ⟨g61, 0, none⟩)), (5, .pointer (some ⟨g66, 0, none⟩))]) (.cons rfl (.cons rfl (.cons rfl (.cons rfl (.cons rfl (.nil _)))))) ?_
 refine ke_seq ?_
 refine ke_region ?_
 refine sr_litT (c := strC) (ρ := ρ67) (E := 9) (xs := [[104, 116, 116, 112, 58, 47, 47, 97, 112, 112]]) (vs := #[(0, str ([104, 116, 116, 112, 58, 47, 47, 97, 112, 112]))]) (cs := #[str ([104, 116, 116, 112, 58, 47, 47, 97, 112, 112])]) (css := [[str ([104, 116, 116, 112, 58, 47, 47, 97, 112, 112])]]) rfl (fun _ => by kernel_rfl) rfl ⟨rfl, trivial⟩ rfl (by decide) hb.bd (by decide) ?_
 intro v79 w81 h80 hbw83
 have htr82 := Tr.of_below hbw83 hb.bd
 replace hB70 := hB70.mv (htr82.mv (i := 7) rfl)
 replace h53 := h53.mv htr82.rd
 replace h55 := h55.mv htr82.rd
 replace hB65 := hB65.mv (htr82.mv (i := 6) rfl)
 replace h44 := h44.mv htr82.rd
 replace h46 := h46.mv htr82.rd
 replace hB60 := hB60.mv (htr82.mv (i := 5) rfl)
 replace h35 := h35.mv htr82.rd
 replace h37 := h37.mv htr82.rd
 replace hB27 := hB27.mv (htr82.mv (i := 100) rfl)
 replace h26 := h26.mv (htr82.mv (i := 101) rfl)
 replace hb := hb.trans htr82
 refine sr_ev (v := .pointer (some ⟨g61, 6, none⟩)) (ev_fieldAddr (i := 4) Tryz.underlying27 rfl Tryz.info25 rfl rfl) (by decide) ?_
 refine sr_storeT (v := v79) (vs := [v79]) (cs' := #[str y38.ID, .int .i64 y38.Kind, str y38.Tenant, str y38.Secret.Salt, .int .i64 y38.Secret.Rounds, str y38.Secret.Hash, v79, v45, str y38.Logout]) hB65 (by decide) hb.bd rfl rfl (one_cells (SlR.oneCell h80)) Tryz.sizeOf25 rfl (by first | rfl | (simp only [List.all_cons, List.all_nil, SlR.oneCell h80]; done) | (simp only [List.all_cons, List.all_nil, SlR.oneCell h80]; rfl)) rfl ?_
 intro w84 hB651 htr85
 replace hB70 := hB70.mv (htr85.mv (i := 7) rfl)
 replace h53 := h53.mv htr85.rd
 replace h55 := h55.mv htr85.rd
 replace h80 := h80.mv htr85.rd
 replace h46 := h46.mv htr85.rd
 replace hB60 := hB60.mv (htr85.mv (i := 5) rfl)
 replace h35 := h35.mv htr85.rd
 replace h37 := h37.mv htr85.rd
 replace hB27 := hB27.mv (htr85.mv (i := 100) rfl)
 replace h26 := h26.mv (htr85.mv (i := 101) rfl)
 replace hb := hb.trans htr85
 replace hB65 : Blk ρ67 6 w84 g61 (.cells #[str y38.ID, .int .i64 y38.Kind, str y38.Tenant, str y38.Secret.Salt, .int .i64 y38.Secret.Rounds, str y38.Secret.Hash, v79, v45, str y38.Logout] 27 (0, 0)) := hB651
 clear hB651
 refine sr_end (l' := [(1, .pointer (some ⟨g6, 0, none⟩)), (2, .int .i64 y20.1), (3, .pointer (some ⟨g56, 0, none⟩)), (4, .pointer (some ⟨g61, 0, none⟩)), (5, .pointer (some ⟨g66, 0, none⟩))]) (.cons rfl (.cons rfl (.cons rfl (.cons rfl (.cons rfl (.nil _)))))) ?_
 refine ke_seq ?_
 refine ke_region ?_
 refine sr_ev (v := .pointer (some ⟨g66, 6, none⟩)) (ev_fieldAddr (i := 4) Tryz.underlying27 rfl Tryz.info25 rfl rfl) (by decide) ?_
 refine sr_storeT (v := (.slice none 0 0)) (vs := [(.slice none 0 0)]) (cs' := #[str y47.ID, .int .i64 y47.Kind, str y47.Tenant, str y47.Secret.Salt, .int .i64 y47.Secret.Rounds, str y47.Secret.Hash, (.slice none 0 0), v54, str y47.Logout]) hB70 (by decide) hb.bd rfl rfl rfl Tryz.sizeOf25 rfl rfl rfl ?_
 intro w86 hB701 htr87
 replace h55 := h55.mv htr87.rd
 replace hB65 := hB65.mv (htr87.mv (i := 6) rfl)
 replace h80 := h80.mv htr87.rd
 replace h46 := h46.mv htr87.rd
 replace hB60 := hB60.mv (htr87.mv (i := 5) rfl)
 replace h35 := h35.mv htr87.rd
 replace h37 := h37.mv htr87.rd
 replace hB27 := hB27.mv (htr87.mv (i := 100) rfl)
 replace h26 := h26.mv (htr87.mv (i := 101) rfl)
 replace hb := hb.trans htr87
 replace hB70 : Blk ρ67 7 w86 g66 (.cells #[str y47.ID, .int .i64 y47.Kind, str y47.Tenant, str y47.Secret.Salt, .int .i64 y47.Secret.Rounds, str y47.Secret.Hash, (.slice none 0 0), v54, str y47.Logout] 27 (0, 0)) := hB701
 clear hB701
 refine sr_end (l' := [(1, .pointer (some ⟨g6, 0, none⟩)), (2, .int .i64 y20.1), (3, .pointer (some ⟨g56, 0, none⟩)), (4, .pointer (some ⟨g61, 0, none⟩)), (5, .pointer (some ⟨g66, 0, none⟩))]) (.cons rfl (.cons rfl (.cons rfl (.cons rfl (.cons rfl (.nil _)))))) ?_
 refine ke_seq ?_
 refine ke_region ?_
 refine sr_ev (v := .int .i64 y20.1) (ev_move rfl) (by decide) ?_
 refine sr_ev (v := .bool (y20.1 == 0)) (ev_eq rfl rfl) (by decide) ?_
 refine sr_ev (v := .bool (y20.1 == 0)) (ev_move rfl) (by decide) ?_
 obtain ⟨z90, hz92, hS⟩ := bind_some' hS
 refine sr_join (m := 4) (C := fun (z : Bool) w1 => z90 = z ∧ ∃ ρ1, Tr ρ67 w86 (fun _ => false) ρ1 w1) (l' := fun z => [(1, .pointer (some ⟨g6, 0, none⟩)), (3, .pointer (some ⟨g56, 0, none⟩)), (4, .pointer (some ⟨g61, 0, none⟩)), (5, .pointer (some ⟨g66, 0, none⟩)), (25, .bool z)]) ?_ ?_
 ·rintro _ w93 ⟨rfl, ρ94, hj91⟩
  replace hB70 := hB70.mv (hj91.mv (i := 7) rfl)
  replace h55 := h55.mv hj91.rd
  replace hB65 := hB65.mv (hj91.mv (i := 6) rfl)
  replace h80 := h80.mv hj91.rd
  replace h46 := h46.mv hj91.rd
  replace hB60 := hB60.mv (hj91.mv (i := 5) rfl)
  replace h35 := h35.mv hj91.rd
  replace h37 := h37.mv hj91.rd
  replace hB27 := hB27.mv (hj91.mv (i := 100) rfl)
  replace h26 := h26.mv (hj91.mv (i := 101) rfl)
  replace hb := hb.trans hj91
  refine sr_ev (v := .bool z90) (ev_move rfl) (by decide) ?_
  obtain ⟨z103, hz105, hS⟩ := bind_some' hS
  refine sr_join (m := 4) (C := fun (z : Bool) w1 => z103 = z ∧ ∃ ρ1, Tr ρ94 w93 (fun _ => false) ρ1 w1) (l' := fun z => [(1, .pointer (some ⟨g6, 0, none⟩)), (3, .pointer (some ⟨g56, 0, none⟩)), (4, .pointer (some ⟨g61, 0, none⟩)), (5, .pointer (some ⟨g66, 0, none⟩)), (30, .bool z)]) ?_ ?_
  ·rintro _ w106 ⟨rfl, ρ107, hj104⟩
   replace hB70 := hB70.mv (hj104.mv (i := 7) rfl)
   replace h55 := h55.mv hj104.rd
   replace hB65 := hB65.mv (hj104.mv (i := 6) rfl)
   replace h80 := h80.mv hj104.rd
   replace h46 := h46.mv hj104.rd
   replace hB60 := hB60.mv (hj104.mv (i := 5) rfl)
   replace h35 := h35.mv hj104.rd
   replace h37 := h37.mv hj104.rd
   replace hB27 := hB27.mv (hj104.mv (i := 100) rfl)
   replace h26 := h26.mv (hj104.mv (i := 101) rfl)
   replace hb := hb.trans hj104
   refine sr_ev (v := .bool z103) (ev_move rfl) (by decide) ?_
   obtain ⟨z116, hz118, hS⟩ := bind_some' hS
   refine sr_join (m := 4) (C := fun (z : Bool) w1 => z116 = z ∧ ∃ ρ1, Tr ρ107 w106 (fun _ => false) ρ1 w1) (l' := fun z => [(1, .pointer (some ⟨g6, 0, none⟩)), (3, .pointer (some ⟨g56, 0, none⟩)), (4, .pointer (some ⟨g61, 0, none⟩)), (5, .pointer (some ⟨g66, 0, none⟩)), (35, .bool z)]) ?_ ?_
   ·rintro _ w119 ⟨rfl, ρ120, hj117⟩
    replace hB70 := hB70.mv (hj117.mv (i := 7) rfl)
    replace h55 := h55.mv hj117.rd
    replace hB65 := hB65.mv (hj117.mv (i := 6) rfl)
    replace h80 := h80.mv hj117.rd
    replace h46 := h46.mv hj117.rd
    replace hB60 := hB60.mv (hj117.mv (i := 5) rfl)
    replace h35 := h35.mv hj117.rd
    replace h37 := h37.mv hj117.rd
    replace hB27 := hB27.mv (hj117.mv (i := 100) rfl)
    replace h26 := h26.mv (hj117.mv (i := 101) rfl)
    replace hb := hb.trans hj117
    refine sr_ev (v := .bool z116) (ev_move rfl) (by decide) ?_
    obtain ⟨z129, hz131, hS⟩ := bind_some' hS
    refine sr_join (m := 4) (C := fun (z : Bool) w1 => z129 = z ∧ ∃ ρ1, Tr ρ120 w119 (fun _ => false) ρ1 w1) (l' := fun z => [(1, .pointer (some ⟨g6, 0, none⟩)), (3, .pointer (some ⟨g56, 0, none⟩)), (4, .pointer (some ⟨g61, 0, none⟩)), (5, .pointer (some ⟨g66, 0, none⟩)), (40, .bool z)]) ?_ ?_
    ·rintro _ w132 ⟨rfl, ρ133, hj130⟩
     replace hB70 := hB70.mv (hj130.mv (i := 7) rfl)
     replace h55 := h55.mv hj130.rd
     replace hB65 := hB65.mv (hj130.mv (i := 6) rfl)
     replace h80 := h80.mv hj130.rd
     replace h46 := h46.mv hj130.rd
     replace hB60 := hB60.mv (hj130.mv (i := 5) rfl)
     replace h35 := h35.mv hj130.rd
     replace h37 := h37.mv hj130.rd
     replace hB27 := hB27.mv (hj130.mv (i := 100) rfl)
     replace h26 := h26.mv (hj130.mv (i := 101) rfl)
     replace hb := hb.trans hj130
     refine sr_ev (v := .bool z129) (ev_move rfl) (by decide) ?_
     obtain ⟨z142, hz144, hS⟩ := bind_some' hS
     refine sr_join (m := 5) (C := fun (z : Bool) w1 => z142 = z ∧ ∃ ρ1, Tr ρ133 w132 (fun _ => false) ρ1 w1) (l' := fun z => [(1, .pointer (some ⟨g6, 0, none⟩)), (3, .pointer (some ⟨g56, 0, none⟩)), (4, .pointer (some ⟨g61, 0, none⟩)), (5, .pointer (some ⟨g66, 0, none⟩)), (46, .bool z)]) ?_ ?_
     ·rintro _ w145 ⟨rfl, ρ146, hj143⟩
      replace hB70 := hB70.mv (hj143.mv (i := 7) rfl)
      replace h55 := h55.mv hj143.rd
      replace hB65 := hB65.mv (hj143.mv (i := 6) rfl)
      replace h80 := h80.mv hj143.rd
      replace h46 := h46.mv hj143.rd
      replace hB60 := hB60.mv (hj143.mv (i := 5) rfl)
      replace h35 := h35.mv hj143.rd
      replace h37 := h37.mv hj143.rd
      replace hB27 := hB27.mv (hj143.mv (i := 100) rfl)
      replace h26 := h26.mv (hj143.mv (i := 101) rfl)
      replace hb := hb.trans hj143
      refine sr_ev (v := .bool z142) (ev_move rfl) (by decide) ?_
      obtain ⟨z160, hz162, hS⟩ := bind_some' hS
      refine sr_join (m := 5) (C := fun (z : Bool) w1 => z160 = z ∧ ∃ ρ1, Tr ρ146 w145 (fun _ => false) ρ1 w1) (l' := fun z => [(1, .pointer (some ⟨g6, 0, none⟩)), (3, .pointer (some ⟨g56, 0, none⟩)), (4, .pointer (some ⟨g61, 0, none⟩)), (5, .pointer (some ⟨g66, 0, none⟩)), (52, .bool z)]) ?_ ?_
      ·rintro _ w163 ⟨rfl, ρ164, hj161⟩
       replace hB70 := hB70.mv (hj161.mv (i := 7) rfl)
       replace h55 := h55.mv hj161.rd
       replace hB65 := hB65.mv (hj161.mv (i := 6) rfl)
       replace h80 := h80.mv hj161.rd
       replace h46 := h46.mv hj161.rd
       replace hB60 := hB60.mv (hj161.mv (i := 5) rfl)
       replace h35 := h35.mv hj161.rd
       replace h37 := h37.mv hj161.rd
       replace hB27 := hB27.mv (hj161.mv (i := 100) rfl)
       replace h26 := h26.mv (hj161.mv (i := 101) rfl)
       replace hb := hb.trans hj161
       refine sr_ev (v := .bool z160) (ev_move rfl) (by decide) ?_
       obtain ⟨z178, hz180, hS⟩ := bind_some' hS
       refine sr_join (m := 4) (C := fun (z : Bool) w1 => z178 = z ∧ ∃ ρ1, Tr ρ164 w163 (fun _ => false) ρ1 w1) (l' := fun z => [(1, .pointer (some ⟨g6, 0, none⟩)), (3, .pointer (some ⟨g56, 0, none⟩)), (4, .pointer (some ⟨g61, 0, none⟩)), (5, .pointer (some ⟨g66, 0, none⟩)), (57, .bool z)]) ?_ ?_
       ·rintro _ w181 ⟨rfl, ρ182, hj179⟩
        replace hB70 := hB70.mv (hj179.mv (i := 7) rfl)
        replace h55 := h55.mv hj179.rd
        replace hB65 := hB65.mv (hj179.mv (i := 6) rfl)
        replace h80 := h80.mv hj179.rd
        replace h46 := h46.mv hj179.rd
        replace hB60 := hB60.mv (hj179.mv (i := 5) rfl)
        replace h35 := h35.mv hj179.rd
        replace h37 := h37.mv hj179.rd
        replace hB27 := hB27.mv (hj179.mv (i := 100) rfl)
        replace h26 := h26.mv (hj179.mv (i := 101) rfl)
        replace hb := hb.trans hj179
        refine sr_ev (v := .bool z178) (ev_move rfl) (by decide) ?_
        obtain ⟨z191, hz193, hS⟩ := bind_some' hS
        refine sr_join (m := 4) (C := fun (z : Bool) w1 => z191 = z ∧ ∃ ρ1, Tr ρ182 w181 (fun _ => false) ρ1 w1) (l' := fun z => [(1, .pointer (some ⟨g6, 0, none⟩)), (4, .pointer (some ⟨g61, 0, none⟩)), (5, .pointer (some ⟨g66, 0, none⟩)), (62, .bool z)]) ?_ ?_
        ·rintro _ w194 ⟨rfl, ρ195, hj192⟩
         replace hB70 := hB70.mv (hj192.mv (i := 7) rfl)
         replace h55 := h55.mv hj192.rd
         replace hB65 := hB65.mv (hj192.mv (i := 6) rfl)
         replace h80 := h80.mv hj192.rd
         replace h46 := h46.mv hj192.rd
         replace hB27 := hB27.mv (hj192.mv (i := 100) rfl)
         replace h26 := h26.mv (hj192.mv (i := 101) rfl)
         replace hb := hb.trans hj192
         refine sr_ev (v := .bool z191) (ev_move rfl) (by decide) ?_
         obtain ⟨z204, hz206, hS⟩ := bind_some' hS
         refine sr_join (m := 4) (C := fun (z : Bool) w1 => z204 = z ∧ ∃ ρ1, Tr ρ195 w194 (fun _ => false) ρ1 w1) (l' := fun z => [(1, .pointer (some ⟨g6, 0, none⟩)), (5, .pointer (some ⟨g66, 0, none⟩)), (67, .bool z)]) ?_ ?_
         ·rintro _ w207 ⟨rfl, ρ208, hj205⟩
          replace hB70 := hB70.mv (hj205.mv (i := 7) rfl)
          replace h55 := h55.mv hj205.rd
          replace hB27 := hB27.mv (hj205.mv (i := 100) rfl)
          replace h26 := h26.mv (hj205.mv (i := 101) rfl)
          replace hb := hb.trans hj205
          refine sr_ev (v := .bool z204) (ev_move rfl) (by decide) ?_
          obtain ⟨z217, hz219, hS⟩ := bind_some' hS
          refine sr_join (m := 4) (C := fun (z : Bool) w1 => z217 = z ∧ ∃ ρ1, Tr ρ208 w207 (fun _ => false) ρ1 w1) (l' := fun z => [(1, .pointer (some ⟨g6, 0, none⟩)), (72, .bool z)]) ?_ ?_
          ·rintro _ w220 ⟨rfl, ρ221, hj218⟩
           replace hB27 := hB27.mv (hj218.mv (i := 100) rfl)
           replace h26 := h26.mv (hj218.mv (i := 101) rfl)
           replace hb := hb.trans hj218
           refine sr_ev (v := .bool z217) (ev_move rfl) (by decide) ?_
           obtain ⟨z230, hz232, hS⟩ := bind_some' hS
           refine sr_join (m := 5) (C := fun (z : Bool) w1 => z230 = z ∧ ∃ ρ1, Tr ρ221 w220 (fun _ => false) ρ1 w1) (l' := fun z => [(1, .pointer (some ⟨g6, 0, none⟩)), (78, .bool z)]) ?_ ?_
           ·rintro _ w233 ⟨rfl, ρ234, hj231⟩
            replace hB27 := hB27.mv (hj231.mv (i := 100) rfl)
            replace h26 := h26.mv (hj231.mv (i := 101) rfl)
            replace hb := hb.trans hj231
            refine sr_ev (v := .bool z230) (ev_move rfl) (by decide) ?_
            obtain ⟨z255, hz257, hS⟩ := bind_some' hS
            refine sr_join (m := 3) (C := fun (z : Bool × client_Clients) w1 => z255 = z ∧ ∃ ρ1, client_Clients.O (fun p => 100 + p) ρ1 w1 g6 z.2 ∧ Tr ρ234 w233 (fun t => ([100, 101] : List Nat).contains t) ρ1 w1) (l' := fun z => [(1, .pointer (some ⟨g6, 0, none⟩)), (82, .bool z.1)]) ?_ ?_
            ·rintro _ w258 ⟨rfl, ρ259, ⟨v270, hB272, h271⟩, hj256⟩
             replace hb := hb.trans hj256
             replace hB272 : Blk ρ259 100 w258 g6 (.cells #[v270] 57 (0, 0)) := hB272
             replace h271 : MapT str api_Client.c true ρ259 101 w258 v270 z255.2.of_ := h271
             refine sr_ev (v := .bool z255.1) (ev_move rfl) (by decide) ?_
             obtain ⟨z275, hz277, hS⟩ := bind_some' hS
             refine sr_join (m := 4) (C := fun (z : Bool × client_Clients) w1 => z275 = z ∧ ∃ ρ1, client_Clients.O (fun p => 100 + p) ρ1 w1 g6 z.2 ∧ Tr ρ259 w258 (fun t => ([100, 101] : List Nat).contains t) ρ1 w1) (l' := fun z => [(87, .bool z.1)]) ?_ ?_
             ·rintro _ w278 ⟨rfl, ρ279, ⟨v290, hB292, h291⟩, hj276⟩
              replace hb := hb.trans hj276
              replace hB292 : Blk ρ279 100 w278 g6 (.cells #[v290] 57 (0, 0)) := hB292
              replace h291 : MapT str api_Client.c true ρ279 101 w278 v290 z275.2.of_ := h291
              refine sr_ev (v := .bool z275.1) (ev_assign rfl) (by decide) ?_
              refine sr_end (l' := [(0, .bool z275.1)]) (.cons rfl (.nil _)) ?_
              cases hS
              exact ke_ret1 Tryz.func11 rfl rfl ⟨_, rfl, rfl, (hb.below (flat1_le _))⟩
             ·intro K274
              clear hS
              have hj276 : Tr ρ259 w258 (fun t => ([100, 101] : List Nat).contains t) ρ259 w258 := (Tr.refl hb.bd).weak (fun _ _ => rfl) rfl rfl
              rcases Bool.eq_false_or_eq_true z255.1 with hg273 | hg273
              ·have hS := ite_true' hz277 hg273
               refine sr_evg (b := true) (e := 83) rfl rfl hg273 (v := .pointer (some ⟨g6, 0, none⟩)) (ev_move rfl) (by decide) ?_
               obtain ⟨y281, hy282, hS⟩ := bind_some' hS
               refine sr_callg (b := true) (e := 83) rfl rfl hg273 (vs := [.pointer (some ⟨g6, 0, none⟩), str ([97, 112, 112])]) rfl Tryz.call32 rfl (client_Clients_Remove_ok _ (hg.fr hz hb) (ρA := ρ259) hb.bd (hz.fr hg hb) (o := 100) (by decide) (⟨_, hB272, h271⟩ : client_Clients.O (fun p => 100 + p) ρ259 w258 g6 z255.2) hy282) (by decide) ?_
               rintro _ w283 ⟨ρ289, rfl, ⟨v286, hB288, h287⟩, htr285⟩
               replace hb := hb.trans htr285
               replace hj276 := (hj276.trans htr285).weak (J' := (fun t => ([100, 101] : List Nat).contains t)) (by intro t h; simp [rng] at h ⊢ <;> omega) rfl rfl
               replace hB288 : Blk ρ289 100 w283 g6 (.cells #[v286] 57 (0, 0)) := hB288
               replace h287 : MapT str api_Client.c true ρ289 101 w283 v286 y281.2.of_ := h287
               refine sr_evg (b := true) (e := 83) rfl rfl hg273 (v := .bool (!y281.1)) (ev_not rfl) (by decide) ?_
               refine sr_ev (v := .bool (!y281.1)) (ev_pick_t rfl hg273 rfl) (by decide) ?_
               exact sr_weaken (l' := [(87, .bool (!y281.1))]) (.cons rfl (.nil _)) (K274 (!y281.1, y281.2) _ ⟨(Option.some.inj hS).symm, _, ⟨_, hB288, h287⟩, hj276⟩)
              ·have hS := ite_false' hz277 hg273
               refine sr_pass (e := 83) rfl rfl (by rw [hg273]; rfl) (by decide) ?_
               refine sr_pass (e := 83) rfl rfl (by rw [hg273]; rfl) (by decide) ?_
               refine sr_pass (e := 83) rfl rfl (by rw [hg273]; rfl) (by decide) ?_
               refine sr_ev (v := .bool false) (ev_pick_f rfl hg273 rfl) (by decide) ?_
               exact sr_weaken (l' := [(87, .bool false)]) (.cons rfl (.nil _)) (K274 (false, z255.2) _ ⟨(Option.some.inj hS).symm, _, ⟨_, hB272, h271⟩, hj276⟩)
            ·intro K254
             clear hS
             have hj256 : Tr ρ234 w233 (fun t => ([100, 101] : List Nat).contains t) ρ234 w233 := (Tr.refl hb.bd).weak (fun _ _ => rfl) rfl rfl
             rcases Bool.eq_false_or_eq_true z230 with hg253 | hg253
             ·have hS := ite_true' hz257 hg253
              refine sr_evg (b := true) (e := 79) rfl rfl hg253 (v := .pointer (some ⟨g6, 0, none⟩)) (ev_move rfl) (by decide) ?_
              obtain ⟨y261, hy262, hS⟩ := bind_some' hS
              refine sr_callg (b := true) (e := 79) rfl rfl hg253 (vs := [.pointer (some ⟨g6, 0, none⟩), str ([97, 112, 112])]) rfl Tryz.call32 rfl (client_Clients_Remove_ok _ (hg.fr hz hb) (ρA := ρ234) hb.bd (hz.fr hg hb) (o := 100) (by decide) (⟨_, hB27, h26⟩ : client_Clients.O (fun p => 100 + p) ρ234 w233 g6 y20.2) hy262) (by decide) ?_
              rintro _ w263 ⟨ρ269, rfl, ⟨v266, hB268, h267⟩, htr265⟩
              replace hb := hb.trans htr265
              replace hj256 := (hj256.trans htr265).weak (J' := (fun t => ([100, 101] : List Nat).contains t)) (by intro t h; simp [rng] at h ⊢ <;> omega) rfl rfl
              replace hB268 : Blk ρ269 100 w263 g6 (.cells #[v266] 57 (0, 0)) := hB268
              replace h267 : MapT str api_Client.c true ρ269 101 w263 v266 y261.2.of_ := h267
              refine sr_ev (v := .bool y261.1) (ev_pick_t rfl hg253 rfl) (by decide) ?_
              exact sr_weaken (l' := [(1, .pointer (some ⟨g6, 0, none⟩)), (82, .bool y261.1)]) (.cons rfl (.cons rfl (.nil _))) (K254 (y261.1, y261.2) _ ⟨(Option.some.inj hS).symm, _, ⟨_, hB268, h267⟩, hj256⟩)
             ·have hS := ite_false' hz257 hg253
              refine sr_pass (e := 79) rfl rfl (by rw [hg253]; rfl) (by decide) ?_
              refine sr_pass (e := 79) rfl rfl (by rw [hg253]; rfl) (by decide) ?_
              refine sr_ev (v := .bool false) (ev_pick_f rfl hg253 rfl) (by decide) ?_
              exact sr_weaken (l' := [(1, .pointer (some ⟨g6, 0, none⟩)), (82, .bool false)]) (.cons rfl (.cons rfl (.nil _))) (K254 (false, y20.2) _ ⟨(Option.some.inj hS).symm, _, ⟨_, hB27, h26⟩, hj256⟩)
           ·intro K229
            clear hS
            have hj231 : Tr ρ221 w220 (fun _ => false) ρ221 w220 := (Tr.refl hb.bd).weak (fun _ _ => rfl) rfl rfl
            rcases Bool.eq_false_or_eq_true z217 with hg228 | hg228
            ·have hS := ite_true' hz232 hg228
             refine sr_evg (b := true) (e := 73) rfl rfl hg228 (v := .pointer (some ⟨g6, 0, none⟩)) (ev_move rfl) (by decide) ?_
             obtain ⟨y236, hy237, hS⟩ := bind_some' hS
             refine sr_callg (b := true) (e := 73) rfl rfl hg228 (vs := [.pointer (some ⟨g6, 0, none⟩)]) rfl Tryz.call35 rfl (client_Clients_List_ok _ (hg.fr hz hb) (ρA := ρ221) hb.bd (hz.fr hg hb) (τ0 := (fun p => 100 + p)) (fun p => Nat.le_add_right_of_le (by decide)) (⟨_, hB27, h26⟩ : client_Clients.O (fun p => 100 + p) ρ221 w220 g6 y20.2) hy237) (by decide) ?_
             rintro v241 w238 ⟨_, rfl, h242, hbw239⟩
             have htr240 := Tr.of_below hbw239 hb.bd
             replace hB27 := hB27.mv (htr240.mv (i := 100) rfl)
             replace h26 := h26.mv (htr240.mv (i := 101) rfl)
             replace hb := hb.trans htr240
             replace hj231 := (hj231.trans htr240).weak (J' := (fun _ => false)) (by intro t h; simp [rng] at h ⊢ <;> omega) rfl rfl
             refine sr_unguard rfl rfl hg228 ?_
             refine sr_litT (c := strC) (ρ := ρ221) (E := 9) (xs := [[97, 112, 112]]) (vs := #[(0, str ([97, 112, 112]))]) (cs := #[str ([97, 112, 112])]) (css := [[str ([97, 112, 112])]]) rfl (fun _ => by kernel_rfl) rfl ⟨rfl, trivial⟩ rfl (by decide) hb.bd (by decide) ?_
             intro v243 w245 h244 hbw247
             have htr246 := Tr.of_below hbw247 hb.bd
             replace h242 := h242.mv htr246.rd
             replace hB27 := hB27.mv (htr246.mv (i := 100) rfl)
             replace h26 := h26.mv (htr246.mv (i := 101) rfl)
             replace hb := hb.trans htr246
             replace hj231 := (hj231.trans htr246).weak (J' := (fun _ => false)) (by intro t h; simp [rng] at h ⊢ <;> omega) rfl rfl
             obtain ⟨y248, hy249, hS⟩ := bind_some' hS
             refine sr_callg (b := true) (e := 73) rfl rfl hg228 (vs := [v241, v243]) rfl Tryz.call34 rfl (ref07_Lists_ok _ (hg.fr hz hb) h242.asSl h244.asSl hy249) (by decide) ?_
             rintro _ w250 ⟨rfl, hbw251⟩
             have htr252 := Tr.of_below hbw251 hb.bd
             replace hB27 := hB27.mv (htr252.mv (i := 100) rfl)
             replace h26 := h26.mv (htr252.mv (i := 101) rfl)
             replace hb := hb.trans htr252
             replace hj231 := (hj231.trans htr252).weak (J' := (fun _ => false)) (by intro t h; simp [rng] at h ⊢ <;> omega) rfl rfl
             refine sr_ev (v := .bool y248) (ev_pick_t rfl hg228 rfl) (by decide) ?_
             exact sr_weaken (l' := [(1, .pointer (some ⟨g6, 0, none⟩)), (78, .bool y248)]) (.cons rfl (.cons rfl (.nil _))) (K229 y248 _ ⟨(Option.some.inj hS).symm, _, hj231⟩)
            ·have hS := ite_false' hz232 hg228
             refine sr_pass (e := 73) rfl rfl (by rw [hg228]; rfl) (by decide) ?_
             refine sr_pass (e := 73) rfl rfl (by rw [hg228]; rfl) (by decide) ?_
             refine sr_pass (e := 73) rfl rfl (by rw [hg228]; rfl) (by decide) ?_
             refine sr_pass (e := 73) rfl rfl (by rw [hg228]; rfl) (by decide) ?_
             refine sr_ev (v := .bool false) (ev_pick_f rfl hg228 rfl) (by decide) ?_
             exact sr_weaken (l' := [(1, .pointer (some ⟨g6, 0, none⟩)), (78, .bool false)]) (.cons rfl (.cons rfl (.nil _))) (K229 false _ ⟨(Option.some.inj hS).symm, _, hj231⟩)
          ·intro K216
           clear hS
           have hj218 : Tr ρ208 w207 (fun _ => false) ρ208 w207 := (Tr.refl hb.bd).weak (fun _ _ => rfl) rfl rfl
           rcases Bool.eq_false_or_eq_true z204 with hg215 | hg215
           ·have hS := ite_true' hz219 hg215
            refine sr_evg (b := true) (e := 68) rfl rfl hg215 (v := .agg #[str y47.ID, .int .i64 y47.Kind, str y47.Tenant, str y47.Secret.Salt, .int .i64 y47.Secret.Rounds, str y47.Secret.Hash, (.slice none 0 0), v54, str y47.Logout]) (ev_loads (cs := [str y47.ID, .int .i64 y47.Kind, str y47.Tenant, str y47.Secret.Salt, .int .i64 y47.Secret.Rounds, str y47.Secret.Hash, (.slice none 0 0), v54, str y47.Logout]) Tryz.isAgg27 Tryz.sizeOf27 rfl (hB70.cells (vs := [str y47.ID, .int .i64 y47.Kind, str y47.Tenant, str y47.Secret.Salt, .int .i64 y47.Secret.Rounds, str y47.Secret.Hash, (.slice none 0 0), v54, str y47.Logout]) rfl)) (by decide) ?_
            obtain ⟨y223, hy224, hS⟩ := bind_some' hS
            refine sr_callg (b := true) (e := 68) rfl rfl hg215 (vs := [.agg #[str y47.ID, .int .i64 y47.Kind, str y47.Tenant, str y47.Secret.Salt, .int .i64 y47.Secret.Rounds, str y47.Secret.Hash, (.slice none 0 0), v54, str y47.Logout]]) rfl Tryz.call12 rfl (client_Check_ok (c_0 := (api_Client.mk y47.ID y47.Kind y47.Tenant y47.Secret ([] : List Str) y47.Scopes y47.Logout)) _ (hg.fr hz hb) (ρA := ρ208) hb.bd (hz.fr hg hb) (SlR.nil (A := Wb ρ208)) h55 hy224) (by decide) ?_
            rintro _ w225 ⟨rfl, hbw226⟩
            have htr227 := Tr.of_below hbw226 hb.bd
            replace hB27 := hB27.mv (htr227.mv (i := 100) rfl)
            replace h26 := h26.mv (htr227.mv (i := 101) rfl)
            replace hb := hb.trans htr227
            replace hj218 := (hj218.trans htr227).weak (J' := (fun _ => false)) (by intro t h; simp [rng] at h ⊢ <;> omega) rfl rfl
            refine sr_evg (b := true) (e := 68) rfl rfl hg215 (v := .bool (y223 == 6)) (ev_eq rfl rfl) (by decide) ?_
            refine sr_ev (v := .bool (y223 == 6)) (ev_pick_t rfl hg215 rfl) (by decide) ?_
            exact sr_weaken (l' := [(1, .pointer (some ⟨g6, 0, none⟩)), (72, .bool (y223 == 6))]) (.cons rfl (.cons rfl (.nil _))) (K216 (y223 == 6) _ ⟨(Option.some.inj hS).symm, _, hj218⟩)
           ·have hS := ite_false' hz219 hg215
            refine sr_pass (e := 68) rfl rfl (by rw [hg215]; rfl) (by decide) ?_
            refine sr_pass (e := 68) rfl rfl (by rw [hg215]; rfl) (by decide) ?_
            refine sr_pass (e := 68) rfl rfl (by rw [hg215]; rfl) (by decide) ?_
            refine sr_ev (v := .bool false) (ev_pick_f rfl hg215 rfl) (by decide) ?_
            exact sr_weaken (l' := [(1, .pointer (some ⟨g6, 0, none⟩)), (72, .bool false)]) (.cons rfl (.cons rfl (.nil _))) (K216 false _ ⟨(Option.some.inj hS).symm, _, hj218⟩)
         ·intro K203
          clear hS
          have hj205 : Tr ρ195 w194 (fun _ => false) ρ195 w194 := (Tr.refl hb.bd).weak (fun _ _ => rfl) rfl rfl
          rcases Bool.eq_false_or_eq_true z191 with hg202 | hg202
          ·have hS := ite_true' hz206 hg202
           refine sr_evg (b := true) (e := 63) rfl rfl hg202 (v := .agg #[str y38.ID, .int .i64 y38.Kind, str y38.Tenant, str y38.Secret.Salt, .int .i64 y38.Secret.Rounds, str y38.Secret.Hash, v79, v45, str y38.Logout]) (ev_loads (cs := [str y38.ID, .int .i64 y38.Kind, str y38.Tenant, str y38.Secret.Salt, .int .i64 y38.Secret.Rounds, str y38.Secret.Hash, v79, v45, str y38.Logout]) Tryz.isAgg27 Tryz.sizeOf27 rfl (hB65.cells (vs := [str y38.ID, .int .i64 y38.Kind, str y38.Tenant, str y38.Secret.Salt, .int .i64 y38.Secret.Rounds, str y38.Secret.Hash, v79, v45, str y38.Logout]) rfl)) (by decide) ?_
           obtain ⟨y210, hy211, hS⟩ := bind_some' hS
           refine sr_callg (b := true) (e := 63) rfl rfl hg202 (vs := [.agg #[str y38.ID, .int .i64 y38.Kind, str y38.Tenant, str y38.Secret.Salt, .int .i64 y38.Secret.Rounds, str y38.Secret.Hash, v79, v45, str y38.Logout]]) rfl Tryz.call12 rfl (client_Check_ok (c_0 := (api_Client.mk y38.ID y38.Kind y38.Tenant y38.Secret ([[104, 116, 116, 112, 58, 47, 47, 97, 112, 112]] : List Str) y38.Scopes y38.Logout)) _ (hg.fr hz hb) (ρA := ρ195) hb.bd (hz.fr hg hb) h80 h46 hy211) (by decide) ?_
           rintro _ w212 ⟨rfl, hbw213⟩
           have htr214 := Tr.of_below hbw213 hb.bd
           replace hB70 := hB70.mv (htr214.mv (i := 7) rfl)
           replace h55 := h55.mv htr214.rd
           replace hB27 := hB27.mv (htr214.mv (i := 100) rfl)
           replace h26 := h26.mv (htr214.mv (i := 101) rfl)
           replace hb := hb.trans htr214
           replace hj205 := (hj205.trans htr214).weak (J' := (fun _ => false)) (by intro t h; simp [rng] at h ⊢ <;> omega) rfl rfl
           refine sr_evg (b := true) (e := 63) rfl rfl hg202 (v := .bool (y210 == 4)) (ev_eq rfl rfl) (by decide) ?_
           refine sr_ev (v := .bool (y210 == 4)) (ev_pick_t rfl hg202 rfl) (by decide) ?_
           exact sr_weaken (l' := [(1, .pointer (some ⟨g6, 0, none⟩)), (5, .pointer (some ⟨g66, 0, none⟩)), (67, .bool (y210 == 4))]) (.cons rfl (.cons rfl (.cons rfl (.nil _)))) (K203 (y210 == 4) _ ⟨(Option.some.inj hS).symm, _, hj205⟩)
          ·have hS := ite_false' hz206 hg202
           refine sr_pass (e := 63) rfl rfl (by rw [hg202]; rfl) (by decide) ?_
           refine sr_pass (e := 63) rfl rfl (by rw [hg202]; rfl) (by decide) ?_
           refine sr_pass (e := 63) rfl rfl (by rw [hg202]; rfl) (by decide) ?_
           refine sr_ev (v := .bool false) (ev_pick_f rfl hg202 rfl) (by decide) ?_
           exact sr_weaken (l' := [(1, .pointer (some ⟨g6, 0, none⟩)), (5, .pointer (some ⟨g66, 0, none⟩)), (67, .bool false)]) (.cons rfl (.cons rfl (.cons rfl (.nil _)))) (K203 false _ ⟨(Option.some.inj hS).symm, _, hj205⟩)
        ·intro K190
         clear hS
         have hj192 : Tr ρ182 w181 (fun _ => false) ρ182 w181 := (Tr.refl hb.bd).weak (fun _ _ => rfl) rfl rfl
         rcases Bool.eq_false_or_eq_true z178 with hg189 | hg189
         ·have hS := ite_true' hz193 hg189
          refine sr_evg (b := true) (e := 58) rfl rfl hg189 (v := .agg #[str y29.ID, .int .i64 2, str y29.Tenant, str y29.Secret.Salt, .int .i64 y29.Secret.Rounds, str y29.Secret.Hash, v34, v36, str y29.Logout]) (ev_loads (cs := [str y29.ID, .int .i64 2, str y29.Tenant, str y29.Secret.Salt, .int .i64 y29.Secret.Rounds, str y29.Secret.Hash, v34, v36, str y29.Logout]) Tryz.isAgg27 Tryz.sizeOf27 rfl (hB60.cells (vs := [str y29.ID, .int .i64 2, str y29.Tenant, str y29.Secret.Salt, .int .i64 y29.Secret.Rounds, str y29.Secret.Hash, v34, v36, str y29.Logout]) rfl)) (by decide) ?_
          obtain ⟨y197, hy198, hS⟩ := bind_some' hS
          refine sr_callg (b := true) (e := 58) rfl rfl hg189 (vs := [.agg #[str y29.ID, .int .i64 2, str y29.Tenant, str y29.Secret.Salt, .int .i64 y29.Secret.Rounds, str y29.Secret.Hash, v34, v36, str y29.Logout]]) rfl Tryz.call12 rfl (client_Check_ok (c_0 := (api_Client.mk y29.ID 2 y29.Tenant y29.Secret y29.Redirects y29.Scopes y29.Logout)) _ (hg.fr hz hb) (ρA := ρ182) hb.bd (hz.fr hg hb) h35 h37 hy198) (by decide) ?_
          rintro _ w199 ⟨rfl, hbw200⟩
          have htr201 := Tr.of_below hbw200 hb.bd
          replace hB70 := hB70.mv (htr201.mv (i := 7) rfl)
          replace h55 := h55.mv htr201.rd
          replace hB65 := hB65.mv (htr201.mv (i := 6) rfl)
          replace h80 := h80.mv htr201.rd
          replace h46 := h46.mv htr201.rd
          replace hB27 := hB27.mv (htr201.mv (i := 100) rfl)
          replace h26 := h26.mv (htr201.mv (i := 101) rfl)
          replace hb := hb.trans htr201
          replace hj192 := (hj192.trans htr201).weak (J' := (fun _ => false)) (by intro t h; simp [rng] at h ⊢ <;> omega) rfl rfl
          refine sr_evg (b := true) (e := 58) rfl rfl hg189 (v := .bool (y197 == 4)) (ev_eq rfl rfl) (by decide) ?_
          refine sr_ev (v := .bool (y197 == 4)) (ev_pick_t rfl hg189 rfl) (by decide) ?_
          exact sr_weaken (l' := [(1, .pointer (some ⟨g6, 0, none⟩)), (4, .pointer (some ⟨g61, 0, none⟩)), (5, .pointer (some ⟨g66, 0, none⟩)), (62, .bool (y197 == 4))]) (.cons rfl (.cons rfl (.cons rfl (.cons rfl (.nil _))))) (K190 (y197 == 4) _ ⟨(Option.some.inj hS).symm, _, hj192⟩)
         ·have hS := ite_false' hz193 hg189
          refine sr_pass (e := 58) rfl rfl (by rw [hg189]; rfl) (by decide) ?_
          refine sr_pass (e := 58) rfl rfl (by rw [hg189]; rfl) (by decide) ?_
          refine sr_pass (e := 58) rfl rfl (by rw [hg189]; rfl) (by decide) ?_
          refine sr_ev (v := .bool false) (ev_pick_f rfl hg189 rfl) (by decide) ?_
          exact sr_weaken (l' := [(1, .pointer (some ⟨g6, 0, none⟩)), (4, .pointer (some ⟨g61, 0, none⟩)), (5, .pointer (some ⟨g66, 0, none⟩)), (62, .bool false)]) (.cons rfl (.cons rfl (.cons rfl (.cons rfl (.nil _))))) (K190 false _ ⟨(Option.some.inj hS).symm, _, hj192⟩)
       ·intro K177
        clear hS
        have hj179 : Tr ρ164 w163 (fun _ => false) ρ164 w163 := (Tr.refl hb.bd).weak (fun _ _ => rfl) rfl rfl
        rcases Bool.eq_false_or_eq_true z160 with hg176 | hg176
        ·have hS := ite_true' hz180 hg176
         refine sr_evg (b := true) (e := 53) rfl rfl hg176 (v := .pointer (some ⟨g6, 0, none⟩)) (ev_move rfl) (by decide) ?_
         obtain ⟨y184, hy185, hS⟩ := bind_some' hS
         refine sr_callg (b := true) (e := 53) rfl rfl hg176 (vs := [.pointer (some ⟨g6, 0, none⟩), str ([120]), (.slice none 0 0)]) rfl Tryz.call19 rfl (client_Clients_Allowed_ok _ (hg.fr hz hb) (ρA := ρ164) hb.bd (hz.fr hg hb) (τ0 := (fun p => 100 + p)) (fun p => Nat.le_add_right_of_le (by decide)) (SlR.nil (A := Wb ρ164)) (⟨_, hB27, h26⟩ : client_Clients.O (fun p => 100 + p) ρ164 w163 g6 y20.2) hy185) (by decide) ?_
         rintro _ w186 ⟨rfl, hbw187⟩
         have htr188 := Tr.of_below hbw187 hb.bd
         replace hB70 := hB70.mv (htr188.mv (i := 7) rfl)
         replace h55 := h55.mv htr188.rd
         replace hB65 := hB65.mv (htr188.mv (i := 6) rfl)
         replace h80 := h80.mv htr188.rd
         replace h46 := h46.mv htr188.rd
         replace hB60 := hB60.mv (htr188.mv (i := 5) rfl)
         replace h35 := h35.mv htr188.rd
         replace h37 := h37.mv htr188.rd
         replace hB27 := hB27.mv (htr188.mv (i := 100) rfl)
         replace h26 := h26.mv (htr188.mv (i := 101) rfl)
         replace hb := hb.trans htr188
         replace hj179 := (hj179.trans htr188).weak (J' := (fun _ => false)) (by intro t h; simp [rng] at h ⊢ <;> omega) rfl rfl
         refine sr_evg (b := true) (e := 53) rfl rfl hg176 (v := .bool (y184 == 6)) (ev_eq rfl rfl) (by decide) ?_
         refine sr_ev (v := .bool (y184 == 6)) (ev_pick_t rfl hg176 rfl) (by decide) ?_
         exact sr_weaken (l' := [(1, .pointer (some ⟨g6, 0, none⟩)), (3, .pointer (some ⟨g56, 0, none⟩)), (4, .pointer (some ⟨g61, 0, none⟩)), (5, .pointer (some ⟨g66, 0, none⟩)), (57, .bool (y184 == 6))]) (.cons rfl (.cons rfl (.cons rfl (.cons rfl (.cons rfl (.nil _)))))) (K177 (y184 == 6) _ ⟨(Option.some.inj hS).symm, _, hj179⟩)
        ·have hS := ite_false' hz180 hg176
         refine sr_pass (e := 53) rfl rfl (by rw [hg176]; rfl) (by decide) ?_
         refine sr_pass (e := 53) rfl rfl (by rw [hg176]; rfl) (by decide) ?_
         refine sr_pass (e := 53) rfl rfl (by rw [hg176]; rfl) (by decide) ?_
         refine sr_ev (v := .bool false) (ev_pick_f rfl hg176 rfl) (by decide) ?_
         exact sr_weaken (l' := [(1, .pointer (some ⟨g6, 0, none⟩)), (3, .pointer (some ⟨g56, 0, none⟩)), (4, .pointer (some ⟨g61, 0, none⟩)), (5, .pointer (some ⟨g66, 0, none⟩)), (57, .bool false)]) (.cons rfl (.cons rfl (.cons rfl (.cons rfl (.cons rfl (.nil _)))))) (K177 false _ ⟨(Option.some.inj hS).symm, _, hj179⟩)
      ·intro K159
       clear hS
       have hj161 : Tr ρ146 w145 (fun _ => false) ρ146 w145 := (Tr.refl hb.bd).weak (fun _ _ => rfl) rfl rfl
       rcases Bool.eq_false_or_eq_true z142 with hg158 | hg158
       ·have hS := ite_true' hz162 hg158
        refine sr_evg (b := true) (e := 47) rfl rfl hg158 (v := .pointer (some ⟨g6, 0, none⟩)) (ev_move rfl) (by decide) ?_
        refine sr_unguard rfl rfl hg158 ?_
        refine sr_litT (c := strC) (ρ := ρ146) (E := 9) (xs := [[102, 105, 108, 101, 115]]) (vs := #[(0, str ([102, 105, 108, 101, 115]))]) (cs := #[str ([102, 105, 108, 101, 115])]) (css := [[str ([102, 105, 108, 101, 115])]]) rfl (fun _ => by kernel_rfl) rfl ⟨rfl, trivial⟩ rfl (by decide) hb.bd (by decide) ?_
        intro v166 w168 h167 hbw170
        have htr169 := Tr.of_below hbw170 hb.bd
        replace hB70 := hB70.mv (htr169.mv (i := 7) rfl)
        replace h55 := h55.mv htr169.rd
        replace hB65 := hB65.mv (htr169.mv (i := 6) rfl)
        replace h80 := h80.mv htr169.rd
        replace h46 := h46.mv htr169.rd
        replace hB60 := hB60.mv (htr169.mv (i := 5) rfl)
        replace h35 := h35.mv htr169.rd
        replace h37 := h37.mv htr169.rd
        replace hB27 := hB27.mv (htr169.mv (i := 100) rfl)
        replace h26 := h26.mv (htr169.mv (i := 101) rfl)
        replace hb := hb.trans htr169
        replace hj161 := (hj161.trans htr169).weak (J' := (fun _ => false)) (by intro t h; simp [rng] at h ⊢ <;> omega) rfl rfl
        obtain ⟨y171, hy172, hS⟩ := bind_some' hS
        refine sr_callg (b := true) (e := 47) rfl rfl hg158 (vs := [.pointer (some ⟨g6, 0, none⟩), str ([97, 112, 112]), v166]) rfl Tryz.call19 rfl (client_Clients_Allowed_ok _ (hg.fr hz hb) (ρA := ρ146) hb.bd (hz.fr hg hb) (τ0 := (fun p => 100 + p)) (fun p => Nat.le_add_right_of_le (by decide)) h167 (⟨_, hB27, h26⟩ : client_Clients.O (fun p => 100 + p) ρ146 w168 g6 y20.2) hy172) (by decide) ?_
        rintro _ w173 ⟨rfl, hbw174⟩
        have htr175 := Tr.of_below hbw174 hb.bd
        replace hB70 := hB70.mv (htr175.mv (i := 7) rfl)
        replace h55 := h55.mv htr175.rd
        replace hB65 := hB65.mv (htr175.mv (i := 6) rfl)
        replace h80 := h80.mv htr175.rd
        replace h46 := h46.mv htr175.rd
        replace hB60 := hB60.mv (htr175.mv (i := 5) rfl)
        replace h35 := h35.mv htr175.rd
        replace h37 := h37.mv htr175.rd
        replace hB27 := hB27.mv (htr175.mv (i := 100) rfl)
        replace h26 := h26.mv (htr175.mv (i := 101) rfl)
        replace hb := hb.trans htr175
        replace hj161 := (hj161.trans htr175).weak (J' := (fun _ => false)) (by intro t h; simp [rng] at h ⊢ <;> omega) rfl rfl
        refine sr_evg (b := true) (e := 47) rfl rfl hg158 (v := .bool (y171 == 19)) (ev_eq rfl rfl) (by decide) ?_
        refine sr_ev (v := .bool (y171 == 19)) (ev_pick_t rfl hg158 rfl) (by decide) ?_
        exact sr_weaken (l' := [(1, .pointer (some ⟨g6, 0, none⟩)), (3, .pointer (some ⟨g56, 0, none⟩)), (4, .pointer (some ⟨g61, 0, none⟩)), (5, .pointer (some ⟨g66, 0, none⟩)), (52, .bool (y171 == 19))]) (.cons rfl (.cons rfl (.cons rfl (.cons rfl (.cons rfl (.nil _)))))) (K159 (y171 == 19) _ ⟨(Option.some.inj hS).symm, _, hj161⟩)
       ·have hS := ite_false' hz162 hg158
        refine sr_pass (e := 47) rfl rfl (by rw [hg158]; rfl) (by decide) ?_
        refine sr_pass (e := 47) rfl rfl (by rw [hg158]; rfl) (by decide) ?_
        refine sr_pass (e := 47) rfl rfl (by rw [hg158]; rfl) (by decide) ?_
        refine sr_pass (e := 47) rfl rfl (by rw [hg158]; rfl) (by decide) ?_
        refine sr_ev (v := .bool false) (ev_pick_f rfl hg158 rfl) (by decide) ?_
        exact sr_weaken (l' := [(1, .pointer (some ⟨g6, 0, none⟩)), (3, .pointer (some ⟨g56, 0, none⟩)), (4, .pointer (some ⟨g61, 0, none⟩)), (5, .pointer (some ⟨g66, 0, none⟩)), (52, .bool false)]) (.cons rfl (.cons rfl (.cons rfl (.cons rfl (.cons rfl (.nil _)))))) (K159 false _ ⟨(Option.some.inj hS).symm, _, hj161⟩)
     ·intro K141
      clear hS
      have hj143 : Tr ρ133 w132 (fun _ => false) ρ133 w132 := (Tr.refl hb.bd).weak (fun _ _ => rfl) rfl rfl
      rcases Bool.eq_false_or_eq_true z129 with hg140 | hg140
      ·have hS := ite_true' hz144 hg140
       refine sr_evg (b := true) (e := 41) rfl rfl hg140 (v := .pointer (some ⟨g6, 0, none⟩)) (ev_move rfl) (by decide) ?_
       refine sr_unguard rfl rfl hg140 ?_
       refine sr_litT (c := strC) (ρ := ρ133) (E := 9) (xs := [[109, 97, 105, 108, 46, 114, 101, 97, 100]]) (vs := #[(0, str ([109, 97, 105, 108, 46, 114, 101, 97, 100]))]) (cs := #[str ([109, 97, 105, 108, 46, 114, 101, 97, 100])]) (css := [[str ([109, 97, 105, 108, 46, 114, 101, 97, 100])]]) rfl (fun _ => by kernel_rfl) rfl ⟨rfl, trivial⟩ rfl (by decide) hb.bd (by decide) ?_
       intro v148 w150 h149 hbw152
       have htr151 := Tr.of_below hbw152 hb.bd
       replace hB70 := hB70.mv (htr151.mv (i := 7) rfl)
       replace h55 := h55.mv htr151.rd
       replace hB65 := hB65.mv (htr151.mv (i := 6) rfl)
       replace h80 := h80.mv htr151.rd
       replace h46 := h46.mv htr151.rd
       replace hB60 := hB60.mv (htr151.mv (i := 5) rfl)
       replace h35 := h35.mv htr151.rd
       replace h37 := h37.mv htr151.rd
       replace hB27 := hB27.mv (htr151.mv (i := 100) rfl)
       replace h26 := h26.mv (htr151.mv (i := 101) rfl)
       replace hb := hb.trans htr151
       replace hj143 := (hj143.trans htr151).weak (J' := (fun _ => false)) (by intro t h; simp [rng] at h ⊢ <;> omega) rfl rfl
       obtain ⟨y153, hy154, hS⟩ := bind_some' hS
       refine sr_callg (b := true) (e := 41) rfl rfl hg140 (vs := [.pointer (some ⟨g6, 0, none⟩), str ([97, 112, 112]), v148]) rfl Tryz.call19 rfl (client_Clients_Allowed_ok _ (hg.fr hz hb) (ρA := ρ133) hb.bd (hz.fr hg hb) (τ0 := (fun p => 100 + p)) (fun p => Nat.le_add_right_of_le (by decide)) h149 (⟨_, hB27, h26⟩ : client_Clients.O (fun p => 100 + p) ρ133 w150 g6 y20.2) hy154) (by decide) ?_
       rintro _ w155 ⟨rfl, hbw156⟩
       have htr157 := Tr.of_below hbw156 hb.bd
       replace hB70 := hB70.mv (htr157.mv (i := 7) rfl)
       replace h55 := h55.mv htr157.rd
       replace hB65 := hB65.mv (htr157.mv (i := 6) rfl)
       replace h80 := h80.mv htr157.rd
       replace h46 := h46.mv htr157.rd
       replace hB60 := hB60.mv (htr157.mv (i := 5) rfl)
       replace h35 := h35.mv htr157.rd
       replace h37 := h37.mv htr157.rd
       replace hB27 := hB27.mv (htr157.mv (i := 100) rfl)
       replace h26 := h26.mv (htr157.mv (i := 101) rfl)
       replace hb := hb.trans htr157
       replace hj143 := (hj143.trans htr157).weak (J' := (fun _ => false)) (by intro t h; simp [rng] at h ⊢ <;> omega) rfl rfl
       refine sr_evg (b := true) (e := 41) rfl rfl hg140 (v := .bool (y153 == 0)) (ev_eq rfl rfl) (by decide) ?_
       refine sr_ev (v := .bool (y153 == 0)) (ev_pick_t rfl hg140 rfl) (by decide) ?_
       exact sr_weaken (l' := [(1, .pointer (some ⟨g6, 0, none⟩)), (3, .pointer (some ⟨g56, 0, none⟩)), (4, .pointer (some ⟨g61, 0, none⟩)), (5, .pointer (some ⟨g66, 0, none⟩)), (46, .bool (y153 == 0))]) (.cons rfl (.cons rfl (.cons rfl (.cons rfl (.cons rfl (.nil _)))))) (K141 (y153 == 0) _ ⟨(Option.some.inj hS).symm, _, hj143⟩)
      ·have hS := ite_false' hz144 hg140
       refine sr_pass (e := 41) rfl rfl (by rw [hg140]; rfl) (by decide) ?_
       refine sr_pass (e := 41) rfl rfl (by rw [hg140]; rfl) (by decide) ?_
       refine sr_pass (e := 41) rfl rfl (by rw [hg140]; rfl) (by decide) ?_
       refine sr_pass (e := 41) rfl rfl (by rw [hg140]; rfl) (by decide) ?_
       refine sr_ev (v := .bool false) (ev_pick_f rfl hg140 rfl) (by decide) ?_
       exact sr_weaken (l' := [(1, .pointer (some ⟨g6, 0, none⟩)), (3, .pointer (some ⟨g56, 0, none⟩)), (4, .pointer (some ⟨g61, 0, none⟩)), (5, .pointer (some ⟨g66, 0, none⟩)), (46, .bool false)]) (.cons rfl (.cons rfl (.cons rfl (.cons rfl (.cons rfl (.nil _)))))) (K141 false _ ⟨(Option.some.inj hS).symm, _, hj143⟩)
    ·intro K128
     clear hS
     have hj130 : Tr ρ120 w119 (fun _ => false) ρ120 w119 := (Tr.refl hb.bd).weak (fun _ _ => rfl) rfl rfl
     rcases Bool.eq_false_or_eq_true z116 with hg127 | hg127
     ·have hS := ite_true' hz131 hg127
      refine sr_evg (b := true) (e := 36) rfl rfl hg127 (v := .pointer (some ⟨g6, 0, none⟩)) (ev_move rfl) (by decide) ?_
      obtain ⟨y135, hy136, hS⟩ := bind_some' hS
      refine sr_callg (b := true) (e := 36) rfl rfl hg127 (vs := [.pointer (some ⟨g6, 0, none⟩), str ([97, 112, 112]), str ([120])]) rfl Tryz.call29 rfl (client_Clients_Authenticate_ok _ (hg.fr hz hb) (ρA := ρ120) hb.bd (hz.fr hg hb) (τ0 := (fun p => 100 + p)) (fun p => Nat.le_add_right_of_le (by decide)) (⟨_, hB27, h26⟩ : client_Clients.O (fun p => 100 + p) ρ120 w119 g6 y20.2) hy136) (by decide) ?_
      rintro _ w137 ⟨rfl, hbw138⟩
      have htr139 := Tr.of_below hbw138 hb.bd
      replace hB70 := hB70.mv (htr139.mv (i := 7) rfl)
      replace h55 := h55.mv htr139.rd
      replace hB65 := hB65.mv (htr139.mv (i := 6) rfl)
      replace h80 := h80.mv htr139.rd
      replace h46 := h46.mv htr139.rd
      replace hB60 := hB60.mv (htr139.mv (i := 5) rfl)
      replace h35 := h35.mv htr139.rd
      replace h37 := h37.mv htr139.rd
      replace hB27 := hB27.mv (htr139.mv (i := 100) rfl)
      replace h26 := h26.mv (htr139.mv (i := 101) rfl)
      replace hb := hb.trans htr139
      replace hj130 := (hj130.trans htr139).weak (J' := (fun _ => false)) (by intro t h; simp [rng] at h ⊢ <;> omega) rfl rfl
      refine sr_evg (b := true) (e := 36) rfl rfl hg127 (v := .bool (y135 == 11)) (ev_eq rfl rfl) (by decide) ?_
      refine sr_ev (v := .bool (y135 == 11)) (ev_pick_t rfl hg127 rfl) (by decide) ?_
      exact sr_weaken (l' := [(1, .pointer (some ⟨g6, 0, none⟩)), (3, .pointer (some ⟨g56, 0, none⟩)), (4, .pointer (some ⟨g61, 0, none⟩)), (5, .pointer (some ⟨g66, 0, none⟩)), (40, .bool (y135 == 11))]) (.cons rfl (.cons rfl (.cons rfl (.cons rfl (.cons rfl (.nil _)))))) (K128 (y135 == 11) _ ⟨(Option.some.inj hS).symm, _, hj130⟩)
     ·have hS := ite_false' hz131 hg127
      refine sr_pass (e := 36) rfl rfl (by rw [hg127]; rfl) (by decide) ?_
      refine sr_pass (e := 36) rfl rfl (by rw [hg127]; rfl) (by decide) ?_
      refine sr_pass (e := 36) rfl rfl (by rw [hg127]; rfl) (by decide) ?_
      refine sr_ev (v := .bool false) (ev_pick_f rfl hg127 rfl) (by decide) ?_
      exact sr_weaken (l' := [(1, .pointer (some ⟨g6, 0, none⟩)), (3, .pointer (some ⟨g56, 0, none⟩)), (4, .pointer (some ⟨g61, 0, none⟩)), (5, .pointer (some ⟨g66, 0, none⟩)), (40, .bool false)]) (.cons rfl (.cons rfl (.cons rfl (.cons rfl (.cons rfl (.nil _)))))) (K128 false _ ⟨(Option.some.inj hS).symm, _, hj130⟩)
   ·intro K115
    clear hS
    have hj117 : Tr ρ107 w106 (fun _ => false) ρ107 w106 := (Tr.refl hb.bd).weak (fun _ _ => rfl) rfl rfl
    rcases Bool.eq_false_or_eq_true z103 with hg114 | hg114
    ·have hS := ite_true' hz118 hg114
     refine sr_evg (b := true) (e := 31) rfl rfl hg114 (v := .pointer (some ⟨g6, 0, none⟩)) (ev_move rfl) (by decide) ?_
     obtain ⟨y122, hy123, hS⟩ := bind_some' hS
     refine sr_callg (b := true) (e := 31) rfl rfl hg114 (vs := [.pointer (some ⟨g6, 0, none⟩), str ([97, 112, 112]), str ([])]) rfl Tryz.call29 rfl (client_Clients_Authenticate_ok _ (hg.fr hz hb) (ρA := ρ107) hb.bd (hz.fr hg hb) (τ0 := (fun p => 100 + p)) (fun p => Nat.le_add_right_of_le (by decide)) (⟨_, hB27, h26⟩ : client_Clients.O (fun p => 100 + p) ρ107 w106 g6 y20.2) hy123) (by decide) ?_
     rintro _ w124 ⟨rfl, hbw125⟩
     have htr126 := Tr.of_below hbw125 hb.bd
     replace hB70 := hB70.mv (htr126.mv (i := 7) rfl)
     replace h55 := h55.mv htr126.rd
     replace hB65 := hB65.mv (htr126.mv (i := 6) rfl)
     replace h80 := h80.mv htr126.rd
     replace h46 := h46.mv htr126.rd
     replace hB60 := hB60.mv (htr126.mv (i := 5) rfl)
     replace h35 := h35.mv htr126.rd
     replace h37 := h37.mv htr126.rd
     replace hB27 := hB27.mv (htr126.mv (i := 100) rfl)
     replace h26 := h26.mv (htr126.mv (i := 101) rfl)
     replace hb := hb.trans htr126
     replace hj117 := (hj117.trans htr126).weak (J' := (fun _ => false)) (by intro t h; simp [rng] at h ⊢ <;> omega) rfl rfl
     refine sr_evg (b := true) (e := 31) rfl rfl hg114 (v := .bool (y122 == 0)) (ev_eq rfl rfl) (by decide) ?_
     refine sr_ev (v := .bool (y122 == 0)) (ev_pick_t rfl hg114 rfl) (by decide) ?_
     exact sr_weaken (l' := [(1, .pointer (some ⟨g6, 0, none⟩)), (3, .pointer (some ⟨g56, 0, none⟩)), (4, .pointer (some ⟨g61, 0, none⟩)), (5, .pointer (some ⟨g66, 0, none⟩)), (35, .bool (y122 == 0))]) (.cons rfl (.cons rfl (.cons rfl (.cons rfl (.cons rfl (.nil _)))))) (K115 (y122 == 0) _ ⟨(Option.some.inj hS).symm, _, hj117⟩)
    ·have hS := ite_false' hz118 hg114
     refine sr_pass (e := 31) rfl rfl (by rw [hg114]; rfl) (by decide) ?_
     refine sr_pass (e := 31) rfl rfl (by rw [hg114]; rfl) (by decide) ?_
     refine sr_pass (e := 31) rfl rfl (by rw [hg114]; rfl) (by decide) ?_
     refine sr_ev (v := .bool false) (ev_pick_f rfl hg114 rfl) (by decide) ?_
     exact sr_weaken (l' := [(1, .pointer (some ⟨g6, 0, none⟩)), (3, .pointer (some ⟨g56, 0, none⟩)), (4, .pointer (some ⟨g61, 0, none⟩)), (5, .pointer (some ⟨g66, 0, none⟩)), (35, .bool false)]) (.cons rfl (.cons rfl (.cons rfl (.cons rfl (.cons rfl (.nil _)))))) (K115 false _ ⟨(Option.some.inj hS).symm, _, hj117⟩)
  ·intro K102
   clear hS
   have hj104 : Tr ρ94 w93 (fun _ => false) ρ94 w93 := (Tr.refl hb.bd).weak (fun _ _ => rfl) rfl rfl
   rcases Bool.eq_false_or_eq_true z90 with hg101 | hg101
   ·have hS := ite_true' hz105 hg101
    refine sr_evg (b := true) (e := 26) rfl rfl hg101 (v := .pointer (some ⟨g6, 0, none⟩)) (ev_move rfl) (by decide) ?_
    obtain ⟨y109, hy110, hS⟩ := bind_some' hS
    refine sr_callg (b := true) (e := 26) rfl rfl hg101 (vs := [.pointer (some ⟨g6, 0, none⟩), str ([97, 112, 112]), str ([104, 116, 116, 112, 115, 58, 47, 47, 97, 112, 112, 47, 99, 98, 47])]) rfl Tryz.call27 rfl (client_Clients_Redirect_ok _ (hg.fr hz hb) (ρA := ρ94) hb.bd (hz.fr hg hb) (τ0 := (fun p => 100 + p)) (fun p => Nat.le_add_right_of_le (by decide)) (⟨_, hB27, h26⟩ : client_Clients.O (fun p => 100 + p) ρ94 w93 g6 y20.2) hy110) (by decide) ?_
    rintro _ w111 ⟨rfl, hbw112⟩
    have htr113 := Tr.of_below hbw112 hb.bd
    replace hB70 := hB70.mv (htr113.mv (i := 7) rfl)
    replace h55 := h55.mv htr113.rd
    replace hB65 := hB65.mv (htr113.mv (i := 6) rfl)
    replace h80 := h80.mv htr113.rd
    replace h46 := h46.mv htr113.rd
    replace hB60 := hB60.mv (htr113.mv (i := 5) rfl)
    replace h35 := h35.mv htr113.rd
    replace h37 := h37.mv htr113.rd
    replace hB27 := hB27.mv (htr113.mv (i := 100) rfl)
    replace h26 := h26.mv (htr113.mv (i := 101) rfl)
    replace hb := hb.trans htr113
    replace hj104 := (hj104.trans htr113).weak (J' := (fun _ => false)) (by intro t h; simp [rng] at h ⊢ <;> omega) rfl rfl
    refine sr_evg (b := true) (e := 26) rfl rfl hg101 (v := .bool (y109 == 11)) (ev_eq rfl rfl) (by decide) ?_
    refine sr_ev (v := .bool (y109 == 11)) (ev_pick_t rfl hg101 rfl) (by decide) ?_
    exact sr_weaken (l' := [(1, .pointer (some ⟨g6, 0, none⟩)), (3, .pointer (some ⟨g56, 0, none⟩)), (4, .pointer (some ⟨g61, 0, none⟩)), (5, .pointer (some ⟨g66, 0, none⟩)), (30, .bool (y109 == 11))]) (.cons rfl (.cons rfl (.cons rfl (.cons rfl (.cons rfl (.nil _)))))) (K102 (y109 == 11) _ ⟨(Option.some.inj hS).symm, _, hj104⟩)
   ·have hS := ite_false' hz105 hg101
    refine sr_pass (e := 26) rfl rfl (by rw [hg101]; rfl) (by decide) ?_
    refine sr_pass (e := 26) rfl rfl (by rw [hg101]; rfl) (by decide) ?_
    refine sr_pass (e := 26) rfl rfl (by rw [hg101]; rfl) (by decide) ?_
    refine sr_ev (v := .bool false) (ev_pick_f rfl hg101 rfl) (by decide) ?_
    exact sr_weaken (l' := [(1, .pointer (some ⟨g6, 0, none⟩)), (3, .pointer (some ⟨g56, 0, none⟩)), (4, .pointer (some ⟨g61, 0, none⟩)), (5, .pointer (some ⟨g66, 0, none⟩)), (30, .bool false)]) (.cons rfl (.cons rfl (.cons rfl (.cons rfl (.cons rfl (.nil _)))))) (K102 false _ ⟨(Option.some.inj hS).symm, _, hj104⟩)
 ·intro K89
  clear hS
  have hj91 : Tr ρ67 w86 (fun _ => false) ρ67 w86 := (Tr.refl hb.bd).weak (fun _ _ => rfl) rfl rfl
  rcases Bool.eq_false_or_eq_true (y20.1 == 0) with hg88 | hg88
  ·have hS := ite_true' hz92 hg88
   refine sr_evg (b := true) (e := 21) rfl rfl hg88 (v := .pointer (some ⟨g6, 0, none⟩)) (ev_move rfl) (by decide) ?_
   obtain ⟨y96, hy97, hS⟩ := bind_some' hS
   refine sr_callg (b := true) (e := 21) rfl rfl hg88 (vs := [.pointer (some ⟨g6, 0, none⟩), str ([97, 112, 112]), str ([104, 116, 116, 112, 115, 58, 47, 47, 97, 112, 112, 47, 99, 98])]) rfl Tryz.call27 rfl (client_Clients_Redirect_ok _ (hg.fr hz hb) (ρA := ρ67) hb.bd (hz.fr hg hb) (τ0 := (fun p => 100 + p)) (fun p => Nat.le_add_right_of_le (by decide)) (⟨_, hB27, h26⟩ : client_Clients.O (fun p => 100 + p) ρ67 w86 g6 y20.2) hy97) (by decide) ?_
   rintro _ w98 ⟨rfl, hbw99⟩
   have htr100 := Tr.of_below hbw99 hb.bd
   replace hB70 := hB70.mv (htr100.mv (i := 7) rfl)
   replace h55 := h55.mv htr100.rd
   replace hB65 := hB65.mv (htr100.mv (i := 6) rfl)
   replace h80 := h80.mv htr100.rd
   replace h46 := h46.mv htr100.rd
   replace hB60 := hB60.mv (htr100.mv (i := 5) rfl)
   replace h35 := h35.mv htr100.rd
   replace h37 := h37.mv htr100.rd
   replace hB27 := hB27.mv (htr100.mv (i := 100) rfl)
   replace h26 := h26.mv (htr100.mv (i := 101) rfl)
   replace hb := hb.trans htr100
   replace hj91 := (hj91.trans htr100).weak (J' := (fun _ => false)) (by intro t h; simp [rng] at h ⊢ <;> omega) rfl rfl
   refine sr_evg (b := true) (e := 21) rfl rfl hg88 (v := .bool (y96 == 0)) (ev_eq rfl rfl) (by decide) ?_
   refine sr_ev (v := .bool (y96 == 0)) (ev_pick_t rfl hg88 rfl) (by decide) ?_
   exact sr_weaken (l' := [(1, .pointer (some ⟨g6, 0, none⟩)), (3, .pointer (some ⟨g56, 0, none⟩)), (4, .pointer (some ⟨g61, 0, none⟩)), (5, .pointer (some ⟨g66, 0, none⟩)), (25, .bool (y96 == 0))]) (.cons rfl (.cons rfl (.cons rfl (.cons rfl (.cons rfl (.nil _)))))) (K89 (y96 == 0) _ ⟨(Option.some.inj hS).symm, _, hj91⟩)
  ·have hS := ite_false' hz92 hg88
   refine sr_pass (e := 21) rfl rfl (by rw [hg88]; rfl) (by decide) ?_
   refine sr_pass (e := 21) rfl rfl (by rw [hg88]; rfl) (by decide) ?_
   refine sr_pass (e := 21) rfl rfl (by rw [hg88]; rfl) (by decide) ?_
   refine sr_ev (v := .bool false) (ev_pick_f rfl hg88 rfl) (by decide) ?_
   exact sr_weaken (l' := [(1, .pointer (some ⟨g6, 0, none⟩)), (3, .pointer (some ⟨g56, 0, none⟩)), (4, .pointer (some ⟨g61, 0, none⟩)), (5, .pointer (some ⟨g66, 0, none⟩)), (25, .bool false)]) (.cons rfl (.cons rfl (.cons rfl (.cons rfl (.cons rfl (.nil _)))))) (K89 false _ ⟨(Option.some.inj hS).symm, _, hj91⟩)
theorem law36_ClientScopes_B2_ok {w0 : World} (hg : Gs w0) {ρA : Tags} (hbd : ∀ b, ρA b ≠ 0 → b < w0.heap.size) (hz : Gz (flat1 ρA)) {r : Bool} {l_0 : List Str} {m_1 : List Str} {a_10 : Int} {b_11 : Int} {vl_0 : Value} {vm_1 : Value} (hS : law36_ClientScopes_B2 l_0 m_1 a_10 b_11 = some r) {ρ : Tags} {w : World} (hb : Fr (flat1 ρA) w0 ρ w) (hl_0 : SlR strC (Wb ρ) w vl_0 l_0) (hm_1 : SlR strC (Wb ρ) w vm_1 m_1) :
  KE Tryz.prog 4 (Ret (fun v w' => v = .bool r ∧ Below w0.heap.size w0 w')) 95 [.code (sub (bodyOf Tryz.f4) [2, 2, 2, 2, 2, 2, 2, 2, 2, 2, 2, 2])] [(0, vl_0), (1, vm_1), (10, .int .i64 a_10), (11, .int .i64 b_11)] w := by
 unfold law36_ClientScopes_B2 at hS
 refine ke_seq ?_
 refine ke_region ?_
 refine sr_ev (v := .int .i64 a_10) (ev_move rfl) (by decide) ?_
 refine sr_ev (v := .bool (a_10 == 0)) (ev_eq rfl rfl) (by decide) ?_
 refine sr_ev (v := vm_1) (ev_move rfl) (by decide) ?_
 refine sr_ev (v := vl_0) (ev_move rfl) (by decide) ?_
 obtain ⟨y195, hy196, hS⟩ := bind_some' hS
 refine sr_call (vs := [vm_1, vl_0]) rfl Tryz.call20 rfl (scope_Within_ok _ (hg.fr hz hb) hm_1.asSl hl_0.asSl hy196) (by decide) ?_
 rintro _ w197 ⟨rfl, hbw198⟩
 have htr199 := Tr.of_below hbw198 hb.bd
 replace hb := hb.trans htr199
 refine sr_ev (v := .bool ((a_10 == 0) == y195)) (ev_beq Tryz.underlying4 rfl rfl) (by decide) ?_
 refine sr_ev (v := .bool ((a_10 == 0) == y195)) (ev_move rfl) (by decide) ?_
 refine sr_join (m := 7) (C := fun (x : Bool) w1 => x = (((a_10 == 0) == y195) && ((a_10 == 0) || (a_10 == 19))) ∧ w197 = w1) (l' := fun x => [(10, .int .i64 a_10), (11, .int .i64 b_11), (83, .bool x)]) ?_ ?_
 ·rintro _ _ ⟨rfl, rfl⟩
  refine sr_ev (v := .bool (((a_10 == 0) == y195) && ((a_10 == 0) || (a_10 == 19)))) (ev_move rfl) (by decide) ?_
  refine sr_join (m := 7) (C := fun (x : Bool) w1 => x = ((((a_10 == 0) == y195) && ((a_10 == 0) || (a_10 == 19))) && ((b_11 != 0) || (a_10 == 0))) ∧ w197 = w1) (l' := fun x => [(91, .bool x)]) ?_ ?_
  ·rintro _ _ ⟨rfl, rfl⟩
   refine sr_ev (v := .bool ((((a_10 == 0) == y195) && ((a_10 == 0) || (a_10 == 19))) && ((b_11 != 0) || (a_10 == 0)))) (ev_move rfl) (by decide) ?_
   obtain ⟨z234, hz236, hS⟩ := bind_some' hS
   refine sr_join (m := 2) (C := fun (z : Bool) w1 => z234 = z ∧ ∃ ρ1, Tr ρ w197 (fun _ => false) ρ1 w1) (l' := fun z => [(94, .bool z)]) ?_ ?_
   ·rintro _ w237 ⟨rfl, ρ238, hj235⟩
    replace hb := hb.trans hj235
    refine sr_ev (v := .bool z234) (ev_assign rfl) (by decide) ?_
    refine sr_end (l' := [(4, .bool z234)]) (.cons rfl (.nil _)) ?_
    cases hS
    exact ke_ret1 Tryz.func4 rfl rfl ⟨_, rfl, rfl, (hb.below (flat1_le _))⟩
   ·intro K233
    clear hS
    have hj235 : Tr ρ w197 (fun _ => false) ρ w197 := (Tr.refl hb.bd).weak (fun _ _ => rfl) rfl rfl
    rcases Bool.eq_false_or_eq_true ((((a_10 == 0) == y195) && ((a_10 == 0) || (a_10 == 19))) && ((b_11 != 0) || (a_10 == 0))) with hg232 | hg232
    ·have hS := ite_true' hz236 hg232
     obtain ⟨y240, hy241, hS⟩ := bind_some' hS
     refine sr_callg (b := true) (e := 92) rfl rfl hg232 (vs := []) rfl Tryz.call11 rfl (law36_alive_ok _ (hg.fr hz hb) (ρA := ρ) hb.bd (hz.fr hg hb) hy241) (by decide) ?_
     rintro _ w242 ⟨rfl, hbw243⟩
     have htr244 := Tr.of_below hbw243 hb.bd
     replace hb := hb.trans htr244
     replace hj235 := (hj235.trans htr244).weak (J' := (fun _ => false)) (by intro t h; simp [rng] at h ⊢ <;> omega) rfl rfl
     refine sr_ev (v := .bool y240) (ev_pick_t rfl hg232 rfl) (by decide) ?_
     exact sr_weaken (l' := [(94, .bool y240)]) (.cons rfl (.nil _)) (K233 y240 _ ⟨(Option.some.inj hS).symm, _, hj235⟩)
    ·have hS := ite_false' hz236 hg232
     refine sr_pass (e := 92) rfl rfl (by rw [hg232]; rfl) (by decide) ?_
     refine sr_ev (v := .bool false) (ev_pick_f rfl hg232 rfl) (by decide) ?_
     exact sr_weaken (l' := [(94, .bool false)]) (.cons rfl (.nil _)) (K233 false _ ⟨(Option.some.inj hS).symm, _, hj235⟩)
  ·intro K217
   rcases Bool.eq_false_or_eq_true (((a_10 == 0) == y195) && ((a_10 == 0) || (a_10 == 19))) with hg216 | hg216
   all_goals try have hj219 : Tr ρ w197 (fun _ => false) ρ w197 := Tr.refl hb.bd
   ·refine sr_evg (b := true) (e := 84) rfl rfl hg216 (v := .int .i64 b_11) (ev_move rfl) (by decide) ?_
    refine sr_evg (b := true) (e := 84) rfl rfl hg216 (v := .bool (b_11 != 0)) (ev_ne rfl rfl) (by decide) ?_
    refine sr_evg (b := true) (e := 84) rfl rfl hg216 (v := .bool (b_11 != 0)) (ev_move rfl) (by decide) ?_
    refine sr_join (m := 3) (C := fun (x : Bool) w1 => x = ((b_11 != 0) || (a_10 == 0)) ∧ w197 = w1) (l' := fun x => [(84, .bool (((a_10 == 0) == y195) && ((a_10 == 0) || (a_10 == 19)))), (90, .bool x)]) ?_ ?_
    ·rintro _ _ ⟨rfl, rfl⟩
     refine sr_ev (v := .bool ((b_11 != 0) || (a_10 == 0))) (ev_pick_t rfl hg216 rfl) (by decide) ?_
     exact sr_weaken (l' := [(91, .bool ((b_11 != 0) || (a_10 == 0)))]) (.cons rfl (.nil _)) (K217 ((b_11 != 0) || (a_10 == 0)) _ ⟨by rw [hg216]; rfl, rfl⟩)
    ·intro K225
     rcases Bool.eq_false_or_eq_true (b_11 != 0) with hg224 | hg224
     all_goals try have hj227 : Tr ρ w197 (fun _ => false) ρ w197 := Tr.refl hb.bd
     ·refine sr_pass (e := 87) rfl rfl (by rw [hg224]; rfl) (by decide) ?_
      refine sr_pass (e := 87) rfl rfl (by rw [hg224]; rfl) (by decide) ?_
      refine sr_evg (b := true) (e := 84) rfl rfl hg216 (v := .bool true) (ev_pick_t rfl hg224 rfl) (by decide) ?_
      exact sr_weaken (l' := [(84, .bool (((a_10 == 0) == y195) && ((a_10 == 0) || (a_10 == 19)))), (90, .bool true)]) (.cons rfl (.cons rfl (.nil _))) (K225 true _ ⟨by rw [hg224]; rfl, rfl⟩)
     ·refine sr_evg (b := false) (e := 87) rfl rfl hg224 (v := .int .i64 a_10) (ev_move rfl) (by decide) ?_
      refine sr_evg (b := false) (e := 87) rfl rfl hg224 (v := .bool (a_10 == 0)) (ev_eq rfl rfl) (by decide) ?_
      refine sr_evg (b := true) (e := 84) rfl rfl hg216 (v := .bool (a_10 == 0)) (ev_pick_f rfl hg224 rfl) (by decide) ?_
      exact sr_weaken (l' := [(84, .bool (((a_10 == 0) == y195) && ((a_10 == 0) || (a_10 == 19)))), (90, .bool (a_10 == 0))]) (.cons rfl (.cons rfl (.nil _))) (K225 (a_10 == 0) _ ⟨by rw [hg224]; rfl, rfl⟩)
   ·refine sr_pass (e := 84) rfl rfl (by rw [hg216]; rfl) (by decide) ?_
    refine sr_pass (e := 84) rfl rfl (by rw [hg216]; rfl) (by decide) ?_
    refine sr_pass (e := 84) rfl rfl (by rw [hg216]; rfl) (by decide) ?_
    refine sr_pass_undef (e := 87) rfl rfl (by decide) ?_
    refine sr_pass_undef (e := 87) rfl rfl (by decide) ?_
    refine sr_pass (e := 84) rfl rfl (by rw [hg216]; rfl) (by decide) ?_
    refine sr_ev (v := .bool false) (ev_pick_f rfl hg216 rfl) (by decide) ?_
    exact sr_weaken (l' := [(91, .bool false)]) (.cons rfl (.nil _)) (K217 false _ ⟨by rw [hg216]; rfl, rfl⟩)
 ·intro K201
  rcases Bool.eq_false_or_eq_true ((a_10 == 0) == y195) with hg200 | hg200
  all_goals try have hj203 : Tr ρ w197 (fun _ => false) ρ w197 := Tr.refl hb.bd
  ·refine sr_evg (b := true) (e := 76) rfl rfl hg200 (v := .int .i64 a_10) (ev_move rfl) (by decide) ?_
   refine sr_evg (b := true) (e := 76) rfl rfl hg200 (v := .bool (a_10 == 0)) (ev_eq rfl rfl) (by decide) ?_
   refine sr_evg (b := true) (e := 76) rfl rfl hg200 (v := .bool (a_10 == 0)) (ev_move rfl) (by decide) ?_
   refine sr_join (m := 3) (C := fun (x : Bool) w1 => x = ((a_10 == 0) || (a_10 == 19)) ∧ w197 = w1) (l' := fun x => [(10, .int .i64 a_10), (11, .int .i64 b_11), (76, .bool ((a_10 == 0) == y195)), (82, .bool x)]) ?_ ?_
   ·rintro _ _ ⟨rfl, rfl⟩
    refine sr_ev (v := .bool ((a_10 == 0) || (a_10 == 19))) (ev_pick_t rfl hg200 rfl) (by decide) ?_
    exact sr_weaken (l' := [(10, .int .i64 a_10), (11, .int .i64 b_11), (83, .bool ((a_10 == 0) || (a_10 == 19)))]) (.cons rfl (.cons rfl (.cons rfl (.nil _)))) (K201 ((a_10 == 0) || (a_10 == 19)) _ ⟨by rw [hg200]; rfl, rfl⟩)
   ·intro K209
    rcases Bool.eq_false_or_eq_true (a_10 == 0) with hg208 | hg208
    all_goals try have hj211 : Tr ρ w197 (fun _ => false) ρ w197 := Tr.refl hb.bd
    ·refine sr_pass (e := 79) rfl rfl (by rw [hg208]; rfl) (by decide) ?_
     refine sr_pass (e := 79) rfl rfl (by rw [hg208]; rfl) (by decide) ?_
     refine sr_evg (b := true) (e := 76) rfl rfl hg200 (v := .bool true) (ev_pick_t rfl hg208 rfl) (by decide) ?_
     exact sr_weaken (l' := [(10, .int .i64 a_10), (11, .int .i64 b_11), (76, .bool ((a_10 == 0) == y195)), (82, .bool true)]) (.cons rfl (.cons rfl (.cons rfl (.cons rfl (.nil _))))) (K209 true _ ⟨by rw [hg208]; rfl, rfl⟩)
    ·refine sr_evg (b := false) (e := 79) rfl rfl hg208 (v := .int .i64 a_10) (ev_move rfl) (by decide) ?_
     refine sr_evg (b := false) (e := 79) rfl rfl hg208 (v := .bool (a_10 == 19)) (ev_eq rfl rfl) (by decide) ?_
     refine sr_evg (b := true) (e := 76) rfl rfl hg200 (v := .bool (a_10 == 19)) (ev_pick_f rfl hg208 rfl) (by decide) ?_
     exact sr_weaken (l' := [(10, .int .i64 a_10), (11, .int .i64 b_11), (76, .bool ((a_10 == 0) == y195)), (82, .bool (a_10 == 19))]) (.cons rfl (.cons rfl (.cons rfl (.cons rfl (.nil _))))) (K209 (a_10 == 19) _ ⟨by rw [hg208]; rfl, rfl⟩)
  ·refine sr_pass (e := 76) rfl rfl (by rw [hg200]; rfl) (by decide) ?_
   refine sr_pass (e := 76) rfl rfl (by rw [hg200]; rfl) (by decide) ?_
   refine sr_pass (e := 76) rfl rfl (by rw [hg200]; rfl) (by decide) ?_
   refine sr_pass_undef (e := 79) rfl rfl (by decide) ?_
   refine sr_pass_undef (e := 79) rfl rfl (by decide) ?_
   refine sr_pass (e := 76) rfl rfl (by rw [hg200]; rfl) (by decide) ?_
   refine sr_ev (v := .bool false) (ev_pick_f rfl hg200 rfl) (by decide) ?_
   exact sr_weaken (l' := [(10, .int .i64 a_10), (11, .int .i64 b_11), (83, .bool false)]) (.cons rfl (.cons rfl (.cons rfl (.nil _)))) (K201 false _ ⟨by rw [hg200]; rfl, rfl⟩)
theorem law36_ClientScopes_B1_ok {w0 : World} (hg : Gs w0) {ρA : Tags} (hbd : ∀ b, ρA b ≠ 0 → b < w0.heap.size) (hz : Gz (flat1 ρA)) {r : Bool} {l_0 : List Str} {m_1 : List Str} {or_5 : client_Clients} {c_6_0 : Str} {c_6_1 : Int} {c_6_2 : Str} {c_6_3 : Str} {c_6_4 : Int} {c_6_5 : Str} {c_6_6 : List Str} {c_6_7 : List Str} {c_6_8 : Str} {d_7_0 : Str} {d_7_1 : Int} {d_7_2 : Str} {d_7_3 : Str} {d_7_4 : Int} {d_7_5 : Str} {d_7_6 : List Str} {d_7_7 : List Str} {d_7_8 : Str} {vl_0 : Value} {vm_1 : Value} {gr_5 : Nat} {gc_6 : Nat} {vc_6_6 : Value} {vc_6_7 : Value} {gd_7 : Nat} {vd_7_6 : Value} {vd_7_7 : Value} (hS : law36_ClientScopes_B1 l_0 m_1 or_5 c_6_0 c_6_1 c_6_2 c_6_3 c_6_4 c_6_5 c_6_6 c_6_7 c_6_8 d_7_0 d_7_1 d_7_2 d_7_3 d_7_4 d_7_5 d_7_6 d_7_7 d_7_8 = some r) {ρ : Tags} {w : World} (hb : Fr (flat1 ρA) w0 ρ w) (hl_0 : SlR strC (Wb ρ) w vl_0 l_0) (hm_1 : SlR strC (Wb ρ) w vm_1 m_1) (hor_5 : client_Clients.O (fun p => 100 + p) ρ w gr_5 or_5) (hc_6_6 : SlR strC (Wb ρ) w vc_6_6 c_6_6) (hc_6_7 : SlR strC (Wb ρ) w vc_6_7 c_6_7) (hBc_6 : Blk ρ 8 w gc_6 (.cells #[str c_6_0, .int .i64 c_6_1, str c_6_2, str c_6_3, .int .i64 c_6_4, str c_6_5, vc_6_6, vc_6_7, str c_6_8] 27 (0, 0))) (hd_7_6 : SlR strC (Wb ρ) w vd_7_6 d_7_6) (hd_7_7 : SlR strC (Wb ρ) w vd_7_7 d_7_7) (hBd_7 : Blk ρ 9 w gd_7 (.cells #[str d_7_0, .int .i64 d_7_1, str d_7_2, str d_7_3, .int .i64 d_7_4, str d_7_5, vd_7_6, vd_7_7, str d_7_8] 27 (0, 0))) :
  KE Tryz.prog 4 (Ret (fun v w' => v = .bool r ∧ Below w0.heap.size w0 w')) 95 [.code (sub (bodyOf Tryz.f4) [2, 2, 2, 2, 2, 2, 2, 2])] [(0, vl_0), (1, vm_1), (5, .pointer (some ⟨gr_5, 0, none⟩)), (6, .pointer (some ⟨gc_6, 0, none⟩)), (7, .pointer (some ⟨gd_7, 0, none⟩))] w := by
 unfold law36_ClientScopes_B1 at hS
 obtain ⟨v82, hB84, h83⟩ := hor_5
 replace hB84 : Blk ρ 100 w gr_5 (.cells #[v82] 57 (0, 0)) := hB84
 replace h83 : MapT str api_Client.c true ρ 101 w v82 or_5.of_ := h83
 refine ke_seq ?_
 refine ke_region_j (ρ := ρ) (fun t => ([100, 101] : List Nat).contains t) 8 Tryz.mixed (fun w86 hw85 => ?_)
 have htr87 := Tr.of_below hw85 hb.bd
 replace hl_0 := hl_0.mv htr87.rd
 replace hm_1 := hm_1.mv htr87.rd
 replace hB84 := hB84.mv (htr87.mv (i := 100) rfl)
 replace h83 := h83.mv (htr87.mv (i := 101) rfl)
 replace hBc_6 := hBc_6.mv (htr87.mv (i := 8) rfl)
 replace hc_6_6 := hc_6_6.mv htr87.rd
 replace hc_6_7 := hc_6_7.mv htr87.rd
 replace hBd_7 := hBd_7.mv (htr87.mv (i := 9) rfl)
 replace hd_7_6 := hd_7_6.mv htr87.rd
 replace hd_7_7 := hd_7_7.mv htr87.rd
 replace hb := hb.trans htr87
 refine dj_H 0 (v := .pointer (some ⟨gr_5, 0, none⟩)) (by kernel_rfl) (by kernel_rfl) rfl (fun _ _ _ h => h) (sj_refl hb.bd rfl rfl) (fun w1 ρ1 hw1 => ev_move rfl) (by decide) ?_
 refine dj_H 1 (v := .agg #[str c_6_0, .int .i64 c_6_1, str c_6_2, str c_6_3, .int .i64 c_6_4, str c_6_5, vc_6_6, vc_6_7, str c_6_8]) (by kernel_rfl) (by kernel_rfl) rfl (fun _ _ _ h => h) (sj_refl hb.bd rfl rfl) (fun w1 ρ1 hw1 => ev_loads (cs := [str c_6_0, .int .i64 c_6_1, str c_6_2, str c_6_3, .int .i64 c_6_4, str c_6_5, vc_6_6, vc_6_7, str c_6_8]) Tryz.isAgg27 Tryz.sizeOf27 rfl ((hBc_6.mv (hw1.mv (i := 8) rfl)).cells (vs := [str c_6_0, .int .i64 c_6_1, str c_6_2, str c_6_3, .int .i64 c_6_4, str c_6_5, vc_6_6, vc_6_7, str c_6_8]) rfl)) (by decide) ?_
 refine dj_H 3 (v := .pointer (some ⟨gr_5, 0, none⟩)) (by kernel_rfl) (by kernel_rfl) rfl (fun _ _ _ h => h) (sj_refl hb.bd rfl rfl) (fun w1 ρ1 hw1 => ev_move rfl) (by decide) ?_
 refine dj_H 4 (v := .agg #[str d_7_0, .int .i64 d_7_1, str d_7_2, str d_7_3, .int .i64 d_7_4, str d_7_5, vd_7_6, vd_7_7, str d_7_8]) (by kernel_rfl) (by kernel_rfl) rfl (fun _ _ _ h => h) (sj_refl hb.bd rfl rfl) (fun w1 ρ1 hw1 => ev_loads (cs := [str d_7_0, .int .i64 d_7_1, str d_7_2, str d_7_3, .int .i64 d_7_4, str d_7_5, vd_7_6, vd_7_7, str d_7_8]) Tryz.isAgg27 Tryz.sizeOf27 rfl ((hBd_7.mv (hw1.mv (i := 9) rfl)).cells (vs := [str d_7_0, .int .i64 d_7_1, str d_7_2, str d_7_3, .int .i64 d_7_4, str d_7_5, vd_7_6, vd_7_7, str d_7_8]) rfl)) (by decide) ?_
 refine dj_E 2 (by kernel_rfl) rfl ?_
 have jt129 : Tr ρ w86 (fun t => ([100, 101] : List Nat).contains t) ρ w86 := (Tr.refl hb.bd).weak (fun _ _ => rfl) rfl rfl
 obtain ⟨y130, hy131, hS⟩ := bind_some' hS
 refine sr_call (vs := [.pointer (some ⟨gr_5, 0, none⟩), .agg #[str c_6_0, .int .i64 c_6_1, str c_6_2, str c_6_3, .int .i64 c_6_4, str c_6_5, vc_6_6, vc_6_7, str c_6_8]]) rfl Tryz.call17 rfl (client_Clients_Register_ok (c_1 := (api_Client.mk c_6_0 c_6_1 c_6_2 (api_Verifier.mk c_6_3 c_6_4 c_6_5) c_6_6 c_6_7 c_6_8)) _ (hg.fr hz hb) (ρA := ρ) hb.bd (hz.fr hg hb) (o := 100) (by decide) hc_6_6 hc_6_7 (⟨_, hB84, h83⟩ : client_Clients.O (fun p => 100 + p) ρ w86 gr_5 or_5) hy131) (by decide) ?_
 rintro _ w132 ⟨ρ138, rfl, ⟨v135, hB137, h136⟩, htr134⟩
 replace hl_0 := hl_0.mv htr134.rd
 replace hm_1 := hm_1.mv htr134.rd
 replace hd_7_6 := hd_7_6.mv htr134.rd
 replace hd_7_7 := hd_7_7.mv htr134.rd
 replace hb := hb.trans htr134
 replace jt129 := (jt129.trans htr134).weak (J' := (fun t => ([100, 101] : List Nat).contains t)) (by intro t h; simp [rng] at h ⊢ <;> omega) rfl rfl
 replace hB137 : Blk ρ138 100 w132 gr_5 (.cells #[v135] 57 (0, 0)) := hB137
 replace h136 : MapT str api_Client.c true ρ138 101 w132 v135 y130.2.of_ := h136
 refine dj_next (l' := [(0, vl_0), (1, vm_1), (5, .pointer (some ⟨gr_5, 0, none⟩)), (40, .int .i64 y130.1), (41, .pointer (some ⟨gr_5, 0, none⟩)), (42, .agg #[str d_7_0, .int .i64 d_7_1, str d_7_2, str d_7_3, .int .i64 d_7_4, str d_7_5, vd_7_6, vd_7_7, str d_7_8])]) rfl (.cons rfl (.cons rfl (.cons rfl (.cons rfl (.cons rfl (.cons rfl (.nil _))))))) jt129 (by intro t h; simp [rng] at h ⊢ <;> omega) rfl rfl ?_
 refine dj_E 5 (by kernel_rfl) rfl ?_
 have jt139 : Tr ρ138 w132 (fun t => ([100, 101] : List Nat).contains t) ρ138 w132 := (Tr.refl hb.bd).weak (fun _ _ => rfl) rfl rfl
 obtain ⟨y140, hy141, hS⟩ := bind_some' hS
 refine sr_call (vs := [.pointer (some ⟨gr_5, 0, none⟩), .agg #[str d_7_0, .int .i64 d_7_1, str d_7_2, str d_7_3, .int .i64 d_7_4, str d_7_5, vd_7_6, vd_7_7, str d_7_8]]) rfl Tryz.call17 rfl (client_Clients_Register_ok (c_1 := (api_Client.mk d_7_0 d_7_1 d_7_2 (api_Verifier.mk d_7_3 d_7_4 d_7_5) d_7_6 d_7_7 d_7_8)) _ (hg.fr hz hb) (ρA := ρ138) hb.bd (hz.fr hg hb) (o := 100) (by decide) hd_7_6 hd_7_7 (⟨_, hB137, h136⟩ : client_Clients.O (fun p => 100 + p) ρ138 w132 gr_5 y130.2) hy141) (by decide) ?_
 rintro _ w142 ⟨ρ148, rfl, ⟨v145, hB147, h146⟩, htr144⟩
 replace hl_0 := hl_0.mv htr144.rd
 replace hm_1 := hm_1.mv htr144.rd
 replace hb := hb.trans htr144
 replace jt139 := (jt139.trans htr144).weak (J' := (fun t => ([100, 101] : List Nat).contains t)) (by intro t h; simp [rng] at h ⊢ <;> omega) rfl rfl
 replace hB147 : Blk ρ148 100 w142 gr_5 (.cells #[v145] 57 (0, 0)) := hB147
 replace h146 : MapT str api_Client.c true ρ148 101 w142 v145 y140.2.of_ := h146
 refine dj_next (l' := [(0, vl_0), (1, vm_1), (5, .pointer (some ⟨gr_5, 0, none⟩)), (40, .int .i64 y130.1), (43, .int .i64 y140.1)]) rfl (.cons rfl (.cons rfl (.cons rfl (.cons rfl (.cons rfl (.nil _)))))) jt139 (by intro t h; simp [rng] at h ⊢ <;> omega) rfl rfl ?_
 refine dj_H 6 (v := .int .i64 y130.1) (by kernel_rfl) (by kernel_rfl) rfl (fun _ _ _ h => h) (sj_refl hb.bd rfl rfl) (fun w1 ρ1 hw1 => ev_assign rfl) (by decide) ?_
 refine dj_H 7 (v := .int .i64 y140.1) (by kernel_rfl) (by kernel_rfl) rfl (fun _ _ _ h => h) (sj_refl hb.bd rfl rfl) (fun w1 ρ1 hw1 => ev_assign rfl) (by decide) ?_
 refine dj_done rfl (by kernel_rfl) ?_
 refine ke_weaken (l' := [(0, vl_0), (1, vm_1), (5, .pointer (some ⟨gr_5, 0, none⟩)), (8, .int .i64 y130.1), (9, .int .i64 y140.1)]) (.cons rfl (.cons rfl (.cons rfl (.cons rfl (.cons rfl (.nil _)))))) ?_
 refine ke_seq ?_
 refine ke_seq ?_
 refine ke_region ?_
 refine sr_ev (v := .int .i64 y130.1) (ev_move rfl) (by decide) ?_
 refine sr_ev (v := .bool (y130.1 != 0)) (ev_ne rfl rfl) (by decide) ?_
 refine sr_ev (v := .bool (y130.1 != 0)) (ev_move rfl) (by decide) ?_
 refine sr_join (m := 3) (C := fun (x : Bool) w1 => x = ((y130.1 != 0) || (y140.1 != 0)) ∧ w142 = w1) (l' := fun x => [(0, vl_0), (1, vm_1), (5, .pointer (some ⟨gr_5, 0, none⟩)), (8, .int .i64 y130.1), (49, .bool x)]) ?_ ?_
 ·rintro _ _ ⟨rfl, rfl⟩
  refine sr_end (l' := [(0, vl_0), (1, vm_1), (5, .pointer (some ⟨gr_5, 0, none⟩)), (8, .int .i64 y130.1), (49, .bool ((y130.1 != 0) || (y140.1 != 0)))]) (.cons rfl (.cons rfl (.cons rfl (.cons rfl (.cons rfl (.nil _)))))) ?_
  refine ke_cond (t := (y130.1 != 0) || (y140.1 != 0)) rfl (fun hc157 => ?_) (fun hc157 => ?_)
  ·replace hS := ite_true' hS hc157
   refine ke_seq ?_
   refine ke_region ?_
   refine sr_ev (v := .int .i64 y130.1) (ev_move rfl) (by decide) ?_
   refine sr_ev (v := .bool (y130.1 == 0)) (ev_eq rfl rfl) (by decide) ?_
   refine sr_ev (v := .bool (y130.1 == 0)) (ev_move rfl) (by decide) ?_
   obtain ⟨z160, hz162, hS⟩ := bind_some' hS
   refine sr_join (m := 5) (C := fun (z : Bool) w1 => z160 = z ∧ ∃ ρ1, Tr ρ148 w142 (fun _ => false) ρ1 w1) (l' := fun z => [(57, .bool z)]) ?_ ?_
   ·rintro _ w163 ⟨rfl, ρ164, hj161⟩
    replace hb := hb.trans hj161
    refine sr_ev (v := .bool z160) (ev_move rfl) (by decide) ?_
    obtain ⟨z173, hz175, hS⟩ := bind_some' hS
    refine sr_join (m := 2) (C := fun (z : Bool) w1 => z173 = z ∧ ∃ ρ1, Tr ρ164 w163 (fun _ => false) ρ1 w1) (l' := fun z => [(60, .bool z)]) ?_ ?_
    ·rintro _ w176 ⟨rfl, ρ177, hj174⟩
     replace hb := hb.trans hj174
     refine sr_ev (v := .bool z173) (ev_assign rfl) (by decide) ?_
     refine sr_end (l' := [(4, .bool z173)]) (.cons rfl (.nil _)) ?_
     cases hS
     exact ke_ret1 Tryz.func4 rfl rfl ⟨_, rfl, rfl, (hb.below (flat1_le _))⟩
    ·intro K172
     clear hS
     have hj174 : Tr ρ164 w163 (fun _ => false) ρ164 w163 := (Tr.refl hb.bd).weak (fun _ _ => rfl) rfl rfl
     rcases Bool.eq_false_or_eq_true z160 with hg171 | hg171
     ·have hS := ite_true' hz175 hg171
      obtain ⟨y179, hy180, hS⟩ := bind_some' hS
      refine sr_callg (b := true) (e := 58) rfl rfl hg171 (vs := []) rfl Tryz.call11 rfl (law36_alive_ok _ (hg.fr hz hb) (ρA := ρ164) hb.bd (hz.fr hg hb) hy180) (by decide) ?_
      rintro _ w181 ⟨rfl, hbw182⟩
      have htr183 := Tr.of_below hbw182 hb.bd
      replace hb := hb.trans htr183
      replace hj174 := (hj174.trans htr183).weak (J' := (fun _ => false)) (by intro t h; simp [rng] at h ⊢ <;> omega) rfl rfl
      refine sr_ev (v := .bool y179) (ev_pick_t rfl hg171 rfl) (by decide) ?_
      exact sr_weaken (l' := [(60, .bool y179)]) (.cons rfl (.nil _)) (K172 y179 _ ⟨(Option.some.inj hS).symm, _, hj174⟩)
     ·have hS := ite_false' hz175 hg171
      refine sr_pass (e := 58) rfl rfl (by rw [hg171]; rfl) (by decide) ?_
      refine sr_ev (v := .bool false) (ev_pick_f rfl hg171 rfl) (by decide) ?_
      exact sr_weaken (l' := [(60, .bool false)]) (.cons rfl (.nil _)) (K172 false _ ⟨(Option.some.inj hS).symm, _, hj174⟩)
   ·intro K159
    clear hS
    have hj161 : Tr ρ148 w142 (fun _ => false) ρ148 w142 := (Tr.refl hb.bd).weak (fun _ _ => rfl) rfl rfl
    rcases Bool.eq_false_or_eq_true (y130.1 == 0) with hg158 | hg158
    ·have hS := ite_true' hz162 hg158
     refine sr_pass (e := 52) rfl rfl (by rw [hg158]; rfl) (by decide) ?_
     refine sr_pass (e := 52) rfl rfl (by rw [hg158]; rfl) (by decide) ?_
     refine sr_pass (e := 52) rfl rfl (by rw [hg158]; rfl) (by decide) ?_
     refine sr_pass (e := 52) rfl rfl (by rw [hg158]; rfl) (by decide) ?_
     refine sr_ev (v := .bool true) (ev_pick_t rfl hg158 rfl) (by decide) ?_
     exact sr_weaken (l' := [(57, .bool true)]) (.cons rfl (.nil _)) (K159 true _ ⟨(Option.some.inj hS).symm, _, hj161⟩)
    ·have hS := ite_false' hz162 hg158
     refine sr_evg (b := false) (e := 52) rfl rfl hg158 (v := .int .i64 y130.1) (ev_move rfl) (by decide) ?_
     refine sr_evg (b := false) (e := 52) rfl rfl hg158 (v := vl_0) (ev_move rfl) (by decide) ?_
     obtain ⟨y166, hy167, hS⟩ := bind_some' hS
     refine sr_callg (b := false) (e := 52) rfl rfl hg158 (vs := [vl_0]) rfl Tryz.call18 rfl (scope_Check_ok _ (hg.fr hz hb) hl_0.asSl hy167) (by decide) ?_
     rintro _ w168 ⟨rfl, hbw169⟩
     have htr170 := Tr.of_below hbw169 hb.bd
     replace hb := hb.trans htr170
     replace hj161 := (hj161.trans htr170).weak (J' := (fun _ => false)) (by intro t h; simp [rng] at h ⊢ <;> omega) rfl rfl
     refine sr_evg (b := false) (e := 52) rfl rfl hg158 (v := .bool (y130.1 == y166)) (ev_eq rfl rfl) (by decide) ?_
     refine sr_ev (v := .bool (y130.1 == y166)) (ev_pick_f rfl hg158 rfl) (by decide) ?_
     exact sr_weaken (l' := [(57, .bool (y130.1 == y166))]) (.cons rfl (.nil _)) (K159 (y130.1 == y166) _ ⟨(Option.some.inj hS).symm, _, hj161⟩)
  ·replace hS := ite_false' hS hc157
   refine ke_skip ?_
   refine ke_seq ?_
   refine ke_region ?_
   refine sr_ev (v := .pointer (some ⟨gr_5, 0, none⟩)) (ev_move rfl) (by decide) ?_
   refine sr_ev (v := vm_1) (ev_move rfl) (by decide) ?_
   obtain ⟨y184, hy185, hS⟩ := bind_some' hS
   refine sr_call (vs := [.pointer (some ⟨gr_5, 0, none⟩), str ([97, 112, 112]), vm_1]) rfl Tryz.call19 rfl (client_Clients_Allowed_ok _ (hg.fr hz hb) (ρA := ρ148) hb.bd (hz.fr hg hb) (τ0 := (fun p => 100 + p)) (fun p => Nat.le_add_right_of_le (by decide)) hm_1 (⟨_, hB147, h146⟩ : client_Clients.O (fun p => 100 + p) ρ148 w142 gr_5 y140.2) hy185) (by decide) ?_
   rintro _ w186 ⟨rfl, hbw187⟩
   have htr188 := Tr.of_below hbw187 hb.bd
   replace hl_0 := hl_0.mv htr188.rd
   replace hm_1 := hm_1.mv htr188.rd
   replace hB147 := hB147.mv (htr188.mv (i := 100) rfl)
   replace h146 := h146.mv (htr188.mv (i := 101) rfl)
   replace hb := hb.trans htr188
   refine sr_ev (v := .pointer (some ⟨gr_5, 0, none⟩)) (ev_move rfl) (by decide) ?_
   refine sr_ev (v := vm_1) (ev_move rfl) (by decide) ?_
   obtain ⟨y189, hy190, hS⟩ := bind_some' hS
   refine sr_call (vs := [.pointer (some ⟨gr_5, 0, none⟩), str ([108, 101, 115, 115]), vm_1]) rfl Tryz.call19 rfl (client_Clients_Allowed_ok _ (hg.fr hz hb) (ρA := ρ148) hb.bd (hz.fr hg hb) (τ0 := (fun p => 100 + p)) (fun p => Nat.le_add_right_of_le (by decide)) hm_1 (⟨_, hB147, h146⟩ : client_Clients.O (fun p => 100 + p) ρ148 w186 gr_5 y140.2) hy190) (by decide) ?_
   rintro _ w191 ⟨rfl, hbw192⟩
   have htr193 := Tr.of_below hbw192 hb.bd
   replace hl_0 := hl_0.mv htr193.rd
   replace hm_1 := hm_1.mv htr193.rd
   replace hb := hb.trans htr193
   refine sr_ev (v := .int .i64 y184) (ev_assign rfl) (by decide) ?_
   refine sr_ev (v := .int .i64 y189) (ev_assign rfl) (by decide) ?_
   refine sr_end (l' := [(0, vl_0), (1, vm_1), (10, .int .i64 y184), (11, .int .i64 y189)]) (.cons rfl (.cons rfl (.cons rfl (.cons rfl (.nil _))))) ?_
   refine ke_seq ?_
   refine ke_seq ?_
   refine ke_region ?_
   refine sr_ev (v := vl_0) (ev_move rfl) (by decide) ?_
   refine sr_ev (v := .int .i64 (l_0.length : Int)) (ev_sllen Tryz.underlying25 rfl hl_0.asSl) (by decide) ?_
   refine sr_ev (v := .bool ((l_0.length : Int) == 0)) (ev_eq rfl rfl) (by decide) ?_
   refine sr_end (l' := [(0, vl_0), (1, vm_1), (10, .int .i64 y184), (11, .int .i64 y189), (69, .bool ((l_0.length : Int) == 0))]) (.cons rfl (.cons rfl (.cons rfl (.cons rfl (.cons rfl (.nil _)))))) ?_
   refine ke_cond (t := (l_0.length : Int) == 0) rfl (fun hc194 => ?_) (fun hc194 => ?_)
   ·replace hS := ite_true' hS hc194
    refine ke_region ?_
    refine sr_ev (v := .int .i64 19) (ev_assign rfl) (by decide) ?_
    refine sr_end (l' := [(0, vl_0), (1, vm_1), (10, .int .i64 y184), (11, .int .i64 19)]) (.cons rfl (.cons rfl (.cons rfl (.cons rfl (.nil _))))) ?_
    have hK := law36_ClientScopes_B2_ok hg hbd hz hS hb hl_0 hm_1
    exact ke_weaken (l' := [(0, vl_0), (1, vm_1), (10, .int .i64 y184), (11, .int .i64 19)]) (.cons rfl (.cons rfl (.cons rfl (.cons rfl (.nil _))))) hK
   ·replace hS := ite_false' hS hc194
    refine ke_skip ?_
    have hK := law36_ClientScopes_B2_ok hg hbd hz hS hb hl_0 hm_1
    exact ke_weaken (l' := [(0, vl_0), (1, vm_1), (10, .int .i64 y184), (11, .int .i64 y189)]) (.cons rfl (.cons rfl (.cons rfl (.cons rfl (.nil _))))) hK
 ·intro K150
  rcases Bool.eq_false_or_eq_true (y130.1 != 0) with hg149 | hg149
  all_goals try have hj152 : Tr ρ148 w142 (fun _ => false) ρ148 w142 := Tr.refl hb.bd
  ·refine sr_pass (e := 46) rfl rfl (by rw [hg149]; rfl) (by decide) ?_
   refine sr_pass (e := 46) rfl rfl (by rw [hg149]; rfl) (by decide) ?_
   refine sr_ev (v := .bool true) (ev_pick_t rfl hg149 rfl) (by decide) ?_
   exact sr_weaken (l' := [(0, vl_0), (1, vm_1), (5, .pointer (some ⟨gr_5, 0, none⟩)), (8, .int .i64 y130.1), (49, .bool true)]) (.cons rfl (.cons rfl (.cons rfl (.cons rfl (.cons rfl (.nil _)))))) (K150 true _ ⟨by rw [hg149]; rfl, rfl⟩)
  ·refine sr_evg (b := false) (e := 46) rfl rfl hg149 (v := .int .i64 y140.1) (ev_move rfl) (by decide) ?_
   refine sr_evg (b := false) (e := 46) rfl rfl hg149 (v := .bool (y140.1 != 0)) (ev_ne rfl rfl) (by decide) ?_
   refine sr_ev (v := .bool (y140.1 != 0)) (ev_pick_f rfl hg149 rfl) (by decide) ?_
   exact sr_weaken (l' := [(0, vl_0), (1, vm_1), (5, .pointer (some ⟨gr_5, 0, none⟩)), (8, .int .i64 y130.1), (49, .bool (y140.1 != 0))]) (.cons rfl (.cons rfl (.cons rfl (.cons rfl (.cons rfl (.nil _)))))) (K150 (y140.1 != 0) _ ⟨by rw [hg149]; rfl, rfl⟩)
theorem law36_ClientScopes_ok (w0 : World) (hg : Gs w0) {ρA : Tags} (hbd : ∀ b, ρA b ≠ 0 → b < w0.heap.size) (hz : Gz ρA) {l_0 : List Str} {m_1 : List Str} {v1 : Value} {v3 : Value} {r : Bool} (h2 : SlR strC (Wb ρA) w0 v1 l_0) (h4 : SlR strC (Wb ρA) w0 v3 m_1) (hS : law36_ClientScopes l_0 m_1 = some r) :
  Calls Tryz.prog 4 #[v1, v3] w0 (Ret (fun v w' => v = .bool r ∧ Below w0.heap.size w0 w')) := by
 unfold law36_ClientScopes at hS
 have hb := flat1_fr (ρ := ρA) (w := w0) hbd
 have hz := hz.flat1
 replace h2 := SlR.mv h2 flat1_rd
 replace h4 := SlR.mv h4 flat1_rd
 refine calls_of_ke Tryz.func4 rfl (n := 95) rfl rfl (l := [(0, v1), (1, v3)]) rfl ?_
 refine ke_seq ?_
 refine ke_region ?_
 refine sr_ev (v := .bool false) (ev_assign rfl) (by decide) ?_
 refine sr_end (l' := [(0, v1), (1, v3)]) (.cons rfl (.cons rfl (.nil _))) ?_
 refine ke_seq ?_
 refine ke_seq ?_
 refine ke_region ?_
 refine sr_ev (v := v1) (ev_move rfl) (by decide) ?_
 obtain ⟨y5, hy6, hS⟩ := bind_some' hS
 refine sr_call (vs := [v1]) rfl Tryz.call14 rfl (law36_short_ok _ (hg.fr hz hb) h2.asSl hy6) (by decide) ?_
 rintro _ w7 ⟨rfl, hbw8⟩
 have htr9 := Tr.of_below hbw8 hb.bd
 replace h2 := h2.mv htr9.rd
 replace h4 := h4.mv htr9.rd
 replace hb := hb.trans htr9
 refine sr_ev (v := .bool (!y5)) (ev_not rfl) (by decide) ?_
 refine sr_ev (v := .bool (!y5)) (ev_move rfl) (by decide) ?_
 obtain ⟨z12, hz14, hS⟩ := bind_some' hS
 refine sr_join (m := 4) (C := fun (z : Bool) w1 => z12 = z ∧ ∃ ρ1, Tr (flat1 ρA) w7 (fun _ => false) ρ1 w1) (l' := fun z => [(0, v1), (1, v3), (19, .bool z)]) ?_ ?_
 ·rintro _ w15 ⟨rfl, ρ16, hj13⟩
  replace h2 := h2.mv hj13.rd
  replace h4 := h4.mv hj13.rd
  replace hb := hb.trans hj13
  refine sr_end (l' := [(0, v1), (1, v3), (19, .bool z12)]) (.cons rfl (.cons rfl (.cons rfl (.nil _)))) ?_
  refine ke_cond (t := z12) rfl (fun hc23 => ?_) (fun hc23 => ?_)
  ·replace hS := ite_true' hS hc23
   refine ke_seq ?_
   refine ke_region ?_
   obtain ⟨y24, hy25, hS⟩ := bind_some' hS
   refine sr_call (vs := []) rfl Tryz.call11 rfl (law36_alive_ok _ (hg.fr hz hb) (ρA := ρ16) hb.bd (hz.fr hg hb) hy25) (by decide) ?_
   rintro _ w26 ⟨rfl, hbw27⟩
   have htr28 := Tr.of_below hbw27 hb.bd
   replace hb := hb.trans htr28
   refine sr_ev (v := .bool y24) (ev_assign rfl) (by decide) ?_
   refine sr_end (l' := [(4, .bool y24)]) (.cons rfl (.nil _)) ?_
   cases hS
   exact ke_ret1 Tryz.func4 rfl rfl ⟨_, rfl, rfl, (hb.below (flat1_le _))⟩
  ·replace hS := ite_false' hS hc23
   refine ke_skip ?_
   refine ke_seq ?_
   refine ke_region ?_
   obtain ⟨y29, hy30, hS⟩ := bind_some' hS
   refine sr_call (vs := []) rfl Tryz.call15 rfl (client_New_ok _ (hg.fr hz hb) (ρA := ρ16) hb.bd (hz.fr hg hb) (o := 100) (by decide) hy30) (by decide) ?_
   rintro _ w31 ⟨ρ38, g34, rfl, ⟨v35, hB37, h36⟩, htr33⟩
   replace h2 := h2.mv htr33.rd
   replace h4 := h4.mv htr33.rd
   replace hb := hb.trans htr33
   replace hB37 : Blk ρ38 100 w31 g34 (.cells #[v35] 57 (0, 0)) := hB37
   replace h36 : MapT str api_Client.c true ρ38 101 w31 v35 y29.of_ := h36
   refine sr_ev (v := .pointer (some ⟨g34, 0, none⟩)) (ev_assign rfl) (by decide) ?_
   refine sr_end (l' := [(0, v1), (1, v3), (5, .pointer (some ⟨g34, 0, none⟩))]) (.cons rfl (.cons rfl (.cons rfl (.nil _)))) ?_
   refine ke_seq ?_
   refine ke_seq ?_
   refine ke_region ?_
   refine sr_ev (v := .pointer (some ⟨g34, 0, none⟩)) (ev_move rfl) (by decide) ?_
   refine sr_ev (v := .bool false) (ev_peqT_some Tryz.underlying33 rfl rfl) (by decide) ?_
   refine sr_end (l' := [(0, v1), (1, v3), (5, .pointer (some ⟨g34, 0, none⟩)), (23, .bool false)]) (.cons rfl (.cons rfl (.cons rfl (.cons rfl (.nil _))))) ?_
   refine ke_cond (t := false) rfl (fun h => by cases h) (fun _ => ?_)
   refine ke_skip ?_
   refine ke_seq ?_
   refine ke_region ?_
   obtain ⟨y39, hy40, hS⟩ := bind_some' hS
   refine sr_call (vs := []) rfl Tryz.call16 rfl (law36_app_ok _ (hg.fr hz hb) (ρA := ρ38) hb.bd (hz.fr hg hb) hy40) (by decide) ?_
   rintro _ w41 ⟨v44, v46, rfl, h45, h47, hbw42⟩
   have htr43 := Tr.of_below hbw42 hb.bd
   replace h2 := h2.mv htr43.rd
   replace h4 := h4.mv htr43.rd
   replace hB37 := hB37.mv (htr43.mv (i := 100) rfl)
   replace h36 := h36.mv (htr43.mv (i := 101) rfl)
   replace hb := hb.trans htr43
   obtain ⟨y48, hy49, hS⟩ := bind_some' hS
   refine sr_call (vs := []) rfl Tryz.call16 rfl (law36_app_ok _ (hg.fr hz hb) (ρA := ρ38) hb.bd (hz.fr hg hb) hy49) (by decide) ?_
   rintro _ w50 ⟨v53, v55, rfl, h54, h56, hbw51⟩
   have htr52 := Tr.of_below hbw51 hb.bd
   replace h2 := h2.mv htr52.rd
   replace h4 := h4.mv htr52.rd
   replace h45 := h45.mv htr52.rd
   replace h47 := h47.mv htr52.rd
   replace hB37 := hB37.mv (htr52.mv (i := 100) rfl)
   replace h36 := h36.mv (htr52.mv (i := 101) rfl)
   replace hb := hb.trans htr52
   refine sr_allocT 8 (by decide) hb.bd Tryz.zeroValue27 (by decide) ?_
   intro g57 ρ58 w59 hB61 htr60
   replace h2 := h2.mv htr60.rd
   replace h4 := h4.mv htr60.rd
   replace h45 := h45.mv htr60.rd
   replace h47 := h47.mv htr60.rd
   replace h54 := h54.mv htr60.rd
   replace h56 := h56.mv htr60.rd
   replace hB37 := hB37.mv (htr60.mv (i := 100) rfl)
   replace h36 := h36.mv (htr60.mv (i := 101) rfl)
   replace hb := hb.trans htr60
   replace hB61 : Blk ρ58 8 w59 g57 (.cells #[str ([]), .int .i64 0, str ([]), str ([]), .int .i64 0, str ([]), (.slice none 0 0), (.slice none 0 0), str ([])] 27 (0, 0)) := hB61
   refine sr_allocT 9 (by decide) hb.bd Tryz.zeroValue27 (by decide) ?_
   intro g62 ρ63 w64 hB66 htr65
   replace h2 := h2.mv htr65.rd
   replace h4 := h4.mv htr65.rd
   replace h45 := h45.mv htr65.rd
   replace h47 := h47.mv htr65.rd
   replace h54 := h54.mv htr65.rd
   replace h56 := h56.mv htr65.rd
   replace hB61 := hB61.mv (htr65.mv (i := 8) rfl)
   replace hB37 := hB37.mv (htr65.mv (i := 100) rfl)
   replace h36 := h36.mv (htr65.mv (i := 101) rfl)
   replace hb := hb.trans htr65
   replace hB66 : Blk ρ63 9 w64 g62 (.cells #[str ([]), .int .i64 0, str ([]), str ([]), .int .i64 0, str ([]), (.slice none 0 0), (.slice none 0 0), str ([])] 27 (0, 0)) := hB66
   refine sr_storeT (v := .agg #[str y39.ID, .int .i64 y39.Kind, str y39.Tenant, str y39.Secret.Salt, .int .i64 y39.Secret.Rounds, str y39.Secret.Hash, v44, v46, str y39.Logout]) (vs := [str y39.ID, .int .i64 y39.Kind, str y39.Tenant, str y39.Secret.Salt, .int .i64 y39.Secret.Rounds, str y39.Secret.Hash, v44, v46, str y39.Logout]) (cs' := #[str y39.ID, .int .i64 y39.Kind, str y39.Tenant, str y39.Secret.Salt, .int .i64 y39.Secret.Rounds, str y39.Secret.Hash, v44, v46, str y39.Logout]) hB61 (by decide) hb.bd rfl rfl rfl Tryz.sizeOf27 rfl (by first | rfl | (simp only [List.all_cons, List.all_nil, SlR.oneCell h45, SlR.oneCell h47]; done) | (simp only [List.all_cons, List.all_nil, SlR.oneCell h45, SlR.oneCell h47]; rfl)) rfl ?_
   intro w67 hB611 htr68
   replace h2 := h2.mv htr68.rd
   replace h4 := h4.mv htr68.rd
   replace h54 := h54.mv htr68.rd
   replace h56 := h56.mv htr68.rd
   replace hB66 := hB66.mv (htr68.mv (i := 9) rfl)
   replace h45 := h45.mv htr68.rd
   replace h47 := h47.mv htr68.rd
   replace hB37 := hB37.mv (htr68.mv (i := 100) rfl)
   replace h36 := h36.mv (htr68.mv (i := 101) rfl)
   replace hb := hb.trans htr68
   replace hB61 : Blk ρ63 8 w67 g57 (.cells #[str y39.ID, .int .i64 y39.Kind, str y39.Tenant, str y39.Secret.Salt, .int .i64 y39.Secret.Rounds, str y39.Secret.Hash, v44, v46, str y39.Logout] 27 (0, 0)) := hB611
   clear hB611
   refine sr_storeT (v := .agg #[str y48.ID, .int .i64 y48.Kind, str y48.Tenant, str y48.Secret.Salt, .int .i64 y48.Secret.Rounds, str y48.Secret.Hash, v53, v55, str y48.Logout]) (vs := [str y48.ID, .int .i64 y48.Kind, str y48.Tenant, str y48.Secret.Salt, .int .i64 y48.Secret.Rounds, str y48.Secret.Hash, v53, v55, str y48.Logout]) (cs' := #[str y48.ID, .int .i64 y48.Kind, str y48.Tenant, str y48.Secret.Salt, .int .i64 y48.Secret.Rounds, str y48.Secret.Hash, v53, v55, str y48.Logout]) hB66 (by decide) hb.bd rfl rfl rfl Tryz.sizeOf27 rfl (by first | rfl | (simp only [List.all_cons, List.all_nil, SlR.oneCell h54, SlR.oneCell h56]; done) | (simp only [List.all_cons, List.all_nil, SlR.oneCell h54, SlR.oneCell h56]; rfl)) rfl ?_
   intro w69 hB661 htr70
   replace h2 := h2.mv htr70.rd
   replace h4 := h4.mv htr70.rd
   replace h54 := h54.mv htr70.rd
   replace h56 := h56.mv htr70.rd
   replace hB61 := hB61.mv (htr70.mv (i := 8) rfl)
   replace h45 := h45.mv htr70.rd
   replace h47 := h47.mv htr70.rd
   replace hB37 := hB37.mv (htr70.mv (i := 100) rfl)
   replace h36 := h36.mv (htr70.mv (i := 101) rfl)
   replace hb := hb.trans htr70
   replace hB66 : Blk ρ63 9 w69 g62 (.cells #[str y48.ID, .int .i64 y48.Kind, str y48.Tenant, str y48.Secret.Salt, .int .i64 y48.Secret.Rounds, str y48.Secret.Hash, v53, v55, str y48.Logout] 27 (0, 0)) := hB661
   clear hB661
   refine sr_end (l' := [(0, v1), (1, v3), (5, .pointer (some ⟨g34, 0, none⟩)), (6, .pointer (some ⟨g57, 0, none⟩)), (7, .pointer (some ⟨g62, 0, none⟩))]) (.cons rfl (.cons rfl (.cons rfl (.cons rfl (.cons rfl (.nil _)))))) ?_
   refine ke_seq ?_
   refine ke_region ?_
   refine sr_ev (v := v1) (ev_move rfl) (by decide) ?_
   refine sr_ev (v := .pointer (some ⟨g57, 7, none⟩)) (ev_fieldAddr (i := 5) Tryz.underlying27 rfl Tryz.info25 rfl rfl) (by decide) ?_
   refine sr_storeT (v := v1) (vs := [v1]) (cs' := #[str y39.ID, .int .i64 y39.Kind, str y39.Tenant, str y39.Secret.Salt, .int .i64 y39.Secret.Rounds, str y39.Secret.Hash, v44, v1, str y39.Logout]) hB61 (by decide) hb.bd rfl rfl (one_cells (SlR.oneCell h2)) Tryz.sizeOf25 rfl (by first | rfl | (simp only [List.all_cons, List.all_nil, SlR.oneCell h2]; done) | (simp only [List.all_cons, List.all_nil, SlR.oneCell h2]; rfl)) rfl ?_
   intro w71 hB611 htr72
   replace h2 := h2.mv htr72.rd
   replace h4 := h4.mv htr72.rd
   replace hB66 := hB66.mv (htr72.mv (i := 9) rfl)
   replace h54 := h54.mv htr72.rd
   replace h56 := h56.mv htr72.rd
   replace h45 := h45.mv htr72.rd
   replace hB37 := hB37.mv (htr72.mv (i := 100) rfl)
   replace h36 := h36.mv (htr72.mv (i := 101) rfl)
   replace hb := hb.trans htr72
   replace hB61 : Blk ρ63 8 w71 g57 (.cells #[str y39.ID, .int .i64 y39.Kind, str y39.Tenant, str y39.Secret.Salt, .int .i64 y39.Secret.Rounds, str y39.Secret.Hash, v44, v1, str y39.Logout] 27 (0, 0)) := hB611
   clear hB611
   refine sr_end (l' := [(0, v1), (1, v3), (5, .pointer (some ⟨g34, 0, none⟩)), (6, .pointer (some ⟨g57, 0, none⟩)), (7, .pointer (some ⟨g62, 0, none⟩))]) (.cons rfl (.cons rfl (.cons rfl (.cons rfl (.cons rfl (.nil _)))))) ?_
   refine ke_seq ?_
   refine ke_region ?_
   refine sr_ev (v := .pointer (some ⟨g62, 0, none⟩)) (ev_fieldAddr (i := 0) Tryz.underlying27 rfl Tryz.info9 rfl rfl) (by decide) ?_
   refine sr_storeT (v := str ([108, 101, 115, 115])) (vs := [str ([108, 101, 115, 115])]) (cs' := #[str ([108, 101, 115, 115]), .int .i64 y48.Kind, str y48.Tenant, str y48.Secret.Salt, .int .i64 y48.Secret.Rounds, str y48.Secret.Hash, v53, v55, str y48.Logout]) hB66 (by decide) hb.bd rfl rfl rfl Tryz.sizeOf9 rfl rfl rfl ?_
   intro w73 hB661 htr74
   replace h2 := h2.mv htr74.rd
   replace h4 := h4.mv htr74.rd
   replace h54 := h54.mv htr74.rd
   replace h56 := h56.mv htr74.rd
   replace hB61 := hB61.mv (htr74.mv (i := 8) rfl)
   replace h45 := h45.mv htr74.rd
   replace hB37 := hB37.mv (htr74.mv (i := 100) rfl)
   replace h36 := h36.mv (htr74.mv (i := 101) rfl)
   replace hb := hb.trans htr74
   replace hB66 : Blk ρ63 9 w73 g62 (.cells #[str ([108, 101, 115, 115]), .int .i64 y48.Kind, str y48.Tenant, str y48.Secret.Salt, .int .i64 y48.Secret.Rounds, str y48.Secret.Hash, v53, v55, str y48.Logout] 27 (0, 0)) := hB661
   clear hB661
   refine sr_end (l' := [(0, v1), (1, v3), (5, .pointer (some ⟨g34, 0, none⟩)), (6, .pointer (some ⟨g57, 0, none⟩)), (7, .pointer (some ⟨g62, 0, none⟩))]) (.cons rfl (.cons rfl (.cons rfl (.cons rfl (.cons rfl (.nil _)))))) ?_
   refine ke_seq ?_
   refine ke_seq ?_
   refine ke_region ?_
   refine sr_ev (v := v1) (ev_move rfl) (by decide) ?_
   refine sr_ev (v := .int .i64 (l_0.length : Int)) (ev_sllen Tryz.underlying25 rfl h2.asSl) (by decide) ?_
   refine sr_ev (v := .bool (decide ((l_0.length : Int) > 0))) (ev_gt rfl rfl) (by decide) ?_
   refine sr_end (l' := [(0, v1), (1, v3), (5, .pointer (some ⟨g34, 0, none⟩)), (6, .pointer (some ⟨g57, 0, none⟩)), (7, .pointer (some ⟨g62, 0, none⟩)), (31, .bool (decide ((l_0.length : Int) > 0)))]) (.cons rfl (.cons rfl (.cons rfl (.cons rfl (.cons rfl (.cons rfl (.nil _))))))) ?_
   refine ke_cond (t := decide ((l_0.length : Int) > 0)) rfl (fun hc75 => ?_) (fun hc75 => ?_)
   ·replace hS := ite_true' hS hc75
    refine ke_region ?_
    refine sr_ev (v := v1) (ev_move rfl) (by decide) ?_
    refine sr_ev (v := v1) (ev_move rfl) (by decide) ?_
    refine sr_ev (v := .int .i64 (l_0.length : Int)) (ev_sllen Tryz.underlying25 rfl h2.asSl) (by decide) ?_
    refine sr_ev (v := .int .i64 (IntKind.i64.wrap ((l_0.length : Int) - 1))) (ev_sub rfl rfl) (by decide) ?_
    obtain ⟨hk76, hS⟩ := chk_some hS
    obtain ⟨v77, h78, hq79⟩ := ((SlT.of_sl (i := 0) h2)).cutT_h (P := Tryz.prog) Tryz.underlying25 Tryz.info9 rfl hk76
    replace h78 := h78.sl
    refine sr_ev (v := v77) (hq79 w73 rfl rfl) (by decide) ?_
    refine sr_ev (v := .pointer (some ⟨g62, 7, none⟩)) (ev_fieldAddr (i := 5) Tryz.underlying27 rfl Tryz.info25 rfl rfl) (by decide) ?_
    refine sr_storeT (v := v77) (vs := [v77]) (cs' := #[str ([108, 101, 115, 115]), .int .i64 y48.Kind, str y48.Tenant, str y48.Secret.Salt, .int .i64 y48.Secret.Rounds, str y48.Secret.Hash, v53, v77, str y48.Logout]) hB66 (by decide) hb.bd rfl rfl (one_cells (SlR.oneCell h78)) Tryz.sizeOf25 rfl (by first | rfl | (simp only [List.all_cons, List.all_nil, SlR.oneCell h78]; done) | (simp only [List.all_cons, List.all_nil, SlR.oneCell h78]; rfl)) rfl ?_
    intro w80 hB661 htr81
    replace h2 := h2.mv htr81.rd
    replace h4 := h4.mv htr81.rd
    replace h54 := h54.mv htr81.rd
    replace h78 := h78.mv htr81.rd
    replace hB61 := hB61.mv (htr81.mv (i := 8) rfl)
    replace h45 := h45.mv htr81.rd
    replace hB37 := hB37.mv (htr81.mv (i := 100) rfl)
    replace h36 := h36.mv (htr81.mv (i := 101) rfl)
    replace hb := hb.trans htr81
    replace hB66 : Blk ρ63 9 w80 g62 (.cells #[str ([108, 101, 115, 115]), .int .i64 y48.Kind, str y48.Tenant, str y48.Secret.Salt, .int .i64 y48.Secret.Rounds, str y48.Secret.Hash, v53, v77, str y48.Logout] 27 (0, 0)) := hB661
    clear hB661
    refine sr_end (l' := [(0, v1), (1, v3), (5, .pointer (some ⟨g34, 0, none⟩)), (6, .pointer (some ⟨g57, 0, none⟩)), (7, .pointer (some ⟨g62, 0, none⟩))]) (.cons rfl (.cons rfl (.cons rfl (.cons rfl (.cons rfl (.nil _)))))) ?_
    have hK := law36_ClientScopes_B1_ok hg hbd hz hS hb h2 h4 ⟨_, hB37, h36⟩ h45 h2 hB61 h54 h78 hB66
    exact ke_weaken (l' := [(0, v1), (1, v3), (5, .pointer (some ⟨g34, 0, none⟩)), (6, .pointer (some ⟨g57, 0, none⟩)), (7, .pointer (some ⟨g62, 0, none⟩))]) (.cons rfl (.cons rfl (.cons rfl (.cons rfl (.cons rfl (.nil _)))))) hK
   ·replace hS := ite_false' hS hc75
    refine ke_skip ?_
    have hK := law36_ClientScopes_B1_ok hg hbd hz hS hb h2 h4 ⟨_, hB37, h36⟩ h45 h2 hB61 h54 h56 hB66
    exact ke_weaken (l' := [(0, v1), (1, v3), (5, .pointer (some ⟨g34, 0, none⟩)), (6, .pointer (some ⟨g57, 0, none⟩)), (7, .pointer (some ⟨g62, 0, none⟩))]) (.cons rfl (.cons rfl (.cons rfl (.cons rfl (.cons rfl (.nil _)))))) hK
 ·intro K11
  clear hS
  have hj13 : Tr (flat1 ρA) w7 (fun _ => false) (flat1 ρA) w7 := (Tr.refl hb.bd).weak (fun _ _ => rfl) rfl rfl
  rcases Bool.eq_false_or_eq_true (!y5) with hg10 | hg10
  ·have hS := ite_true' hz14 hg10
   refine sr_pass (e := 15) rfl rfl (by rw [hg10]; rfl) (by decide) ?_
   refine sr_pass (e := 15) rfl rfl (by rw [hg10]; rfl) (by decide) ?_
   refine sr_pass (e := 15) rfl rfl (by rw [hg10]; rfl) (by decide) ?_
   refine sr_ev (v := .bool true) (ev_pick_t rfl hg10 rfl) (by decide) ?_
   exact sr_weaken (l' := [(0, v1), (1, v3), (19, .bool true)]) (.cons rfl (.cons rfl (.cons rfl (.nil _)))) (K11 true _ ⟨(Option.some.inj hS).symm, _, hj13⟩)
  ·have hS := ite_false' hz14 hg10
   refine sr_evg (b := false) (e := 15) rfl rfl hg10 (v := v3) (ev_move rfl) (by decide) ?_
   obtain ⟨y18, hy19, hS⟩ := bind_some' hS
   refine sr_callg (b := false) (e := 15) rfl rfl hg10 (vs := [v3]) rfl Tryz.call14 rfl (law36_short_ok _ (hg.fr hz hb) h4.asSl hy19) (by decide) ?_
   rintro _ w20 ⟨rfl, hbw21⟩
   have htr22 := Tr.of_below hbw21 hb.bd
   replace h2 := h2.mv htr22.rd
   replace h4 := h4.mv htr22.rd
   replace hb := hb.trans htr22
   replace hj13 := (hj13.trans htr22).weak (J' := (fun _ => false)) (by intro t h; simp [rng] at h ⊢ <;> omega) rfl rfl
   refine sr_evg (b := false) (e := 15) rfl rfl hg10 (v := .bool (!y18)) (ev_not rfl) (by decide) ?_
   refine sr_ev (v := .bool (!y18)) (ev_pick_f rfl hg10 rfl) (by decide) ?_
   exact sr_weaken (l' := [(0, v1), (1, v3), (19, .bool (!y18))]) (.cons rfl (.cons rfl (.cons rfl (.nil _)))) (K11 (!y18) _ ⟨(Option.some.inj hS).symm, _, hj13⟩)
end YtmdbnoopcdpomaaGreatDoor
end Go.Proofs
