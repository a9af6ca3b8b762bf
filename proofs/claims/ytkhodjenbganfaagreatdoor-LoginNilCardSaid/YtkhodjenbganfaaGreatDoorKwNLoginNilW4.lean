/- Own work: a part of the proofs of this seat. -/
import Derived.Test.YtkhodjenbganfaaGreatDoorProg
import Derived.Test.YtkhodjenbganfaaGreatDoorShelf
import Derived.Test.YtkhodjenbganfaaGreatDoorKwNS
import Derived.KernelRfl
import Derived.Test.YtkhodjenbganfaaGreatDoorKwNLoginNilW3
set_option linter.unusedVariables false
set_option linter.unusedSimpArgs false
set_option linter.unusedSectionVars false
set_option maxHeartbeats 8000000
set_option maxRecDepth 8000
namespace Go.Proofs
namespace YtkhodjenbganfaaGreatDoor
open Go Go.KW Go.KW.S Go.RowKit
theorem law39_verifier_ok (w0 : World) (hg : Gs w0) {o_0 : law39_Op} {r : api_Verifier} (hS : law39_verifier o_0 = some r) :
  Calls Tryz.prog 26 #[.agg #[.int .i64 o_0.Kind, str o_0.ID, str o_0.User, str o_0.Word, str o_0.Code, str o_0.S, .int .i64 o_0.Level, .int .i64 o_0.Rounds, .int .i64 o_0.Now]] w0 (Ret (fun v w' => v = .agg #[str r.Salt, .int .i64 r.Rounds, str r.Hash] ∧ Below w0.heap.size w0 w')) := by
 unfold law39_verifier at hS
 have hb := Below.refl w0.heap.size w0
 obtain ⟨A0, hA0, hAe⟩ : ∃ A0 : Nat → Prop, (∀ b, A0 b → b < w0.heap.size) ∧ A0 = fun _ => False := ⟨_, fun _ h => h.elim, rfl⟩
 clear hAe
 have hA := hA0
 have hi : ∀ b, A0 b → A0 b := fun _ h => h
 have hH := Hp.nil A0 w0.heap.size w0
 refine calls_of_ke Tryz.func26 rfl (n := 16) rfl rfl (l := [(0, .agg #[.int .i64 o_0.Kind, str o_0.ID, str o_0.User, str o_0.Word, str o_0.Code, str o_0.S, .int .i64 o_0.Level, .int .i64 o_0.Rounds, .int .i64 o_0.Now])]) rfl ?_
 refine ke_seq ?_
 refine ke_region ?_
 refine sr_box hH hb.size hA rfl (by decide) ?_
 intro g1 A2 w3 hH1 hst4 hbw5 hinc6 hA1 hge7
 replace hb := hb.trans (hbw5.mono hb.size)
 replace hi := fun b hb => hinc6 b (hi b hb)
 replace hH : Hp A2 w0.heap.size w3 [(g1, .cells #[.int .i64 o_0.Kind, str o_0.ID, str o_0.User, str o_0.Word, str o_0.Code, str o_0.S, .int .i64 o_0.Level, .int .i64 o_0.Rounds, .int .i64 o_0.Now] 33 (0, 0))] := hH1
 replace hA := hA1
 clear hH1 hA1
 refine sr_alloc hH hb.size hA Tryz.zeroValue45 (by decide) ?_
 intro g8 A9 w10 hH1 hst11 hbw12 hinc13 hA1 hge14
 replace hb := hb.trans (hbw12.mono hb.size)
 replace hi := fun b hb => hinc13 b (hi b hb)
 replace hH : Hp A9 w0.heap.size w10 [(g8, .cells #[str ([]), .int .i64 0, str ([])] 45 (0, 0)), (g1, .cells #[.int .i64 o_0.Kind, str o_0.ID, str o_0.User, str o_0.Word, str o_0.Code, str o_0.S, .int .i64 o_0.Level, .int .i64 o_0.Rounds, .int .i64 o_0.Now] 33 (0, 0))] := hH1
 replace hA := hA1
 clear hH1 hA1
 refine sr_end (l' := [(1, .pointer (some ⟨g1, 0, none⟩)), (2, .pointer (some ⟨g8, 0, none⟩))]) (.cons rfl (.cons rfl (.nil _))) ?_
 refine ke_seq ?_
 refine ke_region ?_
 refine sr_ev (v := .pointer (some ⟨g1, 3, none⟩)) (ev_fieldAddr (i := 3) Tryz.underlying33 rfl Tryz.info9 rfl rfl) (by decide) ?_
 refine sr_ev (v := str o_0.Word) (ev_load Tryz.isAgg9 rfl (hH.cell (i := 1) rfl rfl)) (by decide) ?_
 refine sr_ev (v := .pointer (some ⟨g1, 7, none⟩)) (ev_fieldAddr (i := 7) Tryz.underlying33 rfl Tryz.info3 rfl rfl) (by decide) ?_
 refine sr_ev (v := .int .i64 o_0.Rounds) (ev_load Tryz.isAgg3 rfl (hH.cell (i := 1) rfl rfl)) (by decide) ?_
 refine sr_ev (v := .int .i64 (gmin o_0.Rounds 3)) (ev_min rfl rfl) (by decide) ?_
 refine sr_ev (v := .int .i64 (gmax 0 (gmin o_0.Rounds 3))) (ev_max rfl rfl) (by decide) ?_
 obtain ⟨y15, hy16, hS⟩ := bind_some' hS
 refine sr_call (vs := [str o_0.Word, str ([115, 97, 108, 116]), .int .i64 (gmax 0 (gmin o_0.Rounds 3))]) rfl Tryz.call20 rfl (secret_Make_ok _ (hg.below hb) hy16) (by decide) ?_
 rintro _ w17 ⟨rfl, hbw18⟩
 replace hb := hb.trans (hbw18.mono hb.size)
 replace hA := lt_mono hA hbw18.size
 replace hH := hH.below hbw18
 refine sr_ev (v := .tuple #[.agg #[str y15.1.Salt, .int .i64 y15.1.Rounds, str y15.1.Hash], .int .i64 y15.2]) (ev_move rfl) (by decide) ?_
 refine sr_ev (v := .agg #[str y15.1.Salt, .int .i64 y15.1.Rounds, str y15.1.Hash]) (ev_extract rfl rfl) (by decide) ?_
 refine sr_ev (v := .int .i64 y15.2) (ev_extract rfl rfl) (by decide) ?_
 refine sr_alloc hH hb.size hA Tryz.zeroValue45 (by decide) ?_
 intro g19 A20 w21 hH1 hst22 hbw23 hinc24 hA1 hge25
 replace hb := hb.trans (hbw23.mono hb.size)
 replace hi := fun b hb => hinc24 b (hi b hb)
 replace hH : Hp A20 w0.heap.size w21 [(g19, .cells #[str ([]), .int .i64 0, str ([])] 45 (0, 0)), (g8, .cells #[str ([]), .int .i64 0, str ([])] 45 (0, 0)), (g1, .cells #[.int .i64 o_0.Kind, str o_0.ID, str o_0.User, str o_0.Word, str o_0.Code, str o_0.S, .int .i64 o_0.Level, .int .i64 o_0.Rounds, .int .i64 o_0.Now] 33 (0, 0))] := hH1
 replace hA := hA1
 clear hH1 hA1
 refine sr_store (i := 0) (v := .agg #[str y15.1.Salt, .int .i64 y15.1.Rounds, str y15.1.Hash]) (vs := [str y15.1.Salt, .int .i64 y15.1.Rounds, str y15.1.Hash]) (cs' := #[str y15.1.Salt, .int .i64 y15.1.Rounds, str y15.1.Hash]) hH rfl rfl rfl rfl Tryz.sizeOf45 rfl rfl rfl ?_
 intro w26 hH1 hwr27
 replace hb := hwr27.below hb (hH.base _ (List.mem_of_getElem? (i := 0) rfl))
 replace hA := hwr27.lt hA
 replace hH : Hp A20 w0.heap.size w26 [(g19, .cells #[str y15.1.Salt, .int .i64 y15.1.Rounds, str y15.1.Hash] 45 (0, 0)), (g8, .cells #[str ([]), .int .i64 0, str ([])] 45 (0, 0)), (g1, .cells #[.int .i64 o_0.Kind, str o_0.ID, str o_0.User, str o_0.Word, str o_0.Code, str o_0.S, .int .i64 o_0.Level, .int .i64 o_0.Rounds, .int .i64 o_0.Now] 33 (0, 0))] := hH1
 clear hH1
 refine sr_ev (v := .int .i64 y15.2) (ev_assign rfl) (by decide) ?_
 refine sr_end (l' := [(2, .pointer (some ⟨g8, 0, none⟩)), (3, .pointer (some ⟨g19, 0, none⟩))]) (.cons rfl (.cons rfl (.nil _))) ?_
 refine ke_seq ?_
 refine ke_region ?_
 refine sr_ev (v := .agg #[str y15.1.Salt, .int .i64 y15.1.Rounds, str y15.1.Hash]) (ev_loads Tryz.isAgg45 Tryz.sizeOf45 rfl (hH.cells (i := 0) (vs := [str y15.1.Salt, .int .i64 y15.1.Rounds, str y15.1.Hash]) rfl rfl)) (by decide) ?_
 refine sr_store (i := 1) (v := .agg #[str y15.1.Salt, .int .i64 y15.1.Rounds, str y15.1.Hash]) (vs := [str y15.1.Salt, .int .i64 y15.1.Rounds, str y15.1.Hash]) (cs' := #[str y15.1.Salt, .int .i64 y15.1.Rounds, str y15.1.Hash]) hH rfl rfl rfl rfl Tryz.sizeOf45 rfl rfl rfl ?_
 intro w28 hH1 hwr29
 replace hb := hwr29.below hb (hH.base _ (List.mem_of_getElem? (i := 1) rfl))
 replace hA := hwr29.lt hA
 replace hH : Hp A20 w0.heap.size w28 [(g19, .cells #[str y15.1.Salt, .int .i64 y15.1.Rounds, str y15.1.Hash] 45 (0, 0)), (g8, .cells #[str y15.1.Salt, .int .i64 y15.1.Rounds, str y15.1.Hash] 45 (0, 0)), (g1, .cells #[.int .i64 o_0.Kind, str o_0.ID, str o_0.User, str o_0.Word, str o_0.Code, str o_0.S, .int .i64 o_0.Level, .int .i64 o_0.Rounds, .int .i64 o_0.Now] 33 (0, 0))] := hH1
 clear hH1
 refine sr_end (l' := [(2, .pointer (some ⟨g8, 0, none⟩))]) (.cons rfl (.nil _)) ?_
 cases hS
 exact ke_ret (rs := [.cell 2 45]) (vs := [.agg #[str y15.1.Salt, .int .i64 y15.1.Rounds, str y15.1.Hash]]) Tryz.func26 rfl ⟨⟨_, rfl, run_loadVar_s Tryz.isAgg45 Tryz.sizeOf45 (hH.cells (i := 1) (vs := [str y15.1.Salt, .int .i64 y15.1.Rounds, str y15.1.Hash]) rfl rfl)⟩, trivial⟩ rfl ⟨_, rfl, rfl, hb⟩
theorem login_Logins_Drop_1_ok (w0 : World) (hg : Gs w0) {ρA : Tags} (hbd : ∀ b, ρA b ≠ 0 → b < w0.heap.size) (hz : Gz ρA) {__0 : Str} {a_1 : login_attempt} {c2 : Str} {v1 : Value} {b3 : Nat} {r : Bool} (h2 : SlR api_Proof.c (Wb ρA) w0 v1 a_1.proofs) (he4 : ElT strC ρA 0 w0 b3 0 [str c2] c2) (hS : login_Logins_Drop_1 __0 a_1 c2 = some r) :
  Calls Tryz.prog 78 #[str __0, .agg #[str a_1.user, .int .i64 a_1.begun, v1], .pointer (some ⟨b3, 0, none⟩)] w0 (Ret (fun v w' => v = .bool r ∧ Below w0.heap.size w0 w')) := by
 unfold login_Logins_Drop_1 at hS
 have hb := flat1_fr (ρ := ρA) (w := w0) hbd
 have hz := hz.flat1
 replace h2 := SlR.mv h2 flat1_rd
 replace he4 := he4.mv flat1_rd (Nat.succ_pos _)
 refine calls_of_ke Tryz.func78 rfl (n := 10) rfl rfl (l := [(0, str __0), (1, .agg #[str a_1.user, .int .i64 a_1.begun, v1]), (2, .pointer (some ⟨b3, 0, none⟩))]) rfl ?_
 refine ke_seq ?_
 refine ke_region ?_
 refine sr_boxT 6 (by decide) hb.bd rfl (by decide) ?_
 intro g5 ρ6 w7 hB9 htr8
 replace he4 := he4.mv (htr8.mv (i := 0) rfl) (Nat.succ_pos _)
 replace h2 := h2.mv htr8.rd
 replace hb := hb.trans htr8
 replace hB9 : Blk ρ6 6 w7 g5 (.cells #[str a_1.user, .int .i64 a_1.begun, v1] 74 (0, 0)) := hB9
 refine sr_ev (v := .bool false) (ev_assign rfl) (by decide) ?_
 refine sr_end (l' := [(2, .pointer (some ⟨b3, 0, none⟩)), (4, .pointer (some ⟨g5, 0, none⟩))]) (.cons rfl (.cons rfl (.nil _))) ?_
 refine ke_seq ?_
 refine ke_region ?_
 refine sr_ev (v := .pointer (some ⟨g5, 0, none⟩)) (ev_fieldAddr (i := 0) Tryz.underlying74 rfl Tryz.info9 rfl rfl) (by decide) ?_
 refine sr_ev (v := str a_1.user) (ev_load Tryz.isAgg9 rfl (hB9.cell rfl)) (by decide) ?_
 refine sr_ev (v := str c2) (ev_load Tryz.isAgg9 rfl (he4.cell 0 _ rfl)) (by decide) ?_
 refine sr_ev (v := .bool (a_1.user == c2)) (ev_seq rfl rfl) (by decide) ?_
 refine sr_ev (v := .bool (a_1.user == c2)) (ev_assign rfl) (by decide) ?_
 refine sr_end (l' := [(5, .bool (a_1.user == c2))]) (.cons rfl (.nil _)) ?_
 cases hS
 exact ke_ret1 Tryz.func78 rfl rfl ⟨_, rfl, rfl, (hb.below (flat1_le _))⟩
theorem maps_DeleteFunc_map_string_login_attempt_string_login_attempt__Logins_Drop_1_B2_ok {w0 : World} (hg : Gs w0) {ρA : Tags} (hbd : ∀ b, ρA b ≠ 0 → b < w0.heap.size) {o : Nat} (ho2 : 2 ≤ o) {v1 : Value} (hz : Gz (enter ρA o 1)) (r0 : GMap Str login_attempt → Str → List Str → Option (GMap Str login_attempt))
  (hr0 : ∀ {r : GMap Str login_attempt} {m_0 : GMap Str login_attempt} {del_1_c0 : Str} {t_7 : List Str} {bdel_1_c0 : Nat} {rt_7 : Nat}, r0 m_0 del_1_c0 t_7 = some r → ∀ {ρ : Tags} {w : World}, (Fr (enter ρA o 1) w0 ρ w) → (MapT str login_attempt.c true ρ 100 w v1 m_0) → (ElT strC ρ 0 w bdel_1_c0 0 [str del_1_c0] del_1_c0) → (IterT str login_attempt.c true ρ 100 9 w rt_7 v1 m_0 t_7) → KE Tryz.prog 45 (Ret (fun v w' => ∃ ρ', v = .tuple #[] ∧ MapT str login_attempt.c true ρ' o w' v1 r ∧ Tr ρA w0 (rng o 1) ρ' w')) 19 [.inLoop (sub (bodyOf Tryz.f45) [2, 2, 1]), .inBlock 0] [(0, v1), (1, .func (.func 78) #[] #[.pointer (some ⟨bdel_1_c0, 0, none⟩)]), (7, .pointer (some ⟨rt_7, 0, none⟩))] w) {r : GMap Str login_attempt} {m_0 : GMap Str login_attempt} {del_1_c0 : Str} {t_7 : List Str} {bdel_1_c0 : Nat} {rt_7 : Nat} (hS : maps_DeleteFunc_map_string_login_attempt_string_login_attempt__Logins_Drop_1_B2 r0 m_0 del_1_c0 t_7 = some r) {ρ : Tags} {w : World} (hb : Fr (enter ρA o 1) w0 ρ w) (hm_0 : MapT str login_attempt.c true ρ 100 w v1 m_0) (hedel_1_c0 : ElT strC ρ 0 w bdel_1_c0 0 [str del_1_c0] del_1_c0) (ht_7 : IterT str login_attempt.c true ρ 100 9 w rt_7 v1 m_0 t_7) :
  KE Tryz.prog 45 (Ret (fun v w' => ∃ ρ', v = .tuple #[] ∧ MapT str login_attempt.c true ρ' o w' v1 r ∧ Tr ρA w0 (rng o 1) ρ' w')) 19 [.inBlock 1, .inLoop (sub (bodyOf Tryz.f45) [2, 2, 1]), .inBlock 0] [(0, v1), (1, .func (.func 78) #[] #[.pointer (some ⟨bdel_1_c0, 0, none⟩)]), (7, .pointer (some ⟨rt_7, 0, none⟩))] w := by
 unfold maps_DeleteFunc_map_string_login_attempt_string_login_attempt__Logins_Drop_1_B2 at hS
 refine ke_inBlock ?_
 have hK := hr0 hS hb hm_0 hedel_1_c0 ht_7
 exact ke_weaken (l' := [(0, v1), (1, .func (.func 78) #[] #[.pointer (some ⟨bdel_1_c0, 0, none⟩)]), (7, .pointer (some ⟨rt_7, 0, none⟩))]) (.cons rfl (.cons rfl (.cons rfl (.nil _)))) hK
theorem maps_DeleteFunc_map_string_login_attempt_string_login_attempt__Logins_Drop_1_L1_ok {w0 : World} (hg : Gs w0) {ρA : Tags} (hbd : ∀ b, ρA b ≠ 0 → b < w0.heap.size) {o : Nat} (ho2 : 2 ≤ o) {v1 : Value} (hz : Gz (enter ρA o 1)) : ∀ (n : Nat), ∀ {r : GMap Str login_attempt} {m_0 : GMap Str login_attempt} {del_1_c0 : Str} {t_7 : List Str} {bdel_1_c0 : Nat} {rt_7 : Nat}, maps_DeleteFunc_map_string_login_attempt_string_login_attempt__Logins_Drop_1_L1 n m_0 del_1_c0 t_7 = some r → ∀ {ρ : Tags} {w : World}, (Fr (enter ρA o 1) w0 ρ w) → (MapT str login_attempt.c true ρ 100 w v1 m_0) → (ElT strC ρ 0 w bdel_1_c0 0 [str del_1_c0] del_1_c0) → (IterT str login_attempt.c true ρ 100 9 w rt_7 v1 m_0 t_7) → KE Tryz.prog 45 (Ret (fun v w' => ∃ ρ', v = .tuple #[] ∧ MapT str login_attempt.c true ρ' o w' v1 r ∧ Tr ρA w0 (rng o 1) ρ' w')) 19 [.code (sub (bodyOf Tryz.f45) [2, 2, 1]), .inLoop (sub (bodyOf Tryz.f45) [2, 2, 1]), .inBlock 0] [(0, v1), (1, .func (.func 78) #[] #[.pointer (some ⟨bdel_1_c0, 0, none⟩)]), (7, .pointer (some ⟨rt_7, 0, none⟩))] w := by
 intro n
 induction n with
 | zero => intro r m_0 del_1_c0 t_7 bdel_1_c0 rt_7 hS; cases hS
 | succ n ih =>
  have hr0 : ∀ {r : GMap Str login_attempt} {m_0 : GMap Str login_attempt} {del_1_c0 : Str} {t_7 : List Str} {bdel_1_c0 : Nat} {rt_7 : Nat}, maps_DeleteFunc_map_string_login_attempt_string_login_attempt__Logins_Drop_1_L1 n m_0 del_1_c0 t_7 = some r → ∀ {ρ : Tags} {w : World}, (Fr (enter ρA o 1) w0 ρ w) → (MapT str login_attempt.c true ρ 100 w v1 m_0) → (ElT strC ρ 0 w bdel_1_c0 0 [str del_1_c0] del_1_c0) → (IterT str login_attempt.c true ρ 100 9 w rt_7 v1 m_0 t_7) → KE Tryz.prog 45 (Ret (fun v w' => ∃ ρ', v = .tuple #[] ∧ MapT str login_attempt.c true ρ' o w' v1 r ∧ Tr ρA w0 (rng o 1) ρ' w')) 19 [.inLoop (sub (bodyOf Tryz.f45) [2, 2, 1]), .inBlock 0] [(0, v1), (1, .func (.func 78) #[] #[.pointer (some ⟨bdel_1_c0, 0, none⟩)]), (7, .pointer (some ⟨rt_7, 0, none⟩))] w := fun {r} {m_0} {del_1_c0} {t_7} {bdel_1_c0} {rt_7} hS {ρ} {w} hb hm_0 hedel_1_c0 ht_7 => ke_inLoop (ih hS hb hm_0 hedel_1_c0 ht_7)
  clear ih
  intro r m_0 del_1_c0 t_7 bdel_1_c0 rt_7 hS ρ w hb hm_0 hedel_1_c0 ht_7
  unfold maps_DeleteFunc_map_string_login_attempt_string_login_attempt__Logins_Drop_1_L1 at hS
  refine ke_seq ?_
  refine ke_region ?_
  refine sr_nextM ht_7 rfl (by decide) hb.bd hS rfl (by decide) (fun hS => ?_) (fun e10 cs11 w12 hS hrd14 ht_71 htr13 hent15 => ?_)
  ·refine sr_ev (v := .bool false) (ev_extract rfl rfl) (by decide) ?_
   refine sr_end (l' := [(0, v1), (1, .func (.func 78) #[] #[.pointer (some ⟨bdel_1_c0, 0, none⟩)]), (7, .pointer (some ⟨rt_7, 0, none⟩)), (9, .bool false)]) (.cons rfl (.cons rfl (.cons rfl (.cons rfl (.nil _))))) ?_
   refine ke_seq ?_
   refine ke_cond (t := false) rfl (fun h => by cases h) (fun _ => ?_)
   refine ke_exit (k' := _) rfl ?_
   cases hS
   exact ke_end0 Tryz.func45 rfl ⟨_, rfl, leave ρA w0 o 1 ρ, rfl, (hm_0.mv (leave_mv (p := 0) (by decide) hb)), (leave_tr ho2 hb)⟩
  ·skip
   replace hm_0 := hm_0.mv (htr13.mv (i := 100) rfl)
   replace hedel_1_c0 := hedel_1_c0.mv (htr13.mv (i := 0) rfl) (Nat.succ_pos _)
   replace hb := hb.trans htr13
   replace ht_7 := ht_71
   clear ht_71
   obtain ⟨v16, hcshrd14, h17⟩ := hrd14
   obtain rfl : cs11 = [str e10.2.user, .int .i64 e10.2.begun, v16] := hcshrd14
   refine sr_ev (v := .bool true) (ev_extract rfl rfl) (by decide) ?_
   refine sr_end (l' := [(0, v1), (1, .func (.func 78) #[] #[.pointer (some ⟨bdel_1_c0, 0, none⟩)]), (7, .pointer (some ⟨rt_7, 0, none⟩)), (9, .bool true)]) (.cons rfl (.cons rfl (.cons rfl (.cons rfl (.nil _))))) ?_
   refine ke_seq ?_
   refine ke_cond (t := true) rfl (fun _ => ?_) (fun h => by cases h)
   refine ke_skip ?_
   refine ke_block ?_
   refine ke_seq ?_
   refine ke_region ?_
   refine sr_ev (v := .tuple #[str e10.1, .agg #[str e10.2.user, .int .i64 e10.2.begun, v16]]) (hent15 rfl) (by decide) ?_
   refine sr_ev (v := str e10.1) (ev_extract rfl rfl) (by decide) ?_
   refine sr_ev (v := .agg #[str e10.2.user, .int .i64 e10.2.begun, v16]) (ev_extract rfl rfl) (by decide) ?_
   refine sr_allocT 7 (by decide) hb.bd Tryz.zeroValue74 (by decide) ?_
   intro g18 ρ19 w20 hB22 htr21
   replace hm_0 := hm_0.mv (htr21.mv (i := 100) rfl)
   replace hedel_1_c0 := hedel_1_c0.mv (htr21.mv (i := 0) rfl) (Nat.succ_pos _)
   replace ht_7 := ht_7.mv (htr21.mv (i := 100) rfl) (htr21.mv (i := 9) rfl)
   replace h17 := h17.mv htr21.rd
   replace hb := hb.trans htr21
   replace hB22 : Blk ρ19 7 w20 g18 (.cells #[str ([]), .int .i64 0, (.slice none 0 0)] 74 (0, 0)) := hB22
   refine sr_ev (v := str e10.1) (ev_assign rfl) (by decide) ?_
   refine sr_storeT (v := .agg #[str e10.2.user, .int .i64 e10.2.begun, v16]) (vs := [str e10.2.user, .int .i64 e10.2.begun, v16]) (cs' := #[str e10.2.user, .int .i64 e10.2.begun, v16]) hB22 (by decide) hb.bd rfl rfl rfl Tryz.sizeOf74 rfl (by first | rfl | (simp only [List.all_cons, List.all_nil, SlR.oneCell h17]; done) | (simp only [List.all_cons, List.all_nil, SlR.oneCell h17]; rfl)) rfl ?_
   intro w23 hB221 htr24
   replace hm_0 := hm_0.mv (htr24.mv (i := 100) rfl)
   replace hedel_1_c0 := hedel_1_c0.mv (htr24.mv (i := 0) rfl) (Nat.succ_pos _)
   replace ht_7 := ht_7.mv (htr24.mv (i := 100) rfl) (htr24.mv (i := 9) rfl)
   replace h17 := h17.mv htr24.rd
   replace hb := hb.trans htr24
   replace hB22 : Blk ρ19 7 w23 g18 (.cells #[str e10.2.user, .int .i64 e10.2.begun, v16] 74 (0, 0)) := hB221
   clear hB221
   refine sr_end (l' := [(0, v1), (1, .func (.func 78) #[] #[.pointer (some ⟨bdel_1_c0, 0, none⟩)]), (4, str e10.1), (5, .pointer (some ⟨g18, 0, none⟩)), (7, .pointer (some ⟨rt_7, 0, none⟩))]) (.cons rfl (.cons rfl (.cons rfl (.cons rfl (.cons rfl (.nil _)))))) ?_
   refine ke_seq ?_
   refine ke_region ?_
   refine sr_ev (v := .func (.func 78) #[] #[.pointer (some ⟨bdel_1_c0, 0, none⟩)]) (ev_move rfl) (by decide) ?_
   refine sr_ev (v := str e10.1) (ev_move rfl) (by decide) ?_
   refine sr_ev (v := .agg #[str e10.2.user, .int .i64 e10.2.begun, v16]) (ev_loads (cs := [str e10.2.user, .int .i64 e10.2.begun, v16]) Tryz.isAgg74 Tryz.sizeOf74 rfl (hB22.cells (vs := [str e10.2.user, .int .i64 e10.2.begun, v16]) rfl)) (by decide) ?_
   obtain ⟨y25, hy26, hS⟩ := bind_some' hS
   refine sr_callc (vs := [str e10.1, .agg #[str e10.2.user, .int .i64 e10.2.begun, v16]]) rfl Tryz.call78 rfl (login_Logins_Drop_1_ok _ (hg.fr hz hb) (ρA := ρ19) hb.bd (hz.fr hg hb) h17 hedel_1_c0 hy26) (by decide) ?_
   rintro _ w27 ⟨rfl, hbw28⟩
   have htr29 := Tr.of_below hbw28 hb.bd
   replace hm_0 := hm_0.mv (htr29.mv (i := 100) rfl)
   replace hedel_1_c0 := hedel_1_c0.mv (htr29.mv (i := 0) rfl) (Nat.succ_pos _)
   replace ht_7 := ht_7.mv (htr29.mv (i := 100) rfl) (htr29.mv (i := 9) rfl)
   replace hb := hb.trans htr29
   refine sr_end (l' := [(0, v1), (1, .func (.func 78) #[] #[.pointer (some ⟨bdel_1_c0, 0, none⟩)]), (4, str e10.1), (7, .pointer (some ⟨rt_7, 0, none⟩)), (16, .bool y25)]) (.cons rfl (.cons rfl (.cons rfl (.cons rfl (.cons rfl (.nil _)))))) ?_
   refine ke_cond (t := y25) rfl (fun hc30 => ?_) (fun hc30 => ?_)
   ·replace hS := ite_true' hS hc30
    refine ke_region ?_
    refine sr_ev (v := v1) (ev_move rfl) (by decide) ?_
    refine sr_ev (v := str e10.1) (ev_move rfl) (by decide) ?_
    obtain ⟨w31, hrunw31, ht_71, htr32⟩ := sr_mapDelIt (n := 19) (l := [(0, v1), (1, .func (.func 78) #[] #[.pointer (some ⟨bdel_1_c0, 0, none⟩)]), (4, str e10.1), (7, .pointer (some ⟨rt_7, 0, none⟩)), (16, .bool y25), (17, v1), (18, str e10.1)]) (d := none) (x := _) (y := _) (pos := _) (after := _) (t := _) (k := e10.1) ht_7 rfl Tryz.keyB9 Tryz.underlying67 (by decide) hb.bd
    refine sr_run0 (fun a ha => hrunw31 (ha.weaken (.cons rfl (.cons rfl (.cons rfl (.cons rfl (.cons rfl (.cons rfl (.cons rfl (.nil _))))))))) rfl rfl) ?_
    replace hedel_1_c0 := hedel_1_c0.mv (htr32.mv (i := 0) rfl) (Nat.succ_pos _)
    replace hb := hb.trans htr32
    replace ht_7 := ht_71
    clear ht_71
    replace hm_0 := ht_7.map
    refine sr_end (l' := [(0, v1), (1, .func (.func 78) #[] #[.pointer (some ⟨bdel_1_c0, 0, none⟩)]), (7, .pointer (some ⟨rt_7, 0, none⟩))]) (.cons rfl (.cons rfl (.cons rfl (.nil _)))) ?_
    have hK := maps_DeleteFunc_map_string_login_attempt_string_login_attempt__Logins_Drop_1_B2_ok hg hbd ho2 hz _ hr0 hS hb hm_0 hedel_1_c0 ht_7
    exact ke_weaken (l' := [(0, v1), (1, .func (.func 78) #[] #[.pointer (some ⟨bdel_1_c0, 0, none⟩)]), (7, .pointer (some ⟨rt_7, 0, none⟩))]) (.cons rfl (.cons rfl (.cons rfl (.nil _)))) hK
   ·replace hS := ite_false' hS hc30
    refine ke_skip ?_
    have hK := maps_DeleteFunc_map_string_login_attempt_string_login_attempt__Logins_Drop_1_B2_ok hg hbd ho2 hz _ hr0 hS hb hm_0 hedel_1_c0 ht_7
    exact ke_weaken (l' := [(0, v1), (1, .func (.func 78) #[] #[.pointer (some ⟨bdel_1_c0, 0, none⟩)]), (7, .pointer (some ⟨rt_7, 0, none⟩))]) (.cons rfl (.cons rfl (.cons rfl (.nil _)))) hK
theorem maps_DeleteFunc_map_string_login_attempt_string_login_attempt__Logins_Drop_1_ok (w0 : World) (hg : Gs w0) {ρA : Tags} (hbd : ∀ b, ρA b ≠ 0 → b < w0.heap.size) (hz : Gz ρA) {o : Nat} (ho2 : 2 ≤ o) {m_0 : GMap Str login_attempt} {c1_0 : Str} {v1 : Value} {b3 : Nat} {r : GMap Str login_attempt} (h2 : MapT str login_attempt.c true ρA o w0 v1 m_0) (he4 : ElT strC ρA 0 w0 b3 0 [str c1_0] c1_0) (hS : maps_DeleteFunc_map_string_login_attempt_string_login_attempt__Logins_Drop_1 m_0 c1_0 = some r) :
  Calls Tryz.prog 45 #[v1, .func (.func 78) #[] #[.pointer (some ⟨b3, 0, none⟩)]] w0 (Ret (fun v w' => ∃ ρ', v = .tuple #[] ∧ MapT str login_attempt.c true ρ' o w' v1 r ∧ Tr ρA w0 (rng o 1) ρ' w')) := by
 unfold maps_DeleteFunc_map_string_login_attempt_string_login_attempt__Logins_Drop_1 at hS
 have hb := enter_fr (ρ := ρA) (w := w0) (n := 1) ho2 hbd
 have hz := hz.enter (n := 1) ho2
 replace he4 := he4.mv (enter_rd (n := 1) ho2) (Nat.succ_pos _)
 replace h2 := h2.mv (enter_mv (p := 0) (n := 1) (by decide) ho2)
 replace h2 : MapT str login_attempt.c true (enter ρA o 1) 100 w0 v1 m_0 := h2
 refine calls_of_ke Tryz.func45 rfl (n := 19) rfl rfl (l := [(0, v1), (1, .func (.func 78) #[] #[.pointer (some ⟨b3, 0, none⟩)])]) rfl ?_
 refine ke_seq ?_
 refine ke_region ?_
 refine sr_ev (v := v1) (ev_move rfl) (by decide) ?_
 refine sr_rangeM 9 (by decide) h2 rfl Tryz.underlying67 hb.bd rfl (by decide) ?_
 intro r5 ρ6 w7 h8 htr9
 replace h2 := h2.mv (htr9.mv (i := 100) rfl)
 replace he4 := he4.mv (htr9.mv (i := 0) rfl) (Nat.succ_pos _)
 replace hb := hb.trans htr9
 refine sr_end (l' := [(0, v1), (1, .func (.func 78) #[] #[.pointer (some ⟨b3, 0, none⟩)]), (7, .pointer (some ⟨r5, 0, none⟩))]) (.cons rfl (.cons rfl (.cons rfl (.nil _)))) ?_
 refine ke_block ?_
 have hK := maps_DeleteFunc_map_string_login_attempt_string_login_attempt__Logins_Drop_1_L1_ok hg hbd ho2 hz _ hS hb h2 he4 h8
 exact ke_weaken (l' := [(0, v1), (1, .func (.func 78) #[] #[.pointer (some ⟨b3, 0, none⟩)]), (7, .pointer (some ⟨r5, 0, none⟩))]) (.cons rfl (.cons rfl (.cons rfl (.nil _)))) (ke_loop hK)
theorem login_Logins_Drop_ok (w0 : World) (hg : Gs w0) {ρA : Tags} (hbd : ∀ b, ρA b ≠ 0 → b < w0.heap.size) (hz : Gz ρA) {o : Nat} (ho2 : 2 ≤ o) {l_0 : login_Logins} {user_1 : Str} {gl_0 : Nat} {r : Bool × login_Logins} (ho0 : login_Logins.O (fun p => o + p) ρA w0 gl_0 l_0) (hS : login_Logins_Drop l_0 user_1 = some r) :
  Calls Tryz.prog 35 #[.pointer (some ⟨gl_0, 0, none⟩), str user_1] w0 (Ret (fun v w' => ∃ ρ', v = .bool r.1 ∧ login_Logins.O (fun p => o + p) ρ' w' gl_0 r.2 ∧ Tr ρA w0 (rng o 7) ρ' w')) := by
 unfold login_Logins_Drop at hS
 have hb := enter_fr (ρ := ρA) (w := w0) (n := 7) ho2 hbd
 have hz := hz.enter (n := 7) ho2
 obtain ⟨v1, v3, v5, v7, hB9, hP2, h4, h6, h8⟩ := ho0
 replace hB9 := hB9.mv (enter_mv (p := 0) (n := 7) (by decide) ho2)
 replace hP2 := PtrO.mv hP2 secret_Locks.objK (fun p hp => enter_mv (p := 1 + p) (n := 7) (by omega) ho2) (fun p hp => by omega)
 replace h4 := h4.mv (enter_mv (p := 4) (n := 7) (by decide) ho2)
 replace h6 := h6.mv (enter_mv (p := 5) (n := 7) (by decide) ho2)
 replace h8 := h8.mv (enter_mv (p := 6) (n := 7) (by decide) ho2)
 replace hB9 : Blk (enter ρA o 7) 100 w0 gl_0 (.cells #[v1, v3, v5, v7] 69 (0, 0)) := hB9
 replace hP2 : PtrO secret_Locks.O (fun q => 100 + (1 + q)) (enter ρA o 7) w0 v1 l_0.locks := hP2
 replace h4 : MapT str login_credentials.c true (enter ρA o 7) 104 w0 v3 l_0.users := h4
 replace h6 : MapT str (intC .i64) false (enter ρA o 7) 105 w0 v5 l_0.counters := h6
 replace h8 : MapT str login_attempt.c true (enter ρA o 7) 106 w0 v7 l_0.attempts := h8
 refine calls_of_ke Tryz.func35 rfl (n := 42) rfl rfl (l := [(0, .pointer (some ⟨gl_0, 0, none⟩)), (1, str user_1)]) rfl ?_
 refine ke_seq ?_
 refine ke_region ?_
 refine sr_boxT 5 (by decide) hb.bd rfl (by decide) ?_
 intro g10 ρ11 w12 hB14 htr13
 replace hB9 := hB9.mv (htr13.mv (i := 100) rfl)
 replace hP2 := PtrO.mv hP2 secret_Locks.objK (fun p hp => htr13.mv (i := 100 + (1 + p)) (by rcases p with _ | _ | _ | p <;> first | rfl | omega)) (fun p hp => by show 100 + (1 + p) ≠ 0; omega)
 replace h4 := h4.mv (htr13.mv (i := 104) rfl)
 replace h6 := h6.mv (htr13.mv (i := 105) rfl)
 replace h8 := h8.mv (htr13.mv (i := 106) rfl)
 replace hb := hb.trans htr13
 replace hB14 : Blk ρ11 5 w12 g10 (.cells #[str user_1] 9 (0, 0)) := hB14
 refine sr_ev (v := .bool false) (ev_assign rfl) (by decide) ?_
 refine sr_end (l' := [(0, .pointer (some ⟨gl_0, 0, none⟩)), (3, .pointer (some ⟨g10, 0, none⟩))]) (.cons rfl (.cons rfl (.nil _))) ?_
 refine ke_seq ?_
 refine ke_seq ?_
 refine ke_region ?_
 refine sr_ev (v := .pointer (some ⟨gl_0, 0, none⟩)) (ev_move rfl) (by decide) ?_
 obtain ⟨y15, hy16, hS⟩ := bind_some' hS
 refine sr_call (vs := [.pointer (some ⟨gl_0, 0, none⟩)]) rfl Tryz.call42 rfl (login_Logins_ready_ok _ (hg.fr hz hb) (ρA := ρ11) hb.bd (hz.fr hg hb) (τ0 := (fun p => 100 + p)) (fun p => Nat.le_add_right_of_le (by decide)) (⟨_, _, _, _, hB9, hP2, h4, h6, h8⟩ : login_Logins.O (fun p => 100 + p) ρ11 w12 gl_0 l_0) hy16) (by decide) ?_
 rintro _ w17 ⟨rfl, hbw18⟩
 have htr19 := Tr.of_below hbw18 hb.bd
 replace hB14 := hB14.mv (htr19.mv (i := 5) rfl)
 replace hB9 := hB9.mv (htr19.mv (i := 100) rfl)
 replace hP2 := PtrO.mv hP2 secret_Locks.objK (fun p hp => htr19.mv (i := 100 + (1 + p)) (by rcases p with _ | _ | _ | p <;> first | rfl | omega)) (fun p hp => by show 100 + (1 + p) ≠ 0; omega)
 replace h4 := h4.mv (htr19.mv (i := 104) rfl)
 replace h6 := h6.mv (htr19.mv (i := 105) rfl)
 replace h8 := h8.mv (htr19.mv (i := 106) rfl)
 replace hb := hb.trans htr19
 refine sr_ev (v := .bool (!y15)) (ev_not rfl) (by decide) ?_
 refine sr_end (l' := [(0, .pointer (some ⟨gl_0, 0, none⟩)), (3, .pointer (some ⟨g10, 0, none⟩)), (9, .bool (!y15))]) (.cons rfl (.cons rfl (.cons rfl (.nil _)))) ?_
 refine ke_cond (t := !y15) rfl (fun hc20 => ?_) (fun hc20 => ?_)
 ·replace hS := ite_true' hS hc20
  refine ke_seq ?_
  refine ke_region ?_
  refine sr_ev (v := .bool false) (ev_assign rfl) (by decide) ?_
  refine sr_end (l' := [(4, .bool false)]) (.cons rfl (.nil _)) ?_
  cases hS
  exact ke_ret1 Tryz.func35 rfl rfl ⟨_, rfl, leave ρA w0 o 7 ρ11, rfl, ⟨_, _, _, _, (hB9.mv (leave_mv (p := 0) (by decide) hb)), (PtrO.mv hP2 secret_Locks.objK (fun p hp => leave_mv (p := 1 + p) (by omega) hb) (fun p hp => by show o + (1 + p) ≠ 0; omega)), (h4.mv (leave_mv (p := 4) (by decide) hb)), (h6.mv (leave_mv (p := 5) (by decide) hb)), (h8.mv (leave_mv (p := 6) (by decide) hb))⟩, (leave_tr ho2 hb)⟩
 ·replace hS := ite_false' hS hc20
  refine ke_skip ?_
  refine ke_seq ?_
  refine ke_region_j (ρ := ρ11) (fun t => ([7] : List Nat).contains t) 12 Tryz.mixed (fun w22 hw21 => ?_)
  have htr23 := Tr.of_below hw21 hb.bd
  replace hB14 := hB14.mv (htr23.mv (i := 5) rfl)
  replace hB9 := hB9.mv (htr23.mv (i := 100) rfl)
  replace hP2 := PtrO.mv hP2 secret_Locks.objK (fun p hp => htr23.mv (i := 100 + (1 + p)) (by rcases p with _ | _ | _ | p <;> first | rfl | omega)) (fun p hp => by show 100 + (1 + p) ≠ 0; omega)
  replace h4 := h4.mv (htr23.mv (i := 104) rfl)
  replace h6 := h6.mv (htr23.mv (i := 105) rfl)
  replace h8 := h8.mv (htr23.mv (i := 106) rfl)
  replace hb := hb.trans htr23
  refine dj_h 0 (.pointer (some ⟨gl_0, 0, none⟩)) hb.bd rfl (fun w1 ρ1 hw1 => ev_move rfl) ?_
  refine dj_h 1 (.pointer (some ⟨gl_0, 0, none⟩)) hb.bd rfl (fun w1 ρ1 hw1 => ev_nilCheck rfl) ?_
  refine dj_h 2 (.pointer (some ⟨gl_0, 1, none⟩)) hb.bd rfl (fun w1 ρ1 hw1 => ev_fieldAddr (i := 1) Tryz.underlying69 rfl Tryz.info65 rfl rfl) ?_
  refine dj_h 3 v3 hb.bd rfl (fun w1 ρ1 hw1 => ev_load Tryz.isAgg65 rfl ((hB9.mv (hw1.mv (i := 100) rfl)).cell rfl)) ?_
  refine dj_h 4 (str user_1) hb.bd rfl (fun w1 ρ1 hw1 => ev_load Tryz.isAgg9 rfl ((hB14.mv (hw1.mv (i := 5) rfl)).cell rfl)) ?_
  obtain ⟨y59, hy60, hS⟩ := bind_some' hS
  replace hy60 := Option.some.inj hy60
  obtain ⟨cs55, hrd56, hl57, hl58⟩ := h4.look (zcs := [str ([]), .int .i64 0, str ([]), str ([])]) (z := (login_credentials.mk (api_Verifier.mk ([]) 0 ([])) ([]))) Tryz.keyB9 Tryz.underlying65 Tryz.zeroValue98 rfl user_1
  rw [hy60] at hrd56
  obtain rfl : cs55 = [str y59.verifier.Salt, .int .i64 y59.verifier.Rounds, str y59.verifier.Hash, str y59.code] := hrd56
  refine dj_h 5 (.tuple #[.agg #[str y59.verifier.Salt, .int .i64 y59.verifier.Rounds, str y59.verifier.Hash, str y59.code], .bool (mhas l_0.users user_1)]) hb.bd rfl (fun w1 ρ1 hw1 => hl58 w1 _ _ (hw1.mv (i := 104) rfl) rfl rfl) ?_
  refine dj_h 6 (.tuple #[.agg #[str y59.verifier.Salt, .int .i64 y59.verifier.Rounds, str y59.verifier.Hash, str y59.code], .bool (mhas l_0.users user_1)]) hb.bd rfl (fun w1 ρ1 hw1 => ev_move rfl) ?_
  refine dj_h 7 (.agg #[str y59.verifier.Salt, .int .i64 y59.verifier.Rounds, str y59.verifier.Hash, str y59.code]) hb.bd rfl (fun w1 ρ1 hw1 => ev_extract rfl rfl) ?_
  refine dj_h 8 (.bool (mhas l_0.users user_1)) hb.bd rfl (fun w1 ρ1 hw1 => ev_extract rfl rfl) ?_
  refine dj_E 9 (by kernel_rfl) rfl ?_
  have jt61 : Tr ρ11 w22 (fun t => ([7] : List Nat).contains t) ρ11 w22 := (Tr.refl hb.bd).weak (fun _ _ => rfl) rfl rfl
  refine sr_allocT 7 (by decide) hb.bd Tryz.zeroValue98 (by decide) ?_
  intro g62 ρ63 w64 hB66 htr65
  replace hB14 := hB14.mv (htr65.mv (i := 5) rfl)
  replace hB9 := hB9.mv (htr65.mv (i := 100) rfl)
  replace hP2 := PtrO.mv hP2 secret_Locks.objK (fun p hp => htr65.mv (i := 100 + (1 + p)) (by rcases p with _ | _ | _ | p <;> first | rfl | omega)) (fun p hp => by show 100 + (1 + p) ≠ 0; omega)
  replace h4 := h4.mv (htr65.mv (i := 104) rfl)
  replace h6 := h6.mv (htr65.mv (i := 105) rfl)
  replace h8 := h8.mv (htr65.mv (i := 106) rfl)
  replace hb := hb.trans htr65
  replace jt61 := (jt61.trans htr65).weak (J' := (fun t => ([7] : List Nat).contains t)) (by intro t h; simp [rng] at h ⊢ <;> omega) rfl rfl
  replace hB66 : Blk ρ63 7 w64 g62 (.cells #[str ([]), .int .i64 0, str ([]), str ([])] 98 (0, 0)) := hB66
  refine dj_next (l' := [(0, .pointer (some ⟨gl_0, 0, none⟩)), (3, .pointer (some ⟨g10, 0, none⟩)), (5, .pointer (some ⟨g62, 0, none⟩)), (17, .agg #[str y59.verifier.Salt, .int .i64 y59.verifier.Rounds, str y59.verifier.Hash, str y59.code]), (18, .bool (mhas l_0.users user_1))]) rfl (.cons rfl (.cons rfl (.cons rfl (.cons rfl (.cons rfl (.nil _)))))) jt61 (by intro t h; simp [rng] at h ⊢ <;> omega) rfl rfl ?_
  refine dj_E 10 (by kernel_rfl) rfl ?_
  have jt67 : Tr ρ63 w64 (fun t => ([7] : List Nat).contains t) ρ63 w64 := (Tr.refl hb.bd).weak (fun _ _ => rfl) rfl rfl
  refine sr_storeT (v := .agg #[str y59.verifier.Salt, .int .i64 y59.verifier.Rounds, str y59.verifier.Hash, str y59.code]) (vs := [str y59.verifier.Salt, .int .i64 y59.verifier.Rounds, str y59.verifier.Hash, str y59.code]) (cs' := #[str y59.verifier.Salt, .int .i64 y59.verifier.Rounds, str y59.verifier.Hash, str y59.code]) hB66 (by decide) hb.bd rfl rfl rfl Tryz.sizeOf98 rfl rfl rfl ?_
  intro w68 hB661 htr69
  replace hB14 := hB14.mv (htr69.mv (i := 5) rfl)
  replace hB9 := hB9.mv (htr69.mv (i := 100) rfl)
  replace hP2 := PtrO.mv hP2 secret_Locks.objK (fun p hp => htr69.mv (i := 100 + (1 + p)) (by rcases p with _ | _ | _ | p <;> first | rfl | omega)) (fun p hp => by show 100 + (1 + p) ≠ 0; omega)
  replace h4 := h4.mv (htr69.mv (i := 104) rfl)
  replace h6 := h6.mv (htr69.mv (i := 105) rfl)
  replace h8 := h8.mv (htr69.mv (i := 106) rfl)
  replace hb := hb.trans htr69
  replace jt67 := (jt67.trans htr69).weak (J' := (fun t => ([7] : List Nat).contains t)) (by intro t h; simp [rng] at h ⊢ <;> omega) rfl rfl
  replace hB66 : Blk ρ63 7 w68 g62 (.cells #[str y59.verifier.Salt, .int .i64 y59.verifier.Rounds, str y59.verifier.Hash, str y59.code] 98 (0, 0)) := hB661
  clear hB661
  refine dj_next (l' := [(0, .pointer (some ⟨gl_0, 0, none⟩)), (3, .pointer (some ⟨g10, 0, none⟩)), (18, .bool (mhas l_0.users user_1))]) rfl (.cons rfl (.cons rfl (.cons rfl (.nil _)))) jt67 (by intro t h; simp [rng] at h ⊢ <;> omega) rfl rfl ?_
  refine dj_h 11 (.bool (mhas l_0.users user_1)) hb.bd rfl (fun w1 ρ1 hw1 => ev_assign rfl) ?_
  refine dj_done rfl (by kernel_rfl) ?_
  refine ke_weaken (l' := [(0, .pointer (some ⟨gl_0, 0, none⟩)), (3, .pointer (some ⟨g10, 0, none⟩)), (6, .bool (mhas l_0.users user_1))]) (.cons rfl (.cons rfl (.cons rfl (.nil _)))) ?_
  refine ke_seq ?_
  refine ke_region_j (ρ := ρ63) (fun t => ([104] : List Nat).contains t) 6 Tryz.mixed (fun w71 hw70 => ?_)
  have htr72 := Tr.of_below hw70 hb.bd
  replace hB14 := hB14.mv (htr72.mv (i := 5) rfl)
  replace hB9 := hB9.mv (htr72.mv (i := 100) rfl)
  replace hP2 := PtrO.mv hP2 secret_Locks.objK (fun p hp => htr72.mv (i := 100 + (1 + p)) (by rcases p with _ | _ | _ | p <;> first | rfl | omega)) (fun p hp => by show 100 + (1 + p) ≠ 0; omega)
  replace h4 := h4.mv (htr72.mv (i := 104) rfl)
  replace h6 := h6.mv (htr72.mv (i := 105) rfl)
  replace h8 := h8.mv (htr72.mv (i := 106) rfl)
  replace hb := hb.trans htr72
  refine dj_h 0 (.pointer (some ⟨gl_0, 0, none⟩)) hb.bd rfl (fun w1 ρ1 hw1 => ev_move rfl) ?_
  refine dj_h 1 (.pointer (some ⟨gl_0, 0, none⟩)) hb.bd rfl (fun w1 ρ1 hw1 => ev_nilCheck rfl) ?_
  refine dj_h 2 (.pointer (some ⟨gl_0, 1, none⟩)) hb.bd rfl (fun w1 ρ1 hw1 => ev_fieldAddr (i := 1) Tryz.underlying69 rfl Tryz.info65 rfl rfl) ?_
  refine dj_h 3 v3 hb.bd rfl (fun w1 ρ1 hw1 => ev_load Tryz.isAgg65 rfl ((hB9.mv (hw1.mv (i := 100) rfl)).cell rfl)) ?_
  refine dj_h 4 (str user_1) hb.bd rfl (fun w1 ρ1 hw1 => ev_load Tryz.isAgg9 rfl ((hB14.mv (hw1.mv (i := 5) rfl)).cell rfl)) ?_
  refine dj_E 5 (by kernel_rfl) rfl ?_
  have jt80 : Tr ρ63 w71 (fun t => ([104] : List Nat).contains t) ρ63 w71 := (Tr.refl hb.bd).weak (fun _ _ => rfl) rfl rfl
  refine sr_mapDel0 (k := user_1) h4 Tryz.keyB9 Tryz.underlying65 (by decide) hb.bd rfl rfl ?_
  intro w81 h41 htr82
  replace hB14 := hB14.mv (htr82.mv (i := 5) rfl)
  replace hB9 := hB9.mv (htr82.mv (i := 100) rfl)
  replace hP2 := PtrO.mv hP2 secret_Locks.objK (fun p hp => htr82.mv (i := 100 + (1 + p)) (by rcases p with _ | _ | _ | p <;> first | rfl | omega)) (fun p hp => by show 100 + (1 + p) ≠ 0; omega)
  replace h6 := h6.mv (htr82.mv (i := 105) rfl)
  replace h8 := h8.mv (htr82.mv (i := 106) rfl)
  replace hb := hb.trans htr82
  replace jt80 := (jt80.trans htr82).weak (J' := (fun t => ([104] : List Nat).contains t)) (by intro t h; simp [rng] at h ⊢ <;> omega) rfl rfl
  replace h4 := h41
  clear h41
  refine dj_next (l' := [(0, .pointer (some ⟨gl_0, 0, none⟩)), (3, .pointer (some ⟨g10, 0, none⟩)), (6, .bool (mhas l_0.users user_1))]) rfl (.cons rfl (.cons rfl (.cons rfl (.nil _)))) jt80 (by intro t h; simp [rng] at h ⊢ <;> omega) rfl rfl ?_
  refine dj_done rfl (by kernel_rfl) ?_
  refine ke_weaken (l' := [(0, .pointer (some ⟨gl_0, 0, none⟩)), (3, .pointer (some ⟨g10, 0, none⟩)), (6, .bool (mhas l_0.users user_1))]) (.cons rfl (.cons rfl (.cons rfl (.nil _)))) ?_
  refine ke_seq ?_
  refine ke_region_j (ρ := ρ63) (fun t => ([105] : List Nat).contains t) 6 Tryz.mixed (fun w84 hw83 => ?_)
  have htr85 := Tr.of_below hw83 hb.bd
  replace hB14 := hB14.mv (htr85.mv (i := 5) rfl)
  replace hB9 := hB9.mv (htr85.mv (i := 100) rfl)
  replace hP2 := PtrO.mv hP2 secret_Locks.objK (fun p hp => htr85.mv (i := 100 + (1 + p)) (by rcases p with _ | _ | _ | p <;> first | rfl | omega)) (fun p hp => by show 100 + (1 + p) ≠ 0; omega)
  replace h4 := h4.mv (htr85.mv (i := 104) rfl)
  replace h6 := h6.mv (htr85.mv (i := 105) rfl)
  replace h8 := h8.mv (htr85.mv (i := 106) rfl)
  replace hb := hb.trans htr85
  refine dj_h 0 (.pointer (some ⟨gl_0, 0, none⟩)) hb.bd rfl (fun w1 ρ1 hw1 => ev_move rfl) ?_
  refine dj_h 1 (.pointer (some ⟨gl_0, 0, none⟩)) hb.bd rfl (fun w1 ρ1 hw1 => ev_nilCheck rfl) ?_
  refine dj_h 2 (.pointer (some ⟨gl_0, 2, none⟩)) hb.bd rfl (fun w1 ρ1 hw1 => ev_fieldAddr (i := 2) Tryz.underlying69 rfl Tryz.info66 rfl rfl) ?_
  refine dj_h 3 v5 hb.bd rfl (fun w1 ρ1 hw1 => ev_load Tryz.isAgg66 rfl ((hB9.mv (hw1.mv (i := 100) rfl)).cell rfl)) ?_
  refine dj_h 4 (str user_1) hb.bd rfl (fun w1 ρ1 hw1 => ev_load Tryz.isAgg9 rfl ((hB14.mv (hw1.mv (i := 5) rfl)).cell rfl)) ?_
  refine dj_E 5 (by kernel_rfl) rfl ?_
  have jt93 : Tr ρ63 w84 (fun t => ([105] : List Nat).contains t) ρ63 w84 := (Tr.refl hb.bd).weak (fun _ _ => rfl) rfl rfl
  refine sr_mapDel0 (k := user_1) h6 Tryz.keyB9 Tryz.underlying66 (by decide) hb.bd rfl rfl ?_
  intro w94 h61 htr95
  replace hB14 := hB14.mv (htr95.mv (i := 5) rfl)
  replace hB9 := hB9.mv (htr95.mv (i := 100) rfl)
  replace hP2 := PtrO.mv hP2 secret_Locks.objK (fun p hp => htr95.mv (i := 100 + (1 + p)) (by rcases p with _ | _ | _ | p <;> first | rfl | omega)) (fun p hp => by show 100 + (1 + p) ≠ 0; omega)
  replace h4 := h4.mv (htr95.mv (i := 104) rfl)
  replace h8 := h8.mv (htr95.mv (i := 106) rfl)
  replace hb := hb.trans htr95
  replace jt93 := (jt93.trans htr95).weak (J' := (fun t => ([105] : List Nat).contains t)) (by intro t h; simp [rng] at h ⊢ <;> omega) rfl rfl
  replace h6 := h61
  clear h61
  refine dj_next (l' := [(0, .pointer (some ⟨gl_0, 0, none⟩)), (3, .pointer (some ⟨g10, 0, none⟩)), (6, .bool (mhas l_0.users user_1))]) rfl (.cons rfl (.cons rfl (.cons rfl (.nil _)))) jt93 (by intro t h; simp [rng] at h ⊢ <;> omega) rfl rfl ?_
  refine dj_done rfl (by kernel_rfl) ?_
  refine ke_weaken (l' := [(0, .pointer (some ⟨gl_0, 0, none⟩)), (3, .pointer (some ⟨g10, 0, none⟩)), (6, .bool (mhas l_0.users user_1))]) (.cons rfl (.cons rfl (.cons rfl (.nil _)))) ?_
  refine ke_seq ?_
  refine ke_region_j (ρ := ρ63) (fun t => ([101, 102, 103] : List Nat).contains t) 6 Tryz.mixed (fun w97 hw96 => ?_)
  have htr98 := Tr.of_below hw96 hb.bd
  replace hB14 := hB14.mv (htr98.mv (i := 5) rfl)
  replace hB9 := hB9.mv (htr98.mv (i := 100) rfl)
  replace hP2 := PtrO.mv hP2 secret_Locks.objK (fun p hp => htr98.mv (i := 100 + (1 + p)) (by rcases p with _ | _ | _ | p <;> first | rfl | omega)) (fun p hp => by show 100 + (1 + p) ≠ 0; omega)
  replace h4 := h4.mv (htr98.mv (i := 104) rfl)
  replace h6 := h6.mv (htr98.mv (i := 105) rfl)
  replace h8 := h8.mv (htr98.mv (i := 106) rfl)
  replace hb := hb.trans htr98
  refine dj_h 0 (.pointer (some ⟨gl_0, 0, none⟩)) hb.bd rfl (fun w1 ρ1 hw1 => ev_move rfl) ?_
  refine dj_h 1 (.pointer (some ⟨gl_0, 0, none⟩)) hb.bd rfl (fun w1 ρ1 hw1 => ev_nilCheck rfl) ?_
  refine dj_h 2 (.pointer (some ⟨gl_0, 0, none⟩)) hb.bd rfl (fun w1 ρ1 hw1 => ev_fieldAddr (i := 0) Tryz.underlying69 rfl Tryz.info64 rfl rfl) ?_
  refine dj_h 3 v1 hb.bd rfl (fun w1 ρ1 hw1 => ev_load Tryz.isAgg64 rfl ((hB9.mv (hw1.mv (i := 100) rfl)).cell rfl)) ?_
  refine dj_h 4 (str user_1) hb.bd rfl (fun w1 ρ1 hw1 => ev_load Tryz.isAgg9 rfl ((hB14.mv (hw1.mv (i := 5) rfl)).cell rfl)) ?_
  refine dj_E 5 (by kernel_rfl) rfl ?_
  have jt150 : Tr ρ63 w97 (fun t => ([101, 102, 103] : List Nat).contains t) ρ63 w97 := (Tr.refl hb.bd).weak (fun _ _ => rfl) rfl rfl
  rcases ho152 : l_0.locks with _ | z151
  ·replace hS := optC_none hS ho152
   obtain rfl := hP2.none_ ho152
   obtain ⟨y178, hy179, hS⟩ := bind_some' hS
   refine sr_call (vs := [.pointer none, str user_1]) rfl Tryz.call77 rfl (secret_Locks_Clear__nil_ok _ (hg.fr hz hb) (ρA := ρ63) hb.bd (hz.fr hg hb) hy179) (by decide) ?_
   rintro _ w180 ⟨rfl, hbw181⟩
   have htr182 := Tr.of_below hbw181 hb.bd
   replace hB14 := hB14.mv (htr182.mv (i := 5) rfl)
   replace hB9 := hB9.mv (htr182.mv (i := 100) rfl)
   replace h4 := h4.mv (htr182.mv (i := 104) rfl)
   replace h6 := h6.mv (htr182.mv (i := 105) rfl)
   replace h8 := h8.mv (htr182.mv (i := 106) rfl)
   replace hb := hb.trans htr182
   replace jt150 := (jt150.trans htr182).weak (J' := (fun t => ([101, 102, 103] : List Nat).contains t)) (by intro t h; simp [rng] at h ⊢ <;> omega) rfl rfl
   refine dj_next (l' := [(0, .pointer (some ⟨gl_0, 0, none⟩)), (3, .pointer (some ⟨g10, 0, none⟩)), (6, .bool (mhas l_0.users user_1))]) rfl (.cons rfl (.cons rfl (.cons rfl (.nil _)))) jt150 (by intro t h; simp [rng] at h ⊢ <;> omega) rfl rfl ?_
   refine dj_done rfl (by kernel_rfl) ?_
   refine ke_weaken (l' := [(0, .pointer (some ⟨gl_0, 0, none⟩)), (3, .pointer (some ⟨g10, 0, none⟩)), (6, .bool (mhas l_0.users user_1))]) (.cons rfl (.cons rfl (.cons rfl (.nil _)))) ?_
   refine ke_seq ?_
   refine ke_region ?_
   refine sr_ev (v := .pointer (some ⟨gl_0, 0, none⟩)) (ev_move rfl) (by decide) ?_
   refine sr_ev (v := .pointer (some ⟨gl_0, 0, none⟩)) (ev_nilCheck rfl) (by decide) ?_
   refine sr_ev (v := .pointer (some ⟨gl_0, 3, none⟩)) (ev_fieldAddr (i := 3) Tryz.underlying69 rfl Tryz.info67 rfl rfl) (by decide) ?_
   refine sr_ev (v := v7) (ev_load Tryz.isAgg67 rfl (hB9.cell rfl)) (by decide) ?_
   have htr183 := frz_tr (ρ := ρ63) (w := w180) (i := 5) (by decide) hb.bd
   have he184 : ElT strC (frz ρ63 5) 0 w180 g10 0 [str user_1] user_1 := Blk.frzEl hB14 rfl rfl
   replace h8 := h8.mv (htr183.mv (i := 106) rfl)
   replace hB9 := hB9.mv (htr183.mv (i := 100) rfl)
   replace h4 := h4.mv (htr183.mv (i := 104) rfl)
   replace h6 := h6.mv (htr183.mv (i := 105) rfl)
   replace hb := hb.trans htr183
   refine sr_ev (v := .func (.func 78) #[] #[.pointer (some ⟨g10, 0, none⟩)]) (ev_makeFunc rfl) (by decide) ?_
   obtain ⟨y185, hy186, hS⟩ := bind_some' hS
   refine sr_call (vs := [v7, .func (.func 78) #[] #[.pointer (some ⟨g10, 0, none⟩)]]) rfl Tryz.call45 rfl (maps_DeleteFunc_map_string_login_attempt_string_login_attempt__Logins_Drop_1_ok _ (hg.fr hz hb) (ρA := (frz ρ63 5)) hb.bd (hz.fr hg hb) (o := 106) (by decide) h8 he184 hy186) (by decide) ?_
   rintro _ w187 ⟨ρ190, rfl, h81, htr189⟩
   replace hB9 := hB9.mv (htr189.mv (i := 100) rfl)
   replace h4 := h4.mv (htr189.mv (i := 104) rfl)
   replace h6 := h6.mv (htr189.mv (i := 105) rfl)
   replace hb := hb.trans htr189
   replace h8 := h81
   clear h81
   refine sr_end (l' := [(6, .bool (mhas l_0.users user_1))]) (.cons rfl (.nil _)) ?_
   refine ke_seq ?_
   refine ke_region ?_
   refine sr_ev (v := .bool (mhas l_0.users user_1)) (ev_move rfl) (by decide) ?_
   refine sr_ev (v := .bool (mhas l_0.users user_1)) (ev_assign rfl) (by decide) ?_
   refine sr_end (l' := [(4, .bool (mhas l_0.users user_1))]) (.cons rfl (.nil _)) ?_
   cases hS
   exact ke_ret1 Tryz.func35 rfl rfl ⟨_, rfl, leave ρA w0 o 7 ρ190, rfl, ⟨_, _, _, _, (hB9.mv (leave_mv (p := 0) (by decide) hb)), PtrO.nil, (h4.mv (leave_mv (p := 4) (by decide) hb)), (h6.mv (leave_mv (p := 5) (by decide) hb)), (h8.mv (leave_mv (p := 6) (by decide) hb))⟩, (leave_tr ho2 hb)⟩
  ·replace hS := optC_some hS ho152
   obtain ⟨g153, rfl, ⟨v154, lp156, hB158, h155, hR157⟩⟩ := hP2.some_ ho152
   replace hB158 : Blk ρ63 101 w97 g153 (.cells #[.int .i64 z151.most, .int .i64 z151.window, .int .i64 z151.lock, v154] 134 (0, 0)) := hB158
   replace h155 : MapT str ptrC false ρ63 102 w97 v154 lp156 := h155
   replace hR157 : Recs secret_record.O 2 ρ63 103 w97 lp156 z151.users := hR157
   obtain ⟨y159, hy160, hS⟩ := bind_some' hS
   refine sr_call (vs := [.pointer (some ⟨g153, 0, none⟩), str user_1]) rfl Tryz.call77 rfl (secret_Locks_Clear_ok _ (hg.fr hz hb) (ρA := ρ63) hb.bd (hz.fr hg hb) (o := 101) (by decide) (⟨_, _, hB158, h155, hR157⟩ : secret_Locks.O (fun p => 101 + p) ρ63 w97 g153 z151) hy160) (by decide) ?_
   rintro _ w161 ⟨ρ169, rfl, ⟨v164, lp166, hB168, h165, hR167⟩, htr163⟩
   replace hB14 := hB14.mv (htr163.mv (i := 5) rfl)
   replace hB9 := hB9.mv (htr163.mv (i := 100) rfl)
   replace h4 := h4.mv (htr163.mv (i := 104) rfl)
   replace h6 := h6.mv (htr163.mv (i := 105) rfl)
   replace h8 := h8.mv (htr163.mv (i := 106) rfl)
   replace hb := hb.trans htr163
   replace jt150 := (jt150.trans htr163).weak (J' := (fun t => ([101, 102, 103] : List Nat).contains t)) (by intro t h; simp [rng] at h ⊢ <;> omega) rfl rfl
   replace hB168 : Blk ρ169 101 w161 g153 (.cells #[.int .i64 y159.most, .int .i64 y159.window, .int .i64 y159.lock, v164] 134 (0, 0)) := hB168
   replace h165 : MapT str ptrC false ρ169 102 w161 v164 lp166 := h165
   replace hR167 : Recs secret_record.O 2 ρ169 103 w161 lp166 y159.users := hR167
   refine dj_next (l' := [(0, .pointer (some ⟨gl_0, 0, none⟩)), (3, .pointer (some ⟨g10, 0, none⟩)), (6, .bool (mhas l_0.users user_1))]) rfl (.cons rfl (.cons rfl (.cons rfl (.nil _)))) jt150 (by intro t h; simp [rng] at h ⊢ <;> omega) rfl rfl ?_
   refine dj_done rfl (by kernel_rfl) ?_
   refine ke_weaken (l' := [(0, .pointer (some ⟨gl_0, 0, none⟩)), (3, .pointer (some ⟨g10, 0, none⟩)), (6, .bool (mhas l_0.users user_1))]) (.cons rfl (.cons rfl (.cons rfl (.nil _)))) ?_
   refine ke_seq ?_
   refine ke_region ?_
   refine sr_ev (v := .pointer (some ⟨gl_0, 0, none⟩)) (ev_move rfl) (by decide) ?_
   refine sr_ev (v := .pointer (some ⟨gl_0, 0, none⟩)) (ev_nilCheck rfl) (by decide) ?_
   refine sr_ev (v := .pointer (some ⟨gl_0, 3, none⟩)) (ev_fieldAddr (i := 3) Tryz.underlying69 rfl Tryz.info67 rfl rfl) (by decide) ?_
   refine sr_ev (v := v7) (ev_load Tryz.isAgg67 rfl (hB9.cell rfl)) (by decide) ?_
   have htr170 := frz_tr (ρ := ρ169) (w := w161) (i := 5) (by decide) hb.bd
   have he171 : ElT strC (frz ρ169 5) 0 w161 g10 0 [str user_1] user_1 := Blk.frzEl hB14 rfl rfl
   replace h8 := h8.mv (htr170.mv (i := 106) rfl)
   replace hB168 := hB168.mv (htr170.mv (i := 101) rfl)
   replace h165 := h165.mv (htr170.mv (i := 102) rfl)
   replace hR167 := Recs.mv hR167 secret_record.objK (htr170.mv (i := 103) rfl) (by decide)
   replace hB9 := hB9.mv (htr170.mv (i := 100) rfl)
   replace h4 := h4.mv (htr170.mv (i := 104) rfl)
   replace h6 := h6.mv (htr170.mv (i := 105) rfl)
   replace hb := hb.trans htr170
   refine sr_ev (v := .func (.func 78) #[] #[.pointer (some ⟨g10, 0, none⟩)]) (ev_makeFunc rfl) (by decide) ?_
   obtain ⟨y172, hy173, hS⟩ := bind_some' hS
   refine sr_call (vs := [v7, .func (.func 78) #[] #[.pointer (some ⟨g10, 0, none⟩)]]) rfl Tryz.call45 rfl (maps_DeleteFunc_map_string_login_attempt_string_login_attempt__Logins_Drop_1_ok _ (hg.fr hz hb) (ρA := (frz ρ169 5)) hb.bd (hz.fr hg hb) (o := 106) (by decide) h8 he171 hy173) (by decide) ?_
   rintro _ w174 ⟨ρ177, rfl, h81, htr176⟩
   replace hB168 := hB168.mv (htr176.mv (i := 101) rfl)
   replace h165 := h165.mv (htr176.mv (i := 102) rfl)
   replace hR167 := Recs.mv hR167 secret_record.objK (htr176.mv (i := 103) rfl) (by decide)
   replace hB9 := hB9.mv (htr176.mv (i := 100) rfl)
   replace h4 := h4.mv (htr176.mv (i := 104) rfl)
   replace h6 := h6.mv (htr176.mv (i := 105) rfl)
   replace hb := hb.trans htr176
   replace h8 := h81
   clear h81
   refine sr_end (l' := [(6, .bool (mhas l_0.users user_1))]) (.cons rfl (.nil _)) ?_
   refine ke_seq ?_
   refine ke_region ?_
   refine sr_ev (v := .bool (mhas l_0.users user_1)) (ev_move rfl) (by decide) ?_
   refine sr_ev (v := .bool (mhas l_0.users user_1)) (ev_assign rfl) (by decide) ?_
   refine sr_end (l' := [(4, .bool (mhas l_0.users user_1))]) (.cons rfl (.nil _)) ?_
   cases hS
   exact ke_ret1 Tryz.func35 rfl rfl ⟨_, rfl, leave ρA w0 o 7 ρ177, rfl, ⟨_, _, _, _, (hB9.mv (leave_mv (p := 0) (by decide) hb)), (PtrO.mk ⟨_, _, (hB168.mv (leave_mv (p := 1) (by decide) hb)), (h165.mv (leave_mv (p := 2) (by decide) hb)), (Recs.mv hR167 secret_record.objK (leave_mv (p := 3) (by decide) hb) (Nat.ne_of_gt (Nat.lt_of_lt_of_le (Nat.lt_of_lt_of_le Nat.zero_lt_two ho2) (Nat.le_add_right _ _))))⟩), (h4.mv (leave_mv (p := 4) (by decide) hb)), (h6.mv (leave_mv (p := 5) (by decide) hb)), (h8.mv (leave_mv (p := 6) (by decide) hb))⟩, (leave_tr ho2 hb)⟩
theorem login_Logins_Enroll__nil_ok (w0 : World) (hg : Gs w0) {ρA : Tags} (hbd : ∀ b, ρA b ≠ 0 → b < w0.heap.size) (hz : Gz ρA) {user_1 : Str} {v_2 : api_Verifier} {code_3 : Str} {r : Int} (hS : login_Logins_Enroll__nil user_1 v_2 code_3 = some r) :
  Calls Tryz.prog 25 #[.pointer none, str user_1, .agg #[str v_2.Salt, .int .i64 v_2.Rounds, str v_2.Hash], str code_3] w0 (Ret (fun v w' => v = .int .i64 r ∧ Below w0.heap.size w0 w')) := by
 unfold login_Logins_Enroll__nil at hS
 have hb := flat1_fr (ρ := ρA) (w := w0) hbd
 have hz := hz.flat1
 refine calls_of_ke Tryz.func25 rfl (n := 59) rfl rfl (l := [(0, .pointer none), (1, str user_1), (2, .agg #[str v_2.Salt, .int .i64 v_2.Rounds, str v_2.Hash]), (3, str code_3)]) rfl ?_
 refine ke_seq ?_
 refine ke_region ?_
 refine sr_boxT 8 (by decide) hb.bd rfl (by decide) ?_
 intro g1 ρ2 w3 hB5 htr4
 replace hb := hb.trans htr4
 replace hB5 : Blk ρ2 8 w3 g1 (.cells #[str v_2.Salt, .int .i64 v_2.Rounds, str v_2.Hash] 45 (0, 0)) := hB5
 refine sr_ev (v := .int .i64 0) (ev_assign rfl) (by decide) ?_
 refine sr_end (l' := [(0, .pointer none), (1, str user_1), (3, str code_3), (6, .pointer (some ⟨g1, 0, none⟩))]) (.cons rfl (.cons rfl (.cons rfl (.cons rfl (.nil _))))) ?_
 refine ke_seq ?_
 refine ke_seq ?_
 refine ke_region ?_
 refine sr_ev (v := .pointer none) (ev_move rfl) (by decide) ?_
 obtain ⟨y6, hy7, hS⟩ := bind_some' hS
 obtain rfl : y6 = false := (Option.some.inj hy7).symm
 refine sr_call (vs := [.pointer none]) rfl Tryz.call42 rfl (login_Logins_ready__nil_ok _ (hg.fr hz hb) (ρA := ρ2) hb.bd (hz.fr hg hb) hy7) (by decide) ?_
 rintro _ w8 ⟨rfl, hbw9⟩
 have htr10 := Tr.of_below hbw9 hb.bd
 replace hB5 := hB5.mv (htr10.mv (i := 8) rfl)
 replace hb := hb.trans htr10
 refine sr_ev (v := .bool true) (ev_notc rfl rfl) (by decide) ?_
 refine sr_end (l' := [(0, .pointer none), (1, str user_1), (3, str code_3), (6, .pointer (some ⟨g1, 0, none⟩)), (13, .bool true)]) (.cons rfl (.cons rfl (.cons rfl (.cons rfl (.cons rfl (.nil _)))))) ?_
 refine ke_cond (t := true) rfl (fun _ => ?_) (fun h => by cases h)
 refine ke_seq ?_
 refine ke_region ?_
 refine sr_ev (v := .int .i64 1) (ev_assign rfl) (by decide) ?_
 refine sr_end (l' := [(8, .int .i64 1)]) (.cons rfl (.nil _)) ?_
 cases hS
 exact ke_ret1 Tryz.func25 rfl rfl ⟨_, rfl, rfl, (hb.below (flat1_le _))⟩
theorem login_Logins_Begin__nil_ok (w0 : World) (hg : Gs w0) {ρA : Tags} (hbd : ∀ b, ρA b ≠ 0 → b < w0.heap.size) (hz : Gz ρA) {id_1 : Str} {user_2 : Str} {now_3 : Int} {r : Int} (hS : login_Logins_Begin__nil id_1 user_2 now_3 = some r) :
  Calls Tryz.prog 14 #[.pointer none, str id_1, str user_2, .int .i64 now_3] w0 (Ret (fun v w' => v = .int .i64 r ∧ Below w0.heap.size w0 w')) := by
 unfold login_Logins_Begin__nil at hS
 have hb := flat1_fr (ρ := ρA) (w := w0) hbd
 have hz := hz.flat1
 refine calls_of_ke Tryz.func14 rfl (n := 60) rfl rfl (l := [(0, .pointer none), (1, str id_1), (2, str user_2), (3, .int .i64 now_3)]) rfl ?_
 refine ke_seq ?_
 refine ke_region ?_
 refine sr_boxT 9 (by decide) hb.bd rfl (by decide) ?_
 intro g1 ρ2 w3 hB5 htr4
 replace hb := hb.trans htr4
 replace hB5 : Blk ρ2 9 w3 g1 (.cells #[.int .i64 now_3] 3 (0, 0)) := hB5
 refine sr_ev (v := .int .i64 0) (ev_assign rfl) (by decide) ?_
 refine sr_end (l' := [(0, .pointer none), (1, str id_1), (2, str user_2), (7, .pointer (some ⟨g1, 0, none⟩))]) (.cons rfl (.cons rfl (.cons rfl (.cons rfl (.nil _))))) ?_
 refine ke_seq ?_
 refine ke_seq ?_
 refine ke_region ?_
 refine sr_ev (v := .pointer none) (ev_move rfl) (by decide) ?_
 obtain ⟨y6, hy7, hS⟩ := bind_some' hS
 obtain rfl : y6 = false := (Option.some.inj hy7).symm
 refine sr_call (vs := [.pointer none]) rfl Tryz.call42 rfl (login_Logins_ready__nil_ok _ (hg.fr hz hb) (ρA := ρ2) hb.bd (hz.fr hg hb) hy7) (by decide) ?_
 rintro _ w8 ⟨rfl, hbw9⟩
 have htr10 := Tr.of_below hbw9 hb.bd
 replace hB5 := hB5.mv (htr10.mv (i := 9) rfl)
 replace hb := hb.trans htr10
 refine sr_ev (v := .bool true) (ev_notc rfl rfl) (by decide) ?_
 refine sr_end (l' := [(0, .pointer none), (1, str id_1), (2, str user_2), (7, .pointer (some ⟨g1, 0, none⟩)), (13, .bool true)]) (.cons rfl (.cons rfl (.cons rfl (.cons rfl (.cons rfl (.nil _)))))) ?_
 refine ke_cond (t := true) rfl (fun _ => ?_) (fun h => by cases h)
 refine ke_seq ?_
 refine ke_region ?_
 refine sr_ev (v := .int .i64 1) (ev_assign rfl) (by decide) ?_
 refine sr_end (l' := [(8, .int .i64 1)]) (.cons rfl (.nil _)) ?_
 cases hS
 exact ke_ret1 Tryz.func14 rfl rfl ⟨_, rfl, rfl, (hb.below (flat1_le _))⟩
theorem login_Logins_present__nil_____Logins_byPassword_ok (w0 : World) (hg : Gs w0) {ρA : Tags} (hbd : ∀ b, ρA b ≠ 0 → b < w0.heap.size) (hz : Gz ρA) {id_1 : Str} {text_2 : Str} {now_3 : Int} {f_4 : Int} {r : Int} (hS : login_Logins_present__nil_____Logins_byPassword id_1 text_2 now_3 f_4 = some r) :
  Calls Tryz.prog 47 #[.pointer none, str id_1, str text_2, .int .i64 now_3, .int .i64 f_4, .func (.func 53) #[] #[]] w0 (Ret (fun v w' => v = .int .i64 r ∧ Below w0.heap.size w0 w')) := by
 unfold login_Logins_present__nil_____Logins_byPassword at hS
 have hb := flat1_fr (ρ := ρA) (w := w0) hbd
 have hz := hz.flat1
 refine calls_of_ke Tryz.func47 rfl (n := 72) rfl rfl (l := [(0, .pointer none), (1, str id_1), (2, str text_2), (3, .int .i64 now_3), (4, .int .i64 f_4), (5, .func (.func 53) #[] #[])]) rfl ?_
 refine ke_seq ?_
 refine ke_region ?_
 refine sr_ev (v := .int .i64 0) (ev_assign rfl) (by decide) ?_
 refine sr_end (l' := [(0, .pointer none), (1, str id_1), (2, str text_2), (3, .int .i64 now_3), (4, .int .i64 f_4), (5, .func (.func 53) #[] #[])]) (.cons rfl (.cons rfl (.cons rfl (.cons rfl (.cons rfl (.cons rfl (.nil _))))))) ?_
 refine ke_seq ?_
 refine ke_region ?_
 refine sr_ev (v := .pointer none) (ev_move rfl) (by decide) ?_
 refine sr_ev (v := str id_1) (ev_move rfl) (by decide) ?_
 refine sr_ev (v := .int .i64 now_3) (ev_move rfl) (by decide) ?_
 obtain ⟨y1, hy2, hS⟩ := bind_some' hS
 refine sr_call (vs := [.pointer none, str id_1, .int .i64 now_3]) rfl Tryz.call49 rfl (login_Logins_find__nil_ok _ (hg.fr hz hb) (ρA := (flat1 ρA)) hb.bd (hz.fr hg hb) hy2) (by decide) ?_
 rintro _ w3 ⟨v6, rfl, h7, hbw4⟩
 have htr5 := Tr.of_below hbw4 hb.bd
 replace hb := hb.trans htr5
 refine sr_ev (v := .tuple #[.agg #[str y1.1.user, .int .i64 y1.1.begun, v6], .int .i64 y1.2]) (ev_move rfl) (by decide) ?_
 refine sr_ev (v := .agg #[str y1.1.user, .int .i64 y1.1.begun, v6]) (ev_extract rfl rfl) (by decide) ?_
 refine sr_ev (v := .int .i64 y1.2) (ev_extract rfl rfl) (by decide) ?_
 refine sr_allocT 15 (by decide) hb.bd Tryz.zeroValue74 (by decide) ?_
 intro g8 ρ9 w10 hB12 htr11
 replace h7 := h7.mv htr11.rd
 replace hb := hb.trans htr11
 replace hB12 : Blk ρ9 15 w10 g8 (.cells #[str ([]), .int .i64 0, (.slice none 0 0)] 74 (0, 0)) := hB12
 refine sr_storeT (v := .agg #[str y1.1.user, .int .i64 y1.1.begun, v6]) (vs := [str y1.1.user, .int .i64 y1.1.begun, v6]) (cs' := #[str y1.1.user, .int .i64 y1.1.begun, v6]) hB12 (by decide) hb.bd rfl rfl rfl Tryz.sizeOf74 rfl (by first | rfl | (simp only [List.all_cons, List.all_nil, SlR.oneCell h7]; done) | (simp only [List.all_cons, List.all_nil, SlR.oneCell h7]; rfl)) rfl ?_
 intro w13 hB121 htr14
 replace h7 := h7.mv htr14.rd
 replace hb := hb.trans htr14
 replace hB12 : Blk ρ9 15 w13 g8 (.cells #[str y1.1.user, .int .i64 y1.1.begun, v6] 74 (0, 0)) := hB121
 clear hB121
 refine sr_ev (v := .int .i64 y1.2) (ev_assign rfl) (by decide) ?_
 refine sr_end (l' := [(0, .pointer none), (1, str id_1), (2, str text_2), (3, .int .i64 now_3), (4, .int .i64 f_4), (5, .func (.func 53) #[] #[]), (13, .pointer (some ⟨g8, 0, none⟩)), (14, .int .i64 y1.2)]) (.cons rfl (.cons rfl (.cons rfl (.cons rfl (.cons rfl (.cons rfl (.cons rfl (.cons rfl (.nil _))))))))) ?_
 refine ke_seq ?_
 refine ke_block ?_
 refine ke_seq ?_
 refine ke_region ?_
 refine sr_ev (v := .int .i64 y1.2) (ev_move rfl) (by decide) ?_
 refine sr_ev (v := .bool (y1.2 != 0)) (ev_ne rfl rfl) (by decide) ?_
 refine sr_ev (v := .bool (y1.2 != 0)) (ev_assign rfl) (by decide) ?_
 refine sr_end (l' := [(0, .pointer none), (1, str id_1), (2, str text_2), (3, .int .i64 now_3), (4, .int .i64 f_4), (5, .func (.func 53) #[] #[]), (13, .pointer (some ⟨g8, 0, none⟩)), (14, .int .i64 y1.2), (22, .bool (y1.2 != 0))]) (.cons rfl (.cons rfl (.cons rfl (.cons rfl (.cons rfl (.cons rfl (.cons rfl (.cons rfl (.cons rfl (.nil _)))))))))) ?_
 refine ke_cond (t := y1.2 != 0) rfl (fun hc15 => ?_) (fun hc15 => ?_)
 ·replace hS := ite_true' hS hc15
  refine ke_seq ?_
  refine ke_region ?_
  refine sr_ev (v := .int .i64 y1.2) (ev_move rfl) (by decide) ?_
  refine sr_ev (v := .int .i64 y1.2) (ev_assign rfl) (by decide) ?_
  refine sr_end (l' := [(12, .int .i64 y1.2)]) (.cons rfl (.nil _)) ?_
  cases hS
  exact ke_ret1 Tryz.func47 rfl rfl ⟨_, rfl, rfl, (hb.below (flat1_le _))⟩
 ·replace hS := ite_false' hS hc15
  refine ke_seq ?_
  refine ke_region ?_
  refine sr_ev (v := .agg #[str y1.1.user, .int .i64 y1.1.begun, v6]) (ev_loads (cs := [str y1.1.user, .int .i64 y1.1.begun, v6]) Tryz.isAgg74 Tryz.sizeOf74 rfl (hB12.cells (vs := [str y1.1.user, .int .i64 y1.1.begun, v6]) rfl)) (by decide) ?_
  refine sr_ev (v := .int .i64 f_4) (ev_move rfl) (by decide) ?_
  obtain ⟨y16, hy17, hS⟩ := bind_some' hS
  refine sr_call (vs := [.agg #[str y1.1.user, .int .i64 y1.1.begun, v6], .int .i64 f_4]) rfl Tryz.call89 rfl (login_attempt_has_ok _ (hg.fr hz hb) (ρA := ρ9) hb.bd (hz.fr hg hb) h7 hy17) (by decide) ?_
  rintro _ w18 ⟨rfl, hbw19⟩
  have htr20 := Tr.of_below hbw19 hb.bd
  replace hB12 := hB12.mv (htr20.mv (i := 15) rfl)
  replace h7 := h7.mv htr20.rd
  replace hb := hb.trans htr20
  refine sr_ev (v := .bool y16) (ev_assign rfl) (by decide) ?_
  refine sr_end (l' := [(0, .pointer none), (1, str id_1), (2, str text_2), (3, .int .i64 now_3), (4, .int .i64 f_4), (5, .func (.func 53) #[] #[]), (13, .pointer (some ⟨g8, 0, none⟩)), (26, .bool y16)]) (.cons rfl (.cons rfl (.cons rfl (.cons rfl (.cons rfl (.cons rfl (.cons rfl (.cons rfl (.nil _))))))))) ?_
  refine ke_cond (t := y16) rfl (fun hc21 => ?_) (fun hc21 => ?_)
  ·replace hS := ite_true' hS hc21
   refine ke_seq ?_
   refine ke_region ?_
   refine sr_ev (v := .int .i64 12) (ev_assign rfl) (by decide) ?_
   refine sr_end (l' := [(12, .int .i64 12)]) (.cons rfl (.nil _)) ?_
   cases hS
   exact ke_ret1 Tryz.func47 rfl rfl ⟨_, rfl, rfl, (hb.below (flat1_le _))⟩
  ·replace hS := ite_false' hS hc21
   refine ke_seq ?_
   refine ke_region_q Tryz.mixed (by kernel_rfl) ?_
   refine sq_ev (v := .pointer none) (fun w1 hw1 => ev_move rfl) (by decide) ?_
   cases hS
theorem login_Logins_Password__nil_ok (w0 : World) (hg : Gs w0) {ρA : Tags} (hbd : ∀ b, ρA b ≠ 0 → b < w0.heap.size) (hz : Gz ρA) {id_1 : Str} {password_2 : Str} {now_3 : Int} {r : Int} (hS : login_Logins_Password__nil id_1 password_2 now_3 = some r) :
  Calls Tryz.prog 19 #[.pointer none, str id_1, str password_2, .int .i64 now_3] w0 (Ret (fun v w' => v = .int .i64 r ∧ Below w0.heap.size w0 w')) := by
 unfold login_Logins_Password__nil at hS
 have hb := flat1_fr (ρ := ρA) (w := w0) hbd
 have hz := hz.flat1
 refine calls_of_ke Tryz.func19 rfl (n := 14) rfl rfl (l := [(0, .pointer none), (1, str id_1), (2, str password_2), (3, .int .i64 now_3)]) rfl ?_
 refine ke_seq ?_
 refine ke_region ?_
 refine sr_ev (v := .int .i64 0) (ev_assign rfl) (by decide) ?_
 refine sr_end (l' := [(0, .pointer none), (1, str id_1), (2, str password_2), (3, .int .i64 now_3)]) (.cons rfl (.cons rfl (.cons rfl (.cons rfl (.nil _))))) ?_
 refine ke_seq ?_
 refine ke_region ?_
 refine sr_ev (v := .pointer none) (ev_move rfl) (by decide) ?_
 refine sr_ev (v := str id_1) (ev_move rfl) (by decide) ?_
 refine sr_ev (v := str password_2) (ev_move rfl) (by decide) ?_
 refine sr_ev (v := .int .i64 now_3) (ev_move rfl) (by decide) ?_
 obtain ⟨y1, hy2, hS⟩ := bind_some' hS
 refine sr_call (vs := [.pointer none, str id_1, str password_2, .int .i64 now_3, .int .i64 1, .func (.func 53) #[] #[]]) rfl Tryz.call47 rfl (login_Logins_present__nil_____Logins_byPassword_ok _ (hg.fr hz hb) (ρA := (flat1 ρA)) hb.bd (hz.fr hg hb) hy2) (by decide) ?_
 rintro _ w3 ⟨rfl, hbw4⟩
 have htr5 := Tr.of_below hbw4 hb.bd
 replace hb := hb.trans htr5
 refine sr_ev (v := .int .i64 y1) (ev_assign rfl) (by decide) ?_
 refine sr_end (l' := [(8, .int .i64 y1)]) (.cons rfl (.nil _)) ?_
 cases hS
 exact ke_ret1 Tryz.func19 rfl rfl ⟨_, rfl, rfl, (hb.below (flat1_le _))⟩
theorem login_Logins_present__nil_____Logins_byCode_ok (w0 : World) (hg : Gs w0) {ρA : Tags} (hbd : ∀ b, ρA b ≠ 0 → b < w0.heap.size) (hz : Gz ρA) {id_1 : Str} {text_2 : Str} {now_3 : Int} {f_4 : Int} {r : Int} (hS : login_Logins_present__nil_____Logins_byCode id_1 text_2 now_3 f_4 = some r) :
  Calls Tryz.prog 47 #[.pointer none, str id_1, str text_2, .int .i64 now_3, .int .i64 f_4, .func (.func 48) #[] #[]] w0 (Ret (fun v w' => v = .int .i64 r ∧ Below w0.heap.size w0 w')) := by
 unfold login_Logins_present__nil_____Logins_byCode at hS
 have hb := flat1_fr (ρ := ρA) (w := w0) hbd
 have hz := hz.flat1
 refine calls_of_ke Tryz.func47 rfl (n := 72) rfl rfl (l := [(0, .pointer none), (1, str id_1), (2, str text_2), (3, .int .i64 now_3), (4, .int .i64 f_4), (5, .func (.func 48) #[] #[])]) rfl ?_
 refine ke_seq ?_
 refine ke_region ?_
 refine sr_ev (v := .int .i64 0) (ev_assign rfl) (by decide) ?_
 refine sr_end (l' := [(0, .pointer none), (1, str id_1), (2, str text_2), (3, .int .i64 now_3), (4, .int .i64 f_4), (5, .func (.func 48) #[] #[])]) (.cons rfl (.cons rfl (.cons rfl (.cons rfl (.cons rfl (.cons rfl (.nil _))))))) ?_
 refine ke_seq ?_
 refine ke_region ?_
 refine sr_ev (v := .pointer none) (ev_move rfl) (by decide) ?_
 refine sr_ev (v := str id_1) (ev_move rfl) (by decide) ?_
 refine sr_ev (v := .int .i64 now_3) (ev_move rfl) (by decide) ?_
 obtain ⟨y1, hy2, hS⟩ := bind_some' hS
 refine sr_call (vs := [.pointer none, str id_1, .int .i64 now_3]) rfl Tryz.call49 rfl (login_Logins_find__nil_ok _ (hg.fr hz hb) (ρA := (flat1 ρA)) hb.bd (hz.fr hg hb) hy2) (by decide) ?_
 rintro _ w3 ⟨v6, rfl, h7, hbw4⟩
 have htr5 := Tr.of_below hbw4 hb.bd
 replace hb := hb.trans htr5
 refine sr_ev (v := .tuple #[.agg #[str y1.1.user, .int .i64 y1.1.begun, v6], .int .i64 y1.2]) (ev_move rfl) (by decide) ?_
 refine sr_ev (v := .agg #[str y1.1.user, .int .i64 y1.1.begun, v6]) (ev_extract rfl rfl) (by decide) ?_
 refine sr_ev (v := .int .i64 y1.2) (ev_extract rfl rfl) (by decide) ?_
 refine sr_allocT 15 (by decide) hb.bd Tryz.zeroValue74 (by decide) ?_
 intro g8 ρ9 w10 hB12 htr11
 replace h7 := h7.mv htr11.rd
 replace hb := hb.trans htr11
 replace hB12 : Blk ρ9 15 w10 g8 (.cells #[str ([]), .int .i64 0, (.slice none 0 0)] 74 (0, 0)) := hB12
 refine sr_storeT (v := .agg #[str y1.1.user, .int .i64 y1.1.begun, v6]) (vs := [str y1.1.user, .int .i64 y1.1.begun, v6]) (cs' := #[str y1.1.user, .int .i64 y1.1.begun, v6]) hB12 (by decide) hb.bd rfl rfl rfl Tryz.sizeOf74 rfl (by first | rfl | (simp only [List.all_cons, List.all_nil, SlR.oneCell h7]; done) | (simp only [List.all_cons, List.all_nil, SlR.oneCell h7]; rfl)) rfl ?_
 intro w13 hB121 htr14
 replace h7 := h7.mv htr14.rd
 replace hb := hb.trans htr14
 replace hB12 : Blk ρ9 15 w13 g8 (.cells #[str y1.1.user, .int .i64 y1.1.begun, v6] 74 (0, 0)) := hB121
 clear hB121
 refine sr_ev (v := .int .i64 y1.2) (ev_assign rfl) (by decide) ?_
 refine sr_end (l' := [(0, .pointer none), (1, str id_1), (2, str text_2), (3, .int .i64 now_3), (4, .int .i64 f_4), (5, .func (.func 48) #[] #[]), (13, .pointer (some ⟨g8, 0, none⟩)), (14, .int .i64 y1.2)]) (.cons rfl (.cons rfl (.cons rfl (.cons rfl (.cons rfl (.cons rfl (.cons rfl (.cons rfl (.nil _))))))))) ?_
 refine ke_seq ?_
 refine ke_block ?_
 refine ke_seq ?_
 refine ke_region ?_
 refine sr_ev (v := .int .i64 y1.2) (ev_move rfl) (by decide) ?_
 refine sr_ev (v := .bool (y1.2 != 0)) (ev_ne rfl rfl) (by decide) ?_
 refine sr_ev (v := .bool (y1.2 != 0)) (ev_assign rfl) (by decide) ?_
 refine sr_end (l' := [(0, .pointer none), (1, str id_1), (2, str text_2), (3, .int .i64 now_3), (4, .int .i64 f_4), (5, .func (.func 48) #[] #[]), (13, .pointer (some ⟨g8, 0, none⟩)), (14, .int .i64 y1.2), (22, .bool (y1.2 != 0))]) (.cons rfl (.cons rfl (.cons rfl (.cons rfl (.cons rfl (.cons rfl (.cons rfl (.cons rfl (.cons rfl (.nil _)))))))))) ?_
 refine ke_cond (t := y1.2 != 0) rfl (fun hc15 => ?_) (fun hc15 => ?_)
 ·replace hS := ite_true' hS hc15
  refine ke_seq ?_
  refine ke_region ?_
  refine sr_ev (v := .int .i64 y1.2) (ev_move rfl) (by decide) ?_
  refine sr_ev (v := .int .i64 y1.2) (ev_assign rfl) (by decide) ?_
  refine sr_end (l' := [(12, .int .i64 y1.2)]) (.cons rfl (.nil _)) ?_
  cases hS
  exact ke_ret1 Tryz.func47 rfl rfl ⟨_, rfl, rfl, (hb.below (flat1_le _))⟩
 ·replace hS := ite_false' hS hc15
  refine ke_seq ?_
  refine ke_region ?_
  refine sr_ev (v := .agg #[str y1.1.user, .int .i64 y1.1.begun, v6]) (ev_loads (cs := [str y1.1.user, .int .i64 y1.1.begun, v6]) Tryz.isAgg74 Tryz.sizeOf74 rfl (hB12.cells (vs := [str y1.1.user, .int .i64 y1.1.begun, v6]) rfl)) (by decide) ?_
  refine sr_ev (v := .int .i64 f_4) (ev_move rfl) (by decide) ?_
  obtain ⟨y16, hy17, hS⟩ := bind_some' hS
  refine sr_call (vs := [.agg #[str y1.1.user, .int .i64 y1.1.begun, v6], .int .i64 f_4]) rfl Tryz.call89 rfl (login_attempt_has_ok _ (hg.fr hz hb) (ρA := ρ9) hb.bd (hz.fr hg hb) h7 hy17) (by decide) ?_
  rintro _ w18 ⟨rfl, hbw19⟩
  have htr20 := Tr.of_below hbw19 hb.bd
  replace hB12 := hB12.mv (htr20.mv (i := 15) rfl)
  replace h7 := h7.mv htr20.rd
  replace hb := hb.trans htr20
  refine sr_ev (v := .bool y16) (ev_assign rfl) (by decide) ?_
  refine sr_end (l' := [(0, .pointer none), (1, str id_1), (2, str text_2), (3, .int .i64 now_3), (4, .int .i64 f_4), (5, .func (.func 48) #[] #[]), (13, .pointer (some ⟨g8, 0, none⟩)), (26, .bool y16)]) (.cons rfl (.cons rfl (.cons rfl (.cons rfl (.cons rfl (.cons rfl (.cons rfl (.cons rfl (.nil _))))))))) ?_
  refine ke_cond (t := y16) rfl (fun hc21 => ?_) (fun hc21 => ?_)
  ·replace hS := ite_true' hS hc21
   refine ke_seq ?_
   refine ke_region ?_
   refine sr_ev (v := .int .i64 12) (ev_assign rfl) (by decide) ?_
   refine sr_end (l' := [(12, .int .i64 12)]) (.cons rfl (.nil _)) ?_
   cases hS
   exact ke_ret1 Tryz.func47 rfl rfl ⟨_, rfl, rfl, (hb.below (flat1_le _))⟩
  ·replace hS := ite_false' hS hc21
   refine ke_seq ?_
   refine ke_region_q Tryz.mixed (by kernel_rfl) ?_
   refine sq_ev (v := .pointer none) (fun w1 hw1 => ev_move rfl) (by decide) ?_
   cases hS
theorem login_Logins_Code__nil_ok (w0 : World) (hg : Gs w0) {ρA : Tags} (hbd : ∀ b, ρA b ≠ 0 → b < w0.heap.size) (hz : Gz ρA) {id_1 : Str} {code_2 : Str} {now_3 : Int} {r : Int} (hS : login_Logins_Code__nil id_1 code_2 now_3 = some r) :
  Calls Tryz.prog 15 #[.pointer none, str id_1, str code_2, .int .i64 now_3] w0 (Ret (fun v w' => v = .int .i64 r ∧ Below w0.heap.size w0 w')) := by
 unfold login_Logins_Code__nil at hS
 have hb := flat1_fr (ρ := ρA) (w := w0) hbd
 have hz := hz.flat1
 refine calls_of_ke Tryz.func15 rfl (n := 14) rfl rfl (l := [(0, .pointer none), (1, str id_1), (2, str code_2), (3, .int .i64 now_3)]) rfl ?_
 refine ke_seq ?_
 refine ke_region ?_
 refine sr_ev (v := .int .i64 0) (ev_assign rfl) (by decide) ?_
 refine sr_end (l' := [(0, .pointer none), (1, str id_1), (2, str code_2), (3, .int .i64 now_3)]) (.cons rfl (.cons rfl (.cons rfl (.cons rfl (.nil _))))) ?_
 refine ke_seq ?_
 refine ke_region ?_
 refine sr_ev (v := .pointer none) (ev_move rfl) (by decide) ?_
 refine sr_ev (v := str id_1) (ev_move rfl) (by decide) ?_
 refine sr_ev (v := str code_2) (ev_move rfl) (by decide) ?_
 refine sr_ev (v := .int .i64 now_3) (ev_move rfl) (by decide) ?_
 obtain ⟨y1, hy2, hS⟩ := bind_some' hS
 refine sr_call (vs := [.pointer none, str id_1, str code_2, .int .i64 now_3, .int .i64 2, .func (.func 48) #[] #[]]) rfl Tryz.call47 rfl (login_Logins_present__nil_____Logins_byCode_ok _ (hg.fr hz hb) (ρA := (flat1 ρA)) hb.bd (hz.fr hg hb) hy2) (by decide) ?_
 rintro _ w3 ⟨rfl, hbw4⟩
 have htr5 := Tr.of_below hbw4 hb.bd
 replace hb := hb.trans htr5
 refine sr_ev (v := .int .i64 y1) (ev_assign rfl) (by decide) ?_
 refine sr_end (l' := [(8, .int .i64 y1)]) (.cons rfl (.nil _)) ?_
 cases hS
 exact ke_ret1 Tryz.func15 rfl rfl ⟨_, rfl, rfl, (hb.below (flat1_le _))⟩
theorem login_Logins_Locked__nil_ok (w0 : World) (hg : Gs w0) {ρA : Tags} (hbd : ∀ b, ρA b ≠ 0 → b < w0.heap.size) (hz : Gz ρA) {user_1 : Str} {now_2 : Int} {r : Bool} (hS : login_Logins_Locked__nil user_1 now_2 = some r) :
  Calls Tryz.prog 22 #[.pointer none, str user_1, .int .i64 now_2] w0 (Ret (fun v w' => v = .bool r ∧ Below w0.heap.size w0 w')) := by
 unfold login_Logins_Locked__nil at hS
 have hb := flat1_fr (ρ := ρA) (w := w0) hbd
 have hz := hz.flat1
 refine calls_of_ke Tryz.func22 rfl (n := 18) rfl rfl (l := [(0, .pointer none), (1, str user_1), (2, .int .i64 now_2)]) rfl ?_
 refine ke_seq ?_
 refine ke_region ?_
 refine sr_ev (v := .bool false) (ev_assign rfl) (by decide) ?_
 refine sr_end (l' := [(0, .pointer none), (1, str user_1), (2, .int .i64 now_2)]) (.cons rfl (.cons rfl (.cons rfl (.nil _)))) ?_
 refine ke_seq ?_
 refine ke_region ?_
 refine sr_ev (v := .pointer none) (ev_move rfl) (by decide) ?_
 obtain ⟨y1, hy2, hS⟩ := bind_some' hS
 obtain rfl : y1 = false := (Option.some.inj hy2).symm
 refine sr_call (vs := [.pointer none]) rfl Tryz.call42 rfl (login_Logins_ready__nil_ok _ (hg.fr hz hb) (ρA := (flat1 ρA)) hb.bd (hz.fr hg hb) hy2) (by decide) ?_
 rintro _ w3 ⟨rfl, hbw4⟩
 have htr5 := Tr.of_below hbw4 hb.bd
 replace hb := hb.trans htr5
 refine sr_ev (v := .bool false) (ev_move rfl) (by decide) ?_
 refine sr_pass (e := 9) rfl rfl rfl (by decide) ?_
 refine sr_pass (e := 9) rfl rfl rfl (by decide) ?_
 refine sr_pass (e := 9) rfl rfl rfl (by decide) ?_
 refine sr_pass (e := 9) rfl rfl rfl (by decide) ?_
 refine sr_pass (e := 9) rfl rfl rfl (by decide) ?_
 refine sr_pass (e := 9) rfl rfl rfl (by decide) ?_
 refine sr_pass (e := 9) rfl rfl rfl (by decide) ?_
 refine sr_ev (v := .bool false) (ev_pick_f rfl rfl rfl) (by decide) ?_
 refine sr_ev (v := .bool false) (ev_assign rfl) (by decide) ?_
 refine sr_end (l' := [(6, .bool false)]) (.cons rfl (.nil _)) ?_
 cases hS
 exact ke_ret1 Tryz.func22 rfl rfl ⟨_, rfl, rfl, (hb.below (flat1_le _))⟩
theorem login_Logins_Drop__nil_ok (w0 : World) (hg : Gs w0) {ρA : Tags} (hbd : ∀ b, ρA b ≠ 0 → b < w0.heap.size) (hz : Gz ρA) {user_1 : Str} {r : Bool} (hS : login_Logins_Drop__nil user_1 = some r) :
  Calls Tryz.prog 35 #[.pointer none, str user_1] w0 (Ret (fun v w' => v = .bool r ∧ Below w0.heap.size w0 w')) := by
 unfold login_Logins_Drop__nil at hS
 have hb := flat1_fr (ρ := ρA) (w := w0) hbd
 have hz := hz.flat1
 refine calls_of_ke Tryz.func35 rfl (n := 42) rfl rfl (l := [(0, .pointer none), (1, str user_1)]) rfl ?_
 refine ke_seq ?_
 refine ke_region ?_
 refine sr_boxT 5 (by decide) hb.bd rfl (by decide) ?_
 intro g1 ρ2 w3 hB5 htr4
 replace hb := hb.trans htr4
 replace hB5 : Blk ρ2 5 w3 g1 (.cells #[str user_1] 9 (0, 0)) := hB5
 refine sr_ev (v := .bool false) (ev_assign rfl) (by decide) ?_
 refine sr_end (l' := [(0, .pointer none), (3, .pointer (some ⟨g1, 0, none⟩))]) (.cons rfl (.cons rfl (.nil _))) ?_
 refine ke_seq ?_
 refine ke_seq ?_
 refine ke_region ?_
 refine sr_ev (v := .pointer none) (ev_move rfl) (by decide) ?_
 obtain ⟨y6, hy7, hS⟩ := bind_some' hS
 obtain rfl : y6 = false := (Option.some.inj hy7).symm
 refine sr_call (vs := [.pointer none]) rfl Tryz.call42 rfl (login_Logins_ready__nil_ok _ (hg.fr hz hb) (ρA := ρ2) hb.bd (hz.fr hg hb) hy7) (by decide) ?_
 rintro _ w8 ⟨rfl, hbw9⟩
 have htr10 := Tr.of_below hbw9 hb.bd
 replace hB5 := hB5.mv (htr10.mv (i := 5) rfl)
 replace hb := hb.trans htr10
 refine sr_ev (v := .bool true) (ev_notc rfl rfl) (by decide) ?_
 refine sr_end (l' := [(0, .pointer none), (3, .pointer (some ⟨g1, 0, none⟩)), (9, .bool true)]) (.cons rfl (.cons rfl (.cons rfl (.nil _)))) ?_
 refine ke_cond (t := true) rfl (fun _ => ?_) (fun h => by cases h)
 refine ke_seq ?_
 refine ke_region ?_
 refine sr_ev (v := .bool false) (ev_assign rfl) (by decide) ?_
 refine sr_end (l' := [(4, .bool false)]) (.cons rfl (.nil _)) ?_
 cases hS
 exact ke_ret1 Tryz.func35 rfl rfl ⟨_, rfl, rfl, (hb.below (flat1_le _))⟩
theorem login_Logins_Open__nil_ok (w0 : World) (hg : Gs w0) {ρA : Tags} (hbd : ∀ b, ρA b ≠ 0 → b < w0.heap.size) (hz : Gz ρA) {now_1 : Int} {r : Int} (hS : login_Logins_Open__nil now_1 = some r) :
  Calls Tryz.prog 37 #[.pointer none, .int .i64 now_1] w0 (Ret (fun v w' => v = .int .i64 r ∧ Below w0.heap.size w0 w')) := by
 unfold login_Logins_Open__nil at hS
 have hb := flat1_fr (ρ := ρA) (w := w0) hbd
 have hz := hz.flat1
 refine calls_of_ke Tryz.func37 rfl (n := 27) rfl rfl (l := [(0, .pointer none), (1, .int .i64 now_1)]) rfl ?_
 refine ke_seq ?_
 refine ke_region ?_
 refine sr_ev (v := .int .i64 0) (ev_assign rfl) (by decide) ?_
 refine sr_end (l' := [(0, .pointer none), (1, .int .i64 now_1)]) (.cons rfl (.cons rfl (.nil _))) ?_
 refine ke_seq ?_
 refine ke_seq ?_
 refine ke_region ?_
 refine sr_ev (v := .pointer none) (ev_move rfl) (by decide) ?_
 obtain ⟨y1, hy2, hS⟩ := bind_some' hS
 obtain rfl : y1 = false := (Option.some.inj hy2).symm
 refine sr_call (vs := [.pointer none]) rfl Tryz.call42 rfl (login_Logins_ready__nil_ok _ (hg.fr hz hb) (ρA := (flat1 ρA)) hb.bd (hz.fr hg hb) hy2) (by decide) ?_
 rintro _ w3 ⟨rfl, hbw4⟩
 have htr5 := Tr.of_below hbw4 hb.bd
 replace hb := hb.trans htr5
 refine sr_ev (v := .bool true) (ev_notc rfl rfl) (by decide) ?_
 refine sr_end (l' := [(0, .pointer none), (1, .int .i64 now_1), (10, .bool true)]) (.cons rfl (.cons rfl (.cons rfl (.nil _)))) ?_
 refine ke_cond (t := true) rfl (fun _ => ?_) (fun h => by cases h)
 refine ke_seq ?_
 refine ke_region ?_
 refine sr_ev (v := .int .i64 0) (ev_assign rfl) (by decide) ?_
 refine sr_end (l' := [(4, .int .i64 0)]) (.cons rfl (.nil _)) ?_
 cases hS
 exact ke_ret1 Tryz.func37 rfl rfl ⟨_, rfl, rfl, (hb.below (flat1_le _))⟩
theorem law39_LoginNil_ok (w0 : World) (hg : Gs w0) {ρA : Tags} (hbd : ∀ b, ρA b ≠ 0 → b < w0.heap.size) (hz : Gz ρA) {o_0 : law39_Op} {r : Bool} (hS : law39_LoginNil o_0 = some r) :
  Calls Tryz.prog 8 #[.agg #[.int .i64 o_0.Kind, str o_0.ID, str o_0.User, str o_0.Word, str o_0.Code, str o_0.S, .int .i64 o_0.Level, .int .i64 o_0.Rounds, .int .i64 o_0.Now]] w0 (Ret (fun v w' => v = .bool r ∧ Below w0.heap.size w0 w')) := by
 unfold law39_LoginNil at hS
 have hb := flat1_fr (ρ := ρA) (w := w0) hbd
 have hz := hz.flat1
 refine calls_of_ke Tryz.func8 rfl (n := 109) rfl rfl (l := [(0, .agg #[.int .i64 o_0.Kind, str o_0.ID, str o_0.User, str o_0.Word, str o_0.Code, str o_0.S, .int .i64 o_0.Level, .int .i64 o_0.Rounds, .int .i64 o_0.Now])]) rfl ?_
 refine ke_seq ?_
 refine ke_region ?_
 refine sr_boxT 3 (by decide) hb.bd rfl (by decide) ?_
 intro g1 ρ2 w3 hB5 htr4
 replace hb := hb.trans htr4
 replace hB5 : Blk ρ2 3 w3 g1 (.cells #[.int .i64 o_0.Kind, str o_0.ID, str o_0.User, str o_0.Word, str o_0.Code, str o_0.S, .int .i64 o_0.Level, .int .i64 o_0.Rounds, .int .i64 o_0.Now] 33 (0, 0)) := hB5
 refine sr_ev (v := .bool false) (ev_assign rfl) (by decide) ?_
 refine sr_end (l' := [(1, .pointer (some ⟨g1, 0, none⟩))]) (.cons rfl (.nil _)) ?_
 refine ke_seq ?_
 refine ke_seq ?_
 refine ke_region ?_
 refine sr_ev (v := .agg #[.int .i64 o_0.Kind, str o_0.ID, str o_0.User, str o_0.Word, str o_0.Code, str o_0.S, .int .i64 o_0.Level, .int .i64 o_0.Rounds, .int .i64 o_0.Now]) (ev_loads (cs := [.int .i64 o_0.Kind, str o_0.ID, str o_0.User, str o_0.Word, str o_0.Code, str o_0.S, .int .i64 o_0.Level, .int .i64 o_0.Rounds, .int .i64 o_0.Now]) Tryz.isAgg33 Tryz.sizeOf33 rfl (hB5.cells (vs := [.int .i64 o_0.Kind, str o_0.ID, str o_0.User, str o_0.Word, str o_0.Code, str o_0.S, .int .i64 o_0.Level, .int .i64 o_0.Rounds, .int .i64 o_0.Now]) rfl)) (by decide) ?_
 refine sr_litT (c := law39_Op.c) (ρ := ρ2) (E := 33) (xs := [o_0]) (vs := #[(0, .agg #[.int .i64 o_0.Kind, str o_0.ID, str o_0.User, str o_0.Word, str o_0.Code, str o_0.S, .int .i64 o_0.Level, .int .i64 o_0.Rounds, .int .i64 o_0.Now])]) (cs := #[.int .i64 o_0.Kind, str o_0.ID, str o_0.User, str o_0.Word, str o_0.Code, str o_0.S, .int .i64 o_0.Level, .int .i64 o_0.Rounds, .int .i64 o_0.Now]) (css := [[.int .i64 o_0.Kind, str o_0.ID, str o_0.User, str o_0.Word, str o_0.Code, str o_0.S, .int .i64 o_0.Level, .int .i64 o_0.Rounds, .int .i64 o_0.Now]]) rfl (fun _ => by kernel_rfl) rfl ⟨rfl, trivial⟩ rfl (by decide) hb.bd (by decide) ?_
 intro v6 w8 h7 hbw10
 have htr9 := Tr.of_below hbw10 hb.bd
 replace hB5 := hB5.mv (htr9.mv (i := 3) rfl)
 replace hb := hb.trans htr9
 obtain ⟨y11, hy12, hS⟩ := bind_some' hS
 refine sr_call (vs := [v6]) rfl Tryz.call9 rfl (law39_few_ok _ (hg.fr hz hb) h7.asSl hy12) (by decide) ?_
 rintro _ w13 ⟨rfl, hbw14⟩
 have htr15 := Tr.of_below hbw14 hb.bd
 replace hB5 := hB5.mv (htr15.mv (i := 3) rfl)
 replace hb := hb.trans htr15
 refine sr_ev (v := .bool (!y11)) (ev_not rfl) (by decide) ?_
 refine sr_end (l' := [(1, .pointer (some ⟨g1, 0, none⟩)), (12, .bool (!y11))]) (.cons rfl (.cons rfl (.nil _))) ?_
 refine ke_cond (t := !y11) rfl (fun hc16 => ?_) (fun hc16 => ?_)
 ·replace hS := ite_true' hS hc16
  refine ke_seq ?_
  refine ke_region ?_
  obtain ⟨y17, hy18, hS⟩ := bind_some' hS
  refine sr_call (vs := []) rfl Tryz.call10 rfl (law39_alive_ok _ (hg.fr hz hb) (ρA := ρ2) hb.bd (hz.fr hg hb) hy18) (by decide) ?_
  rintro _ w19 ⟨rfl, hbw20⟩
  have htr21 := Tr.of_below hbw20 hb.bd
  replace hb := hb.trans htr21
  refine sr_ev (v := .bool y17) (ev_assign rfl) (by decide) ?_
  refine sr_end (l' := [(2, .bool y17)]) (.cons rfl (.nil _)) ?_
  cases hS
  exact ke_ret1 Tryz.func8 rfl rfl ⟨_, rfl, rfl, (hb.below (flat1_le _))⟩
 ·replace hS := ite_false' hS hc16
  refine ke_skip ?_
  refine ke_seq ?_
  refine ke_region ?_
  refine sr_ev (v := .pointer none) (ev_assign rfl) (by decide) ?_
  refine sr_end (l' := [(1, .pointer (some ⟨g1, 0, none⟩)), (3, .pointer none)]) (.cons rfl (.cons rfl (.nil _))) ?_
  refine ke_seq ?_
  refine ke_seq ?_
  refine ke_region ?_
  refine sr_ev (v := .pointer none) (ev_move rfl) (by decide) ?_
  refine sr_ev (v := .agg #[.pointer none, (.map none), (.map none), (.map none)]) (ev_build (vs := #[]) rfl (fun _ => by kernel_rfl)) (by decide) ?_
  refine sr_boxT 100 (by decide) hb.bd rfl (by decide) ?_
  intro g22 ρ23 w24 hB26 htr25
  replace hB5 := hB5.mv (htr25.mv (i := 3) rfl)
  replace hb := hb.trans htr25
  replace hB26 : Blk ρ23 100 w24 g22 (.cells #[.pointer none, (.map none), (.map none), (.map none)] 69 (0, 0)) := hB26
  refine sr_litT (c := ptrC) (ρ := ρ23) (E := 25) (xs := ([none, some g22] : List (Option Nat))) (vs := #[(0, .pointer none), (1, .pointer (some ⟨g22, 0, none⟩))]) (cs := #[.pointer none, .pointer (some ⟨g22, 0, none⟩)]) (css := [[.pointer none], [.pointer (some ⟨g22, 0, none⟩)]]) rfl (fun _ => by kernel_rfl) rfl ⟨rfl, ⟨rfl, trivial⟩⟩ rfl (by decide) hb.bd (by decide) ?_
  intro v27 w29 h28 hbw31
  have htr30 := Tr.of_below hbw31 hb.bd
  replace hB26 := hB26.mv (htr30.mv (i := 100) rfl)
  replace hB5 := hB5.mv (htr30.mv (i := 3) rfl)
  replace hb := hb.trans htr30
  refine sr_ev (v := .int .i64 2) (ev_sllenW Tryz.underlying70 rfl h28.asSl) (by decide) ?_
  refine sr_ev (v := .int .i64 0) (ev_move rfl) (by decide) ?_
  refine sr_end (l' := [(1, .pointer (some ⟨g1, 0, none⟩)), (17, v27), (18, .int .i64 2), (19, .int .i64 0)]) (.cons rfl (.cons rfl (.cons rfl (.cons rfl (.nil _))))) ?_
  refine ke_block ?_
  refine ke_loop ?_
  refine ke_seq ?_
  refine ke_region ?_
  refine sr_ev (v := .bool true) (ev_ltc rfl rfl (by decide)) (by decide) ?_
  refine sr_end (l' := [(1, .pointer (some ⟨g1, 0, none⟩)), (17, v27), (18, .int .i64 2), (19, .int .i64 0), (20, .bool true)]) (.cons rfl (.cons rfl (.cons rfl (.cons rfl (.cons rfl (.nil _)))))) ?_
  refine ke_seq ?_
  refine ke_cond (t := true) rfl (fun _ => ?_) (fun h => by cases h)
  refine ke_skip ?_
  refine ke_seq ?_
  refine ke_block ?_
  refine ke_seq ?_
  refine ke_region ?_
  obtain ⟨b32, o33, cs35, hq36, he34⟩ := ((SlT.of_sl (i := 0) h28)).elem (P := Tryz.prog) (z := none) (q := 0) Tryz.underlying70 Tryz.info25 rfl rfl
  obtain rfl : cs35 = [.pointer none] := he34.rd
  refine sr_ev (v := .pointer (some ⟨b32, o33, none⟩)) (hq36 w29 rfl rfl) (by decide) ?_
  refine sr_ev (v := .pointer none) (ev_load Tryz.isAgg25 rfl (he34.cell 0 _ rfl)) (by decide) ?_
  refine sr_ev (v := .pointer none) (ev_assign rfl) (by decide) ?_
  refine sr_end (l' := [(1, .pointer (some ⟨g1, 0, none⟩)), (5, .pointer none), (17, v27), (18, .int .i64 2), (19, .int .i64 0)]) (.cons rfl (.cons rfl (.cons rfl (.cons rfl (.cons rfl (.nil _)))))) ?_
  refine ke_seq ?_
  refine ke_region ?_
  refine sr_ev (v := .pointer none) (ev_move rfl) (by decide) ?_
  refine sr_ev (v := .pointer (some ⟨g1, 1, none⟩)) (ev_fieldAddr (i := 1) Tryz.underlying33 rfl Tryz.info9 rfl rfl) (by decide) ?_
  refine sr_ev (v := str o_0.ID) (ev_load Tryz.isAgg9 rfl (hB5.cell rfl)) (by decide) ?_
  refine sr_ev (v := .pointer (some ⟨g1, 6, none⟩)) (ev_fieldAddr (i := 6) Tryz.underlying33 rfl Tryz.info3 rfl rfl) (by decide) ?_
  refine sr_ev (v := .int .i64 o_0.Level) (ev_load Tryz.isAgg3 rfl (hB5.cell rfl)) (by decide) ?_
  refine sr_ev (v := .pointer (some ⟨g1, 8, none⟩)) (ev_fieldAddr (i := 8) Tryz.underlying33 rfl Tryz.info3 rfl rfl) (by decide) ?_
  refine sr_ev (v := .int .i64 o_0.Now) (ev_load Tryz.isAgg3 rfl (hB5.cell rfl)) (by decide) ?_
  obtain ⟨y37, hy38, hS⟩ := bind_some' hS
  refine sr_call (vs := [.pointer none, str o_0.ID, .int .i64 o_0.Level, .int .i64 o_0.Now]) rfl Tryz.call17 rfl (login_Logins_Finish__nil_ok _ (hg.fr hz hb) (ρA := ρ23) hb.bd (hz.fr hg hb) hy38) (by decide) ?_
  rintro _ w39 ⟨v42, rfl, h43, hbw40⟩
  have htr41 := Tr.of_below hbw40 hb.bd
  replace h28 := h28.mv htr41.rd
  replace hB26 := hB26.mv (htr41.mv (i := 100) rfl)
  replace hB5 := hB5.mv (htr41.mv (i := 3) rfl)
  replace hb := hb.trans htr41
  refine sr_ev (v := .tuple #[str y37.1, v42, .int .i64 y37.2.2]) (ev_move rfl) (by decide) ?_
  refine sr_ev (v := str y37.1) (ev_extract rfl rfl) (by decide) ?_
  refine sr_ev (v := v42) (ev_extract rfl rfl) (by decide) ?_
  refine sr_ev (v := .int .i64 y37.2.2) (ev_extract rfl rfl) (by decide) ?_
  refine sr_ev (v := str y37.1) (ev_assign rfl) (by decide) ?_
  refine sr_ev (v := v42) (ev_assign rfl) (by decide) ?_
  refine sr_ev (v := .int .i64 y37.2.2) (ev_assign rfl) (by decide) ?_
  refine sr_end (l' := [(1, .pointer (some ⟨g1, 0, none⟩)), (5, .pointer none), (7, v42), (8, .int .i64 y37.2.2), (17, v27), (18, .int .i64 2), (19, .int .i64 0)]) (.cons rfl (.cons rfl (.cons rfl (.cons rfl (.cons rfl (.cons rfl (.cons rfl (.nil _)))))))) ?_
  refine ke_seq ?_
  refine ke_region_j (ρ := ρ23) (fun _ => false) 72 Tryz.mixed (fun w45 hw44 => ?_)
  have htr46 := Tr.of_below hw44 hb.bd
  replace h28 := h28.mv htr46.rd
  replace h43 := h43.mv htr46.rd
  replace hB26 := hB26.mv (htr46.mv (i := 100) rfl)
  replace hB5 := hB5.mv (htr46.mv (i := 3) rfl)
  replace hb := hb.trans htr46
  refine dj_h 0 (.int .i64 y37.2.2) hb.bd rfl (fun w1 ρ1 hw1 => ev_move rfl) ?_
  refine dj_h 1 (.bool (y37.2.2 != 1)) hb.bd rfl (fun w1 ρ1 hw1 => ev_ne rfl rfl) ?_
  refine dj_h 2 (.bool (y37.2.2 != 1)) hb.bd rfl (fun w1 ρ1 hw1 => ev_move rfl) ?_
  rcases Bool.eq_false_or_eq_true (y37.2.2 != 1) with hg160 | hg160
  ·replace hS := ite_true' hS hg160
   refine dj_p 3 37 hb.bd rfl rfl rfl rfl rfl (by rw [hg160]; rfl) ?_
   refine dj_p 4 37 hb.bd rfl rfl rfl rfl rfl (by rw [hg160]; rfl) ?_
   refine dj_p 5 37 hb.bd rfl rfl rfl rfl rfl (by rw [hg160]; rfl) ?_
   refine dj_h 6 (.bool true) hb.bd rfl (fun w1 ρ1 hw1 => ev_pick_t rfl hg160 rfl) ?_
   refine dj_h 7 (.bool true) hb.bd rfl (fun w1 ρ1 hw1 => ev_move rfl) ?_
   refine dj_p 8 42 hb.bd rfl rfl rfl rfl rfl rfl ?_
   refine dj_p 9 42 hb.bd rfl rfl rfl rfl rfl rfl ?_
   refine dj_p 10 42 hb.bd rfl rfl rfl rfl rfl rfl ?_
   refine dj_p 11 42 hb.bd rfl rfl rfl rfl rfl rfl ?_
   refine dj_p 12 42 hb.bd rfl rfl rfl rfl rfl rfl ?_
   refine dj_p 13 42 hb.bd rfl rfl rfl rfl rfl rfl ?_
   refine dj_p 14 42 hb.bd rfl rfl rfl rfl rfl rfl ?_
   refine dj_p 15 42 hb.bd rfl rfl rfl rfl rfl rfl ?_
   refine dj_p 16 42 hb.bd rfl rfl rfl rfl rfl rfl ?_
   refine dj_h 17 (.bool true) hb.bd rfl (fun w1 ρ1 hw1 => ev_pick_t rfl rfl rfl) ?_
   refine dj_h 18 (.bool true) hb.bd rfl (fun w1 ρ1 hw1 => ev_move rfl) ?_
   refine dj_p 19 53 hb.bd rfl rfl rfl rfl rfl rfl ?_
   refine dj_p 20 53 hb.bd rfl rfl rfl rfl rfl rfl ?_
   refine dj_p 21 53 hb.bd rfl rfl rfl rfl rfl rfl ?_
   refine dj_p 22 53 hb.bd rfl rfl rfl rfl rfl rfl ?_
   refine dj_p 23 53 hb.bd rfl rfl rfl rfl rfl rfl ?_
   refine dj_p 24 53 hb.bd rfl rfl rfl rfl rfl rfl ?_
   refine dj_p 25 53 hb.bd rfl rfl rfl rfl rfl rfl ?_
   refine dj_p 26 53 hb.bd rfl rfl rfl rfl rfl rfl ?_
   refine dj_p 27 53 hb.bd rfl rfl rfl rfl rfl rfl ?_
   refine dj_h 28 (.bool true) hb.bd rfl (fun w1 ρ1 hw1 => ev_pick_t rfl rfl rfl) ?_
   refine dj_h 29 (.bool true) hb.bd rfl (fun w1 ρ1 hw1 => ev_move rfl) ?_
   refine dj_p 30 64 hb.bd rfl rfl rfl rfl rfl rfl ?_
   refine dj_p 31 64 hb.bd rfl rfl rfl rfl rfl rfl ?_
   refine dj_p 32 64 hb.bd rfl rfl rfl rfl rfl rfl ?_
   refine dj_p 33 64 hb.bd rfl rfl rfl rfl rfl rfl ?_
   refine dj_p 34 64 hb.bd rfl rfl rfl rfl rfl rfl ?_
   refine dj_p 35 64 hb.bd rfl rfl rfl rfl rfl rfl ?_
   refine dj_p 36 64 hb.bd rfl rfl rfl rfl rfl rfl ?_
   refine dj_p 37 64 hb.bd rfl rfl rfl rfl rfl rfl ?_
   refine dj_p 38 64 hb.bd rfl rfl rfl rfl rfl rfl ?_
   refine dj_h 39 (.bool true) hb.bd rfl (fun w1 ρ1 hw1 => ev_pick_t rfl rfl rfl) ?_
   refine dj_h 40 (.bool true) hb.bd rfl (fun w1 ρ1 hw1 => ev_move rfl) ?_
   refine dj_p 41 75 hb.bd rfl rfl rfl rfl rfl rfl ?_
   refine dj_p 42 75 hb.bd rfl rfl rfl rfl rfl rfl ?_
   refine dj_p 43 75 hb.bd rfl rfl rfl rfl rfl rfl ?_
   refine dj_p 44 75 hb.bd rfl rfl rfl rfl rfl rfl ?_
   refine dj_p 45 75 hb.bd rfl rfl rfl rfl rfl rfl ?_
   refine dj_p 46 75 hb.bd rfl rfl rfl rfl rfl rfl ?_
   refine dj_p 47 75 hb.bd rfl rfl rfl rfl rfl rfl ?_
   refine dj_p 48 75 hb.bd rfl rfl rfl rfl rfl rfl ?_
   refine dj_p 49 75 hb.bd rfl rfl rfl rfl rfl rfl ?_
   refine dj_h 50 (.bool true) hb.bd rfl (fun w1 ρ1 hw1 => ev_pick_t rfl rfl rfl) ?_
   refine dj_h 51 (.bool true) hb.bd rfl (fun w1 ρ1 hw1 => ev_move rfl) ?_
   refine dj_p 52 86 hb.bd rfl rfl rfl rfl rfl rfl ?_
   refine dj_p 53 86 hb.bd rfl rfl rfl rfl rfl rfl ?_
   refine dj_p 54 86 hb.bd rfl rfl rfl rfl rfl rfl ?_
   refine dj_p 55 86 hb.bd rfl rfl rfl rfl rfl rfl ?_
   refine dj_p 56 86 hb.bd rfl rfl rfl rfl rfl rfl ?_
   refine dj_p 57 86 hb.bd rfl rfl rfl rfl rfl rfl ?_
   refine dj_h 58 (.bool true) hb.bd rfl (fun w1 ρ1 hw1 => ev_pick_t rfl rfl rfl) ?_
   refine dj_h 59 (.bool true) hb.bd rfl (fun w1 ρ1 hw1 => ev_move rfl) ?_
   refine dj_p 60 94 hb.bd rfl rfl rfl rfl rfl rfl ?_
   refine dj_p 61 94 hb.bd rfl rfl rfl rfl rfl rfl ?_
   refine dj_p 62 94 hb.bd rfl rfl rfl rfl rfl rfl ?_
   refine dj_p 63 94 hb.bd rfl rfl rfl rfl rfl rfl ?_
   refine dj_h 64 (.bool true) hb.bd rfl (fun w1 ρ1 hw1 => ev_pick_t rfl rfl rfl) ?_
   refine dj_h 65 (.bool true) hb.bd rfl (fun w1 ρ1 hw1 => ev_move rfl) ?_
   refine dj_p 66 100 hb.bd rfl rfl rfl rfl rfl rfl ?_
   refine dj_p 67 100 hb.bd rfl rfl rfl rfl rfl rfl ?_
   refine dj_p 68 100 hb.bd rfl rfl rfl rfl rfl rfl ?_
   refine dj_p 69 100 hb.bd rfl rfl rfl rfl rfl rfl ?_
   refine dj_p 70 100 hb.bd rfl rfl rfl rfl rfl rfl ?_
   refine dj_h 71 (.bool true) hb.bd rfl (fun w1 ρ1 hw1 => ev_pick_t rfl rfl rfl) ?_
   refine dj_done rfl (by as_aux_lemma => kernel_rfl) ?_
   refine ke_weaken (l' := [(1, .pointer (some ⟨g1, 0, none⟩)), (17, v27), (18, .int .i64 2), (19, .int .i64 0), (106, .bool true)]) (.cons rfl (.cons rfl (.cons rfl (.cons rfl (.cons rfl (.nil _)))))) ?_
   refine ke_cond (t := true) rfl (fun _ => ?_) (fun h => by cases h)
   refine ke_seq ?_
   refine ke_region ?_
   refine sr_ev (v := .bool false) (ev_assign rfl) (by decide) ?_
   refine sr_end (l' := [(2, .bool false)]) (.cons rfl (.nil _)) ?_
   cases hS
   exact ke_ret1 Tryz.func8 rfl rfl ⟨_, rfl, rfl, (hb.below (flat1_le _))⟩
  ·replace hS := ite_false' hS hg160
   refine dj_hg 3 v42 hb.bd rfl rfl rfl hg160 (fun w1 ρ1 hw1 => ev_move rfl) ?_
   refine dj_hg 4 (.int .i64 (y37.2.1.length : Int)) hb.bd rfl rfl rfl hg160 (fun w1 ρ1 hw1 => ev_sllenW Tryz.underlying36 rfl h43.asSl) ?_
   refine dj_hg 5 (.bool ((y37.2.1.length : Int) != 0)) hb.bd rfl rfl rfl hg160 (fun w1 ρ1 hw1 => ev_ne rfl rfl) ?_
   refine dj_h 6 (.bool ((y37.2.1.length : Int) != 0)) hb.bd rfl (fun w1 ρ1 hw1 => ev_pick_f rfl hg160 rfl) ?_
   refine dj_h 7 (.bool ((y37.2.1.length : Int) != 0)) hb.bd rfl (fun w1 ρ1 hw1 => ev_move rfl) ?_
   rcases Bool.eq_false_or_eq_true ((y37.2.1.length : Int) != 0) with hg161 | hg161
   ·replace hS := ite_true' hS hg161
    refine dj_p 8 42 hb.bd rfl rfl rfl rfl rfl (by rw [hg161]; rfl) ?_
    refine dj_p 9 42 hb.bd rfl rfl rfl rfl rfl (by rw [hg161]; rfl) ?_
    refine dj_p 10 42 hb.bd rfl rfl rfl rfl rfl (by rw [hg161]; rfl) ?_
    refine dj_p 11 42 hb.bd rfl rfl rfl rfl rfl (by rw [hg161]; rfl) ?_
    refine dj_p 12 42 hb.bd rfl rfl rfl rfl rfl (by rw [hg161]; rfl) ?_
    refine dj_p 13 42 hb.bd rfl rfl rfl rfl rfl (by rw [hg161]; rfl) ?_
    refine dj_p 14 42 hb.bd rfl rfl rfl rfl rfl (by rw [hg161]; rfl) ?_
    refine dj_p 15 42 hb.bd rfl rfl rfl rfl rfl (by rw [hg161]; rfl) ?_
    refine dj_p 16 42 hb.bd rfl rfl rfl rfl rfl (by rw [hg161]; rfl) ?_
    refine dj_h 17 (.bool true) hb.bd rfl (fun w1 ρ1 hw1 => ev_pick_t rfl hg161 rfl) ?_
    refine dj_h 18 (.bool true) hb.bd rfl (fun w1 ρ1 hw1 => ev_move rfl) ?_
    refine dj_p 19 53 hb.bd rfl rfl rfl rfl rfl rfl ?_
    refine dj_p 20 53 hb.bd rfl rfl rfl rfl rfl rfl ?_
    refine dj_p 21 53 hb.bd rfl rfl rfl rfl rfl rfl ?_
    refine dj_p 22 53 hb.bd rfl rfl rfl rfl rfl rfl ?_
    refine dj_p 23 53 hb.bd rfl rfl rfl rfl rfl rfl ?_
    refine dj_p 24 53 hb.bd rfl rfl rfl rfl rfl rfl ?_
    refine dj_p 25 53 hb.bd rfl rfl rfl rfl rfl rfl ?_
    refine dj_p 26 53 hb.bd rfl rfl rfl rfl rfl rfl ?_
    refine dj_p 27 53 hb.bd rfl rfl rfl rfl rfl rfl ?_
    refine dj_h 28 (.bool true) hb.bd rfl (fun w1 ρ1 hw1 => ev_pick_t rfl rfl rfl) ?_
    refine dj_h 29 (.bool true) hb.bd rfl (fun w1 ρ1 hw1 => ev_move rfl) ?_
    refine dj_p 30 64 hb.bd rfl rfl rfl rfl rfl rfl ?_
    refine dj_p 31 64 hb.bd rfl rfl rfl rfl rfl rfl ?_
    refine dj_p 32 64 hb.bd rfl rfl rfl rfl rfl rfl ?_
    refine dj_p 33 64 hb.bd rfl rfl rfl rfl rfl rfl ?_
    refine dj_p 34 64 hb.bd rfl rfl rfl rfl rfl rfl ?_
    refine dj_p 35 64 hb.bd rfl rfl rfl rfl rfl rfl ?_
    refine dj_p 36 64 hb.bd rfl rfl rfl rfl rfl rfl ?_
    refine dj_p 37 64 hb.bd rfl rfl rfl rfl rfl rfl ?_
    refine dj_p 38 64 hb.bd rfl rfl rfl rfl rfl rfl ?_
    refine dj_h 39 (.bool true) hb.bd rfl (fun w1 ρ1 hw1 => ev_pick_t rfl rfl rfl) ?_
    refine dj_h 40 (.bool true) hb.bd rfl (fun w1 ρ1 hw1 => ev_move rfl) ?_
    refine dj_p 41 75 hb.bd rfl rfl rfl rfl rfl rfl ?_
    refine dj_p 42 75 hb.bd rfl rfl rfl rfl rfl rfl ?_
    refine dj_p 43 75 hb.bd rfl rfl rfl rfl rfl rfl ?_
    refine dj_p 44 75 hb.bd rfl rfl rfl rfl rfl rfl ?_
    refine dj_p 45 75 hb.bd rfl rfl rfl rfl rfl rfl ?_
    refine dj_p 46 75 hb.bd rfl rfl rfl rfl rfl rfl ?_
    refine dj_p 47 75 hb.bd rfl rfl rfl rfl rfl rfl ?_
    refine dj_p 48 75 hb.bd rfl rfl rfl rfl rfl rfl ?_
    refine dj_p 49 75 hb.bd rfl rfl rfl rfl rfl rfl ?_
    refine dj_h 50 (.bool true) hb.bd rfl (fun w1 ρ1 hw1 => ev_pick_t rfl rfl rfl) ?_
    refine dj_h 51 (.bool true) hb.bd rfl (fun w1 ρ1 hw1 => ev_move rfl) ?_
    refine dj_p 52 86 hb.bd rfl rfl rfl rfl rfl rfl ?_
    refine dj_p 53 86 hb.bd rfl rfl rfl rfl rfl rfl ?_
    refine dj_p 54 86 hb.bd rfl rfl rfl rfl rfl rfl ?_
    refine dj_p 55 86 hb.bd rfl rfl rfl rfl rfl rfl ?_
    refine dj_p 56 86 hb.bd rfl rfl rfl rfl rfl rfl ?_
    refine dj_p 57 86 hb.bd rfl rfl rfl rfl rfl rfl ?_
    refine dj_h 58 (.bool true) hb.bd rfl (fun w1 ρ1 hw1 => ev_pick_t rfl rfl rfl) ?_
    refine dj_h 59 (.bool true) hb.bd rfl (fun w1 ρ1 hw1 => ev_move rfl) ?_
    refine dj_p 60 94 hb.bd rfl rfl rfl rfl rfl rfl ?_
    refine dj_p 61 94 hb.bd rfl rfl rfl rfl rfl rfl ?_
    refine dj_p 62 94 hb.bd rfl rfl rfl rfl rfl rfl ?_
    refine dj_p 63 94 hb.bd rfl rfl rfl rfl rfl rfl ?_
    refine dj_h 64 (.bool true) hb.bd rfl (fun w1 ρ1 hw1 => ev_pick_t rfl rfl rfl) ?_
    refine dj_h 65 (.bool true) hb.bd rfl (fun w1 ρ1 hw1 => ev_move rfl) ?_
    refine dj_p 66 100 hb.bd rfl rfl rfl rfl rfl rfl ?_
    refine dj_p 67 100 hb.bd rfl rfl rfl rfl rfl rfl ?_
    refine dj_p 68 100 hb.bd rfl rfl rfl rfl rfl rfl ?_
    refine dj_p 69 100 hb.bd rfl rfl rfl rfl rfl rfl ?_
    refine dj_p 70 100 hb.bd rfl rfl rfl rfl rfl rfl ?_
    refine dj_h 71 (.bool true) hb.bd rfl (fun w1 ρ1 hw1 => ev_pick_t rfl rfl rfl) ?_
    refine dj_done rfl (by as_aux_lemma => kernel_rfl) ?_
    refine ke_weaken (l' := [(1, .pointer (some ⟨g1, 0, none⟩)), (17, v27), (18, .int .i64 2), (19, .int .i64 0), (106, .bool true)]) (.cons rfl (.cons rfl (.cons rfl (.cons rfl (.cons rfl (.nil _)))))) ?_
    refine ke_cond (t := true) rfl (fun _ => ?_) (fun h => by cases h)
    refine ke_seq ?_
    refine ke_region ?_
    refine sr_ev (v := .bool false) (ev_assign rfl) (by decide) ?_
    refine sr_end (l' := [(2, .bool false)]) (.cons rfl (.nil _)) ?_
    cases hS
    exact ke_ret1 Tryz.func8 rfl rfl ⟨_, rfl, rfl, (hb.below (flat1_le _))⟩
   ·replace hS := ite_false' hS hg161
    refine dj_hg 8 (.pointer none) hb.bd rfl rfl rfl hg161 (fun w1 ρ1 hw1 => ev_move rfl) ?_
    refine dj_hg 9 (.pointer (some ⟨g1, 2, none⟩)) hb.bd rfl rfl rfl hg161 (fun w1 ρ1 hw1 => ev_fieldAddr (i := 2) Tryz.underlying33 rfl Tryz.info9 rfl rfl) ?_
    refine dj_hg 10 (str o_0.User) hb.bd rfl rfl rfl hg161 (fun w1 ρ1 hw1 => ev_load Tryz.isAgg9 rfl ((hB5.mv (hw1.mv (i := 3) rfl)).cell rfl)) ?_
    refine dj_hg 11 (.agg #[.int .i64 o_0.Kind, str o_0.ID, str o_0.User, str o_0.Word, str o_0.Code, str o_0.S, .int .i64 o_0.Level, .int .i64 o_0.Rounds, .int .i64 o_0.Now]) hb.bd rfl rfl rfl hg161 (fun w1 ρ1 hw1 => ev_loads (cs := [.int .i64 o_0.Kind, str o_0.ID, str o_0.User, str o_0.Word, str o_0.Code, str o_0.S, .int .i64 o_0.Level, .int .i64 o_0.Rounds, .int .i64 o_0.Now]) Tryz.isAgg33 Tryz.sizeOf33 rfl ((hB5.mv (hw1.mv (i := 3) rfl)).cells (vs := [.int .i64 o_0.Kind, str o_0.ID, str o_0.User, str o_0.Word, str o_0.Code, str o_0.S, .int .i64 o_0.Level, .int .i64 o_0.Rounds, .int .i64 o_0.Now]) rfl)) ?_
    refine dj_hg 13 (.pointer (some ⟨g1, 4, none⟩)) hb.bd rfl rfl rfl hg161 (fun w1 ρ1 hw1 => ev_fieldAddr (i := 4) Tryz.underlying33 rfl Tryz.info9 rfl rfl) ?_
    refine dj_hg 14 (str o_0.Code) hb.bd rfl rfl rfl hg161 (fun w1 ρ1 hw1 => ev_load Tryz.isAgg9 rfl ((hB5.mv (hw1.mv (i := 3) rfl)).cell rfl)) ?_
    refine dj_E 12 (by as_aux_lemma => kernel_rfl) rfl ?_
    have jt162 : Tr ρ23 w45 (fun _ => false) ρ23 w45 := (Tr.refl hb.bd).weak (fun _ _ => rfl) rfl rfl
    obtain ⟨y163, hy164, hS⟩ := bind_some' hS
    refine sr_callg (b := false) (e := 42) rfl rfl hg161 (vs := [.agg #[.int .i64 o_0.Kind, str o_0.ID, str o_0.User, str o_0.Word, str o_0.Code, str o_0.S, .int .i64 o_0.Level, .int .i64 o_0.Rounds, .int .i64 o_0.Now]]) rfl Tryz.call26 rfl (law39_verifier_ok _ (hg.fr hz hb) hy164) (by decide) ?_
    rintro _ w165 ⟨rfl, hbw166⟩
    have htr167 := Tr.of_below hbw166 hb.bd
    replace h28 := h28.mv htr167.rd
    replace hB26 := hB26.mv (htr167.mv (i := 100) rfl)
    replace hB5 := hB5.mv (htr167.mv (i := 3) rfl)
    replace hb := hb.trans htr167
    replace jt162 := (jt162.trans htr167).weak (J' := (fun _ => false)) (by intro t h; simp [rng] at h ⊢ <;> omega) rfl rfl
    refine dj_next (l' := [(1, .pointer (some ⟨g1, 0, none⟩)), (5, .pointer none), (17, v27), (18, .int .i64 2), (19, .int .i64 0), (42, .bool ((y37.2.1.length : Int) != 0)), (43, .pointer none), (45, str o_0.User), (47, .agg #[str y163.Salt, .int .i64 y163.Rounds, str y163.Hash]), (49, str o_0.Code)]) rfl (.cons rfl (.cons rfl (.cons rfl (.cons rfl (.cons rfl (.cons rfl (.cons rfl (.cons rfl (.cons rfl (.cons rfl (.nil _))))))))))) jt162 (by intro t h; simp [rng] at h ⊢ <;> omega) rfl rfl ?_
    refine dj_E 15 (by as_aux_lemma => kernel_rfl) rfl ?_
    have jt168 : Tr ρ23 w165 (fun _ => false) ρ23 w165 := (Tr.refl hb.bd).weak (fun _ _ => rfl) rfl rfl
    obtain ⟨y169, hy170, hS⟩ := bind_some' hS
    refine sr_callg (b := false) (e := 42) rfl rfl hg161 (vs := [.pointer none, str o_0.User, .agg #[str y163.Salt, .int .i64 y163.Rounds, str y163.Hash], str o_0.Code]) rfl Tryz.call25 rfl (login_Logins_Enroll__nil_ok _ (hg.fr hz hb) (ρA := ρ23) hb.bd (hz.fr hg hb) hy170) (by decide) ?_
    rintro _ w171 ⟨rfl, hbw172⟩
    have htr173 := Tr.of_below hbw172 hb.bd
    replace h28 := h28.mv htr173.rd
    replace hB26 := hB26.mv (htr173.mv (i := 100) rfl)
    replace hB5 := hB5.mv (htr173.mv (i := 3) rfl)
    replace hb := hb.trans htr173
    replace jt168 := (jt168.trans htr173).weak (J' := (fun _ => false)) (by intro t h; simp [rng] at h ⊢ <;> omega) rfl rfl
    refine dj_next (l' := [(1, .pointer (some ⟨g1, 0, none⟩)), (5, .pointer none), (17, v27), (18, .int .i64 2), (19, .int .i64 0), (42, .bool ((y37.2.1.length : Int) != 0)), (50, .int .i64 y169)]) rfl (.cons rfl (.cons rfl (.cons rfl (.cons rfl (.cons rfl (.cons rfl (.cons rfl (.nil _)))))))) jt168 (by intro t h; simp [rng] at h ⊢ <;> omega) rfl rfl ?_
    refine dj_hg 16 (.bool (y169 != 1)) hb.bd rfl rfl rfl hg161 (fun w1 ρ1 hw1 => ev_ne rfl rfl) ?_
    refine dj_h 17 (.bool (y169 != 1)) hb.bd rfl (fun w1 ρ1 hw1 => ev_pick_f rfl hg161 rfl) ?_
    refine dj_h 18 (.bool (y169 != 1)) hb.bd rfl (fun w1 ρ1 hw1 => ev_move rfl) ?_
    rcases Bool.eq_false_or_eq_true (y169 != 1) with hg174 | hg174
    ·replace hS := ite_true' hS hg174
     refine dj_p 19 53 hb.bd rfl rfl rfl rfl rfl (by rw [hg174]; rfl) ?_
     refine dj_p 20 53 hb.bd rfl rfl rfl rfl rfl (by rw [hg174]; rfl) ?_
     refine dj_p 21 53 hb.bd rfl rfl rfl rfl rfl (by rw [hg174]; rfl) ?_
     refine dj_p 22 53 hb.bd rfl rfl rfl rfl rfl (by rw [hg174]; rfl) ?_
     refine dj_p 23 53 hb.bd rfl rfl rfl rfl rfl (by rw [hg174]; rfl) ?_
     refine dj_p 24 53 hb.bd rfl rfl rfl rfl rfl (by rw [hg174]; rfl) ?_
     refine dj_p 25 53 hb.bd rfl rfl rfl rfl rfl (by rw [hg174]; rfl) ?_
     refine dj_p 26 53 hb.bd rfl rfl rfl rfl rfl (by rw [hg174]; rfl) ?_
     refine dj_p 27 53 hb.bd rfl rfl rfl rfl rfl (by rw [hg174]; rfl) ?_
     refine dj_h 28 (.bool true) hb.bd rfl (fun w1 ρ1 hw1 => ev_pick_t rfl hg174 rfl) ?_
     refine dj_h 29 (.bool true) hb.bd rfl (fun w1 ρ1 hw1 => ev_move rfl) ?_
     refine dj_p 30 64 hb.bd rfl rfl rfl rfl rfl rfl ?_
     refine dj_p 31 64 hb.bd rfl rfl rfl rfl rfl rfl ?_
     refine dj_p 32 64 hb.bd rfl rfl rfl rfl rfl rfl ?_
     refine dj_p 33 64 hb.bd rfl rfl rfl rfl rfl rfl ?_
     refine dj_p 34 64 hb.bd rfl rfl rfl rfl rfl rfl ?_
     refine dj_p 35 64 hb.bd rfl rfl rfl rfl rfl rfl ?_
     refine dj_p 36 64 hb.bd rfl rfl rfl rfl rfl rfl ?_
     refine dj_p 37 64 hb.bd rfl rfl rfl rfl rfl rfl ?_
     refine dj_p 38 64 hb.bd rfl rfl rfl rfl rfl rfl ?_
     refine dj_h 39 (.bool true) hb.bd rfl (fun w1 ρ1 hw1 => ev_pick_t rfl rfl rfl) ?_
     refine dj_h 40 (.bool true) hb.bd rfl (fun w1 ρ1 hw1 => ev_move rfl) ?_
     refine dj_p 41 75 hb.bd rfl rfl rfl rfl rfl rfl ?_
     refine dj_p 42 75 hb.bd rfl rfl rfl rfl rfl rfl ?_
     refine dj_p 43 75 hb.bd rfl rfl rfl rfl rfl rfl ?_
     refine dj_p 44 75 hb.bd rfl rfl rfl rfl rfl rfl ?_
     refine dj_p 45 75 hb.bd rfl rfl rfl rfl rfl rfl ?_
     refine dj_p 46 75 hb.bd rfl rfl rfl rfl rfl rfl ?_
     refine dj_p 47 75 hb.bd rfl rfl rfl rfl rfl rfl ?_
     refine dj_p 48 75 hb.bd rfl rfl rfl rfl rfl rfl ?_
     refine dj_p 49 75 hb.bd rfl rfl rfl rfl rfl rfl ?_
     refine dj_h 50 (.bool true) hb.bd rfl (fun w1 ρ1 hw1 => ev_pick_t rfl rfl rfl) ?_
     refine dj_h 51 (.bool true) hb.bd rfl (fun w1 ρ1 hw1 => ev_move rfl) ?_
     refine dj_p 52 86 hb.bd rfl rfl rfl rfl rfl rfl ?_
     refine dj_p 53 86 hb.bd rfl rfl rfl rfl rfl rfl ?_
     refine dj_p 54 86 hb.bd rfl rfl rfl rfl rfl rfl ?_
     refine dj_p 55 86 hb.bd rfl rfl rfl rfl rfl rfl ?_
     refine dj_p 56 86 hb.bd rfl rfl rfl rfl rfl rfl ?_
     refine dj_p 57 86 hb.bd rfl rfl rfl rfl rfl rfl ?_
     refine dj_h 58 (.bool true) hb.bd rfl (fun w1 ρ1 hw1 => ev_pick_t rfl rfl rfl) ?_
     refine dj_h 59 (.bool true) hb.bd rfl (fun w1 ρ1 hw1 => ev_move rfl) ?_
     refine dj_p 60 94 hb.bd rfl rfl rfl rfl rfl rfl ?_
     refine dj_p 61 94 hb.bd rfl rfl rfl rfl rfl rfl ?_
     refine dj_p 62 94 hb.bd rfl rfl rfl rfl rfl rfl ?_
     refine dj_p 63 94 hb.bd rfl rfl rfl rfl rfl rfl ?_
     refine dj_h 64 (.bool true) hb.bd rfl (fun w1 ρ1 hw1 => ev_pick_t rfl rfl rfl) ?_
     refine dj_h 65 (.bool true) hb.bd rfl (fun w1 ρ1 hw1 => ev_move rfl) ?_
     refine dj_p 66 100 hb.bd rfl rfl rfl rfl rfl rfl ?_
     refine dj_p 67 100 hb.bd rfl rfl rfl rfl rfl rfl ?_
     refine dj_p 68 100 hb.bd rfl rfl rfl rfl rfl rfl ?_
     refine dj_p 69 100 hb.bd rfl rfl rfl rfl rfl rfl ?_
     refine dj_p 70 100 hb.bd rfl rfl rfl rfl rfl rfl ?_
     refine dj_h 71 (.bool true) hb.bd rfl (fun w1 ρ1 hw1 => ev_pick_t rfl rfl rfl) ?_
     refine dj_done rfl (by as_aux_lemma => kernel_rfl) ?_
     refine ke_weaken (l' := [(1, .pointer (some ⟨g1, 0, none⟩)), (17, v27), (18, .int .i64 2), (19, .int .i64 0), (106, .bool true)]) (.cons rfl (.cons rfl (.cons rfl (.cons rfl (.cons rfl (.nil _)))))) ?_
     refine ke_cond (t := true) rfl (fun _ => ?_) (fun h => by cases h)
     refine ke_seq ?_
     refine ke_region ?_
     refine sr_ev (v := .bool false) (ev_assign rfl) (by decide) ?_
     refine sr_end (l' := [(2, .bool false)]) (.cons rfl (.nil _)) ?_
     cases hS
     exact ke_ret1 Tryz.func8 rfl rfl ⟨_, rfl, rfl, (hb.below (flat1_le _))⟩
    ·replace hS := ite_false' hS hg174
     refine dj_hg 19 (.pointer none) hb.bd rfl rfl rfl hg174 (fun w1 ρ1 hw1 => ev_move rfl) ?_
     refine dj_hg 20 (.pointer (some ⟨g1, 1, none⟩)) hb.bd rfl rfl rfl hg174 (fun w1 ρ1 hw1 => ev_fieldAddr (i := 1) Tryz.underlying33 rfl Tryz.info9 rfl rfl) ?_
     refine dj_hg 21 (str o_0.ID) hb.bd rfl rfl rfl hg174 (fun w1 ρ1 hw1 => ev_load Tryz.isAgg9 rfl ((hB5.mv (hw1.mv (i := 3) rfl)).cell rfl)) ?_
     refine dj_hg 22 (.pointer (some ⟨g1, 2, none⟩)) hb.bd rfl rfl rfl hg174 (fun w1 ρ1 hw1 => ev_fieldAddr (i := 2) Tryz.underlying33 rfl Tryz.info9 rfl rfl) ?_
     refine dj_hg 23 (str o_0.User) hb.bd rfl rfl rfl hg174 (fun w1 ρ1 hw1 => ev_load Tryz.isAgg9 rfl ((hB5.mv (hw1.mv (i := 3) rfl)).cell rfl)) ?_
     refine dj_hg 24 (.pointer (some ⟨g1, 8, none⟩)) hb.bd rfl rfl rfl hg174 (fun w1 ρ1 hw1 => ev_fieldAddr (i := 8) Tryz.underlying33 rfl Tryz.info3 rfl rfl) ?_
     refine dj_hg 25 (.int .i64 o_0.Now) hb.bd rfl rfl rfl hg174 (fun w1 ρ1 hw1 => ev_load Tryz.isAgg3 rfl ((hB5.mv (hw1.mv (i := 3) rfl)).cell rfl)) ?_
     refine dj_E 26 (by as_aux_lemma => kernel_rfl) rfl ?_
     have jt175 : Tr ρ23 w171 (fun _ => false) ρ23 w171 := (Tr.refl hb.bd).weak (fun _ _ => rfl) rfl rfl
     obtain ⟨y176, hy177, hS⟩ := bind_some' hS
     refine sr_callg (b := false) (e := 53) rfl rfl hg174 (vs := [.pointer none, str o_0.ID, str o_0.User, .int .i64 o_0.Now]) rfl Tryz.call14 rfl (login_Logins_Begin__nil_ok _ (hg.fr hz hb) (ρA := ρ23) hb.bd (hz.fr hg hb) hy177) (by decide) ?_
     rintro _ w178 ⟨rfl, hbw179⟩
     have htr180 := Tr.of_below hbw179 hb.bd
     replace h28 := h28.mv htr180.rd
     replace hB26 := hB26.mv (htr180.mv (i := 100) rfl)
     replace hB5 := hB5.mv (htr180.mv (i := 3) rfl)
     replace hb := hb.trans htr180
     replace jt175 := (jt175.trans htr180).weak (J' := (fun _ => false)) (by intro t h; simp [rng] at h ⊢ <;> omega) rfl rfl
     refine dj_next (l' := [(1, .pointer (some ⟨g1, 0, none⟩)), (5, .pointer none), (17, v27), (18, .int .i64 2), (19, .int .i64 0), (53, .bool (y169 != 1)), (61, .int .i64 y176)]) rfl (.cons rfl (.cons rfl (.cons rfl (.cons rfl (.cons rfl (.cons rfl (.cons rfl (.nil _)))))))) jt175 (by intro t h; simp [rng] at h ⊢ <;> omega) rfl rfl ?_
     refine dj_hg 27 (.bool (y176 != 1)) hb.bd rfl rfl rfl hg174 (fun w1 ρ1 hw1 => ev_ne rfl rfl) ?_
     refine dj_h 28 (.bool (y176 != 1)) hb.bd rfl (fun w1 ρ1 hw1 => ev_pick_f rfl hg174 rfl) ?_
     refine dj_h 29 (.bool (y176 != 1)) hb.bd rfl (fun w1 ρ1 hw1 => ev_move rfl) ?_
     rcases Bool.eq_false_or_eq_true (y176 != 1) with hg181 | hg181
     ·replace hS := ite_true' hS hg181
      refine dj_p 30 64 hb.bd rfl rfl rfl rfl rfl (by rw [hg181]; rfl) ?_
      refine dj_p 31 64 hb.bd rfl rfl rfl rfl rfl (by rw [hg181]; rfl) ?_
      refine dj_p 32 64 hb.bd rfl rfl rfl rfl rfl (by rw [hg181]; rfl) ?_
      refine dj_p 33 64 hb.bd rfl rfl rfl rfl rfl (by rw [hg181]; rfl) ?_
      refine dj_p 34 64 hb.bd rfl rfl rfl rfl rfl (by rw [hg181]; rfl) ?_
      refine dj_p 35 64 hb.bd rfl rfl rfl rfl rfl (by rw [hg181]; rfl) ?_
      refine dj_p 36 64 hb.bd rfl rfl rfl rfl rfl (by rw [hg181]; rfl) ?_
      refine dj_p 37 64 hb.bd rfl rfl rfl rfl rfl (by rw [hg181]; rfl) ?_
      refine dj_p 38 64 hb.bd rfl rfl rfl rfl rfl (by rw [hg181]; rfl) ?_
      refine dj_h 39 (.bool true) hb.bd rfl (fun w1 ρ1 hw1 => ev_pick_t rfl hg181 rfl) ?_
      refine dj_h 40 (.bool true) hb.bd rfl (fun w1 ρ1 hw1 => ev_move rfl) ?_
      refine dj_p 41 75 hb.bd rfl rfl rfl rfl rfl rfl ?_
      refine dj_p 42 75 hb.bd rfl rfl rfl rfl rfl rfl ?_
      refine dj_p 43 75 hb.bd rfl rfl rfl rfl rfl rfl ?_
      refine dj_p 44 75 hb.bd rfl rfl rfl rfl rfl rfl ?_
      refine dj_p 45 75 hb.bd rfl rfl rfl rfl rfl rfl ?_
      refine dj_p 46 75 hb.bd rfl rfl rfl rfl rfl rfl ?_
      refine dj_p 47 75 hb.bd rfl rfl rfl rfl rfl rfl ?_
      refine dj_p 48 75 hb.bd rfl rfl rfl rfl rfl rfl ?_
      refine dj_p 49 75 hb.bd rfl rfl rfl rfl rfl rfl ?_
      refine dj_h 50 (.bool true) hb.bd rfl (fun w1 ρ1 hw1 => ev_pick_t rfl rfl rfl) ?_
      refine dj_h 51 (.bool true) hb.bd rfl (fun w1 ρ1 hw1 => ev_move rfl) ?_
      refine dj_p 52 86 hb.bd rfl rfl rfl rfl rfl rfl ?_
      refine dj_p 53 86 hb.bd rfl rfl rfl rfl rfl rfl ?_
      refine dj_p 54 86 hb.bd rfl rfl rfl rfl rfl rfl ?_
      refine dj_p 55 86 hb.bd rfl rfl rfl rfl rfl rfl ?_
      refine dj_p 56 86 hb.bd rfl rfl rfl rfl rfl rfl ?_
      refine dj_p 57 86 hb.bd rfl rfl rfl rfl rfl rfl ?_
      refine dj_h 58 (.bool true) hb.bd rfl (fun w1 ρ1 hw1 => ev_pick_t rfl rfl rfl) ?_
      refine dj_h 59 (.bool true) hb.bd rfl (fun w1 ρ1 hw1 => ev_move rfl) ?_
      refine dj_p 60 94 hb.bd rfl rfl rfl rfl rfl rfl ?_
      refine dj_p 61 94 hb.bd rfl rfl rfl rfl rfl rfl ?_
      refine dj_p 62 94 hb.bd rfl rfl rfl rfl rfl rfl ?_
      refine dj_p 63 94 hb.bd rfl rfl rfl rfl rfl rfl ?_
      refine dj_h 64 (.bool true) hb.bd rfl (fun w1 ρ1 hw1 => ev_pick_t rfl rfl rfl) ?_
      refine dj_h 65 (.bool true) hb.bd rfl (fun w1 ρ1 hw1 => ev_move rfl) ?_
      refine dj_p 66 100 hb.bd rfl rfl rfl rfl rfl rfl ?_
      refine dj_p 67 100 hb.bd rfl rfl rfl rfl rfl rfl ?_
      refine dj_p 68 100 hb.bd rfl rfl rfl rfl rfl rfl ?_
      refine dj_p 69 100 hb.bd rfl rfl rfl rfl rfl rfl ?_
      refine dj_p 70 100 hb.bd rfl rfl rfl rfl rfl rfl ?_
      refine dj_h 71 (.bool true) hb.bd rfl (fun w1 ρ1 hw1 => ev_pick_t rfl rfl rfl) ?_
      refine dj_done rfl (by as_aux_lemma => kernel_rfl) ?_
      refine ke_weaken (l' := [(1, .pointer (some ⟨g1, 0, none⟩)), (17, v27), (18, .int .i64 2), (19, .int .i64 0), (106, .bool true)]) (.cons rfl (.cons rfl (.cons rfl (.cons rfl (.cons rfl (.nil _)))))) ?_
      refine ke_cond (t := true) rfl (fun _ => ?_) (fun h => by cases h)
      refine ke_seq ?_
      refine ke_region ?_
      refine sr_ev (v := .bool false) (ev_assign rfl) (by decide) ?_
      refine sr_end (l' := [(2, .bool false)]) (.cons rfl (.nil _)) ?_
      cases hS
      exact ke_ret1 Tryz.func8 rfl rfl ⟨_, rfl, rfl, (hb.below (flat1_le _))⟩
     ·replace hS := ite_false' hS hg181
      refine dj_hg 30 (.pointer none) hb.bd rfl rfl rfl hg181 (fun w1 ρ1 hw1 => ev_move rfl) ?_
      refine dj_hg 31 (.pointer (some ⟨g1, 1, none⟩)) hb.bd rfl rfl rfl hg181 (fun w1 ρ1 hw1 => ev_fieldAddr (i := 1) Tryz.underlying33 rfl Tryz.info9 rfl rfl) ?_
      refine dj_hg 32 (str o_0.ID) hb.bd rfl rfl rfl hg181 (fun w1 ρ1 hw1 => ev_load Tryz.isAgg9 rfl ((hB5.mv (hw1.mv (i := 3) rfl)).cell rfl)) ?_
      refine dj_hg 33 (.pointer (some ⟨g1, 3, none⟩)) hb.bd rfl rfl rfl hg181 (fun w1 ρ1 hw1 => ev_fieldAddr (i := 3) Tryz.underlying33 rfl Tryz.info9 rfl rfl) ?_
      refine dj_hg 34 (str o_0.Word) hb.bd rfl rfl rfl hg181 (fun w1 ρ1 hw1 => ev_load Tryz.isAgg9 rfl ((hB5.mv (hw1.mv (i := 3) rfl)).cell rfl)) ?_
      refine dj_hg 35 (.pointer (some ⟨g1, 8, none⟩)) hb.bd rfl rfl rfl hg181 (fun w1 ρ1 hw1 => ev_fieldAddr (i := 8) Tryz.underlying33 rfl Tryz.info3 rfl rfl) ?_
      refine dj_hg 36 (.int .i64 o_0.Now) hb.bd rfl rfl rfl hg181 (fun w1 ρ1 hw1 => ev_load Tryz.isAgg3 rfl ((hB5.mv (hw1.mv (i := 3) rfl)).cell rfl)) ?_
      refine dj_E 37 (by as_aux_lemma => kernel_rfl) rfl ?_
      have jt182 : Tr ρ23 w178 (fun _ => false) ρ23 w178 := (Tr.refl hb.bd).weak (fun _ _ => rfl) rfl rfl
      obtain ⟨y183, hy184, hS⟩ := bind_some' hS
      refine sr_callg (b := false) (e := 64) rfl rfl hg181 (vs := [.pointer none, str o_0.ID, str o_0.Word, .int .i64 o_0.Now]) rfl Tryz.call19 rfl (login_Logins_Password__nil_ok _ (hg.fr hz hb) (ρA := ρ23) hb.bd (hz.fr hg hb) hy184) (by decide) ?_
      rintro _ w185 ⟨rfl, hbw186⟩
      have htr187 := Tr.of_below hbw186 hb.bd
      replace h28 := h28.mv htr187.rd
      replace hB26 := hB26.mv (htr187.mv (i := 100) rfl)
      replace hB5 := hB5.mv (htr187.mv (i := 3) rfl)
      replace hb := hb.trans htr187
      replace jt182 := (jt182.trans htr187).weak (J' := (fun _ => false)) (by intro t h; simp [rng] at h ⊢ <;> omega) rfl rfl
      refine dj_next (l' := [(1, .pointer (some ⟨g1, 0, none⟩)), (5, .pointer none), (17, v27), (18, .int .i64 2), (19, .int .i64 0), (64, .bool (y176 != 1)), (72, .int .i64 y183)]) rfl (.cons rfl (.cons rfl (.cons rfl (.cons rfl (.cons rfl (.cons rfl (.cons rfl (.nil _)))))))) jt182 (by intro t h; simp [rng] at h ⊢ <;> omega) rfl rfl ?_
      refine dj_hg 38 (.bool (y183 != 1)) hb.bd rfl rfl rfl hg181 (fun w1 ρ1 hw1 => ev_ne rfl rfl) ?_
      refine dj_h 39 (.bool (y183 != 1)) hb.bd rfl (fun w1 ρ1 hw1 => ev_pick_f rfl hg181 rfl) ?_
      refine dj_h 40 (.bool (y183 != 1)) hb.bd rfl (fun w1 ρ1 hw1 => ev_move rfl) ?_
      rcases Bool.eq_false_or_eq_true (y183 != 1) with hg188 | hg188
      ·replace hS := ite_true' hS hg188
       refine dj_p 41 75 hb.bd rfl rfl rfl rfl rfl (by rw [hg188]; rfl) ?_
       refine dj_p 42 75 hb.bd rfl rfl rfl rfl rfl (by rw [hg188]; rfl) ?_
       refine dj_p 43 75 hb.bd rfl rfl rfl rfl rfl (by rw [hg188]; rfl) ?_
       refine dj_p 44 75 hb.bd rfl rfl rfl rfl rfl (by rw [hg188]; rfl) ?_
       refine dj_p 45 75 hb.bd rfl rfl rfl rfl rfl (by rw [hg188]; rfl) ?_
       refine dj_p 46 75 hb.bd rfl rfl rfl rfl rfl (by rw [hg188]; rfl) ?_
       refine dj_p 47 75 hb.bd rfl rfl rfl rfl rfl (by rw [hg188]; rfl) ?_
       refine dj_p 48 75 hb.bd rfl rfl rfl rfl rfl (by rw [hg188]; rfl) ?_
       refine dj_p 49 75 hb.bd rfl rfl rfl rfl rfl (by rw [hg188]; rfl) ?_
       refine dj_h 50 (.bool true) hb.bd rfl (fun w1 ρ1 hw1 => ev_pick_t rfl hg188 rfl) ?_
       refine dj_h 51 (.bool true) hb.bd rfl (fun w1 ρ1 hw1 => ev_move rfl) ?_
       refine dj_p 52 86 hb.bd rfl rfl rfl rfl rfl rfl ?_
       refine dj_p 53 86 hb.bd rfl rfl rfl rfl rfl rfl ?_
       refine dj_p 54 86 hb.bd rfl rfl rfl rfl rfl rfl ?_
       refine dj_p 55 86 hb.bd rfl rfl rfl rfl rfl rfl ?_
       refine dj_p 56 86 hb.bd rfl rfl rfl rfl rfl rfl ?_
       refine dj_p 57 86 hb.bd rfl rfl rfl rfl rfl rfl ?_
       refine dj_h 58 (.bool true) hb.bd rfl (fun w1 ρ1 hw1 => ev_pick_t rfl rfl rfl) ?_
       refine dj_h 59 (.bool true) hb.bd rfl (fun w1 ρ1 hw1 => ev_move rfl) ?_
       refine dj_p 60 94 hb.bd rfl rfl rfl rfl rfl rfl ?_
       refine dj_p 61 94 hb.bd rfl rfl rfl rfl rfl rfl ?_
       refine dj_p 62 94 hb.bd rfl rfl rfl rfl rfl rfl ?_
       refine dj_p 63 94 hb.bd rfl rfl rfl rfl rfl rfl ?_
       refine dj_h 64 (.bool true) hb.bd rfl (fun w1 ρ1 hw1 => ev_pick_t rfl rfl rfl) ?_
       refine dj_h 65 (.bool true) hb.bd rfl (fun w1 ρ1 hw1 => ev_move rfl) ?_
       refine dj_p 66 100 hb.bd rfl rfl rfl rfl rfl rfl ?_
       refine dj_p 67 100 hb.bd rfl rfl rfl rfl rfl rfl ?_
       refine dj_p 68 100 hb.bd rfl rfl rfl rfl rfl rfl ?_
       refine dj_p 69 100 hb.bd rfl rfl rfl rfl rfl rfl ?_
       refine dj_p 70 100 hb.bd rfl rfl rfl rfl rfl rfl ?_
       refine dj_h 71 (.bool true) hb.bd rfl (fun w1 ρ1 hw1 => ev_pick_t rfl rfl rfl) ?_
       refine dj_done rfl (by as_aux_lemma => kernel_rfl) ?_
       refine ke_weaken (l' := [(1, .pointer (some ⟨g1, 0, none⟩)), (17, v27), (18, .int .i64 2), (19, .int .i64 0), (106, .bool true)]) (.cons rfl (.cons rfl (.cons rfl (.cons rfl (.cons rfl (.nil _)))))) ?_
       refine ke_cond (t := true) rfl (fun _ => ?_) (fun h => by cases h)
       refine ke_seq ?_
       refine ke_region ?_
       refine sr_ev (v := .bool false) (ev_assign rfl) (by decide) ?_
       refine sr_end (l' := [(2, .bool false)]) (.cons rfl (.nil _)) ?_
       cases hS
       exact ke_ret1 Tryz.func8 rfl rfl ⟨_, rfl, rfl, (hb.below (flat1_le _))⟩
      ·replace hS := ite_false' hS hg188
       refine dj_hg 41 (.pointer none) hb.bd rfl rfl rfl hg188 (fun w1 ρ1 hw1 => ev_move rfl) ?_
       refine dj_hg 42 (.pointer (some ⟨g1, 1, none⟩)) hb.bd rfl rfl rfl hg188 (fun w1 ρ1 hw1 => ev_fieldAddr (i := 1) Tryz.underlying33 rfl Tryz.info9 rfl rfl) ?_
       refine dj_hg 43 (str o_0.ID) hb.bd rfl rfl rfl hg188 (fun w1 ρ1 hw1 => ev_load Tryz.isAgg9 rfl ((hB5.mv (hw1.mv (i := 3) rfl)).cell rfl)) ?_
       refine dj_hg 44 (.pointer (some ⟨g1, 4, none⟩)) hb.bd rfl rfl rfl hg188 (fun w1 ρ1 hw1 => ev_fieldAddr (i := 4) Tryz.underlying33 rfl Tryz.info9 rfl rfl) ?_
       refine dj_hg 45 (str o_0.Code) hb.bd rfl rfl rfl hg188 (fun w1 ρ1 hw1 => ev_load Tryz.isAgg9 rfl ((hB5.mv (hw1.mv (i := 3) rfl)).cell rfl)) ?_
       refine dj_hg 46 (.pointer (some ⟨g1, 8, none⟩)) hb.bd rfl rfl rfl hg188 (fun w1 ρ1 hw1 => ev_fieldAddr (i := 8) Tryz.underlying33 rfl Tryz.info3 rfl rfl) ?_
       refine dj_hg 47 (.int .i64 o_0.Now) hb.bd rfl rfl rfl hg188 (fun w1 ρ1 hw1 => ev_load Tryz.isAgg3 rfl ((hB5.mv (hw1.mv (i := 3) rfl)).cell rfl)) ?_
       refine dj_E 48 (by as_aux_lemma => kernel_rfl) rfl ?_
       have jt189 : Tr ρ23 w185 (fun _ => false) ρ23 w185 := (Tr.refl hb.bd).weak (fun _ _ => rfl) rfl rfl
       obtain ⟨y190, hy191, hS⟩ := bind_some' hS
       refine sr_callg (b := false) (e := 75) rfl rfl hg188 (vs := [.pointer none, str o_0.ID, str o_0.Code, .int .i64 o_0.Now]) rfl Tryz.call15 rfl (login_Logins_Code__nil_ok _ (hg.fr hz hb) (ρA := ρ23) hb.bd (hz.fr hg hb) hy191) (by decide) ?_
       rintro _ w192 ⟨rfl, hbw193⟩
       have htr194 := Tr.of_below hbw193 hb.bd
       replace h28 := h28.mv htr194.rd
       replace hB26 := hB26.mv (htr194.mv (i := 100) rfl)
       replace hB5 := hB5.mv (htr194.mv (i := 3) rfl)
       replace hb := hb.trans htr194
       replace jt189 := (jt189.trans htr194).weak (J' := (fun _ => false)) (by intro t h; simp [rng] at h ⊢ <;> omega) rfl rfl
       refine dj_next (l' := [(1, .pointer (some ⟨g1, 0, none⟩)), (5, .pointer none), (17, v27), (18, .int .i64 2), (19, .int .i64 0), (75, .bool (y183 != 1)), (83, .int .i64 y190)]) rfl (.cons rfl (.cons rfl (.cons rfl (.cons rfl (.cons rfl (.cons rfl (.cons rfl (.nil _)))))))) jt189 (by intro t h; simp [rng] at h ⊢ <;> omega) rfl rfl ?_
       refine dj_hg 49 (.bool (y190 != 1)) hb.bd rfl rfl rfl hg188 (fun w1 ρ1 hw1 => ev_ne rfl rfl) ?_
       refine dj_h 50 (.bool (y190 != 1)) hb.bd rfl (fun w1 ρ1 hw1 => ev_pick_f rfl hg188 rfl) ?_
       refine dj_h 51 (.bool (y190 != 1)) hb.bd rfl (fun w1 ρ1 hw1 => ev_move rfl) ?_
       rcases Bool.eq_false_or_eq_true (y190 != 1) with hg195 | hg195
       ·replace hS := ite_true' hS hg195
        refine dj_p 52 86 hb.bd rfl rfl rfl rfl rfl (by rw [hg195]; rfl) ?_
        refine dj_p 53 86 hb.bd rfl rfl rfl rfl rfl (by rw [hg195]; rfl) ?_
        refine dj_p 54 86 hb.bd rfl rfl rfl rfl rfl (by rw [hg195]; rfl) ?_
        refine dj_p 55 86 hb.bd rfl rfl rfl rfl rfl (by rw [hg195]; rfl) ?_
        refine dj_p 56 86 hb.bd rfl rfl rfl rfl rfl (by rw [hg195]; rfl) ?_
        refine dj_p 57 86 hb.bd rfl rfl rfl rfl rfl (by rw [hg195]; rfl) ?_
        refine dj_h 58 (.bool true) hb.bd rfl (fun w1 ρ1 hw1 => ev_pick_t rfl hg195 rfl) ?_
        refine dj_h 59 (.bool true) hb.bd rfl (fun w1 ρ1 hw1 => ev_move rfl) ?_
        refine dj_p 60 94 hb.bd rfl rfl rfl rfl rfl rfl ?_
        refine dj_p 61 94 hb.bd rfl rfl rfl rfl rfl rfl ?_
        refine dj_p 62 94 hb.bd rfl rfl rfl rfl rfl rfl ?_
        refine dj_p 63 94 hb.bd rfl rfl rfl rfl rfl rfl ?_
        refine dj_h 64 (.bool true) hb.bd rfl (fun w1 ρ1 hw1 => ev_pick_t rfl rfl rfl) ?_
        refine dj_h 65 (.bool true) hb.bd rfl (fun w1 ρ1 hw1 => ev_move rfl) ?_
        refine dj_p 66 100 hb.bd rfl rfl rfl rfl rfl rfl ?_
        refine dj_p 67 100 hb.bd rfl rfl rfl rfl rfl rfl ?_
        refine dj_p 68 100 hb.bd rfl rfl rfl rfl rfl rfl ?_
        refine dj_p 69 100 hb.bd rfl rfl rfl rfl rfl rfl ?_
        refine dj_p 70 100 hb.bd rfl rfl rfl rfl rfl rfl ?_
        refine dj_h 71 (.bool true) hb.bd rfl (fun w1 ρ1 hw1 => ev_pick_t rfl rfl rfl) ?_
        refine dj_done rfl (by as_aux_lemma => kernel_rfl) ?_
        refine ke_weaken (l' := [(1, .pointer (some ⟨g1, 0, none⟩)), (17, v27), (18, .int .i64 2), (19, .int .i64 0), (106, .bool true)]) (.cons rfl (.cons rfl (.cons rfl (.cons rfl (.cons rfl (.nil _)))))) ?_
        refine ke_cond (t := true) rfl (fun _ => ?_) (fun h => by cases h)
        refine ke_seq ?_
        refine ke_region ?_
        refine sr_ev (v := .bool false) (ev_assign rfl) (by decide) ?_
        refine sr_end (l' := [(2, .bool false)]) (.cons rfl (.nil _)) ?_
        cases hS
        exact ke_ret1 Tryz.func8 rfl rfl ⟨_, rfl, rfl, (hb.below (flat1_le _))⟩
       ·replace hS := ite_false' hS hg195
        refine dj_hg 52 (.pointer none) hb.bd rfl rfl rfl hg195 (fun w1 ρ1 hw1 => ev_move rfl) ?_
        refine dj_hg 53 (.pointer (some ⟨g1, 2, none⟩)) hb.bd rfl rfl rfl hg195 (fun w1 ρ1 hw1 => ev_fieldAddr (i := 2) Tryz.underlying33 rfl Tryz.info9 rfl rfl) ?_
        refine dj_hg 54 (str o_0.User) hb.bd rfl rfl rfl hg195 (fun w1 ρ1 hw1 => ev_load Tryz.isAgg9 rfl ((hB5.mv (hw1.mv (i := 3) rfl)).cell rfl)) ?_
        refine dj_hg 55 (.pointer (some ⟨g1, 8, none⟩)) hb.bd rfl rfl rfl hg195 (fun w1 ρ1 hw1 => ev_fieldAddr (i := 8) Tryz.underlying33 rfl Tryz.info3 rfl rfl) ?_
        refine dj_hg 56 (.int .i64 o_0.Now) hb.bd rfl rfl rfl hg195 (fun w1 ρ1 hw1 => ev_load Tryz.isAgg3 rfl ((hB5.mv (hw1.mv (i := 3) rfl)).cell rfl)) ?_
        refine dj_E 57 (by as_aux_lemma => kernel_rfl) rfl ?_
        have jt196 : Tr ρ23 w192 (fun _ => false) ρ23 w192 := (Tr.refl hb.bd).weak (fun _ _ => rfl) rfl rfl
        obtain ⟨y197, hy198, hS⟩ := bind_some' hS
        refine sr_callg (b := false) (e := 86) rfl rfl hg195 (vs := [.pointer none, str o_0.User, .int .i64 o_0.Now]) rfl Tryz.call22 rfl (login_Logins_Locked__nil_ok _ (hg.fr hz hb) (ρA := ρ23) hb.bd (hz.fr hg hb) hy198) (by decide) ?_
        rintro _ w199 ⟨rfl, hbw200⟩
        have htr201 := Tr.of_below hbw200 hb.bd
        replace h28 := h28.mv htr201.rd
        replace hB26 := hB26.mv (htr201.mv (i := 100) rfl)
        replace hB5 := hB5.mv (htr201.mv (i := 3) rfl)
        replace hb := hb.trans htr201
        replace jt196 := (jt196.trans htr201).weak (J' := (fun _ => false)) (by intro t h; simp [rng] at h ⊢ <;> omega) rfl rfl
        refine dj_next (l' := [(1, .pointer (some ⟨g1, 0, none⟩)), (5, .pointer none), (17, v27), (18, .int .i64 2), (19, .int .i64 0), (86, .bool (y190 != 1)), (92, .bool y197)]) rfl (.cons rfl (.cons rfl (.cons rfl (.cons rfl (.cons rfl (.cons rfl (.cons rfl (.nil _)))))))) jt196 (by intro t h; simp [rng] at h ⊢ <;> omega) rfl rfl ?_
        refine dj_h 58 (.bool y197) hb.bd rfl (fun w1 ρ1 hw1 => ev_pick_f rfl hg195 rfl) ?_
        refine dj_h 59 (.bool y197) hb.bd rfl (fun w1 ρ1 hw1 => ev_move rfl) ?_
        rcases Bool.eq_false_or_eq_true (y197) with hg202 | hg202
        ·replace hS := ite_true' hS hg202
         refine dj_p 60 94 hb.bd rfl rfl rfl rfl rfl (by rw [hg202]; rfl) ?_
         refine dj_p 61 94 hb.bd rfl rfl rfl rfl rfl (by rw [hg202]; rfl) ?_
         refine dj_p 62 94 hb.bd rfl rfl rfl rfl rfl (by rw [hg202]; rfl) ?_
         refine dj_p 63 94 hb.bd rfl rfl rfl rfl rfl (by rw [hg202]; rfl) ?_
         refine dj_h 64 (.bool true) hb.bd rfl (fun w1 ρ1 hw1 => ev_pick_t rfl hg202 rfl) ?_
         refine dj_h 65 (.bool true) hb.bd rfl (fun w1 ρ1 hw1 => ev_move rfl) ?_
         refine dj_p 66 100 hb.bd rfl rfl rfl rfl rfl rfl ?_
         refine dj_p 67 100 hb.bd rfl rfl rfl rfl rfl rfl ?_
         refine dj_p 68 100 hb.bd rfl rfl rfl rfl rfl rfl ?_
         refine dj_p 69 100 hb.bd rfl rfl rfl rfl rfl rfl ?_
         refine dj_p 70 100 hb.bd rfl rfl rfl rfl rfl rfl ?_
         refine dj_h 71 (.bool true) hb.bd rfl (fun w1 ρ1 hw1 => ev_pick_t rfl rfl rfl) ?_
         refine dj_done rfl (by as_aux_lemma => kernel_rfl) ?_
         refine ke_weaken (l' := [(1, .pointer (some ⟨g1, 0, none⟩)), (17, v27), (18, .int .i64 2), (19, .int .i64 0), (106, .bool true)]) (.cons rfl (.cons rfl (.cons rfl (.cons rfl (.cons rfl (.nil _)))))) ?_
         refine ke_cond (t := true) rfl (fun _ => ?_) (fun h => by cases h)
         refine ke_seq ?_
         refine ke_region ?_
         refine sr_ev (v := .bool false) (ev_assign rfl) (by decide) ?_
         refine sr_end (l' := [(2, .bool false)]) (.cons rfl (.nil _)) ?_
         cases hS
         exact ke_ret1 Tryz.func8 rfl rfl ⟨_, rfl, rfl, (hb.below (flat1_le _))⟩
        ·replace hS := ite_false' hS hg202
         refine dj_hg 60 (.pointer none) hb.bd rfl rfl rfl hg202 (fun w1 ρ1 hw1 => ev_move rfl) ?_
         refine dj_hg 61 (.pointer (some ⟨g1, 2, none⟩)) hb.bd rfl rfl rfl hg202 (fun w1 ρ1 hw1 => ev_fieldAddr (i := 2) Tryz.underlying33 rfl Tryz.info9 rfl rfl) ?_
         refine dj_hg 62 (str o_0.User) hb.bd rfl rfl rfl hg202 (fun w1 ρ1 hw1 => ev_load Tryz.isAgg9 rfl ((hB5.mv (hw1.mv (i := 3) rfl)).cell rfl)) ?_
         refine dj_E 63 (by as_aux_lemma => kernel_rfl) rfl ?_
         have jt203 : Tr ρ23 w199 (fun _ => false) ρ23 w199 := (Tr.refl hb.bd).weak (fun _ _ => rfl) rfl rfl
         obtain ⟨y204, hy205, hS⟩ := bind_some' hS
         refine sr_callg (b := false) (e := 94) rfl rfl hg202 (vs := [.pointer none, str o_0.User]) rfl Tryz.call35 rfl (login_Logins_Drop__nil_ok _ (hg.fr hz hb) (ρA := ρ23) hb.bd (hz.fr hg hb) hy205) (by decide) ?_
         rintro _ w206 ⟨rfl, hbw207⟩
         have htr208 := Tr.of_below hbw207 hb.bd
         replace h28 := h28.mv htr208.rd
         replace hB26 := hB26.mv (htr208.mv (i := 100) rfl)
         replace hB5 := hB5.mv (htr208.mv (i := 3) rfl)
         replace hb := hb.trans htr208
         replace jt203 := (jt203.trans htr208).weak (J' := (fun _ => false)) (by intro t h; simp [rng] at h ⊢ <;> omega) rfl rfl
         refine dj_next (l' := [(1, .pointer (some ⟨g1, 0, none⟩)), (5, .pointer none), (17, v27), (18, .int .i64 2), (19, .int .i64 0), (94, .bool y197), (98, .bool y204)]) rfl (.cons rfl (.cons rfl (.cons rfl (.cons rfl (.cons rfl (.cons rfl (.cons rfl (.nil _)))))))) jt203 (by intro t h; simp [rng] at h ⊢ <;> omega) rfl rfl ?_
         refine dj_h 64 (.bool y204) hb.bd rfl (fun w1 ρ1 hw1 => ev_pick_f rfl hg202 rfl) ?_
         refine dj_h 65 (.bool y204) hb.bd rfl (fun w1 ρ1 hw1 => ev_move rfl) ?_
         rcases Bool.eq_false_or_eq_true (y204) with hg209 | hg209
         ·replace hS := ite_true' hS hg209
          refine dj_p 66 100 hb.bd rfl rfl rfl rfl rfl (by rw [hg209]; rfl) ?_
          refine dj_p 67 100 hb.bd rfl rfl rfl rfl rfl (by rw [hg209]; rfl) ?_
          refine dj_p 68 100 hb.bd rfl rfl rfl rfl rfl (by rw [hg209]; rfl) ?_
          refine dj_p 69 100 hb.bd rfl rfl rfl rfl rfl (by rw [hg209]; rfl) ?_
          refine dj_p 70 100 hb.bd rfl rfl rfl rfl rfl (by rw [hg209]; rfl) ?_
          refine dj_h 71 (.bool true) hb.bd rfl (fun w1 ρ1 hw1 => ev_pick_t rfl hg209 rfl) ?_
          refine dj_done rfl (by as_aux_lemma => kernel_rfl) ?_
          refine ke_weaken (l' := [(1, .pointer (some ⟨g1, 0, none⟩)), (17, v27), (18, .int .i64 2), (19, .int .i64 0), (106, .bool true)]) (.cons rfl (.cons rfl (.cons rfl (.cons rfl (.cons rfl (.nil _)))))) ?_
          refine ke_cond (t := true) rfl (fun _ => ?_) (fun h => by cases h)
          refine ke_seq ?_
          refine ke_region ?_
          refine sr_ev (v := .bool false) (ev_assign rfl) (by decide) ?_
          refine sr_end (l' := [(2, .bool false)]) (.cons rfl (.nil _)) ?_
          cases hS
          exact ke_ret1 Tryz.func8 rfl rfl ⟨_, rfl, rfl, (hb.below (flat1_le _))⟩
         ·replace hS := ite_false' hS hg209
          refine dj_hg 66 (.pointer none) hb.bd rfl rfl rfl hg209 (fun w1 ρ1 hw1 => ev_move rfl) ?_
          refine dj_hg 67 (.pointer (some ⟨g1, 8, none⟩)) hb.bd rfl rfl rfl hg209 (fun w1 ρ1 hw1 => ev_fieldAddr (i := 8) Tryz.underlying33 rfl Tryz.info3 rfl rfl) ?_
          refine dj_hg 68 (.int .i64 o_0.Now) hb.bd rfl rfl rfl hg209 (fun w1 ρ1 hw1 => ev_load Tryz.isAgg3 rfl ((hB5.mv (hw1.mv (i := 3) rfl)).cell rfl)) ?_
          refine dj_E 69 (by as_aux_lemma => kernel_rfl) rfl ?_
          have jt210 : Tr ρ23 w206 (fun _ => false) ρ23 w206 := (Tr.refl hb.bd).weak (fun _ _ => rfl) rfl rfl
          obtain ⟨y211, hy212, hS⟩ := bind_some' hS
          refine sr_callg (b := false) (e := 100) rfl rfl hg209 (vs := [.pointer none, .int .i64 o_0.Now]) rfl Tryz.call37 rfl (login_Logins_Open__nil_ok _ (hg.fr hz hb) (ρA := ρ23) hb.bd (hz.fr hg hb) hy212) (by decide) ?_
          rintro _ w213 ⟨rfl, hbw214⟩
          have htr215 := Tr.of_below hbw214 hb.bd
          replace h28 := h28.mv htr215.rd
          replace hB26 := hB26.mv (htr215.mv (i := 100) rfl)
          replace hB5 := hB5.mv (htr215.mv (i := 3) rfl)
          replace hb := hb.trans htr215
          replace jt210 := (jt210.trans htr215).weak (J' := (fun _ => false)) (by intro t h; simp [rng] at h ⊢ <;> omega) rfl rfl
          refine dj_next (l' := [(1, .pointer (some ⟨g1, 0, none⟩)), (17, v27), (18, .int .i64 2), (19, .int .i64 0), (100, .bool y204), (104, .int .i64 y211)]) rfl (.cons rfl (.cons rfl (.cons rfl (.cons rfl (.cons rfl (.cons rfl (.nil _))))))) jt210 (by intro t h; simp [rng] at h ⊢ <;> omega) rfl rfl ?_
          refine dj_hg 70 (.bool (y211 != 0)) hb.bd rfl rfl rfl hg209 (fun w1 ρ1 hw1 => ev_ne rfl rfl) ?_
          refine dj_h 71 (.bool (y211 != 0)) hb.bd rfl (fun w1 ρ1 hw1 => ev_pick_f rfl hg209 rfl) ?_
          refine dj_done rfl (by as_aux_lemma => kernel_rfl) ?_
          refine ke_weaken (l' := [(1, .pointer (some ⟨g1, 0, none⟩)), (17, v27), (18, .int .i64 2), (19, .int .i64 0), (106, .bool (y211 != 0))]) (.cons rfl (.cons rfl (.cons rfl (.cons rfl (.cons rfl (.nil _)))))) ?_
          refine ke_cond (t := y211 != 0) rfl (fun hc216 => ?_) (fun hc216 => ?_)
          ·replace hS := ite_true' hS hc216
           refine ke_seq ?_
           refine ke_region ?_
           refine sr_ev (v := .bool false) (ev_assign rfl) (by decide) ?_
           refine sr_end (l' := [(2, .bool false)]) (.cons rfl (.nil _)) ?_
           cases hS
           exact ke_ret1 Tryz.func8 rfl rfl ⟨_, rfl, rfl, (hb.below (flat1_le _))⟩
          ·replace hS := ite_false' hS hc216
           refine ke_skip ?_
           refine ke_inBlock ?_
           refine ke_region ?_
           refine sr_ev (v := .int .i64 1) (ev_addc rfl rfl (by decide)) (by decide) ?_
           refine sr_ev (v := .int .i64 1) (ev_move rfl) (by decide) ?_
           refine sr_end (l' := [(1, .pointer (some ⟨g1, 0, none⟩)), (17, v27), (18, .int .i64 2), (19, .int .i64 1)]) (.cons rfl (.cons rfl (.cons rfl (.cons rfl (.nil _))))) ?_
           refine ke_inLoop ?_
           refine ke_seq ?_
           refine ke_region ?_
           refine sr_ev (v := .bool true) (ev_ltc rfl rfl (by decide)) (by decide) ?_
           refine sr_end (l' := [(1, .pointer (some ⟨g1, 0, none⟩)), (17, v27), (18, .int .i64 2), (19, .int .i64 1), (20, .bool true)]) (.cons rfl (.cons rfl (.cons rfl (.cons rfl (.cons rfl (.nil _)))))) ?_
           refine ke_seq ?_
           refine ke_cond (t := true) rfl (fun _ => ?_) (fun h => by cases h)
           refine ke_skip ?_
           refine ke_seq ?_
           refine ke_block ?_
           refine ke_seq ?_
           refine ke_region ?_
           obtain ⟨b217, o218, cs220, hq221, he219⟩ := ((SlT.of_sl (i := 0) h28)).elem (P := Tryz.prog) (z := (some g22)) (q := 1) Tryz.underlying70 Tryz.info25 rfl rfl
           obtain rfl : cs220 = [.pointer (some ⟨g22, 0, none⟩)] := he219.rd
           refine sr_ev (v := .pointer (some ⟨b217, o218, none⟩)) (hq221 w213 rfl rfl) (by decide) ?_
           refine sr_ev (v := .pointer (some ⟨g22, 0, none⟩)) (ev_load Tryz.isAgg25 rfl (he219.cell 0 _ rfl)) (by decide) ?_
           refine sr_ev (v := .pointer (some ⟨g22, 0, none⟩)) (ev_assign rfl) (by decide) ?_
           refine sr_end (l' := [(1, .pointer (some ⟨g1, 0, none⟩)), (5, .pointer (some ⟨g22, 0, none⟩)), (17, v27), (18, .int .i64 2), (19, .int .i64 1)]) (.cons rfl (.cons rfl (.cons rfl (.cons rfl (.cons rfl (.nil _)))))) ?_
           refine ke_seq ?_
           refine ke_region ?_
           refine sr_ev (v := .pointer (some ⟨g22, 0, none⟩)) (ev_move rfl) (by decide) ?_
           refine sr_ev (v := .pointer (some ⟨g1, 1, none⟩)) (ev_fieldAddr (i := 1) Tryz.underlying33 rfl Tryz.info9 rfl rfl) (by decide) ?_
           refine sr_ev (v := str o_0.ID) (ev_load Tryz.isAgg9 rfl (hB5.cell rfl)) (by decide) ?_
           refine sr_ev (v := .pointer (some ⟨g1, 6, none⟩)) (ev_fieldAddr (i := 6) Tryz.underlying33 rfl Tryz.info3 rfl rfl) (by decide) ?_
           refine sr_ev (v := .int .i64 o_0.Level) (ev_load Tryz.isAgg3 rfl (hB5.cell rfl)) (by decide) ?_
           refine sr_ev (v := .pointer (some ⟨g1, 8, none⟩)) (ev_fieldAddr (i := 8) Tryz.underlying33 rfl Tryz.info3 rfl rfl) (by decide) ?_
           refine sr_ev (v := .int .i64 o_0.Now) (ev_load Tryz.isAgg3 rfl (hB5.cell rfl)) (by decide) ?_
           obtain ⟨y222, hy223, hS⟩ := bind_some' hS
           refine sr_call (vs := [.pointer (some ⟨g22, 0, none⟩), str o_0.ID, .int .i64 o_0.Level, .int .i64 o_0.Now]) rfl Tryz.call17 rfl (login_Logins_Finish_ok _ (hg.fr hz hb) (ρA := ρ23) hb.bd (hz.fr hg hb) (o := 100) (by decide) (⟨_, _, _, _, hB26, PtrO.nil, MapT.nil, MapT.nil, MapT.nil⟩ : login_Logins.O (fun p => 100 + p) ρ23 w213 g22 (login_Logins.mk none (none : GMap Str login_credentials) (none : GMap Str Int) (none : GMap Str login_attempt))) hy223) (by decide) ?_
           rintro _ w224 ⟨ρ238, v227, rfl, h228, ⟨v229, v231, v233, v235, hB237, hP230, h232, h234, h236⟩, htr226⟩
           replace h28 := h28.mv htr226.rd
           replace hB5 := hB5.mv (htr226.mv (i := 3) rfl)
           replace hb := hb.trans htr226
           replace hB237 : Blk ρ238 100 w224 g22 (.cells #[v229, v231, v233, v235] 69 (0, 0)) := hB237
           replace hP230 : PtrO secret_Locks.O (fun q => 100 + (1 + q)) ρ238 w224 v229 y222.2.2.2.locks := hP230
           replace h232 : MapT str login_credentials.c true ρ238 104 w224 v231 y222.2.2.2.users := h232
           replace h234 : MapT str (intC .i64) false ρ238 105 w224 v233 y222.2.2.2.counters := h234
           replace h236 : MapT str login_attempt.c true ρ238 106 w224 v235 y222.2.2.2.attempts := h236
           refine sr_ev (v := .tuple #[str y222.1, v227, .int .i64 y222.2.2.1]) (ev_move rfl) (by decide) ?_
           refine sr_ev (v := str y222.1) (ev_extract rfl rfl) (by decide) ?_
           refine sr_ev (v := v227) (ev_extract rfl rfl) (by decide) ?_
           refine sr_ev (v := .int .i64 y222.2.2.1) (ev_extract rfl rfl) (by decide) ?_
           refine sr_ev (v := str y222.1) (ev_assign rfl) (by decide) ?_
           refine sr_ev (v := v227) (ev_assign rfl) (by decide) ?_
           refine sr_ev (v := .int .i64 y222.2.2.1) (ev_assign rfl) (by decide) ?_
           refine sr_end (l' := [(1, .pointer (some ⟨g1, 0, none⟩)), (5, .pointer (some ⟨g22, 0, none⟩)), (7, v227), (8, .int .i64 y222.2.2.1), (17, v27), (18, .int .i64 2), (19, .int .i64 1)]) (.cons rfl (.cons rfl (.cons rfl (.cons rfl (.cons rfl (.cons rfl (.cons rfl (.nil _)))))))) ?_
           refine ke_seq ?_
           refine ke_region_j (ρ := ρ238) (fun t => ([100, 101, 102, 103, 104, 105, 106] : List Nat).contains t) 72 Tryz.mixed (fun w240 hw239 => ?_)
           have htr241 := Tr.of_below hw239 hb.bd
           replace h28 := h28.mv htr241.rd
           replace h228 := h228.mv htr241.rd
           replace hB237 := hB237.mv (htr241.mv (i := 100) rfl)
           replace hP230 := PtrO.mv hP230 secret_Locks.objK (fun p hp => htr241.mv (i := 100 + (1 + p)) (by rcases p with _ | _ | _ | p <;> first | rfl | omega)) (fun p hp => by show 100 + (1 + p) ≠ 0; omega)
           replace h232 := h232.mv (htr241.mv (i := 104) rfl)
           replace h234 := h234.mv (htr241.mv (i := 105) rfl)
           replace h236 := h236.mv (htr241.mv (i := 106) rfl)
           replace hB5 := hB5.mv (htr241.mv (i := 3) rfl)
           replace hb := hb.trans htr241
           refine dj_h 0 (.int .i64 y222.2.2.1) hb.bd rfl (fun w1 ρ1 hw1 => ev_move rfl) ?_
           refine dj_h 1 (.bool (y222.2.2.1 != 1)) hb.bd rfl (fun w1 ρ1 hw1 => ev_ne rfl rfl) ?_
           refine dj_h 2 (.bool (y222.2.2.1 != 1)) hb.bd rfl (fun w1 ρ1 hw1 => ev_move rfl) ?_
           rcases Bool.eq_false_or_eq_true (y222.2.2.1 != 1) with hg455 | hg455
           ·replace hS := ite_true' hS hg455
            refine dj_p 3 37 hb.bd rfl rfl rfl rfl rfl (by rw [hg455]; rfl) ?_
            refine dj_p 4 37 hb.bd rfl rfl rfl rfl rfl (by rw [hg455]; rfl) ?_
            refine dj_p 5 37 hb.bd rfl rfl rfl rfl rfl (by rw [hg455]; rfl) ?_
            refine dj_h 6 (.bool true) hb.bd rfl (fun w1 ρ1 hw1 => ev_pick_t rfl hg455 rfl) ?_
            refine dj_h 7 (.bool true) hb.bd rfl (fun w1 ρ1 hw1 => ev_move rfl) ?_
            refine dj_p 8 42 hb.bd rfl rfl rfl rfl rfl rfl ?_
            refine dj_p 9 42 hb.bd rfl rfl rfl rfl rfl rfl ?_
            refine dj_p 10 42 hb.bd rfl rfl rfl rfl rfl rfl ?_
            refine dj_p 11 42 hb.bd rfl rfl rfl rfl rfl rfl ?_
            refine dj_p 12 42 hb.bd rfl rfl rfl rfl rfl rfl ?_
            refine dj_p 13 42 hb.bd rfl rfl rfl rfl rfl rfl ?_
            refine dj_p 14 42 hb.bd rfl rfl rfl rfl rfl rfl ?_
            refine dj_p 15 42 hb.bd rfl rfl rfl rfl rfl rfl ?_
            refine dj_p 16 42 hb.bd rfl rfl rfl rfl rfl rfl ?_
            refine dj_h 17 (.bool true) hb.bd rfl (fun w1 ρ1 hw1 => ev_pick_t rfl rfl rfl) ?_
            refine dj_h 18 (.bool true) hb.bd rfl (fun w1 ρ1 hw1 => ev_move rfl) ?_
            refine dj_p 19 53 hb.bd rfl rfl rfl rfl rfl rfl ?_
            refine dj_p 20 53 hb.bd rfl rfl rfl rfl rfl rfl ?_
            refine dj_p 21 53 hb.bd rfl rfl rfl rfl rfl rfl ?_
            refine dj_p 22 53 hb.bd rfl rfl rfl rfl rfl rfl ?_
            refine dj_p 23 53 hb.bd rfl rfl rfl rfl rfl rfl ?_
            refine dj_p 24 53 hb.bd rfl rfl rfl rfl rfl rfl ?_
            refine dj_p 25 53 hb.bd rfl rfl rfl rfl rfl rfl ?_
            refine dj_p 26 53 hb.bd rfl rfl rfl rfl rfl rfl ?_
            refine dj_p 27 53 hb.bd rfl rfl rfl rfl rfl rfl ?_
            refine dj_h 28 (.bool true) hb.bd rfl (fun w1 ρ1 hw1 => ev_pick_t rfl rfl rfl) ?_
            refine dj_h 29 (.bool true) hb.bd rfl (fun w1 ρ1 hw1 => ev_move rfl) ?_
            refine dj_p 30 64 hb.bd rfl rfl rfl rfl rfl rfl ?_
            refine dj_p 31 64 hb.bd rfl rfl rfl rfl rfl rfl ?_
            refine dj_p 32 64 hb.bd rfl rfl rfl rfl rfl rfl ?_
            refine dj_p 33 64 hb.bd rfl rfl rfl rfl rfl rfl ?_
            refine dj_p 34 64 hb.bd rfl rfl rfl rfl rfl rfl ?_
            refine dj_p 35 64 hb.bd rfl rfl rfl rfl rfl rfl ?_
            refine dj_p 36 64 hb.bd rfl rfl rfl rfl rfl rfl ?_
            refine dj_p 37 64 hb.bd rfl rfl rfl rfl rfl rfl ?_
            refine dj_p 38 64 hb.bd rfl rfl rfl rfl rfl rfl ?_
            refine dj_h 39 (.bool true) hb.bd rfl (fun w1 ρ1 hw1 => ev_pick_t rfl rfl rfl) ?_
            refine dj_h 40 (.bool true) hb.bd rfl (fun w1 ρ1 hw1 => ev_move rfl) ?_
            refine dj_p 41 75 hb.bd rfl rfl rfl rfl rfl rfl ?_
            refine dj_p 42 75 hb.bd rfl rfl rfl rfl rfl rfl ?_
            refine dj_p 43 75 hb.bd rfl rfl rfl rfl rfl rfl ?_
            refine dj_p 44 75 hb.bd rfl rfl rfl rfl rfl rfl ?_
            refine dj_p 45 75 hb.bd rfl rfl rfl rfl rfl rfl ?_
            refine dj_p 46 75 hb.bd rfl rfl rfl rfl rfl rfl ?_
            refine dj_p 47 75 hb.bd rfl rfl rfl rfl rfl rfl ?_
            refine dj_p 48 75 hb.bd rfl rfl rfl rfl rfl rfl ?_
            refine dj_p 49 75 hb.bd rfl rfl rfl rfl rfl rfl ?_
            refine dj_h 50 (.bool true) hb.bd rfl (fun w1 ρ1 hw1 => ev_pick_t rfl rfl rfl) ?_
            refine dj_h 51 (.bool true) hb.bd rfl (fun w1 ρ1 hw1 => ev_move rfl) ?_
            refine dj_p 52 86 hb.bd rfl rfl rfl rfl rfl rfl ?_
            refine dj_p 53 86 hb.bd rfl rfl rfl rfl rfl rfl ?_
            refine dj_p 54 86 hb.bd rfl rfl rfl rfl rfl rfl ?_
            refine dj_p 55 86 hb.bd rfl rfl rfl rfl rfl rfl ?_
            refine dj_p 56 86 hb.bd rfl rfl rfl rfl rfl rfl ?_
            refine dj_p 57 86 hb.bd rfl rfl rfl rfl rfl rfl ?_
            refine dj_h 58 (.bool true) hb.bd rfl (fun w1 ρ1 hw1 => ev_pick_t rfl rfl rfl) ?_
            refine dj_h 59 (.bool true) hb.bd rfl (fun w1 ρ1 hw1 => ev_move rfl) ?_
            refine dj_p 60 94 hb.bd rfl rfl rfl rfl rfl rfl ?_
            refine dj_p 61 94 hb.bd rfl rfl rfl rfl rfl rfl ?_
            refine dj_p 62 94 hb.bd rfl rfl rfl rfl rfl rfl ?_
            refine dj_p 63 94 hb.bd rfl rfl rfl rfl rfl rfl ?_
            refine dj_h 64 (.bool true) hb.bd rfl (fun w1 ρ1 hw1 => ev_pick_t rfl rfl rfl) ?_
            refine dj_h 65 (.bool true) hb.bd rfl (fun w1 ρ1 hw1 => ev_move rfl) ?_
            refine dj_p 66 100 hb.bd rfl rfl rfl rfl rfl rfl ?_
            refine dj_p 67 100 hb.bd rfl rfl rfl rfl rfl rfl ?_
            refine dj_p 68 100 hb.bd rfl rfl rfl rfl rfl rfl ?_
            refine dj_p 69 100 hb.bd rfl rfl rfl rfl rfl rfl ?_
            refine dj_p 70 100 hb.bd rfl rfl rfl rfl rfl rfl ?_
            refine dj_h 71 (.bool true) hb.bd rfl (fun w1 ρ1 hw1 => ev_pick_t rfl rfl rfl) ?_
            refine dj_done rfl (by as_aux_lemma => kernel_rfl) ?_
            refine ke_weaken (l' := [(1, .pointer (some ⟨g1, 0, none⟩)), (17, v27), (18, .int .i64 2), (19, .int .i64 1), (106, .bool true)]) (.cons rfl (.cons rfl (.cons rfl (.cons rfl (.cons rfl (.nil _)))))) ?_
            refine ke_cond (t := true) rfl (fun _ => ?_) (fun h => by cases h)
            refine ke_seq ?_
            refine ke_region ?_
            refine sr_ev (v := .bool false) (ev_assign rfl) (by decide) ?_
            refine sr_end (l' := [(2, .bool false)]) (.cons rfl (.nil _)) ?_
            cases hS
            exact ke_ret1 Tryz.func8 rfl rfl ⟨_, rfl, rfl, (hb.below (flat1_le _))⟩
           ·replace hS := ite_false' hS hg455
            refine dj_hg 3 v227 hb.bd rfl rfl rfl hg455 (fun w1 ρ1 hw1 => ev_move rfl) ?_
            refine dj_hg 4 (.int .i64 (y222.2.1.length : Int)) hb.bd rfl rfl rfl hg455 (fun w1 ρ1 hw1 => ev_sllenW Tryz.underlying36 rfl h228.asSl) ?_
            refine dj_hg 5 (.bool ((y222.2.1.length : Int) != 0)) hb.bd rfl rfl rfl hg455 (fun w1 ρ1 hw1 => ev_ne rfl rfl) ?_
            refine dj_h 6 (.bool ((y222.2.1.length : Int) != 0)) hb.bd rfl (fun w1 ρ1 hw1 => ev_pick_f rfl hg455 rfl) ?_
            refine dj_h 7 (.bool ((y222.2.1.length : Int) != 0)) hb.bd rfl (fun w1 ρ1 hw1 => ev_move rfl) ?_
            rcases Bool.eq_false_or_eq_true ((y222.2.1.length : Int) != 0) with hg456 | hg456
            ·replace hS := ite_true' hS hg456
             refine dj_p 8 42 hb.bd rfl rfl rfl rfl rfl (by rw [hg456]; rfl) ?_
             refine dj_p 9 42 hb.bd rfl rfl rfl rfl rfl (by rw [hg456]; rfl) ?_
             refine dj_p 10 42 hb.bd rfl rfl rfl rfl rfl (by rw [hg456]; rfl) ?_
             refine dj_p 11 42 hb.bd rfl rfl rfl rfl rfl (by rw [hg456]; rfl) ?_
             refine dj_p 12 42 hb.bd rfl rfl rfl rfl rfl (by rw [hg456]; rfl) ?_
             refine dj_p 13 42 hb.bd rfl rfl rfl rfl rfl (by rw [hg456]; rfl) ?_
             refine dj_p 14 42 hb.bd rfl rfl rfl rfl rfl (by rw [hg456]; rfl) ?_
             refine dj_p 15 42 hb.bd rfl rfl rfl rfl rfl (by rw [hg456]; rfl) ?_
             refine dj_p 16 42 hb.bd rfl rfl rfl rfl rfl (by rw [hg456]; rfl) ?_
             refine dj_h 17 (.bool true) hb.bd rfl (fun w1 ρ1 hw1 => ev_pick_t rfl hg456 rfl) ?_
             refine dj_h 18 (.bool true) hb.bd rfl (fun w1 ρ1 hw1 => ev_move rfl) ?_
             refine dj_p 19 53 hb.bd rfl rfl rfl rfl rfl rfl ?_
             refine dj_p 20 53 hb.bd rfl rfl rfl rfl rfl rfl ?_
             refine dj_p 21 53 hb.bd rfl rfl rfl rfl rfl rfl ?_
             refine dj_p 22 53 hb.bd rfl rfl rfl rfl rfl rfl ?_
             refine dj_p 23 53 hb.bd rfl rfl rfl rfl rfl rfl ?_
             refine dj_p 24 53 hb.bd rfl rfl rfl rfl rfl rfl ?_
             refine dj_p 25 53 hb.bd rfl rfl rfl rfl rfl rfl ?_
             refine dj_p 26 53 hb.bd rfl rfl rfl rfl rfl rfl ?_
             refine dj_p 27 53 hb.bd rfl rfl rfl rfl rfl rfl ?_
             refine dj_h 28 (.bool true) hb.bd rfl (fun w1 ρ1 hw1 => ev_pick_t rfl rfl rfl) ?_
             refine dj_h 29 (.bool true) hb.bd rfl (fun w1 ρ1 hw1 => ev_move rfl) ?_
             refine dj_p 30 64 hb.bd rfl rfl rfl rfl rfl rfl ?_
             refine dj_p 31 64 hb.bd rfl rfl rfl rfl rfl rfl ?_
             refine dj_p 32 64 hb.bd rfl rfl rfl rfl rfl rfl ?_
             refine dj_p 33 64 hb.bd rfl rfl rfl rfl rfl rfl ?_
             refine dj_p 34 64 hb.bd rfl rfl rfl rfl rfl rfl ?_
             refine dj_p 35 64 hb.bd rfl rfl rfl rfl rfl rfl ?_
             refine dj_p 36 64 hb.bd rfl rfl rfl rfl rfl rfl ?_
             refine dj_p 37 64 hb.bd rfl rfl rfl rfl rfl rfl ?_
             refine dj_p 38 64 hb.bd rfl rfl rfl rfl rfl rfl ?_
             refine dj_h 39 (.bool true) hb.bd rfl (fun w1 ρ1 hw1 => ev_pick_t rfl rfl rfl) ?_
             refine dj_h 40 (.bool true) hb.bd rfl (fun w1 ρ1 hw1 => ev_move rfl) ?_
             refine dj_p 41 75 hb.bd rfl rfl rfl rfl rfl rfl ?_
             refine dj_p 42 75 hb.bd rfl rfl rfl rfl rfl rfl ?_
             refine dj_p 43 75 hb.bd rfl rfl rfl rfl rfl rfl ?_
             refine dj_p 44 75 hb.bd rfl rfl rfl rfl rfl rfl ?_
             refine dj_p 45 75 hb.bd rfl rfl rfl rfl rfl rfl ?_
             refine dj_p 46 75 hb.bd rfl rfl rfl rfl rfl rfl ?_
             refine dj_p 47 75 hb.bd rfl rfl rfl rfl rfl rfl ?_
             refine dj_p 48 75 hb.bd rfl rfl rfl rfl rfl rfl ?_
             refine dj_p 49 75 hb.bd rfl rfl rfl rfl rfl rfl ?_
             refine dj_h 50 (.bool true) hb.bd rfl (fun w1 ρ1 hw1 => ev_pick_t rfl rfl rfl) ?_
             refine dj_h 51 (.bool true) hb.bd rfl (fun w1 ρ1 hw1 => ev_move rfl) ?_
             refine dj_p 52 86 hb.bd rfl rfl rfl rfl rfl rfl ?_
             refine dj_p 53 86 hb.bd rfl rfl rfl rfl rfl rfl ?_
             refine dj_p 54 86 hb.bd rfl rfl rfl rfl rfl rfl ?_
             refine dj_p 55 86 hb.bd rfl rfl rfl rfl rfl rfl ?_
             refine dj_p 56 86 hb.bd rfl rfl rfl rfl rfl rfl ?_
             refine dj_p 57 86 hb.bd rfl rfl rfl rfl rfl rfl ?_
             refine dj_h 58 (.bool true) hb.bd rfl (fun w1 ρ1 hw1 => ev_pick_t rfl rfl rfl) ?_
             refine dj_h 59 (.bool true) hb.bd rfl (fun w1 ρ1 hw1 => ev_move rfl) ?_
             refine dj_p 60 94 hb.bd rfl rfl rfl rfl rfl rfl ?_
             refine dj_p 61 94 hb.bd rfl rfl rfl rfl rfl rfl ?_
             refine dj_p 62 94 hb.bd rfl rfl rfl rfl rfl rfl ?_
             refine dj_p 63 94 hb.bd rfl rfl rfl rfl rfl rfl ?_
             refine dj_h 64 (.bool true) hb.bd rfl (fun w1 ρ1 hw1 => ev_pick_t rfl rfl rfl) ?_
             refine dj_h 65 (.bool true) hb.bd rfl (fun w1 ρ1 hw1 => ev_move rfl) ?_
             refine dj_p 66 100 hb.bd rfl rfl rfl rfl rfl rfl ?_
             refine dj_p 67 100 hb.bd rfl rfl rfl rfl rfl rfl ?_
             refine dj_p 68 100 hb.bd rfl rfl rfl rfl rfl rfl ?_
             refine dj_p 69 100 hb.bd rfl rfl rfl rfl rfl rfl ?_
             refine dj_p 70 100 hb.bd rfl rfl rfl rfl rfl rfl ?_
             refine dj_h 71 (.bool true) hb.bd rfl (fun w1 ρ1 hw1 => ev_pick_t rfl rfl rfl) ?_
             refine dj_done rfl (by as_aux_lemma => kernel_rfl) ?_
             refine ke_weaken (l' := [(1, .pointer (some ⟨g1, 0, none⟩)), (17, v27), (18, .int .i64 2), (19, .int .i64 1), (106, .bool true)]) (.cons rfl (.cons rfl (.cons rfl (.cons rfl (.cons rfl (.nil _)))))) ?_
             refine ke_cond (t := true) rfl (fun _ => ?_) (fun h => by cases h)
             refine ke_seq ?_
             refine ke_region ?_
             refine sr_ev (v := .bool false) (ev_assign rfl) (by decide) ?_
             refine sr_end (l' := [(2, .bool false)]) (.cons rfl (.nil _)) ?_
             cases hS
             exact ke_ret1 Tryz.func8 rfl rfl ⟨_, rfl, rfl, (hb.below (flat1_le _))⟩
            ·replace hS := ite_false' hS hg456
             refine dj_hg 8 (.pointer (some ⟨g22, 0, none⟩)) hb.bd rfl rfl rfl hg456 (fun w1 ρ1 hw1 => ev_move rfl) ?_
             refine dj_hg 9 (.pointer (some ⟨g1, 2, none⟩)) hb.bd rfl rfl rfl hg456 (fun w1 ρ1 hw1 => ev_fieldAddr (i := 2) Tryz.underlying33 rfl Tryz.info9 rfl rfl) ?_
             refine dj_hg 10 (str o_0.User) hb.bd rfl rfl rfl hg456 (fun w1 ρ1 hw1 => ev_load Tryz.isAgg9 rfl ((hB5.mv (hw1.mv (i := 3) rfl)).cell rfl)) ?_
             refine dj_hg 11 (.agg #[.int .i64 o_0.Kind, str o_0.ID, str o_0.User, str o_0.Word, str o_0.Code, str o_0.S, .int .i64 o_0.Level, .int .i64 o_0.Rounds, .int .i64 o_0.Now]) hb.bd rfl rfl rfl hg456 (fun w1 ρ1 hw1 => ev_loads (cs := [.int .i64 o_0.Kind, str o_0.ID, str o_0.User, str o_0.Word, str o_0.Code, str o_0.S, .int .i64 o_0.Level, .int .i64 o_0.Rounds, .int .i64 o_0.Now]) Tryz.isAgg33 Tryz.sizeOf33 rfl ((hB5.mv (hw1.mv (i := 3) rfl)).cells (vs := [.int .i64 o_0.Kind, str o_0.ID, str o_0.User, str o_0.Word, str o_0.Code, str o_0.S, .int .i64 o_0.Level, .int .i64 o_0.Rounds, .int .i64 o_0.Now]) rfl)) ?_
             refine dj_hg 13 (.pointer (some ⟨g1, 4, none⟩)) hb.bd rfl rfl rfl hg456 (fun w1 ρ1 hw1 => ev_fieldAddr (i := 4) Tryz.underlying33 rfl Tryz.info9 rfl rfl) ?_
             refine dj_hg 14 (str o_0.Code) hb.bd rfl rfl rfl hg456 (fun w1 ρ1 hw1 => ev_load Tryz.isAgg9 rfl ((hB5.mv (hw1.mv (i := 3) rfl)).cell rfl)) ?_
             refine dj_E 12 (by as_aux_lemma => kernel_rfl) rfl ?_
             have jt457 : Tr ρ238 w240 (fun t => ([100, 101, 102, 103, 104, 105, 106] : List Nat).contains t) ρ238 w240 := (Tr.refl hb.bd).weak (fun _ _ => rfl) rfl rfl
             obtain ⟨y458, hy459, hS⟩ := bind_some' hS
             refine sr_callg (b := false) (e := 42) rfl rfl hg456 (vs := [.agg #[.int .i64 o_0.Kind, str o_0.ID, str o_0.User, str o_0.Word, str o_0.Code, str o_0.S, .int .i64 o_0.Level, .int .i64 o_0.Rounds, .int .i64 o_0.Now]]) rfl Tryz.call26 rfl (law39_verifier_ok _ (hg.fr hz hb) hy459) (by decide) ?_
             rintro _ w460 ⟨rfl, hbw461⟩
             have htr462 := Tr.of_below hbw461 hb.bd
             replace h28 := h28.mv htr462.rd
             replace hB237 := hB237.mv (htr462.mv (i := 100) rfl)
             replace hP230 := PtrO.mv hP230 secret_Locks.objK (fun p hp => htr462.mv (i := 100 + (1 + p)) (by rcases p with _ | _ | _ | p <;> first | rfl | omega)) (fun p hp => by show 100 + (1 + p) ≠ 0; omega)
             replace h232 := h232.mv (htr462.mv (i := 104) rfl)
             replace h234 := h234.mv (htr462.mv (i := 105) rfl)
             replace h236 := h236.mv (htr462.mv (i := 106) rfl)
             replace hB5 := hB5.mv (htr462.mv (i := 3) rfl)
             replace hb := hb.trans htr462
             replace jt457 := (jt457.trans htr462).weak (J' := (fun t => ([100, 101, 102, 103, 104, 105, 106] : List Nat).contains t)) (by intro t h; simp [rng] at h ⊢ <;> omega) rfl rfl
             refine dj_next (l' := [(1, .pointer (some ⟨g1, 0, none⟩)), (5, .pointer (some ⟨g22, 0, none⟩)), (17, v27), (18, .int .i64 2), (19, .int .i64 1), (42, .bool ((y222.2.1.length : Int) != 0)), (43, .pointer (some ⟨g22, 0, none⟩)), (45, str o_0.User), (47, .agg #[str y458.Salt, .int .i64 y458.Rounds, str y458.Hash]), (49, str o_0.Code)]) rfl (.cons rfl (.cons rfl (.cons rfl (.cons rfl (.cons rfl (.cons rfl (.cons rfl (.cons rfl (.cons rfl (.cons rfl (.nil _))))))))))) jt457 (by intro t h; simp [rng] at h ⊢ <;> omega) rfl rfl ?_
             refine dj_E 15 (by as_aux_lemma => kernel_rfl) rfl ?_
             have jt463 : Tr ρ238 w460 (fun t => ([100, 101, 102, 103, 104, 105, 106] : List Nat).contains t) ρ238 w460 := (Tr.refl hb.bd).weak (fun _ _ => rfl) rfl rfl
             obtain ⟨y464, hy465, hS⟩ := bind_some' hS
             refine sr_callg (b := false) (e := 42) rfl rfl hg456 (vs := [.pointer (some ⟨g22, 0, none⟩), str o_0.User, .agg #[str y458.Salt, .int .i64 y458.Rounds, str y458.Hash], str o_0.Code]) rfl Tryz.call25 rfl (login_Logins_Enroll_ok _ (hg.fr hz hb) (ρA := ρ238) hb.bd (hz.fr hg hb) (o := 100) (by decide) (⟨_, _, _, _, hB237, hP230, h232, h234, h236⟩ : login_Logins.O (fun p => 100 + p) ρ238 w460 g22 y222.2.2.2) hy465) (by decide) ?_
             rintro _ w466 ⟨ρ478, rfl, ⟨v469, v471, v473, v475, hB477, hP470, h472, h474, h476⟩, htr468⟩
             replace h28 := h28.mv htr468.rd
             replace hB5 := hB5.mv (htr468.mv (i := 3) rfl)
             replace hb := hb.trans htr468
             replace jt463 := (jt463.trans htr468).weak (J' := (fun t => ([100, 101, 102, 103, 104, 105, 106] : List Nat).contains t)) (by intro t h; simp [rng] at h ⊢ <;> omega) rfl rfl
             replace hB477 : Blk ρ478 100 w466 g22 (.cells #[v469, v471, v473, v475] 69 (0, 0)) := hB477
             replace hP470 : PtrO secret_Locks.O (fun q => 100 + (1 + q)) ρ478 w466 v469 y464.2.locks := hP470
             replace h472 : MapT str login_credentials.c true ρ478 104 w466 v471 y464.2.users := h472
             replace h474 : MapT str (intC .i64) false ρ478 105 w466 v473 y464.2.counters := h474
             replace h476 : MapT str login_attempt.c true ρ478 106 w466 v475 y464.2.attempts := h476
             refine dj_next (l' := [(1, .pointer (some ⟨g1, 0, none⟩)), (5, .pointer (some ⟨g22, 0, none⟩)), (17, v27), (18, .int .i64 2), (19, .int .i64 1), (42, .bool ((y222.2.1.length : Int) != 0)), (50, .int .i64 y464.1)]) rfl (.cons rfl (.cons rfl (.cons rfl (.cons rfl (.cons rfl (.cons rfl (.cons rfl (.nil _)))))))) jt463 (by intro t h; simp [rng] at h ⊢ <;> omega) rfl rfl ?_
             refine dj_hg 16 (.bool (y464.1 != 1)) hb.bd rfl rfl rfl hg456 (fun w1 ρ1 hw1 => ev_ne rfl rfl) ?_
             refine dj_h 17 (.bool (y464.1 != 1)) hb.bd rfl (fun w1 ρ1 hw1 => ev_pick_f rfl hg456 rfl) ?_
             refine dj_h 18 (.bool (y464.1 != 1)) hb.bd rfl (fun w1 ρ1 hw1 => ev_move rfl) ?_
             rcases Bool.eq_false_or_eq_true (y464.1 != 1) with hg479 | hg479
             ·replace hS := ite_true' hS hg479
              refine dj_p 19 53 hb.bd rfl rfl rfl rfl rfl (by rw [hg479]; rfl) ?_
              refine dj_p 20 53 hb.bd rfl rfl rfl rfl rfl (by rw [hg479]; rfl) ?_
              refine dj_p 21 53 hb.bd rfl rfl rfl rfl rfl (by rw [hg479]; rfl) ?_
              refine dj_p 22 53 hb.bd rfl rfl rfl rfl rfl (by rw [hg479]; rfl) ?_
              refine dj_p 23 53 hb.bd rfl rfl rfl rfl rfl (by rw [hg479]; rfl) ?_
              refine dj_p 24 53 hb.bd rfl rfl rfl rfl rfl (by rw [hg479]; rfl) ?_
              refine dj_p 25 53 hb.bd rfl rfl rfl rfl rfl (by rw [hg479]; rfl) ?_
              refine dj_p 26 53 hb.bd rfl rfl rfl rfl rfl (by rw [hg479]; rfl) ?_
              refine dj_p 27 53 hb.bd rfl rfl rfl rfl rfl (by rw [hg479]; rfl) ?_
              refine dj_h 28 (.bool true) hb.bd rfl (fun w1 ρ1 hw1 => ev_pick_t rfl hg479 rfl) ?_
              refine dj_h 29 (.bool true) hb.bd rfl (fun w1 ρ1 hw1 => ev_move rfl) ?_
              refine dj_p 30 64 hb.bd rfl rfl rfl rfl rfl rfl ?_
              refine dj_p 31 64 hb.bd rfl rfl rfl rfl rfl rfl ?_
              refine dj_p 32 64 hb.bd rfl rfl rfl rfl rfl rfl ?_
              refine dj_p 33 64 hb.bd rfl rfl rfl rfl rfl rfl ?_
              refine dj_p 34 64 hb.bd rfl rfl rfl rfl rfl rfl ?_
              refine dj_p 35 64 hb.bd rfl rfl rfl rfl rfl rfl ?_
              refine dj_p 36 64 hb.bd rfl rfl rfl rfl rfl rfl ?_
              refine dj_p 37 64 hb.bd rfl rfl rfl rfl rfl rfl ?_
              refine dj_p 38 64 hb.bd rfl rfl rfl rfl rfl rfl ?_
              refine dj_h 39 (.bool true) hb.bd rfl (fun w1 ρ1 hw1 => ev_pick_t rfl rfl rfl) ?_
              refine dj_h 40 (.bool true) hb.bd rfl (fun w1 ρ1 hw1 => ev_move rfl) ?_
              refine dj_p 41 75 hb.bd rfl rfl rfl rfl rfl rfl ?_
              refine dj_p 42 75 hb.bd rfl rfl rfl rfl rfl rfl ?_
              refine dj_p 43 75 hb.bd rfl rfl rfl rfl rfl rfl ?_
              refine dj_p 44 75 hb.bd rfl rfl rfl rfl rfl rfl ?_
              refine dj_p 45 75 hb.bd rfl rfl rfl rfl rfl rfl ?_
              refine dj_p 46 75 hb.bd rfl rfl rfl rfl rfl rfl ?_
              refine dj_p 47 75 hb.bd rfl rfl rfl rfl rfl rfl ?_
              refine dj_p 48 75 hb.bd rfl rfl rfl rfl rfl rfl ?_
              refine dj_p 49 75 hb.bd rfl rfl rfl rfl rfl rfl ?_
              refine dj_h 50 (.bool true) hb.bd rfl (fun w1 ρ1 hw1 => ev_pick_t rfl rfl rfl) ?_
              refine dj_h 51 (.bool true) hb.bd rfl (fun w1 ρ1 hw1 => ev_move rfl) ?_
              refine dj_p 52 86 hb.bd rfl rfl rfl rfl rfl rfl ?_
              refine dj_p 53 86 hb.bd rfl rfl rfl rfl rfl rfl ?_
              refine dj_p 54 86 hb.bd rfl rfl rfl rfl rfl rfl ?_
              refine dj_p 55 86 hb.bd rfl rfl rfl rfl rfl rfl ?_
              refine dj_p 56 86 hb.bd rfl rfl rfl rfl rfl rfl ?_
              refine dj_p 57 86 hb.bd rfl rfl rfl rfl rfl rfl ?_
              refine dj_h 58 (.bool true) hb.bd rfl (fun w1 ρ1 hw1 => ev_pick_t rfl rfl rfl) ?_
              refine dj_h 59 (.bool true) hb.bd rfl (fun w1 ρ1 hw1 => ev_move rfl) ?_
              refine dj_p 60 94 hb.bd rfl rfl rfl rfl rfl rfl ?_
              refine dj_p 61 94 hb.bd rfl rfl rfl rfl rfl rfl ?_
              refine dj_p 62 94 hb.bd rfl rfl rfl rfl rfl rfl ?_
              refine dj_p 63 94 hb.bd rfl rfl rfl rfl rfl rfl ?_
              refine dj_h 64 (.bool true) hb.bd rfl (fun w1 ρ1 hw1 => ev_pick_t rfl rfl rfl) ?_
              refine dj_h 65 (.bool true) hb.bd rfl (fun w1 ρ1 hw1 => ev_move rfl) ?_
              refine dj_p 66 100 hb.bd rfl rfl rfl rfl rfl rfl ?_
              refine dj_p 67 100 hb.bd rfl rfl rfl rfl rfl rfl ?_
              refine dj_p 68 100 hb.bd rfl rfl rfl rfl rfl rfl ?_
              refine dj_p 69 100 hb.bd rfl rfl rfl rfl rfl rfl ?_
              refine dj_p 70 100 hb.bd rfl rfl rfl rfl rfl rfl ?_
              refine dj_h 71 (.bool true) hb.bd rfl (fun w1 ρ1 hw1 => ev_pick_t rfl rfl rfl) ?_
              refine dj_done rfl (by as_aux_lemma => kernel_rfl) ?_
              refine ke_weaken (l' := [(1, .pointer (some ⟨g1, 0, none⟩)), (17, v27), (18, .int .i64 2), (19, .int .i64 1), (106, .bool true)]) (.cons rfl (.cons rfl (.cons rfl (.cons rfl (.cons rfl (.nil _)))))) ?_
              refine ke_cond (t := true) rfl (fun _ => ?_) (fun h => by cases h)
              refine ke_seq ?_
              refine ke_region ?_
              refine sr_ev (v := .bool false) (ev_assign rfl) (by decide) ?_
              refine sr_end (l' := [(2, .bool false)]) (.cons rfl (.nil _)) ?_
              cases hS
              exact ke_ret1 Tryz.func8 rfl rfl ⟨_, rfl, rfl, (hb.below (flat1_le _))⟩
             ·replace hS := ite_false' hS hg479
              refine dj_hg 19 (.pointer (some ⟨g22, 0, none⟩)) hb.bd rfl rfl rfl hg479 (fun w1 ρ1 hw1 => ev_move rfl) ?_
              refine dj_hg 20 (.pointer (some ⟨g1, 1, none⟩)) hb.bd rfl rfl rfl hg479 (fun w1 ρ1 hw1 => ev_fieldAddr (i := 1) Tryz.underlying33 rfl Tryz.info9 rfl rfl) ?_
              refine dj_hg 21 (str o_0.ID) hb.bd rfl rfl rfl hg479 (fun w1 ρ1 hw1 => ev_load Tryz.isAgg9 rfl ((hB5.mv (hw1.mv (i := 3) rfl)).cell rfl)) ?_
              refine dj_hg 22 (.pointer (some ⟨g1, 2, none⟩)) hb.bd rfl rfl rfl hg479 (fun w1 ρ1 hw1 => ev_fieldAddr (i := 2) Tryz.underlying33 rfl Tryz.info9 rfl rfl) ?_
              refine dj_hg 23 (str o_0.User) hb.bd rfl rfl rfl hg479 (fun w1 ρ1 hw1 => ev_load Tryz.isAgg9 rfl ((hB5.mv (hw1.mv (i := 3) rfl)).cell rfl)) ?_
              refine dj_hg 24 (.pointer (some ⟨g1, 8, none⟩)) hb.bd rfl rfl rfl hg479 (fun w1 ρ1 hw1 => ev_fieldAddr (i := 8) Tryz.underlying33 rfl Tryz.info3 rfl rfl) ?_
              refine dj_hg 25 (.int .i64 o_0.Now) hb.bd rfl rfl rfl hg479 (fun w1 ρ1 hw1 => ev_load Tryz.isAgg3 rfl ((hB5.mv (hw1.mv (i := 3) rfl)).cell rfl)) ?_
              refine dj_E 26 (by as_aux_lemma => kernel_rfl) rfl ?_
              have jt480 : Tr ρ478 w466 (fun t => ([100, 101, 102, 103, 104, 105, 106] : List Nat).contains t) ρ478 w466 := (Tr.refl hb.bd).weak (fun _ _ => rfl) rfl rfl
              obtain ⟨y481, hy482, hS⟩ := bind_some' hS
              refine sr_callg (b := false) (e := 53) rfl rfl hg479 (vs := [.pointer (some ⟨g22, 0, none⟩), str o_0.ID, str o_0.User, .int .i64 o_0.Now]) rfl Tryz.call14 rfl (login_Logins_Begin_ok _ (hg.fr hz hb) (ρA := ρ478) hb.bd (hz.fr hg hb) (o := 100) (by decide) (⟨_, _, _, _, hB477, hP470, h472, h474, h476⟩ : login_Logins.O (fun p => 100 + p) ρ478 w466 g22 y464.2) hy482) (by decide) ?_
              rintro _ w483 ⟨ρ495, rfl, ⟨v486, v488, v490, v492, hB494, hP487, h489, h491, h493⟩, htr485⟩
              replace h28 := h28.mv htr485.rd
              replace hB5 := hB5.mv (htr485.mv (i := 3) rfl)
              replace hb := hb.trans htr485
              replace jt480 := (jt480.trans htr485).weak (J' := (fun t => ([100, 101, 102, 103, 104, 105, 106] : List Nat).contains t)) (by intro t h; simp [rng] at h ⊢ <;> omega) rfl rfl
              replace hB494 : Blk ρ495 100 w483 g22 (.cells #[v486, v488, v490, v492] 69 (0, 0)) := hB494
              replace hP487 : PtrO secret_Locks.O (fun q => 100 + (1 + q)) ρ495 w483 v486 y481.2.locks := hP487
              replace h489 : MapT str login_credentials.c true ρ495 104 w483 v488 y481.2.users := h489
              replace h491 : MapT str (intC .i64) false ρ495 105 w483 v490 y481.2.counters := h491
              replace h493 : MapT str login_attempt.c true ρ495 106 w483 v492 y481.2.attempts := h493
              refine dj_next (l' := [(1, .pointer (some ⟨g1, 0, none⟩)), (5, .pointer (some ⟨g22, 0, none⟩)), (17, v27), (18, .int .i64 2), (19, .int .i64 1), (53, .bool (y464.1 != 1)), (61, .int .i64 y481.1)]) rfl (.cons rfl (.cons rfl (.cons rfl (.cons rfl (.cons rfl (.cons rfl (.cons rfl (.nil _)))))))) jt480 (by intro t h; simp [rng] at h ⊢ <;> omega) rfl rfl ?_
              refine dj_hg 27 (.bool (y481.1 != 1)) hb.bd rfl rfl rfl hg479 (fun w1 ρ1 hw1 => ev_ne rfl rfl) ?_
              refine dj_h 28 (.bool (y481.1 != 1)) hb.bd rfl (fun w1 ρ1 hw1 => ev_pick_f rfl hg479 rfl) ?_
              refine dj_h 29 (.bool (y481.1 != 1)) hb.bd rfl (fun w1 ρ1 hw1 => ev_move rfl) ?_
              rcases Bool.eq_false_or_eq_true (y481.1 != 1) with hg496 | hg496
              ·replace hS := ite_true' hS hg496
               refine dj_p 30 64 hb.bd rfl rfl rfl rfl rfl (by rw [hg496]; rfl) ?_
               refine dj_p 31 64 hb.bd rfl rfl rfl rfl rfl (by rw [hg496]; rfl) ?_
               refine dj_p 32 64 hb.bd rfl rfl rfl rfl rfl (by rw [hg496]; rfl) ?_
               refine dj_p 33 64 hb.bd rfl rfl rfl rfl rfl (by rw [hg496]; rfl) ?_
               refine dj_p 34 64 hb.bd rfl rfl rfl rfl rfl (by rw [hg496]; rfl) ?_
               refine dj_p 35 64 hb.bd rfl rfl rfl rfl rfl (by rw [hg496]; rfl) ?_
               refine dj_p 36 64 hb.bd rfl rfl rfl rfl rfl (by rw [hg496]; rfl) ?_
               refine dj_p 37 64 hb.bd rfl rfl rfl rfl rfl (by rw [hg496]; rfl) ?_
               refine dj_p 38 64 hb.bd rfl rfl rfl rfl rfl (by rw [hg496]; rfl) ?_
               refine dj_h 39 (.bool true) hb.bd rfl (fun w1 ρ1 hw1 => ev_pick_t rfl hg496 rfl) ?_
               refine dj_h 40 (.bool true) hb.bd rfl (fun w1 ρ1 hw1 => ev_move rfl) ?_
               refine dj_p 41 75 hb.bd rfl rfl rfl rfl rfl rfl ?_
               refine dj_p 42 75 hb.bd rfl rfl rfl rfl rfl rfl ?_
               refine dj_p 43 75 hb.bd rfl rfl rfl rfl rfl rfl ?_
               refine dj_p 44 75 hb.bd rfl rfl rfl rfl rfl rfl ?_
               refine dj_p 45 75 hb.bd rfl rfl rfl rfl rfl rfl ?_
               refine dj_p 46 75 hb.bd rfl rfl rfl rfl rfl rfl ?_
               refine dj_p 47 75 hb.bd rfl rfl rfl rfl rfl rfl ?_
               refine dj_p 48 75 hb.bd rfl rfl rfl rfl rfl rfl ?_
               refine dj_p 49 75 hb.bd rfl rfl rfl rfl rfl rfl ?_
               refine dj_h 50 (.bool true) hb.bd rfl (fun w1 ρ1 hw1 => ev_pick_t rfl rfl rfl) ?_
               refine dj_h 51 (.bool true) hb.bd rfl (fun w1 ρ1 hw1 => ev_move rfl) ?_
               refine dj_p 52 86 hb.bd rfl rfl rfl rfl rfl rfl ?_
               refine dj_p 53 86 hb.bd rfl rfl rfl rfl rfl rfl ?_
               refine dj_p 54 86 hb.bd rfl rfl rfl rfl rfl rfl ?_
               refine dj_p 55 86 hb.bd rfl rfl rfl rfl rfl rfl ?_
               refine dj_p 56 86 hb.bd rfl rfl rfl rfl rfl rfl ?_
               refine dj_p 57 86 hb.bd rfl rfl rfl rfl rfl rfl ?_
               refine dj_h 58 (.bool true) hb.bd rfl (fun w1 ρ1 hw1 => ev_pick_t rfl rfl rfl) ?_
               refine dj_h 59 (.bool true) hb.bd rfl (fun w1 ρ1 hw1 => ev_move rfl) ?_
               refine dj_p 60 94 hb.bd rfl rfl rfl rfl rfl rfl ?_
               refine dj_p 61 94 hb.bd rfl rfl rfl rfl rfl rfl ?_
               refine dj_p 62 94 hb.bd rfl rfl rfl rfl rfl rfl ?_
               refine dj_p 63 94 hb.bd rfl rfl rfl rfl rfl rfl ?_
               refine dj_h 64 (.bool true) hb.bd rfl (fun w1 ρ1 hw1 => ev_pick_t rfl rfl rfl) ?_
               refine dj_h 65 (.bool true) hb.bd rfl (fun w1 ρ1 hw1 => ev_move rfl) ?_
               refine dj_p 66 100 hb.bd rfl rfl rfl rfl rfl rfl ?_
               refine dj_p 67 100 hb.bd rfl rfl rfl rfl rfl rfl ?_
               refine dj_p 68 100 hb.bd rfl rfl rfl rfl rfl rfl ?_
               refine dj_p 69 100 hb.bd rfl rfl rfl rfl rfl rfl ?_
               refine dj_p 70 100 hb.bd rfl rfl rfl rfl rfl rfl ?_
               refine dj_h 71 (.bool true) hb.bd rfl (fun w1 ρ1 hw1 => ev_pick_t rfl rfl rfl) ?_
               refine dj_done rfl (by as_aux_lemma => kernel_rfl) ?_
               refine ke_weaken (l' := [(1, .pointer (some ⟨g1, 0, none⟩)), (17, v27), (18, .int .i64 2), (19, .int .i64 1), (106, .bool true)]) (.cons rfl (.cons rfl (.cons rfl (.cons rfl (.cons rfl (.nil _)))))) ?_
               refine ke_cond (t := true) rfl (fun _ => ?_) (fun h => by cases h)
               refine ke_seq ?_
               refine ke_region ?_
               refine sr_ev (v := .bool false) (ev_assign rfl) (by decide) ?_
               refine sr_end (l' := [(2, .bool false)]) (.cons rfl (.nil _)) ?_
               cases hS
               exact ke_ret1 Tryz.func8 rfl rfl ⟨_, rfl, rfl, (hb.below (flat1_le _))⟩
              ·replace hS := ite_false' hS hg496
               refine dj_hg 30 (.pointer (some ⟨g22, 0, none⟩)) hb.bd rfl rfl rfl hg496 (fun w1 ρ1 hw1 => ev_move rfl) ?_
               refine dj_hg 31 (.pointer (some ⟨g1, 1, none⟩)) hb.bd rfl rfl rfl hg496 (fun w1 ρ1 hw1 => ev_fieldAddr (i := 1) Tryz.underlying33 rfl Tryz.info9 rfl rfl) ?_
               refine dj_hg 32 (str o_0.ID) hb.bd rfl rfl rfl hg496 (fun w1 ρ1 hw1 => ev_load Tryz.isAgg9 rfl ((hB5.mv (hw1.mv (i := 3) rfl)).cell rfl)) ?_
               refine dj_hg 33 (.pointer (some ⟨g1, 3, none⟩)) hb.bd rfl rfl rfl hg496 (fun w1 ρ1 hw1 => ev_fieldAddr (i := 3) Tryz.underlying33 rfl Tryz.info9 rfl rfl) ?_
               refine dj_hg 34 (str o_0.Word) hb.bd rfl rfl rfl hg496 (fun w1 ρ1 hw1 => ev_load Tryz.isAgg9 rfl ((hB5.mv (hw1.mv (i := 3) rfl)).cell rfl)) ?_
               refine dj_hg 35 (.pointer (some ⟨g1, 8, none⟩)) hb.bd rfl rfl rfl hg496 (fun w1 ρ1 hw1 => ev_fieldAddr (i := 8) Tryz.underlying33 rfl Tryz.info3 rfl rfl) ?_
               refine dj_hg 36 (.int .i64 o_0.Now) hb.bd rfl rfl rfl hg496 (fun w1 ρ1 hw1 => ev_load Tryz.isAgg3 rfl ((hB5.mv (hw1.mv (i := 3) rfl)).cell rfl)) ?_
               refine dj_E 37 (by as_aux_lemma => kernel_rfl) rfl ?_
               have jt497 : Tr ρ495 w483 (fun t => ([100, 101, 102, 103, 104, 105, 106] : List Nat).contains t) ρ495 w483 := (Tr.refl hb.bd).weak (fun _ _ => rfl) rfl rfl
               obtain ⟨y498, hy499, hS⟩ := bind_some' hS
               refine sr_callg (b := false) (e := 64) rfl rfl hg496 (vs := [.pointer (some ⟨g22, 0, none⟩), str o_0.ID, str o_0.Word, .int .i64 o_0.Now]) rfl Tryz.call19 rfl (login_Logins_Password_ok _ (hg.fr hz hb) (ρA := ρ495) hb.bd (hz.fr hg hb) (o := 100) (by decide) (⟨_, _, _, _, hB494, hP487, h489, h491, h493⟩ : login_Logins.O (fun p => 100 + p) ρ495 w483 g22 y481.2) hy499) (by decide) ?_
               rintro _ w500 ⟨ρ512, rfl, ⟨v503, v505, v507, v509, hB511, hP504, h506, h508, h510⟩, htr502⟩
               replace h28 := h28.mv htr502.rd
               replace hB5 := hB5.mv (htr502.mv (i := 3) rfl)
               replace hb := hb.trans htr502
               replace jt497 := (jt497.trans htr502).weak (J' := (fun t => ([100, 101, 102, 103, 104, 105, 106] : List Nat).contains t)) (by intro t h; simp [rng] at h ⊢ <;> omega) rfl rfl
               replace hB511 : Blk ρ512 100 w500 g22 (.cells #[v503, v505, v507, v509] 69 (0, 0)) := hB511
               replace hP504 : PtrO secret_Locks.O (fun q => 100 + (1 + q)) ρ512 w500 v503 y498.2.locks := hP504
               replace h506 : MapT str login_credentials.c true ρ512 104 w500 v505 y498.2.users := h506
               replace h508 : MapT str (intC .i64) false ρ512 105 w500 v507 y498.2.counters := h508
               replace h510 : MapT str login_attempt.c true ρ512 106 w500 v509 y498.2.attempts := h510
               refine dj_next (l' := [(1, .pointer (some ⟨g1, 0, none⟩)), (5, .pointer (some ⟨g22, 0, none⟩)), (17, v27), (18, .int .i64 2), (19, .int .i64 1), (64, .bool (y481.1 != 1)), (72, .int .i64 y498.1)]) rfl (.cons rfl (.cons rfl (.cons rfl (.cons rfl (.cons rfl (.cons rfl (.cons rfl (.nil _)))))))) jt497 (by intro t h; simp [rng] at h ⊢ <;> omega) rfl rfl ?_
               refine dj_hg 38 (.bool (y498.1 != 1)) hb.bd rfl rfl rfl hg496 (fun w1 ρ1 hw1 => ev_ne rfl rfl) ?_
               refine dj_h 39 (.bool (y498.1 != 1)) hb.bd rfl (fun w1 ρ1 hw1 => ev_pick_f rfl hg496 rfl) ?_
               refine dj_h 40 (.bool (y498.1 != 1)) hb.bd rfl (fun w1 ρ1 hw1 => ev_move rfl) ?_
               rcases Bool.eq_false_or_eq_true (y498.1 != 1) with hg513 | hg513
               ·replace hS := ite_true' hS hg513
                refine dj_p 41 75 hb.bd rfl rfl rfl rfl rfl (by rw [hg513]; rfl) ?_
                refine dj_p 42 75 hb.bd rfl rfl rfl rfl rfl (by rw [hg513]; rfl) ?_
                refine dj_p 43 75 hb.bd rfl rfl rfl rfl rfl (by rw [hg513]; rfl) ?_
                refine dj_p 44 75 hb.bd rfl rfl rfl rfl rfl (by rw [hg513]; rfl) ?_
                refine dj_p 45 75 hb.bd rfl rfl rfl rfl rfl (by rw [hg513]; rfl) ?_
                refine dj_p 46 75 hb.bd rfl rfl rfl rfl rfl (by rw [hg513]; rfl) ?_
                refine dj_p 47 75 hb.bd rfl rfl rfl rfl rfl (by rw [hg513]; rfl) ?_
                refine dj_p 48 75 hb.bd rfl rfl rfl rfl rfl (by rw [hg513]; rfl) ?_
                refine dj_p 49 75 hb.bd rfl rfl rfl rfl rfl (by rw [hg513]; rfl) ?_
                refine dj_h 50 (.bool true) hb.bd rfl (fun w1 ρ1 hw1 => ev_pick_t rfl hg513 rfl) ?_
                refine dj_h 51 (.bool true) hb.bd rfl (fun w1 ρ1 hw1 => ev_move rfl) ?_
                refine dj_p 52 86 hb.bd rfl rfl rfl rfl rfl rfl ?_
                refine dj_p 53 86 hb.bd rfl rfl rfl rfl rfl rfl ?_
                refine dj_p 54 86 hb.bd rfl rfl rfl rfl rfl rfl ?_
                refine dj_p 55 86 hb.bd rfl rfl rfl rfl rfl rfl ?_
                refine dj_p 56 86 hb.bd rfl rfl rfl rfl rfl rfl ?_
                refine dj_p 57 86 hb.bd rfl rfl rfl rfl rfl rfl ?_
                refine dj_h 58 (.bool true) hb.bd rfl (fun w1 ρ1 hw1 => ev_pick_t rfl rfl rfl) ?_
                refine dj_h 59 (.bool true) hb.bd rfl (fun w1 ρ1 hw1 => ev_move rfl) ?_
                refine dj_p 60 94 hb.bd rfl rfl rfl rfl rfl rfl ?_
                refine dj_p 61 94 hb.bd rfl rfl rfl rfl rfl rfl ?_
                refine dj_p 62 94 hb.bd rfl rfl rfl rfl rfl rfl ?_
                refine dj_p 63 94 hb.bd rfl rfl rfl rfl rfl rfl ?_
                refine dj_h 64 (.bool true) hb.bd rfl (fun w1 ρ1 hw1 => ev_pick_t rfl rfl rfl) ?_
                refine dj_h 65 (.bool true) hb.bd rfl (fun w1 ρ1 hw1 => ev_move rfl) ?_
                refine dj_p 66 100 hb.bd rfl rfl rfl rfl rfl rfl ?_
                refine dj_p 67 100 hb.bd rfl rfl rfl rfl rfl rfl ?_
                refine dj_p 68 100 hb.bd rfl rfl rfl rfl rfl rfl ?_
                refine dj_p 69 100 hb.bd rfl rfl rfl rfl rfl rfl ?_
                refine dj_p 70 100 hb.bd rfl rfl rfl rfl rfl rfl ?_
                refine dj_h 71 (.bool true) hb.bd rfl (fun w1 ρ1 hw1 => ev_pick_t rfl rfl rfl) ?_
                refine dj_done rfl (by as_aux_lemma => kernel_rfl) ?_
                refine ke_weaken (l' := [(1, .pointer (some ⟨g1, 0, none⟩)), (17, v27), (18, .int .i64 2), (19, .int .i64 1), (106, .bool true)]) (.cons rfl (.cons rfl (.cons rfl (.cons rfl (.cons rfl (.nil _)))))) ?_
                refine ke_cond (t := true) rfl (fun _ => ?_) (fun h => by cases h)
                refine ke_seq ?_
                refine ke_region ?_
                refine sr_ev (v := .bool false) (ev_assign rfl) (by decide) ?_
                refine sr_end (l' := [(2, .bool false)]) (.cons rfl (.nil _)) ?_
                cases hS
                exact ke_ret1 Tryz.func8 rfl rfl ⟨_, rfl, rfl, (hb.below (flat1_le _))⟩
               ·replace hS := ite_false' hS hg513
                refine dj_hg 41 (.pointer (some ⟨g22, 0, none⟩)) hb.bd rfl rfl rfl hg513 (fun w1 ρ1 hw1 => ev_move rfl) ?_
                refine dj_hg 42 (.pointer (some ⟨g1, 1, none⟩)) hb.bd rfl rfl rfl hg513 (fun w1 ρ1 hw1 => ev_fieldAddr (i := 1) Tryz.underlying33 rfl Tryz.info9 rfl rfl) ?_
                refine dj_hg 43 (str o_0.ID) hb.bd rfl rfl rfl hg513 (fun w1 ρ1 hw1 => ev_load Tryz.isAgg9 rfl ((hB5.mv (hw1.mv (i := 3) rfl)).cell rfl)) ?_
                refine dj_hg 44 (.pointer (some ⟨g1, 4, none⟩)) hb.bd rfl rfl rfl hg513 (fun w1 ρ1 hw1 => ev_fieldAddr (i := 4) Tryz.underlying33 rfl Tryz.info9 rfl rfl) ?_
                refine dj_hg 45 (str o_0.Code) hb.bd rfl rfl rfl hg513 (fun w1 ρ1 hw1 => ev_load Tryz.isAgg9 rfl ((hB5.mv (hw1.mv (i := 3) rfl)).cell rfl)) ?_
                refine dj_hg 46 (.pointer (some ⟨g1, 8, none⟩)) hb.bd rfl rfl rfl hg513 (fun w1 ρ1 hw1 => ev_fieldAddr (i := 8) Tryz.underlying33 rfl Tryz.info3 rfl rfl) ?_
                refine dj_hg 47 (.int .i64 o_0.Now) hb.bd rfl rfl rfl hg513 (fun w1 ρ1 hw1 => ev_load Tryz.isAgg3 rfl ((hB5.mv (hw1.mv (i := 3) rfl)).cell rfl)) ?_
                refine dj_E 48 (by as_aux_lemma => kernel_rfl) rfl ?_
                have jt514 : Tr ρ512 w500 (fun t => ([100, 101, 102, 103, 104, 105, 106] : List Nat).contains t) ρ512 w500 := (Tr.refl hb.bd).weak (fun _ _ => rfl) rfl rfl
                obtain ⟨y515, hy516, hS⟩ := bind_some' hS
                refine sr_callg (b := false) (e := 75) rfl rfl hg513 (vs := [.pointer (some ⟨g22, 0, none⟩), str o_0.ID, str o_0.Code, .int .i64 o_0.Now]) rfl Tryz.call15 rfl (login_Logins_Code_ok _ (hg.fr hz hb) (ρA := ρ512) hb.bd (hz.fr hg hb) (o := 100) (by decide) (⟨_, _, _, _, hB511, hP504, h506, h508, h510⟩ : login_Logins.O (fun p => 100 + p) ρ512 w500 g22 y498.2) hy516) (by decide) ?_
                rintro _ w517 ⟨ρ529, rfl, ⟨v520, v522, v524, v526, hB528, hP521, h523, h525, h527⟩, htr519⟩
                replace h28 := h28.mv htr519.rd
                replace hB5 := hB5.mv (htr519.mv (i := 3) rfl)
                replace hb := hb.trans htr519
                replace jt514 := (jt514.trans htr519).weak (J' := (fun t => ([100, 101, 102, 103, 104, 105, 106] : List Nat).contains t)) (by intro t h; simp [rng] at h ⊢ <;> omega) rfl rfl
                replace hB528 : Blk ρ529 100 w517 g22 (.cells #[v520, v522, v524, v526] 69 (0, 0)) := hB528
                replace hP521 : PtrO secret_Locks.O (fun q => 100 + (1 + q)) ρ529 w517 v520 y515.2.locks := hP521
                replace h523 : MapT str login_credentials.c true ρ529 104 w517 v522 y515.2.users := h523
                replace h525 : MapT str (intC .i64) false ρ529 105 w517 v524 y515.2.counters := h525
                replace h527 : MapT str login_attempt.c true ρ529 106 w517 v526 y515.2.attempts := h527
                refine dj_next (l' := [(1, .pointer (some ⟨g1, 0, none⟩)), (5, .pointer (some ⟨g22, 0, none⟩)), (17, v27), (18, .int .i64 2), (19, .int .i64 1), (75, .bool (y498.1 != 1)), (83, .int .i64 y515.1)]) rfl (.cons rfl (.cons rfl (.cons rfl (.cons rfl (.cons rfl (.cons rfl (.cons rfl (.nil _)))))))) jt514 (by intro t h; simp [rng] at h ⊢ <;> omega) rfl rfl ?_
                refine dj_hg 49 (.bool (y515.1 != 1)) hb.bd rfl rfl rfl hg513 (fun w1 ρ1 hw1 => ev_ne rfl rfl) ?_
                refine dj_h 50 (.bool (y515.1 != 1)) hb.bd rfl (fun w1 ρ1 hw1 => ev_pick_f rfl hg513 rfl) ?_
                refine dj_h 51 (.bool (y515.1 != 1)) hb.bd rfl (fun w1 ρ1 hw1 => ev_move rfl) ?_
                rcases Bool.eq_false_or_eq_true (y515.1 != 1) with hg530 | hg530
                ·replace hS := ite_true' hS hg530
                 refine dj_p 52 86 hb.bd rfl rfl rfl rfl rfl (by rw [hg530]; rfl) ?_
                 refine dj_p 53 86 hb.bd rfl rfl rfl rfl rfl (by rw [hg530]; rfl) ?_
                 refine dj_p 54 86 hb.bd rfl rfl rfl rfl rfl (by rw [hg530]; rfl) ?_
                 refine dj_p 55 86 hb.bd rfl rfl rfl rfl rfl (by rw [hg530]; rfl) ?_
                 refine dj_p 56 86 hb.bd rfl rfl rfl rfl rfl (by rw [hg530]; rfl) ?_
                 refine dj_p 57 86 hb.bd rfl rfl rfl rfl rfl (by rw [hg530]; rfl) ?_
                 refine dj_h 58 (.bool true) hb.bd rfl (fun w1 ρ1 hw1 => ev_pick_t rfl hg530 rfl) ?_
                 refine dj_h 59 (.bool true) hb.bd rfl (fun w1 ρ1 hw1 => ev_move rfl) ?_
                 refine dj_p 60 94 hb.bd rfl rfl rfl rfl rfl rfl ?_
                 refine dj_p 61 94 hb.bd rfl rfl rfl rfl rfl rfl ?_
                 refine dj_p 62 94 hb.bd rfl rfl rfl rfl rfl rfl ?_
                 refine dj_p 63 94 hb.bd rfl rfl rfl rfl rfl rfl ?_
                 refine dj_h 64 (.bool true) hb.bd rfl (fun w1 ρ1 hw1 => ev_pick_t rfl rfl rfl) ?_
                 refine dj_h 65 (.bool true) hb.bd rfl (fun w1 ρ1 hw1 => ev_move rfl) ?_
                 refine dj_p 66 100 hb.bd rfl rfl rfl rfl rfl rfl ?_
                 refine dj_p 67 100 hb.bd rfl rfl rfl rfl rfl rfl ?_
                 refine dj_p 68 100 hb.bd rfl rfl rfl rfl rfl rfl ?_
                 refine dj_p 69 100 hb.bd rfl rfl rfl rfl rfl rfl ?_
                 refine dj_p 70 100 hb.bd rfl rfl rfl rfl rfl rfl ?_
                 refine dj_h 71 (.bool true) hb.bd rfl (fun w1 ρ1 hw1 => ev_pick_t rfl rfl rfl) ?_
                 refine dj_done rfl (by as_aux_lemma => kernel_rfl) ?_
                 refine ke_weaken (l' := [(1, .pointer (some ⟨g1, 0, none⟩)), (17, v27), (18, .int .i64 2), (19, .int .i64 1), (106, .bool true)]) (.cons rfl (.cons rfl (.cons rfl (.cons rfl (.cons rfl (.nil _)))))) ?_
                 refine ke_cond (t := true) rfl (fun _ => ?_) (fun h => by cases h)
                 refine ke_seq ?_
                 refine ke_region ?_
                 refine sr_ev (v := .bool false) (ev_assign rfl) (by decide) ?_
                 refine sr_end (l' := [(2, .bool false)]) (.cons rfl (.nil _)) ?_
                 cases hS
                 exact ke_ret1 Tryz.func8 rfl rfl ⟨_, rfl, rfl, (hb.below (flat1_le _))⟩
                ·replace hS := ite_false' hS hg530
                 refine dj_hg 52 (.pointer (some ⟨g22, 0, none⟩)) hb.bd rfl rfl rfl hg530 (fun w1 ρ1 hw1 => ev_move rfl) ?_
                 refine dj_hg 53 (.pointer (some ⟨g1, 2, none⟩)) hb.bd rfl rfl rfl hg530 (fun w1 ρ1 hw1 => ev_fieldAddr (i := 2) Tryz.underlying33 rfl Tryz.info9 rfl rfl) ?_
                 refine dj_hg 54 (str o_0.User) hb.bd rfl rfl rfl hg530 (fun w1 ρ1 hw1 => ev_load Tryz.isAgg9 rfl ((hB5.mv (hw1.mv (i := 3) rfl)).cell rfl)) ?_
                 refine dj_hg 55 (.pointer (some ⟨g1, 8, none⟩)) hb.bd rfl rfl rfl hg530 (fun w1 ρ1 hw1 => ev_fieldAddr (i := 8) Tryz.underlying33 rfl Tryz.info3 rfl rfl) ?_
                 refine dj_hg 56 (.int .i64 o_0.Now) hb.bd rfl rfl rfl hg530 (fun w1 ρ1 hw1 => ev_load Tryz.isAgg3 rfl ((hB5.mv (hw1.mv (i := 3) rfl)).cell rfl)) ?_
                 refine dj_E 57 (by as_aux_lemma => kernel_rfl) rfl ?_
                 have jt531 : Tr ρ529 w517 (fun t => ([100, 101, 102, 103, 104, 105, 106] : List Nat).contains t) ρ529 w517 := (Tr.refl hb.bd).weak (fun _ _ => rfl) rfl rfl
                 obtain ⟨y532, hy533, hS⟩ := bind_some' hS
                 refine sr_callg (b := false) (e := 86) rfl rfl hg530 (vs := [.pointer (some ⟨g22, 0, none⟩), str o_0.User, .int .i64 o_0.Now]) rfl Tryz.call22 rfl (login_Logins_Locked_ok _ (hg.fr hz hb) (ρA := ρ529) hb.bd (hz.fr hg hb) (τ0 := (fun p => 100 + p)) (fun p => Nat.le_add_right_of_le (by decide)) (⟨_, _, _, _, hB528, hP521, h523, h525, h527⟩ : login_Logins.O (fun p => 100 + p) ρ529 w517 g22 y515.2) hy533) (by decide) ?_
                 rintro _ w534 ⟨rfl, hbw535⟩
                 have htr536 := Tr.of_below hbw535 hb.bd
                 replace h28 := h28.mv htr536.rd
                 replace hB528 := hB528.mv (htr536.mv (i := 100) rfl)
                 replace hP521 := PtrO.mv hP521 secret_Locks.objK (fun p hp => htr536.mv (i := 100 + (1 + p)) (by rcases p with _ | _ | _ | p <;> first | rfl | omega)) (fun p hp => by show 100 + (1 + p) ≠ 0; omega)
                 replace h523 := h523.mv (htr536.mv (i := 104) rfl)
                 replace h525 := h525.mv (htr536.mv (i := 105) rfl)
                 replace h527 := h527.mv (htr536.mv (i := 106) rfl)
                 replace hB5 := hB5.mv (htr536.mv (i := 3) rfl)
                 replace hb := hb.trans htr536
                 replace jt531 := (jt531.trans htr536).weak (J' := (fun t => ([100, 101, 102, 103, 104, 105, 106] : List Nat).contains t)) (by intro t h; simp [rng] at h ⊢ <;> omega) rfl rfl
                 refine dj_next (l' := [(1, .pointer (some ⟨g1, 0, none⟩)), (5, .pointer (some ⟨g22, 0, none⟩)), (17, v27), (18, .int .i64 2), (19, .int .i64 1), (86, .bool (y515.1 != 1)), (92, .bool y532)]) rfl (.cons rfl (.cons rfl (.cons rfl (.cons rfl (.cons rfl (.cons rfl (.cons rfl (.nil _)))))))) jt531 (by intro t h; simp [rng] at h ⊢ <;> omega) rfl rfl ?_
                 refine dj_h 58 (.bool y532) hb.bd rfl (fun w1 ρ1 hw1 => ev_pick_f rfl hg530 rfl) ?_
                 refine dj_h 59 (.bool y532) hb.bd rfl (fun w1 ρ1 hw1 => ev_move rfl) ?_
                 rcases Bool.eq_false_or_eq_true (y532) with hg537 | hg537
                 ·replace hS := ite_true' hS hg537
                  refine dj_p 60 94 hb.bd rfl rfl rfl rfl rfl (by rw [hg537]; rfl) ?_
                  refine dj_p 61 94 hb.bd rfl rfl rfl rfl rfl (by rw [hg537]; rfl) ?_
                  refine dj_p 62 94 hb.bd rfl rfl rfl rfl rfl (by rw [hg537]; rfl) ?_
                  refine dj_p 63 94 hb.bd rfl rfl rfl rfl rfl (by rw [hg537]; rfl) ?_
                  refine dj_h 64 (.bool true) hb.bd rfl (fun w1 ρ1 hw1 => ev_pick_t rfl hg537 rfl) ?_
                  refine dj_h 65 (.bool true) hb.bd rfl (fun w1 ρ1 hw1 => ev_move rfl) ?_
                  refine dj_p 66 100 hb.bd rfl rfl rfl rfl rfl rfl ?_
                  refine dj_p 67 100 hb.bd rfl rfl rfl rfl rfl rfl ?_
                  refine dj_p 68 100 hb.bd rfl rfl rfl rfl rfl rfl ?_
                  refine dj_p 69 100 hb.bd rfl rfl rfl rfl rfl rfl ?_
                  refine dj_p 70 100 hb.bd rfl rfl rfl rfl rfl rfl ?_
                  refine dj_h 71 (.bool true) hb.bd rfl (fun w1 ρ1 hw1 => ev_pick_t rfl rfl rfl) ?_
                  refine dj_done rfl (by as_aux_lemma => kernel_rfl) ?_
                  refine ke_weaken (l' := [(1, .pointer (some ⟨g1, 0, none⟩)), (17, v27), (18, .int .i64 2), (19, .int .i64 1), (106, .bool true)]) (.cons rfl (.cons rfl (.cons rfl (.cons rfl (.cons rfl (.nil _)))))) ?_
                  refine ke_cond (t := true) rfl (fun _ => ?_) (fun h => by cases h)
                  refine ke_seq ?_
                  refine ke_region ?_
                  refine sr_ev (v := .bool false) (ev_assign rfl) (by decide) ?_
                  refine sr_end (l' := [(2, .bool false)]) (.cons rfl (.nil _)) ?_
                  cases hS
                  exact ke_ret1 Tryz.func8 rfl rfl ⟨_, rfl, rfl, (hb.below (flat1_le _))⟩
                 ·replace hS := ite_false' hS hg537
                  refine dj_hg 60 (.pointer (some ⟨g22, 0, none⟩)) hb.bd rfl rfl rfl hg537 (fun w1 ρ1 hw1 => ev_move rfl) ?_
                  refine dj_hg 61 (.pointer (some ⟨g1, 2, none⟩)) hb.bd rfl rfl rfl hg537 (fun w1 ρ1 hw1 => ev_fieldAddr (i := 2) Tryz.underlying33 rfl Tryz.info9 rfl rfl) ?_
                  refine dj_hg 62 (str o_0.User) hb.bd rfl rfl rfl hg537 (fun w1 ρ1 hw1 => ev_load Tryz.isAgg9 rfl ((hB5.mv (hw1.mv (i := 3) rfl)).cell rfl)) ?_
                  refine dj_E 63 (by as_aux_lemma => kernel_rfl) rfl ?_
                  have jt538 : Tr ρ529 w534 (fun t => ([100, 101, 102, 103, 104, 105, 106] : List Nat).contains t) ρ529 w534 := (Tr.refl hb.bd).weak (fun _ _ => rfl) rfl rfl
                  obtain ⟨y539, hy540, hS⟩ := bind_some' hS
                  refine sr_callg (b := false) (e := 94) rfl rfl hg537 (vs := [.pointer (some ⟨g22, 0, none⟩), str o_0.User]) rfl Tryz.call35 rfl (login_Logins_Drop_ok _ (hg.fr hz hb) (ρA := ρ529) hb.bd (hz.fr hg hb) (o := 100) (by decide) (⟨_, _, _, _, hB528, hP521, h523, h525, h527⟩ : login_Logins.O (fun p => 100 + p) ρ529 w534 g22 y515.2) hy540) (by decide) ?_
                  rintro _ w541 ⟨ρ553, rfl, ⟨v544, v546, v548, v550, hB552, hP545, h547, h549, h551⟩, htr543⟩
                  replace h28 := h28.mv htr543.rd
                  replace hB5 := hB5.mv (htr543.mv (i := 3) rfl)
                  replace hb := hb.trans htr543
                  replace jt538 := (jt538.trans htr543).weak (J' := (fun t => ([100, 101, 102, 103, 104, 105, 106] : List Nat).contains t)) (by intro t h; simp [rng] at h ⊢ <;> omega) rfl rfl
                  replace hB552 : Blk ρ553 100 w541 g22 (.cells #[v544, v546, v548, v550] 69 (0, 0)) := hB552
                  replace hP545 : PtrO secret_Locks.O (fun q => 100 + (1 + q)) ρ553 w541 v544 y539.2.locks := hP545
                  replace h547 : MapT str login_credentials.c true ρ553 104 w541 v546 y539.2.users := h547
                  replace h549 : MapT str (intC .i64) false ρ553 105 w541 v548 y539.2.counters := h549
                  replace h551 : MapT str login_attempt.c true ρ553 106 w541 v550 y539.2.attempts := h551
                  refine dj_next (l' := [(1, .pointer (some ⟨g1, 0, none⟩)), (5, .pointer (some ⟨g22, 0, none⟩)), (17, v27), (18, .int .i64 2), (19, .int .i64 1), (94, .bool y532), (98, .bool y539.1)]) rfl (.cons rfl (.cons rfl (.cons rfl (.cons rfl (.cons rfl (.cons rfl (.cons rfl (.nil _)))))))) jt538 (by intro t h; simp [rng] at h ⊢ <;> omega) rfl rfl ?_
                  refine dj_h 64 (.bool y539.1) hb.bd rfl (fun w1 ρ1 hw1 => ev_pick_f rfl hg537 rfl) ?_
                  refine dj_h 65 (.bool y539.1) hb.bd rfl (fun w1 ρ1 hw1 => ev_move rfl) ?_
                  rcases Bool.eq_false_or_eq_true (y539.1) with hg554 | hg554
                  ·replace hS := ite_true' hS hg554
                   refine dj_p 66 100 hb.bd rfl rfl rfl rfl rfl (by rw [hg554]; rfl) ?_
                   refine dj_p 67 100 hb.bd rfl rfl rfl rfl rfl (by rw [hg554]; rfl) ?_
                   refine dj_p 68 100 hb.bd rfl rfl rfl rfl rfl (by rw [hg554]; rfl) ?_
                   refine dj_p 69 100 hb.bd rfl rfl rfl rfl rfl (by rw [hg554]; rfl) ?_
                   refine dj_p 70 100 hb.bd rfl rfl rfl rfl rfl (by rw [hg554]; rfl) ?_
                   refine dj_h 71 (.bool true) hb.bd rfl (fun w1 ρ1 hw1 => ev_pick_t rfl hg554 rfl) ?_
                   refine dj_done rfl (by as_aux_lemma => kernel_rfl) ?_
                   refine ke_weaken (l' := [(1, .pointer (some ⟨g1, 0, none⟩)), (17, v27), (18, .int .i64 2), (19, .int .i64 1), (106, .bool true)]) (.cons rfl (.cons rfl (.cons rfl (.cons rfl (.cons rfl (.nil _)))))) ?_
                   refine ke_cond (t := true) rfl (fun _ => ?_) (fun h => by cases h)
                   refine ke_seq ?_
                   refine ke_region ?_
                   refine sr_ev (v := .bool false) (ev_assign rfl) (by decide) ?_
                   refine sr_end (l' := [(2, .bool false)]) (.cons rfl (.nil _)) ?_
                   cases hS
                   exact ke_ret1 Tryz.func8 rfl rfl ⟨_, rfl, rfl, (hb.below (flat1_le _))⟩
                  ·replace hS := ite_false' hS hg554
                   refine dj_hg 66 (.pointer (some ⟨g22, 0, none⟩)) hb.bd rfl rfl rfl hg554 (fun w1 ρ1 hw1 => ev_move rfl) ?_
                   refine dj_hg 67 (.pointer (some ⟨g1, 8, none⟩)) hb.bd rfl rfl rfl hg554 (fun w1 ρ1 hw1 => ev_fieldAddr (i := 8) Tryz.underlying33 rfl Tryz.info3 rfl rfl) ?_
                   refine dj_hg 68 (.int .i64 o_0.Now) hb.bd rfl rfl rfl hg554 (fun w1 ρ1 hw1 => ev_load Tryz.isAgg3 rfl ((hB5.mv (hw1.mv (i := 3) rfl)).cell rfl)) ?_
                   refine dj_E 69 (by as_aux_lemma => kernel_rfl) rfl ?_
                   have jt555 : Tr ρ553 w541 (fun t => ([100, 101, 102, 103, 104, 105, 106] : List Nat).contains t) ρ553 w541 := (Tr.refl hb.bd).weak (fun _ _ => rfl) rfl rfl
                   obtain ⟨y556, hy557, hS⟩ := bind_some' hS
                   refine sr_callg (b := false) (e := 100) rfl rfl hg554 (vs := [.pointer (some ⟨g22, 0, none⟩), .int .i64 o_0.Now]) rfl Tryz.call37 rfl (login_Logins_Open_ok _ (hg.fr hz hb) (ρA := ρ553) hb.bd (hz.fr hg hb) (τ0 := (fun p => 100 + p)) (fun p => Nat.le_add_right_of_le (by decide)) (⟨_, _, _, _, hB552, hP545, h547, h549, h551⟩ : login_Logins.O (fun p => 100 + p) ρ553 w541 g22 y539.2) hy557) (by decide) ?_
                   rintro _ w558 ⟨rfl, hbw559⟩
                   have htr560 := Tr.of_below hbw559 hb.bd
                   replace h28 := h28.mv htr560.rd
                   replace hB552 := hB552.mv (htr560.mv (i := 100) rfl)
                   replace hP545 := PtrO.mv hP545 secret_Locks.objK (fun p hp => htr560.mv (i := 100 + (1 + p)) (by rcases p with _ | _ | _ | p <;> first | rfl | omega)) (fun p hp => by show 100 + (1 + p) ≠ 0; omega)
                   replace h547 := h547.mv (htr560.mv (i := 104) rfl)
                   replace h549 := h549.mv (htr560.mv (i := 105) rfl)
                   replace h551 := h551.mv (htr560.mv (i := 106) rfl)
                   replace hB5 := hB5.mv (htr560.mv (i := 3) rfl)
                   replace hb := hb.trans htr560
                   replace jt555 := (jt555.trans htr560).weak (J' := (fun t => ([100, 101, 102, 103, 104, 105, 106] : List Nat).contains t)) (by intro t h; simp [rng] at h ⊢ <;> omega) rfl rfl
                   refine dj_next (l' := [(1, .pointer (some ⟨g1, 0, none⟩)), (17, v27), (18, .int .i64 2), (19, .int .i64 1), (100, .bool y539.1), (104, .int .i64 y556)]) rfl (.cons rfl (.cons rfl (.cons rfl (.cons rfl (.cons rfl (.cons rfl (.nil _))))))) jt555 (by intro t h; simp [rng] at h ⊢ <;> omega) rfl rfl ?_
                   refine dj_hg 70 (.bool (y556 != 0)) hb.bd rfl rfl rfl hg554 (fun w1 ρ1 hw1 => ev_ne rfl rfl) ?_
                   refine dj_h 71 (.bool (y556 != 0)) hb.bd rfl (fun w1 ρ1 hw1 => ev_pick_f rfl hg554 rfl) ?_
                   refine dj_done rfl (by as_aux_lemma => kernel_rfl) ?_
                   refine ke_weaken (l' := [(1, .pointer (some ⟨g1, 0, none⟩)), (17, v27), (18, .int .i64 2), (19, .int .i64 1), (106, .bool (y556 != 0))]) (.cons rfl (.cons rfl (.cons rfl (.cons rfl (.cons rfl (.nil _)))))) ?_
                   refine ke_cond (t := y556 != 0) rfl (fun hc561 => ?_) (fun hc561 => ?_)
                   ·replace hS := ite_true' hS hc561
                    refine ke_seq ?_
                    refine ke_region ?_
                    refine sr_ev (v := .bool false) (ev_assign rfl) (by decide) ?_
                    refine sr_end (l' := [(2, .bool false)]) (.cons rfl (.nil _)) ?_
                    cases hS
                    exact ke_ret1 Tryz.func8 rfl rfl ⟨_, rfl, rfl, (hb.below (flat1_le _))⟩
                   ·replace hS := ite_false' hS hc561
                    refine ke_skip ?_
                    refine ke_inBlock ?_
                    refine ke_region ?_
                    refine sr_ev (v := .int .i64 2) (ev_addc rfl rfl (by decide)) (by decide) ?_
                    refine sr_ev (v := .int .i64 2) (ev_move rfl) (by decide) ?_
                    refine sr_end (l' := [(1, .pointer (some ⟨g1, 0, none⟩)), (17, v27), (18, .int .i64 2), (19, .int .i64 2)]) (.cons rfl (.cons rfl (.cons rfl (.cons rfl (.nil _))))) ?_
                    refine ke_inLoop ?_
                    refine ke_seq ?_
                    refine ke_region ?_
                    refine sr_ev (v := .bool false) (ev_ltc rfl rfl (by decide)) (by decide) ?_
                    refine sr_end (l' := [(1, .pointer (some ⟨g1, 0, none⟩)), (17, v27), (18, .int .i64 2), (19, .int .i64 2), (20, .bool false)]) (.cons rfl (.cons rfl (.cons rfl (.cons rfl (.cons rfl (.nil _)))))) ?_
                    refine ke_seq ?_
                    refine ke_cond (t := false) rfl (fun h => by cases h) (fun _ => ?_)
                    refine ke_exit (k' := _) rfl ?_
                    refine ke_seq ?_
                    refine ke_region ?_
                    obtain ⟨y562, hy563, hS⟩ := bind_some' hS
                    refine sr_call (vs := []) rfl Tryz.call10 rfl (law39_alive_ok _ (hg.fr hz hb) (ρA := ρ553) hb.bd (hz.fr hg hb) hy563) (by decide) ?_
                    rintro _ w564 ⟨rfl, hbw565⟩
                    have htr566 := Tr.of_below hbw565 hb.bd
                    replace hb := hb.trans htr566
                    refine sr_ev (v := .bool y562) (ev_assign rfl) (by decide) ?_
                    refine sr_end (l' := [(2, .bool y562)]) (.cons rfl (.nil _)) ?_
                    cases hS
                    exact ke_ret1 Tryz.func8 rfl rfl ⟨_, rfl, rfl, (hb.below (flat1_le _))⟩
end YtkhodjenbganfaaGreatDoor
end Go.Proofs
