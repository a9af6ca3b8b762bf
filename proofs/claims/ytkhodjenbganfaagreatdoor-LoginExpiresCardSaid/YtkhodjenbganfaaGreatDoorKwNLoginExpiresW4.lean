/- Own work: a part of the proofs of this seat. -/
import Derived.Test.YtkhodjenbganfaaGreatDoorProg
import Derived.Test.YtkhodjenbganfaaGreatDoorShelf
import Derived.Test.YtkhodjenbganfaaGreatDoorKwNS
import Derived.KernelRfl
import Derived.Test.YtkhodjenbganfaaGreatDoorKwNLoginExpiresW3
set_option linter.unusedVariables false
set_option linter.unusedSimpArgs false
set_option linter.unusedSectionVars false
set_option maxHeartbeats 8000000
set_option maxRecDepth 8000
namespace Go.Proofs
namespace YtkhodjenbganfaaGreatDoor
open Go Go.KW Go.KW.S Go.RowKit
theorem law39_typed_ok (w0 : World) (hg : Gs w0) {o_0 : law39_Op} {r : Str} (hS : law39_typed o_0 = some r) :
  Calls Tryz.prog 30 #[.agg #[.int .i64 o_0.Kind, str o_0.ID, str o_0.User, str o_0.Word, str o_0.Code, str o_0.S, .int .i64 o_0.Level, .int .i64 o_0.Rounds, .int .i64 o_0.Now]] w0 (Ret (fun v w' => v = str r ∧ Below w0.heap.size w0 w')) := by
 unfold law39_typed at hS
 have hb := Below.refl w0.heap.size w0
 obtain ⟨A0, hA0, hAe⟩ : ∃ A0 : Nat → Prop, (∀ b, A0 b → b < w0.heap.size) ∧ A0 = fun _ => False := ⟨_, fun _ h => h.elim, rfl⟩
 clear hAe
 have hA := hA0
 have hi : ∀ b, A0 b → A0 b := fun _ h => h
 have hH := Hp.nil A0 w0.heap.size w0
 refine calls_of_ke Tryz.func30 rfl (n := 20) rfl rfl (l := [(0, .agg #[.int .i64 o_0.Kind, str o_0.ID, str o_0.User, str o_0.Word, str o_0.Code, str o_0.S, .int .i64 o_0.Level, .int .i64 o_0.Rounds, .int .i64 o_0.Now])]) rfl ?_
 refine ke_seq ?_
 refine ke_region ?_
 refine sr_box hH hb.size hA rfl (by decide) ?_
 intro g1 A2 w3 hH1 hst4 hbw5 hinc6 hA1 hge7
 replace hb := hb.trans (hbw5.mono hb.size)
 replace hi := fun b hb => hinc6 b (hi b hb)
 replace hH : Hp A2 w0.heap.size w3 [(g1, .cells #[.int .i64 o_0.Kind, str o_0.ID, str o_0.User, str o_0.Word, str o_0.Code, str o_0.S, .int .i64 o_0.Level, .int .i64 o_0.Rounds, .int .i64 o_0.Now] 33 (0, 0))] := hH1
 replace hA := hA1
 clear hH1 hA1
 refine sr_ev (v := str ([])) (ev_assign rfl) (by decide) ?_
 refine sr_end (l' := [(1, .pointer (some ⟨g1, 0, none⟩))]) (.cons rfl (.nil _)) ?_
 refine ke_seq ?_
 refine ke_seq ?_
 refine ke_region ?_
 refine sr_ev (v := .pointer (some ⟨g1, 6, none⟩)) (ev_fieldAddr (i := 6) Tryz.underlying33 rfl Tryz.info3 rfl rfl) (by decide) ?_
 refine sr_ev (v := .int .i64 o_0.Level) (ev_load Tryz.isAgg3 rfl (hH.cell (i := 0) rfl rfl)) (by decide) ?_
 refine sr_ev (v := .bool (o_0.Level != 0)) (ev_ne rfl rfl) (by decide) ?_
 refine sr_end (l' := [(1, .pointer (some ⟨g1, 0, none⟩)), (7, .bool (o_0.Level != 0))]) (.cons rfl (.cons rfl (.nil _))) ?_
 refine ke_cond (t := o_0.Level != 0) rfl (fun hc8 => ?_) (fun hc8 => ?_)
 ·replace hS := ite_true' hS hc8
  refine ke_seq ?_
  refine ke_region_q Tryz.mixed (by kernel_rfl) ?_
  refine sq_ev (v := .pointer (some ⟨g1, 5, none⟩)) (fun w1 hw1 => ev_fieldAddr (i := 5) Tryz.underlying33 rfl Tryz.info9 rfl rfl) (by decide) ?_
  refine sq_ev (v := str o_0.S) (fun w1 hw1 => ev_load Tryz.isAgg9 rfl ((hH.below hw1).cell (i := 0) rfl rfl)) (by decide) ?_
  refine sq_ev (v := .pointer (some ⟨g1, 8, none⟩)) (fun w1 hw1 => ev_fieldAddr (i := 8) Tryz.underlying33 rfl Tryz.info3 rfl rfl) (by decide) ?_
  refine sq_ev (v := .int .i64 o_0.Now) (fun w1 hw1 => ev_load Tryz.isAgg3 rfl ((hH.below hw1).cell (i := 0) rfl rfl)) (by decide) ?_
  obtain ⟨y11, hy12, hS⟩ := bind_some' hS
  refine sq_call (v := .int .i64 y11) (vs := [.int .i64 o_0.Now]) rfl Tryz.call13 rfl (fun w1 hw1 => (otp_Counter_ok _ (hg.below (hb.trans (hw1.mono hb.size))) hy12)) (by decide) ?_
  obtain ⟨y15, hy16, hS⟩ := bind_some' hS
  refine sq_call (v := .tuple #[str y15.1, .int .i64 y15.2]) (vs := [str o_0.S, .int .i64 y11]) rfl Tryz.call12 rfl (fun w1 hw1 => (otp_Code_ok _ (hg.below (hb.trans (hw1.mono hb.size))) hy16)) (by decide) ?_
  refine sq_ev (v := .tuple #[str y15.1, .int .i64 y15.2]) (fun w1 hw1 => ev_move rfl) (by decide) ?_
  refine sq_ev (v := str y15.1) (fun w1 hw1 => ev_extract rfl rfl) (by decide) ?_
  refine sq_ev (v := .int .i64 y15.2) (fun w1 hw1 => ev_extract rfl rfl) (by decide) ?_
  refine sq_ev (v := str y15.1) (fun w1 hw1 => ev_assign rfl) (by decide) ?_
  refine sq_ev (v := .int .i64 y15.2) (fun w1 hw1 => ev_assign rfl) (by decide) ?_
  refine sq_end (l' := [(3, str y15.1)]) (.cons rfl (.nil _)) (fun w10 hw9 => ?_)
  replace hb := hb.trans (hw9.mono hb.size)
  replace hA := lt_mono hA hw9.size
  replace hH := hH.below hw9
  refine ke_seq ?_
  refine ke_region ?_
  refine sr_ev (v := str y15.1) (ev_move rfl) (by decide) ?_
  refine sr_ev (v := str y15.1) (ev_assign rfl) (by decide) ?_
  refine sr_end (l' := [(2, str y15.1)]) (.cons rfl (.nil _)) ?_
  cases hS
  exact ke_ret1 Tryz.func30 rfl rfl ⟨_, rfl, rfl, hb⟩
 ·replace hS := ite_false' hS hc8
  refine ke_skip ?_
  refine ke_seq ?_
  refine ke_region ?_
  refine sr_ev (v := .pointer (some ⟨g1, 4, none⟩)) (ev_fieldAddr (i := 4) Tryz.underlying33 rfl Tryz.info9 rfl rfl) (by decide) ?_
  refine sr_ev (v := str o_0.Code) (ev_load Tryz.isAgg9 rfl (hH.cell (i := 0) rfl rfl)) (by decide) ?_
  refine sr_ev (v := str o_0.Code) (ev_assign rfl) (by decide) ?_
  refine sr_end (l' := [(2, str o_0.Code)]) (.cons rfl (.nil _)) ?_
  cases hS
  exact ke_ret1 Tryz.func30 rfl rfl ⟨_, rfl, rfl, hb⟩
theorem law39_play_ok (w0 : World) (hg : Gs w0) {ρA : Tags} (hbd : ∀ b, ρA b ≠ 0 → b < w0.heap.size) (hz : Gz ρA) {o : Nat} (ho2 : 2 ≤ o) {l_0 : login_Logins} {o_1 : law39_Op} {gl_0 : Nat} {r : login_Logins} (ho0 : login_Logins.O (fun p => o + p) ρA w0 gl_0 l_0) (hS : law39_play l_0 o_1 = some r) :
  Calls Tryz.prog 16 #[.pointer (some ⟨gl_0, 0, none⟩), .agg #[.int .i64 o_1.Kind, str o_1.ID, str o_1.User, str o_1.Word, str o_1.Code, str o_1.S, .int .i64 o_1.Level, .int .i64 o_1.Rounds, .int .i64 o_1.Now]] w0 (Ret (fun v w' => ∃ ρ', v = .tuple #[] ∧ login_Logins.O (fun p => o + p) ρ' w' gl_0 r ∧ Tr ρA w0 (rng o 7) ρ' w')) := by
 unfold law39_play at hS
 have hb := enter_fr (ρ := ρA) (w := w0) (n := 7) ho2 hbd
 have hz := hz.enter (n := 7) ho2
 obtain ⟨v1, v3, v5, v7, hB9, hP2, h4, h6, h8⟩ := ho0
 replace hB9 := hB9.mv (enter_mv (p := 0) (n := 7) (by decide) ho2)
 replace hP2 := PtrO.mv hP2 secret_Locks.objK (fun p hp => enter_mv (p := 1 + p) (n := 7) (by omega) ho2) (fun p hp => by omega)
 replace h4 := h4.mv (enter_mv (p := 4) (n := 7) (by decide) ho2)
 replace h6 := h6.mv (enter_mv (p := 5) (n := 7) (by decide) ho2)
 replace h8 := h8.mv (enter_mv (p := 6) (n := 7) (by decide) ho2)
 replace hB9 : Blk (enter ρA o 7) 100 w0 gl_0 (.cells #[v1, v3, v5, v7] 69 (0, 0)) := hB9
 replace hP2 : PtrO secret_Locks.O (fun q => 100 + (1 + q)) (enter ρA o 7) w0 v1 l_0.locks := hP2
 replace h4 : MapT str login_credentials.c true (enter ρA o 7) 104 w0 v3 l_0.users := h4
 replace h6 : MapT str (intC .i64) false (enter ρA o 7) 105 w0 v5 l_0.counters := h6
 replace h8 : MapT str login_attempt.c true (enter ρA o 7) 106 w0 v7 l_0.attempts := h8
 refine calls_of_ke Tryz.func16 rfl (n := 56) rfl rfl (l := [(0, .pointer (some ⟨gl_0, 0, none⟩)), (1, .agg #[.int .i64 o_1.Kind, str o_1.ID, str o_1.User, str o_1.Word, str o_1.Code, str o_1.S, .int .i64 o_1.Level, .int .i64 o_1.Rounds, .int .i64 o_1.Now])]) rfl ?_
 refine ke_seq ?_
 refine ke_region ?_
 refine sr_boxT 5 (by decide) hb.bd rfl (by decide) ?_
 intro g10 ρ11 w12 hB14 htr13
 replace hB9 := hB9.mv (htr13.mv (i := 100) rfl)
 replace hP2 := PtrO.mv hP2 secret_Locks.objK (fun p hp => htr13.mv (i := 100 + (1 + p)) (by rcases p with _ | _ | _ | p <;> first | rfl | omega)) (fun p hp => by show 100 + (1 + p) ≠ 0; omega)
 replace h4 := h4.mv (htr13.mv (i := 104) rfl)
 replace h6 := h6.mv (htr13.mv (i := 105) rfl)
 replace h8 := h8.mv (htr13.mv (i := 106) rfl)
 replace hb := hb.trans htr13
 replace hB14 : Blk ρ11 5 w12 g10 (.cells #[.int .i64 o_1.Kind, str o_1.ID, str o_1.User, str o_1.Word, str o_1.Code, str o_1.S, .int .i64 o_1.Level, .int .i64 o_1.Rounds, .int .i64 o_1.Now] 33 (0, 0)) := hB14
 refine sr_end (l' := [(0, .pointer (some ⟨gl_0, 0, none⟩)), (3, .pointer (some ⟨g10, 0, none⟩))]) (.cons rfl (.cons rfl (.nil _))) ?_
 refine ke_seq ?_
 refine ke_region ?_
 refine sr_ev (v := .pointer (some ⟨g10, 0, none⟩)) (ev_fieldAddr (i := 0) Tryz.underlying33 rfl Tryz.info3 rfl rfl) (by decide) ?_
 refine sr_ev (v := .int .i64 o_1.Kind) (ev_load Tryz.isAgg3 rfl (hB14.cell rfl)) (by decide) ?_
 refine sr_end (l' := [(0, .pointer (some ⟨gl_0, 0, none⟩)), (3, .pointer (some ⟨g10, 0, none⟩)), (5, .int .i64 o_1.Kind)]) (.cons rfl (.cons rfl (.cons rfl (.nil _)))) ?_
 refine ke_block ?_
 refine ke_seq ?_
 refine ke_region ?_
 refine sr_ev (v := .bool (o_1.Kind == 0)) (ev_eq rfl rfl) (by decide) ?_
 refine sr_ev (v := .bool (o_1.Kind == 0)) (ev_assign rfl) (by decide) ?_
 refine sr_end (l' := [(0, .pointer (some ⟨gl_0, 0, none⟩)), (3, .pointer (some ⟨g10, 0, none⟩)), (5, .int .i64 o_1.Kind), (6, .bool (o_1.Kind == 0))]) (.cons rfl (.cons rfl (.cons rfl (.cons rfl (.nil _))))) ?_
 refine ke_cond (t := o_1.Kind == 0) rfl (fun hc15 => ?_) (fun hc15 => ?_)
 ·replace hS := ite_true' hS hc15
  refine ke_region_j (ρ := ρ11) (fun t => ([100, 101, 102, 103, 104, 105, 106] : List Nat).contains t) 8 Tryz.mixed (fun w17 hw16 => ?_)
  have htr18 := Tr.of_below hw16 hb.bd
  replace hB14 := hB14.mv (htr18.mv (i := 5) rfl)
  replace hB9 := hB9.mv (htr18.mv (i := 100) rfl)
  replace hP2 := PtrO.mv hP2 secret_Locks.objK (fun p hp => htr18.mv (i := 100 + (1 + p)) (by rcases p with _ | _ | _ | p <;> first | rfl | omega)) (fun p hp => by show 100 + (1 + p) ≠ 0; omega)
  replace h4 := h4.mv (htr18.mv (i := 104) rfl)
  replace h6 := h6.mv (htr18.mv (i := 105) rfl)
  replace h8 := h8.mv (htr18.mv (i := 106) rfl)
  replace hb := hb.trans htr18
  refine dj_H 0 (v := .pointer (some ⟨gl_0, 0, none⟩)) (by kernel_rfl) (by kernel_rfl) rfl (fun _ _ _ h => h) (sj_refl hb.bd rfl rfl) (fun w1 ρ1 hw1 => ev_move rfl) (by decide) ?_
  refine dj_H 1 (v := .pointer (some ⟨g10, 2, none⟩)) (by kernel_rfl) (by kernel_rfl) rfl (fun _ _ _ h => h) (sj_refl hb.bd rfl rfl) (fun w1 ρ1 hw1 => ev_fieldAddr (i := 2) Tryz.underlying33 rfl Tryz.info9 rfl rfl) (by decide) ?_
  refine dj_H 2 (v := str o_1.User) (by kernel_rfl) (by kernel_rfl) rfl (fun _ _ _ h => h) (sj_refl hb.bd rfl rfl) (fun w1 ρ1 hw1 => ev_load Tryz.isAgg9 rfl ((hB14.mv (hw1.mv (i := 5) rfl)).cell rfl)) (by decide) ?_
  refine dj_H 3 (v := .agg #[.int .i64 o_1.Kind, str o_1.ID, str o_1.User, str o_1.Word, str o_1.Code, str o_1.S, .int .i64 o_1.Level, .int .i64 o_1.Rounds, .int .i64 o_1.Now]) (by kernel_rfl) (by kernel_rfl) rfl (fun _ _ _ h => h) (sj_refl hb.bd rfl rfl) (fun w1 ρ1 hw1 => ev_loads (cs := [.int .i64 o_1.Kind, str o_1.ID, str o_1.User, str o_1.Word, str o_1.Code, str o_1.S, .int .i64 o_1.Level, .int .i64 o_1.Rounds, .int .i64 o_1.Now]) Tryz.isAgg33 Tryz.sizeOf33 rfl ((hB14.mv (hw1.mv (i := 5) rfl)).cells (vs := [.int .i64 o_1.Kind, str o_1.ID, str o_1.User, str o_1.Word, str o_1.Code, str o_1.S, .int .i64 o_1.Level, .int .i64 o_1.Rounds, .int .i64 o_1.Now]) rfl)) (by decide) ?_
  refine dj_H 5 (v := .pointer (some ⟨g10, 4, none⟩)) (by kernel_rfl) (by kernel_rfl) rfl (fun _ _ _ h => h) (sj_refl hb.bd rfl rfl) (fun w1 ρ1 hw1 => ev_fieldAddr (i := 4) Tryz.underlying33 rfl Tryz.info9 rfl rfl) (by decide) ?_
  refine dj_H 6 (v := str o_1.Code) (by kernel_rfl) (by kernel_rfl) rfl (fun _ _ _ h => h) (sj_refl hb.bd rfl rfl) (fun w1 ρ1 hw1 => ev_load Tryz.isAgg9 rfl ((hB14.mv (hw1.mv (i := 5) rfl)).cell rfl)) (by decide) ?_
  refine dj_E 4 (by kernel_rfl) rfl ?_
  have jt64 : Tr ρ11 w17 (fun t => ([100, 101, 102, 103, 104, 105, 106] : List Nat).contains t) ρ11 w17 := (Tr.refl hb.bd).weak (fun _ _ => rfl) rfl rfl
  obtain ⟨y65, hy66, hS⟩ := bind_some' hS
  refine sr_call (vs := [.agg #[.int .i64 o_1.Kind, str o_1.ID, str o_1.User, str o_1.Word, str o_1.Code, str o_1.S, .int .i64 o_1.Level, .int .i64 o_1.Rounds, .int .i64 o_1.Now]]) rfl Tryz.call26 rfl (law39_verifier_ok _ (hg.fr hz hb) hy66) (by decide) ?_
  rintro _ w67 ⟨rfl, hbw68⟩
  have htr69 := Tr.of_below hbw68 hb.bd
  replace hB14 := hB14.mv (htr69.mv (i := 5) rfl)
  replace hB9 := hB9.mv (htr69.mv (i := 100) rfl)
  replace hP2 := PtrO.mv hP2 secret_Locks.objK (fun p hp => htr69.mv (i := 100 + (1 + p)) (by rcases p with _ | _ | _ | p <;> first | rfl | omega)) (fun p hp => by show 100 + (1 + p) ≠ 0; omega)
  replace h4 := h4.mv (htr69.mv (i := 104) rfl)
  replace h6 := h6.mv (htr69.mv (i := 105) rfl)
  replace h8 := h8.mv (htr69.mv (i := 106) rfl)
  replace hb := hb.trans htr69
  replace jt64 := (jt64.trans htr69).weak (J' := (fun t => ([100, 101, 102, 103, 104, 105, 106] : List Nat).contains t)) (by intro t h; simp [rng] at h ⊢ <;> omega) rfl rfl
  refine dj_next (l' := [(8, .pointer (some ⟨gl_0, 0, none⟩)), (10, str o_1.User), (12, .agg #[str y65.Salt, .int .i64 y65.Rounds, str y65.Hash]), (14, str o_1.Code)]) rfl (.cons rfl (.cons rfl (.cons rfl (.cons rfl (.nil _))))) jt64 (by intro t h; simp [rng] at h ⊢ <;> omega) rfl rfl ?_
  refine dj_E 7 (by kernel_rfl) rfl ?_
  have jt70 : Tr ρ11 w67 (fun t => ([100, 101, 102, 103, 104, 105, 106] : List Nat).contains t) ρ11 w67 := (Tr.refl hb.bd).weak (fun _ _ => rfl) rfl rfl
  obtain ⟨y71, hy72, hS⟩ := bind_some' hS
  refine sr_call (vs := [.pointer (some ⟨gl_0, 0, none⟩), str o_1.User, .agg #[str y65.Salt, .int .i64 y65.Rounds, str y65.Hash], str o_1.Code]) rfl Tryz.call25 rfl (login_Logins_Enroll_ok _ (hg.fr hz hb) (ρA := ρ11) hb.bd (hz.fr hg hb) (o := 100) (by decide) (⟨_, _, _, _, hB9, hP2, h4, h6, h8⟩ : login_Logins.O (fun p => 100 + p) ρ11 w67 gl_0 l_0) hy72) (by decide) ?_
  rintro _ w73 ⟨ρ85, rfl, ⟨v76, v78, v80, v82, hB84, hP77, h79, h81, h83⟩, htr75⟩
  replace hb := hb.trans htr75
  replace jt70 := (jt70.trans htr75).weak (J' := (fun t => ([100, 101, 102, 103, 104, 105, 106] : List Nat).contains t)) (by intro t h; simp [rng] at h ⊢ <;> omega) rfl rfl
  replace hB84 : Blk ρ85 100 w73 gl_0 (.cells #[v76, v78, v80, v82] 69 (0, 0)) := hB84
  replace hP77 : PtrO secret_Locks.O (fun q => 100 + (1 + q)) ρ85 w73 v76 y71.2.locks := hP77
  replace h79 : MapT str login_credentials.c true ρ85 104 w73 v78 y71.2.users := h79
  replace h81 : MapT str (intC .i64) false ρ85 105 w73 v80 y71.2.counters := h81
  replace h83 : MapT str login_attempt.c true ρ85 106 w73 v82 y71.2.attempts := h83
  refine dj_next (l' := []) rfl (.nil _) jt70 (by intro t h; simp [rng] at h ⊢ <;> omega) rfl rfl ?_
  refine dj_done rfl (by kernel_rfl) ?_
  refine ke_weaken (l' := []) (.nil _) ?_
  refine ke_inBlock ?_
  cases hS
  exact ke_end0 Tryz.func16 rfl ⟨_, rfl, leave ρA w0 o 7 ρ85, rfl, ⟨_, _, _, _, (hB84.mv (leave_mv (p := 0) (by decide) hb)), (PtrO.mv hP77 secret_Locks.objK (fun p hp => leave_mv (p := 1 + p) (by omega) hb) (fun p hp => by show o + (1 + p) ≠ 0; omega)), (h79.mv (leave_mv (p := 4) (by decide) hb)), (h81.mv (leave_mv (p := 5) (by decide) hb)), (h83.mv (leave_mv (p := 6) (by decide) hb))⟩, (leave_tr ho2 hb)⟩
 ·replace hS := ite_false' hS hc15
  refine ke_seq ?_
  refine ke_region ?_
  refine sr_ev (v := .bool (o_1.Kind == 1)) (ev_eq rfl rfl) (by decide) ?_
  refine sr_ev (v := .bool (o_1.Kind == 1)) (ev_assign rfl) (by decide) ?_
  refine sr_end (l' := [(0, .pointer (some ⟨gl_0, 0, none⟩)), (3, .pointer (some ⟨g10, 0, none⟩)), (5, .int .i64 o_1.Kind), (16, .bool (o_1.Kind == 1))]) (.cons rfl (.cons rfl (.cons rfl (.cons rfl (.nil _))))) ?_
  refine ke_cond (t := o_1.Kind == 1) rfl (fun hc86 => ?_) (fun hc86 => ?_)
  ·replace hS := ite_true' hS hc86
   refine ke_region ?_
   refine sr_ev (v := .pointer (some ⟨gl_0, 0, none⟩)) (ev_move rfl) (by decide) ?_
   refine sr_ev (v := .pointer (some ⟨g10, 1, none⟩)) (ev_fieldAddr (i := 1) Tryz.underlying33 rfl Tryz.info9 rfl rfl) (by decide) ?_
   refine sr_ev (v := str o_1.ID) (ev_load Tryz.isAgg9 rfl (hB14.cell rfl)) (by decide) ?_
   refine sr_ev (v := .pointer (some ⟨g10, 2, none⟩)) (ev_fieldAddr (i := 2) Tryz.underlying33 rfl Tryz.info9 rfl rfl) (by decide) ?_
   refine sr_ev (v := str o_1.User) (ev_load Tryz.isAgg9 rfl (hB14.cell rfl)) (by decide) ?_
   refine sr_ev (v := .pointer (some ⟨g10, 8, none⟩)) (ev_fieldAddr (i := 8) Tryz.underlying33 rfl Tryz.info3 rfl rfl) (by decide) ?_
   refine sr_ev (v := .int .i64 o_1.Now) (ev_load Tryz.isAgg3 rfl (hB14.cell rfl)) (by decide) ?_
   obtain ⟨y87, hy88, hS⟩ := bind_some' hS
   refine sr_call (vs := [.pointer (some ⟨gl_0, 0, none⟩), str o_1.ID, str o_1.User, .int .i64 o_1.Now]) rfl Tryz.call14 rfl (login_Logins_Begin_ok _ (hg.fr hz hb) (ρA := ρ11) hb.bd (hz.fr hg hb) (o := 100) (by decide) (⟨_, _, _, _, hB9, hP2, h4, h6, h8⟩ : login_Logins.O (fun p => 100 + p) ρ11 w12 gl_0 l_0) hy88) (by decide) ?_
   rintro _ w89 ⟨ρ101, rfl, ⟨v92, v94, v96, v98, hB100, hP93, h95, h97, h99⟩, htr91⟩
   replace hb := hb.trans htr91
   replace hB100 : Blk ρ101 100 w89 gl_0 (.cells #[v92, v94, v96, v98] 69 (0, 0)) := hB100
   replace hP93 : PtrO secret_Locks.O (fun q => 100 + (1 + q)) ρ101 w89 v92 y87.2.locks := hP93
   replace h95 : MapT str login_credentials.c true ρ101 104 w89 v94 y87.2.users := h95
   replace h97 : MapT str (intC .i64) false ρ101 105 w89 v96 y87.2.counters := h97
   replace h99 : MapT str login_attempt.c true ρ101 106 w89 v98 y87.2.attempts := h99
   refine sr_end (l' := []) (.nil _) ?_
   refine ke_inBlock ?_
   cases hS
   exact ke_end0 Tryz.func16 rfl ⟨_, rfl, leave ρA w0 o 7 ρ101, rfl, ⟨_, _, _, _, (hB100.mv (leave_mv (p := 0) (by decide) hb)), (PtrO.mv hP93 secret_Locks.objK (fun p hp => leave_mv (p := 1 + p) (by omega) hb) (fun p hp => by show o + (1 + p) ≠ 0; omega)), (h95.mv (leave_mv (p := 4) (by decide) hb)), (h97.mv (leave_mv (p := 5) (by decide) hb)), (h99.mv (leave_mv (p := 6) (by decide) hb))⟩, (leave_tr ho2 hb)⟩
  ·replace hS := ite_false' hS hc86
   refine ke_seq ?_
   refine ke_region ?_
   refine sr_ev (v := .bool (o_1.Kind == 2)) (ev_eq rfl rfl) (by decide) ?_
   refine sr_ev (v := .bool (o_1.Kind == 2)) (ev_assign rfl) (by decide) ?_
   refine sr_end (l' := [(0, .pointer (some ⟨gl_0, 0, none⟩)), (3, .pointer (some ⟨g10, 0, none⟩)), (5, .int .i64 o_1.Kind), (26, .bool (o_1.Kind == 2))]) (.cons rfl (.cons rfl (.cons rfl (.cons rfl (.nil _))))) ?_
   refine ke_cond (t := o_1.Kind == 2) rfl (fun hc102 => ?_) (fun hc102 => ?_)
   ·replace hS := ite_true' hS hc102
    refine ke_region ?_
    refine sr_ev (v := .pointer (some ⟨gl_0, 0, none⟩)) (ev_move rfl) (by decide) ?_
    refine sr_ev (v := .pointer (some ⟨g10, 1, none⟩)) (ev_fieldAddr (i := 1) Tryz.underlying33 rfl Tryz.info9 rfl rfl) (by decide) ?_
    refine sr_ev (v := str o_1.ID) (ev_load Tryz.isAgg9 rfl (hB14.cell rfl)) (by decide) ?_
    refine sr_ev (v := .pointer (some ⟨g10, 3, none⟩)) (ev_fieldAddr (i := 3) Tryz.underlying33 rfl Tryz.info9 rfl rfl) (by decide) ?_
    refine sr_ev (v := str o_1.Word) (ev_load Tryz.isAgg9 rfl (hB14.cell rfl)) (by decide) ?_
    refine sr_ev (v := .pointer (some ⟨g10, 8, none⟩)) (ev_fieldAddr (i := 8) Tryz.underlying33 rfl Tryz.info3 rfl rfl) (by decide) ?_
    refine sr_ev (v := .int .i64 o_1.Now) (ev_load Tryz.isAgg3 rfl (hB14.cell rfl)) (by decide) ?_
    obtain ⟨y103, hy104, hS⟩ := bind_some' hS
    refine sr_call (vs := [.pointer (some ⟨gl_0, 0, none⟩), str o_1.ID, str o_1.Word, .int .i64 o_1.Now]) rfl Tryz.call19 rfl (login_Logins_Password_ok _ (hg.fr hz hb) (ρA := ρ11) hb.bd (hz.fr hg hb) (o := 100) (by decide) (⟨_, _, _, _, hB9, hP2, h4, h6, h8⟩ : login_Logins.O (fun p => 100 + p) ρ11 w12 gl_0 l_0) hy104) (by decide) ?_
    rintro _ w105 ⟨ρ117, rfl, ⟨v108, v110, v112, v114, hB116, hP109, h111, h113, h115⟩, htr107⟩
    replace hb := hb.trans htr107
    replace hB116 : Blk ρ117 100 w105 gl_0 (.cells #[v108, v110, v112, v114] 69 (0, 0)) := hB116
    replace hP109 : PtrO secret_Locks.O (fun q => 100 + (1 + q)) ρ117 w105 v108 y103.2.locks := hP109
    replace h111 : MapT str login_credentials.c true ρ117 104 w105 v110 y103.2.users := h111
    replace h113 : MapT str (intC .i64) false ρ117 105 w105 v112 y103.2.counters := h113
    replace h115 : MapT str login_attempt.c true ρ117 106 w105 v114 y103.2.attempts := h115
    refine sr_end (l' := []) (.nil _) ?_
    refine ke_inBlock ?_
    cases hS
    exact ke_end0 Tryz.func16 rfl ⟨_, rfl, leave ρA w0 o 7 ρ117, rfl, ⟨_, _, _, _, (hB116.mv (leave_mv (p := 0) (by decide) hb)), (PtrO.mv hP109 secret_Locks.objK (fun p hp => leave_mv (p := 1 + p) (by omega) hb) (fun p hp => by show o + (1 + p) ≠ 0; omega)), (h111.mv (leave_mv (p := 4) (by decide) hb)), (h113.mv (leave_mv (p := 5) (by decide) hb)), (h115.mv (leave_mv (p := 6) (by decide) hb))⟩, (leave_tr ho2 hb)⟩
   ·replace hS := ite_false' hS hc102
    refine ke_seq ?_
    refine ke_region ?_
    refine sr_ev (v := .bool (o_1.Kind == 3)) (ev_eq rfl rfl) (by decide) ?_
    refine sr_ev (v := .bool (o_1.Kind == 3)) (ev_assign rfl) (by decide) ?_
    refine sr_end (l' := [(0, .pointer (some ⟨gl_0, 0, none⟩)), (3, .pointer (some ⟨g10, 0, none⟩)), (5, .int .i64 o_1.Kind), (36, .bool (o_1.Kind == 3))]) (.cons rfl (.cons rfl (.cons rfl (.cons rfl (.nil _))))) ?_
    refine ke_cond (t := o_1.Kind == 3) rfl (fun hc118 => ?_) (fun hc118 => ?_)
    ·replace hS := ite_true' hS hc118
     refine ke_region_j (ρ := ρ11) (fun t => ([100, 101, 102, 103, 104, 105, 106] : List Nat).contains t) 8 Tryz.mixed (fun w120 hw119 => ?_)
     have htr121 := Tr.of_below hw119 hb.bd
     replace hB14 := hB14.mv (htr121.mv (i := 5) rfl)
     replace hB9 := hB9.mv (htr121.mv (i := 100) rfl)
     replace hP2 := PtrO.mv hP2 secret_Locks.objK (fun p hp => htr121.mv (i := 100 + (1 + p)) (by rcases p with _ | _ | _ | p <;> first | rfl | omega)) (fun p hp => by show 100 + (1 + p) ≠ 0; omega)
     replace h4 := h4.mv (htr121.mv (i := 104) rfl)
     replace h6 := h6.mv (htr121.mv (i := 105) rfl)
     replace h8 := h8.mv (htr121.mv (i := 106) rfl)
     replace hb := hb.trans htr121
     refine dj_H 0 (v := .pointer (some ⟨gl_0, 0, none⟩)) (by kernel_rfl) (by kernel_rfl) rfl (fun _ _ _ h => h) (sj_refl hb.bd rfl rfl) (fun w1 ρ1 hw1 => ev_move rfl) (by decide) ?_
     refine dj_H 1 (v := .pointer (some ⟨g10, 1, none⟩)) (by kernel_rfl) (by kernel_rfl) rfl (fun _ _ _ h => h) (sj_refl hb.bd rfl rfl) (fun w1 ρ1 hw1 => ev_fieldAddr (i := 1) Tryz.underlying33 rfl Tryz.info9 rfl rfl) (by decide) ?_
     refine dj_H 2 (v := str o_1.ID) (by kernel_rfl) (by kernel_rfl) rfl (fun _ _ _ h => h) (sj_refl hb.bd rfl rfl) (fun w1 ρ1 hw1 => ev_load Tryz.isAgg9 rfl ((hB14.mv (hw1.mv (i := 5) rfl)).cell rfl)) (by decide) ?_
     refine dj_H 3 (v := .agg #[.int .i64 o_1.Kind, str o_1.ID, str o_1.User, str o_1.Word, str o_1.Code, str o_1.S, .int .i64 o_1.Level, .int .i64 o_1.Rounds, .int .i64 o_1.Now]) (by kernel_rfl) (by kernel_rfl) rfl (fun _ _ _ h => h) (sj_refl hb.bd rfl rfl) (fun w1 ρ1 hw1 => ev_loads (cs := [.int .i64 o_1.Kind, str o_1.ID, str o_1.User, str o_1.Word, str o_1.Code, str o_1.S, .int .i64 o_1.Level, .int .i64 o_1.Rounds, .int .i64 o_1.Now]) Tryz.isAgg33 Tryz.sizeOf33 rfl ((hB14.mv (hw1.mv (i := 5) rfl)).cells (vs := [.int .i64 o_1.Kind, str o_1.ID, str o_1.User, str o_1.Word, str o_1.Code, str o_1.S, .int .i64 o_1.Level, .int .i64 o_1.Rounds, .int .i64 o_1.Now]) rfl)) (by decide) ?_
     refine dj_H 5 (v := .pointer (some ⟨g10, 8, none⟩)) (by kernel_rfl) (by kernel_rfl) rfl (fun _ _ _ h => h) (sj_refl hb.bd rfl rfl) (fun w1 ρ1 hw1 => ev_fieldAddr (i := 8) Tryz.underlying33 rfl Tryz.info3 rfl rfl) (by decide) ?_
     refine dj_H 6 (v := .int .i64 o_1.Now) (by kernel_rfl) (by kernel_rfl) rfl (fun _ _ _ h => h) (sj_refl hb.bd rfl rfl) (fun w1 ρ1 hw1 => ev_load Tryz.isAgg3 rfl ((hB14.mv (hw1.mv (i := 5) rfl)).cell rfl)) (by decide) ?_
     refine dj_E 4 (by kernel_rfl) rfl ?_
     have jt167 : Tr ρ11 w120 (fun t => ([100, 101, 102, 103, 104, 105, 106] : List Nat).contains t) ρ11 w120 := (Tr.refl hb.bd).weak (fun _ _ => rfl) rfl rfl
     obtain ⟨y168, hy169, hS⟩ := bind_some' hS
     refine sr_call (vs := [.agg #[.int .i64 o_1.Kind, str o_1.ID, str o_1.User, str o_1.Word, str o_1.Code, str o_1.S, .int .i64 o_1.Level, .int .i64 o_1.Rounds, .int .i64 o_1.Now]]) rfl Tryz.call30 rfl (law39_typed_ok _ (hg.fr hz hb) hy169) (by decide) ?_
     rintro _ w170 ⟨rfl, hbw171⟩
     have htr172 := Tr.of_below hbw171 hb.bd
     replace hB14 := hB14.mv (htr172.mv (i := 5) rfl)
     replace hB9 := hB9.mv (htr172.mv (i := 100) rfl)
     replace hP2 := PtrO.mv hP2 secret_Locks.objK (fun p hp => htr172.mv (i := 100 + (1 + p)) (by rcases p with _ | _ | _ | p <;> first | rfl | omega)) (fun p hp => by show 100 + (1 + p) ≠ 0; omega)
     replace h4 := h4.mv (htr172.mv (i := 104) rfl)
     replace h6 := h6.mv (htr172.mv (i := 105) rfl)
     replace h8 := h8.mv (htr172.mv (i := 106) rfl)
     replace hb := hb.trans htr172
     replace jt167 := (jt167.trans htr172).weak (J' := (fun t => ([100, 101, 102, 103, 104, 105, 106] : List Nat).contains t)) (by intro t h; simp [rng] at h ⊢ <;> omega) rfl rfl
     refine dj_next (l' := [(38, .pointer (some ⟨gl_0, 0, none⟩)), (40, str o_1.ID), (42, str y168), (44, .int .i64 o_1.Now)]) rfl (.cons rfl (.cons rfl (.cons rfl (.cons rfl (.nil _))))) jt167 (by intro t h; simp [rng] at h ⊢ <;> omega) rfl rfl ?_
     refine dj_E 7 (by kernel_rfl) rfl ?_
     have jt173 : Tr ρ11 w170 (fun t => ([100, 101, 102, 103, 104, 105, 106] : List Nat).contains t) ρ11 w170 := (Tr.refl hb.bd).weak (fun _ _ => rfl) rfl rfl
     obtain ⟨y174, hy175, hS⟩ := bind_some' hS
     refine sr_call (vs := [.pointer (some ⟨gl_0, 0, none⟩), str o_1.ID, str y168, .int .i64 o_1.Now]) rfl Tryz.call15 rfl (login_Logins_Code_ok _ (hg.fr hz hb) (ρA := ρ11) hb.bd (hz.fr hg hb) (o := 100) (by decide) (⟨_, _, _, _, hB9, hP2, h4, h6, h8⟩ : login_Logins.O (fun p => 100 + p) ρ11 w170 gl_0 l_0) hy175) (by decide) ?_
     rintro _ w176 ⟨ρ188, rfl, ⟨v179, v181, v183, v185, hB187, hP180, h182, h184, h186⟩, htr178⟩
     replace hb := hb.trans htr178
     replace jt173 := (jt173.trans htr178).weak (J' := (fun t => ([100, 101, 102, 103, 104, 105, 106] : List Nat).contains t)) (by intro t h; simp [rng] at h ⊢ <;> omega) rfl rfl
     replace hB187 : Blk ρ188 100 w176 gl_0 (.cells #[v179, v181, v183, v185] 69 (0, 0)) := hB187
     replace hP180 : PtrO secret_Locks.O (fun q => 100 + (1 + q)) ρ188 w176 v179 y174.2.locks := hP180
     replace h182 : MapT str login_credentials.c true ρ188 104 w176 v181 y174.2.users := h182
     replace h184 : MapT str (intC .i64) false ρ188 105 w176 v183 y174.2.counters := h184
     replace h186 : MapT str login_attempt.c true ρ188 106 w176 v185 y174.2.attempts := h186
     refine dj_next (l' := []) rfl (.nil _) jt173 (by intro t h; simp [rng] at h ⊢ <;> omega) rfl rfl ?_
     refine dj_done rfl (by kernel_rfl) ?_
     refine ke_weaken (l' := []) (.nil _) ?_
     refine ke_inBlock ?_
     cases hS
     exact ke_end0 Tryz.func16 rfl ⟨_, rfl, leave ρA w0 o 7 ρ188, rfl, ⟨_, _, _, _, (hB187.mv (leave_mv (p := 0) (by decide) hb)), (PtrO.mv hP180 secret_Locks.objK (fun p hp => leave_mv (p := 1 + p) (by omega) hb) (fun p hp => by show o + (1 + p) ≠ 0; omega)), (h182.mv (leave_mv (p := 4) (by decide) hb)), (h184.mv (leave_mv (p := 5) (by decide) hb)), (h186.mv (leave_mv (p := 6) (by decide) hb))⟩, (leave_tr ho2 hb)⟩
    ·replace hS := ite_false' hS hc118
     refine ke_seq ?_
     refine ke_region ?_
     refine sr_ev (v := .bool (o_1.Kind == 4)) (ev_eq rfl rfl) (by decide) ?_
     refine sr_ev (v := .bool (o_1.Kind == 4)) (ev_assign rfl) (by decide) ?_
     refine sr_end (l' := [(0, .pointer (some ⟨gl_0, 0, none⟩)), (3, .pointer (some ⟨g10, 0, none⟩)), (46, .bool (o_1.Kind == 4))]) (.cons rfl (.cons rfl (.cons rfl (.nil _)))) ?_
     refine ke_cond (t := o_1.Kind == 4) rfl (fun hc189 => ?_) (fun hc189 => ?_)
     ·replace hS := ite_true' hS hc189
      refine ke_region ?_
      refine sr_ev (v := .pointer (some ⟨gl_0, 0, none⟩)) (ev_move rfl) (by decide) ?_
      refine sr_ev (v := .pointer (some ⟨g10, 1, none⟩)) (ev_fieldAddr (i := 1) Tryz.underlying33 rfl Tryz.info9 rfl rfl) (by decide) ?_
      refine sr_ev (v := str o_1.ID) (ev_load Tryz.isAgg9 rfl (hB14.cell rfl)) (by decide) ?_
      refine sr_ev (v := .pointer (some ⟨g10, 6, none⟩)) (ev_fieldAddr (i := 6) Tryz.underlying33 rfl Tryz.info3 rfl rfl) (by decide) ?_
      refine sr_ev (v := .int .i64 o_1.Level) (ev_load Tryz.isAgg3 rfl (hB14.cell rfl)) (by decide) ?_
      refine sr_ev (v := .pointer (some ⟨g10, 8, none⟩)) (ev_fieldAddr (i := 8) Tryz.underlying33 rfl Tryz.info3 rfl rfl) (by decide) ?_
      refine sr_ev (v := .int .i64 o_1.Now) (ev_load Tryz.isAgg3 rfl (hB14.cell rfl)) (by decide) ?_
      obtain ⟨y190, hy191, hS⟩ := bind_some' hS
      refine sr_call (vs := [.pointer (some ⟨gl_0, 0, none⟩), str o_1.ID, .int .i64 o_1.Level, .int .i64 o_1.Now]) rfl Tryz.call17 rfl (login_Logins_Finish_ok _ (hg.fr hz hb) (ρA := ρ11) hb.bd (hz.fr hg hb) (o := 100) (by decide) (⟨_, _, _, _, hB9, hP2, h4, h6, h8⟩ : login_Logins.O (fun p => 100 + p) ρ11 w12 gl_0 l_0) hy191) (by decide) ?_
      rintro _ w192 ⟨ρ206, v195, rfl, h196, ⟨v197, v199, v201, v203, hB205, hP198, h200, h202, h204⟩, htr194⟩
      replace hb := hb.trans htr194
      replace hB205 : Blk ρ206 100 w192 gl_0 (.cells #[v197, v199, v201, v203] 69 (0, 0)) := hB205
      replace hP198 : PtrO secret_Locks.O (fun q => 100 + (1 + q)) ρ206 w192 v197 y190.2.2.2.locks := hP198
      replace h200 : MapT str login_credentials.c true ρ206 104 w192 v199 y190.2.2.2.users := h200
      replace h202 : MapT str (intC .i64) false ρ206 105 w192 v201 y190.2.2.2.counters := h202
      replace h204 : MapT str login_attempt.c true ρ206 106 w192 v203 y190.2.2.2.attempts := h204
      refine sr_end (l' := []) (.nil _) ?_
      refine ke_inBlock ?_
      cases hS
      exact ke_end0 Tryz.func16 rfl ⟨_, rfl, leave ρA w0 o 7 ρ206, rfl, ⟨_, _, _, _, (hB205.mv (leave_mv (p := 0) (by decide) hb)), (PtrO.mv hP198 secret_Locks.objK (fun p hp => leave_mv (p := 1 + p) (by omega) hb) (fun p hp => by show o + (1 + p) ≠ 0; omega)), (h200.mv (leave_mv (p := 4) (by decide) hb)), (h202.mv (leave_mv (p := 5) (by decide) hb)), (h204.mv (leave_mv (p := 6) (by decide) hb))⟩, (leave_tr ho2 hb)⟩
     ·replace hS := ite_false' hS hc189
      refine ke_skip ?_
      refine ke_inBlock ?_
      cases hS
      exact ke_end0 Tryz.func16 rfl ⟨_, rfl, leave ρA w0 o 7 ρ11, rfl, ⟨_, _, _, _, (hB9.mv (leave_mv (p := 0) (by decide) hb)), (PtrO.mv hP2 secret_Locks.objK (fun p hp => leave_mv (p := 1 + p) (by omega) hb) (fun p hp => by show o + (1 + p) ≠ 0; omega)), (h4.mv (leave_mv (p := 4) (by decide) hb)), (h6.mv (leave_mv (p := 5) (by decide) hb)), (h8.mv (leave_mv (p := 6) (by decide) hb))⟩, (leave_tr ho2 hb)⟩
theorem login_Logins_Drop_1_ok (w0 : World) (hg : Gs w0) {ρA : Tags} (hbd : ∀ b, ρA b ≠ 0 → b < w0.heap.size) (hz : Gz ρA) {__0 : Str} {a_1 : login_attempt} {c2 : Str} {v1 : Value} {b3 : Nat} {r : Bool} (h2 : SlR api_Proof.c (Wb ρA) w0 v1 a_1.proofs) (he4 : ElT strC ρA 0 w0 b3 0 [str c2] c2) (hS : login_Logins_Drop_1 __0 a_1 c2 = some r) :
  Calls Tryz.prog 78 #[str __0, .agg #[str a_1.user, .int .i64 a_1.begun, v1], .pointer (some ⟨b3, 0, none⟩)] w0 (Ret (fun v w' => v = .bool r ∧ Below w0.heap.size w0 w')) := by
 unfold login_Logins_Drop_1 at hS
 have hb := flat1_fr (ρ := ρA) (w := w0) hbd
 have hz := hz.flat1
 replace h2 := SlR.mv h2 flat1_rd
 replace he4 := he4.mv flat1_rd (Nat.succ_pos _)
 refine calls_of_ke Tryz.func78 rfl (n := 10) rfl rfl (l := [(0, str __0), (1, .agg #[str a_1.user, .int .i64 a_1.begun, v1]), (2, .pointer (some ⟨b3, 0, none⟩))]) rfl ?_
 refine ke_seq ?_
 refine ke_region ?_
 refine sr_boxT 6 (by decide) hb.bd rfl (by decide) ?_
 intro g5 ρ6 w7 hB9 htr8
 replace he4 := he4.mv (htr8.mv (i := 0) rfl) (Nat.succ_pos _)
 replace h2 := h2.mv htr8.rd
 replace hb := hb.trans htr8
 replace hB9 : Blk ρ6 6 w7 g5 (.cells #[str a_1.user, .int .i64 a_1.begun, v1] 74 (0, 0)) := hB9
 refine sr_ev (v := .bool false) (ev_assign rfl) (by decide) ?_
 refine sr_end (l' := [(2, .pointer (some ⟨b3, 0, none⟩)), (4, .pointer (some ⟨g5, 0, none⟩))]) (.cons rfl (.cons rfl (.nil _))) ?_
 refine ke_seq ?_
 refine ke_region ?_
 refine sr_ev (v := .pointer (some ⟨g5, 0, none⟩)) (ev_fieldAddr (i := 0) Tryz.underlying74 rfl Tryz.info9 rfl rfl) (by decide) ?_
 refine sr_ev (v := str a_1.user) (ev_load Tryz.isAgg9 rfl (hB9.cell rfl)) (by decide) ?_
 refine sr_ev (v := str c2) (ev_load Tryz.isAgg9 rfl (he4.cell 0 _ rfl)) (by decide) ?_
 refine sr_ev (v := .bool (a_1.user == c2)) (ev_seq rfl rfl) (by decide) ?_
 refine sr_ev (v := .bool (a_1.user == c2)) (ev_assign rfl) (by decide) ?_
 refine sr_end (l' := [(5, .bool (a_1.user == c2))]) (.cons rfl (.nil _)) ?_
 cases hS
 exact ke_ret1 Tryz.func78 rfl rfl ⟨_, rfl, rfl, (hb.below (flat1_le _))⟩
theorem maps_DeleteFunc_map_string_login_attempt_string_login_attempt__Logins_Drop_1_B2_ok {w0 : World} (hg : Gs w0) {ρA : Tags} (hbd : ∀ b, ρA b ≠ 0 → b < w0.heap.size) {o : Nat} (ho2 : 2 ≤ o) {v1 : Value} (hz : Gz (enter ρA o 1)) (r0 : GMap Str login_attempt → Str → List Str → Option (GMap Str login_attempt))
  (hr0 : ∀ {r : GMap Str login_attempt} {m_0 : GMap Str login_attempt} {del_1_c0 : Str} {t_7 : List Str} {bdel_1_c0 : Nat} {rt_7 : Nat}, r0 m_0 del_1_c0 t_7 = some r → ∀ {ρ : Tags} {w : World}, (Fr (enter ρA o 1) w0 ρ w) → (MapT str login_attempt.c true ρ 100 w v1 m_0) → (ElT strC ρ 0 w bdel_1_c0 0 [str del_1_c0] del_1_c0) → (IterT str login_attempt.c true ρ 100 9 w rt_7 v1 m_0 t_7) → KE Tryz.prog 45 (Ret (fun v w' => ∃ ρ', v = .tuple #[] ∧ MapT str login_attempt.c true ρ' o w' v1 r ∧ Tr ρA w0 (rng o 1) ρ' w')) 19 [.inLoop (sub (bodyOf Tryz.f45) [2, 2, 1]), .inBlock 0] [(0, v1), (1, .func (.func 78) #[] #[.pointer (some ⟨bdel_1_c0, 0, none⟩)]), (7, .pointer (some ⟨rt_7, 0, none⟩))] w) {r : GMap Str login_attempt} {m_0 : GMap Str login_attempt} {del_1_c0 : Str} {t_7 : List Str} {bdel_1_c0 : Nat} {rt_7 : Nat} (hS : maps_DeleteFunc_map_string_login_attempt_string_login_attempt__Logins_Drop_1_B2 r0 m_0 del_1_c0 t_7 = some r) {ρ : Tags} {w : World} (hb : Fr (enter ρA o 1) w0 ρ w) (hm_0 : MapT str login_attempt.c true ρ 100 w v1 m_0) (hedel_1_c0 : ElT strC ρ 0 w bdel_1_c0 0 [str del_1_c0] del_1_c0) (ht_7 : IterT str login_attempt.c true ρ 100 9 w rt_7 v1 m_0 t_7) :
  KE Tryz.prog 45 (Ret (fun v w' => ∃ ρ', v = .tuple #[] ∧ MapT str login_attempt.c true ρ' o w' v1 r ∧ Tr ρA w0 (rng o 1) ρ' w')) 19 [.inBlock 1, .inLoop (sub (bodyOf Tryz.f45) [2, 2, 1]), .inBlock 0] [(0, v1), (1, .func (.func 78) #[] #[.pointer (some ⟨bdel_1_c0, 0, none⟩)]), (7, .pointer (some ⟨rt_7, 0, none⟩))] w := by
 unfold maps_DeleteFunc_map_string_login_attempt_string_login_attempt__Logins_Drop_1_B2 at hS
 refine ke_inBlock ?_
 have hK := hr0 hS hb hm_0 hedel_1_c0 ht_7
 exact ke_weaken (l' := [(0, v1), (1, .func (.func 78) #[] #[.pointer (some ⟨bdel_1_c0, 0, none⟩)]), (7, .pointer (some ⟨rt_7, 0, none⟩))]) (.cons rfl (.cons rfl (.cons rfl (.nil _)))) hK
theorem maps_DeleteFunc_map_string_login_attempt_string_login_attempt__Logins_Drop_1_L1_ok {w0 : World} (hg : Gs w0) {ρA : Tags} (hbd : ∀ b, ρA b ≠ 0 → b < w0.heap.size) {o : Nat} (ho2 : 2 ≤ o) {v1 : Value} (hz : Gz (enter ρA o 1)) : ∀ (n : Nat), ∀ {r : GMap Str login_attempt} {m_0 : GMap Str login_attempt} {del_1_c0 : Str} {t_7 : List Str} {bdel_1_c0 : Nat} {rt_7 : Nat}, maps_DeleteFunc_map_string_login_attempt_string_login_attempt__Logins_Drop_1_L1 n m_0 del_1_c0 t_7 = some r → ∀ {ρ : Tags} {w : World}, (Fr (enter ρA o 1) w0 ρ w) → (MapT str login_attempt.c true ρ 100 w v1 m_0) → (ElT strC ρ 0 w bdel_1_c0 0 [str del_1_c0] del_1_c0) → (IterT str login_attempt.c true ρ 100 9 w rt_7 v1 m_0 t_7) → KE Tryz.prog 45 (Ret (fun v w' => ∃ ρ', v = .tuple #[] ∧ MapT str login_attempt.c true ρ' o w' v1 r ∧ Tr ρA w0 (rng o 1) ρ' w')) 19 [.code (sub (bodyOf Tryz.f45) [2, 2, 1]), .inLoop (sub (bodyOf Tryz.f45) [2, 2, 1]), .inBlock 0] [(0, v1), (1, .func (.func 78) #[] #[.pointer (some ⟨bdel_1_c0, 0, none⟩)]), (7, .pointer (some ⟨rt_7, 0, none⟩))] w := by
 intro n
 induction n with
 | zero => intro r m_0 del_1_c0 t_7 bdel_1_c0 rt_7 hS; cases hS
 | succ n ih =>
  have hr0 : ∀ {r : GMap Str login_attempt} {m_0 : GMap Str login_attempt} {del_1_c0 : Str} {t_7 : List Str} {bdel_1_c0 : Nat} {rt_7 : Nat}, maps_DeleteFunc_map_string_login_attempt_string_login_attempt__Logins_Drop_1_L1 n m_0 del_1_c0 t_7 = some r → ∀ {ρ : Tags} {w : World}, (Fr (enter ρA o 1) w0 ρ w) → (MapT str login_attempt.c true ρ 100 w v1 m_0) → (ElT strC ρ 0 w bdel_1_c0 0 [str del_1_c0] del_1_c0) → (IterT str login_attempt.c true ρ 100 9 w rt_7 v1 m_0 t_7) → KE Tryz.prog 45 (Ret (fun v w' => ∃ ρ', v = .tuple #[] ∧ MapT str login_attempt.c true ρ' o w' v1 r ∧ Tr ρA w0 (rng o 1) ρ' w')) 19 [.inLoop (sub (bodyOf Tryz.f45) [2, 2, 1]), .inBlock 0] [(0, v1), (1, .func (.func 78) #[] #[.pointer (some ⟨bdel_1_c0, 0, none⟩)]), (7, .pointer (some ⟨rt_7, 0, none⟩))] w := fun {r} {m_0} {del_1_c0} {t_7} {bdel_1_c0} {rt_7} hS {ρ} {w} hb hm_0 hedel_1_c0 ht_7 => ke_inLoop (ih hS hb hm_0 hedel_1_c0 ht_7)
  clear ih
  intro r m_0 del_1_c0 t_7 bdel_1_c0 rt_7 hS ρ w hb hm_0 hedel_1_c0 ht_7
  unfold maps_DeleteFunc_map_string_login_attempt_string_login_attempt__Logins_Drop_1_L1 at hS
  refine ke_seq ?_
  refine ke_region ?_
  refine sr_nextM ht_7 rfl (by decide) hb.bd hS rfl (by decide) (fun hS => ?_) (fun e10 cs11 w12 hS hrd14 ht_71 htr13 hent15 => ?_)
  ·refine sr_ev (v := .bool false) (ev_extract rfl rfl) (by decide) ?_
   refine sr_end (l' := [(0, v1), (1, .func (.func 78) #[] #[.pointer (some ⟨bdel_1_c0, 0, none⟩)]), (7, .pointer (some ⟨rt_7, 0, none⟩)), (9, .bool false)]) (.cons rfl (.cons rfl (.cons rfl (.cons rfl (.nil _))))) ?_
   refine ke_seq ?_
   refine ke_cond (t := false) rfl (fun h => by cases h) (fun _ => ?_)
   refine ke_exit (k' := _) rfl ?_
   cases hS
   exact ke_end0 Tryz.func45 rfl ⟨_, rfl, leave ρA w0 o 1 ρ, rfl, (hm_0.mv (leave_mv (p := 0) (by decide) hb)), (leave_tr ho2 hb)⟩
  ·skip
   replace hm_0 := hm_0.mv (htr13.mv (i := 100) rfl)
   replace hedel_1_c0 := hedel_1_c0.mv (htr13.mv (i := 0) rfl) (Nat.succ_pos _)
   replace hb := hb.trans htr13
   replace ht_7 := ht_71
   clear ht_71
   obtain ⟨v16, hcshrd14, h17⟩ := hrd14
   obtain rfl : cs11 = [str e10.2.user, .int .i64 e10.2.begun, v16] := hcshrd14
   refine sr_ev (v := .bool true) (ev_extract rfl rfl) (by decide) ?_
   refine sr_end (l' := [(0, v1), (1, .func (.func 78) #[] #[.pointer (some ⟨bdel_1_c0, 0, none⟩)]), (7, .pointer (some ⟨rt_7, 0, none⟩)), (9, .bool true)]) (.cons rfl (.cons rfl (.cons rfl (.cons rfl (.nil _))))) ?_
   refine ke_seq ?_
   refine ke_cond (t := true) rfl (fun _ => ?_) (fun h => by cases h)
   refine ke_skip ?_
   refine ke_block ?_
   refine ke_seq ?_
   refine ke_region ?_
   refine sr_ev (v := .tuple #[str e10.1, .agg #[str e10.2.user, .int .i64 e10.2.begun, v16]]) (hent15 rfl) (by decide) ?_
   refine sr_ev (v := str e10.1) (ev_extract rfl rfl) (by decide) ?_
   refine sr_ev (v := .agg #[str e10.2.user, .int .i64 e10.2.begun, v16]) (ev_extract rfl rfl) (by decide) ?_
   refine sr_allocT 7 (by decide) hb.bd Tryz.zeroValue74 (by decide) ?_
   intro g18 ρ19 w20 hB22 htr21
   replace hm_0 := hm_0.mv (htr21.mv (i := 100) rfl)
   replace hedel_1_c0 := hedel_1_c0.mv (htr21.mv (i := 0) rfl) (Nat.succ_pos _)
   replace ht_7 := ht_7.mv (htr21.mv (i := 100) rfl) (htr21.mv (i := 9) rfl)
   replace h17 := h17.mv htr21.rd
   replace hb := hb.trans htr21
   replace hB22 : Blk ρ19 7 w20 g18 (.cells #[str ([]), .int .i64 0, (.slice none 0 0)] 74 (0, 0)) := hB22
   refine sr_ev (v := str e10.1) (ev_assign rfl) (by decide) ?_
   refine sr_storeT (v := .agg #[str e10.2.user, .int .i64 e10.2.begun, v16]) (vs := [str e10.2.user, .int .i64 e10.2.begun, v16]) (cs' := #[str e10.2.user, .int .i64 e10.2.begun, v16]) hB22 (by decide) hb.bd rfl rfl rfl Tryz.sizeOf74 rfl (by first | rfl | (simp only [List.all_cons, List.all_nil, SlR.oneCell h17]; done) | (simp only [List.all_cons, List.all_nil, SlR.oneCell h17]; rfl)) rfl ?_
   intro w23 hB221 htr24
   replace hm_0 := hm_0.mv (htr24.mv (i := 100) rfl)
   replace hedel_1_c0 := hedel_1_c0.mv (htr24.mv (i := 0) rfl) (Nat.succ_pos _)
   replace ht_7 := ht_7.mv (htr24.mv (i := 100) rfl) (htr24.mv (i := 9) rfl)
   replace h17 := h17.mv htr24.rd
   replace hb := hb.trans htr24
   replace hB22 : Blk ρ19 7 w23 g18 (.cells #[str e10.2.user, .int .i64 e10.2.begun, v16] 74 (0, 0)) := hB221
   clear hB221
   refine sr_end (l' := [(0, v1), (1, .func (.func 78) #[] #[.pointer (some ⟨bdel_1_c0, 0, none⟩)]), (4, str e10.1), (5, .pointer (some ⟨g18, 0, none⟩)), (7, .pointer (some ⟨rt_7, 0, none⟩))]) (.cons rfl (.cons rfl (.cons rfl (.cons rfl (.cons rfl (.nil _)))))) ?_
   refine ke_seq ?_
   refine ke_region ?_
   refine sr_ev (v := .func (.func 78) #[] #[.pointer (some ⟨bdel_1_c0, 0, none⟩)]) (ev_move rfl) (by decide) ?_
   refine sr_ev (v := str e10.1) (ev_move rfl) (by decide) ?_
   refine sr_ev (v := .agg #[str e10.2.user, .int .i64 e10.2.begun, v16]) (ev_loads (cs := [str e10.2.user, .int .i64 e10.2.begun, v16]) Tryz.isAgg74 Tryz.sizeOf74 rfl (hB22.cells (vs := [str e10.2.user, .int .i64 e10.2.begun, v16]) rfl)) (by decide) ?_
   obtain ⟨y25, hy26, hS⟩ := bind_some' hS
   refine sr_callc (vs := [str e10.1, .agg #[str e10.2.user, .int .i64 e10.2.begun, v16]]) rfl Tryz.call78 rfl (login_Logins_Drop_1_ok _ (hg.fr hz hb) (ρA := ρ19) hb.bd (hz.fr hg hb) h17 hedel_1_c0 hy26) (by decide) ?_
   rintro _ w27 ⟨rfl, hbw28⟩
   have htr29 := Tr.of_below hbw28 hb.bd
   replace hm_0 := hm_0.mv (htr29.mv (i := 100) rfl)
   replace hedel_1_c0 := hedel_1_c0.mv (htr29.mv (i := 0) rfl) (Nat.succ_pos _)
   replace ht_7 := ht_7.mv (htr29.mv (i := 100) rfl) (htr29.mv (i := 9) rfl)
   replace hb := hb.trans htr29
   refine sr_end (l' := [(0, v1), (1, .func (.func 78) #[] #[.pointer (some ⟨bdel_1_c0, 0, none⟩)]), (4, str e10.1), (7, .pointer (some ⟨rt_7, 0, none⟩)), (16, .bool y25)]) (.cons rfl (.cons rfl (.cons rfl (.cons rfl (.cons rfl (.nil _)))))) ?_
   refine ke_cond (t := y25) rfl (fun hc30 => ?_) (fun hc30 => ?_)
   ·replace hS := ite_true' hS hc30
    refine ke_region ?_
    refine sr_ev (v := v1) (ev_move rfl) (by decide) ?_
    refine sr_ev (v := str e10.1) (ev_move rfl) (by decide) ?_
    obtain ⟨w31, hrunw31, ht_71, htr32⟩ := sr_mapDelIt (n := 19) (l := [(0, v1), (1, .func (.func 78) #[] #[.pointer (some ⟨bdel_1_c0, 0, none⟩)]), (4, str e10.1), (7, .pointer (some ⟨rt_7, 0, none⟩)), (16, .bool y25), (17, v1), (18, str e10.1)]) (d := none) (x := _) (y := _) (pos := _) (after := _) (t := _) (k := e10.1) ht_7 rfl Tryz.keyB9 Tryz.underlying67 (by decide) hb.bd
    refine sr_run0 (fun a ha => hrunw31 (ha.weaken (.cons rfl (.cons rfl (.cons rfl (.cons rfl (.cons rfl (.cons rfl (.cons rfl (.nil _))))))))) rfl rfl) ?_
    replace hedel_1_c0 := hedel_1_c0.mv (htr32.mv (i := 0) rfl) (Nat.succ_pos _)
    replace hb := hb.trans htr32
    replace ht_7 := ht_71
    clear ht_71
    replace hm_0 := ht_7.map
    refine sr_end (l' := [(0, v1), (1, .func (.func 78) #[] #[.pointer (some ⟨bdel_1_c0, 0, none⟩)]), (7, .pointer (some ⟨rt_7, 0, none⟩))]) (.cons rfl (.cons rfl (.cons rfl (.nil _)))) ?_
    have hK := maps_DeleteFunc_map_string_login_attempt_string_login_attempt__Logins_Drop_1_B2_ok hg hbd ho2 hz _ hr0 hS hb hm_0 hedel_1_c0 ht_7
    exact ke_weaken (l' := [(0, v1), (1, .func (.func 78) #[] #[.pointer (some ⟨bdel_1_c0, 0, none⟩)]), (7, .pointer (some ⟨rt_7, 0, none⟩))]) (.cons rfl (.cons rfl (.cons rfl (.nil _)))) hK
   ·replace hS := ite_false' hS hc30
    refine ke_skip ?_
    have hK := maps_DeleteFunc_map_string_login_attempt_string_login_attempt__Logins_Drop_1_B2_ok hg hbd ho2 hz _ hr0 hS hb hm_0 hedel_1_c0 ht_7
    exact ke_weaken (l' := [(0, v1), (1, .func (.func 78) #[] #[.pointer (some ⟨bdel_1_c0, 0, none⟩)]), (7, .pointer (some ⟨rt_7, 0, none⟩))]) (.cons rfl (.cons rfl (.cons rfl (.nil _)))) hK
theorem maps_DeleteFunc_map_string_login_attempt_string_login_attempt__Logins_Drop_1_ok (w0 : World) (hg : Gs w0) {ρA : Tags} (hbd : ∀ b, ρA b ≠ 0 → b < w0.heap.size) (hz : Gz ρA) {o : Nat} (ho2 : 2 ≤ o) {m_0 : GMap Str login_attempt} {c1_0 : Str} {v1 : Value} {b3 : Nat} {r : GMap Str login_attempt} (h2 : MapT str login_attempt.c true ρA o w0 v1 m_0) (he4 : ElT strC ρA 0 w0 b3 0 [str c1_0] c1_0) (hS : maps_DeleteFunc_map_string_login_attempt_string_login_attempt__Logins_Drop_1 m_0 c1_0 = some r) :
  Calls Tryz.prog 45 #[v1, .func (.func 78) #[] #[.pointer (some ⟨b3, 0, none⟩)]] w0 (Ret (fun v w' => ∃ ρ', v = .tuple #[] ∧ MapT str login_attempt.c true ρ' o w' v1 r ∧ Tr ρA w0 (rng o 1) ρ' w')) := by
 unfold maps_DeleteFunc_map_string_login_attempt_string_login_attempt__Logins_Drop_1 at hS
 have hb := enter_fr (ρ := ρA) (w := w0) (n := 1) ho2 hbd
 have hz := hz.enter (n := 1) ho2
 replace he4 := he4.mv (enter_rd (n := 1) ho2) (Nat.succ_pos _)
 replace h2 := h2.mv (enter_mv (p := 0) (n := 1) (by decide) ho2)
 replace h2 : MapT str login_attempt.c true (enter ρA o 1) 100 w0 v1 m_0 := h2
 refine calls_of_ke Tryz.func45 rfl (n := 19) rfl rfl (l := [(0, v1), (1, .func (.func 78) #[] #[.pointer (some ⟨b3, 0, none⟩)])]) rfl ?_
 refine ke_seq ?_
 refine ke_region ?_
 refine sr_ev (v := v1) (ev_move rfl) (by decide) ?_
 refine sr_rangeM 9 (by decide) h2 rfl Tryz.underlying67 hb.bd rfl (by decide) ?_
 intro r5 ρ6 w7 h8 htr9
 replace h2 := h2.mv (htr9.mv (i := 100) rfl)
 replace he4 := he4.mv (htr9.mv (i := 0) rfl) (Nat.succ_pos _)
 replace hb := hb.trans htr9
 refine sr_end (l' := [(0, v1), (1, .func (.func 78) #[] #[.pointer (some ⟨b3, 0, none⟩)]), (7, .pointer (some ⟨r5, 0, none⟩))]) (.cons rfl (.cons rfl (.cons rfl (.nil _)))) ?_
 refine ke_block ?_
 have hK := maps_DeleteFunc_map_string_login_attempt_string_login_attempt__Logins_Drop_1_L1_ok hg hbd ho2 hz _ hS hb h2 he4 h8
 exact ke_weaken (l' := [(0, v1), (1, .func (.func 78) #[] #[.pointer (some ⟨b3, 0, none⟩)]), (7, .pointer (some ⟨r5, 0, none⟩))]) (.cons rfl (.cons rfl (.cons rfl (.nil _)))) (ke_loop hK)
theorem login_Logins_Drop_ok (w0 : World) (hg : Gs w0) {ρA : Tags} (hbd : ∀ b, ρA b ≠ 0 → b < w0.heap.size) (hz : Gz ρA) {o : Nat} (ho2 : 2 ≤ o) {l_0 : login_Logins} {user_1 : Str} {gl_0 : Nat} {r : Bool × login_Logins} (ho0 : login_Logins.O (fun p => o + p) ρA w0 gl_0 l_0) (hS : login_Logins_Drop l_0 user_1 = some r) :
  Calls Tryz.prog 35 #[.pointer (some ⟨gl_0, 0, none⟩), str user_1] w0 (Ret (fun v w' => ∃ ρ', v = .bool r.1 ∧ login_Logins.O (fun p => o + p) ρ' w' gl_0 r.2 ∧ Tr ρA w0 (rng o 7) ρ' w')) := by
 unfold login_Logins_Drop at hS
 have hb := enter_fr (ρ := ρA) (w := w0) (n := 7) ho2 hbd
 have hz := hz.enter (n := 7) ho2
 obtain ⟨v1, v3, v5, v7, hB9, hP2, h4, h6, h8⟩ := ho0
 replace hB9 := hB9.mv (enter_mv (p := 0) (n := 7) (by decide) ho2)
 replace hP2 := PtrO.mv hP2 secret_Locks.objK (fun p hp => enter_mv (p := 1 + p) (n := 7) (by omega) ho2) (fun p hp => by omega)
 replace h4 := h4.mv (enter_mv (p := 4) (n := 7) (by decide) ho2)
 replace h6 := h6.mv (enter_mv (p := 5) (n := 7) (by decide) ho2)
 replace h8 := h8.mv (enter_mv (p := 6) (n := 7) (by decide) ho2)
 replace hB9 : Blk (enter ρA o 7) 100 w0 gl_0 (.cells #[v1, v3, v5, v7] 69 (0, 0)) := hB9
 replace hP2 : PtrO secret_Locks.O (fun q => 100 + (1 + q)) (enter ρA o 7) w0 v1 l_0.locks := hP2
 replace h4 : MapT str login_credentials.c true (enter ρA o 7) 104 w0 v3 l_0.users := h4
 replace h6 : MapT str (intC .i64) false (enter ρA o 7) 105 w0 v5 l_0.counters := h6
 replace h8 : MapT str login_attempt.c true (enter ρA o 7) 106 w0 v7 l_0.attempts := h8
 refine calls_of_ke Tryz.func35 rfl (n := 42) rfl rfl (l := [(0, .pointer (some ⟨gl_0, 0, none⟩)), (1, str user_1)]) rfl ?_
 refine ke_seq ?_
 refine ke_region ?_
 refine sr_boxT 5 (by decide) hb.bd rfl (by decide) ?_
 intro g10 ρ11 w12 hB14 htr13
 replace hB9 := hB9.mv (htr13.mv (i := 100) rfl)
 replace hP2 := PtrO.mv hP2 secret_Locks.objK (fun p hp => htr13.mv (i := 100 + (1 + p)) (by rcases p with _ | _ | _ | p <;> first | rfl | omega)) (fun p hp => by show 100 + (1 + p) ≠ 0; omega)
 replace h4 := h4.mv (htr13.mv (i := 104) rfl)
 replace h6 := h6.mv (htr13.mv (i := 105) rfl)
 replace h8 := h8.mv (htr13.mv (i := 106) rfl)
 replace hb := hb.trans htr13
 replace hB14 : Blk ρ11 5 w12 g10 (.cells #[str user_1] 9 (0, 0)) := hB14
 refine sr_ev (v := .bool false) (ev_assign rfl) (by decide) ?_
 refine sr_end (l' := [(0, .pointer (some ⟨gl_0, 0, none⟩)), (3, .pointer (some ⟨g10, 0, none⟩))]) (.cons rfl (.cons rfl (.nil _))) ?_
 refine ke_seq ?_
 refine ke_seq ?_
 refine ke_region ?_
 refine sr_ev (v := .pointer (some ⟨gl_0, 0, none⟩)) (ev_move rfl) (by decide) ?_
 obtain ⟨y15, hy16, hS⟩ := bind_some' hS
 refine sr_call (vs := [.pointer (some ⟨gl_0, 0, none⟩)]) rfl Tryz.call42 rfl (login_Logins_ready_ok _ (hg.fr hz hb) (ρA := ρ11) hb.bd (hz.fr hg hb) (τ0 := (fun p => 100 + p)) (fun p => Nat.le_add_right_of_le (by decide)) (⟨_, _, _, _, hB9, hP2, h4, h6, h8⟩ : login_Logins.O (fun p => 100 + p) ρ11 w12 gl_0 l_0) hy16) (by decide) ?_
 rintro _ w17 ⟨rfl, hbw18⟩
 have htr19 := Tr.of_below hbw18 hb.bd
 replace hB14 := hB14.mv (htr19.mv (i := 5) rfl)
 replace hB9 := hB9.mv (htr19.mv (i := 100) rfl)
 replace hP2 := PtrO.mv hP2 secret_Locks.objK (fun p hp => htr19.mv (i := 100 + (1 + p)) (by rcases p with _ | _ | _ | p <;> first | rfl | omega)) (fun p hp => by show 100 + (1 + p) ≠ 0; omega)
 replace h4 := h4.mv (htr19.mv (i := 104) rfl)
 replace h6 := h6.mv (htr19.mv (i := 105) rfl)
 replace h8 := h8.mv (htr19.mv (i := 106) rfl)
 replace hb := hb.trans htr19
 refine sr_ev (v := .bool (!y15)) (ev_not rfl) (by decide) ?_
 refine sr_end (l' := [(0, .pointer (some ⟨gl_0, 0, none⟩)), (3, .pointer (some ⟨g10, 0, none⟩)), (9, .bool (!y15))]) (.cons rfl (.cons rfl (.cons rfl (.nil _)))) ?_
 refine ke_cond (t := !y15) rfl (fun hc20 => ?_) (fun hc20 => ?_)
 ·replace hS := ite_true' hS hc20
  refine ke_seq ?_
  refine ke_region ?_
  refine sr_ev (v := .bool false) (ev_assign rfl) (by decide) ?_
  refine sr_end (l' := [(4, .bool false)]) (.cons rfl (.nil _)) ?_
  cases hS
  exact ke_ret1 Tryz.func35 rfl rfl ⟨_, rfl, leave ρA w0 o 7 ρ11, rfl, ⟨_, _, _, _, (hB9.mv (leave_mv (p := 0) (by decide) hb)), (PtrO.mv hP2 secret_Locks.objK (fun p hp => leave_mv (p := 1 + p) (by omega) hb) (fun p hp => by show o + (1 + p) ≠ 0; omega)), (h4.mv (leave_mv (p := 4) (by decide) hb)), (h6.mv (leave_mv (p := 5) (by decide) hb)), (h8.mv (leave_mv (p := 6) (by decide) hb))⟩, (leave_tr ho2 hb)⟩
 ·replace hS := ite_false' hS hc20
  refine ke_skip ?_
  refine ke_seq ?_
  refine ke_region_j (ρ := ρ11) (fun t => ([7] : List Nat).contains t) 12 Tryz.mixed (fun w22 hw21 => ?_)
  have htr23 := Tr.of_below hw21 hb.bd
  replace hB14 := hB14.mv (htr23.mv (i := 5) rfl)
  replace hB9 := hB9.mv (htr23.mv (i := 100) rfl)
  replace hP2 := PtrO.mv hP2 secret_Locks.objK (fun p hp => htr23.mv (i := 100 + (1 + p)) (by rcases p with _ | _ | _ | p <;> first | rfl | omega)) (fun p hp => by show 100 + (1 + p) ≠ 0; omega)
  replace h4 := h4.mv (htr23.mv (i := 104) rfl)
  replace h6 := h6.mv (htr23.mv (i := 105) rfl)
  replace h8 := h8.mv (htr23.mv (i := 106) rfl)
  replace hb := hb.trans htr23
  refine dj_H 0 (v := .pointer (some ⟨gl_0, 0, none⟩)) (by kernel_rfl) (by kernel_rfl) rfl (fun _ _ _ h => h) (sj_refl hb.bd rfl rfl) (fun w1 ρ1 hw1 => ev_move rfl) (by decide) ?_
  refine dj_H 1 (v := .pointer (some ⟨gl_0, 0, none⟩)) (by kernel_rfl) (by kernel_rfl) rfl (fun _ _ _ h => h) (sj_refl hb.bd rfl rfl) (fun w1 ρ1 hw1 => ev_nilCheck rfl) (by decide) ?_
  refine dj_H 2 (v := .pointer (some ⟨gl_0, 1, none⟩)) (by kernel_rfl) (by kernel_rfl) rfl (fun _ _ _ h => h) (sj_refl hb.bd rfl rfl) (fun w1 ρ1 hw1 => ev_fieldAddr (i := 1) Tryz.underlying69 rfl Tryz.info65 rfl rfl) (by decide) ?_
  refine dj_H 3 (v := v3) (by kernel_rfl) (by kernel_rfl) rfl (fun _ _ _ h => h) (sj_refl hb.bd rfl rfl) (fun w1 ρ1 hw1 => ev_load Tryz.isAgg65 rfl ((hB9.mv (hw1.mv (i := 100) rfl)).cell rfl)) (by decide) ?_
  refine dj_H 4 (v := str user_1) (by kernel_rfl) (by kernel_rfl) rfl (fun _ _ _ h => h) (sj_refl hb.bd rfl rfl) (fun w1 ρ1 hw1 => ev_load Tryz.isAgg9 rfl ((hB14.mv (hw1.mv (i := 5) rfl)).cell rfl)) (by decide) ?_
  obtain ⟨y59, hy60, hS⟩ := bind_some' hS
  replace hy60 := Option.some.inj hy60
  obtain ⟨cs55, hrd56, hl57, hl58⟩ := h4.look (zcs := [str ([]), .int .i64 0, str ([]), str ([])]) (z := (login_credentials.mk (api_Verifier.mk ([]) 0 ([])) ([]))) Tryz.keyB9 Tryz.underlying65 Tryz.zeroValue98 rfl user_1
  rw [hy60] at hrd56
  obtain rfl : cs55 = [str y59.verifier.Salt, .int .i64 y59.verifier.Rounds, str y59.verifier.Hash, str y59.code] := hrd56
  refine dj_H 5 (v := .tuple #[.agg #[str y59.verifier.Salt, .int .i64 y59.verifier.Rounds, str y59.verifier.Hash, str y59.code], .bool (mhas l_0.users user_1)]) (by kernel_rfl) (by kernel_rfl) rfl (fun _ _ _ h => h) (sj_refl hb.bd rfl rfl) (fun w1 ρ1 hw1 => hl58 w1 _ _ (hw1.mv (i := 104) rfl) rfl rfl) (by decide) ?_
  refine dj_H 6 (v := .tuple #[.agg #[str y59.verifier.Salt, .int .i64 y59.verifier.Rounds, str y59.verifier.Hash, str y59.code], .bool (mhas l_0.users user_1)]) (by kernel_rfl) (by kernel_rfl) rfl (fun _ _ _ h => h) (sj_refl hb.bd rfl rfl) (fun w1 ρ1 hw1 => ev_move rfl) (by decide) ?_
  refine dj_H 7 (v := .agg #[str y59.verifier.Salt, .int .i64 y59.verifier.Rounds, str y59.verifier.Hash, str y59.code]) (by kernel_rfl) (by kernel_rfl) rfl (fun _ _ _ h => h) (sj_refl hb.bd rfl rfl) (fun w1 ρ1 hw1 => ev_extract rfl rfl) (by decide) ?_
  refine dj_H 8 (v := .bool (mhas l_0.users user_1)) (by kernel_rfl) (by kernel_rfl) rfl (fun _ _ _ h => h) (sj_refl hb.bd rfl rfl) (fun w1 ρ1 hw1 => ev_extract rfl rfl) (by decide) ?_
  refine dj_E 9 (by kernel_rfl) rfl ?_
  have jt61 : Tr ρ11 w22 (fun t => ([7] : List Nat).contains t) ρ11 w22 := (Tr.refl hb.bd).weak (fun _ _ => rfl) rfl rfl
  refine sr_allocT 7 (by decide) hb.bd Tryz.zeroValue98 (by decide) ?_
  intro g62 ρ63 w64 hB66 htr65
  replace hB14 := hB14.mv (htr65.mv (i := 5) rfl)
  replace hB9 := hB9.mv (htr65.mv (i := 100) rfl)
  replace hP2 := PtrO.mv hP2 secret_Locks.objK (fun p hp => htr65.mv (i := 100 + (1 + p)) (by rcases p with _ | _ | _ | p <;> first | rfl | omega)) (fun p hp => by show 100 + (1 + p) ≠ 0; omega)
  replace h4 := h4.mv (htr65.mv (i := 104) rfl)
  replace h6 := h6.mv (htr65.mv (i := 105) rfl)
  replace h8 := h8.mv (htr65.mv (i := 106) rfl)
  replace hb := hb.trans htr65
  replace jt61 := (jt61.trans htr65).weak (J' := (fun t => ([7] : List Nat).contains t)) (by intro t h; simp [rng] at h ⊢ <;> omega) rfl rfl
  replace hB66 : Blk ρ63 7 w64 g62 (.cells #[str ([]), .int .i64 0, str ([]), str ([])] 98 (0, 0)) := hB66
  refine dj_next (l' := [(0, .pointer (some ⟨gl_0, 0, none⟩)), (3, .pointer (some ⟨g10, 0, none⟩)), (5, .pointer (some ⟨g62, 0, none⟩)), (17, .agg #[str y59.verifier.Salt, .int .i64 y59.verifier.Rounds, str y59.verifier.Hash, str y59.code]), (18, .bool (mhas l_0.users user_1))]) rfl (.cons rfl (.cons rfl (.cons rfl (.cons rfl (.cons rfl (.nil _)))))) jt61 (by intro t h; simp [rng] at h ⊢ <;> omega) rfl rfl ?_
  refine dj_E 10 (by kernel_rfl) rfl ?_
  have jt67 : Tr ρ63 w64 (fun t => ([7] : List Nat).contains t) ρ63 w64 := (Tr.refl hb.bd).weak (fun _ _ => rfl) rfl rfl
  refine sr_storeT (v := .agg #[str y59.verifier.Salt, .int .i64 y59.verifier.Rounds, str y59.verifier.Hash, str y59.code]) (vs := [str y59.verifier.Salt, .int .i64 y59.verifier.Rounds, str y59.verifier.Hash, str y59.code]) (cs' := #[str y59.verifier.Salt, .int .i64 y59.verifier.Rounds, str y59.verifier.Hash, str y59.code]) hB66 (by decide) hb.bd rfl rfl rfl Tryz.sizeOf98 rfl rfl rfl ?_
  intro w68 hB661 htr69
  replace hB14 := hB14.mv (htr69.mv (i := 5) rfl)
  replace hB9 := hB9.mv (htr69.mv (i := 100) rfl)
  replace hP2 := PtrO.mv hP2 secret_Locks.objK (fun p hp => htr69.mv (i := 100 + (1 + p)) (by rcases p with _ | _ | _ | p <;> first | rfl | omega)) (fun p hp => by show 100 + (1 + p) ≠ 0; omega)
  replace h4 := h4.mv (htr69.mv (i := 104) rfl)
  replace h6 := h6.mv (htr69.mv (i := 105) rfl)
  replace h8 := h8.mv (htr69.mv (i := 106) rfl)
  replace hb := hb.trans htr69
  replace jt67 := (jt67.trans htr69).weak (J' := (fun t => ([7] : List Nat).contains t)) (by intro t h; simp [rng] at h ⊢ <;> omega) rfl rfl
  replace hB66 : Blk ρ63 7 w68 g62 (.cells #[str y59.verifier.Salt, .int .i64 y59.verifier.Rounds, str y59.verifier.Hash, str y59.code] 98 (0, 0)) := hB661
  clear hB661
  refine dj_next (l' := [(0, .pointer (some ⟨gl_0, 0, none⟩)), (3, .pointer (some ⟨g10, 0, none⟩)), (18, .bool (mhas l_0.users user_1))]) rfl (.cons rfl (.cons rfl (.cons rfl (.nil _)))) jt67 (by intro t h; simp [rng] at h ⊢ <;> omega) rfl rfl ?_
  refine dj_H 11 (v := .bool (mhas l_0.users user_1)) (by kernel_rfl) (by kernel_rfl) rfl (fun _ _ _ h => h) (sj_refl hb.bd rfl rfl) (fun w1 ρ1 hw1 => ev_assign rfl) (by decide) ?_
  refine dj_done rfl (by kernel_rfl) ?_
  refine ke_weaken (l' := [(0, .pointer (some ⟨gl_0, 0, none⟩)), (3, .pointer (some ⟨g10, 0, none⟩)), (6, .bool (mhas l_0.users user_1))]) (.cons rfl (.cons rfl (.cons rfl (.nil _)))) ?_
  refine ke_seq ?_
  refine ke_region_j (ρ := ρ63) (fun t => ([104] : List Nat).contains t) 6 Tryz.mixed (fun w71 hw70 => ?_)
  have htr72 := Tr.of_below hw70 hb.bd
  replace hB14 := hB14.mv (htr72.mv (i := 5) rfl)
  replace hB9 := hB9.mv (htr72.mv (i := 100) rfl)
  replace hP2 := PtrO.mv hP2 secret_Locks.objK (fun p hp => htr72.mv (i := 100 + (1 + p)) (by rcases p with _ | _ | _ | p <;> first | rfl | omega)) (fun p hp => by show 100 + (1 + p) ≠ 0; omega)
  replace h4 := h4.mv (htr72.mv (i := 104) rfl)
  replace h6 := h6.mv (htr72.mv (i := 105) rfl)
  replace h8 := h8.mv (htr72.mv (i := 106) rfl)
  replace hb := hb.trans htr72
  refine dj_H 0 (v := .pointer (some ⟨gl_0, 0, none⟩)) (by kernel_rfl) (by kernel_rfl) rfl (fun _ _ _ h => h) (sj_refl hb.bd rfl rfl) (fun w1 ρ1 hw1 => ev_move rfl) (by decide) ?_
  refine dj_H 1 (v := .pointer (some ⟨gl_0, 0, none⟩)) (by kernel_rfl) (by kernel_rfl) rfl (fun _ _ _ h => h) (sj_refl hb.bd rfl rfl) (fun w1 ρ1 hw1 => ev_nilCheck rfl) (by decide) ?_
  refine dj_H 2 (v := .pointer (some ⟨gl_0, 1, none⟩)) (by kernel_rfl) (by kernel_rfl) rfl (fun _ _ _ h => h) (sj_refl hb.bd rfl rfl) (fun w1 ρ1 hw1 => ev_fieldAddr (i := 1) Tryz.underlying69 rfl Tryz.info65 rfl rfl) (by decide) ?_
  refine dj_H 3 (v := v3) (by kernel_rfl) (by kernel_rfl) rfl (fun _ _ _ h => h) (sj_refl hb.bd rfl rfl) (fun w1 ρ1 hw1 => ev_load Tryz.isAgg65 rfl ((hB9.mv (hw1.mv (i := 100) rfl)).cell rfl)) (by decide) ?_
  refine dj_H 4 (v := str user_1) (by kernel_rfl) (by kernel_rfl) rfl (fun _ _ _ h => h) (sj_refl hb.bd rfl rfl) (fun w1 ρ1 hw1 => ev_load Tryz.isAgg9 rfl ((hB14.mv (hw1.mv (i := 5) rfl)).cell rfl)) (by decide) ?_
  refine dj_E 5 (by kernel_rfl) rfl ?_
  have jt80 : Tr ρ63 w71 (fun t => ([104] : List Nat).contains t) ρ63 w71 := (Tr.refl hb.bd).weak (fun _ _ => rfl) rfl rfl
  refine sr_mapDel0 (k := user_1) h4 Tryz.keyB9 Tryz.underlying65 (by decide) hb.bd rfl rfl ?_
  intro w81 h41 htr82
  replace hB14 := hB14.mv (htr82.mv (i := 5) rfl)
  replace hB9 := hB9.mv (htr82.mv (i := 100) rfl)
  replace hP2 := PtrO.mv hP2 secret_Locks.objK (fun p hp => htr82.mv (i := 100 + (1 + p)) (by rcases p with _ | _ | _ | p <;> first | rfl | omega)) (fun p hp => by show 100 + (1 + p) ≠ 0; omega)
  replace h6 := h6.mv (htr82.mv (i := 105) rfl)
  replace h8 := h8.mv (htr82.mv (i := 106) rfl)
  replace hb := hb.trans htr82
  replace jt80 := (jt80.trans htr82).weak (J' := (fun t => ([104] : List Nat).contains t)) (by intro t h; simp [rng] at h ⊢ <;> omega) rfl rfl
  replace h4 := h41
  clear h41
  refine dj_next (l' := [(0, .pointer (some ⟨gl_0, 0, none⟩)), (3, .pointer (some ⟨g10, 0, none⟩)), (6, .bool (mhas l_0.users user_1))]) rfl (.cons rfl (.cons rfl (.cons rfl (.nil _)))) jt80 (by intro t h; simp [rng] at h ⊢ <;> omega) rfl rfl ?_
  refine dj_done rfl (by kernel_rfl) ?_
  refine ke_weaken (l' := [(0, .pointer (some ⟨gl_0, 0, none⟩)), (3, .pointer (some ⟨g10, 0, none⟩)), (6, .bool (mhas l_0.users user_1))]) (.cons rfl (.cons rfl (.cons rfl (.nil _)))) ?_
  refine ke_seq ?_
  refine ke_region_j (ρ := ρ63) (fun t => ([105] : List Nat).contains t) 6 Tryz.mixed (fun w84 hw83 => ?_)
  have htr85 := Tr.of_below hw83 hb.bd
  replace hB14 := hB14.mv (htr85.mv (i := 5) rfl)
  replace hB9 := hB9.mv (htr85.mv (i := 100) rfl)
  replace hP2 := PtrO.mv hP2 secret_Locks.objK (fun p hp => htr85.mv (i := 100 + (1 + p)) (by rcases p with _ | _ | _ | p <;> first | rfl | omega)) (fun p hp => by show 100 + (1 + p) ≠ 0; omega)
  replace h4 := h4.mv (htr85.mv (i := 104) rfl)
  replace h6 := h6.mv (htr85.mv (i := 105) rfl)
  replace h8 := h8.mv (htr85.mv (i := 106) rfl)
  replace hb := hb.trans htr85
  refine dj_H 0 (v := .pointer (some ⟨gl_0, 0, none⟩)) (by kernel_rfl) (by kernel_rfl) rfl (fun _ _ _ h => h) (sj_refl hb.bd rfl rfl) (fun w1 ρ1 hw1 => ev_move rfl) (by decide) ?_
  refine dj_H 1 (v := .pointer (some ⟨gl_0, 0, none⟩)) (by kernel_rfl) (by kernel_rfl) rfl (fun _ _ _ h => h) (sj_refl hb.bd rfl rfl) (fun w1 ρ1 hw1 => ev_nilCheck rfl) (by decide) ?_
  refine dj_H 2 (v := .pointer (some ⟨gl_0, 2, none⟩)) (by kernel_rfl) (by kernel_rfl) rfl (fun _ _ _ h => h) (sj_refl hb.bd rfl rfl) (fun w1 ρ1 hw1 => ev_fieldAddr (i := 2) Tryz.underlying69 rfl Tryz.info66 rfl rfl) (by decide) ?_
  refine dj_H 3 (v := v5) (by kernel_rfl) (by kernel_rfl) rfl (fun _ _ _ h => h) (sj_refl hb.bd rfl rfl) (fun w1 ρ1 hw1 => ev_load Tryz.isAgg66 rfl ((hB9.mv (hw1.mv (i := 100) rfl)).cell rfl)) (by decide) ?_
  refine dj_H 4 (v := str user_1) (by kernel_rfl) (by kernel_rfl) rfl (fun _ _ _ h => h) (sj_refl hb.bd rfl rfl) (fun w1 ρ1 hw1 => ev_load Tryz.isAgg9 rfl ((hB14.mv (hw1.mv (i := 5) rfl)).cell rfl)) (by decide) ?_
  refine dj_E 5 (by kernel_rfl) rfl ?_
  have jt93 : Tr ρ63 w84 (fun t => ([105] : List Nat).contains t) ρ63 w84 := (Tr.refl hb.bd).weak (fun _ _ => rfl) rfl rfl
  refine sr_mapDel0 (k := user_1) h6 Tryz.keyB9 Tryz.underlying66 (by decide) hb.bd rfl rfl ?_
  intro w94 h61 htr95
  replace hB14 := hB14.mv (htr95.mv (i := 5) rfl)
  replace hB9 := hB9.mv (htr95.mv (i := 100) rfl)
  replace hP2 := PtrO.mv hP2 secret_Locks.objK (fun p hp => htr95.mv (i := 100 + (1 + p)) (by rcases p with _ | _ | _ | p <;> first | rfl | omega)) (fun p hp => by show 100 + (1 + p) ≠ 0; omega)
  replace h4 := h4.mv (htr95.mv (i := 104) rfl)
  replace h8 := h8.mv (htr95.mv (i := 106) rfl)
  replace hb := hb.trans htr95
  replace jt93 := (jt93.trans htr95).weak (J' := (fun t => ([105] : List Nat).contains t)) (by intro t h; simp [rng] at h ⊢ <;> omega) rfl rfl
  replace h6 := h61
  clear h61
  refine dj_next (l' := [(0, .pointer (some ⟨gl_0, 0, none⟩)), (3, .pointer (some ⟨g10, 0, none⟩)), (6, .bool (mhas l_0.users user_1))]) rfl (.cons rfl (.cons rfl (.cons rfl (.nil _)))) jt93 (by intro t h; simp [rng] at h ⊢ <;> omega) rfl rfl ?_
  refine dj_done rfl (by kernel_rfl) ?_
  refine ke_weaken (l' := [(0, .pointer (some ⟨gl_0, 0, none⟩)), (3, .pointer (some ⟨g10, 0, none⟩)), (6, .bool (mhas l_0.users user_1))]) (.cons rfl (.cons rfl (.cons rfl (.nil _)))) ?_
  refine ke_seq ?_
  refine ke_region_j (ρ := ρ63) (fun t => ([101, 102, 103] : List Nat).contains t) 6 Tryz.mixed (fun w97 hw96 => ?_)
  have htr98 := Tr.of_below hw96 hb.bd
  replace hB14 := hB14.mv (htr98.mv (i := 5) rfl)
  replace hB9 := hB9.mv (htr98.mv (i := 100) rfl)
  replace hP2 := PtrO.mv hP2 secret_Locks.objK (fun p hp => htr98.mv (i := 100 + (1 + p)) (by rcases p with _ | _ | _ | p <;> first | rfl | omega)) (fun p hp => by show 100 + (1 + p) ≠ 0; omega)
  replace h4 := h4.mv (htr98.mv (i := 104) rfl)
  replace h6 := h6.mv (htr98.mv (i := 105) rfl)
  replace h8 := h8.mv (htr98.mv (i := 106) rfl)
  replace hb := hb.trans htr98
  refine dj_H 0 (v := .pointer (some ⟨gl_0, 0, none⟩)) (by kernel_rfl) (by kernel_rfl) rfl (fun _ _ _ h => h) (sj_refl hb.bd rfl rfl) (fun w1 ρ1 hw1 => ev_move rfl) (by decide) ?_
  refine dj_H 1 (v := .pointer (some ⟨gl_0, 0, none⟩)) (by kernel_rfl) (by kernel_rfl) rfl (fun _ _ _ h => h) (sj_refl hb.bd rfl rfl) (fun w1 ρ1 hw1 => ev_nilCheck rfl) (by decide) ?_
  refine dj_H 2 (v := .pointer (some ⟨gl_0, 0, none⟩)) (by kernel_rfl) (by kernel_rfl) rfl (fun _ _ _ h => h) (sj_refl hb.bd rfl rfl) (fun w1 ρ1 hw1 => ev_fieldAddr (i := 0) Tryz.underlying69 rfl Tryz.info64 rfl rfl) (by decide) ?_
  refine dj_H 3 (v := v1) (by kernel_rfl) (by kernel_rfl) rfl (fun _ _ _ h => h) (sj_refl hb.bd rfl rfl) (fun w1 ρ1 hw1 => ev_load Tryz.isAgg64 rfl ((hB9.mv (hw1.mv (i := 100) rfl)).cell rfl)) (by decide) ?_
  refine dj_H 4 (v := str user_1) (by kernel_rfl) (by kernel_rfl) rfl (fun _ _ _ h => h) (sj_refl hb.bd rfl rfl) (fun w1 ρ1 hw1 => ev_load Tryz.isAgg9 rfl ((hB14.mv (hw1.mv (i := 5) rfl)).cell rfl)) (by decide) ?_
  refine dj_E 5 (by kernel_rfl) rfl ?_
  have jt150 : Tr ρ63 w97 (fun t => ([101, 102, 103] : List Nat).contains t) ρ63 w97 := (Tr.refl hb.bd).weak (fun _ _ => rfl) rfl rfl
  rcases ho152 : l_0.locks with _ | z151
  ·replace hS := optC_none hS ho152
   obtain rfl := hP2.none_ ho152
   obtain ⟨y178, hy179, hS⟩ := bind_some' hS
   refine sr_call (vs := [.pointer none, str user_1]) rfl Tryz.call77 rfl (secret_Locks_Clear__nil_ok _ (hg.fr hz hb) (ρA := ρ63) hb.bd (hz.fr hg hb) hy179) (by decide) ?_
   rintro _ w180 ⟨rfl, hbw181⟩
   have htr182 := Tr.of_below hbw181 hb.bd
   replace hB14 := hB14.mv (htr182.mv (i := 5) rfl)
   replace hB9 := hB9.mv (htr182.mv (i := 100) rfl)
   replace h4 := h4.mv (htr182.mv (i := 104) rfl)
   replace h6 := h6.mv (htr182.mv (i := 105) rfl)
   replace h8 := h8.mv (htr182.mv (i := 106) rfl)
   replace hb := hb.trans htr182
   replace jt150 := (jt150.trans htr182).weak (J' := (fun t => ([101, 102, 103] : List Nat).contains t)) (by intro t h; simp [rng] at h ⊢ <;> omega) rfl rfl
   refine dj_next (l' := [(0, .pointer (some ⟨gl_0, 0, none⟩)), (3, .pointer (some ⟨g10, 0, none⟩)), (6, .bool (mhas l_0.users user_1))]) rfl (.cons rfl (.cons rfl (.cons rfl (.nil _)))) jt150 (by intro t h; simp [rng] at h ⊢ <;> omega) rfl rfl ?_
   refine dj_done rfl (by kernel_rfl) ?_
   refine ke_weaken (l' := [(0, .pointer (some ⟨gl_0, 0, none⟩)), (3, .pointer (some ⟨g10, 0, none⟩)), (6, .bool (mhas l_0.users user_1))]) (.cons rfl (.cons rfl (.cons rfl (.nil _)))) ?_
   refine ke_seq ?_
   refine ke_region ?_
   refine sr_ev (v := .pointer (some ⟨gl_0, 0, none⟩)) (ev_move rfl) (by decide) ?_
   refine sr_ev (v := .pointer (some ⟨gl_0, 0, none⟩)) (ev_nilCheck rfl) (by decide) ?_
   refine sr_ev (v := .pointer (some ⟨gl_0, 3, none⟩)) (ev_fieldAddr (i := 3) Tryz.underlying69 rfl Tryz.info67 rfl rfl) (by decide) ?_
   refine sr_ev (v := v7) (ev_load Tryz.isAgg67 rfl (hB9.cell rfl)) (by decide) ?_
   have htr183 := frz_tr (ρ := ρ63) (w := w180) (i := 5) (by decide) hb.bd
   have he184 : ElT strC (frz ρ63 5) 0 w180 g10 0 [str user_1] user_1 := Blk.frzEl hB14 rfl rfl
   replace h8 := h8.mv (htr183.mv (i := 106) rfl)
   replace hB9 := hB9.mv (htr183.mv (i := 100) rfl)
   replace h4 := h4.mv (htr183.mv (i := 104) rfl)
   replace h6 := h6.mv (htr183.mv (i := 105) rfl)
   replace hb := hb.trans htr183
   refine sr_ev (v := .func (.func 78) #[] #[.pointer (some ⟨g10, 0, none⟩)]) (ev_makeFunc rfl) (by decide) ?_
   obtain ⟨y185, hy186, hS⟩ := bind_some' hS
   refine sr_call (vs := [v7, .func (.func 78) #[] #[.pointer (some ⟨g10, 0, none⟩)]]) rfl Tryz.call45 rfl (maps_DeleteFunc_map_string_login_attempt_string_login_attempt__Logins_Drop_1_ok _ (hg.fr hz hb) (ρA := (frz ρ63 5)) hb.bd (hz.fr hg hb) (o := 106) (by decide) h8 he184 hy186) (by decide) ?_
   rintro _ w187 ⟨ρ190, rfl, h81, htr189⟩
   replace hB9 := hB9.mv (htr189.mv (i := 100) rfl)
   replace h4 := h4.mv (htr189.mv (i := 104) rfl)
   replace h6 := h6.mv (htr189.mv (i := 105) rfl)
   replace hb := hb.trans htr189
   replace h8 := h81
   clear h81
   refine sr_end (l' := [(6, .bool (mhas l_0.users user_1))]) (.cons rfl (.nil _)) ?_
   refine ke_seq ?_
   refine ke_region ?_
   refine sr_ev (v := .bool (mhas l_0.users user_1)) (ev_move rfl) (by decide) ?_
   refine sr_ev (v := .bool (mhas l_0.users user_1)) (ev_assign rfl) (by decide) ?_
   refine sr_end (l' := [(4, .bool (mhas l_0.users user_1))]) (.cons rfl (.nil _)) ?_
   cases hS
   exact ke_ret1 Tryz.func35 rfl rfl ⟨_, rfl, leave ρA w0 o 7 ρ190, rfl, ⟨_, _, _, _, (hB9.mv (leave_mv (p := 0) (by decide) hb)), PtrO.nil, (h4.mv (leave_mv (p := 4) (by decide) hb)), (h6.mv (leave_mv (p := 5) (by decide) hb)), (h8.mv (leave_mv (p := 6) (by decide) hb))⟩, (leave_tr ho2 hb)⟩
  ·replace hS := optC_some hS ho152
   obtain ⟨g153, rfl, ⟨v154, lp156, hB158, h155, hR157⟩⟩ := hP2.some_ ho152
   replace hB158 : Blk ρ63 101 w97 g153 (.cells #[.int .i64 z151.most, .int .i64 z151.window, .int .i64 z151.lock, v154] 134 (0, 0)) := hB158
   replace h155 : MapT str ptrC false ρ63 102 w97 v154 lp156 := h155
   replace hR157 : Recs secret_record.O 2 ρ63 103 w97 lp156 z151.users := hR157
   obtain ⟨y159, hy160, hS⟩ := bind_some' hS
   refine sr_call (vs := [.pointer (some ⟨g153, 0, none⟩), str user_1]) rfl Tryz.call77 rfl (secret_Locks_Clear_ok _ (hg.fr hz hb) (ρA := ρ63) hb.bd (hz.fr hg hb) (o := 101) (by decide) (⟨_, _, hB158, h155, hR157⟩ : secret_Locks.O (fun p => 101 + p) ρ63 w97 g153 z151) hy160) (by decide) ?_
   rintro _ w161 ⟨ρ169, rfl, ⟨v164, lp166, hB168, h165, hR167⟩, htr163⟩
   replace hB14 := hB14.mv (htr163.mv (i := 5) rfl)
   replace hB9 := hB9.mv (htr163.mv (i := 100) rfl)
   replace h4 := h4.mv (htr163.mv (i := 104) rfl)
   replace h6 := h6.mv (htr163.mv (i := 105) rfl)
   replace h8 := h8.mv (htr163.mv (i := 106) rfl)
   replace hb := hb.trans htr163
   replace jt150 := (jt150.trans htr163).weak (J' := (fun t => ([101, 102, 103] : List Nat).contains t)) (by intro t h; simp [rng] at h ⊢ <;> omega) rfl rfl
   replace hB168 : Blk ρ169 101 w161 g153 (.cells #[.int .i64 y159.most, .int .i64 y159.window, .int .i64 y159.lock, v164] 134 (0, 0)) := hB168
   replace h165 : MapT str ptrC false ρ169 102 w161 v164 lp166 := h165
   replace hR167 : Recs secret_record.O 2 ρ169 103 w161 lp166 y159.users := hR167
   refine dj_next (l' := [(0, .pointer (some ⟨gl_0, 0, none⟩)), (3, .pointer (some ⟨g10, 0, none⟩)), (6, .bool (mhas l_0.users user_1))]) rfl (.cons rfl (.cons rfl (.cons rfl (.nil _)))) jt150 (by intro t h; simp [rng] at h ⊢ <;> omega) rfl rfl ?_
   refine dj_done rfl (by kernel_rfl) ?_
   refine ke_weaken (l' := [(0, .pointer (some ⟨gl_0, 0, none⟩)), (3, .pointer (some ⟨g10, 0, none⟩)), (6, .bool (mhas l_0.users user_1))]) (.cons rfl (.cons rfl (.cons rfl (.nil _)))) ?_
   refine ke_seq ?_
   refine ke_region ?_
   refine sr_ev (v := .pointer (some ⟨gl_0, 0, none⟩)) (ev_move rfl) (by decide) ?_
   refine sr_ev (v := .pointer (some ⟨gl_0, 0, none⟩)) (ev_nilCheck rfl) (by decide) ?_
   refine sr_ev (v := .pointer (some ⟨gl_0, 3, none⟩)) (ev_fieldAddr (i := 3) Tryz.underlying69 rfl Tryz.info67 rfl rfl) (by decide) ?_
   refine sr_ev (v := v7) (ev_load Tryz.isAgg67 rfl (hB9.cell rfl)) (by decide) ?_
   have htr170 := frz_tr (ρ := ρ169) (w := w161) (i := 5) (by decide) hb.bd
   have he171 : ElT strC (frz ρ169 5) 0 w161 g10 0 [str user_1] user_1 := Blk.frzEl hB14 rfl rfl
   replace h8 := h8.mv (htr170.mv (i := 106) rfl)
   replace hB168 := hB168.mv (htr170.mv (i := 101) rfl)
   replace h165 := h165.mv (htr170.mv (i := 102) rfl)
   replace hR167 := Recs.mv hR167 secret_record.objK (htr170.mv (i := 103) rfl) (by decide)
   replace hB9 := hB9.mv (htr170.mv (i := 100) rfl)
   replace h4 := h4.mv (htr170.mv (i := 104) rfl)
   replace h6 := h6.mv (htr170.mv (i := 105) rfl)
   replace hb := hb.trans htr170
   refine sr_ev (v := .func (.func 78) #[] #[.pointer (some ⟨g10, 0, none⟩)]) (ev_makeFunc rfl) (by decide) ?_
   obtain ⟨y172, hy173, hS⟩ := bind_some' hS
   refine sr_call (vs := [v7, .func (.func 78) #[] #[.pointer (some ⟨g10, 0, none⟩)]]) rfl Tryz.call45 rfl (maps_DeleteFunc_map_string_login_attempt_string_login_attempt__Logins_Drop_1_ok _ (hg.fr hz hb) (ρA := (frz ρ169 5)) hb.bd (hz.fr hg hb) (o := 106) (by decide) h8 he171 hy173) (by decide) ?_
   rintro _ w174 ⟨ρ177, rfl, h81, htr176⟩
   replace hB168 := hB168.mv (htr176.mv (i := 101) rfl)
   replace h165 := h165.mv (htr176.mv (i := 102) rfl)
   replace hR167 := Recs.mv hR167 secret_record.objK (htr176.mv (i := 103) rfl) (by decide)
   replace hB9 := hB9.mv (htr176.mv (i := 100) rfl)
   replace h4 := h4.mv (htr176.mv (i := 104) rfl)
   replace h6 := h6.mv (htr176.mv (i := 105) rfl)
   replace hb := hb.trans htr176
   replace h8 := h81
   clear h81
   refine sr_end (l' := [(6, .bool (mhas l_0.users user_1))]) (.cons rfl (.nil _)) ?_
   refine ke_seq ?_
   refine ke_region ?_
   refine sr_ev (v := .bool (mhas l_0.users user_1)) (ev_move rfl) (by decide) ?_
   refine sr_ev (v := .bool (mhas l_0.users user_1)) (ev_assign rfl) (by decide) ?_
   refine sr_end (l' := [(4, .bool (mhas l_0.users user_1))]) (.cons rfl (.nil _)) ?_
   cases hS
   exact ke_ret1 Tryz.func35 rfl rfl ⟨_, rfl, leave ρA w0 o 7 ρ177, rfl, ⟨_, _, _, _, (hB9.mv (leave_mv (p := 0) (by decide) hb)), (PtrO.mk ⟨_, _, (hB168.mv (leave_mv (p := 1) (by decide) hb)), (h165.mv (leave_mv (p := 2) (by decide) hb)), (Recs.mv hR167 secret_record.objK (leave_mv (p := 3) (by decide) hb) (Nat.ne_of_gt (Nat.lt_of_lt_of_le (Nat.lt_of_lt_of_le Nat.zero_lt_two ho2) (Nat.le_add_right _ _))))⟩), (h4.mv (leave_mv (p := 4) (by decide) hb)), (h6.mv (leave_mv (p := 5) (by decide) hb)), (h8.mv (leave_mv (p := 6) (by decide) hb))⟩, (leave_tr ho2 hb)⟩
theorem law39_LoginExpires_L1_ok {w0 : World} (hg : Gs w0) {ρA : Tags} (hbd : ∀ b, ρA b ≠ 0 → b < w0.heap.size) (hz : Gz (flat1 ρA)) : ∀ (n : Nat), ∀ {r : Bool} {l_0 : List law39_Op} {now_1 : Int} {after_2 : Int} {oa_7 : login_Logins} {i_8 : Int} {vl_0 : Value} {ga_7 : Nat}, law39_LoginExpires_L1 n l_0 now_1 after_2 oa_7 i_8 = some r → ∀ {ρ : Tags} {w : World}, (Fr (flat1 ρA) w0 ρ w) → (SlR law39_Op.c (Wb ρ) w vl_0 l_0) → (login_Logins.O (fun p => 100 + p) ρ w ga_7 oa_7) → KE Tryz.prog 7 (Ret (fun v w' => v = .bool r ∧ Below w0.heap.size w0 w')) 98 [.code (sub (bodyOf Tryz.f7) [2, 2, 2, 2, 1, 2, 2, 1]), .inLoop (sub (bodyOf Tryz.f7) [2, 2, 2, 2, 1, 2, 2, 1]), .inBlock 0, .code (sub (bodyOf Tryz.f7) [2, 2, 2, 2, 2])] [(0, vl_0), (1, .int .i64 now_1), (2, .int .i64 after_2), (7, .pointer (some ⟨ga_7, 0, none⟩)), (8, .int .i64 i_8)] w := by
 intro n
 induction n with
 | zero => intro r l_0 now_1 after_2 oa_7 i_8 vl_0 ga_7 hS; cases hS
 | succ n ih =>
  have hr0 : ∀ {r : Bool} {l_0 : List law39_Op} {now_1 : Int} {after_2 : Int} {oa_7 : login_Logins} {i_8 : Int} {vl_0 : Value} {ga_7 : Nat}, law39_LoginExpires_L1 n l_0 now_1 after_2 oa_7 i_8 = some r → ∀ {ρ : Tags} {w : World}, (Fr (flat1 ρA) w0 ρ w) → (SlR law39_Op.c (Wb ρ) w vl_0 l_0) → (login_Logins.O (fun p => 100 + p) ρ w ga_7 oa_7) → KE Tryz.prog 7 (Ret (fun v w' => v = .bool r ∧ Below w0.heap.size w0 w')) 98 [.inLoop (sub (bodyOf Tryz.f7) [2, 2, 2, 2, 1, 2, 2, 1]), .inBlock 0, .code (sub (bodyOf Tryz.f7) [2, 2, 2, 2, 2])] [(0, vl_0), (1, .int .i64 now_1), (2, .int .i64 after_2), (7, .pointer (some ⟨ga_7, 0, none⟩)), (8, .int .i64 i_8)] w := fun {r} {l_0} {now_1} {after_2} {oa_7} {i_8} {vl_0} {ga_7} hS {ρ} {w} hb hl_0 hoa_7 => ke_inLoop (ih hS hb hl_0 hoa_7)
  clear ih
  intro r l_0 now_1 after_2 oa_7 i_8 vl_0 ga_7 hS ρ w hb hl_0 hoa_7
  unfold law39_LoginExpires_L1 at hS
  obtain ⟨v66, v68, v70, v72, hB74, hP67, h69, h71, h73⟩ := hoa_7
  replace hB74 : Blk ρ 100 w ga_7 (.cells #[v66, v68, v70, v72] 69 (0, 0)) := hB74
  replace hP67 : PtrO secret_Locks.O (fun q => 100 + (1 + q)) ρ w v66 oa_7.locks := hP67
  replace h69 : MapT str login_credentials.c true ρ 104 w v68 oa_7.users := h69
  replace h71 : MapT str (intC .i64) false ρ 105 w v70 oa_7.counters := h71
  replace h73 : MapT str login_attempt.c true ρ 106 w v72 oa_7.attempts := h73
  refine ke_seq ?_
  refine ke_seq ?_
  refine ke_region ?_
  refine sr_ev (v := .int .i64 i_8) (ev_move rfl) (by decide) ?_
  refine sr_ev (v := vl_0) (ev_move rfl) (by decide) ?_
  refine sr_ev (v := .int .i64 (l_0.length : Int)) (ev_sllenW Tryz.underlying22 rfl hl_0.asSl) (by decide) ?_
  refine sr_ev (v := .bool (decide (i_8 < (l_0.length : Int)))) (ev_lt rfl rfl) (by decide) ?_
  refine sr_end (l' := [(0, vl_0), (1, .int .i64 now_1), (2, .int .i64 after_2), (7, .pointer (some ⟨ga_7, 0, none⟩)), (8, .int .i64 i_8), (38, .bool (decide (i_8 < (l_0.length : Int))))]) (.cons rfl (.cons rfl (.cons rfl (.cons rfl (.cons rfl (.cons rfl (.nil _))))))) ?_
  refine ke_cond (t := decide (i_8 < (l_0.length : Int))) rfl (fun hc75 => ?_) (fun hc75 => ?_)
  ·replace hS := ite_true' hS hc75
   refine ke_skip ?_
   refine ke_seq ?_
   refine ke_block ?_
   refine ke_region ?_
   refine sr_ev (v := .pointer (some ⟨ga_7, 0, none⟩)) (ev_move rfl) (by decide) ?_
   refine sr_ev (v := vl_0) (ev_move rfl) (by decide) ?_
   refine sr_ev (v := .int .i64 i_8) (ev_move rfl) (by decide) ?_
   obtain ⟨y76, hy77, hS⟩ := bind_some' hS
   obtain ⟨b78, o79, cs81, hq82, he80⟩ := ((SlT.of_sl (i := 0) hl_0)).elem (P := Tryz.prog) Tryz.underlying22 Tryz.info33 rfl hy77
   obtain rfl : cs81 = [.int .i64 y76.Kind, str y76.ID, str y76.User, str y76.Word, str y76.Code, str y76.S, .int .i64 y76.Level, .int .i64 y76.Rounds, .int .i64 y76.Now] := he80.rd
   refine sr_ev (v := .pointer (some ⟨b78, o79, none⟩)) (hq82 w rfl rfl) (by decide) ?_
   refine sr_ev (v := .agg #[.int .i64 y76.Kind, str y76.ID, str y76.User, str y76.Word, str y76.Code, str y76.S, .int .i64 y76.Level, .int .i64 y76.Rounds, .int .i64 y76.Now]) (ev_loads (cs := [.int .i64 y76.Kind, str y76.ID, str y76.User, str y76.Word, str y76.Code, str y76.S, .int .i64 y76.Level, .int .i64 y76.Rounds, .int .i64 y76.Now]) Tryz.isAgg33 Tryz.sizeOf33 rfl he80.cell) (by decide) ?_
   obtain ⟨y83, hy84, hS⟩ := bind_some' hS
   refine sr_call (vs := [.pointer (some ⟨ga_7, 0, none⟩), .agg #[.int .i64 y76.Kind, str y76.ID, str y76.User, str y76.Word, str y76.Code, str y76.S, .int .i64 y76.Level, .int .i64 y76.Rounds, .int .i64 y76.Now]]) rfl Tryz.call16 rfl (law39_play_ok _ (hg.fr hz hb) (ρA := ρ) hb.bd (hz.fr hg hb) (o := 100) (by decide) (⟨_, _, _, _, hB74, hP67, h69, h71, h73⟩ : login_Logins.O (fun p => 100 + p) ρ w ga_7 oa_7) hy84) (by decide) ?_
   rintro _ w85 ⟨ρ97, rfl, ⟨v88, v90, v92, v94, hB96, hP89, h91, h93, h95⟩, htr87⟩
   replace hl_0 := hl_0.mv htr87.rd
   replace hb := hb.trans htr87
   replace hB96 : Blk ρ97 100 w85 ga_7 (.cells #[v88, v90, v92, v94] 69 (0, 0)) := hB96
   replace hP89 : PtrO secret_Locks.O (fun q => 100 + (1 + q)) ρ97 w85 v88 y83.locks := hP89
   replace h91 : MapT str login_credentials.c true ρ97 104 w85 v90 y83.users := h91
   replace h93 : MapT str (intC .i64) false ρ97 105 w85 v92 y83.counters := h93
   replace h95 : MapT str login_attempt.c true ρ97 106 w85 v94 y83.attempts := h95
   refine sr_end (l' := [(0, vl_0), (1, .int .i64 now_1), (2, .int .i64 after_2), (7, .pointer (some ⟨ga_7, 0, none⟩)), (8, .int .i64 i_8)]) (.cons rfl (.cons rfl (.cons rfl (.cons rfl (.cons rfl (.nil _)))))) ?_
   refine ke_inBlock ?_
   refine ke_region ?_
   refine sr_ev (v := .int .i64 i_8) (ev_move rfl) (by decide) ?_
   refine sr_ev (v := .int .i64 (IntKind.i64.wrap (i_8 + 1))) (ev_add rfl rfl) (by decide) ?_
   refine sr_ev (v := .int .i64 (IntKind.i64.wrap (i_8 + 1))) (ev_assign rfl) (by decide) ?_
   refine sr_end (l' := [(0, vl_0), (1, .int .i64 now_1), (2, .int .i64 after_2), (7, .pointer (some ⟨ga_7, 0, none⟩)), (8, .int .i64 (IntKind.i64.wrap (i_8 + 1)))]) (.cons rfl (.cons rfl (.cons rfl (.cons rfl (.cons rfl (.nil _)))))) ?_
   have hK := hr0 hS hb hl_0 ⟨_, _, _, _, hB96, hP89, h91, h93, h95⟩
   exact ke_weaken (l' := [(0, vl_0), (1, .int .i64 now_1), (2, .int .i64 after_2), (7, .pointer (some ⟨ga_7, 0, none⟩)), (8, .int .i64 (IntKind.i64.wrap (i_8 + 1)))]) (.cons rfl (.cons rfl (.cons rfl (.cons rfl (.cons rfl (.nil _)))))) hK
  ·replace hS := ite_false' hS hc75
   refine ke_exit (k' := _) rfl ?_
   refine ke_seq ?_
   refine ke_seq ?_
   refine ke_region ?_
   refine sr_ev (v := .pointer (some ⟨ga_7, 0, none⟩)) (ev_move rfl) (by decide) ?_
   refine sr_ev (v := .int .i64 now_1) (ev_move rfl) (by decide) ?_
   obtain ⟨y98, hy99, hS⟩ := bind_some' hS
   refine sr_call (vs := [.pointer (some ⟨ga_7, 0, none⟩), str ([109, 105, 110, 101]), str ([97, 110, 110]), .int .i64 now_1]) rfl Tryz.call14 rfl (login_Logins_Begin_ok _ (hg.fr hz hb) (ρA := ρ) hb.bd (hz.fr hg hb) (o := 100) (by decide) (⟨_, _, _, _, hB74, hP67, h69, h71, h73⟩ : login_Logins.O (fun p => 100 + p) ρ w ga_7 oa_7) hy99) (by decide) ?_
   rintro _ w100 ⟨ρ112, rfl, ⟨v103, v105, v107, v109, hB111, hP104, h106, h108, h110⟩, htr102⟩
   replace hb := hb.trans htr102
   replace hB111 : Blk ρ112 100 w100 ga_7 (.cells #[v103, v105, v107, v109] 69 (0, 0)) := hB111
   replace hP104 : PtrO secret_Locks.O (fun q => 100 + (1 + q)) ρ112 w100 v103 y98.2.locks := hP104
   replace h106 : MapT str login_credentials.c true ρ112 104 w100 v105 y98.2.users := h106
   replace h108 : MapT str (intC .i64) false ρ112 105 w100 v107 y98.2.counters := h108
   replace h110 : MapT str login_attempt.c true ρ112 106 w100 v109 y98.2.attempts := h110
   refine sr_ev (v := .bool (y98.1 != 0)) (ev_ne rfl rfl) (by decide) ?_
   refine sr_end (l' := [(1, .int .i64 now_1), (2, .int .i64 after_2), (7, .pointer (some ⟨ga_7, 0, none⟩)), (50, .bool (y98.1 != 0))]) (.cons rfl (.cons rfl (.cons rfl (.cons rfl (.nil _))))) ?_
   refine ke_cond (t := y98.1 != 0) rfl (fun hc113 => ?_) (fun hc113 => ?_)
   ·replace hS := ite_true' hS hc113
    refine ke_seq ?_
    refine ke_region ?_
    obtain ⟨y114, hy115, hS⟩ := bind_some' hS
    refine sr_call (vs := []) rfl Tryz.call10 rfl (law39_alive_ok _ (hg.fr hz hb) (ρA := ρ112) hb.bd (hz.fr hg hb) hy115) (by decide) ?_
    rintro _ w116 ⟨rfl, hbw117⟩
    have htr118 := Tr.of_below hbw117 hb.bd
    replace hb := hb.trans htr118
    refine sr_ev (v := .bool y114) (ev_assign rfl) (by decide) ?_
    refine sr_end (l' := [(6, .bool y114)]) (.cons rfl (.nil _)) ?_
    cases hS
    exact ke_ret1 Tryz.func7 rfl rfl ⟨_, rfl, rfl, (hb.below (flat1_le _))⟩
   ·replace hS := ite_false' hS hc113
    refine ke_skip ?_
    refine ke_seq ?_
    refine ke_region ?_
    refine sr_ev (v := .int .i64 now_1) (ev_move rfl) (by decide) ?_
    refine sr_ev (v := .int .i64 after_2) (ev_move rfl) (by decide) ?_
    obtain ⟨y119, hy120, hS⟩ := bind_some' hS
    refine sr_call (vs := [.int .i64 now_1, .int .i64 after_2]) rfl Tryz.call39 rfl (clock_Add_ok _ (hg.fr hz hb) hy120) (by decide) ?_
    rintro _ w121 ⟨rfl, hbw122⟩
    have htr123 := Tr.of_below hbw122 hb.bd
    replace hB111 := hB111.mv (htr123.mv (i := 100) rfl)
    replace hP104 := PtrO.mv hP104 secret_Locks.objK (fun p hp => htr123.mv (i := 100 + (1 + p)) (by rcases p with _ | _ | _ | p <;> first | rfl | omega)) (fun p hp => by show 100 + (1 + p) ≠ 0; omega)
    replace h106 := h106.mv (htr123.mv (i := 104) rfl)
    replace h108 := h108.mv (htr123.mv (i := 105) rfl)
    replace h110 := h110.mv (htr123.mv (i := 106) rfl)
    replace hb := hb.trans htr123
    refine sr_ev (v := .int .i64 y119) (ev_assign rfl) (by decide) ?_
    refine sr_end (l' := [(1, .int .i64 now_1), (2, .int .i64 after_2), (7, .pointer (some ⟨ga_7, 0, none⟩)), (9, .int .i64 y119)]) (.cons rfl (.cons rfl (.cons rfl (.cons rfl (.nil _))))) ?_
    refine ke_seq ?_
    refine ke_region ?_
    refine sr_ev (v := .pointer (some ⟨ga_7, 0, none⟩)) (ev_move rfl) (by decide) ?_
    refine sr_ev (v := .int .i64 y119) (ev_move rfl) (by decide) ?_
    obtain ⟨y124, hy125, hS⟩ := bind_some' hS
    refine sr_call (vs := [.pointer (some ⟨ga_7, 0, none⟩), .int .i64 y119]) rfl Tryz.call37 rfl (login_Logins_Open_ok _ (hg.fr hz hb) (ρA := ρ112) hb.bd (hz.fr hg hb) (τ0 := (fun p => 100 + p)) (fun p => Nat.le_add_right_of_le (by decide)) (⟨_, _, _, _, hB111, hP104, h106, h108, h110⟩ : login_Logins.O (fun p => 100 + p) ρ112 w121 ga_7 y98.2) hy125) (by decide) ?_
    rintro _ w126 ⟨rfl, hbw127⟩
    have htr128 := Tr.of_below hbw127 hb.bd
    replace hB111 := hB111.mv (htr128.mv (i := 100) rfl)
    replace hP104 := PtrO.mv hP104 secret_Locks.objK (fun p hp => htr128.mv (i := 100 + (1 + p)) (by rcases p with _ | _ | _ | p <;> first | rfl | omega)) (fun p hp => by show 100 + (1 + p) ≠ 0; omega)
    replace h106 := h106.mv (htr128.mv (i := 104) rfl)
    replace h108 := h108.mv (htr128.mv (i := 105) rfl)
    replace h110 := h110.mv (htr128.mv (i := 106) rfl)
    replace hb := hb.trans htr128
    refine sr_ev (v := .int .i64 y124) (ev_assign rfl) (by decide) ?_
    refine sr_end (l' := [(1, .int .i64 now_1), (2, .int .i64 after_2), (7, .pointer (some ⟨ga_7, 0, none⟩)), (9, .int .i64 y119), (10, .int .i64 y124)]) (.cons rfl (.cons rfl (.cons rfl (.cons rfl (.cons rfl (.nil _)))))) ?_
    refine ke_seq ?_
    refine ke_region ?_
    refine sr_ev (v := .pointer (some ⟨ga_7, 0, none⟩)) (ev_move rfl) (by decide) ?_
    refine sr_ev (v := .int .i64 y119) (ev_move rfl) (by decide) ?_
    obtain ⟨y129, hy130, hS⟩ := bind_some' hS
    refine sr_call (vs := [.pointer (some ⟨ga_7, 0, none⟩), str ([109, 105, 110, 101]), str ([]), .int .i64 y119]) rfl Tryz.call19 rfl (login_Logins_Password_ok _ (hg.fr hz hb) (ρA := ρ112) hb.bd (hz.fr hg hb) (o := 100) (by decide) (⟨_, _, _, _, hB111, hP104, h106, h108, h110⟩ : login_Logins.O (fun p => 100 + p) ρ112 w126 ga_7 y98.2) hy130) (by decide) ?_
    rintro _ w131 ⟨ρ143, rfl, ⟨v134, v136, v138, v140, hB142, hP135, h137, h139, h141⟩, htr133⟩
    replace hb := hb.trans htr133
    replace hB142 : Blk ρ143 100 w131 ga_7 (.cells #[v134, v136, v138, v140] 69 (0, 0)) := hB142
    replace hP135 : PtrO secret_Locks.O (fun q => 100 + (1 + q)) ρ143 w131 v134 y129.2.locks := hP135
    replace h137 : MapT str login_credentials.c true ρ143 104 w131 v136 y129.2.users := h137
    replace h139 : MapT str (intC .i64) false ρ143 105 w131 v138 y129.2.counters := h139
    replace h141 : MapT str login_attempt.c true ρ143 106 w131 v140 y129.2.attempts := h141
    refine sr_ev (v := .int .i64 y129.1) (ev_assign rfl) (by decide) ?_
    refine sr_end (l' := [(1, .int .i64 now_1), (2, .int .i64 after_2), (7, .pointer (some ⟨ga_7, 0, none⟩)), (9, .int .i64 y119), (10, .int .i64 y124), (11, .int .i64 y129.1)]) (.cons rfl (.cons rfl (.cons rfl (.cons rfl (.cons rfl (.cons rfl (.nil _))))))) ?_
    refine ke_seq ?_
    refine ke_seq ?_
    refine ke_region ?_
    refine sr_ev (v := .int .i64 y129.1) (ev_move rfl) (by decide) ?_
    refine sr_ev (v := .bool (y129.1 == 13)) (ev_eq rfl rfl) (by decide) ?_
    refine sr_ev (v := .int .i64 after_2) (ev_move rfl) (by decide) ?_
    refine sr_ev (v := .bool (decide (after_2 ≥ 300))) (ev_ge rfl rfl) (by decide) ?_
    refine sr_ev (v := .bool ((y129.1 == 13) != (decide (after_2 ≥ 300)))) (ev_bne Tryz.underlying4 rfl rfl) (by decide) ?_
    refine sr_ev (v := .bool ((y129.1 == 13) != (decide (after_2 ≥ 300)))) (ev_move rfl) (by decide) ?_
    refine sr_join (m := 3) (C := fun (x : Bool) w1 => x = (((y129.1 == 13) != (decide (after_2 ≥ 300))) || (decide (y124 < 0))) ∧ w131 = w1) (l' := fun x => [(1, .int .i64 now_1), (2, .int .i64 after_2), (7, .pointer (some ⟨ga_7, 0, none⟩)), (9, .int .i64 y119), (10, .int .i64 y124), (69, .bool x)]) ?_ ?_
    ·rintro _ _ ⟨rfl, rfl⟩
     refine sr_ev (v := .bool (((y129.1 == 13) != (decide (after_2 ≥ 300))) || (decide (y124 < 0)))) (ev_move rfl) (by decide) ?_
     refine sr_join (m := 7) (C := fun (x : Bool) w1 => x = ((((y129.1 == 13) != (decide (after_2 ≥ 300))) || (decide (y124 < 0))) || ((decide (after_2 < 300)) && (decide (y124 < 1)))) ∧ w131 = w1) (l' := fun x => [(1, .int .i64 now_1), (7, .pointer (some ⟨ga_7, 0, none⟩)), (9, .int .i64 y119), (77, .bool x)]) ?_ ?_
     ·rintro _ _ ⟨rfl, rfl⟩
      refine sr_end (l' := [(1, .int .i64 now_1), (7, .pointer (some ⟨ga_7, 0, none⟩)), (9, .int .i64 y119), (77, .bool ((((y129.1 == 13) != (decide (after_2 ≥ 300))) || (decide (y124 < 0))) || ((decide (after_2 < 300)) && (decide (y124 < 1)))))]) (.cons rfl (.cons rfl (.cons rfl (.cons rfl (.nil _))))) ?_
      refine ke_cond (t := (((y129.1 == 13) != (decide (after_2 ≥ 300))) || (decide (y124 < 0))) || ((decide (after_2 < 300)) && (decide (y124 < 1)))) rfl (fun hc168 => ?_) (fun hc168 => ?_)
      ·replace hS := ite_true' hS hc168
       refine ke_seq ?_
       refine ke_region ?_
       refine sr_ev (v := .bool false) (ev_assign rfl) (by decide) ?_
       refine sr_end (l' := [(6, .bool false)]) (.cons rfl (.nil _)) ?_
       cases hS
       exact ke_ret1 Tryz.func7 rfl rfl ⟨_, rfl, rfl, (hb.below (flat1_le _))⟩
      ·replace hS := ite_false' hS hc168
       refine ke_skip ?_
       refine ke_seq ?_
       refine ke_seq ?_
       refine ke_region ?_
       refine sr_ev (v := .pointer (some ⟨ga_7, 0, none⟩)) (ev_move rfl) (by decide) ?_
       obtain ⟨y169, hy170, hS⟩ := bind_some' hS
       refine sr_call (vs := [.pointer (some ⟨ga_7, 0, none⟩), str ([97, 110, 110])]) rfl Tryz.call35 rfl (login_Logins_Drop_ok _ (hg.fr hz hb) (ρA := ρ143) hb.bd (hz.fr hg hb) (o := 100) (by decide) (⟨_, _, _, _, hB142, hP135, h137, h139, h141⟩ : login_Logins.O (fun p => 100 + p) ρ143 w131 ga_7 y129.2) hy170) (by decide) ?_
       rintro _ w171 ⟨ρ183, rfl, ⟨v174, v176, v178, v180, hB182, hP175, h177, h179, h181⟩, htr173⟩
       replace hb := hb.trans htr173
       replace hB182 : Blk ρ183 100 w171 ga_7 (.cells #[v174, v176, v178, v180] 69 (0, 0)) := hB182
       replace hP175 : PtrO secret_Locks.O (fun q => 100 + (1 + q)) ρ183 w171 v174 y169.2.locks := hP175
       replace h177 : MapT str login_credentials.c true ρ183 104 w171 v176 y169.2.users := h177
       replace h179 : MapT str (intC .i64) false ρ183 105 w171 v178 y169.2.counters := h179
       replace h181 : MapT str login_attempt.c true ρ183 106 w171 v180 y169.2.attempts := h181
       refine sr_ev (v := .bool (!y169.1)) (ev_not rfl) (by decide) ?_
       refine sr_ev (v := .bool (!y169.1)) (ev_move rfl) (by decide) ?_
       obtain ⟨z186, hz188, hS⟩ := bind_some' hS
       refine sr_join (m := 3) (C := fun (z : Bool × login_Logins) w1 => z186 = z ∧ ∃ ρ1, login_Logins.O (fun p => 100 + p) ρ1 w1 ga_7 z.2 ∧ Tr ρ183 w171 (fun t => ([100, 101, 102, 103, 104, 105, 106] : List Nat).contains t) ρ1 w1) (l' := fun z => [(1, .int .i64 now_1), (7, .pointer (some ⟨ga_7, 0, none⟩)), (9, .int .i64 y119), (84, .bool z.1)]) ?_ ?_
       ·rintro _ w189 ⟨rfl, ρ190, ⟨v207, v209, v211, v213, hB215, hP208, h210, h212, h214⟩, hj187⟩
        replace hb := hb.trans hj187
        replace hB215 : Blk ρ190 100 w189 ga_7 (.cells #[v207, v209, v211, v213] 69 (0, 0)) := hB215
        replace hP208 : PtrO secret_Locks.O (fun q => 100 + (1 + q)) ρ190 w189 v207 z186.2.locks := hP208
        replace h210 : MapT str login_credentials.c true ρ190 104 w189 v209 z186.2.users := h210
        replace h212 : MapT str (intC .i64) false ρ190 105 w189 v211 z186.2.counters := h212
        replace h214 : MapT str login_attempt.c true ρ190 106 w189 v213 z186.2.attempts := h214
        refine sr_ev (v := .bool z186.1) (ev_move rfl) (by decide) ?_
        obtain ⟨z218, hz220, hS⟩ := bind_some' hS
        refine sr_join (m := 5) (C := fun (z : Bool × login_Logins) w1 => z218 = z ∧ ∃ ρ1, login_Logins.O (fun p => 100 + p) ρ1 w1 ga_7 z.2 ∧ Tr ρ190 w189 (fun t => ([100, 101, 102, 103, 104, 105, 106] : List Nat).contains t) ρ1 w1) (l' := fun z => [(1, .int .i64 now_1), (7, .pointer (some ⟨ga_7, 0, none⟩)), (90, .bool z.1)]) ?_ ?_
        ·rintro _ w221 ⟨rfl, ρ222, ⟨v239, v241, v243, v245, hB247, hP240, h242, h244, h246⟩, hj219⟩
         replace hb := hb.trans hj219
         replace hB247 : Blk ρ222 100 w221 ga_7 (.cells #[v239, v241, v243, v245] 69 (0, 0)) := hB247
         replace hP240 : PtrO secret_Locks.O (fun q => 100 + (1 + q)) ρ222 w221 v239 z218.2.locks := hP240
         replace h242 : MapT str login_credentials.c true ρ222 104 w221 v241 z218.2.users := h242
         replace h244 : MapT str (intC .i64) false ρ222 105 w221 v243 z218.2.counters := h244
         replace h246 : MapT str login_attempt.c true ρ222 106 w221 v245 z218.2.attempts := h246
         refine sr_end (l' := [(1, .int .i64 now_1), (7, .pointer (some ⟨ga_7, 0, none⟩)), (90, .bool z218.1)]) (.cons rfl (.cons rfl (.cons rfl (.nil _)))) ?_
         refine ke_cond (t := z218.1) rfl (fun hc248 => ?_) (fun hc248 => ?_)
         ·replace hS := ite_true' hS hc248
          refine ke_seq ?_
          refine ke_region ?_
          refine sr_ev (v := .bool false) (ev_assign rfl) (by decide) ?_
          refine sr_end (l' := [(6, .bool false)]) (.cons rfl (.nil _)) ?_
          cases hS
          exact ke_ret1 Tryz.func7 rfl rfl ⟨_, rfl, rfl, (hb.below (flat1_le _))⟩
         ·replace hS := ite_false' hS hc248
          refine ke_skip ?_
          refine ke_seq ?_
          refine ke_region ?_
          refine sr_ev (v := .pointer (some ⟨ga_7, 0, none⟩)) (ev_move rfl) (by decide) ?_
          refine sr_ev (v := .int .i64 now_1) (ev_move rfl) (by decide) ?_
          obtain ⟨y249, hy250, hS⟩ := bind_some' hS
          refine sr_call (vs := [.pointer (some ⟨ga_7, 0, none⟩), str ([97, 110, 110]), .int .i64 now_1]) rfl Tryz.call22 rfl (login_Logins_Locked_ok _ (hg.fr hz hb) (ρA := ρ222) hb.bd (hz.fr hg hb) (τ0 := (fun p => 100 + p)) (fun p => Nat.le_add_right_of_le (by decide)) (⟨_, _, _, _, hB247, hP240, h242, h244, h246⟩ : login_Logins.O (fun p => 100 + p) ρ222 w221 ga_7 z218.2) hy250) (by decide) ?_
          rintro _ w251 ⟨rfl, hbw252⟩
          have htr253 := Tr.of_below hbw252 hb.bd
          replace hb := hb.trans htr253
          refine sr_ev (v := .bool (y249 == false)) (ev_beq Tryz.underlying4 rfl rfl) (by decide) ?_
          refine sr_ev (v := .bool (y249 == false)) (ev_move rfl) (by decide) ?_
          obtain ⟨z256, hz258, hS⟩ := bind_some' hS
          refine sr_join (m := 2) (C := fun (z : Bool) w1 => z256 = z ∧ ∃ ρ1, Tr ρ222 w251 (fun _ => false) ρ1 w1) (l' := fun z => [(97, .bool z)]) ?_ ?_
          ·rintro _ w259 ⟨rfl, ρ260, hj257⟩
           replace hb := hb.trans hj257
           refine sr_ev (v := .bool z256) (ev_assign rfl) (by decide) ?_
           refine sr_end (l' := [(6, .bool z256)]) (.cons rfl (.nil _)) ?_
           cases hS
           exact ke_ret1 Tryz.func7 rfl rfl ⟨_, rfl, rfl, (hb.below (flat1_le _))⟩
          ·intro K255
           clear hS
           have hj257 : Tr ρ222 w251 (fun _ => false) ρ222 w251 := (Tr.refl hb.bd).weak (fun _ _ => rfl) rfl rfl
           rcases Bool.eq_false_or_eq_true (y249 == false) with hg254 | hg254
           ·have hS := ite_true' hz258 hg254
            obtain ⟨y262, hy263, hS⟩ := bind_some' hS
            refine sr_callg (b := true) (e := 95) rfl rfl hg254 (vs := []) rfl Tryz.call10 rfl (law39_alive_ok _ (hg.fr hz hb) (ρA := ρ222) hb.bd (hz.fr hg hb) hy263) (by decide) ?_
            rintro _ w264 ⟨rfl, hbw265⟩
            have htr266 := Tr.of_below hbw265 hb.bd
            replace hb := hb.trans htr266
            replace hj257 := (hj257.trans htr266).weak (J' := (fun _ => false)) (by intro t h; simp [rng] at h ⊢ <;> omega) rfl rfl
            refine sr_ev (v := .bool y262) (ev_pick_t rfl hg254 rfl) (by decide) ?_
            exact sr_weaken (l' := [(97, .bool y262)]) (.cons rfl (.nil _)) (K255 y262 _ ⟨(Option.some.inj hS).symm, _, hj257⟩)
           ·have hS := ite_false' hz258 hg254
            refine sr_pass (e := 95) rfl rfl (by rw [hg254]; rfl) (by decide) ?_
            refine sr_ev (v := .bool false) (ev_pick_f rfl hg254 rfl) (by decide) ?_
            exact sr_weaken (l' := [(97, .bool false)]) (.cons rfl (.nil _)) (K255 false _ ⟨(Option.some.inj hS).symm, _, hj257⟩)
        ·intro K217
         clear hS
         have hj219 : Tr ρ190 w189 (fun t => ([100, 101, 102, 103, 104, 105, 106] : List Nat).contains t) ρ190 w189 := (Tr.refl hb.bd).weak (fun _ _ => rfl) rfl rfl
         rcases Bool.eq_false_or_eq_true z186.1 with hg216 | hg216
         ·have hS := ite_true' hz220 hg216
          refine sr_pass (e := 85) rfl rfl (by rw [hg216]; rfl) (by decide) ?_
          refine sr_pass (e := 85) rfl rfl (by rw [hg216]; rfl) (by decide) ?_
          refine sr_pass (e := 85) rfl rfl (by rw [hg216]; rfl) (by decide) ?_
          refine sr_pass (e := 85) rfl rfl (by rw [hg216]; rfl) (by decide) ?_
          refine sr_ev (v := .bool true) (ev_pick_t rfl hg216 rfl) (by decide) ?_
          exact sr_weaken (l' := [(1, .int .i64 now_1), (7, .pointer (some ⟨ga_7, 0, none⟩)), (90, .bool true)]) (.cons rfl (.cons rfl (.cons rfl (.nil _)))) (K217 (true, z186.2) _ ⟨(Option.some.inj hS).symm, _, ⟨_, _, _, _, hB215, hP208, h210, h212, h214⟩, hj219⟩)
         ·have hS := ite_false' hz220 hg216
          refine sr_evg (b := false) (e := 85) rfl rfl hg216 (v := .pointer (some ⟨ga_7, 0, none⟩)) (ev_move rfl) (by decide) ?_
          refine sr_evg (b := false) (e := 85) rfl rfl hg216 (v := .int .i64 y119) (ev_move rfl) (by decide) ?_
          obtain ⟨y224, hy225, hS⟩ := bind_some' hS
          refine sr_callg (b := false) (e := 85) rfl rfl hg216 (vs := [.pointer (some ⟨ga_7, 0, none⟩), str ([109, 105, 110, 101]), str ([115, 101, 99, 114, 101, 116, 119, 111, 114, 100]), .int .i64 y119]) rfl Tryz.call19 rfl (login_Logins_Password_ok _ (hg.fr hz hb) (ρA := ρ190) hb.bd (hz.fr hg hb) (o := 100) (by decide) (⟨_, _, _, _, hB215, hP208, h210, h212, h214⟩ : login_Logins.O (fun p => 100 + p) ρ190 w189 ga_7 z186.2) hy225) (by decide) ?_
          rintro _ w226 ⟨ρ238, rfl, ⟨v229, v231, v233, v235, hB237, hP230, h232, h234, h236⟩, htr228⟩
          replace hb := hb.trans htr228
          replace hj219 := (hj219.trans htr228).weak (J' := (fun t => ([100, 101, 102, 103, 104, 105, 106] : List Nat).contains t)) (by intro t h; simp [rng] at h ⊢ <;> omega) rfl rfl
          replace hB237 : Blk ρ238 100 w226 ga_7 (.cells #[v229, v231, v233, v235] 69 (0, 0)) := hB237
          replace hP230 : PtrO secret_Locks.O (fun q => 100 + (1 + q)) ρ238 w226 v229 y224.2.locks := hP230
          replace h232 : MapT str login_credentials.c true ρ238 104 w226 v231 y224.2.users := h232
          replace h234 : MapT str (intC .i64) false ρ238 105 w226 v233 y224.2.counters := h234
          replace h236 : MapT str login_attempt.c true ρ238 106 w226 v235 y224.2.attempts := h236
          refine sr_evg (b := false) (e := 85) rfl rfl hg216 (v := .bool (y224.1 != 6)) (ev_ne rfl rfl) (by decide) ?_
          refine sr_ev (v := .bool (y224.1 != 6)) (ev_pick_f rfl hg216 rfl) (by decide) ?_
          exact sr_weaken (l' := [(1, .int .i64 now_1), (7, .pointer (some ⟨ga_7, 0, none⟩)), (90, .bool (y224.1 != 6))]) (.cons rfl (.cons rfl (.cons rfl (.nil _)))) (K217 (y224.1 != 6, y224.2) _ ⟨(Option.some.inj hS).symm, _, ⟨_, _, _, _, hB237, hP230, h232, h234, h236⟩, hj219⟩)
       ·intro K185
        clear hS
        have hj187 : Tr ρ183 w171 (fun t => ([100, 101, 102, 103, 104, 105, 106] : List Nat).contains t) ρ183 w171 := (Tr.refl hb.bd).weak (fun _ _ => rfl) rfl rfl
        rcases Bool.eq_false_or_eq_true (!y169.1) with hg184 | hg184
        ·have hS := ite_true' hz188 hg184
         refine sr_pass (e := 81) rfl rfl (by rw [hg184]; rfl) (by decide) ?_
         refine sr_pass (e := 81) rfl rfl (by rw [hg184]; rfl) (by decide) ?_
         refine sr_ev (v := .bool true) (ev_pick_t rfl hg184 rfl) (by decide) ?_
         exact sr_weaken (l' := [(1, .int .i64 now_1), (7, .pointer (some ⟨ga_7, 0, none⟩)), (9, .int .i64 y119), (84, .bool true)]) (.cons rfl (.cons rfl (.cons rfl (.cons rfl (.nil _))))) (K185 (true, y169.2) _ ⟨(Option.some.inj hS).symm, _, ⟨_, _, _, _, hB182, hP175, h177, h179, h181⟩, hj187⟩)
        ·have hS := ite_false' hz188 hg184
         refine sr_evg (b := false) (e := 81) rfl rfl hg184 (v := .pointer (some ⟨ga_7, 0, none⟩)) (ev_move rfl) (by decide) ?_
         obtain ⟨y192, hy193, hS⟩ := bind_some' hS
         refine sr_callg (b := false) (e := 81) rfl rfl hg184 (vs := [.pointer (some ⟨ga_7, 0, none⟩), str ([97, 110, 110])]) rfl Tryz.call35 rfl (login_Logins_Drop_ok _ (hg.fr hz hb) (ρA := ρ183) hb.bd (hz.fr hg hb) (o := 100) (by decide) (⟨_, _, _, _, hB182, hP175, h177, h179, h181⟩ : login_Logins.O (fun p => 100 + p) ρ183 w171 ga_7 y169.2) hy193) (by decide) ?_
         rintro _ w194 ⟨ρ206, rfl, ⟨v197, v199, v201, v203, hB205, hP198, h200, h202, h204⟩, htr196⟩
         replace hb := hb.trans htr196
         replace hj187 := (hj187.trans htr196).weak (J' := (fun t => ([100, 101, 102, 103, 104, 105, 106] : List Nat).contains t)) (by intro t h; simp [rng] at h ⊢ <;> omega) rfl rfl
         replace hB205 : Blk ρ206 100 w194 ga_7 (.cells #[v197, v199, v201, v203] 69 (0, 0)) := hB205
         replace hP198 : PtrO secret_Locks.O (fun q => 100 + (1 + q)) ρ206 w194 v197 y192.2.locks := hP198
         replace h200 : MapT str login_credentials.c true ρ206 104 w194 v199 y192.2.users := h200
         replace h202 : MapT str (intC .i64) false ρ206 105 w194 v201 y192.2.counters := h202
         replace h204 : MapT str login_attempt.c true ρ206 106 w194 v203 y192.2.attempts := h204
         refine sr_ev (v := .bool y192.1) (ev_pick_f rfl hg184 rfl) (by decide) ?_
         exact sr_weaken (l' := [(1, .int .i64 now_1), (7, .pointer (some ⟨ga_7, 0, none⟩)), (9, .int .i64 y119), (84, .bool y192.1)]) (.cons rfl (.cons rfl (.cons rfl (.cons rfl (.nil _))))) (K185 (y192.1, y192.2) _ ⟨(Option.some.inj hS).symm, _, ⟨_, _, _, _, hB205, hP198, h200, h202, h204⟩, hj187⟩)
     ·intro K153
      rcases Bool.eq_false_or_eq_true (((y129.1 == 13) != (decide (after_2 ≥ 300))) || (decide (y124 < 0))) with hg152 | hg152
      all_goals try have hj155 : Tr ρ143 w131 (fun _ => false) ρ143 w131 := Tr.refl hb.bd
      ·refine sr_pass (e := 70) rfl rfl (by rw [hg152]; rfl) (by decide) ?_
       refine sr_pass (e := 70) rfl rfl (by rw [hg152]; rfl) (by decide) ?_
       refine sr_pass (e := 70) rfl rfl (by rw [hg152]; rfl) (by decide) ?_
       refine sr_pass_undef (e := 73) rfl rfl (by decide) ?_
       refine sr_pass_undef (e := 73) rfl rfl (by decide) ?_
       refine sr_pass (e := 70) rfl rfl (by rw [hg152]; rfl) (by decide) ?_
       refine sr_ev (v := .bool true) (ev_pick_t rfl hg152 rfl) (by decide) ?_
       exact sr_weaken (l' := [(1, .int .i64 now_1), (7, .pointer (some ⟨ga_7, 0, none⟩)), (9, .int .i64 y119), (77, .bool true)]) (.cons rfl (.cons rfl (.cons rfl (.cons rfl (.nil _))))) (K153 true _ ⟨by first | (rw [hg152]; rfl) | rfl, rfl⟩)
      ·refine sr_evg (b := false) (e := 70) rfl rfl hg152 (v := .int .i64 after_2) (ev_move rfl) (by decide) ?_
       refine sr_evg (b := false) (e := 70) rfl rfl hg152 (v := .bool (decide (after_2 < 300))) (ev_lt rfl rfl) (by decide) ?_
       refine sr_evg (b := false) (e := 70) rfl rfl hg152 (v := .bool (decide (after_2 < 300))) (ev_move rfl) (by decide) ?_
       refine sr_join (m := 3) (C := fun (x : Bool) w1 => x = ((decide (after_2 < 300)) && (decide (y124 < 1))) ∧ w131 = w1) (l' := fun x => [(1, .int .i64 now_1), (7, .pointer (some ⟨ga_7, 0, none⟩)), (9, .int .i64 y119), (70, .bool (((y129.1 == 13) != (decide (after_2 ≥ 300))) || (decide (y124 < 0)))), (76, .bool x)]) ?_ ?_
       ·rintro _ _ ⟨rfl, rfl⟩
        refine sr_ev (v := .bool ((decide (after_2 < 300)) && (decide (y124 < 1)))) (ev_pick_f rfl hg152 rfl) (by decide) ?_
        exact sr_weaken (l' := [(1, .int .i64 now_1), (7, .pointer (some ⟨ga_7, 0, none⟩)), (9, .int .i64 y119), (77, .bool ((decide (after_2 < 300)) && (decide (y124 < 1))))]) (.cons rfl (.cons rfl (.cons rfl (.cons rfl (.nil _))))) (K153 ((decide (after_2 < 300)) && (decide (y124 < 1))) _ ⟨by first | (rw [hg152]; rfl) | rfl, rfl⟩)
       ·intro K161
        rcases Bool.eq_false_or_eq_true (decide (after_2 < 300)) with hg160 | hg160
        all_goals try have hj163 : Tr ρ143 w131 (fun _ => false) ρ143 w131 := Tr.refl hb.bd
        ·refine sr_evg (b := true) (e := 73) rfl rfl hg160 (v := .int .i64 y124) (ev_move rfl) (by decide) ?_
         refine sr_evg (b := true) (e := 73) rfl rfl hg160 (v := .bool (decide (y124 < 1))) (ev_lt rfl rfl) (by decide) ?_
         refine sr_evg (b := false) (e := 70) rfl rfl hg152 (v := .bool (decide (y124 < 1))) (ev_pick_t rfl hg160 rfl) (by decide) ?_
         exact sr_weaken (l' := [(1, .int .i64 now_1), (7, .pointer (some ⟨ga_7, 0, none⟩)), (9, .int .i64 y119), (70, .bool (((y129.1 == 13) != (decide (after_2 ≥ 300))) || (decide (y124 < 0)))), (76, .bool (decide (y124 < 1)))]) (.cons rfl (.cons rfl (.cons rfl (.cons rfl (.cons rfl (.nil _)))))) (K161 (decide (y124 < 1)) _ ⟨by first | (rw [hg160]; rfl) | rfl, rfl⟩)
        ·refine sr_pass (e := 73) rfl rfl (by rw [hg160]; rfl) (by decide) ?_
         refine sr_pass (e := 73) rfl rfl (by rw [hg160]; rfl) (by decide) ?_
         refine sr_evg (b := false) (e := 70) rfl rfl hg152 (v := .bool false) (ev_pick_f rfl hg160 rfl) (by decide) ?_
         exact sr_weaken (l' := [(1, .int .i64 now_1), (7, .pointer (some ⟨ga_7, 0, none⟩)), (9, .int .i64 y119), (70, .bool (((y129.1 == 13) != (decide (after_2 ≥ 300))) || (decide (y124 < 0)))), (76, .bool false)]) (.cons rfl (.cons rfl (.cons rfl (.cons rfl (.cons rfl (.nil _)))))) (K161 false _ ⟨by first | (rw [hg160]; rfl) | rfl, rfl⟩)
    ·intro K145
     rcases Bool.eq_false_or_eq_true ((y129.1 == 13) != (decide (after_2 ≥ 300))) with hg144 | hg144
     all_goals try have hj147 : Tr ρ143 w131 (fun _ => false) ρ143 w131 := Tr.refl hb.bd
     ·refine sr_pass (e := 66) rfl rfl (by rw [hg144]; rfl) (by decide) ?_
      refine sr_pass (e := 66) rfl rfl (by rw [hg144]; rfl) (by decide) ?_
      refine sr_ev (v := .bool true) (ev_pick_t rfl hg144 rfl) (by decide) ?_
      exact sr_weaken (l' := [(1, .int .i64 now_1), (2, .int .i64 after_2), (7, .pointer (some ⟨ga_7, 0, none⟩)), (9, .int .i64 y119), (10, .int .i64 y124), (69, .bool true)]) (.cons rfl (.cons rfl (.cons rfl (.cons rfl (.cons rfl (.cons rfl (.nil _))))))) (K145 true _ ⟨by first | (rw [hg144]; rfl) | rfl, rfl⟩)
     ·refine sr_evg (b := false) (e := 66) rfl rfl hg144 (v := .int .i64 y124) (ev_move rfl) (by decide) ?_
      refine sr_evg (b := false) (e := 66) rfl rfl hg144 (v := .bool (decide (y124 < 0))) (ev_lt rfl rfl) (by decide) ?_
      refine sr_ev (v := .bool (decide (y124 < 0))) (ev_pick_f rfl hg144 rfl) (by decide) ?_
      exact sr_weaken (l' := [(1, .int .i64 now_1), (2, .int .i64 after_2), (7, .pointer (some ⟨ga_7, 0, none⟩)), (9, .int .i64 y119), (10, .int .i64 y124), (69, .bool (decide (y124 < 0)))]) (.cons rfl (.cons rfl (.cons rfl (.cons rfl (.cons rfl (.cons rfl (.nil _))))))) (K145 (decide (y124 < 0)) _ ⟨by first | (rw [hg144]; rfl) | rfl, rfl⟩)
theorem law39_LoginExpires_ok (w0 : World) (hg : Gs w0) {ρA : Tags} (hbd : ∀ b, ρA b ≠ 0 → b < w0.heap.size) (hz : Gz ρA) {l_0 : List law39_Op} {now_1 : Int} {after_2 : Int} {v1 : Value} {r : Bool} (h2 : SlR law39_Op.c (Wb ρA) w0 v1 l_0) (hS : law39_LoginExpires l_0 now_1 after_2 = some r) :
  Calls Tryz.prog 7 #[v1, .int .i64 now_1, .int .i64 after_2] w0 (Ret (fun v w' => v = .bool r ∧ Below w0.heap.size w0 w')) := by
 unfold law39_LoginExpires at hS
 have hb := flat1_fr (ρ := ρA) (w := w0) hbd
 have hz := hz.flat1
 replace h2 := SlR.mv h2 flat1_rd
 refine calls_of_ke Tryz.func7 rfl (n := 98) rfl rfl (l := [(0, v1), (1, .int .i64 now_1), (2, .int .i64 after_2)]) rfl ?_
 refine ke_seq ?_
 refine ke_region ?_
 refine sr_ev (v := .bool false) (ev_assign rfl) (by decide) ?_
 refine sr_end (l' := [(0, v1), (1, .int .i64 now_1), (2, .int .i64 after_2)]) (.cons rfl (.cons rfl (.cons rfl (.nil _)))) ?_
 refine ke_seq ?_
 refine ke_seq ?_
 refine ke_region ?_
 refine sr_ev (v := v1) (ev_move rfl) (by decide) ?_
 obtain ⟨y3, hy4, hS⟩ := bind_some' hS
 refine sr_call (vs := [v1]) rfl Tryz.call9 rfl (law39_few_ok _ (hg.fr hz hb) h2.asSl hy4) (by decide) ?_
 rintro _ w5 ⟨rfl, hbw6⟩
 have htr7 := Tr.of_below hbw6 hb.bd
 replace h2 := h2.mv htr7.rd
 replace hb := hb.trans htr7
 refine sr_ev (v := .bool (!y3)) (ev_not rfl) (by decide) ?_
 refine sr_ev (v := .bool (!y3)) (ev_move rfl) (by decide) ?_
 refine sr_join (m := 3) (C := fun (x : Bool) w1 => x = ((!y3) || (decide (now_1 < 0))) ∧ w5 = w1) (l' := fun x => [(0, v1), (1, .int .i64 now_1), (2, .int .i64 after_2), (18, .bool x)]) ?_ ?_
 ·rintro _ _ ⟨rfl, rfl⟩
  refine sr_ev (v := .bool ((!y3) || (decide (now_1 < 0)))) (ev_move rfl) (by decide) ?_
  refine sr_join (m := 3) (C := fun (x : Bool) w1 => x = (((!y3) || (decide (now_1 < 0))) || (decide (now_1 > 549755813888))) ∧ w5 = w1) (l' := fun x => [(0, v1), (1, .int .i64 now_1), (2, .int .i64 after_2), (22, .bool x)]) ?_ ?_
  ·rintro _ _ ⟨rfl, rfl⟩
   refine sr_ev (v := .bool (((!y3) || (decide (now_1 < 0))) || (decide (now_1 > 549755813888)))) (ev_move rfl) (by decide) ?_
   refine sr_join (m := 3) (C := fun (x : Bool) w1 => x = ((((!y3) || (decide (now_1 < 0))) || (decide (now_1 > 549755813888))) || (decide (after_2 < 0))) ∧ w5 = w1) (l' := fun x => [(0, v1), (1, .int .i64 now_1), (2, .int .i64 after_2), (26, .bool x)]) ?_ ?_
   ·rintro _ _ ⟨rfl, rfl⟩
    refine sr_ev (v := .bool ((((!y3) || (decide (now_1 < 0))) || (decide (now_1 > 549755813888))) || (decide (after_2 < 0)))) (ev_move rfl) (by decide) ?_
    refine sr_join (m := 3) (C := fun (x : Bool) w1 => x = (((((!y3) || (decide (now_1 < 0))) || (decide (now_1 > 549755813888))) || (decide (after_2 < 0))) || (decide (after_2 > 1000))) ∧ w5 = w1) (l' := fun x => [(0, v1), (1, .int .i64 now_1), (2, .int .i64 after_2), (30, .bool x)]) ?_ ?_
    ·rintro _ _ ⟨rfl, rfl⟩
     refine sr_end (l' := [(0, v1), (1, .int .i64 now_1), (2, .int .i64 after_2), (30, .bool (((((!y3) || (decide (now_1 < 0))) || (decide (now_1 > 549755813888))) || (decide (after_2 < 0))) || (decide (after_2 > 1000))))]) (.cons rfl (.cons rfl (.cons rfl (.cons rfl (.nil _))))) ?_
     refine ke_cond (t := ((((!y3) || (decide (now_1 < 0))) || (decide (now_1 > 549755813888))) || (decide (after_2 < 0))) || (decide (after_2 > 1000))) rfl (fun hc40 => ?_) (fun hc40 => ?_)
     ·replace hS := ite_true' hS hc40
      refine ke_seq ?_
      refine ke_region ?_
      obtain ⟨y41, hy42, hS⟩ := bind_some' hS
      refine sr_call (vs := []) rfl Tryz.call10 rfl (law39_alive_ok _ (hg.fr hz hb) (ρA := (flat1 ρA)) hb.bd (hz.fr hg hb) hy42) (by decide) ?_
      rintro _ w43 ⟨rfl, hbw44⟩
      have htr45 := Tr.of_below hbw44 hb.bd
      replace hb := hb.trans htr45
      refine sr_ev (v := .bool y41) (ev_assign rfl) (by decide) ?_
      refine sr_end (l' := [(6, .bool y41)]) (.cons rfl (.nil _)) ?_
      cases hS
      exact ke_ret1 Tryz.func7 rfl rfl ⟨_, rfl, rfl, (hb.below (flat1_le _))⟩
     ·replace hS := ite_false' hS hc40
      refine ke_skip ?_
      refine ke_seq ?_
      refine ke_region ?_
      obtain ⟨y46, hy47, hS⟩ := bind_some' hS
      refine sr_call (vs := [.int .i64 256]) rfl Tryz.call11 rfl (law39_ann_ok _ (hg.fr hz hb) (ρA := (flat1 ρA)) hb.bd (hz.fr hg hb) (o := 100) (by decide) hy47) (by decide) ?_
      rintro v51 w48 ⟨ρ53, _, rfl, hP52, htr50⟩
      replace h2 := h2.mv htr50.rd
      replace hb := hb.trans htr50
      rcases ho55 : y46 with _ | z54
      ·replace hS := optC_none hS ho55
       obtain rfl := hP52.none_ ho55
       refine sr_ev (v := .pointer none) (ev_assign rfl) (by decide) ?_
       refine sr_end (l' := [(0, v1), (1, .int .i64 now_1), (2, .int .i64 after_2), (7, .pointer none)]) (.cons rfl (.cons rfl (.cons rfl (.cons rfl (.nil _))))) ?_
       refine ke_seq ?_
       refine ke_seq ?_
       refine ke_region ?_
       refine sr_ev (v := .pointer none) (ev_move rfl) (by decide) ?_
       refine sr_ev (v := .bool true) (ev_peqT_nil Tryz.underlying25 rfl rfl) (by decide) ?_
       refine sr_end (l' := [(0, v1), (1, .int .i64 now_1), (2, .int .i64 after_2), (7, .pointer none), (34, .bool true)]) (.cons rfl (.cons rfl (.cons rfl (.cons rfl (.cons rfl (.nil _)))))) ?_
       refine ke_cond (t := true) rfl (fun _ => ?_) (fun h => by cases h)
       refine ke_seq ?_
       refine ke_region ?_
       refine sr_ev (v := .bool false) (ev_assign rfl) (by decide) ?_
       refine sr_end (l' := [(6, .bool false)]) (.cons rfl (.nil _)) ?_
       cases hS
       exact ke_ret1 Tryz.func7 rfl rfl ⟨_, rfl, rfl, (hb.below (flat1_le _))⟩
      ·replace hS := optC_some hS ho55
       obtain ⟨g56, rfl, ⟨v57, v59, v61, v63, hB65, hP58, h60, h62, h64⟩⟩ := hP52.some_ ho55
       replace hB65 : Blk ρ53 100 w48 g56 (.cells #[v57, v59, v61, v63] 69 (0, 0)) := hB65
       replace hP58 : PtrO secret_Locks.O (fun q => 100 + (1 + q)) ρ53 w48 v57 z54.locks := hP58
       replace h60 : MapT str login_credentials.c true ρ53 104 w48 v59 z54.users := h60
       replace h62 : MapT str (intC .i64) false ρ53 105 w48 v61 z54.counters := h62
       replace h64 : MapT str login_attempt.c true ρ53 106 w48 v63 z54.attempts := h64
       refine sr_ev (v := .pointer (some ⟨g56, 0, none⟩)) (ev_assign rfl) (by decide) ?_
       refine sr_end (l' := [(0, v1), (1, .int .i64 now_1), (2, .int .i64 after_2), (7, .pointer (some ⟨g56, 0, none⟩))]) (.cons rfl (.cons rfl (.cons rfl (.cons rfl (.nil _))))) ?_
       refine ke_seq ?_
       refine ke_seq ?_
       refine ke_region ?_
       refine sr_ev (v := .pointer (some ⟨g56, 0, none⟩)) (ev_move rfl) (by decide) ?_
       refine sr_ev (v := .bool false) (ev_peqT_some Tryz.underlying25 rfl rfl) (by decide) ?_
       refine sr_end (l' := [(0, v1), (1, .int .i64 now_1), (2, .int .i64 after_2), (7, .pointer (some ⟨g56, 0, none⟩)), (34, .bool false)]) (.cons rfl (.cons rfl (.cons rfl (.cons rfl (.cons rfl (.nil _)))))) ?_
       refine ke_cond (t := false) rfl (fun h => by cases h) (fun _ => ?_)
       refine ke_skip ?_
       refine ke_seq ?_
       refine ke_seq ?_
       refine ke_region ?_
       refine sr_ev (v := .int .i64 0) (ev_assign rfl) (by decide) ?_
       refine sr_end (l' := [(0, v1), (1, .int .i64 now_1), (2, .int .i64 after_2), (7, .pointer (some ⟨g56, 0, none⟩)), (8, .int .i64 0)]) (.cons rfl (.cons rfl (.cons rfl (.cons rfl (.cons rfl (.nil _)))))) ?_
       refine ke_block ?_
       have hK := law39_LoginExpires_L1_ok hg hbd hz _ hS hb h2 ⟨_, _, _, _, hB65, hP58, h60, h62, h64⟩
       exact ke_weaken (l' := [(0, v1), (1, .int .i64 now_1), (2, .int .i64 after_2), (7, .pointer (some ⟨g56, 0, none⟩)), (8, .int .i64 0)]) (.cons rfl (.cons rfl (.cons rfl (.cons rfl (.cons rfl (.nil _)))))) (ke_loop hK)
    ·intro K33
     rcases Bool.eq_false_or_eq_true ((((!y3) || (decide (now_1 < 0))) || (decide (now_1 > 549755813888))) || (decide (after_2 < 0))) with hg32 | hg32
     all_goals try have hj35 : Tr (flat1 ρA) w5 (fun _ => false) (flat1 ρA) w5 := Tr.refl hb.bd
     ·refine sr_pass (e := 27) rfl rfl (by rw [hg32]; rfl) (by decide) ?_
      refine sr_pass (e := 27) rfl rfl (by rw [hg32]; rfl) (by decide) ?_
      refine sr_ev (v := .bool true) (ev_pick_t rfl hg32 rfl) (by decide) ?_
      exact sr_weaken (l' := [(0, v1), (1, .int .i64 now_1), (2, .int .i64 after_2), (30, .bool true)]) (.cons rfl (.cons rfl (.cons rfl (.cons rfl (.nil _))))) (K33 true _ ⟨by first | (rw [hg32]; rfl) | rfl, rfl⟩)
     ·refine sr_evg (b := false) (e := 27) rfl rfl hg32 (v := .int .i64 after_2) (ev_move rfl) (by decide) ?_
      refine sr_evg (b := false) (e := 27) rfl rfl hg32 (v := .bool (decide (after_2 > 1000))) (ev_gt rfl rfl) (by decide) ?_
      refine sr_ev (v := .bool (decide (after_2 > 1000))) (ev_pick_f rfl hg32 rfl) (by decide) ?_
      exact sr_weaken (l' := [(0, v1), (1, .int .i64 now_1), (2, .int .i64 after_2), (30, .bool (decide (after_2 > 1000)))]) (.cons rfl (.cons rfl (.cons rfl (.cons rfl (.nil _))))) (K33 (decide (after_2 > 1000)) _ ⟨by first | (rw [hg32]; rfl) | rfl, rfl⟩)
   ·intro K25
    rcases Bool.eq_false_or_eq_true (((!y3) || (decide (now_1 < 0))) || (decide (now_1 > 549755813888))) with hg24 | hg24
    all_goals try have hj27 : Tr (flat1 ρA) w5 (fun _ => false) (flat1 ρA) w5 := Tr.refl hb.bd
    ·refine sr_pass (e := 23) rfl rfl (by rw [hg24]; rfl) (by decide) ?_
     refine sr_pass (e := 23) rfl rfl (by rw [hg24]; rfl) (by decide) ?_
     refine sr_ev (v := .bool true) (ev_pick_t rfl hg24 rfl) (by decide) ?_
     exact sr_weaken (l' := [(0, v1), (1, .int .i64 now_1), (2, .int .i64 after_2), (26, .bool true)]) (.cons rfl (.cons rfl (.cons rfl (.cons rfl (.nil _))))) (K25 true _ ⟨by first | (rw [hg24]; rfl) | rfl, rfl⟩)
    ·refine sr_evg (b := false) (e := 23) rfl rfl hg24 (v := .int .i64 after_2) (ev_move rfl) (by decide) ?_
     refine sr_evg (b := false) (e := 23) rfl rfl hg24 (v := .bool (decide (after_2 < 0))) (ev_lt rfl rfl) (by decide) ?_
     refine sr_ev (v := .bool (decide (after_2 < 0))) (ev_pick_f rfl hg24 rfl) (by decide) ?_
     exact sr_weaken (l' := [(0, v1), (1, .int .i64 now_1), (2, .int .i64 after_2), (26, .bool (decide (after_2 < 0)))]) (.cons rfl (.cons rfl (.cons rfl (.cons rfl (.nil _))))) (K25 (decide (after_2 < 0)) _ ⟨by first | (rw [hg24]; rfl) | rfl, rfl⟩)
  ·intro K17
   rcases Bool.eq_false_or_eq_true ((!y3) || (decide (now_1 < 0))) with hg16 | hg16
   all_goals try have hj19 : Tr (flat1 ρA) w5 (fun _ => false) (flat1 ρA) w5 := Tr.refl hb.bd
   ·refine sr_pass (e := 19) rfl rfl (by rw [hg16]; rfl) (by decide) ?_
    refine sr_pass (e := 19) rfl rfl (by rw [hg16]; rfl) (by decide) ?_
    refine sr_ev (v := .bool true) (ev_pick_t rfl hg16 rfl) (by decide) ?_
    exact sr_weaken (l' := [(0, v1), (1, .int .i64 now_1), (2, .int .i64 after_2), (22, .bool true)]) (.cons rfl (.cons rfl (.cons rfl (.cons rfl (.nil _))))) (K17 true _ ⟨by first | (rw [hg16]; rfl) | rfl, rfl⟩)
   ·refine sr_evg (b := false) (e := 19) rfl rfl hg16 (v := .int .i64 now_1) (ev_move rfl) (by decide) ?_
    refine sr_evg (b := false) (e := 19) rfl rfl hg16 (v := .bool (decide (now_1 > 549755813888))) (ev_gt rfl rfl) (by decide) ?_
    refine sr_ev (v := .bool (decide (now_1 > 549755813888))) (ev_pick_f rfl hg16 rfl) (by decide) ?_
    exact sr_weaken (l' := [(0, v1), (1, .int .i64 now_1), (2, .int .i64 after_2), (22, .bool (decide (now_1 > 549755813888)))]) (.cons rfl (.cons rfl (.cons rfl (.cons rfl (.nil _))))) (K17 (decide (now_1 > 549755813888)) _ ⟨by first | (rw [hg16]; rfl) | rfl, rfl⟩)
 ·intro K9
  rcases Bool.eq_false_or_eq_true (!y3) with hg8 | hg8
  all_goals try have hj11 : Tr (flat1 ρA) w5 (fun _ => false) (flat1 ρA) w5 := Tr.refl hb.bd
  ·refine sr_pass (e := 15) rfl rfl (by rw [hg8]; rfl) (by decide) ?_
   refine sr_pass (e := 15) rfl rfl (by rw [hg8]; rfl) (by decide) ?_
   refine sr_ev (v := .bool true) (ev_pick_t rfl hg8 rfl) (by decide) ?_
   exact sr_weaken (l' := [(0, v1), (1, .int .i64 now_1), (2, .int .i64 after_2), (18, .bool true)]) (.cons rfl (.cons rfl (.cons rfl (.cons rfl (.nil _))))) (K9 true _ ⟨by first | (rw [hg8]; rfl) | rfl, rfl⟩)
  ·refine sr_evg (b := false) (e := 15) rfl rfl hg8 (v := .int .i64 now_1) (ev_move rfl) (by decide) ?_
   refine sr_evg (b := false) (e := 15) rfl rfl hg8 (v := .bool (decide (now_1 < 0))) (ev_lt rfl rfl) (by decide) ?_
   refine sr_ev (v := .bool (decide (now_1 < 0))) (ev_pick_f rfl hg8 rfl) (by decide) ?_
   exact sr_weaken (l' := [(0, v1), (1, .int .i64 now_1), (2, .int .i64 after_2), (18, .bool (decide (now_1 < 0)))]) (.cons rfl (.cons rfl (.cons rfl (.cons rfl (.nil _))))) (K9 (decide (now_1 < 0)) _ ⟨by first | (rw [hg8]; rfl) | rfl, rfl⟩)
end YtkhodjenbganfaaGreatDoor
end Go.Proofs
