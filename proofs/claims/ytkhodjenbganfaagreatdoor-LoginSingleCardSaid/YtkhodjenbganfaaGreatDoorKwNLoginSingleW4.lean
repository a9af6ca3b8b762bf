/- Own work: a part of the proofs of this seat. -/
import Derived.Test.YtkhodjenbganfaaGreatDoorProg
import Derived.Test.YtkhodjenbganfaaGreatDoorShelf
import Derived.Test.YtkhodjenbganfaaGreatDoorKwNS
import Derived.KernelRfl
import Derived.Test.YtkhodjenbganfaaGreatDoorKwNLoginSingleW3
set_option linter.unusedVariables false
set_option linter.unusedSimpArgs false
set_option linter.unusedSectionVars false
set_option maxHeartbeats 8000000
set_option maxRecDepth 8000
namespace Go.Proofs
namespace YtkhodjenbganfaaGreatDoor
open Go Go.KW Go.KW.S Go.RowKit
theorem law39_typed_ok (w0 : World) (hg : Gs w0) {o_0 : law39_Op} {r : Str} (hS : law39_typed o_0 = some r) :
  Calls Tryz.prog 30 #[.agg #[.int .i64 o_0.Kind, str o_0.ID, str o_0.User, str o_0.Word, str o_0.Code, str o_0.S, .int .i64 o_0.Level, .int .i64 o_0.Rounds, .int .i64 o_0.Now]] w0 (Ret (fun v w' => v = str r ∧ Below w0.heap.size w0 w')) := by
 unfold law39_typed at hS
 have hb := Below.refl w0.heap.size w0
 obtain ⟨A0, hA0, hAe⟩ : ∃ A0 : Nat → Prop, (∀ b, A0 b → b < w0.heap.size) ∧ A0 = fun _ => False := ⟨_, fun _ h => h.elim, rfl⟩
 clear hAe
 have hA := hA0
 have hi : ∀ b, A0 b → A0 b := fun _ h => h
 have hH := Hp.nil A0 w0.heap.size w0
 refine calls_of_ke Tryz.func30 rfl (n := 20) rfl rfl (l := [(0, .agg #[.int .i64 o_0.Kind, str o_0.ID, str o_0.User, str o_0.Word, str o_0.Code, str o_0.S, .int .i64 o_0.Level, .int .i64 o_0.Rounds, .int .i64 o_0.Now])]) rfl ?_
 refine ke_seq ?_
 refine ke_region ?_
 refine sr_box hH hb.size hA rfl (by decide) ?_
 intro g1 A2 w3 hH1 hst4 hbw5 hinc6 hA1 hge7
 replace hb := hb.trans (hbw5.mono hb.size)
 replace hi := fun b hb => hinc6 b (hi b hb)
 replace hH : Hp A2 w0.heap.size w3 [(g1, .cells #[.int .i64 o_0.Kind, str o_0.ID, str o_0.User, str o_0.Word, str o_0.Code, str o_0.S, .int .i64 o_0.Level, .int .i64 o_0.Rounds, .int .i64 o_0.Now] 33 (0, 0))] := hH1
 replace hA := hA1
 clear hH1 hA1
 refine sr_ev (v := str ([])) (ev_assign rfl) (by decide) ?_
 refine sr_end (l' := [(1, .pointer (some ⟨g1, 0, none⟩))]) (.cons rfl (.nil _)) ?_
 refine ke_seq ?_
 refine ke_seq ?_
 refine ke_region ?_
 refine sr_ev (v := .pointer (some ⟨g1, 6, none⟩)) (ev_fieldAddr (i := 6) Tryz.underlying33 rfl Tryz.info3 rfl rfl) (by decide) ?_
 refine sr_ev (v := .int .i64 o_0.Level) (ev_load Tryz.isAgg3 rfl (hH.cell (i := 0) rfl rfl)) (by decide) ?_
 refine sr_ev (v := .bool (o_0.Level != 0)) (ev_ne rfl rfl) (by decide) ?_
 refine sr_end (l' := [(1, .pointer (some ⟨g1, 0, none⟩)), (7, .bool (o_0.Level != 0))]) (.cons rfl (.cons rfl (.nil _))) ?_
 refine ke_cond (t := o_0.Level != 0) rfl (fun hc8 => ?_) (fun hc8 => ?_)
 ·replace hS := ite_true' hS hc8
  refine ke_seq ?_
  refine ke_region_q Tryz.mixed (by kernel_rfl) ?_
  refine sq_ev (v := .pointer (some ⟨g1, 5, none⟩)) (fun w1 hw1 => ev_fieldAddr (i := 5) Tryz.underlying33 rfl Tryz.info9 rfl rfl) (by decide) ?_
  refine sq_ev (v := str o_0.S) (fun w1 hw1 => ev_load Tryz.isAgg9 rfl ((hH.below hw1).cell (i := 0) rfl rfl)) (by decide) ?_
  refine sq_ev (v := .pointer (some ⟨g1, 8, none⟩)) (fun w1 hw1 => ev_fieldAddr (i := 8) Tryz.underlying33 rfl Tryz.info3 rfl rfl) (by decide) ?_
  refine sq_ev (v := .int .i64 o_0.Now) (fun w1 hw1 => ev_load Tryz.isAgg3 rfl ((hH.below hw1).cell (i := 0) rfl rfl)) (by decide) ?_
  obtain ⟨y11, hy12, hS⟩ := bind_some' hS
  refine sq_call (v := .int .i64 y11) (vs := [.int .i64 o_0.Now]) rfl Tryz.call13 rfl (fun w1 hw1 => (otp_Counter_ok _ (hg.below (hb.trans (hw1.mono hb.size))) hy12)) (by decide) ?_
  obtain ⟨y15, hy16, hS⟩ := bind_some' hS
  refine sq_call (v := .tuple #[str y15.1, .int .i64 y15.2]) (vs := [str o_0.S, .int .i64 y11]) rfl Tryz.call12 rfl (fun w1 hw1 => (otp_Code_ok _ (hg.below (hb.trans (hw1.mono hb.size))) hy16)) (by decide) ?_
  refine sq_ev (v := .tuple #[str y15.1, .int .i64 y15.2]) (fun w1 hw1 => ev_move rfl) (by decide) ?_
  refine sq_ev (v := str y15.1) (fun w1 hw1 => ev_extract rfl rfl) (by decide) ?_
  refine sq_ev (v := .int .i64 y15.2) (fun w1 hw1 => ev_extract rfl rfl) (by decide) ?_
  refine sq_ev (v := str y15.1) (fun w1 hw1 => ev_assign rfl) (by decide) ?_
  refine sq_ev (v := .int .i64 y15.2) (fun w1 hw1 => ev_assign rfl) (by decide) ?_
  refine sq_end (l' := [(3, str y15.1)]) (.cons rfl (.nil _)) (fun w10 hw9 => ?_)
  replace hb := hb.trans (hw9.mono hb.size)
  replace hA := lt_mono hA hw9.size
  replace hH := hH.below hw9
  refine ke_seq ?_
  refine ke_region ?_
  refine sr_ev (v := str y15.1) (ev_move rfl) (by decide) ?_
  refine sr_ev (v := str y15.1) (ev_assign rfl) (by decide) ?_
  refine sr_end (l' := [(2, str y15.1)]) (.cons rfl (.nil _)) ?_
  cases hS
  exact ke_ret1 Tryz.func30 rfl rfl ⟨_, rfl, rfl, hb⟩
 ·replace hS := ite_false' hS hc8
  refine ke_skip ?_
  refine ke_seq ?_
  refine ke_region ?_
  refine sr_ev (v := .pointer (some ⟨g1, 4, none⟩)) (ev_fieldAddr (i := 4) Tryz.underlying33 rfl Tryz.info9 rfl rfl) (by decide) ?_
  refine sr_ev (v := str o_0.Code) (ev_load Tryz.isAgg9 rfl (hH.cell (i := 0) rfl rfl)) (by decide) ?_
  refine sr_ev (v := str o_0.Code) (ev_assign rfl) (by decide) ?_
  refine sr_end (l' := [(2, str o_0.Code)]) (.cons rfl (.nil _)) ?_
  cases hS
  exact ke_ret1 Tryz.func30 rfl rfl ⟨_, rfl, rfl, hb⟩
theorem law39_play_ok (w0 : World) (hg : Gs w0) {ρA : Tags} (hbd : ∀ b, ρA b ≠ 0 → b < w0.heap.size) (hz : Gz ρA) {o : Nat} (ho2 : 2 ≤ o) {l_0 : login_Logins} {o_1 : law39_Op} {gl_0 : Nat} {r : login_Logins} (ho0 : login_Logins.O (fun p => o + p) ρA w0 gl_0 l_0) (hS : law39_play l_0 o_1 = some r) :
  Calls Tryz.prog 16 #[.pointer (some ⟨gl_0, 0, none⟩), .agg #[.int .i64 o_1.Kind, str o_1.ID, str o_1.User, str o_1.Word, str o_1.Code, str o_1.S, .int .i64 o_1.Level, .int .i64 o_1.Rounds, .int .i64 o_1.Now]] w0 (Ret (fun v w' => ∃ ρ', v = .tuple #[] ∧ login_Logins.O (fun p => o + p) ρ' w' gl_0 r ∧ Tr ρA w0 (rng o 7) ρ' w')) := by
 unfold law39_play at hS
 have hb := enter_fr (ρ := ρA) (w := w0) (n := 7) ho2 hbd
 have hz := hz.enter (n := 7) ho2
 obtain ⟨v1, v3, v5, v7, hB9, hP2, h4, h6, h8⟩ := ho0
 replace hB9 := hB9.mv (enter_mv (p := 0) (n := 7) (by decide) ho2)
 replace hP2 := PtrO.mv hP2 secret_Locks.objK (fun p hp => enter_mv (p := 1 + p) (n := 7) (by omega) ho2) (fun p hp => by omega)
 replace h4 := h4.mv (enter_mv (p := 4) (n := 7) (by decide) ho2)
 replace h6 := h6.mv (enter_mv (p := 5) (n := 7) (by decide) ho2)
 replace h8 := h8.mv (enter_mv (p := 6) (n := 7) (by decide) ho2)
 replace hB9 : Blk (enter ρA o 7) 100 w0 gl_0 (.cells #[v1, v3, v5, v7] 69 (0, 0)) := hB9
 replace hP2 : PtrO secret_Locks.O (fun q => 100 + (1 + q)) (enter ρA o 7) w0 v1 l_0.locks := hP2
 replace h4 : MapT str login_credentials.c true (enter ρA o 7) 104 w0 v3 l_0.users := h4
 replace h6 : MapT str (intC .i64) false (enter ρA o 7) 105 w0 v5 l_0.counters := h6
 replace h8 : MapT str login_attempt.c true (enter ρA o 7) 106 w0 v7 l_0.attempts := h8
 refine calls_of_ke Tryz.func16 rfl (n := 56) rfl rfl (l := [(0, .pointer (some ⟨gl_0, 0, none⟩)), (1, .agg #[.int .i64 o_1.Kind, str o_1.ID, str o_1.User, str o_1.Word, str o_1.Code, str o_1.S, .int .i64 o_1.Level, .int .i64 o_1.Rounds, .int .i64 o_1.Now])]) rfl ?_
 refine ke_seq ?_
 refine ke_region ?_
 refine sr_boxT 5 (by decide) hb.bd rfl (by decide) ?_
 intro g10 ρ11 w12 hB14 htr13
 replace hB9 := hB9.mv (htr13.mv (i := 100) rfl)
 replace hP2 := PtrO.mv hP2 secret_Locks.objK (fun p hp => htr13.mv (i := 100 + (1 + p)) (by rcases p with _ | _ | _ | p <;> first | rfl | omega)) (fun p hp => by show 100 + (1 + p) ≠ 0; omega)
 replace h4 := h4.mv (htr13.mv (i := 104) rfl)
 replace h6 := h6.mv (htr13.mv (i := 105) rfl)
 replace h8 := h8.mv (htr13.mv (i := 106) rfl)
 replace hb := hb.trans htr13
 replace hB14 : Blk ρ11 5 w12 g10 (.cells #[.int .i64 o_1.Kind, str o_1.ID, str o_1.User, str o_1.Word, str o_1.Code, str o_1.S, .int .i64 o_1.Level, .int .i64 o_1.Rounds, .int .i64 o_1.Now] 33 (0, 0)) := hB14
 refine sr_end (l' := [(0, .pointer (some ⟨gl_0, 0, none⟩)), (3, .pointer (some ⟨g10, 0, none⟩))]) (.cons rfl (.cons rfl (.nil _))) ?_
 refine ke_seq ?_
 refine ke_region ?_
 refine sr_ev (v := .pointer (some ⟨g10, 0, none⟩)) (ev_fieldAddr (i := 0) Tryz.underlying33 rfl Tryz.info3 rfl rfl) (by decide) ?_
 refine sr_ev (v := .int .i64 o_1.Kind) (ev_load Tryz.isAgg3 rfl (hB14.cell rfl)) (by decide) ?_
 refine sr_end (l' := [(0, .pointer (some ⟨gl_0, 0, none⟩)), (3, .pointer (some ⟨g10, 0, none⟩)), (5, .int .i64 o_1.Kind)]) (.cons rfl (.cons rfl (.cons rfl (.nil _)))) ?_
 refine ke_block ?_
 refine ke_seq ?_
 refine ke_region ?_
 refine sr_ev (v := .bool (o_1.Kind == 0)) (ev_eq rfl rfl) (by decide) ?_
 refine sr_ev (v := .bool (o_1.Kind == 0)) (ev_assign rfl) (by decide) ?_
 refine sr_end (l' := [(0, .pointer (some ⟨gl_0, 0, none⟩)), (3, .pointer (some ⟨g10, 0, none⟩)), (5, .int .i64 o_1.Kind), (6, .bool (o_1.Kind == 0))]) (.cons rfl (.cons rfl (.cons rfl (.cons rfl (.nil _))))) ?_
 refine ke_cond (t := o_1.Kind == 0) rfl (fun hc15 => ?_) (fun hc15 => ?_)
 ·replace hS := ite_true' hS hc15
  refine ke_region_j (ρ := ρ11) (fun t => ([100, 101, 102, 103, 104, 105, 106] : List Nat).contains t) 8 Tryz.mixed (fun w17 hw16 => ?_)
  have htr18 := Tr.of_below hw16 hb.bd
  replace hB14 := hB14.mv (htr18.mv (i := 5) rfl)
  replace hB9 := hB9.mv (htr18.mv (i := 100) rfl)
  replace hP2 := PtrO.mv hP2 secret_Locks.objK (fun p hp => htr18.mv (i := 100 + (1 + p)) (by rcases p with _ | _ | _ | p <;> first | rfl | omega)) (fun p hp => by show 100 + (1 + p) ≠ 0; omega)
  replace h4 := h4.mv (htr18.mv (i := 104) rfl)
  replace h6 := h6.mv (htr18.mv (i := 105) rfl)
  replace h8 := h8.mv (htr18.mv (i := 106) rfl)
  replace hb := hb.trans htr18
  refine dj_H 0 (v := .pointer (some ⟨gl_0, 0, none⟩)) (by kernel_rfl) (by kernel_rfl) rfl (fun _ _ _ h => h) (sj_refl hb.bd rfl rfl) (fun w1 ρ1 hw1 => ev_move rfl) (by decide) ?_
  refine dj_H 1 (v := .pointer (some ⟨g10, 2, none⟩)) (by kernel_rfl) (by kernel_rfl) rfl (fun _ _ _ h => h) (sj_refl hb.bd rfl rfl) (fun w1 ρ1 hw1 => ev_fieldAddr (i := 2) Tryz.underlying33 rfl Tryz.info9 rfl rfl) (by decide) ?_
  refine dj_H 2 (v := str o_1.User) (by kernel_rfl) (by kernel_rfl) rfl (fun _ _ _ h => h) (sj_refl hb.bd rfl rfl) (fun w1 ρ1 hw1 => ev_load Tryz.isAgg9 rfl ((hB14.mv (hw1.mv (i := 5) rfl)).cell rfl)) (by decide) ?_
  refine dj_H 3 (v := .agg #[.int .i64 o_1.Kind, str o_1.ID, str o_1.User, str o_1.Word, str o_1.Code, str o_1.S, .int .i64 o_1.Level, .int .i64 o_1.Rounds, .int .i64 o_1.Now]) (by kernel_rfl) (by kernel_rfl) rfl (fun _ _ _ h => h) (sj_refl hb.bd rfl rfl) (fun w1 ρ1 hw1 => ev_loads (cs := [.int .i64 o_1.Kind, str o_1.ID, str o_1.User, str o_1.Word, str o_1.Code, str o_1.S, .int .i64 o_1.Level, .int .i64 o_1.Rounds, .int .i64 o_1.Now]) Tryz.isAgg33 Tryz.sizeOf33 rfl ((hB14.mv (hw1.mv (i := 5) rfl)).cells (vs := [.int .i64 o_1.Kind, str o_1.ID, str o_1.User, str o_1.Word, str o_1.Code, str o_1.S, .int .i64 o_1.Level, .int .i64 o_1.Rounds, .int .i64 o_1.Now]) rfl)) (by decide) ?_
  refine dj_H 5 (v := .pointer (some ⟨g10, 4, none⟩)) (by kernel_rfl) (by kernel_rfl) rfl (fun _ _ _ h => h) (sj_refl hb.bd rfl rfl) (fun w1 ρ1 hw1 => ev_fieldAddr (i := 4) Tryz.underlying33 rfl Tryz.info9 rfl rfl) (by decide) ?_
  refine dj_H 6 (v := str o_1.Code) (by kernel_rfl) (by kernel_rfl) rfl (fun _ _ _ h => h) (sj_refl hb.bd rfl rfl) (fun w1 ρ1 hw1 => ev_load Tryz.isAgg9 rfl ((hB14.mv (hw1.mv (i := 5) rfl)).cell rfl)) (by decide) ?_
  refine dj_E 4 (by kernel_rfl) rfl ?_
  have jt64 : Tr ρ11 w17 (fun t => ([100, 101, 102, 103, 104, 105, 106] : List Nat).contains t) ρ11 w17 := (Tr.refl hb.bd).weak (fun _ _ => rfl) rfl rfl
  obtain ⟨y65, hy66, hS⟩ := bind_some' hS
  refine sr_call (vs := [.agg #[.int .i64 o_1.Kind, str o_1.ID, str o_1.User, str o_1.Word, str o_1.Code, str o_1.S, .int .i64 o_1.Level, .int .i64 o_1.Rounds, .int .i64 o_1.Now]]) rfl Tryz.call26 rfl (law39_verifier_ok _ (hg.fr hz hb) hy66) (by decide) ?_
  rintro _ w67 ⟨rfl, hbw68⟩
  have htr69 := Tr.of_below hbw68 hb.bd
  replace hB14 := hB14.mv (htr69.mv (i := 5) rfl)
  replace hB9 := hB9.mv (htr69.mv (i := 100) rfl)
  replace hP2 := PtrO.mv hP2 secret_Locks.objK (fun p hp => htr69.mv (i := 100 + (1 + p)) (by rcases p with _ | _ | _ | p <;> first | rfl | omega)) (fun p hp => by show 100 + (1 + p) ≠ 0; omega)
  replace h4 := h4.mv (htr69.mv (i := 104) rfl)
  replace h6 := h6.mv (htr69.mv (i := 105) rfl)
  replace h8 := h8.mv (htr69.mv (i := 106) rfl)
  replace hb := hb.trans htr69
  replace jt64 := (jt64.trans htr69).weak (J' := (fun t => ([100, 101, 102, 103, 104, 105, 106] : List Nat).contains t)) (by intro t h; simp [rng] at h ⊢ <;> omega) rfl rfl
  refine dj_next (l' := [(8, .pointer (some ⟨gl_0, 0, none⟩)), (10, str o_1.User), (12, .agg #[str y65.Salt, .int .i64 y65.Rounds, str y65.Hash]), (14, str o_1.Code)]) rfl (.cons rfl (.cons rfl (.cons rfl (.cons rfl (.nil _))))) jt64 (by intro t h; simp [rng] at h ⊢ <;> omega) rfl rfl ?_
  refine dj_E 7 (by kernel_rfl) rfl ?_
  have jt70 : Tr ρ11 w67 (fun t => ([100, 101, 102, 103, 104, 105, 106] : List Nat).contains t) ρ11 w67 := (Tr.refl hb.bd).weak (fun _ _ => rfl) rfl rfl
  obtain ⟨y71, hy72, hS⟩ := bind_some' hS
  refine sr_call (vs := [.pointer (some ⟨gl_0, 0, none⟩), str o_1.User, .agg #[str y65.Salt, .int .i64 y65.Rounds, str y65.Hash], str o_1.Code]) rfl Tryz.call25 rfl (login_Logins_Enroll_ok _ (hg.fr hz hb) (ρA := ρ11) hb.bd (hz.fr hg hb) (o := 100) (by decide) (⟨_, _, _, _, hB9, hP2, h4, h6, h8⟩ : login_Logins.O (fun p => 100 + p) ρ11 w67 gl_0 l_0) hy72) (by decide) ?_
  rintro _ w73 ⟨ρ85, rfl, ⟨v76, v78, v80, v82, hB84, hP77, h79, h81, h83⟩, htr75⟩
  replace hb := hb.trans htr75
  replace jt70 := (jt70.trans htr75).weak (J' := (fun t => ([100, 101, 102, 103, 104, 105, 106] : List Nat).contains t)) (by intro t h; simp [rng] at h ⊢ <;> omega) rfl rfl
  replace hB84 : Blk ρ85 100 w73 gl_0 (.cells #[v76, v78, v80, v82] 69 (0, 0)) := hB84
  replace hP77 : PtrO secret_Locks.O (fun q => 100 + (1 + q)) ρ85 w73 v76 y71.2.locks := hP77
  replace h79 : MapT str login_credentials.c true ρ85 104 w73 v78 y71.2.users := h79
  replace h81 : MapT str (intC .i64) false ρ85 105 w73 v80 y71.2.counters := h81
  replace h83 : MapT str login_attempt.c true ρ85 106 w73 v82 y71.2.attempts := h83
  refine dj_next (l' := []) rfl (.nil _) jt70 (by intro t h; simp [rng] at h ⊢ <;> omega) rfl rfl ?_
  refine dj_done rfl (by kernel_rfl) ?_
  refine ke_weaken (l' := []) (.nil _) ?_
  refine ke_inBlock ?_
  cases hS
  exact ke_end0 Tryz.func16 rfl ⟨_, rfl, leave ρA w0 o 7 ρ85, rfl, ⟨_, _, _, _, (hB84.mv (leave_mv (p := 0) (by decide) hb)), (PtrO.mv hP77 secret_Locks.objK (fun p hp => leave_mv (p := 1 + p) (by omega) hb) (fun p hp => by show o + (1 + p) ≠ 0; omega)), (h79.mv (leave_mv (p := 4) (by decide) hb)), (h81.mv (leave_mv (p := 5) (by decide) hb)), (h83.mv (leave_mv (p := 6) (by decide) hb))⟩, (leave_tr ho2 hb)⟩
 ·replace hS := ite_false' hS hc15
  refine ke_seq ?_
  refine ke_region ?_
  refine sr_ev (v := .bool (o_1.Kind == 1)) (ev_eq rfl rfl) (by decide) ?_
  refine sr_ev (v := .bool (o_1.Kind == 1)) (ev_assign rfl) (by decide) ?_
  refine sr_end (l' := [(0, .pointer (some ⟨gl_0, 0, none⟩)), (3, .pointer (some ⟨g10, 0, none⟩)), (5, .int .i64 o_1.Kind), (16, .bool (o_1.Kind == 1))]) (.cons rfl (.cons rfl (.cons rfl (.cons rfl (.nil _))))) ?_
  refine ke_cond (t := o_1.Kind == 1) rfl (fun hc86 => ?_) (fun hc86 => ?_)
  ·replace hS := ite_true' hS hc86
   refine ke_region ?_
   refine sr_ev (v := .pointer (some ⟨gl_0, 0, none⟩)) (ev_move rfl) (by decide) ?_
   refine sr_ev (v := .pointer (some ⟨g10, 1, none⟩)) (ev_fieldAddr (i := 1) Tryz.underlying33 rfl Tryz.info9 rfl rfl) (by decide) ?_
   refine sr_ev (v := str o_1.ID) (ev_load Tryz.isAgg9 rfl (hB14.cell rfl)) (by decide) ?_
   refine sr_ev (v := .pointer (some ⟨g10, 2, none⟩)) (ev_fieldAddr (i := 2) Tryz.underlying33 rfl Tryz.info9 rfl rfl) (by decide) ?_
   refine sr_ev (v := str o_1.User) (ev_load Tryz.isAgg9 rfl (hB14.cell rfl)) (by decide) ?_
   refine sr_ev (v := .pointer (some ⟨g10, 8, none⟩)) (ev_fieldAddr (i := 8) Tryz.underlying33 rfl Tryz.info3 rfl rfl) (by decide) ?_
   refine sr_ev (v := .int .i64 o_1.Now) (ev_load Tryz.isAgg3 rfl (hB14.cell rfl)) (by decide) ?_
   obtain ⟨y87, hy88, hS⟩ := bind_some' hS
   refine sr_call (vs := [.pointer (some ⟨gl_0, 0, none⟩), str o_1.ID, str o_1.User, .int .i64 o_1.Now]) rfl Tryz.call14 rfl (login_Logins_Begin_ok _ (hg.fr hz hb) (ρA := ρ11) hb.bd (hz.fr hg hb) (o := 100) (by decide) (⟨_, _, _, _, hB9, hP2, h4, h6, h8⟩ : login_Logins.O (fun p => 100 + p) ρ11 w12 gl_0 l_0) hy88) (by decide) ?_
   rintro _ w89 ⟨ρ101, rfl, ⟨v92, v94, v96, v98, hB100, hP93, h95, h97, h99⟩, htr91⟩
   replace hb := hb.trans htr91
   replace hB100 : Blk ρ101 100 w89 gl_0 (.cells #[v92, v94, v96, v98] 69 (0, 0)) := hB100
   replace hP93 : PtrO secret_Locks.O (fun q => 100 + (1 + q)) ρ101 w89 v92 y87.2.locks := hP93
   replace h95 : MapT str login_credentials.c true ρ101 104 w89 v94 y87.2.users := h95
   replace h97 : MapT str (intC .i64) false ρ101 105 w89 v96 y87.2.counters := h97
   replace h99 : MapT str login_attempt.c true ρ101 106 w89 v98 y87.2.attempts := h99
   refine sr_end (l' := []) (.nil _) ?_
   refine ke_inBlock ?_
   cases hS
   exact ke_end0 Tryz.func16 rfl ⟨_, rfl, leave ρA w0 o 7 ρ101, rfl, ⟨_, _, _, _, (hB100.mv (leave_mv (p := 0) (by decide) hb)), (PtrO.mv hP93 secret_Locks.objK (fun p hp => leave_mv (p := 1 + p) (by omega) hb) (fun p hp => by show o + (1 + p) ≠ 0; omega)), (h95.mv (leave_mv (p := 4) (by decide) hb)), (h97.mv (leave_mv (p := 5) (by decide) hb)), (h99.mv (leave_mv (p := 6) (by decide) hb))⟩, (leave_tr ho2 hb)⟩
  ·replace hS := ite_false' hS hc86
   refine ke_seq ?_
   refine ke_region ?_
   refine sr_ev (v := .bool (o_1.Kind == 2)) (ev_eq rfl rfl) (by decide) ?_
   refine sr_ev (v := .bool (o_1.Kind == 2)) (ev_assign rfl) (by decide) ?_
   refine sr_end (l' := [(0, .pointer (some ⟨gl_0, 0, none⟩)), (3, .pointer (some ⟨g10, 0, none⟩)), (5, .int .i64 o_1.Kind), (26, .bool (o_1.Kind == 2))]) (.cons rfl (.cons rfl (.cons rfl (.cons rfl (.nil _))))) ?_
   refine ke_cond (t := o_1.Kind == 2) rfl (fun hc102 => ?_) (fun hc102 => ?_)
   ·replace hS := ite_true' hS hc102
    refine ke_region ?_
    refine sr_ev (v := .pointer (some ⟨gl_0, 0, none⟩)) (ev_move rfl) (by decide) ?_
    refine sr_ev (v := .pointer (some ⟨g10, 1, none⟩)) (ev_fieldAddr (i := 1) Tryz.underlying33 rfl Tryz.info9 rfl rfl) (by decide) ?_
    refine sr_ev (v := str o_1.ID) (ev_load Tryz.isAgg9 rfl (hB14.cell rfl)) (by decide) ?_
    refine sr_ev (v := .pointer (some ⟨g10, 3, none⟩)) (ev_fieldAddr (i := 3) Tryz.underlying33 rfl Tryz.info9 rfl rfl) (by decide) ?_
    refine sr_ev (v := str o_1.Word) (ev_load Tryz.isAgg9 rfl (hB14.cell rfl)) (by decide) ?_
    refine sr_ev (v := .pointer (some ⟨g10, 8, none⟩)) (ev_fieldAddr (i := 8) Tryz.underlying33 rfl Tryz.info3 rfl rfl) (by decide) ?_
    refine sr_ev (v := .int .i64 o_1.Now) (ev_load Tryz.isAgg3 rfl (hB14.cell rfl)) (by decide) ?_
    obtain ⟨y103, hy104, hS⟩ := bind_some' hS
    refine sr_call (vs := [.pointer (some ⟨gl_0, 0, none⟩), str o_1.ID, str o_1.Word, .int .i64 o_1.Now]) rfl Tryz.call19 rfl (login_Logins_Password_ok _ (hg.fr hz hb) (ρA := ρ11) hb.bd (hz.fr hg hb) (o := 100) (by decide) (⟨_, _, _, _, hB9, hP2, h4, h6, h8⟩ : login_Logins.O (fun p => 100 + p) ρ11 w12 gl_0 l_0) hy104) (by decide) ?_
    rintro _ w105 ⟨ρ117, rfl, ⟨v108, v110, v112, v114, hB116, hP109, h111, h113, h115⟩, htr107⟩
    replace hb := hb.trans htr107
    replace hB116 : Blk ρ117 100 w105 gl_0 (.cells #[v108, v110, v112, v114] 69 (0, 0)) := hB116
    replace hP109 : PtrO secret_Locks.O (fun q => 100 + (1 + q)) ρ117 w105 v108 y103.2.locks := hP109
    replace h111 : MapT str login_credentials.c true ρ117 104 w105 v110 y103.2.users := h111
    replace h113 : MapT str (intC .i64) false ρ117 105 w105 v112 y103.2.counters := h113
    replace h115 : MapT str login_attempt.c true ρ117 106 w105 v114 y103.2.attempts := h115
    refine sr_end (l' := []) (.nil _) ?_
    refine ke_inBlock ?_
    cases hS
    exact ke_end0 Tryz.func16 rfl ⟨_, rfl, leave ρA w0 o 7 ρ117, rfl, ⟨_, _, _, _, (hB116.mv (leave_mv (p := 0) (by decide) hb)), (PtrO.mv hP109 secret_Locks.objK (fun p hp => leave_mv (p := 1 + p) (by omega) hb) (fun p hp => by show o + (1 + p) ≠ 0; omega)), (h111.mv (leave_mv (p := 4) (by decide) hb)), (h113.mv (leave_mv (p := 5) (by decide) hb)), (h115.mv (leave_mv (p := 6) (by decide) hb))⟩, (leave_tr ho2 hb)⟩
   ·replace hS := ite_false' hS hc102
    refine ke_seq ?_
    refine ke_region ?_
    refine sr_ev (v := .bool (o_1.Kind == 3)) (ev_eq rfl rfl) (by decide) ?_
    refine sr_ev (v := .bool (o_1.Kind == 3)) (ev_assign rfl) (by decide) ?_
    refine sr_end (l' := [(0, .pointer (some ⟨gl_0, 0, none⟩)), (3, .pointer (some ⟨g10, 0, none⟩)), (5, .int .i64 o_1.Kind), (36, .bool (o_1.Kind == 3))]) (.cons rfl (.cons rfl (.cons rfl (.cons rfl (.nil _))))) ?_
    refine ke_cond (t := o_1.Kind == 3) rfl (fun hc118 => ?_) (fun hc118 => ?_)
    ·replace hS := ite_true' hS hc118
     refine ke_region_j (ρ := ρ11) (fun t => ([100, 101, 102, 103, 104, 105, 106] : List Nat).contains t) 8 Tryz.mixed (fun w120 hw119 => ?_)
     have htr121 := Tr.of_below hw119 hb.bd
     replace hB14 := hB14.mv (htr121.mv (i := 5) rfl)
     replace hB9 := hB9.mv (htr121.mv (i := 100) rfl)
     replace hP2 := PtrO.mv hP2 secret_Locks.objK (fun p hp => htr121.mv (i := 100 + (1 + p)) (by rcases p with _ | _ | _ | p <;> first | rfl | omega)) (fun p hp => by show 100 + (1 + p) ≠ 0; omega)
     replace h4 := h4.mv (htr121.mv (i := 104) rfl)
     replace h6 := h6.mv (htr121.mv (i := 105) rfl)
     replace h8 := h8.mv (htr121.mv (i := 106) rfl)
     replace hb := hb.trans htr121
     refine dj_H 0 (v := .pointer (some ⟨gl_0, 0, none⟩)) (by kernel_rfl) (by kernel_rfl) rfl (fun _ _ _ h => h) (sj_refl hb.bd rfl rfl) (fun w1 ρ1 hw1 => ev_move rfl) (by decide) ?_
     refine dj_H 1 (v := .pointer (some ⟨g10, 1, none⟩)) (by kernel_rfl) (by kernel_rfl) rfl (fun _ _ _ h => h) (sj_refl hb.bd rfl rfl) (fun w1 ρ1 hw1 => ev_fieldAddr (i := 1) Tryz.underlying33 rfl Tryz.info9 rfl rfl) (by decide) ?_
     refine dj_H 2 (v := str o_1.ID) (by kernel_rfl) (by kernel_rfl) rfl (fun _ _ _ h => h) (sj_refl hb.bd rfl rfl) (fun w1 ρ1 hw1 => ev_load Tryz.isAgg9 rfl ((hB14.mv (hw1.mv (i := 5) rfl)).cell rfl)) (by decide) ?_
     refine dj_H 3 (v := .agg #[.int .i64 o_1.Kind, str o_1.ID, str o_1.User, str o_1.Word, str o_1.Code, str o_1.S, .int .i64 o_1.Level, .int .i64 o_1.Rounds, .int .i64 o_1.Now]) (by kernel_rfl) (by kernel_rfl) rfl (fun _ _ _ h => h) (sj_refl hb.bd rfl rfl) (fun w1 ρ1 hw1 => ev_loads (cs := [.int .i64 o_1.Kind, str o_1.ID, str o_1.User, str o_1.Word, str o_1.Code, str o_1.S, .int .i64 o_1.Level, .int .i64 o_1.Rounds, .int .i64 o_1.Now]) Tryz.isAgg33 Tryz.sizeOf33 rfl ((hB14.mv (hw1.mv (i := 5) rfl)).cells (vs := [.int .i64 o_1.Kind, str o_1.ID, str o_1.User, str o_1.Word, str o_1.Code, str o_1.S, .int .i64 o_1.Level, .int .i64 o_1.Rounds, .int .i64 o_1.Now]) rfl)) (by decide) ?_
     refine dj_H 5 (v := .pointer (some ⟨g10, 8, none⟩)) (by kernel_rfl) (by kernel_rfl) rfl (fun _ _ _ h => h) (sj_refl hb.bd rfl rfl) (fun w1 ρ1 hw1 => ev_fieldAddr (i := 8) Tryz.underlying33 rfl Tryz.info3 rfl rfl) (by decide) ?_
     refine dj_H 6 (v := .int .i64 o_1.Now) (by kernel_rfl) (by kernel_rfl) rfl (fun _ _ _ h => h) (sj_refl hb.bd rfl rfl) (fun w1 ρ1 hw1 => ev_load Tryz.isAgg3 rfl ((hB14.mv (hw1.mv (i := 5) rfl)).cell rfl)) (by decide) ?_
     refine dj_E 4 (by kernel_rfl) rfl ?_
     have jt167 : Tr ρ11 w120 (fun t => ([100, 101, 102, 103, 104, 105, 106] : List Nat).contains t) ρ11 w120 := (Tr.refl hb.bd).weak (fun _ _ => rfl) rfl rfl
     obtain ⟨y168, hy169, hS⟩ := bind_some' hS
     refine sr_call (vs := [.agg #[.int .i64 o_1.Kind, str o_1.ID, str o_1.User, str o_1.Word, str o_1.Code, str o_1.S, .int .i64 o_1.Level, .int .i64 o_1.Rounds, .int .i64 o_1.Now]]) rfl Tryz.call30 rfl (law39_typed_ok _ (hg.fr hz hb) hy169) (by decide) ?_
     rintro _ w170 ⟨rfl, hbw171⟩
     have htr172 := Tr.of_below hbw171 hb.bd
     replace hB14 := hB14.mv (htr172.mv (i := 5) rfl)
     replace hB9 := hB9.mv (htr172.mv (i := 100) rfl)
     replace hP2 := PtrO.mv hP2 secret_Locks.objK (fun p hp => htr172.mv (i := 100 + (1 + p)) (by rcases p with _ | _ | _ | p <;> first | rfl | omega)) (fun p hp => by show 100 + (1 + p) ≠ 0; omega)
     replace h4 := h4.mv (htr172.mv (i := 104) rfl)
     replace h6 := h6.mv (htr172.mv (i := 105) rfl)
     replace h8 := h8.mv (htr172.mv (i := 106) rfl)
     replace hb := hb.trans htr172
     replace jt167 := (jt167.trans htr172).weak (J' := (fun t => ([100, 101, 102, 103, 104, 105, 106] : List Nat).contains t)) (by intro t h; simp [rng] at h ⊢ <;> omega) rfl rfl
     refine dj_next (l' := [(38, .pointer (some ⟨gl_0, 0, none⟩)), (40, str o_1.ID), (42, str y168), (44, .int .i64 o_1.Now)]) rfl (.cons rfl (.cons rfl (.cons rfl (.cons rfl (.nil _))))) jt167 (by intro t h; simp [rng] at h ⊢ <;> omega) rfl rfl ?_
     refine dj_E 7 (by kernel_rfl) rfl ?_
     have jt173 : Tr ρ11 w170 (fun t => ([100, 101, 102, 103, 104, 105, 106] : List Nat).contains t) ρ11 w170 := (Tr.refl hb.bd).weak (fun _ _ => rfl) rfl rfl
     obtain ⟨y174, hy175, hS⟩ := bind_some' hS
     refine sr_call (vs := [.pointer (some ⟨gl_0, 0, none⟩), str o_1.ID, str y168, .int .i64 o_1.Now]) rfl Tryz.call15 rfl (login_Logins_Code_ok _ (hg.fr hz hb) (ρA := ρ11) hb.bd (hz.fr hg hb) (o := 100) (by decide) (⟨_, _, _, _, hB9, hP2, h4, h6, h8⟩ : login_Logins.O (fun p => 100 + p) ρ11 w170 gl_0 l_0) hy175) (by decide) ?_
     rintro _ w176 ⟨ρ188, rfl, ⟨v179, v181, v183, v185, hB187, hP180, h182, h184, h186⟩, htr178⟩
     replace hb := hb.trans htr178
     replace jt173 := (jt173.trans htr178).weak (J' := (fun t => ([100, 101, 102, 103, 104, 105, 106] : List Nat).contains t)) (by intro t h; simp [rng] at h ⊢ <;> omega) rfl rfl
     replace hB187 : Blk ρ188 100 w176 gl_0 (.cells #[v179, v181, v183, v185] 69 (0, 0)) := hB187
     replace hP180 : PtrO secret_Locks.O (fun q => 100 + (1 + q)) ρ188 w176 v179 y174.2.locks := hP180
     replace h182 : MapT str login_credentials.c true ρ188 104 w176 v181 y174.2.users := h182
     replace h184 : MapT str (intC .i64) false ρ188 105 w176 v183 y174.2.counters := h184
     replace h186 : MapT str login_attempt.c true ρ188 106 w176 v185 y174.2.attempts := h186
     refine dj_next (l' := []) rfl (.nil _) jt173 (by intro t h; simp [rng] at h ⊢ <;> omega) rfl rfl ?_
     refine dj_done rfl (by kernel_rfl) ?_
     refine ke_weaken (l' := []) (.nil _) ?_
     refine ke_inBlock ?_
     cases hS
     exact ke_end0 Tryz.func16 rfl ⟨_, rfl, leave ρA w0 o 7 ρ188, rfl, ⟨_, _, _, _, (hB187.mv (leave_mv (p := 0) (by decide) hb)), (PtrO.mv hP180 secret_Locks.objK (fun p hp => leave_mv (p := 1 + p) (by omega) hb) (fun p hp => by show o + (1 + p) ≠ 0; omega)), (h182.mv (leave_mv (p := 4) (by decide) hb)), (h184.mv (leave_mv (p := 5) (by decide) hb)), (h186.mv (leave_mv (p := 6) (by decide) hb))⟩, (leave_tr ho2 hb)⟩
    ·replace hS := ite_false' hS hc118
     refine ke_seq ?_
     refine ke_region ?_
     refine sr_ev (v := .bool (o_1.Kind == 4)) (ev_eq rfl rfl) (by decide) ?_
     refine sr_ev (v := .bool (o_1.Kind == 4)) (ev_assign rfl) (by decide) ?_
     refine sr_end (l' := [(0, .pointer (some ⟨gl_0, 0, none⟩)), (3, .pointer (some ⟨g10, 0, none⟩)), (46, .bool (o_1.Kind == 4))]) (.cons rfl (.cons rfl (.cons rfl (.nil _)))) ?_
     refine ke_cond (t := o_1.Kind == 4) rfl (fun hc189 => ?_) (fun hc189 => ?_)
     ·replace hS := ite_true' hS hc189
      refine ke_region ?_
      refine sr_ev (v := .pointer (some ⟨gl_0, 0, none⟩)) (ev_move rfl) (by decide) ?_
      refine sr_ev (v := .pointer (some ⟨g10, 1, none⟩)) (ev_fieldAddr (i := 1) Tryz.underlying33 rfl Tryz.info9 rfl rfl) (by decide) ?_
      refine sr_ev (v := str o_1.ID) (ev_load Tryz.isAgg9 rfl (hB14.cell rfl)) (by decide) ?_
      refine sr_ev (v := .pointer (some ⟨g10, 6, none⟩)) (ev_fieldAddr (i := 6) Tryz.underlying33 rfl Tryz.info3 rfl rfl) (by decide) ?_
      refine sr_ev (v := .int .i64 o_1.Level) (ev_load Tryz.isAgg3 rfl (hB14.cell rfl)) (by decide) ?_
      refine sr_ev (v := .pointer (some ⟨g10, 8, none⟩)) (ev_fieldAddr (i := 8) Tryz.underlying33 rfl Tryz.info3 rfl rfl) (by decide) ?_
      refine sr_ev (v := .int .i64 o_1.Now) (ev_load Tryz.isAgg3 rfl (hB14.cell rfl)) (by decide) ?_
      obtain ⟨y190, hy191, hS⟩ := bind_some' hS
      refine sr_call (vs := [.pointer (some ⟨gl_0, 0, none⟩), str o_1.ID, .int .i64 o_1.Level, .int .i64 o_1.Now]) rfl Tryz.call17 rfl (login_Logins_Finish_ok _ (hg.fr hz hb) (ρA := ρ11) hb.bd (hz.fr hg hb) (o := 100) (by decide) (⟨_, _, _, _, hB9, hP2, h4, h6, h8⟩ : login_Logins.O (fun p => 100 + p) ρ11 w12 gl_0 l_0) hy191) (by decide) ?_
      rintro _ w192 ⟨ρ206, v195, rfl, h196, ⟨v197, v199, v201, v203, hB205, hP198, h200, h202, h204⟩, htr194⟩
      replace hb := hb.trans htr194
      replace hB205 : Blk ρ206 100 w192 gl_0 (.cells #[v197, v199, v201, v203] 69 (0, 0)) := hB205
      replace hP198 : PtrO secret_Locks.O (fun q => 100 + (1 + q)) ρ206 w192 v197 y190.2.2.2.locks := hP198
      replace h200 : MapT str login_credentials.c true ρ206 104 w192 v199 y190.2.2.2.users := h200
      replace h202 : MapT str (intC .i64) false ρ206 105 w192 v201 y190.2.2.2.counters := h202
      replace h204 : MapT str login_attempt.c true ρ206 106 w192 v203 y190.2.2.2.attempts := h204
      refine sr_end (l' := []) (.nil _) ?_
      refine ke_inBlock ?_
      cases hS
      exact ke_end0 Tryz.func16 rfl ⟨_, rfl, leave ρA w0 o 7 ρ206, rfl, ⟨_, _, _, _, (hB205.mv (leave_mv (p := 0) (by decide) hb)), (PtrO.mv hP198 secret_Locks.objK (fun p hp => leave_mv (p := 1 + p) (by omega) hb) (fun p hp => by show o + (1 + p) ≠ 0; omega)), (h200.mv (leave_mv (p := 4) (by decide) hb)), (h202.mv (leave_mv (p := 5) (by decide) hb)), (h204.mv (leave_mv (p := 6) (by decide) hb))⟩, (leave_tr ho2 hb)⟩
     ·replace hS := ite_false' hS hc189
      refine ke_skip ?_
      refine ke_inBlock ?_
      cases hS
      exact ke_end0 Tryz.func16 rfl ⟨_, rfl, leave ρA w0 o 7 ρ11, rfl, ⟨_, _, _, _, (hB9.mv (leave_mv (p := 0) (by decide) hb)), (PtrO.mv hP2 secret_Locks.objK (fun p hp => leave_mv (p := 1 + p) (by omega) hb) (fun p hp => by show o + (1 + p) ≠ 0; omega)), (h4.mv (leave_mv (p := 4) (by decide) hb)), (h6.mv (leave_mv (p := 5) (by decide) hb)), (h8.mv (leave_mv (p := 6) (by decide) hb))⟩, (leave_tr ho2 hb)⟩
theorem law39_LoginSingle_B2_ok {w0 : World} (hg : Gs w0) {ρA : Tags} (hbd : ∀ b, ρA b ≠ 0 → b < w0.heap.size) (hz : Gz (flat1 ρA)) (r0 : List law39_Op → Int → login_Logins → Str → Int → Option (Bool))
  (hr0 : ∀ {r : Bool} {l_0 : List law39_Op} {now_1 : Int} {oa_5 : login_Logins} {s_6 : Str} {i_8 : Int} {vl_0 : Value} {ga_5 : Nat}, r0 l_0 now_1 oa_5 s_6 i_8 = some r → ∀ {ρ : Tags} {w : World}, (Fr (flat1 ρA) w0 ρ w) → (SlR law39_Op.c (Wb ρ) w vl_0 l_0) → (login_Logins.O (fun p => 100 + p) ρ w ga_5 oa_5) → KE Tryz.prog 3 (Ret (fun v w' => v = .bool r ∧ Below w0.heap.size w0 w')) 136 [.inLoop (sub (bodyOf Tryz.f3) [2, 2, 2, 2, 2, 2, 1, 2, 2, 1]), .inBlock 0, .code (sub (bodyOf Tryz.f3) [2, 2, 2, 2, 2, 2, 2])] [(0, vl_0), (1, .int .i64 now_1), (5, .pointer (some ⟨ga_5, 0, none⟩)), (6, str s_6), (8, .int .i64 i_8)] w) {r : Bool} {l_0 : List law39_Op} {now_1 : Int} {oa_5 : login_Logins} {s_6 : Str} {i_8 : Int} {vl_0 : Value} {ga_5 : Nat} (hS : law39_LoginSingle_B2 r0 l_0 now_1 oa_5 s_6 i_8 = some r) {ρ : Tags} {w : World} (hb : Fr (flat1 ρA) w0 ρ w) (hl_0 : SlR law39_Op.c (Wb ρ) w vl_0 l_0) (hoa_5 : login_Logins.O (fun p => 100 + p) ρ w ga_5 oa_5) :
  KE Tryz.prog 3 (Ret (fun v w' => v = .bool r ∧ Below w0.heap.size w0 w')) 136 [.inBlock 1, .code (sub (bodyOf Tryz.f3) [2, 2, 2, 2, 2, 2, 1, 2, 2, 1, 2, 2]), .inLoop (sub (bodyOf Tryz.f3) [2, 2, 2, 2, 2, 2, 1, 2, 2, 1]), .inBlock 0, .code (sub (bodyOf Tryz.f3) [2, 2, 2, 2, 2, 2, 2])] [(0, vl_0), (1, .int .i64 now_1), (5, .pointer (some ⟨ga_5, 0, none⟩)), (6, str s_6), (8, .int .i64 i_8)] w := by
 unfold law39_LoginSingle_B2 at hS
 obtain ⟨v212, v214, v216, v218, hB220, hP213, h215, h217, h219⟩ := hoa_5
 replace hB220 : Blk ρ 100 w ga_5 (.cells #[v212, v214, v216, v218] 69 (0, 0)) := hB220
 replace hP213 : PtrO secret_Locks.O (fun q => 100 + (1 + q)) ρ w v212 oa_5.locks := hP213
 replace h215 : MapT str login_credentials.c true ρ 104 w v214 oa_5.users := h215
 replace h217 : MapT str (intC .i64) false ρ 105 w v216 oa_5.counters := h217
 replace h219 : MapT str login_attempt.c true ρ 106 w v218 oa_5.attempts := h219
 refine ke_inBlock ?_
 refine ke_region ?_
 refine sr_ev (v := .int .i64 i_8) (ev_move rfl) (by decide) ?_
 refine sr_ev (v := .int .i64 (IntKind.i64.wrap (i_8 + 1))) (ev_add rfl rfl) (by decide) ?_
 refine sr_ev (v := .int .i64 (IntKind.i64.wrap (i_8 + 1))) (ev_assign rfl) (by decide) ?_
 refine sr_end (l' := [(0, vl_0), (1, .int .i64 now_1), (5, .pointer (some ⟨ga_5, 0, none⟩)), (6, str s_6), (8, .int .i64 (IntKind.i64.wrap (i_8 + 1)))]) (.cons rfl (.cons rfl (.cons rfl (.cons rfl (.cons rfl (.nil _)))))) ?_
 have hK := hr0 hS hb hl_0 ⟨_, _, _, _, hB220, hP213, h215, h217, h219⟩
 exact ke_weaken (l' := [(0, vl_0), (1, .int .i64 now_1), (5, .pointer (some ⟨ga_5, 0, none⟩)), (6, str s_6), (8, .int .i64 (IntKind.i64.wrap (i_8 + 1)))]) (.cons rfl (.cons rfl (.cons rfl (.cons rfl (.cons rfl (.nil _)))))) hK
theorem law39_LoginSingle_L3_ok {w0 : World} (hg : Gs w0) {ρA : Tags} (hbd : ∀ b, ρA b ≠ 0 → b < w0.heap.size) (hz : Gz (flat1 ρA)) (r0 : List law39_Op → Int → login_Logins → Str → Int → Option (Bool))
  (hr0 : ∀ {r : Bool} {l_0 : List law39_Op} {now_1 : Int} {oa_5 : login_Logins} {s_6 : Str} {i_8 : Int} {vl_0 : Value} {ga_5 : Nat}, r0 l_0 now_1 oa_5 s_6 i_8 = some r → ∀ {ρ : Tags} {w : World}, (Fr (flat1 ρA) w0 ρ w) → (SlR law39_Op.c (Wb ρ) w vl_0 l_0) → (login_Logins.O (fun p => 100 + p) ρ w ga_5 oa_5) → KE Tryz.prog 3 (Ret (fun v w' => v = .bool r ∧ Below w0.heap.size w0 w')) 136 [.inLoop (sub (bodyOf Tryz.f3) [2, 2, 2, 2, 2, 2, 1, 2, 2, 1]), .inBlock 0, .code (sub (bodyOf Tryz.f3) [2, 2, 2, 2, 2, 2, 2])] [(0, vl_0), (1, .int .i64 now_1), (5, .pointer (some ⟨ga_5, 0, none⟩)), (6, str s_6), (8, .int .i64 i_8)] w) : ∀ (n : Nat), ∀ {r : Bool} {now_1 : Int} {oa_5 : login_Logins} {s_6 : Str} {same_9 : Bool} {k_10 : Int} {ga_5 : Nat}, law39_LoginSingle_L3 r0 n now_1 oa_5 s_6 same_9 k_10 = some r → ∀ {ρ : Tags} {w : World}, (Fr (flat1 ρA) w0 ρ w) → (login_Logins.O (fun p => 100 + p) ρ w ga_5 oa_5) → KE Tryz.prog 3 (Ret (fun v w' => v = .bool r ∧ Below w0.heap.size w0 w')) 136 [.code (sub (bodyOf Tryz.f3) [2, 2, 2, 2, 2, 2, 2, 2, 1, 2, 2, 1]), .inLoop (sub (bodyOf Tryz.f3) [2, 2, 2, 2, 2, 2, 2, 2, 1, 2, 2, 1]), .inBlock 2, .code (sub (bodyOf Tryz.f3) [2, 2, 2, 2, 2, 2, 2, 2, 2])] [(1, .int .i64 now_1), (5, .pointer (some ⟨ga_5, 0, none⟩)), (6, str s_6), (9, .bool same_9), (10, .int .i64 k_10)] w := by
 intro n
 induction n with
 | zero => intro r now_1 oa_5 s_6 same_9 k_10 ga_5 hS; cases hS
 | succ n ih =>
  have hr1 : ∀ {r : Bool} {now_1 : Int} {oa_5 : login_Logins} {s_6 : Str} {same_9 : Bool} {k_10 : Int} {ga_5 : Nat}, law39_LoginSingle_L3 r0 n now_1 oa_5 s_6 same_9 k_10 = some r → ∀ {ρ : Tags} {w : World}, (Fr (flat1 ρA) w0 ρ w) → (login_Logins.O (fun p => 100 + p) ρ w ga_5 oa_5) → KE Tryz.prog 3 (Ret (fun v w' => v = .bool r ∧ Below w0.heap.size w0 w')) 136 [.inLoop (sub (bodyOf Tryz.f3) [2, 2, 2, 2, 2, 2, 2, 2, 1, 2, 2, 1]), .inBlock 2, .code (sub (bodyOf Tryz.f3) [2, 2, 2, 2, 2, 2, 2, 2, 2])] [(1, .int .i64 now_1), (5, .pointer (some ⟨ga_5, 0, none⟩)), (6, str s_6), (9, .bool same_9), (10, .int .i64 k_10)] w := fun {r} {now_1} {oa_5} {s_6} {same_9} {k_10} {ga_5} hS {ρ} {w} hb hoa_5 => ke_inLoop (ih hS hb hoa_5)
  clear ih
  intro r now_1 oa_5 s_6 same_9 k_10 ga_5 hS ρ w hb hoa_5
  unfold law39_LoginSingle_L3 at hS
  obtain ⟨v221, v223, v225, v227, hB229, hP222, h224, h226, h228⟩ := hoa_5
  replace hB229 : Blk ρ 100 w ga_5 (.cells #[v221, v223, v225, v227] 69 (0, 0)) := hB229
  replace hP222 : PtrO secret_Locks.O (fun q => 100 + (1 + q)) ρ w v221 oa_5.locks := hP222
  replace h224 : MapT str login_credentials.c true ρ 104 w v223 oa_5.users := h224
  replace h226 : MapT str (intC .i64) false ρ 105 w v225 oa_5.counters := h226
  replace h228 : MapT str login_attempt.c true ρ 106 w v227 oa_5.attempts := h228
  refine ke_seq ?_
  refine ke_seq ?_
  refine ke_region ?_
  refine sr_ev (v := .int .i64 k_10) (ev_move rfl) (by decide) ?_
  refine sr_ev (v := .bool (decide (k_10 ≤ 2))) (ev_le rfl rfl) (by decide) ?_
  refine sr_end (l' := [(1, .int .i64 now_1), (5, .pointer (some ⟨ga_5, 0, none⟩)), (6, str s_6), (9, .bool same_9), (10, .int .i64 k_10), (85, .bool (decide (k_10 ≤ 2)))]) (.cons rfl (.cons rfl (.cons rfl (.cons rfl (.cons rfl (.cons rfl (.nil _))))))) ?_
  refine ke_cond (t := decide (k_10 ≤ 2)) rfl (fun hc230 => ?_) (fun hc230 => ?_)
  ·replace hS := ite_true' hS hc230
   refine ke_skip ?_
   refine ke_seq ?_
   refine ke_block ?_
   refine ke_seq ?_
   refine ke_region ?_
   refine sr_ev (v := .int .i64 now_1) (ev_move rfl) (by decide) ?_
   obtain ⟨y231, hy232, hS⟩ := bind_some' hS
   refine sr_call (vs := [.int .i64 now_1]) rfl Tryz.call13 rfl (otp_Counter_ok _ (hg.fr hz hb) hy232) (by decide) ?_
   rintro _ w233 ⟨rfl, hbw234⟩
   have htr235 := Tr.of_below hbw234 hb.bd
   replace hB229 := hB229.mv (htr235.mv (i := 100) rfl)
   replace hP222 := PtrO.mv hP222 secret_Locks.objK (fun p hp => htr235.mv (i := 100 + (1 + p)) (by rcases p with _ | _ | _ | p <;> first | rfl | omega)) (fun p hp => by show 100 + (1 + p) ≠ 0; omega)
   replace h224 := h224.mv (htr235.mv (i := 104) rfl)
   replace h226 := h226.mv (htr235.mv (i := 105) rfl)
   replace h228 := h228.mv (htr235.mv (i := 106) rfl)
   replace hb := hb.trans htr235
   refine sr_ev (v := .int .i64 k_10) (ev_move rfl) (by decide) ?_
   refine sr_ev (v := .int .i64 (IntKind.i64.wrap (y231 + k_10))) (ev_add rfl rfl) (by decide) ?_
   obtain ⟨y236, hy237, hS⟩ := bind_some' hS
   refine sr_call (vs := [str ([115, 101, 101, 100]), .int .i64 (IntKind.i64.wrap (y231 + k_10))]) rfl Tryz.call12 rfl (otp_Code_ok _ (hg.fr hz hb) hy237) (by decide) ?_
   rintro _ w238 ⟨rfl, hbw239⟩
   have htr240 := Tr.of_below hbw239 hb.bd
   replace hB229 := hB229.mv (htr240.mv (i := 100) rfl)
   replace hP222 := PtrO.mv hP222 secret_Locks.objK (fun p hp => htr240.mv (i := 100 + (1 + p)) (by rcases p with _ | _ | _ | p <;> first | rfl | omega)) (fun p hp => by show 100 + (1 + p) ≠ 0; omega)
   replace h224 := h224.mv (htr240.mv (i := 104) rfl)
   replace h226 := h226.mv (htr240.mv (i := 105) rfl)
   replace h228 := h228.mv (htr240.mv (i := 106) rfl)
   replace hb := hb.trans htr240
   refine sr_ev (v := .tuple #[str y236.1, .int .i64 y236.2]) (ev_move rfl) (by decide) ?_
   refine sr_ev (v := str y236.1) (ev_extract rfl rfl) (by decide) ?_
   refine sr_ev (v := .int .i64 y236.2) (ev_extract rfl rfl) (by decide) ?_
   refine sr_ev (v := str y236.1) (ev_assign rfl) (by decide) ?_
   refine sr_ev (v := .int .i64 y236.2) (ev_assign rfl) (by decide) ?_
   refine sr_end (l' := [(1, .int .i64 now_1), (5, .pointer (some ⟨ga_5, 0, none⟩)), (6, str s_6), (9, .bool same_9), (10, .int .i64 k_10), (11, str y236.1)]) (.cons rfl (.cons rfl (.cons rfl (.cons rfl (.cons rfl (.cons rfl (.nil _))))))) ?_
   refine ke_region ?_
   refine sr_ev (v := .bool same_9) (ev_move rfl) (by decide) ?_
   refine sr_ev (v := .bool same_9) (ev_move rfl) (by decide) ?_
   refine sr_join (m := 8) (C := fun (x : Bool) w1 => x = (same_9 || ((k_10 != 0) && (y236.1 == s_6))) ∧ w238 = w1) (l' := fun x => [(1, .int .i64 now_1), (5, .pointer (some ⟨ga_5, 0, none⟩)), (6, str s_6), (10, .int .i64 k_10), (105, .bool x)]) ?_ ?_
   ·rintro _ _ ⟨rfl, rfl⟩
    refine sr_ev (v := .bool (same_9 || ((k_10 != 0) && (y236.1 == s_6)))) (ev_assign rfl) (by decide) ?_
    refine sr_end (l' := [(1, .int .i64 now_1), (5, .pointer (some ⟨ga_5, 0, none⟩)), (6, str s_6), (9, .bool (same_9 || ((k_10 != 0) && (y236.1 == s_6)))), (10, .int .i64 k_10)]) (.cons rfl (.cons rfl (.cons rfl (.cons rfl (.cons rfl (.nil _)))))) ?_
    refine ke_inBlock ?_
    refine ke_region ?_
    refine sr_ev (v := .int .i64 k_10) (ev_move rfl) (by decide) ?_
    refine sr_ev (v := .int .i64 (IntKind.i64.wrap (k_10 + 1))) (ev_add rfl rfl) (by decide) ?_
    refine sr_ev (v := .int .i64 (IntKind.i64.wrap (k_10 + 1))) (ev_assign rfl) (by decide) ?_
    refine sr_end (l' := [(1, .int .i64 now_1), (5, .pointer (some ⟨ga_5, 0, none⟩)), (6, str s_6), (9, .bool (same_9 || ((k_10 != 0) && (y236.1 == s_6)))), (10, .int .i64 (IntKind.i64.wrap (k_10 + 1)))]) (.cons rfl (.cons rfl (.cons rfl (.cons rfl (.cons rfl (.nil _)))))) ?_
    have hK := hr1 hS hb ⟨_, _, _, _, hB229, hP222, h224, h226, h228⟩
    exact ke_weaken (l' := [(1, .int .i64 now_1), (5, .pointer (some ⟨ga_5, 0, none⟩)), (6, str s_6), (9, .bool (same_9 || ((k_10 != 0) && (y236.1 == s_6)))), (10, .int .i64 (IntKind.i64.wrap (k_10 + 1)))]) (.cons rfl (.cons rfl (.cons rfl (.cons rfl (.cons rfl (.nil _)))))) hK
   ·intro K242
    rcases Bool.eq_false_or_eq_true same_9 with hg241 | hg241
    all_goals try have hj244 : Tr ρ w238 (fun _ => false) ρ w238 := Tr.refl hb.bd
    ·refine sr_pass (e := 97) rfl rfl (by rw [hg241]; rfl) (by decide) ?_
     refine sr_pass (e := 97) rfl rfl (by rw [hg241]; rfl) (by decide) ?_
     refine sr_pass (e := 97) rfl rfl (by rw [hg241]; rfl) (by decide) ?_
     refine sr_pass_undef (e := 100) rfl rfl (by decide) ?_
     refine sr_pass_undef (e := 100) rfl rfl (by decide) ?_
     refine sr_pass_undef (e := 100) rfl rfl (by decide) ?_
     refine sr_pass (e := 97) rfl rfl (by rw [hg241]; rfl) (by decide) ?_
     refine sr_ev (v := .bool true) (ev_pick_t rfl hg241 rfl) (by decide) ?_
     exact sr_weaken (l' := [(1, .int .i64 now_1), (5, .pointer (some ⟨ga_5, 0, none⟩)), (6, str s_6), (10, .int .i64 k_10), (105, .bool true)]) (.cons rfl (.cons rfl (.cons rfl (.cons rfl (.cons rfl (.nil _)))))) (K242 true _ ⟨by first | (rw [hg241]; rfl) | rfl, rfl⟩)
    ·refine sr_evg (b := false) (e := 97) rfl rfl hg241 (v := .int .i64 k_10) (ev_move rfl) (by decide) ?_
     refine sr_evg (b := false) (e := 97) rfl rfl hg241 (v := .bool (k_10 != 0)) (ev_ne rfl rfl) (by decide) ?_
     refine sr_evg (b := false) (e := 97) rfl rfl hg241 (v := .bool (k_10 != 0)) (ev_move rfl) (by decide) ?_
     refine sr_join (m := 4) (C := fun (x : Bool) w1 => x = ((k_10 != 0) && (y236.1 == s_6)) ∧ w238 = w1) (l' := fun x => [(1, .int .i64 now_1), (5, .pointer (some ⟨ga_5, 0, none⟩)), (6, str s_6), (10, .int .i64 k_10), (97, .bool same_9), (104, .bool x)]) ?_ ?_
     ·rintro _ _ ⟨rfl, rfl⟩
      refine sr_ev (v := .bool ((k_10 != 0) && (y236.1 == s_6))) (ev_pick_f rfl hg241 rfl) (by decide) ?_
      exact sr_weaken (l' := [(1, .int .i64 now_1), (5, .pointer (some ⟨ga_5, 0, none⟩)), (6, str s_6), (10, .int .i64 k_10), (105, .bool ((k_10 != 0) && (y236.1 == s_6)))]) (.cons rfl (.cons rfl (.cons rfl (.cons rfl (.cons rfl (.nil _)))))) (K242 ((k_10 != 0) && (y236.1 == s_6)) _ ⟨by first | (rw [hg241]; rfl) | rfl, rfl⟩)
     ·intro K250
      rcases Bool.eq_false_or_eq_true (k_10 != 0) with hg249 | hg249
      all_goals try have hj252 : Tr ρ w238 (fun _ => false) ρ w238 := Tr.refl hb.bd
      ·refine sr_evg (b := true) (e := 100) rfl rfl hg249 (v := str y236.1) (ev_move rfl) (by decide) ?_
       refine sr_evg (b := true) (e := 100) rfl rfl hg249 (v := str s_6) (ev_move rfl) (by decide) ?_
       refine sr_evg (b := true) (e := 100) rfl rfl hg249 (v := .bool (y236.1 == s_6)) (ev_seq rfl rfl) (by decide) ?_
       refine sr_evg (b := false) (e := 97) rfl rfl hg241 (v := .bool (y236.1 == s_6)) (ev_pick_t rfl hg249 rfl) (by decide) ?_
       exact sr_weaken (l' := [(1, .int .i64 now_1), (5, .pointer (some ⟨ga_5, 0, none⟩)), (6, str s_6), (10, .int .i64 k_10), (97, .bool same_9), (104, .bool (y236.1 == s_6))]) (.cons rfl (.cons rfl (.cons rfl (.cons rfl (.cons rfl (.cons rfl (.nil _))))))) (K250 (y236.1 == s_6) _ ⟨by first | (rw [hg249]; rfl) | rfl, rfl⟩)
      ·refine sr_pass (e := 100) rfl rfl (by rw [hg249]; rfl) (by decide) ?_
       refine sr_pass (e := 100) rfl rfl (by rw [hg249]; rfl) (by decide) ?_
       refine sr_pass (e := 100) rfl rfl (by rw [hg249]; rfl) (by decide) ?_
       refine sr_evg (b := false) (e := 97) rfl rfl hg241 (v := .bool false) (ev_pick_f rfl hg249 rfl) (by decide) ?_
       exact sr_weaken (l' := [(1, .int .i64 now_1), (5, .pointer (some ⟨ga_5, 0, none⟩)), (6, str s_6), (10, .int .i64 k_10), (97, .bool same_9), (104, .bool false)]) (.cons rfl (.cons rfl (.cons rfl (.cons rfl (.cons rfl (.cons rfl (.nil _))))))) (K250 false _ ⟨by first | (rw [hg249]; rfl) | rfl, rfl⟩)
  ·replace hS := ite_false' hS hc230
   refine ke_exit (k' := _) rfl ?_
   refine ke_seq ?_
   refine ke_region ?_
   refine sr_ev (v := .pointer (some ⟨ga_5, 0, none⟩)) (ev_move rfl) (by decide) ?_
   refine sr_ev (v := .int .i64 now_1) (ev_move rfl) (by decide) ?_
   obtain ⟨y257, hy258, hS⟩ := bind_some' hS
   refine sr_call (vs := [.pointer (some ⟨ga_5, 0, none⟩), str ([97, 103, 97, 105, 110]), str ([97, 110, 110]), .int .i64 now_1]) rfl Tryz.call14 rfl (login_Logins_Begin_ok _ (hg.fr hz hb) (ρA := ρ) hb.bd (hz.fr hg hb) (o := 100) (by decide) (⟨_, _, _, _, hB229, hP222, h224, h226, h228⟩ : login_Logins.O (fun p => 100 + p) ρ w ga_5 oa_5) hy258) (by decide) ?_
   rintro _ w259 ⟨ρ271, rfl, ⟨v262, v264, v266, v268, hB270, hP263, h265, h267, h269⟩, htr261⟩
   replace hb := hb.trans htr261
   replace hB270 : Blk ρ271 100 w259 ga_5 (.cells #[v262, v264, v266, v268] 69 (0, 0)) := hB270
   replace hP263 : PtrO secret_Locks.O (fun q => 100 + (1 + q)) ρ271 w259 v262 y257.2.locks := hP263
   replace h265 : MapT str login_credentials.c true ρ271 104 w259 v264 y257.2.users := h265
   replace h267 : MapT str (intC .i64) false ρ271 105 w259 v266 y257.2.counters := h267
   replace h269 : MapT str login_attempt.c true ρ271 106 w259 v268 y257.2.attempts := h269
   refine sr_ev (v := .int .i64 y257.1) (ev_assign rfl) (by decide) ?_
   refine sr_end (l' := [(1, .int .i64 now_1), (5, .pointer (some ⟨ga_5, 0, none⟩)), (6, str s_6), (9, .bool same_9), (13, .int .i64 y257.1)]) (.cons rfl (.cons rfl (.cons rfl (.cons rfl (.cons rfl (.nil _)))))) ?_
   refine ke_seq ?_
   refine ke_seq ?_
   refine ke_region ?_
   refine sr_ev (v := .int .i64 y257.1) (ev_move rfl) (by decide) ?_
   refine sr_ev (v := .bool (y257.1 == 7)) (ev_eq rfl rfl) (by decide) ?_
   refine sr_end (l' := [(1, .int .i64 now_1), (5, .pointer (some ⟨ga_5, 0, none⟩)), (6, str s_6), (9, .bool same_9), (13, .int .i64 y257.1), (110, .bool (y257.1 == 7))]) (.cons rfl (.cons rfl (.cons rfl (.cons rfl (.cons rfl (.cons rfl (.nil _))))))) ?_
   refine ke_cond (t := y257.1 == 7) rfl (fun hc272 => ?_) (fun hc272 => ?_)
   ·replace hS := ite_true' hS hc272
    refine ke_seq ?_
    refine ke_region ?_
    obtain ⟨y273, hy274, hS⟩ := bind_some' hS
    refine sr_call (vs := []) rfl Tryz.call10 rfl (law39_alive_ok _ (hg.fr hz hb) (ρA := ρ271) hb.bd (hz.fr hg hb) hy274) (by decide) ?_
    rintro _ w275 ⟨rfl, hbw276⟩
    have htr277 := Tr.of_below hbw276 hb.bd
    replace hb := hb.trans htr277
    refine sr_ev (v := .bool y273) (ev_assign rfl) (by decide) ?_
    refine sr_end (l' := [(4, .bool y273)]) (.cons rfl (.nil _)) ?_
    cases hS
    exact ke_ret1 Tryz.func3 rfl rfl ⟨_, rfl, rfl, (hb.below (flat1_le _))⟩
   ·replace hS := ite_false' hS hc272
    refine ke_skip ?_
    refine ke_seq ?_
    refine ke_region ?_
    refine sr_ev (v := .pointer (some ⟨ga_5, 0, none⟩)) (ev_move rfl) (by decide) ?_
    refine sr_ev (v := str s_6) (ev_move rfl) (by decide) ?_
    refine sr_ev (v := .int .i64 now_1) (ev_move rfl) (by decide) ?_
    obtain ⟨y278, hy279, hS⟩ := bind_some' hS
    refine sr_call (vs := [.pointer (some ⟨ga_5, 0, none⟩), str ([97, 103, 97, 105, 110]), str s_6, .int .i64 now_1]) rfl Tryz.call15 rfl (login_Logins_Code_ok _ (hg.fr hz hb) (ρA := ρ271) hb.bd (hz.fr hg hb) (o := 100) (by decide) (⟨_, _, _, _, hB270, hP263, h265, h267, h269⟩ : login_Logins.O (fun p => 100 + p) ρ271 w259 ga_5 y257.2) hy279) (by decide) ?_
    rintro _ w280 ⟨ρ292, rfl, ⟨v283, v285, v287, v289, hB291, hP284, h286, h288, h290⟩, htr282⟩
    replace hb := hb.trans htr282
    replace hB291 : Blk ρ292 100 w280 ga_5 (.cells #[v283, v285, v287, v289] 69 (0, 0)) := hB291
    replace hP284 : PtrO secret_Locks.O (fun q => 100 + (1 + q)) ρ292 w280 v283 y278.2.locks := hP284
    replace h286 : MapT str login_credentials.c true ρ292 104 w280 v285 y278.2.users := h286
    replace h288 : MapT str (intC .i64) false ρ292 105 w280 v287 y278.2.counters := h288
    replace h290 : MapT str login_attempt.c true ρ292 106 w280 v289 y278.2.attempts := h290
    refine sr_ev (v := .int .i64 y278.1) (ev_assign rfl) (by decide) ?_
    refine sr_end (l' := [(9, .bool same_9), (13, .int .i64 y257.1), (14, .int .i64 y278.1)]) (.cons rfl (.cons rfl (.cons rfl (.nil _)))) ?_
    refine ke_seq ?_
    refine ke_region ?_
    refine sr_ev (v := .int .i64 y257.1) (ev_move rfl) (by decide) ?_
    refine sr_ev (v := .bool (y257.1 == 0)) (ev_eq rfl rfl) (by decide) ?_
    refine sr_ev (v := .bool (y257.1 == 0)) (ev_move rfl) (by decide) ?_
    refine sr_join (m := 14) (C := fun (x : Bool) w1 => x = ((y257.1 == 0) && (((y278.1 == 11) || (same_9 && (y278.1 == 0))) || (y278.1 == 22))) ∧ w280 = w1) (l' := fun x => [(132, .bool x)]) ?_ ?_
    ·rintro _ _ ⟨rfl, rfl⟩
     refine sr_ev (v := .bool ((y257.1 == 0) && (((y278.1 == 11) || (same_9 && (y278.1 == 0))) || (y278.1 == 22)))) (ev_move rfl) (by decide) ?_
     obtain ⟨z327, hz329, hS⟩ := bind_some' hS
     refine sr_join (m := 2) (C := fun (z : Bool) w1 => z327 = z ∧ ∃ ρ1, Tr ρ292 w280 (fun _ => false) ρ1 w1) (l' := fun z => [(135, .bool z)]) ?_ ?_
     ·rintro _ w330 ⟨rfl, ρ331, hj328⟩
      replace hb := hb.trans hj328
      refine sr_ev (v := .bool z327) (ev_assign rfl) (by decide) ?_
      refine sr_end (l' := [(4, .bool z327)]) (.cons rfl (.nil _)) ?_
      cases hS
      exact ke_ret1 Tryz.func3 rfl rfl ⟨_, rfl, rfl, (hb.below (flat1_le _))⟩
     ·intro K326
      clear hS
      have hj328 : Tr ρ292 w280 (fun _ => false) ρ292 w280 := (Tr.refl hb.bd).weak (fun _ _ => rfl) rfl rfl
      rcases Bool.eq_false_or_eq_true ((y257.1 == 0) && (((y278.1 == 11) || (same_9 && (y278.1 == 0))) || (y278.1 == 22))) with hg325 | hg325
      ·have hS := ite_true' hz329 hg325
       obtain ⟨y333, hy334, hS⟩ := bind_some' hS
       refine sr_callg (b := true) (e := 133) rfl rfl hg325 (vs := []) rfl Tryz.call10 rfl (law39_alive_ok _ (hg.fr hz hb) (ρA := ρ292) hb.bd (hz.fr hg hb) hy334) (by decide) ?_
       rintro _ w335 ⟨rfl, hbw336⟩
       have htr337 := Tr.of_below hbw336 hb.bd
       replace hb := hb.trans htr337
       replace hj328 := (hj328.trans htr337).weak (J' := (fun _ => false)) (by intro t h; simp [rng] at h ⊢ <;> omega) rfl rfl
       refine sr_ev (v := .bool y333) (ev_pick_t rfl hg325 rfl) (by decide) ?_
       exact sr_weaken (l' := [(135, .bool y333)]) (.cons rfl (.nil _)) (K326 y333 _ ⟨(Option.some.inj hS).symm, _, hj328⟩)
      ·have hS := ite_false' hz329 hg325
       refine sr_pass (e := 133) rfl rfl (by rw [hg325]; rfl) (by decide) ?_
       refine sr_ev (v := .bool false) (ev_pick_f rfl hg325 rfl) (by decide) ?_
       exact sr_weaken (l' := [(135, .bool false)]) (.cons rfl (.nil _)) (K326 false _ ⟨(Option.some.inj hS).symm, _, hj328⟩)
    ·intro K294
     rcases Bool.eq_false_or_eq_true (y257.1 == 0) with hg293 | hg293
     all_goals try have hj296 : Tr ρ292 w280 (fun _ => false) ρ292 w280 := Tr.refl hb.bd
     ·refine sr_evg (b := true) (e := 118) rfl rfl hg293 (v := .int .i64 y278.1) (ev_move rfl) (by decide) ?_
      refine sr_evg (b := true) (e := 118) rfl rfl hg293 (v := .bool (y278.1 == 11)) (ev_eq rfl rfl) (by decide) ?_
      refine sr_evg (b := true) (e := 118) rfl rfl hg293 (v := .bool (y278.1 == 11)) (ev_move rfl) (by decide) ?_
      refine sr_join (m := 6) (C := fun (x : Bool) w1 => x = ((y278.1 == 11) || (same_9 && (y278.1 == 0))) ∧ w280 = w1) (l' := fun x => [(14, .int .i64 y278.1), (118, .bool (y257.1 == 0)), (127, .bool x)]) ?_ ?_
      ·rintro _ _ ⟨rfl, rfl⟩
       refine sr_evg (b := true) (e := 118) rfl rfl hg293 (v := .bool ((y278.1 == 11) || (same_9 && (y278.1 == 0)))) (ev_move rfl) (by decide) ?_
       refine sr_join (m := 3) (C := fun (x : Bool) w1 => x = (((y278.1 == 11) || (same_9 && (y278.1 == 0))) || (y278.1 == 22)) ∧ w280 = w1) (l' := fun x => [(118, .bool (y257.1 == 0)), (131, .bool x)]) ?_ ?_
       ·rintro _ _ ⟨rfl, rfl⟩
        refine sr_ev (v := .bool (((y278.1 == 11) || (same_9 && (y278.1 == 0))) || (y278.1 == 22))) (ev_pick_t rfl hg293 rfl) (by decide) ?_
        exact sr_weaken (l' := [(132, .bool (((y278.1 == 11) || (same_9 && (y278.1 == 0))) || (y278.1 == 22)))]) (.cons rfl (.nil _)) (K294 (((y278.1 == 11) || (same_9 && (y278.1 == 0))) || (y278.1 == 22)) _ ⟨by first | (rw [hg293]; rfl) | rfl, rfl⟩)
       ·intro K318
        rcases Bool.eq_false_or_eq_true ((y278.1 == 11) || (same_9 && (y278.1 == 0))) with hg317 | hg317
        all_goals try have hj320 : Tr ρ292 w280 (fun _ => false) ρ292 w280 := Tr.refl hb.bd
        ·refine sr_pass (e := 128) rfl rfl (by rw [hg317]; rfl) (by decide) ?_
         refine sr_pass (e := 128) rfl rfl (by rw [hg317]; rfl) (by decide) ?_
         refine sr_evg (b := true) (e := 118) rfl rfl hg293 (v := .bool true) (ev_pick_t rfl hg317 rfl) (by decide) ?_
         exact sr_weaken (l' := [(118, .bool (y257.1 == 0)), (131, .bool true)]) (.cons rfl (.cons rfl (.nil _))) (K318 true _ ⟨by first | (rw [hg317]; rfl) | rfl, rfl⟩)
        ·refine sr_evg (b := false) (e := 128) rfl rfl hg317 (v := .int .i64 y278.1) (ev_move rfl) (by decide) ?_
         refine sr_evg (b := false) (e := 128) rfl rfl hg317 (v := .bool (y278.1 == 22)) (ev_eq rfl rfl) (by decide) ?_
         refine sr_evg (b := true) (e := 118) rfl rfl hg293 (v := .bool (y278.1 == 22)) (ev_pick_f rfl hg317 rfl) (by decide) ?_
         exact sr_weaken (l' := [(118, .bool (y257.1 == 0)), (131, .bool (y278.1 == 22))]) (.cons rfl (.cons rfl (.nil _))) (K318 (y278.1 == 22) _ ⟨by first | (rw [hg317]; rfl) | rfl, rfl⟩)
      ·intro K302
       rcases Bool.eq_false_or_eq_true (y278.1 == 11) with hg301 | hg301
       all_goals try have hj304 : Tr ρ292 w280 (fun _ => false) ρ292 w280 := Tr.refl hb.bd
       ·refine sr_pass (e := 121) rfl rfl (by rw [hg301]; rfl) (by decide) ?_
        refine sr_pass (e := 121) rfl rfl (by rw [hg301]; rfl) (by decide) ?_
        refine sr_pass_undef (e := 123) rfl rfl (by decide) ?_
        refine sr_pass_undef (e := 123) rfl rfl (by decide) ?_
        refine sr_pass (e := 121) rfl rfl (by rw [hg301]; rfl) (by decide) ?_
        refine sr_evg (b := true) (e := 118) rfl rfl hg293 (v := .bool true) (ev_pick_t rfl hg301 rfl) (by decide) ?_
        exact sr_weaken (l' := [(14, .int .i64 y278.1), (118, .bool (y257.1 == 0)), (127, .bool true)]) (.cons rfl (.cons rfl (.cons rfl (.nil _)))) (K302 true _ ⟨by first | (rw [hg301]; rfl) | rfl, rfl⟩)
       ·refine sr_evg (b := false) (e := 121) rfl rfl hg301 (v := .bool same_9) (ev_move rfl) (by decide) ?_
        refine sr_evg (b := false) (e := 121) rfl rfl hg301 (v := .bool same_9) (ev_move rfl) (by decide) ?_
        refine sr_join (m := 3) (C := fun (x : Bool) w1 => x = (same_9 && (y278.1 == 0)) ∧ w280 = w1) (l' := fun x => [(14, .int .i64 y278.1), (118, .bool (y257.1 == 0)), (121, .bool (y278.1 == 11)), (126, .bool x)]) ?_ ?_
        ·rintro _ _ ⟨rfl, rfl⟩
         refine sr_evg (b := true) (e := 118) rfl rfl hg293 (v := .bool (same_9 && (y278.1 == 0))) (ev_pick_f rfl hg301 rfl) (by decide) ?_
         exact sr_weaken (l' := [(14, .int .i64 y278.1), (118, .bool (y257.1 == 0)), (127, .bool (same_9 && (y278.1 == 0)))]) (.cons rfl (.cons rfl (.cons rfl (.nil _)))) (K302 (same_9 && (y278.1 == 0)) _ ⟨by first | (rw [hg301]; rfl) | rfl, rfl⟩)
        ·intro K310
         rcases Bool.eq_false_or_eq_true same_9 with hg309 | hg309
         all_goals try have hj312 : Tr ρ292 w280 (fun _ => false) ρ292 w280 := Tr.refl hb.bd
         ·refine sr_evg (b := true) (e := 123) rfl rfl hg309 (v := .int .i64 y278.1) (ev_move rfl) (by decide) ?_
          refine sr_evg (b := true) (e := 123) rfl rfl hg309 (v := .bool (y278.1 == 0)) (ev_eq rfl rfl) (by decide) ?_
          refine sr_evg (b := false) (e := 121) rfl rfl hg301 (v := .bool (y278.1 == 0)) (ev_pick_t rfl hg309 rfl) (by decide) ?_
          exact sr_weaken (l' := [(14, .int .i64 y278.1), (118, .bool (y257.1 == 0)), (121, .bool (y278.1 == 11)), (126, .bool (y278.1 == 0))]) (.cons rfl (.cons rfl (.cons rfl (.cons rfl (.nil _))))) (K310 (y278.1 == 0) _ ⟨by first | (rw [hg309]; rfl) | rfl, rfl⟩)
         ·refine sr_pass (e := 123) rfl rfl (by rw [hg309]; rfl) (by decide) ?_
          refine sr_pass (e := 123) rfl rfl (by rw [hg309]; rfl) (by decide) ?_
          refine sr_evg (b := false) (e := 121) rfl rfl hg301 (v := .bool false) (ev_pick_f rfl hg309 rfl) (by decide) ?_
          exact sr_weaken (l' := [(14, .int .i64 y278.1), (118, .bool (y257.1 == 0)), (121, .bool (y278.1 == 11)), (126, .bool false)]) (.cons rfl (.cons rfl (.cons rfl (.cons rfl (.nil _))))) (K310 false _ ⟨by first | (rw [hg309]; rfl) | rfl, rfl⟩)
     ·refine sr_pass (e := 118) rfl rfl (by rw [hg293]; rfl) (by decide) ?_
      refine sr_pass (e := 118) rfl rfl (by rw [hg293]; rfl) (by decide) ?_
      refine sr_pass (e := 118) rfl rfl (by rw [hg293]; rfl) (by decide) ?_
      refine sr_pass_undef (e := 121) rfl rfl (by decide) ?_
      refine sr_pass_undef (e := 121) rfl rfl (by decide) ?_
      refine sr_pass_undef (e := 123) rfl rfl (by decide) ?_
      refine sr_pass_undef (e := 123) rfl rfl (by decide) ?_
      refine sr_pass_undef (e := 121) rfl rfl (by decide) ?_
      refine sr_pass (e := 118) rfl rfl (by rw [hg293]; rfl) (by decide) ?_
      refine sr_pass (e := 118) rfl rfl (by rw [hg293]; rfl) (by decide) ?_
      refine sr_pass_undef (e := 128) rfl rfl (by decide) ?_
      refine sr_pass_undef (e := 128) rfl rfl (by decide) ?_
      refine sr_pass (e := 118) rfl rfl (by rw [hg293]; rfl) (by decide) ?_
      refine sr_ev (v := .bool false) (ev_pick_f rfl hg293 rfl) (by decide) ?_
      exact sr_weaken (l' := [(132, .bool false)]) (.cons rfl (.nil _)) (K294 false _ ⟨by first | (rw [hg293]; rfl) | rfl, rfl⟩)
theorem law39_LoginSingle_L1_ok {w0 : World} (hg : Gs w0) {ρA : Tags} (hbd : ∀ b, ρA b ≠ 0 → b < w0.heap.size) (hz : Gz (flat1 ρA)) : ∀ (n : Nat), ∀ {r : Bool} {l_0 : List law39_Op} {now_1 : Int} {oa_5 : login_Logins} {s_6 : Str} {i_8 : Int} {vl_0 : Value} {ga_5 : Nat}, law39_LoginSingle_L1 n l_0 now_1 oa_5 s_6 i_8 = some r → ∀ {ρ : Tags} {w : World}, (Fr (flat1 ρA) w0 ρ w) → (SlR law39_Op.c (Wb ρ) w vl_0 l_0) → (login_Logins.O (fun p => 100 + p) ρ w ga_5 oa_5) → KE Tryz.prog 3 (Ret (fun v w' => v = .bool r ∧ Below w0.heap.size w0 w')) 136 [.code (sub (bodyOf Tryz.f3) [2, 2, 2, 2, 2, 2, 1, 2, 2, 1]), .inLoop (sub (bodyOf Tryz.f3) [2, 2, 2, 2, 2, 2, 1, 2, 2, 1]), .inBlock 0, .code (sub (bodyOf Tryz.f3) [2, 2, 2, 2, 2, 2, 2])] [(0, vl_0), (1, .int .i64 now_1), (5, .pointer (some ⟨ga_5, 0, none⟩)), (6, str s_6), (8, .int .i64 i_8)] w := by
 intro n
 induction n with
 | zero => intro r l_0 now_1 oa_5 s_6 i_8 vl_0 ga_5 hS; cases hS
 | succ n ih =>
  have hr0 : ∀ {r : Bool} {l_0 : List law39_Op} {now_1 : Int} {oa_5 : login_Logins} {s_6 : Str} {i_8 : Int} {vl_0 : Value} {ga_5 : Nat}, law39_LoginSingle_L1 n l_0 now_1 oa_5 s_6 i_8 = some r → ∀ {ρ : Tags} {w : World}, (Fr (flat1 ρA) w0 ρ w) → (SlR law39_Op.c (Wb ρ) w vl_0 l_0) → (login_Logins.O (fun p => 100 + p) ρ w ga_5 oa_5) → KE Tryz.prog 3 (Ret (fun v w' => v = .bool r ∧ Below w0.heap.size w0 w')) 136 [.inLoop (sub (bodyOf Tryz.f3) [2, 2, 2, 2, 2, 2, 1, 2, 2, 1]), .inBlock 0, .code (sub (bodyOf Tryz.f3) [2, 2, 2, 2, 2, 2, 2])] [(0, vl_0), (1, .int .i64 now_1), (5, .pointer (some ⟨ga_5, 0, none⟩)), (6, str s_6), (8, .int .i64 i_8)] w := fun {r} {l_0} {now_1} {oa_5} {s_6} {i_8} {vl_0} {ga_5} hS {ρ} {w} hb hl_0 hoa_5 => ke_inLoop (ih hS hb hl_0 hoa_5)
  clear ih
  intro r l_0 now_1 oa_5 s_6 i_8 vl_0 ga_5 hS ρ w hb hl_0 hoa_5
  unfold law39_LoginSingle_L1 at hS
  obtain ⟨v157, v159, v161, v163, hB165, hP158, h160, h162, h164⟩ := hoa_5
  replace hB165 : Blk ρ 100 w ga_5 (.cells #[v157, v159, v161, v163] 69 (0, 0)) := hB165
  replace hP158 : PtrO secret_Locks.O (fun q => 100 + (1 + q)) ρ w v157 oa_5.locks := hP158
  replace h160 : MapT str login_credentials.c true ρ 104 w v159 oa_5.users := h160
  replace h162 : MapT str (intC .i64) false ρ 105 w v161 oa_5.counters := h162
  replace h164 : MapT str login_attempt.c true ρ 106 w v163 oa_5.attempts := h164
  refine ke_seq ?_
  refine ke_seq ?_
  refine ke_region ?_
  refine sr_ev (v := .int .i64 i_8) (ev_move rfl) (by decide) ?_
  refine sr_ev (v := vl_0) (ev_move rfl) (by decide) ?_
  refine sr_ev (v := .int .i64 (l_0.length : Int)) (ev_sllenW Tryz.underlying22 rfl hl_0.asSl) (by decide) ?_
  refine sr_ev (v := .bool (decide (i_8 < (l_0.length : Int)))) (ev_lt rfl rfl) (by decide) ?_
  refine sr_end (l' := [(0, vl_0), (1, .int .i64 now_1), (5, .pointer (some ⟨ga_5, 0, none⟩)), (6, str s_6), (8, .int .i64 i_8), (61, .bool (decide (i_8 < (l_0.length : Int))))]) (.cons rfl (.cons rfl (.cons rfl (.cons rfl (.cons rfl (.cons rfl (.nil _))))))) ?_
  refine ke_cond (t := decide (i_8 < (l_0.length : Int))) rfl (fun hc166 => ?_) (fun hc166 => ?_)
  ·replace hS := ite_true' hS hc166
   refine ke_skip ?_
   refine ke_seq ?_
   refine ke_block ?_
   refine ke_seq ?_
   refine ke_region ?_
   refine sr_ev (v := vl_0) (ev_move rfl) (by decide) ?_
   refine sr_ev (v := .int .i64 i_8) (ev_move rfl) (by decide) ?_
   obtain ⟨y167, hy168, hS⟩ := bind_some' hS
   obtain ⟨b169, o170, cs172, hq173, he171⟩ := ((SlT.of_sl (i := 0) hl_0)).elem (P := Tryz.prog) Tryz.underlying22 Tryz.info33 rfl hy168
   obtain rfl : cs172 = [.int .i64 y167.Kind, str y167.ID, str y167.User, str y167.Word, str y167.Code, str y167.S, .int .i64 y167.Level, .int .i64 y167.Rounds, .int .i64 y167.Now] := he171.rd
   refine sr_ev (v := .pointer (some ⟨b169, o170, none⟩)) (hq173 w rfl rfl) (by decide) ?_
   refine sr_ev (v := .pointer (some ⟨b169, o170 + 0, none⟩)) (ev_fieldAddr (i := 0) Tryz.underlying33 rfl Tryz.info3 rfl rfl) (by decide) ?_
   refine sr_ev (v := .int .i64 y167.Kind) (ev_load Tryz.isAgg3 rfl (he171.cell 0 _ rfl)) (by decide) ?_
   refine sr_ev (v := .bool (y167.Kind != 0)) (ev_ne rfl rfl) (by decide) ?_
   refine sr_ev (v := .bool (y167.Kind != 0)) (ev_move rfl) (by decide) ?_
   obtain ⟨z176, hz178, hS⟩ := bind_some' hS
   refine sr_join (m := 7) (C := fun (z : Bool) w1 => z176 = z ∧ ∃ ρ1, Tr ρ w (fun _ => false) ρ1 w1) (l' := fun z => [(0, vl_0), (1, .int .i64 now_1), (5, .pointer (some ⟨ga_5, 0, none⟩)), (6, str s_6), (8, .int .i64 i_8), (77, .bool z)]) ?_ ?_
   ·rintro _ w179 ⟨rfl, ρ180, hj177⟩
    replace hl_0 := hl_0.mv hj177.rd
    replace hB165 := hB165.mv (hj177.mv (i := 100) rfl)
    replace hP158 := PtrO.mv hP158 secret_Locks.objK (fun p hp => hj177.mv (i := 100 + (1 + p)) (by rcases p with _ | _ | _ | p <;> first | rfl | omega)) (fun p hp => by show 100 + (1 + p) ≠ 0; omega)
    replace h160 := h160.mv (hj177.mv (i := 104) rfl)
    replace h162 := h162.mv (hj177.mv (i := 105) rfl)
    replace h164 := h164.mv (hj177.mv (i := 106) rfl)
    replace hb := hb.trans hj177
    refine sr_end (l' := [(0, vl_0), (1, .int .i64 now_1), (5, .pointer (some ⟨ga_5, 0, none⟩)), (6, str s_6), (8, .int .i64 i_8), (77, .bool z176)]) (.cons rfl (.cons rfl (.cons rfl (.cons rfl (.cons rfl (.cons rfl (.nil _))))))) ?_
    refine ke_cond (t := z176) rfl (fun hc189 => ?_) (fun hc189 => ?_)
    ·replace hS := ite_true' hS hc189
     refine ke_region ?_
     refine sr_ev (v := .pointer (some ⟨ga_5, 0, none⟩)) (ev_move rfl) (by decide) ?_
     refine sr_ev (v := vl_0) (ev_move rfl) (by decide) ?_
     refine sr_ev (v := .int .i64 i_8) (ev_move rfl) (by decide) ?_
     obtain ⟨y190, hy191, hS⟩ := bind_some' hS
     obtain ⟨b192, o193, cs195, hq196, he194⟩ := ((SlT.of_sl (i := 0) hl_0)).elem (P := Tryz.prog) Tryz.underlying22 Tryz.info33 rfl hy191
     obtain rfl : cs195 = [.int .i64 y190.Kind, str y190.ID, str y190.User, str y190.Word, str y190.Code, str y190.S, .int .i64 y190.Level, .int .i64 y190.Rounds, .int .i64 y190.Now] := he194.rd
     refine sr_ev (v := .pointer (some ⟨b192, o193, none⟩)) (hq196 w179 rfl rfl) (by decide) ?_
     refine sr_ev (v := .agg #[.int .i64 y190.Kind, str y190.ID, str y190.User, str y190.Word, str y190.Code, str y190.S, .int .i64 y190.Level, .int .i64 y190.Rounds, .int .i64 y190.Now]) (ev_loads (cs := [.int .i64 y190.Kind, str y190.ID, str y190.User, str y190.Word, str y190.Code, str y190.S, .int .i64 y190.Level, .int .i64 y190.Rounds, .int .i64 y190.Now]) Tryz.isAgg33 Tryz.sizeOf33 rfl he194.cell) (by decide) ?_
     obtain ⟨y197, hy198, hS⟩ := bind_some' hS
     refine sr_call (vs := [.pointer (some ⟨ga_5, 0, none⟩), .agg #[.int .i64 y190.Kind, str y190.ID, str y190.User, str y190.Word, str y190.Code, str y190.S, .int .i64 y190.Level, .int .i64 y190.Rounds, .int .i64 y190.Now]]) rfl Tryz.call16 rfl (law39_play_ok _ (hg.fr hz hb) (ρA := ρ180) hb.bd (hz.fr hg hb) (o := 100) (by decide) (⟨_, _, _, _, hB165, hP158, h160, h162, h164⟩ : login_Logins.O (fun p => 100 + p) ρ180 w179 ga_5 oa_5) hy198) (by decide) ?_
     rintro _ w199 ⟨ρ211, rfl, ⟨v202, v204, v206, v208, hB210, hP203, h205, h207, h209⟩, htr201⟩
     replace hl_0 := hl_0.mv htr201.rd
     replace hb := hb.trans htr201
     replace hB210 : Blk ρ211 100 w199 ga_5 (.cells #[v202, v204, v206, v208] 69 (0, 0)) := hB210
     replace hP203 : PtrO secret_Locks.O (fun q => 100 + (1 + q)) ρ211 w199 v202 y197.locks := hP203
     replace h205 : MapT str login_credentials.c true ρ211 104 w199 v204 y197.users := h205
     replace h207 : MapT str (intC .i64) false ρ211 105 w199 v206 y197.counters := h207
     replace h209 : MapT str login_attempt.c true ρ211 106 w199 v208 y197.attempts := h209
     refine sr_end (l' := [(0, vl_0), (1, .int .i64 now_1), (5, .pointer (some ⟨ga_5, 0, none⟩)), (6, str s_6), (8, .int .i64 i_8)]) (.cons rfl (.cons rfl (.cons rfl (.cons rfl (.cons rfl (.nil _)))))) ?_
     have hK := law39_LoginSingle_B2_ok hg hbd hz _ hr0 hS hb hl_0 ⟨_, _, _, _, hB210, hP203, h205, h207, h209⟩
     exact ke_weaken (l' := [(0, vl_0), (1, .int .i64 now_1), (5, .pointer (some ⟨ga_5, 0, none⟩)), (6, str s_6), (8, .int .i64 i_8)]) (.cons rfl (.cons rfl (.cons rfl (.cons rfl (.cons rfl (.nil _)))))) hK
    ·replace hS := ite_false' hS hc189
     refine ke_skip ?_
     have hK := law39_LoginSingle_B2_ok hg hbd hz _ hr0 hS hb hl_0 ⟨_, _, _, _, hB165, hP158, h160, h162, h164⟩
     exact ke_weaken (l' := [(0, vl_0), (1, .int .i64 now_1), (5, .pointer (some ⟨ga_5, 0, none⟩)), (6, str s_6), (8, .int .i64 i_8)]) (.cons rfl (.cons rfl (.cons rfl (.cons rfl (.cons rfl (.nil _)))))) hK
   ·intro K175
    clear hS
    have hj177 : Tr ρ w (fun _ => false) ρ w := (Tr.refl hb.bd).weak (fun _ _ => rfl) rfl rfl
    rcases Bool.eq_false_or_eq_true (y167.Kind != 0) with hg174 | hg174
    ·have hS := ite_true' hz178 hg174
     refine sr_pass (e := 70) rfl rfl (by rw [hg174]; rfl) (by decide) ?_
     refine sr_pass (e := 70) rfl rfl (by rw [hg174]; rfl) (by decide) ?_
     refine sr_pass (e := 70) rfl rfl (by rw [hg174]; rfl) (by decide) ?_
     refine sr_pass (e := 70) rfl rfl (by rw [hg174]; rfl) (by decide) ?_
     refine sr_pass (e := 70) rfl rfl (by rw [hg174]; rfl) (by decide) ?_
     refine sr_pass (e := 70) rfl rfl (by rw [hg174]; rfl) (by decide) ?_
     refine sr_ev (v := .bool true) (ev_pick_t rfl hg174 rfl) (by decide) ?_
     exact sr_weaken (l' := [(0, vl_0), (1, .int .i64 now_1), (5, .pointer (some ⟨ga_5, 0, none⟩)), (6, str s_6), (8, .int .i64 i_8), (77, .bool true)]) (.cons rfl (.cons rfl (.cons rfl (.cons rfl (.cons rfl (.cons rfl (.nil _))))))) (K175 true _ ⟨(Option.some.inj hS).symm, _, hj177⟩)
    ·have hS := ite_false' hz178 hg174
     refine sr_evg (b := false) (e := 70) rfl rfl hg174 (v := vl_0) (ev_move rfl) (by decide) ?_
     refine sr_evg (b := false) (e := 70) rfl rfl hg174 (v := .int .i64 i_8) (ev_move rfl) (by decide) ?_
     obtain ⟨y182, hy183, hS⟩ := bind_some' hS
     obtain ⟨b184, o185, cs187, hq188, he186⟩ := ((SlT.of_sl (i := 0) hl_0)).elem (P := Tryz.prog) Tryz.underlying22 Tryz.info33 rfl hy183
     obtain rfl : cs187 = [.int .i64 y182.Kind, str y182.ID, str y182.User, str y182.Word, str y182.Code, str y182.S, .int .i64 y182.Level, .int .i64 y182.Rounds, .int .i64 y182.Now] := he186.rd
     refine sr_evg (b := false) (e := 70) rfl rfl hg174 (v := .pointer (some ⟨b184, o185, none⟩)) (hq188 w rfl rfl) (by decide) ?_
     refine sr_evg (b := false) (e := 70) rfl rfl hg174 (v := .pointer (some ⟨b184, o185 + 2, none⟩)) (ev_fieldAddr (i := 2) Tryz.underlying33 rfl Tryz.info9 rfl rfl) (by decide) ?_
     refine sr_evg (b := false) (e := 70) rfl rfl hg174 (v := str y182.User) (ev_load Tryz.isAgg9 rfl (he186.cell 2 _ rfl)) (by decide) ?_
     refine sr_evg (b := false) (e := 70) rfl rfl hg174 (v := .bool (!(y182.User == ([97, 110, 110])))) (ev_sne rfl rfl) (by decide) ?_
     refine sr_ev (v := .bool (!(y182.User == ([97, 110, 110])))) (ev_pick_f rfl hg174 rfl) (by decide) ?_
     exact sr_weaken (l' := [(0, vl_0), (1, .int .i64 now_1), (5, .pointer (some ⟨ga_5, 0, none⟩)), (6, str s_6), (8, .int .i64 i_8), (77, .bool (!(y182.User == ([97, 110, 110]))))]) (.cons rfl (.cons rfl (.cons rfl (.cons rfl (.cons rfl (.cons rfl (.nil _))))))) (K175 (!(y182.User == ([97, 110, 110]))) _ ⟨(Option.some.inj hS).symm, _, hj177⟩)
  ·replace hS := ite_false' hS hc166
   refine ke_exit (k' := _) rfl ?_
   refine ke_seq ?_
   refine ke_region ?_
   refine sr_ev (v := .bool false) (ev_assign rfl) (by decide) ?_
   refine sr_end (l' := [(1, .int .i64 now_1), (5, .pointer (some ⟨ga_5, 0, none⟩)), (6, str s_6), (9, .bool false)]) (.cons rfl (.cons rfl (.cons rfl (.cons rfl (.nil _))))) ?_
   refine ke_seq ?_
   refine ke_seq ?_
   refine ke_region ?_
   refine sr_ev (v := .int .i64 (-2)) (ev_assign rfl) (by decide) ?_
   refine sr_end (l' := [(1, .int .i64 now_1), (5, .pointer (some ⟨ga_5, 0, none⟩)), (6, str s_6), (9, .bool false), (10, .int .i64 (-2))]) (.cons rfl (.cons rfl (.cons rfl (.cons rfl (.cons rfl (.nil _)))))) ?_
   refine ke_block ?_
   have hK := law39_LoginSingle_L3_ok hg hbd hz _ hr0 _ hS hb ⟨_, _, _, _, hB165, hP158, h160, h162, h164⟩
   exact ke_weaken (l' := [(1, .int .i64 now_1), (5, .pointer (some ⟨ga_5, 0, none⟩)), (6, str s_6), (9, .bool false), (10, .int .i64 (-2))]) (.cons rfl (.cons rfl (.cons rfl (.cons rfl (.cons rfl (.nil _)))))) (ke_loop hK)
theorem law39_LoginSingle_ok (w0 : World) (hg : Gs w0) {ρA : Tags} (hbd : ∀ b, ρA b ≠ 0 → b < w0.heap.size) (hz : Gz ρA) {l_0 : List law39_Op} {now_1 : Int} {v1 : Value} {r : Bool} (h2 : SlR law39_Op.c (Wb ρA) w0 v1 l_0) (hS : law39_LoginSingle l_0 now_1 = some r) :
  Calls Tryz.prog 3 #[v1, .int .i64 now_1] w0 (Ret (fun v w' => v = .bool r ∧ Below w0.heap.size w0 w')) := by
 unfold law39_LoginSingle at hS
 have hb := flat1_fr (ρ := ρA) (w := w0) hbd
 have hz := hz.flat1
 replace h2 := SlR.mv h2 flat1_rd
 refine calls_of_ke Tryz.func3 rfl (n := 136) rfl rfl (l := [(0, v1), (1, .int .i64 now_1)]) rfl ?_
 refine ke_seq ?_
 refine ke_region ?_
 refine sr_ev (v := .bool false) (ev_assign rfl) (by decide) ?_
 refine sr_end (l' := [(0, v1), (1, .int .i64 now_1)]) (.cons rfl (.cons rfl (.nil _))) ?_
 refine ke_seq ?_
 refine ke_seq ?_
 refine ke_region ?_
 refine sr_ev (v := v1) (ev_move rfl) (by decide) ?_
 obtain ⟨y3, hy4, hS⟩ := bind_some' hS
 refine sr_call (vs := [v1]) rfl Tryz.call9 rfl (law39_few_ok _ (hg.fr hz hb) h2.asSl hy4) (by decide) ?_
 rintro _ w5 ⟨rfl, hbw6⟩
 have htr7 := Tr.of_below hbw6 hb.bd
 replace h2 := h2.mv htr7.rd
 replace hb := hb.trans htr7
 refine sr_ev (v := .bool (!y3)) (ev_not rfl) (by decide) ?_
 refine sr_ev (v := .bool (!y3)) (ev_move rfl) (by decide) ?_
 refine sr_join (m := 3) (C := fun (x : Bool) w1 => x = ((!y3) || (decide (now_1 < 0))) ∧ w5 = w1) (l' := fun x => [(0, v1), (1, .int .i64 now_1), (21, .bool x)]) ?_ ?_
 ·rintro _ _ ⟨rfl, rfl⟩
  refine sr_ev (v := .bool ((!y3) || (decide (now_1 < 0)))) (ev_move rfl) (by decide) ?_
  refine sr_join (m := 3) (C := fun (x : Bool) w1 => x = (((!y3) || (decide (now_1 < 0))) || (decide (now_1 > 549755813888))) ∧ w5 = w1) (l' := fun x => [(0, v1), (1, .int .i64 now_1), (25, .bool x)]) ?_ ?_
  ·rintro _ _ ⟨rfl, rfl⟩
   refine sr_end (l' := [(0, v1), (1, .int .i64 now_1), (25, .bool (((!y3) || (decide (now_1 < 0))) || (decide (now_1 > 549755813888))))]) (.cons rfl (.cons rfl (.cons rfl (.nil _)))) ?_
   refine ke_cond (t := ((!y3) || (decide (now_1 < 0))) || (decide (now_1 > 549755813888))) rfl (fun hc24 => ?_) (fun hc24 => ?_)
   ·replace hS := ite_true' hS hc24
    refine ke_seq ?_
    refine ke_region ?_
    obtain ⟨y25, hy26, hS⟩ := bind_some' hS
    refine sr_call (vs := []) rfl Tryz.call10 rfl (law39_alive_ok _ (hg.fr hz hb) (ρA := (flat1 ρA)) hb.bd (hz.fr hg hb) hy26) (by decide) ?_
    rintro _ w27 ⟨rfl, hbw28⟩
    have htr29 := Tr.of_below hbw28 hb.bd
    replace hb := hb.trans htr29
    refine sr_ev (v := .bool y25) (ev_assign rfl) (by decide) ?_
    refine sr_end (l' := [(4, .bool y25)]) (.cons rfl (.nil _)) ?_
    cases hS
    exact ke_ret1 Tryz.func3 rfl rfl ⟨_, rfl, rfl, (hb.below (flat1_le _))⟩
   ·replace hS := ite_false' hS hc24
    refine ke_skip ?_
    refine ke_seq ?_
    refine ke_region ?_
    obtain ⟨y30, hy31, hS⟩ := bind_some' hS
    refine sr_call (vs := [.int .i64 256]) rfl Tryz.call11 rfl (law39_ann_ok _ (hg.fr hz hb) (ρA := (flat1 ρA)) hb.bd (hz.fr hg hb) (o := 100) (by decide) hy31) (by decide) ?_
    rintro v35 w32 ⟨ρ37, _, rfl, hP36, htr34⟩
    replace h2 := h2.mv htr34.rd
    replace hb := hb.trans htr34
    rcases ho39 : y30 with _ | z38
    ·replace hS := optC_none hS ho39
     obtain rfl := hP36.none_ ho39
     refine sr_ev (v := .pointer none) (ev_assign rfl) (by decide) ?_
     refine sr_end (l' := [(0, v1), (1, .int .i64 now_1), (5, .pointer none)]) (.cons rfl (.cons rfl (.cons rfl (.nil _)))) ?_
     refine ke_seq ?_
     refine ke_seq ?_
     refine ke_region ?_
     refine sr_ev (v := .pointer none) (ev_move rfl) (by decide) ?_
     refine sr_ev (v := .bool true) (ev_peqT_nil Tryz.underlying25 rfl rfl) (by decide) ?_
     refine sr_end (l' := [(0, v1), (1, .int .i64 now_1), (5, .pointer none), (29, .bool true)]) (.cons rfl (.cons rfl (.cons rfl (.cons rfl (.nil _))))) ?_
     refine ke_cond (t := true) rfl (fun _ => ?_) (fun h => by cases h)
     refine ke_seq ?_
     refine ke_region ?_
     refine sr_ev (v := .bool false) (ev_assign rfl) (by decide) ?_
     refine sr_end (l' := [(4, .bool false)]) (.cons rfl (.nil _)) ?_
     cases hS
     exact ke_ret1 Tryz.func3 rfl rfl ⟨_, rfl, rfl, (hb.below (flat1_le _))⟩
    ·replace hS := optC_some hS ho39
     obtain ⟨g40, rfl, ⟨v41, v43, v45, v47, hB49, hP42, h44, h46, h48⟩⟩ := hP36.some_ ho39
     replace hB49 : Blk ρ37 100 w32 g40 (.cells #[v41, v43, v45, v47] 69 (0, 0)) := hB49
     replace hP42 : PtrO secret_Locks.O (fun q => 100 + (1 + q)) ρ37 w32 v41 z38.locks := hP42
     replace h44 : MapT str login_credentials.c true ρ37 104 w32 v43 z38.users := h44
     replace h46 : MapT str (intC .i64) false ρ37 105 w32 v45 z38.counters := h46
     replace h48 : MapT str login_attempt.c true ρ37 106 w32 v47 z38.attempts := h48
     refine sr_ev (v := .pointer (some ⟨g40, 0, none⟩)) (ev_assign rfl) (by decide) ?_
     refine sr_end (l' := [(0, v1), (1, .int .i64 now_1), (5, .pointer (some ⟨g40, 0, none⟩))]) (.cons rfl (.cons rfl (.cons rfl (.nil _)))) ?_
     refine ke_seq ?_
     refine ke_seq ?_
     refine ke_region ?_
     refine sr_ev (v := .pointer (some ⟨g40, 0, none⟩)) (ev_move rfl) (by decide) ?_
     refine sr_ev (v := .bool false) (ev_peqT_some Tryz.underlying25 rfl rfl) (by decide) ?_
     refine sr_end (l' := [(0, v1), (1, .int .i64 now_1), (5, .pointer (some ⟨g40, 0, none⟩)), (29, .bool false)]) (.cons rfl (.cons rfl (.cons rfl (.cons rfl (.nil _))))) ?_
     refine ke_cond (t := false) rfl (fun h => by cases h) (fun _ => ?_)
     refine ke_skip ?_
     refine ke_seq ?_
     refine ke_region ?_
     refine sr_ev (v := .int .i64 now_1) (ev_move rfl) (by decide) ?_
     obtain ⟨y50, hy51, hS⟩ := bind_some' hS
     refine sr_call (vs := [.int .i64 now_1]) rfl Tryz.call13 rfl (otp_Counter_ok _ (hg.fr hz hb) hy51) (by decide) ?_
     rintro _ w52 ⟨rfl, hbw53⟩
     have htr54 := Tr.of_below hbw53 hb.bd
     replace h2 := h2.mv htr54.rd
     replace hB49 := hB49.mv (htr54.mv (i := 100) rfl)
     replace hP42 := PtrO.mv hP42 secret_Locks.objK (fun p hp => htr54.mv (i := 100 + (1 + p)) (by rcases p with _ | _ | _ | p <;> first | rfl | omega)) (fun p hp => by show 100 + (1 + p) ≠ 0; omega)
     replace h44 := h44.mv (htr54.mv (i := 104) rfl)
     replace h46 := h46.mv (htr54.mv (i := 105) rfl)
     replace h48 := h48.mv (htr54.mv (i := 106) rfl)
     replace hb := hb.trans htr54
     obtain ⟨y55, hy56, hS⟩ := bind_some' hS
     refine sr_call (vs := [str ([115, 101, 101, 100]), .int .i64 y50]) rfl Tryz.call12 rfl (otp_Code_ok _ (hg.fr hz hb) hy56) (by decide) ?_
     rintro _ w57 ⟨rfl, hbw58⟩
     have htr59 := Tr.of_below hbw58 hb.bd
     replace h2 := h2.mv htr59.rd
     replace hB49 := hB49.mv (htr59.mv (i := 100) rfl)
     replace hP42 := PtrO.mv hP42 secret_Locks.objK (fun p hp => htr59.mv (i := 100 + (1 + p)) (by rcases p with _ | _ | _ | p <;> first | rfl | omega)) (fun p hp => by show 100 + (1 + p) ≠ 0; omega)
     replace h44 := h44.mv (htr59.mv (i := 104) rfl)
     replace h46 := h46.mv (htr59.mv (i := 105) rfl)
     replace h48 := h48.mv (htr59.mv (i := 106) rfl)
     replace hb := hb.trans htr59
     refine sr_ev (v := .tuple #[str y55.1, .int .i64 y55.2]) (ev_move rfl) (by decide) ?_
     refine sr_ev (v := str y55.1) (ev_extract rfl rfl) (by decide) ?_
     refine sr_ev (v := .int .i64 y55.2) (ev_extract rfl rfl) (by decide) ?_
     refine sr_ev (v := str y55.1) (ev_assign rfl) (by decide) ?_
     refine sr_ev (v := .int .i64 y55.2) (ev_assign rfl) (by decide) ?_
     refine sr_end (l' := [(0, v1), (1, .int .i64 now_1), (5, .pointer (some ⟨g40, 0, none⟩)), (6, str y55.1), (7, .int .i64 y55.2)]) (.cons rfl (.cons rfl (.cons rfl (.cons rfl (.cons rfl (.nil _)))))) ?_
     refine ke_seq ?_
     refine ke_seq ?_
     refine ke_region ?_
     refine sr_ev (v := .int .i64 y55.2) (ev_move rfl) (by decide) ?_
     refine sr_ev (v := .bool (y55.2 != 0)) (ev_ne rfl rfl) (by decide) ?_
     refine sr_ev (v := .bool (y55.2 != 0)) (ev_move rfl) (by decide) ?_
     obtain ⟨z62, hz64, hS⟩ := bind_some' hS
     refine sr_join (m := 5) (C := fun (z : Bool × login_Logins) w1 => z62 = z ∧ ∃ ρ1, login_Logins.O (fun p => 100 + p) ρ1 w1 g40 z.2 ∧ Tr ρ37 w57 (fun t => ([100, 101, 102, 103, 104, 105, 106] : List Nat).contains t) ρ1 w1) (l' := fun z => [(0, v1), (1, .int .i64 now_1), (5, .pointer (some ⟨g40, 0, none⟩)), (6, str y55.1), (43, .bool z.1)]) ?_ ?_
     ·rintro _ w65 ⟨rfl, ρ66, ⟨v83, v85, v87, v89, hB91, hP84, h86, h88, h90⟩, hj63⟩
      replace h2 := h2.mv hj63.rd
      replace hb := hb.trans hj63
      replace hB91 : Blk ρ66 100 w65 g40 (.cells #[v83, v85, v87, v89] 69 (0, 0)) := hB91
      replace hP84 : PtrO secret_Locks.O (fun q => 100 + (1 + q)) ρ66 w65 v83 z62.2.locks := hP84
      replace h86 : MapT str login_credentials.c true ρ66 104 w65 v85 z62.2.users := h86
      replace h88 : MapT str (intC .i64) false ρ66 105 w65 v87 z62.2.counters := h88
      replace h90 : MapT str login_attempt.c true ρ66 106 w65 v89 z62.2.attempts := h90
      refine sr_ev (v := .bool z62.1) (ev_move rfl) (by decide) ?_
      obtain ⟨z94, hz96, hS⟩ := bind_some' hS
      refine sr_join (m := 6) (C := fun (z : Bool × login_Logins) w1 => z94 = z ∧ ∃ ρ1, login_Logins.O (fun p => 100 + p) ρ1 w1 g40 z.2 ∧ Tr ρ66 w65 (fun t => ([100, 101, 102, 103, 104, 105, 106] : List Nat).contains t) ρ1 w1) (l' := fun z => [(0, v1), (1, .int .i64 now_1), (5, .pointer (some ⟨g40, 0, none⟩)), (6, str y55.1), (50, .bool z.1)]) ?_ ?_
      ·rintro _ w97 ⟨rfl, ρ98, ⟨v115, v117, v119, v121, hB123, hP116, h118, h120, h122⟩, hj95⟩
       replace h2 := h2.mv hj95.rd
       replace hb := hb.trans hj95
       replace hB123 : Blk ρ98 100 w97 g40 (.cells #[v115, v117, v119, v121] 69 (0, 0)) := hB123
       replace hP116 : PtrO secret_Locks.O (fun q => 100 + (1 + q)) ρ98 w97 v115 z94.2.locks := hP116
       replace h118 : MapT str login_credentials.c true ρ98 104 w97 v117 z94.2.users := h118
       replace h120 : MapT str (intC .i64) false ρ98 105 w97 v119 z94.2.counters := h120
       replace h122 : MapT str login_attempt.c true ρ98 106 w97 v121 z94.2.attempts := h122
       refine sr_ev (v := .bool z94.1) (ev_move rfl) (by decide) ?_
       obtain ⟨z126, hz128, hS⟩ := bind_some' hS
       refine sr_join (m := 6) (C := fun (z : Bool × login_Logins) w1 => z126 = z ∧ ∃ ρ1, login_Logins.O (fun p => 100 + p) ρ1 w1 g40 z.2 ∧ Tr ρ98 w97 (fun t => ([100, 101, 102, 103, 104, 105, 106] : List Nat).contains t) ρ1 w1) (l' := fun z => [(0, v1), (1, .int .i64 now_1), (5, .pointer (some ⟨g40, 0, none⟩)), (6, str y55.1), (57, .bool z.1)]) ?_ ?_
       ·rintro _ w129 ⟨rfl, ρ130, ⟨v147, v149, v151, v153, hB155, hP148, h150, h152, h154⟩, hj127⟩
        replace h2 := h2.mv hj127.rd
        replace hb := hb.trans hj127
        replace hB155 : Blk ρ130 100 w129 g40 (.cells #[v147, v149, v151, v153] 69 (0, 0)) := hB155
        replace hP148 : PtrO secret_Locks.O (fun q => 100 + (1 + q)) ρ130 w129 v147 z126.2.locks := hP148
        replace h150 : MapT str login_credentials.c true ρ130 104 w129 v149 z126.2.users := h150
        replace h152 : MapT str (intC .i64) false ρ130 105 w129 v151 z126.2.counters := h152
        replace h154 : MapT str login_attempt.c true ρ130 106 w129 v153 z126.2.attempts := h154
        refine sr_end (l' := [(0, v1), (1, .int .i64 now_1), (5, .pointer (some ⟨g40, 0, none⟩)), (6, str y55.1), (57, .bool z126.1)]) (.cons rfl (.cons rfl (.cons rfl (.cons rfl (.cons rfl (.nil _)))))) ?_
        refine ke_cond (t := z126.1) rfl (fun hc156 => ?_) (fun hc156 => ?_)
        ·replace hS := ite_true' hS hc156
         refine ke_seq ?_
         refine ke_region ?_
         refine sr_ev (v := .bool false) (ev_assign rfl) (by decide) ?_
         refine sr_end (l' := [(4, .bool false)]) (.cons rfl (.nil _)) ?_
         cases hS
         exact ke_ret1 Tryz.func3 rfl rfl ⟨_, rfl, rfl, (hb.below (flat1_le _))⟩
        ·replace hS := ite_false' hS hc156
         refine ke_skip ?_
         refine ke_seq ?_
         refine ke_seq ?_
         refine ke_region ?_
         refine sr_ev (v := .int .i64 0) (ev_assign rfl) (by decide) ?_
         refine sr_end (l' := [(0, v1), (1, .int .i64 now_1), (5, .pointer (some ⟨g40, 0, none⟩)), (6, str y55.1), (8, .int .i64 0)]) (.cons rfl (.cons rfl (.cons rfl (.cons rfl (.cons rfl (.nil _)))))) ?_
         refine ke_block ?_
         have hK := law39_LoginSingle_L1_ok hg hbd hz _ hS hb h2 ⟨_, _, _, _, hB155, hP148, h150, h152, h154⟩
         exact ke_weaken (l' := [(0, v1), (1, .int .i64 now_1), (5, .pointer (some ⟨g40, 0, none⟩)), (6, str y55.1), (8, .int .i64 0)]) (.cons rfl (.cons rfl (.cons rfl (.cons rfl (.cons rfl (.nil _)))))) (ke_loop hK)
       ·intro K125
        clear hS
        have hj127 : Tr ρ98 w97 (fun t => ([100, 101, 102, 103, 104, 105, 106] : List Nat).contains t) ρ98 w97 := (Tr.refl hb.bd).weak (fun _ _ => rfl) rfl rfl
        rcases Bool.eq_false_or_eq_true z94.1 with hg124 | hg124
        ·have hS := ite_true' hz128 hg124
         refine sr_pass (e := 51) rfl rfl (by rw [hg124]; rfl) (by decide) ?_
         refine sr_pass (e := 51) rfl rfl (by rw [hg124]; rfl) (by decide) ?_
         refine sr_pass (e := 51) rfl rfl (by rw [hg124]; rfl) (by decide) ?_
         refine sr_pass (e := 51) rfl rfl (by rw [hg124]; rfl) (by decide) ?_
         refine sr_pass (e := 51) rfl rfl (by rw [hg124]; rfl) (by decide) ?_
         refine sr_ev (v := .bool true) (ev_pick_t rfl hg124 rfl) (by decide) ?_
         exact sr_weaken (l' := [(0, v1), (1, .int .i64 now_1), (5, .pointer (some ⟨g40, 0, none⟩)), (6, str y55.1), (57, .bool true)]) (.cons rfl (.cons rfl (.cons rfl (.cons rfl (.cons rfl (.nil _)))))) (K125 (true, z94.2) _ ⟨(Option.some.inj hS).symm, _, ⟨_, _, _, _, hB123, hP116, h118, h120, h122⟩, hj127⟩)
        ·have hS := ite_false' hz128 hg124
         refine sr_evg (b := false) (e := 51) rfl rfl hg124 (v := .pointer (some ⟨g40, 0, none⟩)) (ev_move rfl) (by decide) ?_
         refine sr_evg (b := false) (e := 51) rfl rfl hg124 (v := str y55.1) (ev_move rfl) (by decide) ?_
         refine sr_evg (b := false) (e := 51) rfl rfl hg124 (v := .int .i64 now_1) (ev_move rfl) (by decide) ?_
         obtain ⟨y132, hy133, hS⟩ := bind_some' hS
         refine sr_callg (b := false) (e := 51) rfl rfl hg124 (vs := [.pointer (some ⟨g40, 0, none⟩), str ([102, 105, 114, 115, 116]), str y55.1, .int .i64 now_1]) rfl Tryz.call15 rfl (login_Logins_Code_ok _ (hg.fr hz hb) (ρA := ρ98) hb.bd (hz.fr hg hb) (o := 100) (by decide) (⟨_, _, _, _, hB123, hP116, h118, h120, h122⟩ : login_Logins.O (fun p => 100 + p) ρ98 w97 g40 z94.2) hy133) (by decide) ?_
         rintro _ w134 ⟨ρ146, rfl, ⟨v137, v139, v141, v143, hB145, hP138, h140, h142, h144⟩, htr136⟩
         replace h2 := h2.mv htr136.rd
         replace hb := hb.trans htr136
         replace hj127 := (hj127.trans htr136).weak (J' := (fun t => ([100, 101, 102, 103, 104, 105, 106] : List Nat).contains t)) (by intro t h; simp [rng] at h ⊢ <;> omega) rfl rfl
         replace hB145 : Blk ρ146 100 w134 g40 (.cells #[v137, v139, v141, v143] 69 (0, 0)) := hB145
         replace hP138 : PtrO secret_Locks.O (fun q => 100 + (1 + q)) ρ146 w134 v137 y132.2.locks := hP138
         replace h140 : MapT str login_credentials.c true ρ146 104 w134 v139 y132.2.users := h140
         replace h142 : MapT str (intC .i64) false ρ146 105 w134 v141 y132.2.counters := h142
         replace h144 : MapT str login_attempt.c true ρ146 106 w134 v143 y132.2.attempts := h144
         refine sr_evg (b := false) (e := 51) rfl rfl hg124 (v := .bool (y132.1 != 12)) (ev_ne rfl rfl) (by decide) ?_
         refine sr_ev (v := .bool (y132.1 != 12)) (ev_pick_f rfl hg124 rfl) (by decide) ?_
         exact sr_weaken (l' := [(0, v1), (1, .int .i64 now_1), (5, .pointer (some ⟨g40, 0, none⟩)), (6, str y55.1), (57, .bool (y132.1 != 12))]) (.cons rfl (.cons rfl (.cons rfl (.cons rfl (.cons rfl (.nil _)))))) (K125 (y132.1 != 12, y132.2) _ ⟨(Option.some.inj hS).symm, _, ⟨_, _, _, _, hB145, hP138, h140, h142, h144⟩, hj127⟩)
      ·intro K93
       clear hS
       have hj95 : Tr ρ66 w65 (fun t => ([100, 101, 102, 103, 104, 105, 106] : List Nat).contains t) ρ66 w65 := (Tr.refl hb.bd).weak (fun _ _ => rfl) rfl rfl
       rcases Bool.eq_false_or_eq_true z62.1 with hg92 | hg92
       ·have hS := ite_true' hz96 hg92
        refine sr_pass (e := 44) rfl rfl (by rw [hg92]; rfl) (by decide) ?_
        refine sr_pass (e := 44) rfl rfl (by rw [hg92]; rfl) (by decide) ?_
        refine sr_pass (e := 44) rfl rfl (by rw [hg92]; rfl) (by decide) ?_
        refine sr_pass (e := 44) rfl rfl (by rw [hg92]; rfl) (by decide) ?_
        refine sr_pass (e := 44) rfl rfl (by rw [hg92]; rfl) (by decide) ?_
        refine sr_ev (v := .bool true) (ev_pick_t rfl hg92 rfl) (by decide) ?_
        exact sr_weaken (l' := [(0, v1), (1, .int .i64 now_1), (5, .pointer (some ⟨g40, 0, none⟩)), (6, str y55.1), (50, .bool true)]) (.cons rfl (.cons rfl (.cons rfl (.cons rfl (.cons rfl (.nil _)))))) (K93 (true, z62.2) _ ⟨(Option.some.inj hS).symm, _, ⟨_, _, _, _, hB91, hP84, h86, h88, h90⟩, hj95⟩)
       ·have hS := ite_false' hz96 hg92
        refine sr_evg (b := false) (e := 44) rfl rfl hg92 (v := .pointer (some ⟨g40, 0, none⟩)) (ev_move rfl) (by decide) ?_
        refine sr_evg (b := false) (e := 44) rfl rfl hg92 (v := str y55.1) (ev_move rfl) (by decide) ?_
        refine sr_evg (b := false) (e := 44) rfl rfl hg92 (v := .int .i64 now_1) (ev_move rfl) (by decide) ?_
        obtain ⟨y100, hy101, hS⟩ := bind_some' hS
        refine sr_callg (b := false) (e := 44) rfl rfl hg92 (vs := [.pointer (some ⟨g40, 0, none⟩), str ([102, 105, 114, 115, 116]), str y55.1, .int .i64 now_1]) rfl Tryz.call15 rfl (login_Logins_Code_ok _ (hg.fr hz hb) (ρA := ρ66) hb.bd (hz.fr hg hb) (o := 100) (by decide) (⟨_, _, _, _, hB91, hP84, h86, h88, h90⟩ : login_Logins.O (fun p => 100 + p) ρ66 w65 g40 z62.2) hy101) (by decide) ?_
        rintro _ w102 ⟨ρ114, rfl, ⟨v105, v107, v109, v111, hB113, hP106, h108, h110, h112⟩, htr104⟩
        replace h2 := h2.mv htr104.rd
        replace hb := hb.trans htr104
        replace hj95 := (hj95.trans htr104).weak (J' := (fun t => ([100, 101, 102, 103, 104, 105, 106] : List Nat).contains t)) (by intro t h; simp [rng] at h ⊢ <;> omega) rfl rfl
        replace hB113 : Blk ρ114 100 w102 g40 (.cells #[v105, v107, v109, v111] 69 (0, 0)) := hB113
        replace hP106 : PtrO secret_Locks.O (fun q => 100 + (1 + q)) ρ114 w102 v105 y100.2.locks := hP106
        replace h108 : MapT str login_credentials.c true ρ114 104 w102 v107 y100.2.users := h108
        replace h110 : MapT str (intC .i64) false ρ114 105 w102 v109 y100.2.counters := h110
        replace h112 : MapT str login_attempt.c true ρ114 106 w102 v111 y100.2.attempts := h112
        refine sr_evg (b := false) (e := 44) rfl rfl hg92 (v := .bool (y100.1 != 0)) (ev_ne rfl rfl) (by decide) ?_
        refine sr_ev (v := .bool (y100.1 != 0)) (ev_pick_f rfl hg92 rfl) (by decide) ?_
        exact sr_weaken (l' := [(0, v1), (1, .int .i64 now_1), (5, .pointer (some ⟨g40, 0, none⟩)), (6, str y55.1), (50, .bool (y100.1 != 0))]) (.cons rfl (.cons rfl (.cons rfl (.cons rfl (.cons rfl (.nil _)))))) (K93 (y100.1 != 0, y100.2) _ ⟨(Option.some.inj hS).symm, _, ⟨_, _, _, _, hB113, hP106, h108, h110, h112⟩, hj95⟩)
     ·intro K61
      clear hS
      have hj63 : Tr ρ37 w57 (fun t => ([100, 101, 102, 103, 104, 105, 106] : List Nat).contains t) ρ37 w57 := (Tr.refl hb.bd).weak (fun _ _ => rfl) rfl rfl
      rcases Bool.eq_false_or_eq_true (y55.2 != 0) with hg60 | hg60
      ·have hS := ite_true' hz64 hg60
       refine sr_pass (e := 38) rfl rfl (by rw [hg60]; rfl) (by decide) ?_
       refine sr_pass (e := 38) rfl rfl (by rw [hg60]; rfl) (by decide) ?_
       refine sr_pass (e := 38) rfl rfl (by rw [hg60]; rfl) (by decide) ?_
       refine sr_pass (e := 38) rfl rfl (by rw [hg60]; rfl) (by decide) ?_
       refine sr_ev (v := .bool true) (ev_pick_t rfl hg60 rfl) (by decide) ?_
       exact sr_weaken (l' := [(0, v1), (1, .int .i64 now_1), (5, .pointer (some ⟨g40, 0, none⟩)), (6, str y55.1), (43, .bool true)]) (.cons rfl (.cons rfl (.cons rfl (.cons rfl (.cons rfl (.nil _)))))) (K61 (true, z38) _ ⟨(Option.some.inj hS).symm, _, ⟨_, _, _, _, hB49, hP42, h44, h46, h48⟩, hj63⟩)
      ·have hS := ite_false' hz64 hg60
       refine sr_evg (b := false) (e := 38) rfl rfl hg60 (v := .pointer (some ⟨g40, 0, none⟩)) (ev_move rfl) (by decide) ?_
       refine sr_evg (b := false) (e := 38) rfl rfl hg60 (v := .int .i64 now_1) (ev_move rfl) (by decide) ?_
       obtain ⟨y68, hy69, hS⟩ := bind_some' hS
       refine sr_callg (b := false) (e := 38) rfl rfl hg60 (vs := [.pointer (some ⟨g40, 0, none⟩), str ([102, 105, 114, 115, 116]), str ([97, 110, 110]), .int .i64 now_1]) rfl Tryz.call14 rfl (login_Logins_Begin_ok _ (hg.fr hz hb) (ρA := ρ37) hb.bd (hz.fr hg hb) (o := 100) (by decide) (⟨_, _, _, _, hB49, hP42, h44, h46, h48⟩ : login_Logins.O (fun p => 100 + p) ρ37 w57 g40 z38) hy69) (by decide) ?_
       rintro _ w70 ⟨ρ82, rfl, ⟨v73, v75, v77, v79, hB81, hP74, h76, h78, h80⟩, htr72⟩
       replace h2 := h2.mv htr72.rd
       replace hb := hb.trans htr72
       replace hj63 := (hj63.trans htr72).weak (J' := (fun t => ([100, 101, 102, 103, 104, 105, 106] : List Nat).contains t)) (by intro t h; simp [rng] at h ⊢ <;> omega) rfl rfl
       replace hB81 : Blk ρ82 100 w70 g40 (.cells #[v73, v75, v77, v79] 69 (0, 0)) := hB81
       replace hP74 : PtrO secret_Locks.O (fun q => 100 + (1 + q)) ρ82 w70 v73 y68.2.locks := hP74
       replace h76 : MapT str login_credentials.c true ρ82 104 w70 v75 y68.2.users := h76
       replace h78 : MapT str (intC .i64) false ρ82 105 w70 v77 y68.2.counters := h78
       replace h80 : MapT str login_attempt.c true ρ82 106 w70 v79 y68.2.attempts := h80
       refine sr_evg (b := false) (e := 38) rfl rfl hg60 (v := .bool (y68.1 != 0)) (ev_ne rfl rfl) (by decide) ?_
       refine sr_ev (v := .bool (y68.1 != 0)) (ev_pick_f rfl hg60 rfl) (by decide) ?_
       exact sr_weaken (l' := [(0, v1), (1, .int .i64 now_1), (5, .pointer (some ⟨g40, 0, none⟩)), (6, str y55.1), (43, .bool (y68.1 != 0))]) (.cons rfl (.cons rfl (.cons rfl (.cons rfl (.cons rfl (.nil _)))))) (K61 (y68.1 != 0, y68.2) _ ⟨(Option.some.inj hS).symm, _, ⟨_, _, _, _, hB81, hP74, h76, h78, h80⟩, hj63⟩)
  ·intro K17
   rcases Bool.eq_false_or_eq_true ((!y3) || (decide (now_1 < 0))) with hg16 | hg16
   all_goals try have hj19 : Tr (flat1 ρA) w5 (fun _ => false) (flat1 ρA) w5 := Tr.refl hb.bd
   ·refine sr_pass (e := 22) rfl rfl (by rw [hg16]; rfl) (by decide) ?_
    refine sr_pass (e := 22) rfl rfl (by rw [hg16]; rfl) (by decide) ?_
    refine sr_ev (v := .bool true) (ev_pick_t rfl hg16 rfl) (by decide) ?_
    exact sr_weaken (l' := [(0, v1), (1, .int .i64 now_1), (25, .bool true)]) (.cons rfl (.cons rfl (.cons rfl (.nil _)))) (K17 true _ ⟨by first | (rw [hg16]; rfl) | rfl, rfl⟩)
   ·refine sr_evg (b := false) (e := 22) rfl rfl hg16 (v := .int .i64 now_1) (ev_move rfl) (by decide) ?_
    refine sr_evg (b := false) (e := 22) rfl rfl hg16 (v := .bool (decide (now_1 > 549755813888))) (ev_gt rfl rfl) (by decide) ?_
    refine sr_ev (v := .bool (decide (now_1 > 549755813888))) (ev_pick_f rfl hg16 rfl) (by decide) ?_
    exact sr_weaken (l' := [(0, v1), (1, .int .i64 now_1), (25, .bool (decide (now_1 > 549755813888)))]) (.cons rfl (.cons rfl (.cons rfl (.nil _)))) (K17 (decide (now_1 > 549755813888)) _ ⟨by first | (rw [hg16]; rfl) | rfl, rfl⟩)
 ·intro K9
  rcases Bool.eq_false_or_eq_true (!y3) with hg8 | hg8
  all_goals try have hj11 : Tr (flat1 ρA) w5 (fun _ => false) (flat1 ρA) w5 := Tr.refl hb.bd
  ·refine sr_pass (e := 18) rfl rfl (by rw [hg8]; rfl) (by decide) ?_
   refine sr_pass (e := 18) rfl rfl (by rw [hg8]; rfl) (by decide) ?_
   refine sr_ev (v := .bool true) (ev_pick_t rfl hg8 rfl) (by decide) ?_
   exact sr_weaken (l' := [(0, v1), (1, .int .i64 now_1), (21, .bool true)]) (.cons rfl (.cons rfl (.cons rfl (.nil _)))) (K9 true _ ⟨by first | (rw [hg8]; rfl) | rfl, rfl⟩)
  ·refine sr_evg (b := false) (e := 18) rfl rfl hg8 (v := .int .i64 now_1) (ev_move rfl) (by decide) ?_
   refine sr_evg (b := false) (e := 18) rfl rfl hg8 (v := .bool (decide (now_1 < 0))) (ev_lt rfl rfl) (by decide) ?_
   refine sr_ev (v := .bool (decide (now_1 < 0))) (ev_pick_f rfl hg8 rfl) (by decide) ?_
   exact sr_weaken (l' := [(0, v1), (1, .int .i64 now_1), (21, .bool (decide (now_1 < 0)))]) (.cons rfl (.cons rfl (.cons rfl (.nil _)))) (K9 (decide (now_1 < 0)) _ ⟨by first | (rw [hg8]; rfl) | rfl, rfl⟩)
end YtkhodjenbganfaaGreatDoor
end Go.Proofs
