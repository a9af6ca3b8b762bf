/- Own work: a part of the proofs of this seat. -/
import Derived.Test.YtkhodjenbganfaaGreatDoorProg
import Derived.Test.YtkhodjenbganfaaGreatDoorShelf
import Derived.Test.YtkhodjenbganfaaGreatDoorKwNS
import Derived.KernelRfl
import Derived.Test.YtkhodjenbganfaaGreatDoorKwNLoginStrengthW3
set_option linter.unusedVariables false
set_option linter.unusedSimpArgs false
set_option linter.unusedSectionVars false
set_option maxHeartbeats 8000000
set_option maxRecDepth 8000
namespace Go.Proofs
namespace YtkhodjenbganfaaGreatDoor
open Go Go.KW Go.KW.S Go.RowKit
theorem law39_typed_ok (w0 : World) (hg : Gs w0) {o_0 : law39_Op} {r : Str} (hS : law39_typed o_0 = some r) :
  Calls Tryz.prog 30 #[.agg #[.int .i64 o_0.Kind, str o_0.ID, str o_0.User, str o_0.Word, str o_0.Code, str o_0.S, .int .i64 o_0.Level, .int .i64 o_0.Rounds, .int .i64 o_0.Now]] w0 (Ret (fun v w' => v = str r ∧ Below w0.heap.size w0 w')) := by
 unfold law39_typed at hS
 have hb := Below.refl w0.heap.size w0
 obtain ⟨A0, hA0, hAe⟩ : ∃ A0 : Nat → Prop, (∀ b, A0 b → b < w0.heap.size) ∧ A0 = fun _ => False := ⟨_, fun _ h => h.elim, rfl⟩
 clear hAe
 have hA := hA0
 have hi : ∀ b, A0 b → A0 b := fun _ h => h
 have hH := Hp.nil A0 w0.heap.size w0
 refine calls_of_ke Tryz.func30 rfl (n := 20) rfl rfl (l := [(0, .agg #[.int .i64 o_0.Kind, str o_0.ID, str o_0.User, str o_0.Word, str o_0.Code, str o_0.S, .int .i64 o_0.Level, .int .i64 o_0.Rounds, .int .i64 o_0.Now])]) rfl ?_
 refine ke_seq ?_
 refine ke_region ?_
 refine sr_box hH hb.size hA rfl (by decide) ?_
 intro g1 A2 w3 hH1 hst4 hbw5 hinc6 hA1 hge7
 replace hb := hb.trans (hbw5.mono hb.size)
 replace hi := fun b hb => hinc6 b (hi b hb)
 replace hH : Hp A2 w0.heap.size w3 [(g1, .cells #[.int .i64 o_0.Kind, str o_0.ID, str o_0.User, str o_0.Word, str o_0.Code, str o_0.S, .int .i64 o_0.Level, .int .i64 o_0.Rounds, .int .i64 o_0.Now] 33 (0, 0))] := hH1
 replace hA := hA1
 clear hH1 hA1
 refine sr_ev (v := str ([])) (ev_assign rfl) (by decide) ?_
 refine sr_end (l' := [(1, .pointer (some ⟨g1, 0, none⟩))]) (.cons rfl (.nil _)) ?_
 refine ke_seq ?_
 refine ke_seq ?_
 refine ke_region ?_
 refine sr_ev (v := .pointer (some ⟨g1, 6, none⟩)) (ev_fieldAddr (i := 6) Tryz.underlying33 rfl Tryz.info3 rfl rfl) (by decide) ?_
 refine sr_ev (v := .int .i64 o_0.Level) (ev_load Tryz.isAgg3 rfl (hH.cell (i := 0) rfl rfl)) (by decide) ?_
 refine sr_ev (v := .bool (o_0.Level != 0)) (ev_ne rfl rfl) (by decide) ?_
 refine sr_end (l' := [(1, .pointer (some ⟨g1, 0, none⟩)), (7, .bool (o_0.Level != 0))]) (.cons rfl (.cons rfl (.nil _))) ?_
 refine ke_cond (t := o_0.Level != 0) rfl (fun hc8 => ?_) (fun hc8 => ?_)
 ·replace hS := ite_true' hS hc8
  refine ke_seq ?_
  refine ke_region_q Tryz.mixed (by kernel_rfl) ?_
  refine sq_ev (v := .pointer (some ⟨g1, 5, none⟩)) (fun w1 hw1 => ev_fieldAddr (i := 5) Tryz.underlying33 rfl Tryz.info9 rfl rfl) (by decide) ?_
  refine sq_ev (v := str o_0.S) (fun w1 hw1 => ev_load Tryz.isAgg9 rfl ((hH.below hw1).cell (i := 0) rfl rfl)) (by decide) ?_
  refine sq_ev (v := .pointer (some ⟨g1, 8, none⟩)) (fun w1 hw1 => ev_fieldAddr (i := 8) Tryz.underlying33 rfl Tryz.info3 rfl rfl) (by decide) ?_
  refine sq_ev (v := .int .i64 o_0.Now) (fun w1 hw1 => ev_load Tryz.isAgg3 rfl ((hH.below hw1).cell (i := 0) rfl rfl)) (by decide) ?_
  obtain ⟨y11, hy12, hS⟩ := bind_some' hS
  refine sq_call (v := .int .i64 y11) (vs := [.int .i64 o_0.Now]) rfl Tryz.call13 rfl (fun w1 hw1 => (otp_Counter_ok _ (hg.below (hb.trans (hw1.mono hb.size))) hy12)) (by decide) ?_
  obtain ⟨y15, hy16, hS⟩ := bind_some' hS
  refine sq_call (v := .tuple #[str y15.1, .int .i64 y15.2]) (vs := [str o_0.S, .int .i64 y11]) rfl Tryz.call12 rfl (fun w1 hw1 => (otp_Code_ok _ (hg.below (hb.trans (hw1.mono hb.size))) hy16)) (by decide) ?_
  refine sq_ev (v := .tuple #[str y15.1, .int .i64 y15.2]) (fun w1 hw1 => ev_move rfl) (by decide) ?_
  refine sq_ev (v := str y15.1) (fun w1 hw1 => ev_extract rfl rfl) (by decide) ?_
  refine sq_ev (v := .int .i64 y15.2) (fun w1 hw1 => ev_extract rfl rfl) (by decide) ?_
  refine sq_ev (v := str y15.1) (fun w1 hw1 => ev_assign rfl) (by decide) ?_
  refine sq_ev (v := .int .i64 y15.2) (fun w1 hw1 => ev_assign rfl) (by decide) ?_
  refine sq_end (l' := [(3, str y15.1)]) (.cons rfl (.nil _)) (fun w10 hw9 => ?_)
  replace hb := hb.trans (hw9.mono hb.size)
  replace hA := lt_mono hA hw9.size
  replace hH := hH.below hw9
  refine ke_seq ?_
  refine ke_region ?_
  refine sr_ev (v := str y15.1) (ev_move rfl) (by decide) ?_
  refine sr_ev (v := str y15.1) (ev_assign rfl) (by decide) ?_
  refine sr_end (l' := [(2, str y15.1)]) (.cons rfl (.nil _)) ?_
  cases hS
  exact ke_ret1 Tryz.func30 rfl rfl ⟨_, rfl, rfl, hb⟩
 ·replace hS := ite_false' hS hc8
  refine ke_skip ?_
  refine ke_seq ?_
  refine ke_region ?_
  refine sr_ev (v := .pointer (some ⟨g1, 4, none⟩)) (ev_fieldAddr (i := 4) Tryz.underlying33 rfl Tryz.info9 rfl rfl) (by decide) ?_
  refine sr_ev (v := str o_0.Code) (ev_load Tryz.isAgg9 rfl (hH.cell (i := 0) rfl rfl)) (by decide) ?_
  refine sr_ev (v := str o_0.Code) (ev_assign rfl) (by decide) ?_
  refine sr_end (l' := [(2, str o_0.Code)]) (.cons rfl (.nil _)) ?_
  cases hS
  exact ke_ret1 Tryz.func30 rfl rfl ⟨_, rfl, rfl, hb⟩
theorem law39_play_ok (w0 : World) (hg : Gs w0) {ρA : Tags} (hbd : ∀ b, ρA b ≠ 0 → b < w0.heap.size) (hz : Gz ρA) {o : Nat} (ho2 : 2 ≤ o) {l_0 : login_Logins} {o_1 : law39_Op} {gl_0 : Nat} {r : login_Logins} (ho0 : login_Logins.O (fun p => o + p) ρA w0 gl_0 l_0) (hS : law39_play l_0 o_1 = some r) :
  Calls Tryz.prog 16 #[.pointer (some ⟨gl_0, 0, none⟩), .agg #[.int .i64 o_1.Kind, str o_1.ID, str o_1.User, str o_1.Word, str o_1.Code, str o_1.S, .int .i64 o_1.Level, .int .i64 o_1.Rounds, .int .i64 o_1.Now]] w0 (Ret (fun v w' => ∃ ρ', v = .tuple #[] ∧ login_Logins.O (fun p => o + p) ρ' w' gl_0 r ∧ Tr ρA w0 (rng o 7) ρ' w')) := by
 unfold law39_play at hS
 have hb := enter_fr (ρ := ρA) (w := w0) (n := 7) ho2 hbd
 have hz := hz.enter (n := 7) ho2
 obtain ⟨v1, v3, v5, v7, hB9, hP2, h4, h6, h8⟩ := ho0
 replace hB9 := hB9.mv (enter_mv (p := 0) (n := 7) (by decide) ho2)
 replace hP2 := PtrO.mv hP2 secret_Locks.objK (fun p hp => enter_mv (p := 1 + p) (n := 7) (by omega) ho2) (fun p hp => by omega)
 replace h4 := h4.mv (enter_mv (p := 4) (n := 7) (by decide) ho2)
 replace h6 := h6.mv (enter_mv (p := 5) (n := 7) (by decide) ho2)
 replace h8 := h8.mv (enter_mv (p := 6) (n := 7) (by decide) ho2)
 replace hB9 : Blk (enter ρA o 7) 100 w0 gl_0 (.cells #[v1, v3, v5, v7] 69 (0, 0)) := hB9
 replace hP2 : PtrO secret_Locks.O (fun q => 100 + (1 + q)) (enter ρA o 7) w0 v1 l_0.locks := hP2
 replace h4 : MapT str login_credentials.c true (enter ρA o 7) 104 w0 v3 l_0.users := h4
 replace h6 : MapT str (intC .i64) false (enter ρA o 7) 105 w0 v5 l_0.counters := h6
 replace h8 : MapT str login_attempt.c true (enter ρA o 7) 106 w0 v7 l_0.attempts := h8
 refine calls_of_ke Tryz.func16 rfl (n := 56) rfl rfl (l := [(0, .pointer (some ⟨gl_0, 0, none⟩)), (1, .agg #[.int .i64 o_1.Kind, str o_1.ID, str o_1.User, str o_1.Word, str o_1.Code, str o_1.S, .int .i64 o_1.Level, .int .i64 o_1.Rounds, .int .i64 o_1.Now])]) rfl ?_
 refine ke_seq ?_
 refine ke_region ?_
 refine sr_boxT 5 (by decide) hb.bd rfl (by decide) ?_
 intro g10 ρ11 w12 hB14 htr13
 replace hB9 := hB9.mv (htr13.mv (i := 100) rfl)
 replace hP2 := PtrO.mv hP2 secret_Locks.objK (fun p hp => htr13.mv (i := 100 + (1 + p)) (by rcases p with _ | _ | _ | p <;> first | rfl | omega)) (fun p hp => by show 100 + (1 + p) ≠ 0; omega)
 replace h4 := h4.mv (htr13.mv (i := 104) rfl)
 replace h6 := h6.mv (htr13.mv (i := 105) rfl)
 replace h8 := h8.mv (htr13.mv (i := 106) rfl)
 replace hb := hb.trans htr13
 replace hB14 : Blk ρ11 5 w12 g10 (.cells #[.int .i64 o_1.Kind, str o_1.ID, str o_1.User, str o_1.Word, str o_1.Code, str o_1.S, .int .i64 o_1.Level, .int .i64 o_1.Rounds, .int .i64 o_1.Now] 33 (0, 0)) := hB14
 refine sr_end (l' := [(0, .pointer (some ⟨gl_0, 0, none⟩)), (3, .pointer (some ⟨g10, 0, none⟩))]) (.cons rfl (.cons rfl (.nil _))) ?_
 refine ke_seq ?_
 refine ke_region ?_
 refine sr_ev (v := .pointer (some ⟨g10, 0, none⟩)) (ev_fieldAddr (i := 0) Tryz.underlying33 rfl Tryz.info3 rfl rfl) (by decide) ?_
 refine sr_ev (v := .int .i64 o_1.Kind) (ev_load Tryz.isAgg3 rfl (hB14.cell rfl)) (by decide) ?_
 refine sr_end (l' := [(0, .pointer (some ⟨gl_0, 0, none⟩)), (3, .pointer (some ⟨g10, 0, none⟩)), (5, .int .i64 o_1.Kind)]) (.cons rfl (.cons rfl (.cons rfl (.nil _)))) ?_
 refine ke_block ?_
 refine ke_seq ?_
 refine ke_region ?_
 refine sr_ev (v := .bool (o_1.Kind == 0)) (ev_eq rfl rfl) (by decide) ?_
 refine sr_ev (v := .bool (o_1.Kind == 0)) (ev_assign rfl) (by decide) ?_
 refine sr_end (l' := [(0, .pointer (some ⟨gl_0, 0, none⟩)), (3, .pointer (some ⟨g10, 0, none⟩)), (5, .int .i64 o_1.Kind), (6, .bool (o_1.Kind == 0))]) (.cons rfl (.cons rfl (.cons rfl (.cons rfl (.nil _))))) ?_
 refine ke_cond (t := o_1.Kind == 0) rfl (fun hc15 => ?_) (fun hc15 => ?_)
 ·replace hS := ite_true' hS hc15
  refine ke_region_j (ρ := ρ11) (fun t => ([100, 101, 102, 103, 104, 105, 106] : List Nat).contains t) 8 Tryz.mixed (fun w17 hw16 => ?_)
  have htr18 := Tr.of_below hw16 hb.bd
  replace hB14 := hB14.mv (htr18.mv (i := 5) rfl)
  replace hB9 := hB9.mv (htr18.mv (i := 100) rfl)
  replace hP2 := PtrO.mv hP2 secret_Locks.objK (fun p hp => htr18.mv (i := 100 + (1 + p)) (by rcases p with _ | _ | _ | p <;> first | rfl | omega)) (fun p hp => by show 100 + (1 + p) ≠ 0; omega)
  replace h4 := h4.mv (htr18.mv (i := 104) rfl)
  replace h6 := h6.mv (htr18.mv (i := 105) rfl)
  replace h8 := h8.mv (htr18.mv (i := 106) rfl)
  replace hb := hb.trans htr18
  refine dj_H 0 (v := .pointer (some ⟨gl_0, 0, none⟩)) (by kernel_rfl) (by kernel_rfl) rfl (fun _ _ _ h => h) (sj_refl hb.bd rfl rfl) (fun w1 ρ1 hw1 => ev_move rfl) (by decide) ?_
  refine dj_H 1 (v := .pointer (some ⟨g10, 2, none⟩)) (by kernel_rfl) (by kernel_rfl) rfl (fun _ _ _ h => h) (sj_refl hb.bd rfl rfl) (fun w1 ρ1 hw1 => ev_fieldAddr (i := 2) Tryz.underlying33 rfl Tryz.info9 rfl rfl) (by decide) ?_
  refine dj_H 2 (v := str o_1.User) (by kernel_rfl) (by kernel_rfl) rfl (fun _ _ _ h => h) (sj_refl hb.bd rfl rfl) (fun w1 ρ1 hw1 => ev_load Tryz.isAgg9 rfl ((hB14.mv (hw1.mv (i := 5) rfl)).cell rfl)) (by decide) ?_
  refine dj_H 3 (v := .agg #[.int .i64 o_1.Kind, str o_1.ID, str o_1.User, str o_1.Word, str o_1.Code, str o_1.S, .int .i64 o_1.Level, .int .i64 o_1.Rounds, .int .i64 o_1.Now]) (by kernel_rfl) (by kernel_rfl) rfl (fun _ _ _ h => h) (sj_refl hb.bd rfl rfl) (fun w1 ρ1 hw1 => ev_loads (cs := [.int .i64 o_1.Kind, str o_1.ID, str o_1.User, str o_1.Word, str o_1.Code, str o_1.S, .int .i64 o_1.Level, .int .i64 o_1.Rounds, .int .i64 o_1.Now]) Tryz.isAgg33 Tryz.sizeOf33 rfl ((hB14.mv (hw1.mv (i := 5) rfl)).cells (vs := [.int .i64 o_1.Kind, str o_1.ID, str o_1.User, str o_1.Word, str o_1.Code, str o_1.S, .int .i64 o_1.Level, .int .i64 o_1.Rounds, .int .i64 o_1.Now]) rfl)) (by decide) ?_
  refine dj_H 5 (v := .pointer (some ⟨g10, 4, none⟩)) (by kernel_rfl) (by kernel_rfl) rfl (fun _ _ _ h => h) (sj_refl hb.bd rfl rfl) (fun w1 ρ1 hw1 => ev_fieldAddr (i := 4) Tryz.underlying33 rfl Tryz.info9 rfl rfl) (by decide) ?_
  refine dj_H 6 (v := str o_1.Code) (by kernel_rfl) (by kernel_rfl) rfl (fun _ _ _ h => h) (sj_refl hb.bd rfl rfl) (fun w1 ρ1 hw1 => ev_load Tryz.isAgg9 rfl ((hB14.mv (hw1.mv (i := 5) rfl)).cell rfl)) (by decide) ?_
  refine dj_E 4 (by kernel_rfl) rfl ?_
  have jt64 : Tr ρ11 w17 (fun t => ([100, 101, 102, 103, 104, 105, 106] : List Nat).contains t) ρ11 w17 := (Tr.refl hb.bd).weak (fun _ _ => rfl) rfl rfl
  obtain ⟨y65, hy66, hS⟩ := bind_some' hS
  refine sr_call (vs := [.agg #[.int .i64 o_1.Kind, str o_1.ID, str o_1.User, str o_1.Word, str o_1.Code, str o_1.S, .int .i64 o_1.Level, .int .i64 o_1.Rounds, .int .i64 o_1.Now]]) rfl Tryz.call26 rfl (law39_verifier_ok _ (hg.fr hz hb) hy66) (by decide) ?_
  rintro _ w67 ⟨rfl, hbw68⟩
  have htr69 := Tr.of_below hbw68 hb.bd
  replace hB14 := hB14.mv (htr69.mv (i := 5) rfl)
  replace hB9 := hB9.mv (htr69.mv (i := 100) rfl)
  replace hP2 := PtrO.mv hP2 secret_Locks.objK (fun p hp => htr69.mv (i := 100 + (1 + p)) (by rcases p with _ | _ | _ | p <;> first | rfl | omega)) (fun p hp => by show 100 + (1 + p) ≠ 0; omega)
  replace h4 := h4.mv (htr69.mv (i := 104) rfl)
  replace h6 := h6.mv (htr69.mv (i := 105) rfl)
  replace h8 := h8.mv (htr69.mv (i := 106) rfl)
  replace hb := hb.trans htr69
  replace jt64 := (jt64.trans htr69).weak (J' := (fun t => ([100, 101, 102, 103, 104, 105, 106] : List Nat).contains t)) (by intro t h; simp [rng] at h ⊢ <;> omega) rfl rfl
  refine dj_next (l' := [(8, .pointer (some ⟨gl_0, 0, none⟩)), (10, str o_1.User), (12, .agg #[str y65.Salt, .int .i64 y65.Rounds, str y65.Hash]), (14, str o_1.Code)]) rfl (.cons rfl (.cons rfl (.cons rfl (.cons rfl (.nil _))))) jt64 (by intro t h; simp [rng] at h ⊢ <;> omega) rfl rfl ?_
  refine dj_E 7 (by kernel_rfl) rfl ?_
  have jt70 : Tr ρ11 w67 (fun t => ([100, 101, 102, 103, 104, 105, 106] : List Nat).contains t) ρ11 w67 := (Tr.refl hb.bd).weak (fun _ _ => rfl) rfl rfl
  obtain ⟨y71, hy72, hS⟩ := bind_some' hS
  refine sr_call (vs := [.pointer (some ⟨gl_0, 0, none⟩), str o_1.User, .agg #[str y65.Salt, .int .i64 y65.Rounds, str y65.Hash], str o_1.Code]) rfl Tryz.call25 rfl (login_Logins_Enroll_ok _ (hg.fr hz hb) (ρA := ρ11) hb.bd (hz.fr hg hb) (o := 100) (by decide) (⟨_, _, _, _, hB9, hP2, h4, h6, h8⟩ : login_Logins.O (fun p => 100 + p) ρ11 w67 gl_0 l_0) hy72) (by decide) ?_
  rintro _ w73 ⟨ρ85, rfl, ⟨v76, v78, v80, v82, hB84, hP77, h79, h81, h83⟩, htr75⟩
  replace hb := hb.trans htr75
  replace jt70 := (jt70.trans htr75).weak (J' := (fun t => ([100, 101, 102, 103, 104, 105, 106] : List Nat).contains t)) (by intro t h; simp [rng] at h ⊢ <;> omega) rfl rfl
  replace hB84 : Blk ρ85 100 w73 gl_0 (.cells #[v76, v78, v80, v82] 69 (0, 0)) := hB84
  replace hP77 : PtrO secret_Locks.O (fun q => 100 + (1 + q)) ρ85 w73 v76 y71.2.locks := hP77
  replace h79 : MapT str login_credentials.c true ρ85 104 w73 v78 y71.2.users := h79
  replace h81 : MapT str (intC .i64) false ρ85 105 w73 v80 y71.2.counters := h81
  replace h83 : MapT str login_attempt.c true ρ85 106 w73 v82 y71.2.attempts := h83
  refine dj_next (l' := []) rfl (.nil _) jt70 (by intro t h; simp [rng] at h ⊢ <;> omega) rfl rfl ?_
  refine dj_done rfl (by kernel_rfl) ?_
  refine ke_weaken (l' := []) (.nil _) ?_
  refine ke_inBlock ?_
  cases hS
  exact ke_end0 Tryz.func16 rfl ⟨_, rfl, leave ρA w0 o 7 ρ85, rfl, ⟨_, _, _, _, (hB84.mv (leave_mv (p := 0) (by decide) hb)), (PtrO.mv hP77 secret_Locks.objK (fun p hp => leave_mv (p := 1 + p) (by omega) hb) (fun p hp => by show o + (1 + p) ≠ 0; omega)), (h79.mv (leave_mv (p := 4) (by decide) hb)), (h81.mv (leave_mv (p := 5) (by decide) hb)), (h83.mv (leave_mv (p := 6) (by decide) hb))⟩, (leave_tr ho2 hb)⟩
 ·replace hS := ite_false' hS hc15
  refine ke_seq ?_
  refine ke_region ?_
  refine sr_ev (v := .bool (o_1.Kind == 1)) (ev_eq rfl rfl) (by decide) ?_
  refine sr_ev (v := .bool (o_1.Kind == 1)) (ev_assign rfl) (by decide) ?_
  refine sr_end (l' := [(0, .pointer (some ⟨gl_0, 0, none⟩)), (3, .pointer (some ⟨g10, 0, none⟩)), (5, .int .i64 o_1.Kind), (16, .bool (o_1.Kind == 1))]) (.cons rfl (.cons rfl (.cons rfl (.cons rfl (.nil _))))) ?_
  refine ke_cond (t := o_1.Kind == 1) rfl (fun hc86 => ?_) (fun hc86 => ?_)
  ·replace hS := ite_true' hS hc86
   refine ke_region ?_
   refine sr_ev (v := .pointer (some ⟨gl_0, 0, none⟩)) (ev_move rfl) (by decide) ?_
   refine sr_ev (v := .pointer (some ⟨g10, 1, none⟩)) (ev_fieldAddr (i := 1) Tryz.underlying33 rfl Tryz.info9 rfl rfl) (by decide) ?_
   refine sr_ev (v := str o_1.ID) (ev_load Tryz.isAgg9 rfl (hB14.cell rfl)) (by decide) ?_
   refine sr_ev (v := .pointer (some ⟨g10, 2, none⟩)) (ev_fieldAddr (i := 2) Tryz.underlying33 rfl Tryz.info9 rfl rfl) (by decide) ?_
   refine sr_ev (v := str o_1.User) (ev_load Tryz.isAgg9 rfl (hB14.cell rfl)) (by decide) ?_
   refine sr_ev (v := .pointer (some ⟨g10, 8, none⟩)) (ev_fieldAddr (i := 8) Tryz.underlying33 rfl Tryz.info3 rfl rfl) (by decide) ?_
   refine sr_ev (v := .int .i64 o_1.Now) (ev_load Tryz.isAgg3 rfl (hB14.cell rfl)) (by decide) ?_
   obtain ⟨y87, hy88, hS⟩ := bind_some' hS
   refine sr_call (vs := [.pointer (some ⟨gl_0, 0, none⟩), str o_1.ID, str o_1.User, .int .i64 o_1.Now]) rfl Tryz.call14 rfl (login_Logins_Begin_ok _ (hg.fr hz hb) (ρA := ρ11) hb.bd (hz.fr hg hb) (o := 100) (by decide) (⟨_, _, _, _, hB9, hP2, h4, h6, h8⟩ : login_Logins.O (fun p => 100 + p) ρ11 w12 gl_0 l_0) hy88) (by decide) ?_
   rintro _ w89 ⟨ρ101, rfl, ⟨v92, v94, v96, v98, hB100, hP93, h95, h97, h99⟩, htr91⟩
   replace hb := hb.trans htr91
   replace hB100 : Blk ρ101 100 w89 gl_0 (.cells #[v92, v94, v96, v98] 69 (0, 0)) := hB100
   replace hP93 : PtrO secret_Locks.O (fun q => 100 + (1 + q)) ρ101 w89 v92 y87.2.locks := hP93
   replace h95 : MapT str login_credentials.c true ρ101 104 w89 v94 y87.2.users := h95
   replace h97 : MapT str (intC .i64) false ρ101 105 w89 v96 y87.2.counters := h97
   replace h99 : MapT str login_attempt.c true ρ101 106 w89 v98 y87.2.attempts := h99
   refine sr_end (l' := []) (.nil _) ?_
   refine ke_inBlock ?_
   cases hS
   exact ke_end0 Tryz.func16 rfl ⟨_, rfl, leave ρA w0 o 7 ρ101, rfl, ⟨_, _, _, _, (hB100.mv (leave_mv (p := 0) (by decide) hb)), (PtrO.mv hP93 secret_Locks.objK (fun p hp => leave_mv (p := 1 + p) (by omega) hb) (fun p hp => by show o + (1 + p) ≠ 0; omega)), (h95.mv (leave_mv (p := 4) (by decide) hb)), (h97.mv (leave_mv (p := 5) (by decide) hb)), (h99.mv (leave_mv (p := 6) (by decide) hb))⟩, (leave_tr ho2 hb)⟩
  ·replace hS := ite_false' hS hc86
   refine ke_seq ?_
   refine ke_region ?_
   refine sr_ev (v := .bool (o_1.Kind == 2)) (ev_eq rfl rfl) (by decide) ?_
   refine sr_ev (v := .bool (o_1.Kind == 2)) (ev_assign rfl) (by decide) ?_
   refine sr_end (l' := [(0, .pointer (some ⟨gl_0, 0, none⟩)), (3, .pointer (some ⟨g10, 0, none⟩)), (5, .int .i64 o_1.Kind), (26, .bool (o_1.Kind == 2))]) (.cons rfl (.cons rfl (.cons rfl (.cons rfl (.nil _))))) ?_
   refine ke_cond (t := o_1.Kind == 2) rfl (fun hc102 => ?_) (fun hc102 => ?_)
   ·replace hS := ite_true' hS hc102
    refine ke_region ?_
    refine sr_ev (v := .pointer (some ⟨gl_0, 0, none⟩)) (ev_move rfl) (by decide) ?_
    refine sr_ev (v := .pointer (some ⟨g10, 1, none⟩)) (ev_fieldAddr (i := 1) Tryz.underlying33 rfl Tryz.info9 rfl rfl) (by decide) ?_
    refine sr_ev (v := str o_1.ID) (ev_load Tryz.isAgg9 rfl (hB14.cell rfl)) (by decide) ?_
    refine sr_ev (v := .pointer (some ⟨g10, 3, none⟩)) (ev_fieldAddr (i := 3) Tryz.underlying33 rfl Tryz.info9 rfl rfl) (by decide) ?_
    refine sr_ev (v := str o_1.Word) (ev_load Tryz.isAgg9 rfl (hB14.cell rfl)) (by decide) ?_
    refine sr_ev (v := .pointer (some ⟨g10, 8, none⟩)) (ev_fieldAddr (i := 8) Tryz.underlying33 rfl Tryz.info3 rfl rfl) (by decide) ?_
    refine sr_ev (v := .int .i64 o_1.Now) (ev_load Tryz.isAgg3 rfl (hB14.cell rfl)) (by decide) ?_
    obtain ⟨y103, hy104, hS⟩ := bind_some' hS
    refine sr_call (vs := [.pointer (some ⟨gl_0, 0, none⟩), str o_1.ID, str o_1.Word, .int .i64 o_1.Now]) rfl Tryz.call19 rfl (login_Logins_Password_ok _ (hg.fr hz hb) (ρA := ρ11) hb.bd (hz.fr hg hb) (o := 100) (by decide) (⟨_, _, _, _, hB9, hP2, h4, h6, h8⟩ : login_Logins.O (fun p => 100 + p) ρ11 w12 gl_0 l_0) hy104) (by decide) ?_
    rintro _ w105 ⟨ρ117, rfl, ⟨v108, v110, v112, v114, hB116, hP109, h111, h113, h115⟩, htr107⟩
    replace hb := hb.trans htr107
    replace hB116 : Blk ρ117 100 w105 gl_0 (.cells #[v108, v110, v112, v114] 69 (0, 0)) := hB116
    replace hP109 : PtrO secret_Locks.O (fun q => 100 + (1 + q)) ρ117 w105 v108 y103.2.locks := hP109
    replace h111 : MapT str login_credentials.c true ρ117 104 w105 v110 y103.2.users := h111
    replace h113 : MapT str (intC .i64) false ρ117 105 w105 v112 y103.2.counters := h113
    replace h115 : MapT str login_attempt.c true ρ117 106 w105 v114 y103.2.attempts := h115
    refine sr_end (l' := []) (.nil _) ?_
    refine ke_inBlock ?_
    cases hS
    exact ke_end0 Tryz.func16 rfl ⟨_, rfl, leave ρA w0 o 7 ρ117, rfl, ⟨_, _, _, _, (hB116.mv (leave_mv (p := 0) (by decide) hb)), (PtrO.mv hP109 secret_Locks.objK (fun p hp => leave_mv (p := 1 + p) (by omega) hb) (fun p hp => by show o + (1 + p) ≠ 0; omega)), (h111.mv (leave_mv (p := 4) (by decide) hb)), (h113.mv (leave_mv (p := 5) (by decide) hb)), (h115.mv (leave_mv (p := 6) (by decide) hb))⟩, (leave_tr ho2 hb)⟩
   ·replace hS := ite_false' hS hc102
    refine ke_seq ?_
    refine ke_region ?_
    refine sr_ev (v := .bool (o_1.Kind == 3)) (ev_eq rfl rfl) (by decide) ?_
    refine sr_ev (v := .bool (o_1.Kind == 3)) (ev_assign rfl) (by decide) ?_
    refine sr_end (l' := [(0, .pointer (some ⟨gl_0, 0, none⟩)), (3, .pointer (some ⟨g10, 0, none⟩)), (5, .int .i64 o_1.Kind), (36, .bool (o_1.Kind == 3))]) (.cons rfl (.cons rfl (.cons rfl (.cons rfl (.nil _))))) ?_
    refine ke_cond (t := o_1.Kind == 3) rfl (fun hc118 => ?_) (fun hc118 => ?_)
    ·replace hS := ite_true' hS hc118
     refine ke_region_j (ρ := ρ11) (fun t => ([100, 101, 102, 103, 104, 105, 106] : List Nat).contains t) 8 Tryz.mixed (fun w120 hw119 => ?_)
     have htr121 := Tr.of_below hw119 hb.bd
     replace hB14 := hB14.mv (htr121.mv (i := 5) rfl)
     replace hB9 := hB9.mv (htr121.mv (i := 100) rfl)
     replace hP2 := PtrO.mv hP2 secret_Locks.objK (fun p hp => htr121.mv (i := 100 + (1 + p)) (by rcases p with _ | _ | _ | p <;> first | rfl | omega)) (fun p hp => by show 100 + (1 + p) ≠ 0; omega)
     replace h4 := h4.mv (htr121.mv (i := 104) rfl)
     replace h6 := h6.mv (htr121.mv (i := 105) rfl)
     replace h8 := h8.mv (htr121.mv (i := 106) rfl)
     replace hb := hb.trans htr121
     refine dj_H 0 (v := .pointer (some ⟨gl_0, 0, none⟩)) (by kernel_rfl) (by kernel_rfl) rfl (fun _ _ _ h => h) (sj_refl hb.bd rfl rfl) (fun w1 ρ1 hw1 => ev_move rfl) (by decide) ?_
     refine dj_H 1 (v := .pointer (some ⟨g10, 1, none⟩)) (by kernel_rfl) (by kernel_rfl) rfl (fun _ _ _ h => h) (sj_refl hb.bd rfl rfl) (fun w1 ρ1 hw1 => ev_fieldAddr (i := 1) Tryz.underlying33 rfl Tryz.info9 rfl rfl) (by decide) ?_
     refine dj_H 2 (v := str o_1.ID) (by kernel_rfl) (by kernel_rfl) rfl (fun _ _ _ h => h) (sj_refl hb.bd rfl rfl) (fun w1 ρ1 hw1 => ev_load Tryz.isAgg9 rfl ((hB14.mv (hw1.mv (i := 5) rfl)).cell rfl)) (by decide) ?_
     refine dj_H 3 (v := .agg #[.int .i64 o_1.Kind, str o_1.ID, str o_1.User, str o_1.Word, str o_1.Code, str o_1.S, .int .i64 o_1.Level, .int .i64 o_1.Rounds, .int .i64 o_1.Now]) (by kernel_rfl) (by kernel_rfl) rfl (fun _ _ _ h => h) (sj_refl hb.bd rfl rfl) (fun w1 ρ1 hw1 => ev_loads (cs := [.int .i64 o_1.Kind, str o_1.ID, str o_1.User, str o_1.Word, str o_1.Code, str o_1.S, .int .i64 o_1.Level, .int .i64 o_1.Rounds, .int .i64 o_1.Now]) Tryz.isAgg33 Tryz.sizeOf33 rfl ((hB14.mv (hw1.mv (i := 5) rfl)).cells (vs := [.int .i64 o_1.Kind, str o_1.ID, str o_1.User, str o_1.Word, str o_1.Code, str o_1.S, .int .i64 o_1.Level, .int .i64 o_1.Rounds, .int .i64 o_1.Now]) rfl)) (by decide) ?_
     refine dj_H 5 (v := .pointer (some ⟨g10, 8, none⟩)) (by kernel_rfl) (by kernel_rfl) rfl (fun _ _ _ h => h) (sj_refl hb.bd rfl rfl) (fun w1 ρ1 hw1 => ev_fieldAddr (i := 8) Tryz.underlying33 rfl Tryz.info3 rfl rfl) (by decide) ?_
     refine dj_H 6 (v := .int .i64 o_1.Now) (by kernel_rfl) (by kernel_rfl) rfl (fun _ _ _ h => h) (sj_refl hb.bd rfl rfl) (fun w1 ρ1 hw1 => ev_load Tryz.isAgg3 rfl ((hB14.mv (hw1.mv (i := 5) rfl)).cell rfl)) (by decide) ?_
     refine dj_E 4 (by kernel_rfl) rfl ?_
     have jt167 : Tr ρ11 w120 (fun t => ([100, 101, 102, 103, 104, 105, 106] : List Nat).contains t) ρ11 w120 := (Tr.refl hb.bd).weak (fun _ _ => rfl) rfl rfl
     obtain ⟨y168, hy169, hS⟩ := bind_some' hS
     refine sr_call (vs := [.agg #[.int .i64 o_1.Kind, str o_1.ID, str o_1.User, str o_1.Word, str o_1.Code, str o_1.S, .int .i64 o_1.Level, .int .i64 o_1.Rounds, .int .i64 o_1.Now]]) rfl Tryz.call30 rfl (law39_typed_ok _ (hg.fr hz hb) hy169) (by decide) ?_
     rintro _ w170 ⟨rfl, hbw171⟩
     have htr172 := Tr.of_below hbw171 hb.bd
     replace hB14 := hB14.mv (htr172.mv (i := 5) rfl)
     replace hB9 := hB9.mv (htr172.mv (i := 100) rfl)
     replace hP2 := PtrO.mv hP2 secret_Locks.objK (fun p hp => htr172.mv (i := 100 + (1 + p)) (by rcases p with _ | _ | _ | p <;> first | rfl | omega)) (fun p hp => by show 100 + (1 + p) ≠ 0; omega)
     replace h4 := h4.mv (htr172.mv (i := 104) rfl)
     replace h6 := h6.mv (htr172.mv (i := 105) rfl)
     replace h8 := h8.mv (htr172.mv (i := 106) rfl)
     replace hb := hb.trans htr172
     replace jt167 := (jt167.trans htr172).weak (J' := (fun t => ([100, 101, 102, 103, 104, 105, 106] : List Nat).contains t)) (by intro t h; simp [rng] at h ⊢ <;> omega) rfl rfl
     refine dj_next (l' := [(38, .pointer (some ⟨gl_0, 0, none⟩)), (40, str o_1.ID), (42, str y168), (44, .int .i64 o_1.Now)]) rfl (.cons rfl (.cons rfl (.cons rfl (.cons rfl (.nil _))))) jt167 (by intro t h; simp [rng] at h ⊢ <;> omega) rfl rfl ?_
     refine dj_E 7 (by kernel_rfl) rfl ?_
     have jt173 : Tr ρ11 w170 (fun t => ([100, 101, 102, 103, 104, 105, 106] : List Nat).contains t) ρ11 w170 := (Tr.refl hb.bd).weak (fun _ _ => rfl) rfl rfl
     obtain ⟨y174, hy175, hS⟩ := bind_some' hS
     refine sr_call (vs := [.pointer (some ⟨gl_0, 0, none⟩), str o_1.ID, str y168, .int .i64 o_1.Now]) rfl Tryz.call15 rfl (login_Logins_Code_ok _ (hg.fr hz hb) (ρA := ρ11) hb.bd (hz.fr hg hb) (o := 100) (by decide) (⟨_, _, _, _, hB9, hP2, h4, h6, h8⟩ : login_Logins.O (fun p => 100 + p) ρ11 w170 gl_0 l_0) hy175) (by decide) ?_
     rintro _ w176 ⟨ρ188, rfl, ⟨v179, v181, v183, v185, hB187, hP180, h182, h184, h186⟩, htr178⟩
     replace hb := hb.trans htr178
     replace jt173 := (jt173.trans htr178).weak (J' := (fun t => ([100, 101, 102, 103, 104, 105, 106] : List Nat).contains t)) (by intro t h; simp [rng] at h ⊢ <;> omega) rfl rfl
     replace hB187 : Blk ρ188 100 w176 gl_0 (.cells #[v179, v181, v183, v185] 69 (0, 0)) := hB187
     replace hP180 : PtrO secret_Locks.O (fun q => 100 + (1 + q)) ρ188 w176 v179 y174.2.locks := hP180
     replace h182 : MapT str login_credentials.c true ρ188 104 w176 v181 y174.2.users := h182
     replace h184 : MapT str (intC .i64) false ρ188 105 w176 v183 y174.2.counters := h184
     replace h186 : MapT str login_attempt.c true ρ188 106 w176 v185 y174.2.attempts := h186
     refine dj_next (l' := []) rfl (.nil _) jt173 (by intro t h; simp [rng] at h ⊢ <;> omega) rfl rfl ?_
     refine dj_done rfl (by kernel_rfl) ?_
     refine ke_weaken (l' := []) (.nil _) ?_
     refine ke_inBlock ?_
     cases hS
     exact ke_end0 Tryz.func16 rfl ⟨_, rfl, leave ρA w0 o 7 ρ188, rfl, ⟨_, _, _, _, (hB187.mv (leave_mv (p := 0) (by decide) hb)), (PtrO.mv hP180 secret_Locks.objK (fun p hp => leave_mv (p := 1 + p) (by omega) hb) (fun p hp => by show o + (1 + p) ≠ 0; omega)), (h182.mv (leave_mv (p := 4) (by decide) hb)), (h184.mv (leave_mv (p := 5) (by decide) hb)), (h186.mv (leave_mv (p := 6) (by decide) hb))⟩, (leave_tr ho2 hb)⟩
    ·replace hS := ite_false' hS hc118
     refine ke_seq ?_
     refine ke_region ?_
     refine sr_ev (v := .bool (o_1.Kind == 4)) (ev_eq rfl rfl) (by decide) ?_
     refine sr_ev (v := .bool (o_1.Kind == 4)) (ev_assign rfl) (by decide) ?_
     refine sr_end (l' := [(0, .pointer (some ⟨gl_0, 0, none⟩)), (3, .pointer (some ⟨g10, 0, none⟩)), (46, .bool (o_1.Kind == 4))]) (.cons rfl (.cons rfl (.cons rfl (.nil _)))) ?_
     refine ke_cond (t := o_1.Kind == 4) rfl (fun hc189 => ?_) (fun hc189 => ?_)
     ·replace hS := ite_true' hS hc189
      refine ke_region ?_
      refine sr_ev (v := .pointer (some ⟨gl_0, 0, none⟩)) (ev_move rfl) (by decide) ?_
      refine sr_ev (v := .pointer (some ⟨g10, 1, none⟩)) (ev_fieldAddr (i := 1) Tryz.underlying33 rfl Tryz.info9 rfl rfl) (by decide) ?_
      refine sr_ev (v := str o_1.ID) (ev_load Tryz.isAgg9 rfl (hB14.cell rfl)) (by decide) ?_
      refine sr_ev (v := .pointer (some ⟨g10, 6, none⟩)) (ev_fieldAddr (i := 6) Tryz.underlying33 rfl Tryz.info3 rfl rfl) (by decide) ?_
      refine sr_ev (v := .int .i64 o_1.Level) (ev_load Tryz.isAgg3 rfl (hB14.cell rfl)) (by decide) ?_
      refine sr_ev (v := .pointer (some ⟨g10, 8, none⟩)) (ev_fieldAddr (i := 8) Tryz.underlying33 rfl Tryz.info3 rfl rfl) (by decide) ?_
      refine sr_ev (v := .int .i64 o_1.Now) (ev_load Tryz.isAgg3 rfl (hB14.cell rfl)) (by decide) ?_
      obtain ⟨y190, hy191, hS⟩ := bind_some' hS
      refine sr_call (vs := [.pointer (some ⟨gl_0, 0, none⟩), str o_1.ID, .int .i64 o_1.Level, .int .i64 o_1.Now]) rfl Tryz.call17 rfl (login_Logins_Finish_ok _ (hg.fr hz hb) (ρA := ρ11) hb.bd (hz.fr hg hb) (o := 100) (by decide) (⟨_, _, _, _, hB9, hP2, h4, h6, h8⟩ : login_Logins.O (fun p => 100 + p) ρ11 w12 gl_0 l_0) hy191) (by decide) ?_
      rintro _ w192 ⟨ρ206, v195, rfl, h196, ⟨v197, v199, v201, v203, hB205, hP198, h200, h202, h204⟩, htr194⟩
      replace hb := hb.trans htr194
      replace hB205 : Blk ρ206 100 w192 gl_0 (.cells #[v197, v199, v201, v203] 69 (0, 0)) := hB205
      replace hP198 : PtrO secret_Locks.O (fun q => 100 + (1 + q)) ρ206 w192 v197 y190.2.2.2.locks := hP198
      replace h200 : MapT str login_credentials.c true ρ206 104 w192 v199 y190.2.2.2.users := h200
      replace h202 : MapT str (intC .i64) false ρ206 105 w192 v201 y190.2.2.2.counters := h202
      replace h204 : MapT str login_attempt.c true ρ206 106 w192 v203 y190.2.2.2.attempts := h204
      refine sr_end (l' := []) (.nil _) ?_
      refine ke_inBlock ?_
      cases hS
      exact ke_end0 Tryz.func16 rfl ⟨_, rfl, leave ρA w0 o 7 ρ206, rfl, ⟨_, _, _, _, (hB205.mv (leave_mv (p := 0) (by decide) hb)), (PtrO.mv hP198 secret_Locks.objK (fun p hp => leave_mv (p := 1 + p) (by omega) hb) (fun p hp => by show o + (1 + p) ≠ 0; omega)), (h200.mv (leave_mv (p := 4) (by decide) hb)), (h202.mv (leave_mv (p := 5) (by decide) hb)), (h204.mv (leave_mv (p := 6) (by decide) hb))⟩, (leave_tr ho2 hb)⟩
     ·replace hS := ite_false' hS hc189
      refine ke_skip ?_
      refine ke_inBlock ?_
      cases hS
      exact ke_end0 Tryz.func16 rfl ⟨_, rfl, leave ρA w0 o 7 ρ11, rfl, ⟨_, _, _, _, (hB9.mv (leave_mv (p := 0) (by decide) hb)), (PtrO.mv hP2 secret_Locks.objK (fun p hp => leave_mv (p := 1 + p) (by omega) hb) (fun p hp => by show o + (1 + p) ≠ 0; omega)), (h4.mv (leave_mv (p := 4) (by decide) hb)), (h6.mv (leave_mv (p := 5) (by decide) hb)), (h8.mv (leave_mv (p := 6) (by decide) hb))⟩, (leave_tr ho2 hb)⟩
theorem law39_LoginStrength_L1_ok {w0 : World} (hg : Gs w0) {ρA : Tags} (hbd : ∀ b, ρA b ≠ 0 → b < w0.heap.size) (hz : Gz (flat1 ρA)) : ∀ (n : Nat), ∀ {r : Bool} {l_0 : List law39_Op} {x_3_0 : Int} {x_3_1 : Str} {x_3_2 : Str} {x_3_3 : Str} {x_3_4 : Str} {x_3_5 : Str} {x_3_6 : Int} {x_3_7 : Int} {x_3_8 : Int} {oa_5 : login_Logins} {i_6 : Int} {vl_0 : Value} {gx_3 : Nat} {ga_5 : Nat}, law39_LoginStrength_L1 n l_0 x_3_0 x_3_1 x_3_2 x_3_3 x_3_4 x_3_5 x_3_6 x_3_7 x_3_8 oa_5 i_6 = some r → ∀ {ρ : Tags} {w : World}, (Fr (flat1 ρA) w0 ρ w) → (SlR law39_Op.c (Wb ρ) w vl_0 l_0) → (Blk ρ 5 w gx_3 (.cells #[.int .i64 x_3_0, str x_3_1, str x_3_2, str x_3_3, str x_3_4, str x_3_5, .int .i64 x_3_6, .int .i64 x_3_7, .int .i64 x_3_8] 33 (0, 0))) → (login_Logins.O (fun p => 100 + p) ρ w ga_5 oa_5) → KE Tryz.prog 4 (Ret (fun v w' => v = .bool r ∧ Below w0.heap.size w0 w')) 121 [.code (sub (bodyOf Tryz.f4) [2, 2, 2, 2, 2, 1, 2, 2, 1]), .inLoop (sub (bodyOf Tryz.f4) [2, 2, 2, 2, 2, 1, 2, 2, 1]), .inBlock 0, .code (sub (bodyOf Tryz.f4) [2, 2, 2, 2, 2, 2])] [(0, vl_0), (3, .pointer (some ⟨gx_3, 0, none⟩)), (5, .pointer (some ⟨ga_5, 0, none⟩)), (6, .int .i64 i_6)] w := by
 intro n
 induction n with
 | zero => intro r l_0 x_3_0 x_3_1 x_3_2 x_3_3 x_3_4 x_3_5 x_3_6 x_3_7 x_3_8 oa_5 i_6 vl_0 gx_3 ga_5 hS; cases hS
 | succ n ih =>
  have hr0 : ∀ {r : Bool} {l_0 : List law39_Op} {x_3_0 : Int} {x_3_1 : Str} {x_3_2 : Str} {x_3_3 : Str} {x_3_4 : Str} {x_3_5 : Str} {x_3_6 : Int} {x_3_7 : Int} {x_3_8 : Int} {oa_5 : login_Logins} {i_6 : Int} {vl_0 : Value} {gx_3 : Nat} {ga_5 : Nat}, law39_LoginStrength_L1 n l_0 x_3_0 x_3_1 x_3_2 x_3_3 x_3_4 x_3_5 x_3_6 x_3_7 x_3_8 oa_5 i_6 = some r → ∀ {ρ : Tags} {w : World}, (Fr (flat1 ρA) w0 ρ w) → (SlR law39_Op.c (Wb ρ) w vl_0 l_0) → (Blk ρ 5 w gx_3 (.cells #[.int .i64 x_3_0, str x_3_1, str x_3_2, str x_3_3, str x_3_4, str x_3_5, .int .i64 x_3_6, .int .i64 x_3_7, .int .i64 x_3_8] 33 (0, 0))) → (login_Logins.O (fun p => 100 + p) ρ w ga_5 oa_5) → KE Tryz.prog 4 (Ret (fun v w' => v = .bool r ∧ Below w0.heap.size w0 w')) 121 [.inLoop (sub (bodyOf Tryz.f4) [2, 2, 2, 2, 2, 1, 2, 2, 1]), .inBlock 0, .code (sub (bodyOf Tryz.f4) [2, 2, 2, 2, 2, 2])] [(0, vl_0), (3, .pointer (some ⟨gx_3, 0, none⟩)), (5, .pointer (some ⟨ga_5, 0, none⟩)), (6, .int .i64 i_6)] w := fun {r} {l_0} {x_3_0} {x_3_1} {x_3_2} {x_3_3} {x_3_4} {x_3_5} {x_3_6} {x_3_7} {x_3_8} {oa_5} {i_6} {vl_0} {gx_3} {ga_5} hS {ρ} {w} hb hl_0 hBx_3 hoa_5 => ke_inLoop (ih hS hb hl_0 hBx_3 hoa_5)
  clear ih
  intro r l_0 x_3_0 x_3_1 x_3_2 x_3_3 x_3_4 x_3_5 x_3_6 x_3_7 x_3_8 oa_5 i_6 vl_0 gx_3 ga_5 hS ρ w hb hl_0 hBx_3 hoa_5
  unfold law39_LoginStrength_L1 at hS
  obtain ⟨v72, v74, v76, v78, hB80, hP73, h75, h77, h79⟩ := hoa_5
  replace hB80 : Blk ρ 100 w ga_5 (.cells #[v72, v74, v76, v78] 69 (0, 0)) := hB80
  replace hP73 : PtrO secret_Locks.O (fun q => 100 + (1 + q)) ρ w v72 oa_5.locks := hP73
  replace h75 : MapT str login_credentials.c true ρ 104 w v74 oa_5.users := h75
  replace h77 : MapT str (intC .i64) false ρ 105 w v76 oa_5.counters := h77
  replace h79 : MapT str login_attempt.c true ρ 106 w v78 oa_5.attempts := h79
  refine ke_seq ?_
  refine ke_seq ?_
  refine ke_region ?_
  refine sr_ev (v := .int .i64 i_6) (ev_move rfl) (by decide) ?_
  refine sr_ev (v := vl_0) (ev_move rfl) (by decide) ?_
  refine sr_ev (v := .int .i64 (l_0.length : Int)) (ev_sllenW Tryz.underlying22 rfl hl_0.asSl) (by decide) ?_
  refine sr_ev (v := .bool (decide (i_6 < (l_0.length : Int)))) (ev_lt rfl rfl) (by decide) ?_
  refine sr_end (l' := [(0, vl_0), (3, .pointer (some ⟨gx_3, 0, none⟩)), (5, .pointer (some ⟨ga_5, 0, none⟩)), (6, .int .i64 i_6), (32, .bool (decide (i_6 < (l_0.length : Int))))]) (.cons rfl (.cons rfl (.cons rfl (.cons rfl (.cons rfl (.nil _)))))) ?_
  refine ke_cond (t := decide (i_6 < (l_0.length : Int))) rfl (fun hc81 => ?_) (fun hc81 => ?_)
  ·replace hS := ite_true' hS hc81
   refine ke_skip ?_
   refine ke_seq ?_
   refine ke_block ?_
   refine ke_region ?_
   refine sr_ev (v := .pointer (some ⟨ga_5, 0, none⟩)) (ev_move rfl) (by decide) ?_
   refine sr_ev (v := vl_0) (ev_move rfl) (by decide) ?_
   refine sr_ev (v := .int .i64 i_6) (ev_move rfl) (by decide) ?_
   obtain ⟨y82, hy83, hS⟩ := bind_some' hS
   obtain ⟨b84, o85, cs87, hq88, he86⟩ := ((SlT.of_sl (i := 0) hl_0)).elem (P := Tryz.prog) Tryz.underlying22 Tryz.info33 rfl hy83
   obtain rfl : cs87 = [.int .i64 y82.Kind, str y82.ID, str y82.User, str y82.Word, str y82.Code, str y82.S, .int .i64 y82.Level, .int .i64 y82.Rounds, .int .i64 y82.Now] := he86.rd
   refine sr_ev (v := .pointer (some ⟨b84, o85, none⟩)) (hq88 w rfl rfl) (by decide) ?_
   refine sr_ev (v := .agg #[.int .i64 y82.Kind, str y82.ID, str y82.User, str y82.Word, str y82.Code, str y82.S, .int .i64 y82.Level, .int .i64 y82.Rounds, .int .i64 y82.Now]) (ev_loads (cs := [.int .i64 y82.Kind, str y82.ID, str y82.User, str y82.Word, str y82.Code, str y82.S, .int .i64 y82.Level, .int .i64 y82.Rounds, .int .i64 y82.Now]) Tryz.isAgg33 Tryz.sizeOf33 rfl he86.cell) (by decide) ?_
   obtain ⟨y89, hy90, hS⟩ := bind_some' hS
   refine sr_call (vs := [.pointer (some ⟨ga_5, 0, none⟩), .agg #[.int .i64 y82.Kind, str y82.ID, str y82.User, str y82.Word, str y82.Code, str y82.S, .int .i64 y82.Level, .int .i64 y82.Rounds, .int .i64 y82.Now]]) rfl Tryz.call16 rfl (law39_play_ok _ (hg.fr hz hb) (ρA := ρ) hb.bd (hz.fr hg hb) (o := 100) (by decide) (⟨_, _, _, _, hB80, hP73, h75, h77, h79⟩ : login_Logins.O (fun p => 100 + p) ρ w ga_5 oa_5) hy90) (by decide) ?_
   rintro _ w91 ⟨ρ103, rfl, ⟨v94, v96, v98, v100, hB102, hP95, h97, h99, h101⟩, htr93⟩
   replace hl_0 := hl_0.mv htr93.rd
   replace hBx_3 := hBx_3.mv (htr93.mv (i := 5) rfl)
   replace hb := hb.trans htr93
   replace hB102 : Blk ρ103 100 w91 ga_5 (.cells #[v94, v96, v98, v100] 69 (0, 0)) := hB102
   replace hP95 : PtrO secret_Locks.O (fun q => 100 + (1 + q)) ρ103 w91 v94 y89.locks := hP95
   replace h97 : MapT str login_credentials.c true ρ103 104 w91 v96 y89.users := h97
   replace h99 : MapT str (intC .i64) false ρ103 105 w91 v98 y89.counters := h99
   replace h101 : MapT str login_attempt.c true ρ103 106 w91 v100 y89.attempts := h101
   refine sr_end (l' := [(0, vl_0), (3, .pointer (some ⟨gx_3, 0, none⟩)), (5, .pointer (some ⟨ga_5, 0, none⟩)), (6, .int .i64 i_6)]) (.cons rfl (.cons rfl (.cons rfl (.cons rfl (.nil _))))) ?_
   refine ke_inBlock ?_
   refine ke_region ?_
   refine sr_ev (v := .int .i64 i_6) (ev_move rfl) (by decide) ?_
   refine sr_ev (v := .int .i64 (IntKind.i64.wrap (i_6 + 1))) (ev_add rfl rfl) (by decide) ?_
   refine sr_ev (v := .int .i64 (IntKind.i64.wrap (i_6 + 1))) (ev_assign rfl) (by decide) ?_
   refine sr_end (l' := [(0, vl_0), (3, .pointer (some ⟨gx_3, 0, none⟩)), (5, .pointer (some ⟨ga_5, 0, none⟩)), (6, .int .i64 (IntKind.i64.wrap (i_6 + 1)))]) (.cons rfl (.cons rfl (.cons rfl (.cons rfl (.nil _))))) ?_
   have hK := hr0 hS hb hl_0 hBx_3 ⟨_, _, _, _, hB102, hP95, h97, h99, h101⟩
   exact ke_weaken (l' := [(0, vl_0), (3, .pointer (some ⟨gx_3, 0, none⟩)), (5, .pointer (some ⟨ga_5, 0, none⟩)), (6, .int .i64 (IntKind.i64.wrap (i_6 + 1)))]) (.cons rfl (.cons rfl (.cons rfl (.cons rfl (.nil _))))) hK
  ·replace hS := ite_false' hS hc81
   refine ke_exit (k' := _) rfl ?_
   refine ke_seq ?_
   refine ke_region ?_
   refine sr_ev (v := .pointer (some ⟨ga_5, 0, none⟩)) (ev_move rfl) (by decide) ?_
   refine sr_ev (v := .pointer (some ⟨gx_3, 6, none⟩)) (ev_fieldAddr (i := 6) Tryz.underlying33 rfl Tryz.info3 rfl rfl) (by decide) ?_
   refine sr_ev (v := .int .i64 x_3_6) (ev_load Tryz.isAgg3 rfl (hBx_3.cell rfl)) (by decide) ?_
   obtain ⟨y104, hy105, hS⟩ := bind_some' hS
   refine sr_call (vs := [.pointer (some ⟨ga_5, 0, none⟩), str ([102, 105, 114, 115, 116]), .int .i64 x_3_6, .int .i64 299]) rfl Tryz.call17 rfl (login_Logins_Finish_ok _ (hg.fr hz hb) (ρA := ρ) hb.bd (hz.fr hg hb) (o := 100) (by decide) (⟨_, _, _, _, hB80, hP73, h75, h77, h79⟩ : login_Logins.O (fun p => 100 + p) ρ w ga_5 oa_5) hy105) (by decide) ?_
   rintro _ w106 ⟨ρ120, v109, rfl, h110, ⟨v111, v113, v115, v117, hB119, hP112, h114, h116, h118⟩, htr108⟩
   replace hBx_3 := hBx_3.mv (htr108.mv (i := 5) rfl)
   replace hb := hb.trans htr108
   replace hB119 : Blk ρ120 100 w106 ga_5 (.cells #[v111, v113, v115, v117] 69 (0, 0)) := hB119
   replace hP112 : PtrO secret_Locks.O (fun q => 100 + (1 + q)) ρ120 w106 v111 y104.2.2.2.locks := hP112
   replace h114 : MapT str login_credentials.c true ρ120 104 w106 v113 y104.2.2.2.users := h114
   replace h116 : MapT str (intC .i64) false ρ120 105 w106 v115 y104.2.2.2.counters := h116
   replace h118 : MapT str login_attempt.c true ρ120 106 w106 v117 y104.2.2.2.attempts := h118
   refine sr_ev (v := .tuple #[str y104.1, v109, .int .i64 y104.2.2.1]) (ev_move rfl) (by decide) ?_
   refine sr_ev (v := str y104.1) (ev_extract rfl rfl) (by decide) ?_
   refine sr_ev (v := v109) (ev_extract rfl rfl) (by decide) ?_
   refine sr_ev (v := .int .i64 y104.2.2.1) (ev_extract rfl rfl) (by decide) ?_
   refine sr_ev (v := str y104.1) (ev_assign rfl) (by decide) ?_
   refine sr_ev (v := v109) (ev_assign rfl) (by decide) ?_
   refine sr_ev (v := .int .i64 y104.2.2.1) (ev_assign rfl) (by decide) ?_
   refine sr_end (l' := [(3, .pointer (some ⟨gx_3, 0, none⟩)), (5, .pointer (some ⟨ga_5, 0, none⟩)), (7, str y104.1), (8, v109), (9, .int .i64 y104.2.2.1)]) (.cons rfl (.cons rfl (.cons rfl (.cons rfl (.cons rfl (.nil _)))))) ?_
   refine ke_seq ?_
   refine ke_seq ?_
   refine ke_region ?_
   refine sr_ev (v := .int .i64 y104.2.2.1) (ev_move rfl) (by decide) ?_
   refine sr_ev (v := .bool (y104.2.2.1 != 0)) (ev_ne rfl rfl) (by decide) ?_
   refine sr_end (l' := [(3, .pointer (some ⟨gx_3, 0, none⟩)), (5, .pointer (some ⟨ga_5, 0, none⟩)), (7, str y104.1), (8, v109), (9, .int .i64 y104.2.2.1), (50, .bool (y104.2.2.1 != 0))]) (.cons rfl (.cons rfl (.cons rfl (.cons rfl (.cons rfl (.cons rfl (.nil _))))))) ?_
   refine ke_cond (t := y104.2.2.1 != 0) rfl (fun hc121 => ?_) (fun hc121 => ?_)
   ·replace hS := ite_true' hS hc121
    refine ke_seq ?_
    refine ke_region ?_
    refine sr_ev (v := str y104.1) (ev_move rfl) (by decide) ?_
    refine sr_ev (v := .bool (y104.1 == ([]))) (ev_seq rfl rfl) (by decide) ?_
    refine sr_ev (v := .bool (y104.1 == ([]))) (ev_move rfl) (by decide) ?_
    refine sr_join (m := 4) (C := fun (x : Bool) w1 => x = ((y104.1 == ([])) && ((y104.2.1.length : Int) == 0)) ∧ w106 = w1) (l' := fun x => [(9, .int .i64 y104.2.2.1), (57, .bool x)]) ?_ ?_
    ·rintro _ _ ⟨rfl, rfl⟩
     refine sr_ev (v := .bool ((y104.1 == ([])) && ((y104.2.1.length : Int) == 0))) (ev_move rfl) (by decide) ?_
     refine sr_join (m := 11) (C := fun (x : Bool) w1 => x = (((y104.1 == ([])) && ((y104.2.1.length : Int) == 0)) && (((y104.2.2.1 == 6) || (y104.2.2.1 == 21)) || (y104.2.2.1 == 13))) ∧ w106 = w1) (l' := fun x => [(69, .bool x)]) ?_ ?_
     ·rintro _ _ ⟨rfl, rfl⟩
      refine sr_ev (v := .bool (((y104.1 == ([])) && ((y104.2.1.length : Int) == 0)) && (((y104.2.2.1 == 6) || (y104.2.2.1 == 21)) || (y104.2.2.1 == 13)))) (ev_move rfl) (by decide) ?_
      obtain ⟨z156, hz158, hS⟩ := bind_some' hS
      refine sr_join (m := 2) (C := fun (z : Bool) w1 => z156 = z ∧ ∃ ρ1, Tr ρ120 w106 (fun _ => false) ρ1 w1) (l' := fun z => [(72, .bool z)]) ?_ ?_
      ·rintro _ w159 ⟨rfl, ρ160, hj157⟩
       replace hb := hb.trans hj157
       refine sr_ev (v := .bool z156) (ev_assign rfl) (by decide) ?_
       refine sr_end (l' := [(4, .bool z156)]) (.cons rfl (.nil _)) ?_
       cases hS
       exact ke_ret1 Tryz.func4 rfl rfl ⟨_, rfl, rfl, (hb.below (flat1_le _))⟩
      ·intro K155
       clear hS
       have hj157 : Tr ρ120 w106 (fun _ => false) ρ120 w106 := (Tr.refl hb.bd).weak (fun _ _ => rfl) rfl rfl
       rcases Bool.eq_false_or_eq_true (((y104.1 == ([])) && ((y104.2.1.length : Int) == 0)) && (((y104.2.2.1 == 6) || (y104.2.2.1 == 21)) || (y104.2.2.1 == 13))) with hg154 | hg154
       ·have hS := ite_true' hz158 hg154
        obtain ⟨y162, hy163, hS⟩ := bind_some' hS
        refine sr_callg (b := true) (e := 70) rfl rfl hg154 (vs := []) rfl Tryz.call10 rfl (law39_alive_ok _ (hg.fr hz hb) (ρA := ρ120) hb.bd (hz.fr hg hb) hy163) (by decide) ?_
        rintro _ w164 ⟨rfl, hbw165⟩
        have htr166 := Tr.of_below hbw165 hb.bd
        replace hb := hb.trans htr166
        replace hj157 := (hj157.trans htr166).weak (J' := (fun _ => false)) (by intro t h; simp [rng] at h ⊢ <;> omega) rfl rfl
        refine sr_ev (v := .bool y162) (ev_pick_t rfl hg154 rfl) (by decide) ?_
        exact sr_weaken (l' := [(72, .bool y162)]) (.cons rfl (.nil _)) (K155 y162 _ ⟨(Option.some.inj hS).symm, _, hj157⟩)
       ·have hS := ite_false' hz158 hg154
        refine sr_pass (e := 70) rfl rfl (by rw [hg154]; rfl) (by decide) ?_
        refine sr_ev (v := .bool false) (ev_pick_f rfl hg154 rfl) (by decide) ?_
        exact sr_weaken (l' := [(72, .bool false)]) (.cons rfl (.nil _)) (K155 false _ ⟨(Option.some.inj hS).symm, _, hj157⟩)
     ·intro K131
      rcases Bool.eq_false_or_eq_true ((y104.1 == ([])) && ((y104.2.1.length : Int) == 0)) with hg130 | hg130
      all_goals try have hj133 : Tr ρ120 w106 (fun _ => false) ρ120 w106 := Tr.refl hb.bd
      ·refine sr_evg (b := true) (e := 58) rfl rfl hg130 (v := .int .i64 y104.2.2.1) (ev_move rfl) (by decide) ?_
       refine sr_evg (b := true) (e := 58) rfl rfl hg130 (v := .bool (y104.2.2.1 == 6)) (ev_eq rfl rfl) (by decide) ?_
       refine sr_evg (b := true) (e := 58) rfl rfl hg130 (v := .bool (y104.2.2.1 == 6)) (ev_move rfl) (by decide) ?_
       refine sr_join (m := 3) (C := fun (x : Bool) w1 => x = ((y104.2.2.1 == 6) || (y104.2.2.1 == 21)) ∧ w106 = w1) (l' := fun x => [(9, .int .i64 y104.2.2.1), (58, .bool ((y104.1 == ([])) && ((y104.2.1.length : Int) == 0))), (64, .bool x)]) ?_ ?_
       ·rintro _ _ ⟨rfl, rfl⟩
        refine sr_evg (b := true) (e := 58) rfl rfl hg130 (v := .bool ((y104.2.2.1 == 6) || (y104.2.2.1 == 21))) (ev_move rfl) (by decide) ?_
        refine sr_join (m := 3) (C := fun (x : Bool) w1 => x = (((y104.2.2.1 == 6) || (y104.2.2.1 == 21)) || (y104.2.2.1 == 13)) ∧ w106 = w1) (l' := fun x => [(58, .bool ((y104.1 == ([])) && ((y104.2.1.length : Int) == 0))), (68, .bool x)]) ?_ ?_
        ·rintro _ _ ⟨rfl, rfl⟩
         refine sr_ev (v := .bool (((y104.2.2.1 == 6) || (y104.2.2.1 == 21)) || (y104.2.2.1 == 13))) (ev_pick_t rfl hg130 rfl) (by decide) ?_
         exact sr_weaken (l' := [(69, .bool (((y104.2.2.1 == 6) || (y104.2.2.1 == 21)) || (y104.2.2.1 == 13)))]) (.cons rfl (.nil _)) (K131 (((y104.2.2.1 == 6) || (y104.2.2.1 == 21)) || (y104.2.2.1 == 13)) _ ⟨by first | (rw [hg130]; rfl) | rfl, rfl⟩)
        ·intro K147
         rcases Bool.eq_false_or_eq_true ((y104.2.2.1 == 6) || (y104.2.2.1 == 21)) with hg146 | hg146
         all_goals try have hj149 : Tr ρ120 w106 (fun _ => false) ρ120 w106 := Tr.refl hb.bd
         ·refine sr_pass (e := 65) rfl rfl (by rw [hg146]; rfl) (by decide) ?_
          refine sr_pass (e := 65) rfl rfl (by rw [hg146]; rfl) (by decide) ?_
          refine sr_evg (b := true) (e := 58) rfl rfl hg130 (v := .bool true) (ev_pick_t rfl hg146 rfl) (by decide) ?_
          exact sr_weaken (l' := [(58, .bool ((y104.1 == ([])) && ((y104.2.1.length : Int) == 0))), (68, .bool true)]) (.cons rfl (.cons rfl (.nil _))) (K147 true _ ⟨by first | (rw [hg146]; rfl) | rfl, rfl⟩)
         ·refine sr_evg (b := false) (e := 65) rfl rfl hg146 (v := .int .i64 y104.2.2.1) (ev_move rfl) (by decide) ?_
          refine sr_evg (b := false) (e := 65) rfl rfl hg146 (v := .bool (y104.2.2.1 == 13)) (ev_eq rfl rfl) (by decide) ?_
          refine sr_evg (b := true) (e := 58) rfl rfl hg130 (v := .bool (y104.2.2.1 == 13)) (ev_pick_f rfl hg146 rfl) (by decide) ?_
          exact sr_weaken (l' := [(58, .bool ((y104.1 == ([])) && ((y104.2.1.length : Int) == 0))), (68, .bool (y104.2.2.1 == 13))]) (.cons rfl (.cons rfl (.nil _))) (K147 (y104.2.2.1 == 13) _ ⟨by first | (rw [hg146]; rfl) | rfl, rfl⟩)
       ·intro K139
        rcases Bool.eq_false_or_eq_true (y104.2.2.1 == 6) with hg138 | hg138
        all_goals try have hj141 : Tr ρ120 w106 (fun _ => false) ρ120 w106 := Tr.refl hb.bd
        ·refine sr_pass (e := 61) rfl rfl (by rw [hg138]; rfl) (by decide) ?_
         refine sr_pass (e := 61) rfl rfl (by rw [hg138]; rfl) (by decide) ?_
         refine sr_evg (b := true) (e := 58) rfl rfl hg130 (v := .bool true) (ev_pick_t rfl hg138 rfl) (by decide) ?_
         exact sr_weaken (l' := [(9, .int .i64 y104.2.2.1), (58, .bool ((y104.1 == ([])) && ((y104.2.1.length : Int) == 0))), (64, .bool true)]) (.cons rfl (.cons rfl (.cons rfl (.nil _)))) (K139 true _ ⟨by first | (rw [hg138]; rfl) | rfl, rfl⟩)
        ·refine sr_evg (b := false) (e := 61) rfl rfl hg138 (v := .int .i64 y104.2.2.1) (ev_move rfl) (by decide) ?_
         refine sr_evg (b := false) (e := 61) rfl rfl hg138 (v := .bool (y104.2.2.1 == 21)) (ev_eq rfl rfl) (by decide) ?_
         refine sr_evg (b := true) (e := 58) rfl rfl hg130 (v := .bool (y104.2.2.1 == 21)) (ev_pick_f rfl hg138 rfl) (by decide) ?_
         exact sr_weaken (l' := [(9, .int .i64 y104.2.2.1), (58, .bool ((y104.1 == ([])) && ((y104.2.1.length : Int) == 0))), (64, .bool (y104.2.2.1 == 21))]) (.cons rfl (.cons rfl (.cons rfl (.nil _)))) (K139 (y104.2.2.1 == 21) _ ⟨by first | (rw [hg138]; rfl) | rfl, rfl⟩)
      ·refine sr_pass (e := 58) rfl rfl (by rw [hg130]; rfl) (by decide) ?_
       refine sr_pass (e := 58) rfl rfl (by rw [hg130]; rfl) (by decide) ?_
       refine sr_pass (e := 58) rfl rfl (by rw [hg130]; rfl) (by decide) ?_
       refine sr_pass_undef (e := 61) rfl rfl (by decide) ?_
       refine sr_pass_undef (e := 61) rfl rfl (by decide) ?_
       refine sr_pass (e := 58) rfl rfl (by rw [hg130]; rfl) (by decide) ?_
       refine sr_pass (e := 58) rfl rfl (by rw [hg130]; rfl) (by decide) ?_
       refine sr_pass_undef (e := 65) rfl rfl (by decide) ?_
       refine sr_pass_undef (e := 65) rfl rfl (by decide) ?_
       refine sr_pass (e := 58) rfl rfl (by rw [hg130]; rfl) (by decide) ?_
       refine sr_ev (v := .bool false) (ev_pick_f rfl hg130 rfl) (by decide) ?_
       exact sr_weaken (l' := [(69, .bool false)]) (.cons rfl (.nil _)) (K131 false _ ⟨by first | (rw [hg130]; rfl) | rfl, rfl⟩)
    ·intro K123
     rcases Bool.eq_false_or_eq_true (y104.1 == ([])) with hg122 | hg122
     all_goals try have hj125 : Tr ρ120 w106 (fun _ => false) ρ120 w106 := Tr.refl hb.bd
     ·refine sr_evg (b := true) (e := 53) rfl rfl hg122 (v := v109) (ev_move rfl) (by decide) ?_
      refine sr_evg (b := true) (e := 53) rfl rfl hg122 (v := .int .i64 (y104.2.1.length : Int)) (ev_sllenW Tryz.underlying36 rfl h110.asSl) (by decide) ?_
      refine sr_evg (b := true) (e := 53) rfl rfl hg122 (v := .bool ((y104.2.1.length : Int) == 0)) (ev_eq rfl rfl) (by decide) ?_
      refine sr_ev (v := .bool ((y104.2.1.length : Int) == 0)) (ev_pick_t rfl hg122 rfl) (by decide) ?_
      exact sr_weaken (l' := [(9, .int .i64 y104.2.2.1), (57, .bool ((y104.2.1.length : Int) == 0))]) (.cons rfl (.cons rfl (.nil _))) (K123 ((y104.2.1.length : Int) == 0) _ ⟨by first | (rw [hg122]; rfl) | rfl, rfl⟩)
     ·refine sr_pass (e := 53) rfl rfl (by rw [hg122]; rfl) (by decide) ?_
      refine sr_pass (e := 53) rfl rfl (by rw [hg122]; rfl) (by decide) ?_
      refine sr_pass (e := 53) rfl rfl (by rw [hg122]; rfl) (by decide) ?_
      refine sr_ev (v := .bool false) (ev_pick_f rfl hg122 rfl) (by decide) ?_
      exact sr_weaken (l' := [(9, .int .i64 y104.2.2.1), (57, .bool false)]) (.cons rfl (.cons rfl (.nil _))) (K123 false _ ⟨by first | (rw [hg122]; rfl) | rfl, rfl⟩)
   ·replace hS := ite_false' hS hc121
    refine ke_skip ?_
    refine ke_seq ?_
    refine ke_region ?_
    refine sr_ev (v := v109) (ev_move rfl) (by decide) ?_
    obtain ⟨y167, hy168, hS⟩ := bind_some' hS
    refine sr_call (vs := [v109]) rfl Tryz.call18 rfl (strength_Level_ok _ (hg.fr hz hb) (ρA := ρ120) hb.bd (hz.fr hg hb) h110 hy168) (by decide) ?_
    rintro _ w169 ⟨rfl, hbw170⟩
    have htr171 := Tr.of_below hbw170 hb.bd
    replace h110 := h110.mv htr171.rd
    replace hBx_3 := hBx_3.mv (htr171.mv (i := 5) rfl)
    replace hB119 := hB119.mv (htr171.mv (i := 100) rfl)
    replace hP112 := PtrO.mv hP112 secret_Locks.objK (fun p hp => htr171.mv (i := 100 + (1 + p)) (by rcases p with _ | _ | _ | p <;> first | rfl | omega)) (fun p hp => by show 100 + (1 + p) ≠ 0; omega)
    replace h114 := h114.mv (htr171.mv (i := 104) rfl)
    replace h116 := h116.mv (htr171.mv (i := 105) rfl)
    replace h118 := h118.mv (htr171.mv (i := 106) rfl)
    replace hb := hb.trans htr171
    refine sr_ev (v := .int .i64 y167) (ev_assign rfl) (by decide) ?_
    refine sr_end (l' := [(3, .pointer (some ⟨gx_3, 0, none⟩)), (5, .pointer (some ⟨ga_5, 0, none⟩)), (8, v109), (10, .int .i64 y167)]) (.cons rfl (.cons rfl (.cons rfl (.cons rfl (.nil _))))) ?_
    refine ke_seq ?_
    refine ke_seq ?_
    refine ke_region_q Tryz.mixed (by kernel_rfl) ?_
    refine sq_ev (v := .int .i64 y167) (fun w1 hw1 => ev_move rfl) (by decide) ?_
    refine sq_ev (v := .pointer (some ⟨gx_3, 6, none⟩)) (fun w1 hw1 => ev_fieldAddr (i := 6) Tryz.underlying33 rfl Tryz.info3 rfl rfl) (by decide) ?_
    refine sq_ev (v := .int .i64 x_3_6) (fun w1 hw1 => ev_load Tryz.isAgg3 rfl ((hBx_3.mv (Mv.of_below (i := 5) (ρ := ρ120) hw1)).cell rfl)) (by decide) ?_
    refine sq_ev (v := .bool (decide (y167 < x_3_6))) (fun w1 hw1 => ev_lt rfl rfl) (by decide) ?_
    refine sq_ev (v := .bool (decide (y167 < x_3_6))) (fun w1 hw1 => ev_move rfl) (by decide) ?_
    refine sq_join (m := 3) (C := fun (x : Bool) => x = ((decide (y167 < x_3_6)) || (decide (y167 > 2)))) (l' := fun x => [(5, .pointer (some ⟨ga_5, 0, none⟩)), (8, v109), (10, .int .i64 y167), (82, .bool x)]) ?_ ?_
    ·rintro _ rfl
     refine sq_ev (v := .bool ((decide (y167 < x_3_6)) || (decide (y167 > 2)))) (fun w1 hw1 => ev_move rfl) (by decide) ?_
     refine sq_join (m := 5) (C := fun (x : Bool) => x = (((decide (y167 < x_3_6)) || (decide (y167 > 2))) || (y167 != (y104.2.1.length : Int)))) (l' := fun x => [(5, .pointer (some ⟨ga_5, 0, none⟩)), (8, v109), (88, .bool x)]) ?_ ?_
     ·rintro _ rfl
      refine sq_ev (v := .bool (((decide (y167 < x_3_6)) || (decide (y167 > 2))) || (y167 != (y104.2.1.length : Int)))) (fun w1 hw1 => ev_move rfl) (by decide) ?_
      obtain ⟨z190, hz192, hS⟩ := bind_some' hS
      refine sq_join (m := 15) (C := fun (x : Bool) => z190 = x) (l' := fun x => [(5, .pointer (some ⟨ga_5, 0, none⟩)), (104, .bool x)]) ?_ ?_
      ·rintro _ rfl
       refine sq_end (l' := [(5, .pointer (some ⟨ga_5, 0, none⟩)), (104, .bool z190)]) (.cons rfl (.cons rfl (.nil _))) (fun w173 hw172 => ?_)
       have htr216 := Tr.of_below hw172 hb.bd
       replace hB119 := hB119.mv (htr216.mv (i := 100) rfl)
       replace hP112 := PtrO.mv hP112 secret_Locks.objK (fun p hp => htr216.mv (i := 100 + (1 + p)) (by rcases p with _ | _ | _ | p <;> first | rfl | omega)) (fun p hp => by show 100 + (1 + p) ≠ 0; omega)
       replace h114 := h114.mv (htr216.mv (i := 104) rfl)
       replace h116 := h116.mv (htr216.mv (i := 105) rfl)
       replace h118 := h118.mv (htr216.mv (i := 106) rfl)
       replace hb := hb.trans htr216
       refine ke_cond (t := z190) rfl (fun hc217 => ?_) (fun hc217 => ?_)
       ·replace hS := ite_true' hS hc217
        refine ke_seq ?_
        refine ke_region ?_
        refine sr_ev (v := .bool false) (ev_assign rfl) (by decide) ?_
        refine sr_end (l' := [(4, .bool false)]) (.cons rfl (.nil _)) ?_
        cases hS
        exact ke_ret1 Tryz.func4 rfl rfl ⟨_, rfl, rfl, (hb.below (flat1_le _))⟩
       ·replace hS := ite_false' hS hc217
        refine ke_skip ?_
        refine ke_seq ?_
        refine ke_region ?_
        refine sr_ev (v := .pointer (some ⟨ga_5, 0, none⟩)) (ev_move rfl) (by decide) ?_
        obtain ⟨y218, hy219, hS⟩ := bind_some' hS
        refine sr_call (vs := [.pointer (some ⟨ga_5, 0, none⟩), str ([102, 105, 114, 115, 116]), .int .i64 0, .int .i64 299]) rfl Tryz.call17 rfl (login_Logins_Finish_ok _ (hg.fr hz hb) (ρA := ρ120) hb.bd (hz.fr hg hb) (o := 100) (by decide) (⟨_, _, _, _, hB119, hP112, h114, h116, h118⟩ : login_Logins.O (fun p => 100 + p) ρ120 w173 ga_5 y104.2.2.2) hy219) (by decide) ?_
        rintro _ w220 ⟨ρ234, v223, rfl, h224, ⟨v225, v227, v229, v231, hB233, hP226, h228, h230, h232⟩, htr222⟩
        replace hb := hb.trans htr222
        replace hB233 : Blk ρ234 100 w220 ga_5 (.cells #[v225, v227, v229, v231] 69 (0, 0)) := hB233
        replace hP226 : PtrO secret_Locks.O (fun q => 100 + (1 + q)) ρ234 w220 v225 y218.2.2.2.locks := hP226
        replace h228 : MapT str login_credentials.c true ρ234 104 w220 v227 y218.2.2.2.users := h228
        replace h230 : MapT str (intC .i64) false ρ234 105 w220 v229 y218.2.2.2.counters := h230
        replace h232 : MapT str login_attempt.c true ρ234 106 w220 v231 y218.2.2.2.attempts := h232
        refine sr_ev (v := .tuple #[str y218.1, v223, .int .i64 y218.2.2.1]) (ev_move rfl) (by decide) ?_
        refine sr_ev (v := str y218.1) (ev_extract rfl rfl) (by decide) ?_
        refine sr_ev (v := v223) (ev_extract rfl rfl) (by decide) ?_
        refine sr_ev (v := .int .i64 y218.2.2.1) (ev_extract rfl rfl) (by decide) ?_
        refine sr_ev (v := str y218.1) (ev_assign rfl) (by decide) ?_
        refine sr_ev (v := v223) (ev_assign rfl) (by decide) ?_
        refine sr_ev (v := .int .i64 y218.2.2.1) (ev_assign rfl) (by decide) ?_
        refine sr_end (l' := [(5, .pointer (some ⟨ga_5, 0, none⟩)), (13, .int .i64 y218.2.2.1)]) (.cons rfl (.cons rfl (.nil _))) ?_
        refine ke_seq ?_
        refine ke_region ?_
        refine sr_ev (v := .int .i64 y218.2.2.1) (ev_move rfl) (by decide) ?_
        refine sr_ev (v := .bool (y218.2.2.1 == 6)) (ev_eq rfl rfl) (by decide) ?_
        refine sr_ev (v := .bool (y218.2.2.1 == 6)) (ev_move rfl) (by decide) ?_
        obtain ⟨z237, hz239, hS⟩ := bind_some' hS
        refine sr_join (m := 4) (C := fun (z : Bool × login_Logins) w1 => z237 = z ∧ ∃ ρ1, login_Logins.O (fun p => 100 + p) ρ1 w1 ga_5 z.2 ∧ Tr ρ234 w220 (fun t => ([100, 101, 102, 103, 104, 105, 106] : List Nat).contains t) ρ1 w1) (l' := fun z => [(117, .bool z.1)]) ?_ ?_
        ·rintro _ w240 ⟨rfl, ρ241, ⟨v258, v260, v262, v264, hB266, hP259, h261, h263, h265⟩, hj238⟩
         replace hb := hb.trans hj238
         replace hB266 : Blk ρ241 100 w240 ga_5 (.cells #[v258, v260, v262, v264] 69 (0, 0)) := hB266
         replace hP259 : PtrO secret_Locks.O (fun q => 100 + (1 + q)) ρ241 w240 v258 z237.2.locks := hP259
         replace h261 : MapT str login_credentials.c true ρ241 104 w240 v260 z237.2.users := h261
         replace h263 : MapT str (intC .i64) false ρ241 105 w240 v262 z237.2.counters := h263
         replace h265 : MapT str login_attempt.c true ρ241 106 w240 v264 z237.2.attempts := h265
         refine sr_ev (v := .bool z237.1) (ev_move rfl) (by decide) ?_
         obtain ⟨z269, hz271, hS⟩ := bind_some' hS
         refine sr_join (m := 2) (C := fun (z : Bool) w1 => z269 = z ∧ ∃ ρ1, Tr ρ241 w240 (fun _ => false) ρ1 w1) (l' := fun z => [(120, .bool z)]) ?_ ?_
         ·rintro _ w272 ⟨rfl, ρ273, hj270⟩
          replace hb := hb.trans hj270
          refine sr_ev (v := .bool z269) (ev_assign rfl) (by decide) ?_
          refine sr_end (l' := [(4, .bool z269)]) (.cons rfl (.nil _)) ?_
          cases hS
          exact ke_ret1 Tryz.func4 rfl rfl ⟨_, rfl, rfl, (hb.below (flat1_le _))⟩
         ·intro K268
          clear hS
          have hj270 : Tr ρ241 w240 (fun _ => false) ρ241 w240 := (Tr.refl hb.bd).weak (fun _ _ => rfl) rfl rfl
          rcases Bool.eq_false_or_eq_true z237.1 with hg267 | hg267
          ·have hS := ite_true' hz271 hg267
           obtain ⟨y275, hy276, hS⟩ := bind_some' hS
           refine sr_callg (b := true) (e := 118) rfl rfl hg267 (vs := []) rfl Tryz.call10 rfl (law39_alive_ok _ (hg.fr hz hb) (ρA := ρ241) hb.bd (hz.fr hg hb) hy276) (by decide) ?_
           rintro _ w277 ⟨rfl, hbw278⟩
           have htr279 := Tr.of_below hbw278 hb.bd
           replace hb := hb.trans htr279
           replace hj270 := (hj270.trans htr279).weak (J' := (fun _ => false)) (by intro t h; simp [rng] at h ⊢ <;> omega) rfl rfl
           refine sr_ev (v := .bool y275) (ev_pick_t rfl hg267 rfl) (by decide) ?_
           exact sr_weaken (l' := [(120, .bool y275)]) (.cons rfl (.nil _)) (K268 y275 _ ⟨(Option.some.inj hS).symm, _, hj270⟩)
          ·have hS := ite_false' hz271 hg267
           refine sr_pass (e := 118) rfl rfl (by rw [hg267]; rfl) (by decide) ?_
           refine sr_ev (v := .bool false) (ev_pick_f rfl hg267 rfl) (by decide) ?_
           exact sr_weaken (l' := [(120, .bool false)]) (.cons rfl (.nil _)) (K268 false _ ⟨(Option.some.inj hS).symm, _, hj270⟩)
        ·intro K236
         clear hS
         have hj238 : Tr ρ234 w220 (fun t => ([100, 101, 102, 103, 104, 105, 106] : List Nat).contains t) ρ234 w220 := (Tr.refl hb.bd).weak (fun _ _ => rfl) rfl rfl
         rcases Bool.eq_false_or_eq_true (y218.2.2.1 == 6) with hg235 | hg235
         ·have hS := ite_true' hz239 hg235
          refine sr_evg (b := true) (e := 113) rfl rfl hg235 (v := .pointer (some ⟨ga_5, 0, none⟩)) (ev_move rfl) (by decide) ?_
          obtain ⟨y243, hy244, hS⟩ := bind_some' hS
          refine sr_callg (b := true) (e := 113) rfl rfl hg235 (vs := [.pointer (some ⟨ga_5, 0, none⟩), str ([102, 105, 114, 115, 116]), str ([115, 101, 99, 114, 101, 116, 119, 111, 114, 100]), .int .i64 299]) rfl Tryz.call19 rfl (login_Logins_Password_ok _ (hg.fr hz hb) (ρA := ρ234) hb.bd (hz.fr hg hb) (o := 100) (by decide) (⟨_, _, _, _, hB233, hP226, h228, h230, h232⟩ : login_Logins.O (fun p => 100 + p) ρ234 w220 ga_5 y218.2.2.2) hy244) (by decide) ?_
          rintro _ w245 ⟨ρ257, rfl, ⟨v248, v250, v252, v254, hB256, hP249, h251, h253, h255⟩, htr247⟩
          replace hb := hb.trans htr247
          replace hj238 := (hj238.trans htr247).weak (J' := (fun t => ([100, 101, 102, 103, 104, 105, 106] : List Nat).contains t)) (by intro t h; simp [rng] at h ⊢ <;> omega) rfl rfl
          replace hB256 : Blk ρ257 100 w245 ga_5 (.cells #[v248, v250, v252, v254] 69 (0, 0)) := hB256
          replace hP249 : PtrO secret_Locks.O (fun q => 100 + (1 + q)) ρ257 w245 v248 y243.2.locks := hP249
          replace h251 : MapT str login_credentials.c true ρ257 104 w245 v250 y243.2.users := h251
          replace h253 : MapT str (intC .i64) false ρ257 105 w245 v252 y243.2.counters := h253
          replace h255 : MapT str login_attempt.c true ρ257 106 w245 v254 y243.2.attempts := h255
          refine sr_evg (b := true) (e := 113) rfl rfl hg235 (v := .bool (y243.1 == 6)) (ev_eq rfl rfl) (by decide) ?_
          refine sr_ev (v := .bool (y243.1 == 6)) (ev_pick_t rfl hg235 rfl) (by decide) ?_
          exact sr_weaken (l' := [(117, .bool (y243.1 == 6))]) (.cons rfl (.nil _)) (K236 (y243.1 == 6, y243.2) _ ⟨(Option.some.inj hS).symm, _, ⟨_, _, _, _, hB256, hP249, h251, h253, h255⟩, hj238⟩)
         ·have hS := ite_false' hz239 hg235
          refine sr_pass (e := 113) rfl rfl (by rw [hg235]; rfl) (by decide) ?_
          refine sr_pass (e := 113) rfl rfl (by rw [hg235]; rfl) (by decide) ?_
          refine sr_pass (e := 113) rfl rfl (by rw [hg235]; rfl) (by decide) ?_
          refine sr_ev (v := .bool false) (ev_pick_f rfl hg235 rfl) (by decide) ?_
          exact sr_weaken (l' := [(117, .bool false)]) (.cons rfl (.nil _)) (K236 (false, y218.2.2.2) _ ⟨(Option.some.inj hS).symm, _, ⟨_, _, _, _, hB233, hP226, h228, h230, h232⟩, hj238⟩)
      ·intro K189
       clear hS
       rcases Bool.eq_false_or_eq_true (((decide (y167 < x_3_6)) || (decide (y167 > 2))) || (y167 != (y104.2.1.length : Int))) with hg188 | hg188
       ·have hS := ite_true' hz192 hg188
        refine sq_pass (e := 89) rfl rfl (by rw [hg188]; rfl) (by decide) ?_
        refine sq_pass (e := 89) rfl rfl (by rw [hg188]; rfl) (by decide) ?_
        refine sq_pass (e := 89) rfl rfl (by rw [hg188]; rfl) (by decide) ?_
        refine sq_pass (e := 89) rfl rfl (by rw [hg188]; rfl) (by decide) ?_
        refine sq_pass_undef (e := 93) rfl rfl (by decide) ?_
        refine sq_pass_undef (e := 93) rfl rfl (by decide) ?_
        refine sq_pass_undef (e := 93) rfl rfl (by decide) ?_
        refine sq_pass_undef (e := 93) rfl rfl (by decide) ?_
        refine sq_pass_undef (e := 93) rfl rfl (by decide) ?_
        refine sq_pass_undef (e := 93) rfl rfl (by decide) ?_
        refine sq_pass_undef (e := 93) rfl rfl (by decide) ?_
        refine sq_pass_undef (e := 93) rfl rfl (by decide) ?_
        refine sq_pass_undef (e := 93) rfl rfl (by decide) ?_
        refine sq_pass (e := 89) rfl rfl (by rw [hg188]; rfl) (by decide) ?_
        refine sq_ev (v := .bool true) (fun w1 hw1 => ev_pick_t rfl hg188 rfl) (by decide) ?_
        exact sq_weaken (l' := [(5, .pointer (some ⟨ga_5, 0, none⟩)), (104, .bool true)]) (.cons rfl (.cons rfl (.nil _))) (K189 true (Option.some.inj hS).symm)
       ·have hS := ite_false' hz192 hg188
        refine sq_evg (b := false) (e := 89) rfl rfl hg188 (v := v109) (fun w1 hw1 => ev_move rfl) (by decide) ?_
        refine sq_evg (b := false) (e := 89) rfl rfl hg188 (v := .int .i64 (y104.2.1.length : Int)) (fun w1 hw1 => ev_sllenW Tryz.underlying36 rfl h110.asSl) (by decide) ?_
        refine sq_evg (b := false) (e := 89) rfl rfl hg188 (v := .bool ((y104.2.1.length : Int) == 2)) (fun w1 hw1 => ev_eq rfl rfl) (by decide) ?_
        refine sq_evg (b := false) (e := 89) rfl rfl hg188 (v := .bool ((y104.2.1.length : Int) == 2)) (fun w1 hw1 => ev_move rfl) (by decide) ?_
        obtain ⟨z197, hz199, hS⟩ := bind_some' hS
        refine sq_join (m := 10) (C := fun (x : Bool) => z197 = x) (l' := fun x => [(5, .pointer (some ⟨ga_5, 0, none⟩)), (89, .bool (((decide (y167 < x_3_6)) || (decide (y167 > 2))) || (y167 != (y104.2.1.length : Int)))), (103, .bool x)]) ?_ ?_
        ·rintro _ rfl
         refine sq_ev (v := .bool z197) (fun w1 hw1 => ev_pick_f rfl hg188 rfl) (by decide) ?_
         exact sq_weaken (l' := [(5, .pointer (some ⟨ga_5, 0, none⟩)), (104, .bool z197)]) (.cons rfl (.cons rfl (.nil _))) (K189 z197 (Option.some.inj hS).symm)
        ·intro K196
         clear hS
         rcases Bool.eq_false_or_eq_true ((y104.2.1.length : Int) == 2) with hg195 | hg195
         ·have hS := ite_true' hz199 hg195
          refine sq_evg (b := true) (e := 93) rfl rfl hg195 (v := v109) (fun w1 hw1 => ev_move rfl) (by decide) ?_
          obtain ⟨y202, hy203, hS⟩ := bind_some' hS
          obtain ⟨b204, o205, cs207, hq208, he206⟩ := ((SlT.of_sl (i := 0) h110)).elem (P := Tryz.prog) Tryz.underlying36 Tryz.info42 rfl hy203
          obtain rfl : cs207 = [.int .i64 y202.Factor, .int .i64 y202.Time] := he206.rd
          refine sq_evg (b := true) (e := 93) rfl rfl hg195 (v := .pointer (some ⟨b204, o205, none⟩)) (fun w1 hw1 => hq208 w1 rfl rfl) (by decide) ?_
          refine sq_evg (b := true) (e := 93) rfl rfl hg195 (v := .pointer (some ⟨b204, o205 + 0, none⟩)) (fun w1 hw1 => ev_fieldAddr (i := 0) Tryz.underlying42 rfl Tryz.info40 rfl rfl) (by decide) ?_
          refine sq_evg (b := true) (e := 93) rfl rfl hg195 (v := .int .i64 y202.Factor) (fun w1 hw1 => ev_load Tryz.isAgg40 rfl ((he206.mv (Mv.of_below (i := 0) (ρ := ρ120) hw1) (Nat.succ_pos _)).cell 0 _ rfl)) (by decide) ?_
          refine sq_evg (b := true) (e := 93) rfl rfl hg195 (v := v109) (fun w1 hw1 => ev_move rfl) (by decide) ?_
          obtain ⟨y209, hy210, hS⟩ := bind_some' hS
          obtain ⟨b211, o212, cs214, hq215, he213⟩ := ((SlT.of_sl (i := 0) h110)).elem (P := Tryz.prog) Tryz.underlying36 Tryz.info42 rfl hy210
          obtain rfl : cs214 = [.int .i64 y209.Factor, .int .i64 y209.Time] := he213.rd
          refine sq_evg (b := true) (e := 93) rfl rfl hg195 (v := .pointer (some ⟨b211, o212, none⟩)) (fun w1 hw1 => hq215 w1 rfl rfl) (by decide) ?_
          refine sq_evg (b := true) (e := 93) rfl rfl hg195 (v := .pointer (some ⟨b211, o212 + 0, none⟩)) (fun w1 hw1 => ev_fieldAddr (i := 0) Tryz.underlying42 rfl Tryz.info40 rfl rfl) (by decide) ?_
          refine sq_evg (b := true) (e := 93) rfl rfl hg195 (v := .int .i64 y209.Factor) (fun w1 hw1 => ev_load Tryz.isAgg40 rfl ((he213.mv (Mv.of_below (i := 0) (ρ := ρ120) hw1) (Nat.succ_pos _)).cell 0 _ rfl)) (by decide) ?_
          refine sq_evg (b := true) (e := 93) rfl rfl hg195 (v := .bool (y202.Factor == y209.Factor)) (fun w1 hw1 => ev_eq rfl rfl) (by decide) ?_
          refine sq_evg (b := false) (e := 89) rfl rfl hg188 (v := .bool (y202.Factor == y209.Factor)) (fun w1 hw1 => ev_pick_t rfl hg195 rfl) (by decide) ?_
          exact sq_weaken (l' := [(5, .pointer (some ⟨ga_5, 0, none⟩)), (89, .bool (((decide (y167 < x_3_6)) || (decide (y167 > 2))) || (y167 != (y104.2.1.length : Int)))), (103, .bool (y202.Factor == y209.Factor))]) (.cons rfl (.cons rfl (.cons rfl (.nil _)))) (K196 (y202.Factor == y209.Factor) (Option.some.inj hS).symm)
         ·have hS := ite_false' hz199 hg195
          refine sq_pass (e := 93) rfl rfl (by rw [hg195]; rfl) (by decide) ?_
          refine sq_pass (e := 93) rfl rfl (by rw [hg195]; rfl) (by decide) ?_
          refine sq_pass (e := 93) rfl rfl (by rw [hg195]; rfl) (by decide) ?_
          refine sq_pass (e := 93) rfl rfl (by rw [hg195]; rfl) (by decide) ?_
          refine sq_pass (e := 93) rfl rfl (by rw [hg195]; rfl) (by decide) ?_
          refine sq_pass (e := 93) rfl rfl (by rw [hg195]; rfl) (by decide) ?_
          refine sq_pass (e := 93) rfl rfl (by rw [hg195]; rfl) (by decide) ?_
          refine sq_pass (e := 93) rfl rfl (by rw [hg195]; rfl) (by decide) ?_
          refine sq_pass (e := 93) rfl rfl (by rw [hg195]; rfl) (by decide) ?_
          refine sq_evg (b := false) (e := 89) rfl rfl hg188 (v := .bool false) (fun w1 hw1 => ev_pick_f rfl hg195 rfl) (by decide) ?_
          exact sq_weaken (l' := [(5, .pointer (some ⟨ga_5, 0, none⟩)), (89, .bool (((decide (y167 < x_3_6)) || (decide (y167 > 2))) || (y167 != (y104.2.1.length : Int)))), (103, .bool false)]) (.cons rfl (.cons rfl (.cons rfl (.nil _)))) (K196 false (Option.some.inj hS).symm)
     ·intro K182
      rcases Bool.eq_false_or_eq_true ((decide (y167 < x_3_6)) || (decide (y167 > 2))) with hg181 | hg181
      ·refine sq_pass (e := 83) rfl rfl (by rw [hg181]; rfl) (by decide) ?_
       refine sq_pass (e := 83) rfl rfl (by rw [hg181]; rfl) (by decide) ?_
       refine sq_pass (e := 83) rfl rfl (by rw [hg181]; rfl) (by decide) ?_
       refine sq_pass (e := 83) rfl rfl (by rw [hg181]; rfl) (by decide) ?_
       refine sq_ev (v := .bool true) (fun w1 hw1 => ev_pick_t rfl hg181 rfl) (by decide) ?_
       exact sq_weaken (l' := [(5, .pointer (some ⟨ga_5, 0, none⟩)), (8, v109), (88, .bool true)]) (.cons rfl (.cons rfl (.cons rfl (.nil _)))) (K182 true (by rw [hg181]; rfl))
      ·refine sq_evg (b := false) (e := 83) rfl rfl hg181 (v := .int .i64 y167) (fun w1 hw1 => ev_move rfl) (by decide) ?_
       refine sq_evg (b := false) (e := 83) rfl rfl hg181 (v := v109) (fun w1 hw1 => ev_move rfl) (by decide) ?_
       refine sq_evg (b := false) (e := 83) rfl rfl hg181 (v := .int .i64 (y104.2.1.length : Int)) (fun w1 hw1 => ev_sllenW Tryz.underlying36 rfl h110.asSl) (by decide) ?_
       refine sq_evg (b := false) (e := 83) rfl rfl hg181 (v := .bool (y167 != (y104.2.1.length : Int))) (fun w1 hw1 => ev_ne rfl rfl) (by decide) ?_
       refine sq_ev (v := .bool (y167 != (y104.2.1.length : Int))) (fun w1 hw1 => ev_pick_f rfl hg181 rfl) (by decide) ?_
       exact sq_weaken (l' := [(5, .pointer (some ⟨ga_5, 0, none⟩)), (8, v109), (88, .bool (y167 != (y104.2.1.length : Int)))]) (.cons rfl (.cons rfl (.cons rfl (.nil _)))) (K182 (y167 != (y104.2.1.length : Int)) (by rw [hg181]; rfl))
    ·intro K175
     rcases Bool.eq_false_or_eq_true (decide (y167 < x_3_6)) with hg174 | hg174
     ·refine sq_pass (e := 79) rfl rfl (by rw [hg174]; rfl) (by decide) ?_
      refine sq_pass (e := 79) rfl rfl (by rw [hg174]; rfl) (by decide) ?_
      refine sq_ev (v := .bool true) (fun w1 hw1 => ev_pick_t rfl hg174 rfl) (by decide) ?_
      exact sq_weaken (l' := [(5, .pointer (some ⟨ga_5, 0, none⟩)), (8, v109), (10, .int .i64 y167), (82, .bool true)]) (.cons rfl (.cons rfl (.cons rfl (.cons rfl (.nil _))))) (K175 true (by rw [hg174]; rfl))
     ·refine sq_evg (b := false) (e := 79) rfl rfl hg174 (v := .int .i64 y167) (fun w1 hw1 => ev_move rfl) (by decide) ?_
      refine sq_evg (b := false) (e := 79) rfl rfl hg174 (v := .bool (decide (y167 > 2))) (fun w1 hw1 => ev_gt rfl rfl) (by decide) ?_
      refine sq_ev (v := .bool (decide (y167 > 2))) (fun w1 hw1 => ev_pick_f rfl hg174 rfl) (by decide) ?_
      exact sq_weaken (l' := [(5, .pointer (some ⟨ga_5, 0, none⟩)), (8, v109), (10, .int .i64 y167), (82, .bool (decide (y167 > 2)))]) (.cons rfl (.cons rfl (.cons rfl (.cons rfl (.nil _))))) (K175 (decide (y167 > 2)) (by rw [hg174]; rfl))
theorem law39_LoginStrength_ok (w0 : World) (hg : Gs w0) {ρA : Tags} (hbd : ∀ b, ρA b ≠ 0 → b < w0.heap.size) (hz : Gz ρA) {l_0 : List law39_Op} {x_1 : law39_Op} {v1 : Value} {r : Bool} (h2 : SlR law39_Op.c (Wb ρA) w0 v1 l_0) (hS : law39_LoginStrength l_0 x_1 = some r) :
  Calls Tryz.prog 4 #[v1, .agg #[.int .i64 x_1.Kind, str x_1.ID, str x_1.User, str x_1.Word, str x_1.Code, str x_1.S, .int .i64 x_1.Level, .int .i64 x_1.Rounds, .int .i64 x_1.Now]] w0 (Ret (fun v w' => v = .bool r ∧ Below w0.heap.size w0 w')) := by
 unfold law39_LoginStrength at hS
 have hb := flat1_fr (ρ := ρA) (w := w0) hbd
 have hz := hz.flat1
 replace h2 := SlR.mv h2 flat1_rd
 refine calls_of_ke Tryz.func4 rfl (n := 121) rfl rfl (l := [(0, v1), (1, .agg #[.int .i64 x_1.Kind, str x_1.ID, str x_1.User, str x_1.Word, str x_1.Code, str x_1.S, .int .i64 x_1.Level, .int .i64 x_1.Rounds, .int .i64 x_1.Now])]) rfl ?_
 refine ke_seq ?_
 refine ke_region ?_
 refine sr_boxT 5 (by decide) hb.bd rfl (by decide) ?_
 intro g3 ρ4 w5 hB7 htr6
 replace h2 := h2.mv htr6.rd
 replace hb := hb.trans htr6
 replace hB7 : Blk ρ4 5 w5 g3 (.cells #[.int .i64 x_1.Kind, str x_1.ID, str x_1.User, str x_1.Word, str x_1.Code, str x_1.S, .int .i64 x_1.Level, .int .i64 x_1.Rounds, .int .i64 x_1.Now] 33 (0, 0)) := hB7
 refine sr_ev (v := .bool false) (ev_assign rfl) (by decide) ?_
 refine sr_end (l' := [(0, v1), (3, .pointer (some ⟨g3, 0, none⟩))]) (.cons rfl (.cons rfl (.nil _))) ?_
 refine ke_seq ?_
 refine ke_seq ?_
 refine ke_region ?_
 refine sr_ev (v := v1) (ev_move rfl) (by decide) ?_
 obtain ⟨y8, hy9, hS⟩ := bind_some' hS
 refine sr_call (vs := [v1]) rfl Tryz.call9 rfl (law39_few_ok _ (hg.fr hz hb) h2.asSl hy9) (by decide) ?_
 rintro _ w10 ⟨rfl, hbw11⟩
 have htr12 := Tr.of_below hbw11 hb.bd
 replace h2 := h2.mv htr12.rd
 replace hB7 := hB7.mv (htr12.mv (i := 5) rfl)
 replace hb := hb.trans htr12
 refine sr_ev (v := .bool (!y8)) (ev_not rfl) (by decide) ?_
 refine sr_ev (v := .bool (!y8)) (ev_move rfl) (by decide) ?_
 obtain ⟨z15, hz17, hS⟩ := bind_some' hS
 refine sr_join (m := 5) (C := fun (z : Bool) w1 => z15 = z ∧ ∃ ρ1, Tr ρ4 w10 (fun _ => false) ρ1 w1) (l' := fun z => [(0, v1), (3, .pointer (some ⟨g3, 0, none⟩)), (22, .bool z)]) ?_ ?_
 ·rintro _ w18 ⟨rfl, ρ19, hj16⟩
  replace h2 := h2.mv hj16.rd
  replace hB7 := hB7.mv (hj16.mv (i := 5) rfl)
  replace hb := hb.trans hj16
  refine sr_end (l' := [(0, v1), (3, .pointer (some ⟨g3, 0, none⟩)), (22, .bool z15)]) (.cons rfl (.cons rfl (.cons rfl (.nil _)))) ?_
  refine ke_cond (t := z15) rfl (fun hc31 => ?_) (fun hc31 => ?_)
  ·replace hS := ite_true' hS hc31
   refine ke_seq ?_
   refine ke_region ?_
   obtain ⟨y32, hy33, hS⟩ := bind_some' hS
   refine sr_call (vs := []) rfl Tryz.call10 rfl (law39_alive_ok _ (hg.fr hz hb) (ρA := ρ19) hb.bd (hz.fr hg hb) hy33) (by decide) ?_
   rintro _ w34 ⟨rfl, hbw35⟩
   have htr36 := Tr.of_below hbw35 hb.bd
   replace hb := hb.trans htr36
   refine sr_ev (v := .bool y32) (ev_assign rfl) (by decide) ?_
   refine sr_end (l' := [(4, .bool y32)]) (.cons rfl (.nil _)) ?_
   cases hS
   exact ke_ret1 Tryz.func4 rfl rfl ⟨_, rfl, rfl, (hb.below (flat1_le _))⟩
  ·replace hS := ite_false' hS hc31
   refine ke_skip ?_
   refine ke_seq ?_
   refine ke_region ?_
   obtain ⟨y37, hy38, hS⟩ := bind_some' hS
   refine sr_call (vs := [.int .i64 256]) rfl Tryz.call11 rfl (law39_ann_ok _ (hg.fr hz hb) (ρA := ρ19) hb.bd (hz.fr hg hb) (o := 100) (by decide) hy38) (by decide) ?_
   rintro v42 w39 ⟨ρ44, _, rfl, hP43, htr41⟩
   replace h2 := h2.mv htr41.rd
   replace hB7 := hB7.mv (htr41.mv (i := 5) rfl)
   replace hb := hb.trans htr41
   rcases ho46 : y37 with _ | z45
   ·replace hS := optC_none hS ho46
    obtain rfl := hP43.none_ ho46
    refine sr_ev (v := .pointer none) (ev_assign rfl) (by decide) ?_
    refine sr_end (l' := [(0, v1), (3, .pointer (some ⟨g3, 0, none⟩)), (5, .pointer none)]) (.cons rfl (.cons rfl (.cons rfl (.nil _)))) ?_
    refine ke_seq ?_
    refine ke_seq ?_
    refine ke_region ?_
    refine sr_ev (v := .pointer none) (ev_move rfl) (by decide) ?_
    refine sr_ev (v := .bool true) (ev_peqT_nil Tryz.underlying25 rfl rfl) (by decide) ?_
    refine sr_end (l' := [(0, v1), (3, .pointer (some ⟨g3, 0, none⟩)), (5, .pointer none), (26, .bool true)]) (.cons rfl (.cons rfl (.cons rfl (.cons rfl (.nil _))))) ?_
    refine ke_cond (t := true) rfl (fun _ => ?_) (fun h => by cases h)
    refine ke_seq ?_
    refine ke_region ?_
    refine sr_ev (v := .bool false) (ev_assign rfl) (by decide) ?_
    refine sr_end (l' := [(4, .bool false)]) (.cons rfl (.nil _)) ?_
    cases hS
    exact ke_ret1 Tryz.func4 rfl rfl ⟨_, rfl, rfl, (hb.below (flat1_le _))⟩
   ·replace hS := optC_some hS ho46
    obtain ⟨g47, rfl, ⟨v48, v50, v52, v54, hB56, hP49, h51, h53, h55⟩⟩ := hP43.some_ ho46
    replace hB56 : Blk ρ44 100 w39 g47 (.cells #[v48, v50, v52, v54] 69 (0, 0)) := hB56
    replace hP49 : PtrO secret_Locks.O (fun q => 100 + (1 + q)) ρ44 w39 v48 z45.locks := hP49
    replace h51 : MapT str login_credentials.c true ρ44 104 w39 v50 z45.users := h51
    replace h53 : MapT str (intC .i64) false ρ44 105 w39 v52 z45.counters := h53
    replace h55 : MapT str login_attempt.c true ρ44 106 w39 v54 z45.attempts := h55
    refine sr_ev (v := .pointer (some ⟨g47, 0, none⟩)) (ev_assign rfl) (by decide) ?_
    refine sr_end (l' := [(0, v1), (3, .pointer (some ⟨g3, 0, none⟩)), (5, .pointer (some ⟨g47, 0, none⟩))]) (.cons rfl (.cons rfl (.cons rfl (.nil _)))) ?_
    refine ke_seq ?_
    refine ke_seq ?_
    refine ke_region ?_
    refine sr_ev (v := .pointer (some ⟨g47, 0, none⟩)) (ev_move rfl) (by decide) ?_
    refine sr_ev (v := .bool false) (ev_peqT_some Tryz.underlying25 rfl rfl) (by decide) ?_
    refine sr_end (l' := [(0, v1), (3, .pointer (some ⟨g3, 0, none⟩)), (5, .pointer (some ⟨g47, 0, none⟩)), (26, .bool false)]) (.cons rfl (.cons rfl (.cons rfl (.cons rfl (.nil _))))) ?_
    refine ke_cond (t := false) rfl (fun h => by cases h) (fun _ => ?_)
    refine ke_skip ?_
    refine ke_seq ?_
    refine ke_region ?_
    refine sr_ev (v := .pointer (some ⟨g47, 0, none⟩)) (ev_move rfl) (by decide) ?_
    obtain ⟨y57, hy58, hS⟩ := bind_some' hS
    refine sr_call (vs := [.pointer (some ⟨g47, 0, none⟩), str ([102, 105, 114, 115, 116]), str ([97, 110, 110]), .int .i64 0]) rfl Tryz.call14 rfl (login_Logins_Begin_ok _ (hg.fr hz hb) (ρA := ρ44) hb.bd (hz.fr hg hb) (o := 100) (by decide) (⟨_, _, _, _, hB56, hP49, h51, h53, h55⟩ : login_Logins.O (fun p => 100 + p) ρ44 w39 g47 z45) hy58) (by decide) ?_
    rintro _ w59 ⟨ρ71, rfl, ⟨v62, v64, v66, v68, hB70, hP63, h65, h67, h69⟩, htr61⟩
    replace h2 := h2.mv htr61.rd
    replace hB7 := hB7.mv (htr61.mv (i := 5) rfl)
    replace hb := hb.trans htr61
    replace hB70 : Blk ρ71 100 w59 g47 (.cells #[v62, v64, v66, v68] 69 (0, 0)) := hB70
    replace hP63 : PtrO secret_Locks.O (fun q => 100 + (1 + q)) ρ71 w59 v62 y57.2.locks := hP63
    replace h65 : MapT str login_credentials.c true ρ71 104 w59 v64 y57.2.users := h65
    replace h67 : MapT str (intC .i64) false ρ71 105 w59 v66 y57.2.counters := h67
    replace h69 : MapT str login_attempt.c true ρ71 106 w59 v68 y57.2.attempts := h69
    refine sr_end (l' := [(0, v1), (3, .pointer (some ⟨g3, 0, none⟩)), (5, .pointer (some ⟨g47, 0, none⟩))]) (.cons rfl (.cons rfl (.cons rfl (.nil _)))) ?_
    refine ke_seq ?_
    refine ke_seq ?_
    refine ke_region ?_
    refine sr_ev (v := .int .i64 0) (ev_assign rfl) (by decide) ?_
    refine sr_end (l' := [(0, v1), (3, .pointer (some ⟨g3, 0, none⟩)), (5, .pointer (some ⟨g47, 0, none⟩)), (6, .int .i64 0)]) (.cons rfl (.cons rfl (.cons rfl (.cons rfl (.nil _))))) ?_
    refine ke_block ?_
    have hK := law39_LoginStrength_L1_ok hg hbd hz _ hS hb h2 hB7 ⟨_, _, _, _, hB70, hP63, h65, h67, h69⟩
    exact ke_weaken (l' := [(0, v1), (3, .pointer (some ⟨g3, 0, none⟩)), (5, .pointer (some ⟨g47, 0, none⟩)), (6, .int .i64 0)]) (.cons rfl (.cons rfl (.cons rfl (.cons rfl (.nil _))))) (ke_loop hK)
 ·intro K14
  clear hS
  have hj16 : Tr ρ4 w10 (fun _ => false) ρ4 w10 := (Tr.refl hb.bd).weak (fun _ _ => rfl) rfl rfl
  rcases Bool.eq_false_or_eq_true (!y8) with hg13 | hg13
  ·have hS := ite_true' hz17 hg13
   refine sr_pass (e := 17) rfl rfl (by rw [hg13]; rfl) (by decide) ?_
   refine sr_pass (e := 17) rfl rfl (by rw [hg13]; rfl) (by decide) ?_
   refine sr_pass (e := 17) rfl rfl (by rw [hg13]; rfl) (by decide) ?_
   refine sr_pass (e := 17) rfl rfl (by rw [hg13]; rfl) (by decide) ?_
   refine sr_ev (v := .bool true) (ev_pick_t rfl hg13 rfl) (by decide) ?_
   exact sr_weaken (l' := [(0, v1), (3, .pointer (some ⟨g3, 0, none⟩)), (22, .bool true)]) (.cons rfl (.cons rfl (.cons rfl (.nil _)))) (K14 true _ ⟨(Option.some.inj hS).symm, _, hj16⟩)
  ·have hS := ite_false' hz17 hg13
   refine sr_evg (b := false) (e := 17) rfl rfl hg13 (v := .agg #[.int .i64 x_1.Kind, str x_1.ID, str x_1.User, str x_1.Word, str x_1.Code, str x_1.S, .int .i64 x_1.Level, .int .i64 x_1.Rounds, .int .i64 x_1.Now]) (ev_loads (cs := [.int .i64 x_1.Kind, str x_1.ID, str x_1.User, str x_1.Word, str x_1.Code, str x_1.S, .int .i64 x_1.Level, .int .i64 x_1.Rounds, .int .i64 x_1.Now]) Tryz.isAgg33 Tryz.sizeOf33 rfl (hB7.cells (vs := [.int .i64 x_1.Kind, str x_1.ID, str x_1.User, str x_1.Word, str x_1.Code, str x_1.S, .int .i64 x_1.Level, .int .i64 x_1.Rounds, .int .i64 x_1.Now]) rfl)) (by decide) ?_
   refine sr_unguard rfl rfl hg13 ?_
   refine sr_litT (c := law39_Op.c) (ρ := ρ4) (E := 33) (xs := [x_1]) (vs := #[(0, .agg #[.int .i64 x_1.Kind, str x_1.ID, str x_1.User, str x_1.Word, str x_1.Code, str x_1.S, .int .i64 x_1.Level, .int .i64 x_1.Rounds, .int .i64 x_1.Now])]) (cs := #[.int .i64 x_1.Kind, str x_1.ID, str x_1.User, str x_1.Word, str x_1.Code, str x_1.S, .int .i64 x_1.Level, .int .i64 x_1.Rounds, .int .i64 x_1.Now]) (css := [[.int .i64 x_1.Kind, str x_1.ID, str x_1.User, str x_1.Word, str x_1.Code, str x_1.S, .int .i64 x_1.Level, .int .i64 x_1.Rounds, .int .i64 x_1.Now]]) rfl (fun _ => by kernel_rfl) rfl ⟨rfl, trivial⟩ rfl (by decide) hb.bd (by decide) ?_
   intro v21 w23 h22 hbw25
   have htr24 := Tr.of_below hbw25 hb.bd
   replace h2 := h2.mv htr24.rd
   replace hB7 := hB7.mv (htr24.mv (i := 5) rfl)
   replace hb := hb.trans htr24
   replace hj16 := (hj16.trans htr24).weak (J' := (fun _ => false)) (by intro t h; simp [rng] at h ⊢ <;> omega) rfl rfl
   obtain ⟨y26, hy27, hS⟩ := bind_some' hS
   refine sr_callg (b := false) (e := 17) rfl rfl hg13 (vs := [v21]) rfl Tryz.call9 rfl (law39_few_ok _ (hg.fr hz hb) h22.asSl hy27) (by decide) ?_
   rintro _ w28 ⟨rfl, hbw29⟩
   have htr30 := Tr.of_below hbw29 hb.bd
   replace h2 := h2.mv htr30.rd
   replace hB7 := hB7.mv (htr30.mv (i := 5) rfl)
   replace hb := hb.trans htr30
   replace hj16 := (hj16.trans htr30).weak (J' := (fun _ => false)) (by intro t h; simp [rng] at h ⊢ <;> omega) rfl rfl
   refine sr_evg (b := false) (e := 17) rfl rfl hg13 (v := .bool (!y26)) (ev_not rfl) (by decide) ?_
   refine sr_ev (v := .bool (!y26)) (ev_pick_f rfl hg13 rfl) (by decide) ?_
   exact sr_weaken (l' := [(0, v1), (3, .pointer (some ⟨g3, 0, none⟩)), (22, .bool (!y26))]) (.cons rfl (.cons rfl (.cons rfl (.nil _)))) (K14 (!y26) _ ⟨(Option.some.inj hS).symm, _, hj16⟩)
end YtkhodjenbganfaaGreatDoor
end Go.Proofs
