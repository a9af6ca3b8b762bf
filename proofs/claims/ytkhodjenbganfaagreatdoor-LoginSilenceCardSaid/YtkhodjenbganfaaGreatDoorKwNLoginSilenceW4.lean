/- Own work: a part of the proofs of this seat. -/
import Derived.Test.YtkhodjenbganfaaGreatDoorProg
import Derived.Test.YtkhodjenbganfaaGreatDoorShelf
import Derived.Test.YtkhodjenbganfaaGreatDoorKwNS
import Derived.KernelRfl
import Derived.Test.YtkhodjenbganfaaGreatDoorKwNLoginSilenceW3
set_option linter.unusedVariables false
set_option linter.unusedSimpArgs false
set_option linter.unusedSectionVars false
set_option maxHeartbeats 8000000
set_option maxRecDepth 8000
namespace Go.Proofs
namespace YtkhodjenbganfaaGreatDoor
open Go Go.KW Go.KW.S Go.RowKit
theorem law39_LoginSilence_L1_ok {w0 : World} (hg : Gs w0) {ρA : Tags} (hbd : ∀ b, ρA b ≠ 0 → b < w0.heap.size) (hz : Gz (flat1 ρA)) : ∀ (n : Nat), ∀ {r : Bool} {word_1 : Str} {n_7 : Int} {k_8 : Int} {oa_9 : login_Logins} {i_12 : Int} {ga_9 : Nat}, law39_LoginSilence_L1 n word_1 n_7 k_8 oa_9 i_12 = some r → ∀ {ρ : Tags} {w : World}, (Fr (flat1 ρA) w0 ρ w) → (login_Logins.O (fun p => 100 + p) ρ w ga_9 oa_9) → KE Tryz.prog 5 (Ret (fun v w' => v = .bool r ∧ Below w0.heap.size w0 w')) 118 [.code (sub (bodyOf Tryz.f5) [2, 2, 2, 2, 2, 2, 2, 1, 2, 2, 1]), .inLoop (sub (bodyOf Tryz.f5) [2, 2, 2, 2, 2, 2, 2, 1, 2, 2, 1]), .inBlock 0, .code (sub (bodyOf Tryz.f5) [2, 2, 2, 2, 2, 2, 2, 2])] [(1, str word_1), (7, .int .i64 n_7), (8, .int .i64 k_8), (9, .pointer (some ⟨ga_9, 0, none⟩)), (12, .int .i64 i_12)] w := by
 intro n
 induction n with
 | zero => intro r word_1 n_7 k_8 oa_9 i_12 ga_9 hS; cases hS
 | succ n ih =>
  have hr0 : ∀ {r : Bool} {word_1 : Str} {n_7 : Int} {k_8 : Int} {oa_9 : login_Logins} {i_12 : Int} {ga_9 : Nat}, law39_LoginSilence_L1 n word_1 n_7 k_8 oa_9 i_12 = some r → ∀ {ρ : Tags} {w : World}, (Fr (flat1 ρA) w0 ρ w) → (login_Logins.O (fun p => 100 + p) ρ w ga_9 oa_9) → KE Tryz.prog 5 (Ret (fun v w' => v = .bool r ∧ Below w0.heap.size w0 w')) 118 [.inLoop (sub (bodyOf Tryz.f5) [2, 2, 2, 2, 2, 2, 2, 1, 2, 2, 1]), .inBlock 0, .code (sub (bodyOf Tryz.f5) [2, 2, 2, 2, 2, 2, 2, 2])] [(1, str word_1), (7, .int .i64 n_7), (8, .int .i64 k_8), (9, .pointer (some ⟨ga_9, 0, none⟩)), (12, .int .i64 i_12)] w := fun {r} {word_1} {n_7} {k_8} {oa_9} {i_12} {ga_9} hS {ρ} {w} hb hoa_9 => ke_inLoop (ih hS hb hoa_9)
  clear ih
  intro r word_1 n_7 k_8 oa_9 i_12 ga_9 hS ρ w hb hoa_9
  unfold law39_LoginSilence_L1 at hS
  obtain ⟨v97, v99, v101, v103, hB105, hP98, h100, h102, h104⟩ := hoa_9
  replace hB105 : Blk ρ 100 w ga_9 (.cells #[v97, v99, v101, v103] 69 (0, 0)) := hB105
  replace hP98 : PtrO secret_Locks.O (fun q => 100 + (1 + q)) ρ w v97 oa_9.locks := hP98
  replace h100 : MapT str login_credentials.c true ρ 104 w v99 oa_9.users := h100
  replace h102 : MapT str (intC .i64) false ρ 105 w v101 oa_9.counters := h102
  replace h104 : MapT str login_attempt.c true ρ 106 w v103 oa_9.attempts := h104
  refine ke_seq ?_
  refine ke_seq ?_
  refine ke_region ?_
  refine sr_ev (v := .int .i64 i_12) (ev_move rfl) (by decide) ?_
  refine sr_ev (v := .int .i64 k_8) (ev_move rfl) (by decide) ?_
  refine sr_ev (v := .bool (decide (i_12 < k_8))) (ev_lt rfl rfl) (by decide) ?_
  refine sr_end (l' := [(1, str word_1), (7, .int .i64 n_7), (8, .int .i64 k_8), (9, .pointer (some ⟨ga_9, 0, none⟩)), (12, .int .i64 i_12), (54, .bool (decide (i_12 < k_8)))]) (.cons rfl (.cons rfl (.cons rfl (.cons rfl (.cons rfl (.cons rfl (.nil _))))))) ?_
  refine ke_cond (t := decide (i_12 < k_8)) rfl (fun hc106 => ?_) (fun hc106 => ?_)
  ·replace hS := ite_true' hS hc106
   refine ke_skip ?_
   refine ke_seq ?_
   refine ke_block ?_
   refine ke_seq ?_
   refine ke_region ?_
   refine sr_ev (v := .pointer (some ⟨ga_9, 0, none⟩)) (ev_move rfl) (by decide) ?_
   refine sr_ev (v := str word_1) (ev_move rfl) (by decide) ?_
   obtain ⟨y107, hy108, hS⟩ := bind_some' hS
   refine sr_call (vs := [.pointer (some ⟨ga_9, 0, none⟩), str ([120]), str word_1, .int .i64 0]) rfl Tryz.call19 rfl (login_Logins_Password_ok _ (hg.fr hz hb) (ρA := ρ) hb.bd (hz.fr hg hb) (o := 100) (by decide) (⟨_, _, _, _, hB105, hP98, h100, h102, h104⟩ : login_Logins.O (fun p => 100 + p) ρ w ga_9 oa_9) hy108) (by decide) ?_
   rintro _ w109 ⟨ρ121, rfl, ⟨v112, v114, v116, v118, hB120, hP113, h115, h117, h119⟩, htr111⟩
   replace hb := hb.trans htr111
   replace hB120 : Blk ρ121 100 w109 ga_9 (.cells #[v112, v114, v116, v118] 69 (0, 0)) := hB120
   replace hP113 : PtrO secret_Locks.O (fun q => 100 + (1 + q)) ρ121 w109 v112 y107.2.locks := hP113
   replace h115 : MapT str login_credentials.c true ρ121 104 w109 v114 y107.2.users := h115
   replace h117 : MapT str (intC .i64) false ρ121 105 w109 v116 y107.2.counters := h117
   replace h119 : MapT str login_attempt.c true ρ121 106 w109 v118 y107.2.attempts := h119
   refine sr_ev (v := .pointer (some ⟨ga_9, 0, none⟩)) (ev_move rfl) (by decide) ?_
   refine sr_ev (v := str word_1) (ev_move rfl) (by decide) ?_
   obtain ⟨y122, hy123, hS⟩ := bind_some' hS
   refine sr_call (vs := [.pointer (some ⟨ga_9, 0, none⟩), str ([121]), str word_1, .int .i64 0]) rfl Tryz.call19 rfl (login_Logins_Password_ok _ (hg.fr hz hb) (ρA := ρ121) hb.bd (hz.fr hg hb) (o := 100) (by decide) (⟨_, _, _, _, hB120, hP113, h115, h117, h119⟩ : login_Logins.O (fun p => 100 + p) ρ121 w109 ga_9 y107.2) hy123) (by decide) ?_
   rintro _ w124 ⟨ρ136, rfl, ⟨v127, v129, v131, v133, hB135, hP128, h130, h132, h134⟩, htr126⟩
   replace hb := hb.trans htr126
   replace hB135 : Blk ρ136 100 w124 ga_9 (.cells #[v127, v129, v131, v133] 69 (0, 0)) := hB135
   replace hP128 : PtrO secret_Locks.O (fun q => 100 + (1 + q)) ρ136 w124 v127 y122.2.locks := hP128
   replace h130 : MapT str login_credentials.c true ρ136 104 w124 v129 y122.2.users := h130
   replace h132 : MapT str (intC .i64) false ρ136 105 w124 v131 y122.2.counters := h132
   replace h134 : MapT str login_attempt.c true ρ136 106 w124 v133 y122.2.attempts := h134
   refine sr_ev (v := .int .i64 y107.1) (ev_assign rfl) (by decide) ?_
   refine sr_ev (v := .int .i64 y122.1) (ev_assign rfl) (by decide) ?_
   refine sr_end (l' := [(1, str word_1), (7, .int .i64 n_7), (8, .int .i64 k_8), (9, .pointer (some ⟨ga_9, 0, none⟩)), (12, .int .i64 i_12), (13, .int .i64 y107.1), (14, .int .i64 y122.1)]) (.cons rfl (.cons rfl (.cons rfl (.cons rfl (.cons rfl (.cons rfl (.cons rfl (.nil _)))))))) ?_
   refine ke_seq ?_
   refine ke_region ?_
   refine sr_ev (v := .int .i64 y107.1) (ev_move rfl) (by decide) ?_
   refine sr_ev (v := .int .i64 y122.1) (ev_move rfl) (by decide) ?_
   refine sr_ev (v := .bool (y107.1 != y122.1)) (ev_ne rfl rfl) (by decide) ?_
   refine sr_ev (v := .bool (y107.1 != y122.1)) (ev_move rfl) (by decide) ?_
   refine sr_join (m := 7) (C := fun (x : Bool) w1 => x = ((y107.1 != y122.1) || ((y107.1 == 22) != (decide (i_12 ≥ n_7)))) ∧ w124 = w1) (l' := fun x => [(1, str word_1), (7, .int .i64 n_7), (8, .int .i64 k_8), (9, .pointer (some ⟨ga_9, 0, none⟩)), (12, .int .i64 i_12), (13, .int .i64 y107.1), (73, .bool x)]) ?_ ?_
   ·rintro _ _ ⟨rfl, rfl⟩
    refine sr_ev (v := .bool ((y107.1 != y122.1) || ((y107.1 == 22) != (decide (i_12 ≥ n_7))))) (ev_move rfl) (by decide) ?_
    refine sr_join (m := 7) (C := fun (x : Bool) w1 => x = (((y107.1 != y122.1) || ((y107.1 == 22) != (decide (i_12 ≥ n_7)))) || ((y107.1 != 22) && (y107.1 != 11))) ∧ w124 = w1) (l' := fun x => [(1, str word_1), (7, .int .i64 n_7), (8, .int .i64 k_8), (9, .pointer (some ⟨ga_9, 0, none⟩)), (12, .int .i64 i_12), (81, .bool x)]) ?_ ?_
    ·rintro _ _ ⟨rfl, rfl⟩
     refine sr_ev (v := .bool (((y107.1 != y122.1) || ((y107.1 == 22) != (decide (i_12 ≥ n_7)))) || ((y107.1 != 22) && (y107.1 != 11)))) (ev_move rfl) (by decide) ?_
     obtain ⟨z163, hz165, hS⟩ := bind_some' hS
     refine sr_join (m := 8) (C := fun (z : Bool) w1 => z163 = z ∧ ∃ ρ1, Tr ρ136 w124 (fun _ => false) ρ1 w1) (l' := fun z => [(1, str word_1), (7, .int .i64 n_7), (8, .int .i64 k_8), (9, .pointer (some ⟨ga_9, 0, none⟩)), (12, .int .i64 i_12), (90, .bool z)]) ?_ ?_
     ·rintro _ w166 ⟨rfl, ρ167, hj164⟩
      replace hB135 := hB135.mv (hj164.mv (i := 100) rfl)
      replace hP128 := PtrO.mv hP128 secret_Locks.objK (fun p hp => hj164.mv (i := 100 + (1 + p)) (by rcases p with _ | _ | _ | p <;> first | rfl | omega)) (fun p hp => by show 100 + (1 + p) ≠ 0; omega)
      replace h130 := h130.mv (hj164.mv (i := 104) rfl)
      replace h132 := h132.mv (hj164.mv (i := 105) rfl)
      replace h134 := h134.mv (hj164.mv (i := 106) rfl)
      replace hb := hb.trans hj164
      refine sr_end (l' := [(1, str word_1), (7, .int .i64 n_7), (8, .int .i64 k_8), (9, .pointer (some ⟨ga_9, 0, none⟩)), (12, .int .i64 i_12), (90, .bool z163)]) (.cons rfl (.cons rfl (.cons rfl (.cons rfl (.cons rfl (.cons rfl (.nil _))))))) ?_
      refine ke_cond (t := z163) rfl (fun hc174 => ?_) (fun hc174 => ?_)
      ·replace hS := ite_true' hS hc174
       refine ke_seq ?_
       refine ke_region ?_
       refine sr_ev (v := .bool false) (ev_assign rfl) (by decide) ?_
       refine sr_end (l' := [(6, .bool false)]) (.cons rfl (.nil _)) ?_
       cases hS
       exact ke_ret1 Tryz.func5 rfl rfl ⟨_, rfl, rfl, (hb.below (flat1_le _))⟩
      ·replace hS := ite_false' hS hc174
       refine ke_skip ?_
       refine ke_inBlock ?_
       refine ke_region ?_
       refine sr_ev (v := .int .i64 i_12) (ev_move rfl) (by decide) ?_
       refine sr_ev (v := .int .i64 (IntKind.i64.wrap (i_12 + 1))) (ev_add rfl rfl) (by decide) ?_
       refine sr_ev (v := .int .i64 (IntKind.i64.wrap (i_12 + 1))) (ev_assign rfl) (by decide) ?_
       refine sr_end (l' := [(1, str word_1), (7, .int .i64 n_7), (8, .int .i64 k_8), (9, .pointer (some ⟨ga_9, 0, none⟩)), (12, .int .i64 (IntKind.i64.wrap (i_12 + 1)))]) (.cons rfl (.cons rfl (.cons rfl (.cons rfl (.cons rfl (.nil _)))))) ?_
       have hK := hr0 hS hb ⟨_, _, _, _, hB135, hP128, h130, h132, h134⟩
       exact ke_weaken (l' := [(1, str word_1), (7, .int .i64 n_7), (8, .int .i64 k_8), (9, .pointer (some ⟨ga_9, 0, none⟩)), (12, .int .i64 (IntKind.i64.wrap (i_12 + 1)))]) (.cons rfl (.cons rfl (.cons rfl (.cons rfl (.cons rfl (.nil _)))))) hK
     ·intro K162
      clear hS
      have hj164 : Tr ρ136 w124 (fun _ => false) ρ136 w124 := (Tr.refl hb.bd).weak (fun _ _ => rfl) rfl rfl
      rcases Bool.eq_false_or_eq_true (((y107.1 != y122.1) || ((y107.1 == 22) != (decide (i_12 ≥ n_7)))) || ((y107.1 != 22) && (y107.1 != 11))) with hg161 | hg161
      ·have hS := ite_true' hz165 hg161
       refine sr_pass (e := 82) rfl rfl (by rw [hg161]; rfl) (by decide) ?_
       refine sr_pass (e := 82) rfl rfl (by rw [hg161]; rfl) (by decide) ?_
       refine sr_pass (e := 82) rfl rfl (by rw [hg161]; rfl) (by decide) ?_
       refine sr_pass (e := 82) rfl rfl (by rw [hg161]; rfl) (by decide) ?_
       refine sr_pass (e := 82) rfl rfl (by rw [hg161]; rfl) (by decide) ?_
       refine sr_pass (e := 82) rfl rfl (by rw [hg161]; rfl) (by decide) ?_
       refine sr_pass (e := 82) rfl rfl (by rw [hg161]; rfl) (by decide) ?_
       refine sr_ev (v := .bool true) (ev_pick_t rfl hg161 rfl) (by decide) ?_
       exact sr_weaken (l' := [(1, str word_1), (7, .int .i64 n_7), (8, .int .i64 k_8), (9, .pointer (some ⟨ga_9, 0, none⟩)), (12, .int .i64 i_12), (90, .bool true)]) (.cons rfl (.cons rfl (.cons rfl (.cons rfl (.cons rfl (.cons rfl (.nil _))))))) (K162 true _ ⟨(Option.some.inj hS).symm, _, hj164⟩)
      ·have hS := ite_false' hz165 hg161
       refine sr_evg (b := false) (e := 82) rfl rfl hg161 (v := .pointer (some ⟨ga_9, 0, none⟩)) (ev_move rfl) (by decide) ?_
       obtain ⟨y169, hy170, hS⟩ := bind_some' hS
       refine sr_callg (b := false) (e := 82) rfl rfl hg161 (vs := [.pointer (some ⟨ga_9, 0, none⟩), str ([97, 110, 110]), .int .i64 0]) rfl Tryz.call22 rfl (login_Logins_Locked_ok _ (hg.fr hz hb) (ρA := ρ136) hb.bd (hz.fr hg hb) (τ0 := (fun p => 100 + p)) (fun p => Nat.le_add_right_of_le (by decide)) (⟨_, _, _, _, hB135, hP128, h130, h132, h134⟩ : login_Logins.O (fun p => 100 + p) ρ136 w124 ga_9 y122.2) hy170) (by decide) ?_
       rintro _ w171 ⟨rfl, hbw172⟩
       have htr173 := Tr.of_below hbw172 hb.bd
       replace hB135 := hB135.mv (htr173.mv (i := 100) rfl)
       replace hP128 := PtrO.mv hP128 secret_Locks.objK (fun p hp => htr173.mv (i := 100 + (1 + p)) (by rcases p with _ | _ | _ | p <;> first | rfl | omega)) (fun p hp => by show 100 + (1 + p) ≠ 0; omega)
       replace h130 := h130.mv (htr173.mv (i := 104) rfl)
       replace h132 := h132.mv (htr173.mv (i := 105) rfl)
       replace h134 := h134.mv (htr173.mv (i := 106) rfl)
       replace hb := hb.trans htr173
       replace hj164 := (hj164.trans htr173).weak (J' := (fun _ => false)) (by intro t h; simp [rng] at h ⊢ <;> omega) rfl rfl
       refine sr_evg (b := false) (e := 82) rfl rfl hg161 (v := .int .i64 i_12) (ev_move rfl) (by decide) ?_
       refine sr_evg (b := false) (e := 82) rfl rfl hg161 (v := .int .i64 (IntKind.i64.wrap (i_12 + 1))) (ev_add rfl rfl) (by decide) ?_
       refine sr_evg (b := false) (e := 82) rfl rfl hg161 (v := .int .i64 n_7) (ev_move rfl) (by decide) ?_
       refine sr_evg (b := false) (e := 82) rfl rfl hg161 (v := .bool (decide ((IntKind.i64.wrap (i_12 + 1)) ≥ n_7))) (ev_ge rfl rfl) (by decide) ?_
       refine sr_evg (b := false) (e := 82) rfl rfl hg161 (v := .bool (y169 != (decide ((IntKind.i64.wrap (i_12 + 1)) ≥ n_7)))) (ev_bne Tryz.underlying4 rfl rfl) (by decide) ?_
       refine sr_ev (v := .bool (y169 != (decide ((IntKind.i64.wrap (i_12 + 1)) ≥ n_7)))) (ev_pick_f rfl hg161 rfl) (by decide) ?_
       exact sr_weaken (l' := [(1, str word_1), (7, .int .i64 n_7), (8, .int .i64 k_8), (9, .pointer (some ⟨ga_9, 0, none⟩)), (12, .int .i64 i_12), (90, .bool (y169 != (decide ((IntKind.i64.wrap (i_12 + 1)) ≥ n_7))))]) (.cons rfl (.cons rfl (.cons rfl (.cons rfl (.cons rfl (.cons rfl (.nil _))))))) (K162 (y169 != (decide ((IntKind.i64.wrap (i_12 + 1)) ≥ n_7))) _ ⟨(Option.some.inj hS).symm, _, hj164⟩)
    ·intro K146
     rcases Bool.eq_false_or_eq_true ((y107.1 != y122.1) || ((y107.1 == 22) != (decide (i_12 ≥ n_7)))) with hg145 | hg145
     all_goals try have hj148 : Tr ρ136 w124 (fun _ => false) ρ136 w124 := Tr.refl hb.bd
     ·refine sr_pass (e := 74) rfl rfl (by rw [hg145]; rfl) (by decide) ?_
      refine sr_pass (e := 74) rfl rfl (by rw [hg145]; rfl) (by decide) ?_
      refine sr_pass (e := 74) rfl rfl (by rw [hg145]; rfl) (by decide) ?_
      refine sr_pass_undef (e := 77) rfl rfl (by decide) ?_
      refine sr_pass_undef (e := 77) rfl rfl (by decide) ?_
      refine sr_pass (e := 74) rfl rfl (by rw [hg145]; rfl) (by decide) ?_
      refine sr_ev (v := .bool true) (ev_pick_t rfl hg145 rfl) (by decide) ?_
      exact sr_weaken (l' := [(1, str word_1), (7, .int .i64 n_7), (8, .int .i64 k_8), (9, .pointer (some ⟨ga_9, 0, none⟩)), (12, .int .i64 i_12), (81, .bool true)]) (.cons rfl (.cons rfl (.cons rfl (.cons rfl (.cons rfl (.cons rfl (.nil _))))))) (K146 true _ ⟨by first | (rw [hg145]; rfl) | rfl, rfl⟩)
     ·refine sr_evg (b := false) (e := 74) rfl rfl hg145 (v := .int .i64 y107.1) (ev_move rfl) (by decide) ?_
      refine sr_evg (b := false) (e := 74) rfl rfl hg145 (v := .bool (y107.1 != 22)) (ev_ne rfl rfl) (by decide) ?_
      refine sr_evg (b := false) (e := 74) rfl rfl hg145 (v := .bool (y107.1 != 22)) (ev_move rfl) (by decide) ?_
      refine sr_join (m := 3) (C := fun (x : Bool) w1 => x = ((y107.1 != 22) && (y107.1 != 11)) ∧ w124 = w1) (l' := fun x => [(1, str word_1), (7, .int .i64 n_7), (8, .int .i64 k_8), (9, .pointer (some ⟨ga_9, 0, none⟩)), (12, .int .i64 i_12), (74, .bool ((y107.1 != y122.1) || ((y107.1 == 22) != (decide (i_12 ≥ n_7))))), (80, .bool x)]) ?_ ?_
      ·rintro _ _ ⟨rfl, rfl⟩
       refine sr_ev (v := .bool ((y107.1 != 22) && (y107.1 != 11))) (ev_pick_f rfl hg145 rfl) (by decide) ?_
       exact sr_weaken (l' := [(1, str word_1), (7, .int .i64 n_7), (8, .int .i64 k_8), (9, .pointer (some ⟨ga_9, 0, none⟩)), (12, .int .i64 i_12), (81, .bool ((y107.1 != 22) && (y107.1 != 11)))]) (.cons rfl (.cons rfl (.cons rfl (.cons rfl (.cons rfl (.cons rfl (.nil _))))))) (K146 ((y107.1 != 22) && (y107.1 != 11)) _ ⟨by first | (rw [hg145]; rfl) | rfl, rfl⟩)
      ·intro K154
       rcases Bool.eq_false_or_eq_true (y107.1 != 22) with hg153 | hg153
       all_goals try have hj156 : Tr ρ136 w124 (fun _ => false) ρ136 w124 := Tr.refl hb.bd
       ·refine sr_evg (b := true) (e := 77) rfl rfl hg153 (v := .int .i64 y107.1) (ev_move rfl) (by decide) ?_
        refine sr_evg (b := true) (e := 77) rfl rfl hg153 (v := .bool (y107.1 != 11)) (ev_ne rfl rfl) (by decide) ?_
        refine sr_evg (b := false) (e := 74) rfl rfl hg145 (v := .bool (y107.1 != 11)) (ev_pick_t rfl hg153 rfl) (by decide) ?_
        exact sr_weaken (l' := [(1, str word_1), (7, .int .i64 n_7), (8, .int .i64 k_8), (9, .pointer (some ⟨ga_9, 0, none⟩)), (12, .int .i64 i_12), (74, .bool ((y107.1 != y122.1) || ((y107.1 == 22) != (decide (i_12 ≥ n_7))))), (80, .bool (y107.1 != 11))]) (.cons rfl (.cons rfl (.cons rfl (.cons rfl (.cons rfl (.cons rfl (.cons rfl (.nil _)))))))) (K154 (y107.1 != 11) _ ⟨by first | (rw [hg153]; rfl) | rfl, rfl⟩)
       ·refine sr_pass (e := 77) rfl rfl (by rw [hg153]; rfl) (by decide) ?_
        refine sr_pass (e := 77) rfl rfl (by rw [hg153]; rfl) (by decide) ?_
        refine sr_evg (b := false) (e := 74) rfl rfl hg145 (v := .bool false) (ev_pick_f rfl hg153 rfl) (by decide) ?_
        exact sr_weaken (l' := [(1, str word_1), (7, .int .i64 n_7), (8, .int .i64 k_8), (9, .pointer (some ⟨ga_9, 0, none⟩)), (12, .int .i64 i_12), (74, .bool ((y107.1 != y122.1) || ((y107.1 == 22) != (decide (i_12 ≥ n_7))))), (80, .bool false)]) (.cons rfl (.cons rfl (.cons rfl (.cons rfl (.cons rfl (.cons rfl (.cons rfl (.nil _)))))))) (K154 false _ ⟨by first | (rw [hg153]; rfl) | rfl, rfl⟩)
   ·intro K138
    rcases Bool.eq_false_or_eq_true (y107.1 != y122.1) with hg137 | hg137
    all_goals try have hj140 : Tr ρ136 w124 (fun _ => false) ρ136 w124 := Tr.refl hb.bd
    ·refine sr_pass (e := 66) rfl rfl (by rw [hg137]; rfl) (by decide) ?_
     refine sr_pass (e := 66) rfl rfl (by rw [hg137]; rfl) (by decide) ?_
     refine sr_pass (e := 66) rfl rfl (by rw [hg137]; rfl) (by decide) ?_
     refine sr_pass (e := 66) rfl rfl (by rw [hg137]; rfl) (by decide) ?_
     refine sr_pass (e := 66) rfl rfl (by rw [hg137]; rfl) (by decide) ?_
     refine sr_pass (e := 66) rfl rfl (by rw [hg137]; rfl) (by decide) ?_
     refine sr_ev (v := .bool true) (ev_pick_t rfl hg137 rfl) (by decide) ?_
     exact sr_weaken (l' := [(1, str word_1), (7, .int .i64 n_7), (8, .int .i64 k_8), (9, .pointer (some ⟨ga_9, 0, none⟩)), (12, .int .i64 i_12), (13, .int .i64 y107.1), (73, .bool true)]) (.cons rfl (.cons rfl (.cons rfl (.cons rfl (.cons rfl (.cons rfl (.cons rfl (.nil _)))))))) (K138 true _ ⟨by first | (rw [hg137]; rfl) | rfl, rfl⟩)
    ·refine sr_evg (b := false) (e := 66) rfl rfl hg137 (v := .int .i64 y107.1) (ev_move rfl) (by decide) ?_
     refine sr_evg (b := false) (e := 66) rfl rfl hg137 (v := .bool (y107.1 == 22)) (ev_eq rfl rfl) (by decide) ?_
     refine sr_evg (b := false) (e := 66) rfl rfl hg137 (v := .int .i64 i_12) (ev_move rfl) (by decide) ?_
     refine sr_evg (b := false) (e := 66) rfl rfl hg137 (v := .int .i64 n_7) (ev_move rfl) (by decide) ?_
     refine sr_evg (b := false) (e := 66) rfl rfl hg137 (v := .bool (decide (i_12 ≥ n_7))) (ev_ge rfl rfl) (by decide) ?_
     refine sr_evg (b := false) (e := 66) rfl rfl hg137 (v := .bool ((y107.1 == 22) != (decide (i_12 ≥ n_7)))) (ev_bne Tryz.underlying4 rfl rfl) (by decide) ?_
     refine sr_ev (v := .bool ((y107.1 == 22) != (decide (i_12 ≥ n_7)))) (ev_pick_f rfl hg137 rfl) (by decide) ?_
     exact sr_weaken (l' := [(1, str word_1), (7, .int .i64 n_7), (8, .int .i64 k_8), (9, .pointer (some ⟨ga_9, 0, none⟩)), (12, .int .i64 i_12), (13, .int .i64 y107.1), (73, .bool ((y107.1 == 22) != (decide (i_12 ≥ n_7))))]) (.cons rfl (.cons rfl (.cons rfl (.cons rfl (.cons rfl (.cons rfl (.cons rfl (.nil _)))))))) (K138 ((y107.1 == 22) != (decide (i_12 ≥ n_7))) _ ⟨by first | (rw [hg137]; rfl) | rfl, rfl⟩)
  ·replace hS := ite_false' hS hc106
   refine ke_exit (k' := _) rfl ?_
   refine ke_seq ?_
   refine ke_region ?_
   refine sr_ev (v := .pointer (some ⟨ga_9, 0, none⟩)) (ev_move rfl) (by decide) ?_
   obtain ⟨y175, hy176, hS⟩ := bind_some' hS
   refine sr_call (vs := [.pointer (some ⟨ga_9, 0, none⟩), str ([120]), str ([115, 101, 99, 114, 101, 116, 119, 111, 114, 100]), .int .i64 0]) rfl Tryz.call19 rfl (login_Logins_Password_ok _ (hg.fr hz hb) (ρA := ρ) hb.bd (hz.fr hg hb) (o := 100) (by decide) (⟨_, _, _, _, hB105, hP98, h100, h102, h104⟩ : login_Logins.O (fun p => 100 + p) ρ w ga_9 oa_9) hy176) (by decide) ?_
   rintro _ w177 ⟨ρ189, rfl, ⟨v180, v182, v184, v186, hB188, hP181, h183, h185, h187⟩, htr179⟩
   replace hb := hb.trans htr179
   replace hB188 : Blk ρ189 100 w177 ga_9 (.cells #[v180, v182, v184, v186] 69 (0, 0)) := hB188
   replace hP181 : PtrO secret_Locks.O (fun q => 100 + (1 + q)) ρ189 w177 v180 y175.2.locks := hP181
   replace h183 : MapT str login_credentials.c true ρ189 104 w177 v182 y175.2.users := h183
   replace h185 : MapT str (intC .i64) false ρ189 105 w177 v184 y175.2.counters := h185
   replace h187 : MapT str login_attempt.c true ρ189 106 w177 v186 y175.2.attempts := h187
   refine sr_ev (v := .int .i64 y175.1) (ev_assign rfl) (by decide) ?_
   refine sr_end (l' := [(7, .int .i64 n_7), (8, .int .i64 k_8), (9, .pointer (some ⟨ga_9, 0, none⟩)), (15, .int .i64 y175.1)]) (.cons rfl (.cons rfl (.cons rfl (.cons rfl (.nil _))))) ?_
   refine ke_seq ?_
   refine ke_region ?_
   refine sr_ev (v := .int .i64 y175.1) (ev_move rfl) (by decide) ?_
   refine sr_ev (v := .bool (y175.1 == 0)) (ev_eq rfl rfl) (by decide) ?_
   refine sr_ev (v := .int .i64 k_8) (ev_move rfl) (by decide) ?_
   refine sr_ev (v := .int .i64 n_7) (ev_move rfl) (by decide) ?_
   refine sr_ev (v := .bool (decide (k_8 < n_7))) (ev_lt rfl rfl) (by decide) ?_
   refine sr_ev (v := .bool ((y175.1 == 0) == (decide (k_8 < n_7)))) (ev_beq Tryz.underlying4 rfl rfl) (by decide) ?_
   refine sr_ev (v := .bool ((y175.1 == 0) == (decide (k_8 < n_7)))) (ev_move rfl) (by decide) ?_
   refine sr_join (m := 7) (C := fun (x : Bool) w1 => x = (((y175.1 == 0) == (decide (k_8 < n_7))) && ((y175.1 == 0) || (y175.1 == 22))) ∧ w177 = w1) (l' := fun x => [(7, .int .i64 n_7), (8, .int .i64 k_8), (9, .pointer (some ⟨ga_9, 0, none⟩)), (106, .bool x)]) ?_ ?_
   ·rintro _ _ ⟨rfl, rfl⟩
    refine sr_ev (v := .bool (((y175.1 == 0) == (decide (k_8 < n_7))) && ((y175.1 == 0) || (y175.1 == 22)))) (ev_move rfl) (by decide) ?_
    obtain ⟨z208, hz210, hS⟩ := bind_some' hS
    refine sr_join (m := 7) (C := fun (z : Bool) w1 => z208 = z ∧ ∃ ρ1, Tr ρ189 w177 (fun _ => false) ρ1 w1) (l' := fun z => [(114, .bool z)]) ?_ ?_
    ·rintro _ w211 ⟨rfl, ρ212, hj209⟩
     replace hb := hb.trans hj209
     refine sr_ev (v := .bool z208) (ev_move rfl) (by decide) ?_
     obtain ⟨z221, hz223, hS⟩ := bind_some' hS
     refine sr_join (m := 2) (C := fun (z : Bool) w1 => z221 = z ∧ ∃ ρ1, Tr ρ212 w211 (fun _ => false) ρ1 w1) (l' := fun z => [(117, .bool z)]) ?_ ?_
     ·rintro _ w224 ⟨rfl, ρ225, hj222⟩
      replace hb := hb.trans hj222
      refine sr_ev (v := .bool z221) (ev_assign rfl) (by decide) ?_
      refine sr_end (l' := [(6, .bool z221)]) (.cons rfl (.nil _)) ?_
      cases hS
      exact ke_ret1 Tryz.func5 rfl rfl ⟨_, rfl, rfl, (hb.below (flat1_le _))⟩
     ·intro K220
      clear hS
      have hj222 : Tr ρ212 w211 (fun _ => false) ρ212 w211 := (Tr.refl hb.bd).weak (fun _ _ => rfl) rfl rfl
      rcases Bool.eq_false_or_eq_true z208 with hg219 | hg219
      ·have hS := ite_true' hz223 hg219
       obtain ⟨y227, hy228, hS⟩ := bind_some' hS
       refine sr_callg (b := true) (e := 115) rfl rfl hg219 (vs := []) rfl Tryz.call10 rfl (law39_alive_ok _ (hg.fr hz hb) (ρA := ρ212) hb.bd (hz.fr hg hb) hy228) (by decide) ?_
       rintro _ w229 ⟨rfl, hbw230⟩
       have htr231 := Tr.of_below hbw230 hb.bd
       replace hb := hb.trans htr231
       replace hj222 := (hj222.trans htr231).weak (J' := (fun _ => false)) (by intro t h; simp [rng] at h ⊢ <;> omega) rfl rfl
       refine sr_ev (v := .bool y227) (ev_pick_t rfl hg219 rfl) (by decide) ?_
       exact sr_weaken (l' := [(117, .bool y227)]) (.cons rfl (.nil _)) (K220 y227 _ ⟨(Option.some.inj hS).symm, _, hj222⟩)
      ·have hS := ite_false' hz223 hg219
       refine sr_pass (e := 115) rfl rfl (by rw [hg219]; rfl) (by decide) ?_
       refine sr_ev (v := .bool false) (ev_pick_f rfl hg219 rfl) (by decide) ?_
       exact sr_weaken (l' := [(117, .bool false)]) (.cons rfl (.nil _)) (K220 false _ ⟨(Option.some.inj hS).symm, _, hj222⟩)
    ·intro K207
     clear hS
     have hj209 : Tr ρ189 w177 (fun _ => false) ρ189 w177 := (Tr.refl hb.bd).weak (fun _ _ => rfl) rfl rfl
     rcases Bool.eq_false_or_eq_true (((y175.1 == 0) == (decide (k_8 < n_7))) && ((y175.1 == 0) || (y175.1 == 22))) with hg206 | hg206
     ·have hS := ite_true' hz210 hg206
      refine sr_evg (b := true) (e := 107) rfl rfl hg206 (v := .pointer (some ⟨ga_9, 0, none⟩)) (ev_move rfl) (by decide) ?_
      obtain ⟨y214, hy215, hS⟩ := bind_some' hS
      refine sr_callg (b := true) (e := 107) rfl rfl hg206 (vs := [.pointer (some ⟨ga_9, 0, none⟩), str ([98, 111, 98]), .int .i64 0]) rfl Tryz.call22 rfl (login_Logins_Locked_ok _ (hg.fr hz hb) (ρA := ρ189) hb.bd (hz.fr hg hb) (τ0 := (fun p => 100 + p)) (fun p => Nat.le_add_right_of_le (by decide)) (⟨_, _, _, _, hB188, hP181, h183, h185, h187⟩ : login_Logins.O (fun p => 100 + p) ρ189 w177 ga_9 y175.2) hy215) (by decide) ?_
      rintro _ w216 ⟨rfl, hbw217⟩
      have htr218 := Tr.of_below hbw217 hb.bd
      replace hb := hb.trans htr218
      replace hj209 := (hj209.trans htr218).weak (J' := (fun _ => false)) (by intro t h; simp [rng] at h ⊢ <;> omega) rfl rfl
      refine sr_evg (b := true) (e := 107) rfl rfl hg206 (v := .int .i64 k_8) (ev_move rfl) (by decide) ?_
      refine sr_evg (b := true) (e := 107) rfl rfl hg206 (v := .int .i64 n_7) (ev_move rfl) (by decide) ?_
      refine sr_evg (b := true) (e := 107) rfl rfl hg206 (v := .bool (decide (k_8 ≥ n_7))) (ev_ge rfl rfl) (by decide) ?_
      refine sr_evg (b := true) (e := 107) rfl rfl hg206 (v := .bool (y214 == (decide (k_8 ≥ n_7)))) (ev_beq Tryz.underlying4 rfl rfl) (by decide) ?_
      refine sr_ev (v := .bool (y214 == (decide (k_8 ≥ n_7)))) (ev_pick_t rfl hg206 rfl) (by decide) ?_
      exact sr_weaken (l' := [(114, .bool (y214 == (decide (k_8 ≥ n_7))))]) (.cons rfl (.nil _)) (K207 (y214 == (decide (k_8 ≥ n_7))) _ ⟨(Option.some.inj hS).symm, _, hj209⟩)
     ·have hS := ite_false' hz210 hg206
      refine sr_pass (e := 107) rfl rfl (by rw [hg206]; rfl) (by decide) ?_
      refine sr_pass (e := 107) rfl rfl (by rw [hg206]; rfl) (by decide) ?_
      refine sr_pass (e := 107) rfl rfl (by rw [hg206]; rfl) (by decide) ?_
      refine sr_pass (e := 107) rfl rfl (by rw [hg206]; rfl) (by decide) ?_
      refine sr_pass (e := 107) rfl rfl (by rw [hg206]; rfl) (by decide) ?_
      refine sr_pass (e := 107) rfl rfl (by rw [hg206]; rfl) (by decide) ?_
      refine sr_ev (v := .bool false) (ev_pick_f rfl hg206 rfl) (by decide) ?_
      exact sr_weaken (l' := [(114, .bool false)]) (.cons rfl (.nil _)) (K207 false _ ⟨(Option.some.inj hS).symm, _, hj209⟩)
   ·intro K191
    rcases Bool.eq_false_or_eq_true ((y175.1 == 0) == (decide (k_8 < n_7))) with hg190 | hg190
    all_goals try have hj193 : Tr ρ189 w177 (fun _ => false) ρ189 w177 := Tr.refl hb.bd
    ·refine sr_evg (b := true) (e := 99) rfl rfl hg190 (v := .int .i64 y175.1) (ev_move rfl) (by decide) ?_
     refine sr_evg (b := true) (e := 99) rfl rfl hg190 (v := .bool (y175.1 == 0)) (ev_eq rfl rfl) (by decide) ?_
     refine sr_evg (b := true) (e := 99) rfl rfl hg190 (v := .bool (y175.1 == 0)) (ev_move rfl) (by decide) ?_
     refine sr_join (m := 3) (C := fun (x : Bool) w1 => x = ((y175.1 == 0) || (y175.1 == 22)) ∧ w177 = w1) (l' := fun x => [(7, .int .i64 n_7), (8, .int .i64 k_8), (9, .pointer (some ⟨ga_9, 0, none⟩)), (99, .bool ((y175.1 == 0) == (decide (k_8 < n_7)))), (105, .bool x)]) ?_ ?_
     ·rintro _ _ ⟨rfl, rfl⟩
      refine sr_ev (v := .bool ((y175.1 == 0) || (y175.1 == 22))) (ev_pick_t rfl hg190 rfl) (by decide) ?_
      exact sr_weaken (l' := [(7, .int .i64 n_7), (8, .int .i64 k_8), (9, .pointer (some ⟨ga_9, 0, none⟩)), (106, .bool ((y175.1 == 0) || (y175.1 == 22)))]) (.cons rfl (.cons rfl (.cons rfl (.cons rfl (.nil _))))) (K191 ((y175.1 == 0) || (y175.1 == 22)) _ ⟨by first | (rw [hg190]; rfl) | rfl, rfl⟩)
     ·intro K199
      rcases Bool.eq_false_or_eq_true (y175.1 == 0) with hg198 | hg198
      all_goals try have hj201 : Tr ρ189 w177 (fun _ => false) ρ189 w177 := Tr.refl hb.bd
      ·refine sr_pass (e := 102) rfl rfl (by rw [hg198]; rfl) (by decide) ?_
       refine sr_pass (e := 102) rfl rfl (by rw [hg198]; rfl) (by decide) ?_
       refine sr_evg (b := true) (e := 99) rfl rfl hg190 (v := .bool true) (ev_pick_t rfl hg198 rfl) (by decide) ?_
       exact sr_weaken (l' := [(7, .int .i64 n_7), (8, .int .i64 k_8), (9, .pointer (some ⟨ga_9, 0, none⟩)), (99, .bool ((y175.1 == 0) == (decide (k_8 < n_7)))), (105, .bool true)]) (.cons rfl (.cons rfl (.cons rfl (.cons rfl (.cons rfl (.nil _)))))) (K199 true _ ⟨by first | (rw [hg198]; rfl) | rfl, rfl⟩)
      ·refine sr_evg (b := false) (e := 102) rfl rfl hg198 (v := .int .i64 y175.1) (ev_move rfl) (by decide) ?_
       refine sr_evg (b := false) (e := 102) rfl rfl hg198 (v := .bool (y175.1 == 22)) (ev_eq rfl rfl) (by decide) ?_
       refine sr_evg (b := true) (e := 99) rfl rfl hg190 (v := .bool (y175.1 == 22)) (ev_pick_f rfl hg198 rfl) (by decide) ?_
       exact sr_weaken (l' := [(7, .int .i64 n_7), (8, .int .i64 k_8), (9, .pointer (some ⟨ga_9, 0, none⟩)), (99, .bool ((y175.1 == 0) == (decide (k_8 < n_7)))), (105, .bool (y175.1 == 22))]) (.cons rfl (.cons rfl (.cons rfl (.cons rfl (.cons rfl (.nil _)))))) (K199 (y175.1 == 22) _ ⟨by first | (rw [hg198]; rfl) | rfl, rfl⟩)
    ·refine sr_pass (e := 99) rfl rfl (by rw [hg190]; rfl) (by decide) ?_
     refine sr_pass (e := 99) rfl rfl (by rw [hg190]; rfl) (by decide) ?_
     refine sr_pass (e := 99) rfl rfl (by rw [hg190]; rfl) (by decide) ?_
     refine sr_pass_undef (e := 102) rfl rfl (by decide) ?_
     refine sr_pass_undef (e := 102) rfl rfl (by decide) ?_
     refine sr_pass (e := 99) rfl rfl (by rw [hg190]; rfl) (by decide) ?_
     refine sr_ev (v := .bool false) (ev_pick_f rfl hg190 rfl) (by decide) ?_
     exact sr_weaken (l' := [(7, .int .i64 n_7), (8, .int .i64 k_8), (9, .pointer (some ⟨ga_9, 0, none⟩)), (106, .bool false)]) (.cons rfl (.cons rfl (.cons rfl (.cons rfl (.nil _))))) (K191 false _ ⟨by first | (rw [hg190]; rfl) | rfl, rfl⟩)
theorem law39_LoginSilence_ok (w0 : World) (hg : Gs w0) {ρA : Tags} (hbd : ∀ b, ρA b ≠ 0 → b < w0.heap.size) (hz : Gz ρA) {most_0 : Int} {word_1 : Str} {times_2 : Int} {r : Bool} (hS : law39_LoginSilence most_0 word_1 times_2 = some r) :
  Calls Tryz.prog 5 #[.int .u8 most_0, str word_1, .int .u8 times_2] w0 (Ret (fun v w' => v = .bool r ∧ Below w0.heap.size w0 w')) := by
 unfold law39_LoginSilence at hS
 have hb := flat1_fr (ρ := ρA) (w := w0) hbd
 have hz := hz.flat1
 refine calls_of_ke Tryz.func5 rfl (n := 118) rfl rfl (l := [(0, .int .u8 most_0), (1, str word_1), (2, .int .u8 times_2)]) rfl ?_
 refine ke_seq ?_
 refine ke_region ?_
 refine sr_ev (v := .bool false) (ev_assign rfl) (by decide) ?_
 refine sr_end (l' := [(0, .int .u8 most_0), (1, str word_1), (2, .int .u8 times_2)]) (.cons rfl (.cons rfl (.cons rfl (.nil _)))) ?_
 refine ke_seq ?_
 refine ke_region ?_
 refine sr_ev (v := .int .u8 most_0) (ev_move rfl) (by decide) ?_
 refine sr_ev (v := .int .i64 (IntKind.i64.wrap most_0)) (ev_conv Tryz.underlying3 Tryz.underlying5 rfl) (by decide) ?_
 refine sr_ev (v := .int .i64 (Int.tmod (IntKind.i64.wrap most_0) 8)) (ev_rem rfl rfl (by decide)) (by decide) ?_
 refine sr_ev (v := .int .i64 (IntKind.i64.wrap (1 + (Int.tmod (IntKind.i64.wrap most_0) 8)))) (ev_add rfl rfl) (by decide) ?_
 refine sr_ev (v := .int .u8 times_2) (ev_move rfl) (by decide) ?_
 refine sr_ev (v := .int .i64 (IntKind.i64.wrap times_2)) (ev_conv Tryz.underlying3 Tryz.underlying5 rfl) (by decide) ?_
 refine sr_ev (v := .int .i64 (Int.tmod (IntKind.i64.wrap times_2) 10)) (ev_rem rfl rfl (by decide)) (by decide) ?_
 refine sr_ev (v := .int .i64 (IntKind.i64.wrap (1 + (Int.tmod (IntKind.i64.wrap most_0) 8)))) (ev_assign rfl) (by decide) ?_
 refine sr_ev (v := .int .i64 (Int.tmod (IntKind.i64.wrap times_2) 10)) (ev_assign rfl) (by decide) ?_
 refine sr_end (l' := [(1, str word_1), (7, .int .i64 (IntKind.i64.wrap (1 + (Int.tmod (IntKind.i64.wrap most_0) 8)))), (8, .int .i64 (Int.tmod (IntKind.i64.wrap times_2) 10))]) (.cons rfl (.cons rfl (.cons rfl (.nil _)))) ?_
 refine ke_seq ?_
 refine ke_seq ?_
 refine ke_region ?_
 refine sr_ev (v := str word_1) (ev_move rfl) (by decide) ?_
 refine sr_ev (v := .int .i64 (word_1.length : Int)) (ev_slen Tryz.underlying9 rfl) (by decide) ?_
 refine sr_ev (v := .bool (decide ((word_1.length : Int) > 300))) (ev_gt rfl rfl) (by decide) ?_
 refine sr_ev (v := .bool (decide ((word_1.length : Int) > 300))) (ev_move rfl) (by decide) ?_
 refine sr_join (m := 3) (C := fun (x : Bool) w1 => x = ((decide ((word_1.length : Int) > 300)) || (word_1 == ([115, 101, 99, 114, 101, 116, 119, 111, 114, 100]))) ∧ w0 = w1) (l' := fun x => [(1, str word_1), (7, .int .i64 (IntKind.i64.wrap (1 + (Int.tmod (IntKind.i64.wrap most_0) 8)))), (8, .int .i64 (Int.tmod (IntKind.i64.wrap times_2) 10)), (29, .bool x)]) ?_ ?_
 ·rintro _ _ ⟨rfl, rfl⟩
  refine sr_end (l' := [(1, str word_1), (7, .int .i64 (IntKind.i64.wrap (1 + (Int.tmod (IntKind.i64.wrap most_0) 8)))), (8, .int .i64 (Int.tmod (IntKind.i64.wrap times_2) 10)), (29, .bool ((decide ((word_1.length : Int) > 300)) || (word_1 == ([115, 101, 99, 114, 101, 116, 119, 111, 114, 100]))))]) (.cons rfl (.cons rfl (.cons rfl (.cons rfl (.nil _))))) ?_
  refine ke_cond (t := (decide ((word_1.length : Int) > 300)) || (word_1 == ([115, 101, 99, 114, 101, 116, 119, 111, 114, 100]))) rfl (fun hc9 => ?_) (fun hc9 => ?_)
  ·replace hS := ite_true' hS hc9
   refine ke_seq ?_
   refine ke_region ?_
   obtain ⟨y10, hy11, hS⟩ := bind_some' hS
   refine sr_call (vs := []) rfl Tryz.call10 rfl (law39_alive_ok _ (hg.fr hz hb) (ρA := (flat1 ρA)) hb.bd (hz.fr hg hb) hy11) (by decide) ?_
   rintro _ w12 ⟨rfl, hbw13⟩
   have htr14 := Tr.of_below hbw13 hb.bd
   replace hb := hb.trans htr14
   refine sr_ev (v := .bool y10) (ev_assign rfl) (by decide) ?_
   refine sr_end (l' := [(6, .bool y10)]) (.cons rfl (.nil _)) ?_
   cases hS
   exact ke_ret1 Tryz.func5 rfl rfl ⟨_, rfl, rfl, (hb.below (flat1_le _))⟩
  ·replace hS := ite_false' hS hc9
   refine ke_skip ?_
   refine ke_seq ?_
   refine ke_region ?_
   refine sr_ev (v := .int .i64 (IntKind.i64.wrap (1 + (Int.tmod (IntKind.i64.wrap most_0) 8)))) (ev_move rfl) (by decide) ?_
   obtain ⟨y15, hy16, hS⟩ := bind_some' hS
   refine sr_call (vs := [.int .i64 (IntKind.i64.wrap (1 + (Int.tmod (IntKind.i64.wrap most_0) 8)))]) rfl Tryz.call11 rfl (law39_ann_ok _ (hg.fr hz hb) (ρA := (flat1 ρA)) hb.bd (hz.fr hg hb) (o := 100) (by decide) hy16) (by decide) ?_
   rintro v20 w17 ⟨ρ22, _, rfl, hP21, htr19⟩
   replace hb := hb.trans htr19
   rcases ho24 : y15 with _ | z23
   ·replace hS := optC_none hS ho24
    obtain rfl := hP21.none_ ho24
    refine sr_ev (v := .pointer none) (ev_assign rfl) (by decide) ?_
    refine sr_end (l' := [(1, str word_1), (7, .int .i64 (IntKind.i64.wrap (1 + (Int.tmod (IntKind.i64.wrap most_0) 8)))), (8, .int .i64 (Int.tmod (IntKind.i64.wrap times_2) 10)), (9, .pointer none)]) (.cons rfl (.cons rfl (.cons rfl (.cons rfl (.nil _))))) ?_
    refine ke_seq ?_
    refine ke_seq ?_
    refine ke_region ?_
    refine sr_ev (v := .pointer none) (ev_move rfl) (by decide) ?_
    refine sr_ev (v := .bool true) (ev_peqT_nil Tryz.underlying25 rfl rfl) (by decide) ?_
    refine sr_end (l' := [(1, str word_1), (7, .int .i64 (IntKind.i64.wrap (1 + (Int.tmod (IntKind.i64.wrap most_0) 8)))), (8, .int .i64 (Int.tmod (IntKind.i64.wrap times_2) 10)), (9, .pointer none), (34, .bool true)]) (.cons rfl (.cons rfl (.cons rfl (.cons rfl (.cons rfl (.nil _)))))) ?_
    refine ke_cond (t := true) rfl (fun _ => ?_) (fun h => by cases h)
    refine ke_seq ?_
    refine ke_region ?_
    refine sr_ev (v := .bool false) (ev_assign rfl) (by decide) ?_
    refine sr_end (l' := [(6, .bool false)]) (.cons rfl (.nil _)) ?_
    cases hS
    exact ke_ret1 Tryz.func5 rfl rfl ⟨_, rfl, rfl, (hb.below (flat1_le _))⟩
   ·replace hS := optC_some hS ho24
    obtain ⟨g25, rfl, ⟨v26, v28, v30, v32, hB34, hP27, h29, h31, h33⟩⟩ := hP21.some_ ho24
    replace hB34 : Blk ρ22 100 w17 g25 (.cells #[v26, v28, v30, v32] 69 (0, 0)) := hB34
    replace hP27 : PtrO secret_Locks.O (fun q => 100 + (1 + q)) ρ22 w17 v26 z23.locks := hP27
    replace h29 : MapT str login_credentials.c true ρ22 104 w17 v28 z23.users := h29
    replace h31 : MapT str (intC .i64) false ρ22 105 w17 v30 z23.counters := h31
    replace h33 : MapT str login_attempt.c true ρ22 106 w17 v32 z23.attempts := h33
    refine sr_ev (v := .pointer (some ⟨g25, 0, none⟩)) (ev_assign rfl) (by decide) ?_
    refine sr_end (l' := [(1, str word_1), (7, .int .i64 (IntKind.i64.wrap (1 + (Int.tmod (IntKind.i64.wrap most_0) 8)))), (8, .int .i64 (Int.tmod (IntKind.i64.wrap times_2) 10)), (9, .pointer (some ⟨g25, 0, none⟩))]) (.cons rfl (.cons rfl (.cons rfl (.cons rfl (.nil _))))) ?_
    refine ke_seq ?_
    refine ke_seq ?_
    refine ke_region ?_
    refine sr_ev (v := .pointer (some ⟨g25, 0, none⟩)) (ev_move rfl) (by decide) ?_
    refine sr_ev (v := .bool false) (ev_peqT_some Tryz.underlying25 rfl rfl) (by decide) ?_
    refine sr_end (l' := [(1, str word_1), (7, .int .i64 (IntKind.i64.wrap (1 + (Int.tmod (IntKind.i64.wrap most_0) 8)))), (8, .int .i64 (Int.tmod (IntKind.i64.wrap times_2) 10)), (9, .pointer (some ⟨g25, 0, none⟩)), (34, .bool false)]) (.cons rfl (.cons rfl (.cons rfl (.cons rfl (.cons rfl (.nil _)))))) ?_
    refine ke_cond (t := false) rfl (fun h => by cases h) (fun _ => ?_)
    refine ke_skip ?_
    refine ke_seq ?_
    refine ke_seq ?_
    refine ke_region ?_
    obtain ⟨y35, hy36, hS⟩ := bind_some' hS
    refine sr_call (vs := [str ([115, 101, 99, 114, 101, 116, 119, 111, 114, 100]), str ([115, 97, 108, 116]), .int .i64 1]) rfl Tryz.call20 rfl (secret_Make_ok _ (hg.fr hz hb) hy36) (by decide) ?_
    rintro _ w37 ⟨rfl, hbw38⟩
    have htr39 := Tr.of_below hbw38 hb.bd
    replace hB34 := hB34.mv (htr39.mv (i := 100) rfl)
    replace hP27 := PtrO.mv hP27 secret_Locks.objK (fun p hp => htr39.mv (i := 100 + (1 + p)) (by rcases p with _ | _ | _ | p <;> first | rfl | omega)) (fun p hp => by show 100 + (1 + p) ≠ 0; omega)
    replace h29 := h29.mv (htr39.mv (i := 104) rfl)
    replace h31 := h31.mv (htr39.mv (i := 105) rfl)
    replace h33 := h33.mv (htr39.mv (i := 106) rfl)
    replace hb := hb.trans htr39
    refine sr_ev (v := .tuple #[.agg #[str y35.1.Salt, .int .i64 y35.1.Rounds, str y35.1.Hash], .int .i64 y35.2]) (ev_move rfl) (by decide) ?_
    refine sr_ev (v := .agg #[str y35.1.Salt, .int .i64 y35.1.Rounds, str y35.1.Hash]) (ev_extract rfl rfl) (by decide) ?_
    refine sr_ev (v := .int .i64 y35.2) (ev_extract rfl rfl) (by decide) ?_
    refine sr_allocT 12 (by decide) hb.bd Tryz.zeroValue45 (by decide) ?_
    intro g40 ρ41 w42 hB44 htr43
    replace hB34 := hB34.mv (htr43.mv (i := 100) rfl)
    replace hP27 := PtrO.mv hP27 secret_Locks.objK (fun p hp => htr43.mv (i := 100 + (1 + p)) (by rcases p with _ | _ | _ | p <;> first | rfl | omega)) (fun p hp => by show 100 + (1 + p) ≠ 0; omega)
    replace h29 := h29.mv (htr43.mv (i := 104) rfl)
    replace h31 := h31.mv (htr43.mv (i := 105) rfl)
    replace h33 := h33.mv (htr43.mv (i := 106) rfl)
    replace hb := hb.trans htr43
    replace hB44 : Blk ρ41 12 w42 g40 (.cells #[str ([]), .int .i64 0, str ([])] 45 (0, 0)) := hB44
    refine sr_storeT (v := .agg #[str y35.1.Salt, .int .i64 y35.1.Rounds, str y35.1.Hash]) (vs := [str y35.1.Salt, .int .i64 y35.1.Rounds, str y35.1.Hash]) (cs' := #[str y35.1.Salt, .int .i64 y35.1.Rounds, str y35.1.Hash]) hB44 (by decide) hb.bd rfl rfl rfl Tryz.sizeOf45 rfl rfl rfl ?_
    intro w45 hB441 htr46
    replace hB34 := hB34.mv (htr46.mv (i := 100) rfl)
    replace hP27 := PtrO.mv hP27 secret_Locks.objK (fun p hp => htr46.mv (i := 100 + (1 + p)) (by rcases p with _ | _ | _ | p <;> first | rfl | omega)) (fun p hp => by show 100 + (1 + p) ≠ 0; omega)
    replace h29 := h29.mv (htr46.mv (i := 104) rfl)
    replace h31 := h31.mv (htr46.mv (i := 105) rfl)
    replace h33 := h33.mv (htr46.mv (i := 106) rfl)
    replace hb := hb.trans htr46
    replace hB44 : Blk ρ41 12 w45 g40 (.cells #[str y35.1.Salt, .int .i64 y35.1.Rounds, str y35.1.Hash] 45 (0, 0)) := hB441
    clear hB441
    refine sr_ev (v := .int .i64 y35.2) (ev_assign rfl) (by decide) ?_
    refine sr_end (l' := [(1, str word_1), (7, .int .i64 (IntKind.i64.wrap (1 + (Int.tmod (IntKind.i64.wrap most_0) 8)))), (8, .int .i64 (Int.tmod (IntKind.i64.wrap times_2) 10)), (9, .pointer (some ⟨g25, 0, none⟩)), (10, .pointer (some ⟨g40, 0, none⟩)), (11, .int .i64 y35.2)]) (.cons rfl (.cons rfl (.cons rfl (.cons rfl (.cons rfl (.cons rfl (.nil _))))))) ?_
    refine ke_seq ?_
    refine ke_region ?_
    refine sr_ev (v := .int .i64 y35.2) (ev_move rfl) (by decide) ?_
    refine sr_ev (v := .bool (y35.2 != 0)) (ev_ne rfl rfl) (by decide) ?_
    refine sr_ev (v := .bool (y35.2 != 0)) (ev_move rfl) (by decide) ?_
    obtain ⟨z49, hz51, hS⟩ := bind_some' hS
    refine sr_join (m := 4) (C := fun (z : Bool) w1 => z49 = z ∧ ∃ ρ1, Tr ρ41 w45 (fun _ => false) ρ1 w1) (l' := fun z => [(1, str word_1), (7, .int .i64 (IntKind.i64.wrap (1 + (Int.tmod (IntKind.i64.wrap most_0) 8)))), (8, .int .i64 (Int.tmod (IntKind.i64.wrap times_2) 10)), (9, .pointer (some ⟨g25, 0, none⟩)), (45, .bool z)]) ?_ ?_
    ·rintro _ w52 ⟨rfl, ρ53, hj50⟩
     replace hB34 := hB34.mv (hj50.mv (i := 100) rfl)
     replace hP27 := PtrO.mv hP27 secret_Locks.objK (fun p hp => hj50.mv (i := 100 + (1 + p)) (by rcases p with _ | _ | _ | p <;> first | rfl | omega)) (fun p hp => by show 100 + (1 + p) ≠ 0; omega)
     replace h29 := h29.mv (hj50.mv (i := 104) rfl)
     replace h31 := h31.mv (hj50.mv (i := 105) rfl)
     replace h33 := h33.mv (hj50.mv (i := 106) rfl)
     replace hb := hb.trans hj50
     refine sr_end (l' := [(1, str word_1), (7, .int .i64 (IntKind.i64.wrap (1 + (Int.tmod (IntKind.i64.wrap most_0) 8)))), (8, .int .i64 (Int.tmod (IntKind.i64.wrap times_2) 10)), (9, .pointer (some ⟨g25, 0, none⟩)), (45, .bool z49)]) (.cons rfl (.cons rfl (.cons rfl (.cons rfl (.cons rfl (.nil _)))))) ?_
     refine ke_cond (t := z49) rfl (fun hc60 => ?_) (fun hc60 => ?_)
     ·replace hS := ite_true' hS hc60
      refine ke_seq ?_
      refine ke_region ?_
      obtain ⟨y61, hy62, hS⟩ := bind_some' hS
      refine sr_call (vs := []) rfl Tryz.call10 rfl (law39_alive_ok _ (hg.fr hz hb) (ρA := ρ53) hb.bd (hz.fr hg hb) hy62) (by decide) ?_
      rintro _ w63 ⟨rfl, hbw64⟩
      have htr65 := Tr.of_below hbw64 hb.bd
      replace hb := hb.trans htr65
      refine sr_ev (v := .bool y61) (ev_assign rfl) (by decide) ?_
      refine sr_end (l' := [(6, .bool y61)]) (.cons rfl (.nil _)) ?_
      cases hS
      exact ke_ret1 Tryz.func5 rfl rfl ⟨_, rfl, rfl, (hb.below (flat1_le _))⟩
     ·replace hS := ite_false' hS hc60
      refine ke_skip ?_
      refine ke_seq ?_
      refine ke_seq ?_
      refine ke_region ?_
      refine sr_ev (v := .pointer (some ⟨g25, 0, none⟩)) (ev_move rfl) (by decide) ?_
      obtain ⟨y66, hy67, hS⟩ := bind_some' hS
      refine sr_call (vs := [.pointer (some ⟨g25, 0, none⟩), str ([120]), str ([97, 110, 110]), .int .i64 0]) rfl Tryz.call14 rfl (login_Logins_Begin_ok _ (hg.fr hz hb) (ρA := ρ53) hb.bd (hz.fr hg hb) (o := 100) (by decide) (⟨_, _, _, _, hB34, hP27, h29, h31, h33⟩ : login_Logins.O (fun p => 100 + p) ρ53 w52 g25 z23) hy67) (by decide) ?_
      rintro _ w68 ⟨ρ80, rfl, ⟨v71, v73, v75, v77, hB79, hP72, h74, h76, h78⟩, htr70⟩
      replace hb := hb.trans htr70
      replace hB79 : Blk ρ80 100 w68 g25 (.cells #[v71, v73, v75, v77] 69 (0, 0)) := hB79
      replace hP72 : PtrO secret_Locks.O (fun q => 100 + (1 + q)) ρ80 w68 v71 y66.2.locks := hP72
      replace h74 : MapT str login_credentials.c true ρ80 104 w68 v73 y66.2.users := h74
      replace h76 : MapT str (intC .i64) false ρ80 105 w68 v75 y66.2.counters := h76
      replace h78 : MapT str login_attempt.c true ρ80 106 w68 v77 y66.2.attempts := h78
      refine sr_ev (v := .pointer (some ⟨g25, 0, none⟩)) (ev_move rfl) (by decide) ?_
      obtain ⟨y81, hy82, hS⟩ := bind_some' hS
      refine sr_call (vs := [.pointer (some ⟨g25, 0, none⟩), str ([121]), str ([98, 111, 98]), .int .i64 0]) rfl Tryz.call14 rfl (login_Logins_Begin_ok _ (hg.fr hz hb) (ρA := ρ80) hb.bd (hz.fr hg hb) (o := 100) (by decide) (⟨_, _, _, _, hB79, hP72, h74, h76, h78⟩ : login_Logins.O (fun p => 100 + p) ρ80 w68 g25 y66.2) hy82) (by decide) ?_
      rintro _ w83 ⟨ρ95, rfl, ⟨v86, v88, v90, v92, hB94, hP87, h89, h91, h93⟩, htr85⟩
      replace hb := hb.trans htr85
      replace hB94 : Blk ρ95 100 w83 g25 (.cells #[v86, v88, v90, v92] 69 (0, 0)) := hB94
      replace hP87 : PtrO secret_Locks.O (fun q => 100 + (1 + q)) ρ95 w83 v86 y81.2.locks := hP87
      replace h89 : MapT str login_credentials.c true ρ95 104 w83 v88 y81.2.users := h89
      replace h91 : MapT str (intC .i64) false ρ95 105 w83 v90 y81.2.counters := h91
      replace h93 : MapT str login_attempt.c true ρ95 106 w83 v92 y81.2.attempts := h93
      refine sr_ev (v := .bool (y66.1 != y81.1)) (ev_ne rfl rfl) (by decide) ?_
      refine sr_end (l' := [(1, str word_1), (7, .int .i64 (IntKind.i64.wrap (1 + (Int.tmod (IntKind.i64.wrap most_0) 8)))), (8, .int .i64 (Int.tmod (IntKind.i64.wrap times_2) 10)), (9, .pointer (some ⟨g25, 0, none⟩)), (51, .bool (y66.1 != y81.1))]) (.cons rfl (.cons rfl (.cons rfl (.cons rfl (.cons rfl (.nil _)))))) ?_
      refine ke_cond (t := y66.1 != y81.1) rfl (fun hc96 => ?_) (fun hc96 => ?_)
      ·replace hS := ite_true' hS hc96
       refine ke_seq ?_
       refine ke_region ?_
       refine sr_ev (v := .bool false) (ev_assign rfl) (by decide) ?_
       refine sr_end (l' := [(6, .bool false)]) (.cons rfl (.nil _)) ?_
       cases hS
       exact ke_ret1 Tryz.func5 rfl rfl ⟨_, rfl, rfl, (hb.below (flat1_le _))⟩
      ·replace hS := ite_false' hS hc96
       refine ke_skip ?_
       refine ke_seq ?_
       refine ke_seq ?_
       refine ke_region ?_
       refine sr_ev (v := .int .i64 0) (ev_assign rfl) (by decide) ?_
       refine sr_end (l' := [(1, str word_1), (7, .int .i64 (IntKind.i64.wrap (1 + (Int.tmod (IntKind.i64.wrap most_0) 8)))), (8, .int .i64 (Int.tmod (IntKind.i64.wrap times_2) 10)), (9, .pointer (some ⟨g25, 0, none⟩)), (12, .int .i64 0)]) (.cons rfl (.cons rfl (.cons rfl (.cons rfl (.cons rfl (.nil _)))))) ?_
       refine ke_block ?_
       have hK := law39_LoginSilence_L1_ok hg hbd hz _ hS hb ⟨_, _, _, _, hB94, hP87, h89, h91, h93⟩
       exact ke_weaken (l' := [(1, str word_1), (7, .int .i64 (IntKind.i64.wrap (1 + (Int.tmod (IntKind.i64.wrap most_0) 8)))), (8, .int .i64 (Int.tmod (IntKind.i64.wrap times_2) 10)), (9, .pointer (some ⟨g25, 0, none⟩)), (12, .int .i64 0)]) (.cons rfl (.cons rfl (.cons rfl (.cons rfl (.cons rfl (.nil _)))))) (ke_loop hK)
    ·intro K48
     clear hS
     have hj50 : Tr ρ41 w45 (fun _ => false) ρ41 w45 := (Tr.refl hb.bd).weak (fun _ _ => rfl) rfl rfl
     rcases Bool.eq_false_or_eq_true (y35.2 != 0) with hg47 | hg47
     ·have hS := ite_true' hz51 hg47
      refine sr_pass (e := 41) rfl rfl (by rw [hg47]; rfl) (by decide) ?_
      refine sr_pass (e := 41) rfl rfl (by rw [hg47]; rfl) (by decide) ?_
      refine sr_pass (e := 41) rfl rfl (by rw [hg47]; rfl) (by decide) ?_
      refine sr_ev (v := .bool true) (ev_pick_t rfl hg47 rfl) (by decide) ?_
      exact sr_weaken (l' := [(1, str word_1), (7, .int .i64 (IntKind.i64.wrap (1 + (Int.tmod (IntKind.i64.wrap most_0) 8)))), (8, .int .i64 (Int.tmod (IntKind.i64.wrap times_2) 10)), (9, .pointer (some ⟨g25, 0, none⟩)), (45, .bool true)]) (.cons rfl (.cons rfl (.cons rfl (.cons rfl (.cons rfl (.nil _)))))) (K48 true _ ⟨(Option.some.inj hS).symm, _, hj50⟩)
     ·have hS := ite_false' hz51 hg47
      refine sr_evg (b := false) (e := 41) rfl rfl hg47 (v := .agg #[str y35.1.Salt, .int .i64 y35.1.Rounds, str y35.1.Hash]) (ev_loads (cs := [str y35.1.Salt, .int .i64 y35.1.Rounds, str y35.1.Hash]) Tryz.isAgg45 Tryz.sizeOf45 rfl (hB44.cells (vs := [str y35.1.Salt, .int .i64 y35.1.Rounds, str y35.1.Hash]) rfl)) (by decide) ?_
      refine sr_evg (b := false) (e := 41) rfl rfl hg47 (v := str word_1) (ev_move rfl) (by decide) ?_
      obtain ⟨y55, hy56, hS⟩ := bind_some' hS
      refine sr_callg (b := false) (e := 41) rfl rfl hg47 (vs := [.agg #[str y35.1.Salt, .int .i64 y35.1.Rounds, str y35.1.Hash], str word_1]) rfl Tryz.call21 rfl (secret_Check_ok _ (hg.fr hz hb) hy56) (by decide) ?_
      rintro _ w57 ⟨rfl, hbw58⟩
      have htr59 := Tr.of_below hbw58 hb.bd
      replace hB34 := hB34.mv (htr59.mv (i := 100) rfl)
      replace hP27 := PtrO.mv hP27 secret_Locks.objK (fun p hp => htr59.mv (i := 100 + (1 + p)) (by rcases p with _ | _ | _ | p <;> first | rfl | omega)) (fun p hp => by show 100 + (1 + p) ≠ 0; omega)
      replace h29 := h29.mv (htr59.mv (i := 104) rfl)
      replace h31 := h31.mv (htr59.mv (i := 105) rfl)
      replace h33 := h33.mv (htr59.mv (i := 106) rfl)
      replace hb := hb.trans htr59
      replace hj50 := (hj50.trans htr59).weak (J' := (fun _ => false)) (by intro t h; simp [rng] at h ⊢ <;> omega) rfl rfl
      refine sr_ev (v := .bool y55) (ev_pick_f rfl hg47 rfl) (by decide) ?_
      exact sr_weaken (l' := [(1, str word_1), (7, .int .i64 (IntKind.i64.wrap (1 + (Int.tmod (IntKind.i64.wrap most_0) 8)))), (8, .int .i64 (Int.tmod (IntKind.i64.wrap times_2) 10)), (9, .pointer (some ⟨g25, 0, none⟩)), (45, .bool y55)]) (.cons rfl (.cons rfl (.cons rfl (.cons rfl (.cons rfl (.nil _)))))) (K48 y55 _ ⟨(Option.some.inj hS).symm, _, hj50⟩)
 ·intro K2
  rcases Bool.eq_false_or_eq_true (decide ((word_1.length : Int) > 300)) with hg1 | hg1
  all_goals try have hj4 : Tr (flat1 ρA) w0 (fun _ => false) (flat1 ρA) w0 := Tr.refl hb.bd
  ·refine sr_pass (e := 26) rfl rfl (by rw [hg1]; rfl) (by decide) ?_
   refine sr_pass (e := 26) rfl rfl (by rw [hg1]; rfl) (by decide) ?_
   refine sr_ev (v := .bool true) (ev_pick_t rfl hg1 rfl) (by decide) ?_
   exact sr_weaken (l' := [(1, str word_1), (7, .int .i64 (IntKind.i64.wrap (1 + (Int.tmod (IntKind.i64.wrap most_0) 8)))), (8, .int .i64 (Int.tmod (IntKind.i64.wrap times_2) 10)), (29, .bool true)]) (.cons rfl (.cons rfl (.cons rfl (.cons rfl (.nil _))))) (K2 true _ ⟨by first | (rw [hg1]; rfl) | rfl, rfl⟩)
  ·refine sr_evg (b := false) (e := 26) rfl rfl hg1 (v := str word_1) (ev_move rfl) (by decide) ?_
   refine sr_evg (b := false) (e := 26) rfl rfl hg1 (v := .bool (word_1 == ([115, 101, 99, 114, 101, 116, 119, 111, 114, 100]))) (ev_seq rfl rfl) (by decide) ?_
   refine sr_ev (v := .bool (word_1 == ([115, 101, 99, 114, 101, 116, 119, 111, 114, 100]))) (ev_pick_f rfl hg1 rfl) (by decide) ?_
   exact sr_weaken (l' := [(1, str word_1), (7, .int .i64 (IntKind.i64.wrap (1 + (Int.tmod (IntKind.i64.wrap most_0) 8)))), (8, .int .i64 (Int.tmod (IntKind.i64.wrap times_2) 10)), (29, .bool (word_1 == ([115, 101, 99, 114, 101, 116, 119, 111, 114, 100])))]) (.cons rfl (.cons rfl (.cons rfl (.cons rfl (.nil _))))) (K2 (word_1 == ([115, 101, 99, 114, 101, 116, 119, 111, 114, 100])) _ ⟨by first | (rw [hg1]; rfl) | rfl, rfl⟩)
end YtkhodjenbganfaaGreatDoor
end Go.Proofs
