/- Own work: a part of the proofs of this seat. -/
import Derived.Test.YtkhodjenbganfaaGreatDoorProg
import Derived.Test.YtkhodjenbganfaaGreatDoorShelf
import Derived.Test.YtkhodjenbganfaaGreatDoorKwNS
import Derived.KernelRfl
import Derived.Test.YtkhodjenbganfaaGreatDoorKwNLoginNilW2
set_option linter.unusedVariables false
set_option linter.unusedSimpArgs false
set_option linter.unusedSectionVars false
set_option maxHeartbeats 8000000
set_option maxRecDepth 8000
namespace Go.Proofs
namespace YtkhodjenbganfaaGreatDoor
open Go Go.KW Go.KW.S Go.RowKit
theorem otp_Code_ok (w0 : World) (hg : Gs w0) {secret_0 : Str} {counter_1 : Int} {r : Str × Int} (hS : otp_Code secret_0 counter_1 = some r) :
  Calls Tryz.prog 12 #[str secret_0, .int .i64 counter_1] w0 (Ret (fun v w' => v = .tuple #[str r.1, .int .i64 r.2] ∧ Below w0.heap.size w0 w')) := by
 unfold otp_Code at hS
 have hb := Below.refl w0.heap.size w0
 refine calls_of_ke Tryz.func12 rfl (n := 20) rfl rfl (l := [(0, str secret_0), (1, .int .i64 counter_1)]) rfl ?_
 refine ke_seq ?_
 refine ke_region ?_
 refine sr_ev (v := str ([])) (ev_assign rfl) (by decide) ?_
 refine sr_ev (v := .int .i64 0) (ev_assign rfl) (by decide) ?_
 refine sr_end (l' := [(0, str secret_0), (1, .int .i64 counter_1)]) (.cons rfl (.cons rfl (.nil _))) ?_
 refine ke_seq ?_
 refine ke_block ?_
 refine ke_seq ?_
 refine ke_region ?_
 refine sr_ev (v := str secret_0) (ev_move rfl) (by decide) ?_
 obtain ⟨y1, hy2, hS⟩ := bind_some' hS
 refine sr_call (vs := [str secret_0]) rfl Tryz.call40 rfl (fold_Clean_ok _ (hg.below hb) hy2) (by decide) ?_
 rintro _ w3 ⟨rfl, hbw4⟩
 replace hb := hb.trans (hbw4.mono hb.size)
 refine sr_ev (v := .bool (!y1)) (ev_not rfl) (by decide) ?_
 refine sr_ev (v := .bool (!y1)) (ev_assign rfl) (by decide) ?_
 refine sr_end (l' := [(0, str secret_0), (1, .int .i64 counter_1), (6, .bool (!y1))]) (.cons rfl (.cons rfl (.cons rfl (.nil _)))) ?_
 refine ke_cond (t := !y1) rfl (fun hc5 => ?_) (fun hc5 => ?_)
 ·replace hS := ite_true' hS hc5
  refine ke_seq ?_
  refine ke_region ?_
  refine sr_ev (v := str ([])) (ev_assign rfl) (by decide) ?_
  refine sr_ev (v := .int .i64 4) (ev_assign rfl) (by decide) ?_
  refine sr_end (l' := [(4, str ([])), (5, .int .i64 4)]) (.cons rfl (.cons rfl (.nil _))) ?_
  cases hS
  exact ke_ret2 Tryz.func12 rfl rfl rfl ⟨_, rfl, rfl, hb⟩
 ·replace hS := ite_false' hS hc5
  refine ke_seq ?_
  refine ke_region ?_
  refine sr_ev (v := .int .i64 counter_1) (ev_move rfl) (by decide) ?_
  refine sr_ev (v := .bool (decide (counter_1 < 0))) (ev_lt rfl rfl) (by decide) ?_
  refine sr_ev (v := .bool (decide (counter_1 < 0))) (ev_move rfl) (by decide) ?_
  refine sr_join (m := 3) (C := fun (x : Bool) w1 => x = ((decide (counter_1 < 0)) || (decide (counter_1 > 36650387592))) ∧ w3 = w1) (l' := fun x => [(0, str secret_0), (1, .int .i64 counter_1), (16, .bool x)]) ?_ ?_
  ·rintro _ _ ⟨rfl, rfl⟩
   refine sr_ev (v := .bool ((decide (counter_1 < 0)) || (decide (counter_1 > 36650387592)))) (ev_assign rfl) (by decide) ?_
   refine sr_end (l' := [(0, str secret_0), (1, .int .i64 counter_1), (10, .bool ((decide (counter_1 < 0)) || (decide (counter_1 > 36650387592))))]) (.cons rfl (.cons rfl (.cons rfl (.nil _)))) ?_
   refine ke_cond (t := (decide (counter_1 < 0)) || (decide (counter_1 > 36650387592))) rfl (fun hc13 => ?_) (fun hc13 => ?_)
   ·replace hS := ite_true' hS hc13
    refine ke_seq ?_
    refine ke_region ?_
    refine sr_ev (v := str ([])) (ev_assign rfl) (by decide) ?_
    refine sr_ev (v := .int .i64 27) (ev_assign rfl) (by decide) ?_
    refine sr_end (l' := [(4, str ([])), (5, .int .i64 27)]) (.cons rfl (.cons rfl (.nil _))) ?_
    cases hS
    exact ke_ret2 Tryz.func12 rfl rfl rfl ⟨_, rfl, rfl, hb⟩
   ·replace hS := ite_false' hS hc13
    refine ke_skip ?_
    refine ke_inBlock ?_
    refine ke_seq ?_
    refine ke_region ?_
    refine sr_ev (v := str secret_0) (ev_move rfl) (by decide) ?_
    refine sr_ev (v := .int .i64 counter_1) (ev_move rfl) (by decide) ?_
    obtain ⟨y14, hy15, hS⟩ := bind_some' hS
    refine sr_call (vs := [str secret_0, .int .i64 counter_1]) rfl Tryz.call41 rfl (otp_code_ok _ (hg.below hb) hy15) (by decide) ?_
    rintro _ w16 ⟨rfl, hbw17⟩
    replace hb := hb.trans (hbw17.mono hb.size)
    refine sr_ev (v := str y14) (ev_assign rfl) (by decide) ?_
    refine sr_ev (v := .int .i64 0) (ev_assign rfl) (by decide) ?_
    refine sr_end (l' := [(4, str y14), (5, .int .i64 0)]) (.cons rfl (.cons rfl (.nil _))) ?_
    cases hS
    exact ke_ret2 Tryz.func12 rfl rfl rfl ⟨_, rfl, rfl, hb⟩
  ·intro K7
   rcases Bool.eq_false_or_eq_true (decide (counter_1 < 0)) with hg6 | hg6
   ·refine sr_pass (e := 13) rfl rfl (by rw [hg6]; rfl) (by decide) ?_
    refine sr_pass (e := 13) rfl rfl (by rw [hg6]; rfl) (by decide) ?_
    refine sr_ev (v := .bool true) (ev_pick_t rfl hg6 rfl) (by decide) ?_
    exact sr_weaken (l' := [(0, str secret_0), (1, .int .i64 counter_1), (16, .bool true)]) (.cons rfl (.cons rfl (.cons rfl (.nil _)))) (K7 true _ ⟨by rw [hg6]; rfl, rfl⟩)
   ·refine sr_evg (b := false) (e := 13) rfl rfl hg6 (v := .int .i64 counter_1) (ev_move rfl) (by decide) ?_
    refine sr_evg (b := false) (e := 13) rfl rfl hg6 (v := .bool (decide (counter_1 > 36650387592))) (ev_gt rfl rfl) (by decide) ?_
    refine sr_ev (v := .bool (decide (counter_1 > 36650387592))) (ev_pick_f rfl hg6 rfl) (by decide) ?_
    exact sr_weaken (l' := [(0, str secret_0), (1, .int .i64 counter_1), (16, .bool (decide (counter_1 > 36650387592)))]) (.cons rfl (.cons rfl (.cons rfl (.nil _)))) (K7 (decide (counter_1 > 36650387592)) _ ⟨by rw [hg6]; rfl, rfl⟩)
theorem login_Logins_last_ok (w0 : World) (hg : Gs w0) {ρA : Tags} (hbd : ∀ b, ρA b ≠ 0 → b < w0.heap.size) (hz : Gz ρA) {τ0 : Nat → Nat} (hτ0 : ∀ p, 1 ≤ τ0 p) {l_0 : login_Logins} {user_1 : Str} {gl_0 : Nat} {r : Int} (ho0 : login_Logins.O τ0 ρA w0 gl_0 l_0) (hS : login_Logins_last l_0 user_1 = some r) :
  Calls Tryz.prog 92 #[.pointer (some ⟨gl_0, 0, none⟩), str user_1] w0 (Ret (fun v w' => v = .int .i64 r ∧ Below w0.heap.size w0 w')) := by
 unfold login_Logins_last at hS
 have hb := flat1_fr (ρ := ρA) (w := w0) hbd
 have hz := hz.flat1
 obtain ⟨v1, v3, v5, v7, hB9, hP2, h4, h6, h8⟩ := ho0
 replace hB9 := hB9.mv (flat1_mv (hτ0 0))
 replace hP2 := PtrO.mv hP2 secret_Locks.objK (fun p hp => flat1_mv (hτ0 (1 + p))) (fun _ _ => by decide)
 replace h4 := h4.mv (flat1_mv (hτ0 4))
 replace h6 := h6.mv (flat1_mv (hτ0 5))
 replace h8 := h8.mv (flat1_mv (hτ0 6))
 replace hB9 : Blk (flat1 ρA) 1 w0 gl_0 (.cells #[v1, v3, v5, v7] 69 (0, 0)) := hB9
 replace hP2 : PtrO secret_Locks.O (fun _ => 1) (flat1 ρA) w0 v1 l_0.locks := hP2
 replace h4 : MapT str login_credentials.c true (flat1 ρA) 1 w0 v3 l_0.users := h4
 replace h6 : MapT str (intC .i64) false (flat1 ρA) 1 w0 v5 l_0.counters := h6
 replace h8 : MapT str login_attempt.c true (flat1 ρA) 1 w0 v7 l_0.attempts := h8
 refine calls_of_ke Tryz.func92 rfl (n := 19) rfl rfl (l := [(0, .pointer (some ⟨gl_0, 0, none⟩)), (1, str user_1)]) rfl ?_
 refine ke_seq ?_
 refine ke_region ?_
 refine sr_ev (v := .int .i64 0) (ev_assign rfl) (by decide) ?_
 refine sr_end (l' := [(0, .pointer (some ⟨gl_0, 0, none⟩)), (1, str user_1)]) (.cons rfl (.cons rfl (.nil _))) ?_
 refine ke_seq ?_
 refine ke_region ?_
 refine sr_ev (v := .pointer (some ⟨gl_0, 0, none⟩)) (ev_move rfl) (by decide) ?_
 refine sr_ev (v := .pointer (some ⟨gl_0, 0, none⟩)) (ev_nilCheck rfl) (by decide) ?_
 refine sr_ev (v := .pointer (some ⟨gl_0, 2, none⟩)) (ev_fieldAddr (i := 2) Tryz.underlying69 rfl Tryz.info66 rfl rfl) (by decide) ?_
 refine sr_ev (v := v5) (ev_load Tryz.isAgg66 rfl (hB9.cell rfl)) (by decide) ?_
 refine sr_ev (v := str user_1) (ev_move rfl) (by decide) ?_
 obtain ⟨y14, hy15, hS⟩ := bind_some' hS
 replace hy15 := Option.some.inj hy15
 obtain ⟨cs10, hrd11, hl12, hl13⟩ := h6.look (zcs := [.int .i64 0]) (z := 0) Tryz.keyB9 Tryz.underlying66 Tryz.zeroValue3 rfl user_1
 rw [hy15] at hrd11
 obtain rfl : cs10 = [.int .i64 y14] := hrd11
 refine sr_ev (v := .tuple #[.int .i64 y14, .bool (mhas l_0.counters user_1)]) (hl13 w0 _ _ (Mv.of_below (i := 1) (ρ := (flat1 ρA)) (Below.refl _ _)) rfl rfl) (by decide) ?_
 refine sr_ev (v := .tuple #[.int .i64 y14, .bool (mhas l_0.counters user_1)]) (ev_move rfl) (by decide) ?_
 refine sr_ev (v := .int .i64 y14) (ev_extract rfl rfl) (by decide) ?_
 refine sr_ev (v := .bool (mhas l_0.counters user_1)) (ev_extract rfl rfl) (by decide) ?_
 refine sr_ev (v := .int .i64 y14) (ev_assign rfl) (by decide) ?_
 refine sr_ev (v := .bool (mhas l_0.counters user_1)) (ev_assign rfl) (by decide) ?_
 refine sr_end (l' := [(5, .int .i64 y14), (6, .bool (mhas l_0.counters user_1))]) (.cons rfl (.cons rfl (.nil _))) ?_
 refine ke_seq ?_
 refine ke_seq ?_
 refine ke_region ?_
 refine sr_ev (v := .bool (mhas l_0.counters user_1)) (ev_move rfl) (by decide) ?_
 refine sr_ev (v := .bool (!(mhas l_0.counters user_1))) (ev_not rfl) (by decide) ?_
 refine sr_end (l' := [(5, .int .i64 y14), (17, .bool (!(mhas l_0.counters user_1)))]) (.cons rfl (.cons rfl (.nil _))) ?_
 refine ke_cond (t := !(mhas l_0.counters user_1)) rfl (fun hc16 => ?_) (fun hc16 => ?_)
 ·replace hS := ite_true' hS hc16
  refine ke_seq ?_
  refine ke_region ?_
  refine sr_ev (v := .int .i64 (-1)) (ev_assign rfl) (by decide) ?_
  refine sr_end (l' := [(4, .int .i64 (-1))]) (.cons rfl (.nil _)) ?_
  cases hS
  exact ke_ret1 Tryz.func92 rfl rfl ⟨_, rfl, rfl, (hb.below (flat1_le _))⟩
 ·replace hS := ite_false' hS hc16
  refine ke_skip ?_
  refine ke_seq ?_
  refine ke_region ?_
  refine sr_ev (v := .int .i64 y14) (ev_move rfl) (by decide) ?_
  refine sr_ev (v := .int .i64 y14) (ev_assign rfl) (by decide) ?_
  refine sr_end (l' := [(4, .int .i64 y14)]) (.cons rfl (.nil _)) ?_
  cases hS
  exact ke_ret1 Tryz.func92 rfl rfl ⟨_, rfl, rfl, (hb.below (flat1_le _))⟩
theorem otp_six_1_ok (w0 : World) (hg : Gs w0) {c_0 : Int} {r : Bool} (hS : otp_six_1 c_0 = some r) :
  Calls Tryz.prog 144 #[.int .u8 c_0] w0 (Ret (fun v w' => v = .bool r ∧ Below w0.heap.size w0 w')) := by
 unfold otp_six_1 at hS
 have hb := Below.refl w0.heap.size w0
 refine calls_of_ke Tryz.func144 rfl (n := 9) rfl rfl (l := [(0, .int .u8 c_0)]) rfl ?_
 refine ke_seq ?_
 refine ke_region ?_
 refine sr_ev (v := .bool false) (ev_assign rfl) (by decide) ?_
 refine sr_end (l' := [(0, .int .u8 c_0)]) (.cons rfl (.nil _)) ?_
 refine ke_seq ?_
 refine ke_region ?_
 refine sr_ev (v := .int .u8 c_0) (ev_move rfl) (by decide) ?_
 refine sr_ev (v := .bool (decide (c_0 < 48))) (ev_lt rfl rfl) (by decide) ?_
 refine sr_ev (v := .bool (decide (c_0 < 48))) (ev_move rfl) (by decide) ?_
 refine sr_join (m := 3) (C := fun (x : Bool) w1 => x = ((decide (c_0 < 48)) || (decide (c_0 > 57))) ∧ w0 = w1) (l' := fun x => [(8, .bool x)]) ?_ ?_
 ·rintro _ _ ⟨rfl, rfl⟩
  refine sr_ev (v := .bool ((decide (c_0 < 48)) || (decide (c_0 > 57)))) (ev_assign rfl) (by decide) ?_
  refine sr_end (l' := [(2, .bool ((decide (c_0 < 48)) || (decide (c_0 > 57))))]) (.cons rfl (.nil _)) ?_
  cases hS
  exact ke_ret1 Tryz.func144 rfl rfl ⟨_, rfl, rfl, hb⟩
 ·intro K2
  rcases Bool.eq_false_or_eq_true (decide (c_0 < 48)) with hg1 | hg1
  ·refine sr_pass (e := 5) rfl rfl (by rw [hg1]; rfl) (by decide) ?_
   refine sr_pass (e := 5) rfl rfl (by rw [hg1]; rfl) (by decide) ?_
   refine sr_ev (v := .bool true) (ev_pick_t rfl hg1 rfl) (by decide) ?_
   exact sr_weaken (l' := [(8, .bool true)]) (.cons rfl (.nil _)) (K2 true _ ⟨by rw [hg1]; rfl, rfl⟩)
  ·refine sr_evg (b := false) (e := 5) rfl rfl hg1 (v := .int .u8 c_0) (ev_move rfl) (by decide) ?_
   refine sr_evg (b := false) (e := 5) rfl rfl hg1 (v := .bool (decide (c_0 > 57))) (ev_gt rfl rfl) (by decide) ?_
   refine sr_ev (v := .bool (decide (c_0 > 57))) (ev_pick_f rfl hg1 rfl) (by decide) ?_
   exact sr_weaken (l' := [(8, .bool (decide (c_0 > 57)))]) (.cons rfl (.nil _)) (K2 (decide (c_0 > 57)) _ ⟨by rw [hg1]; rfl, rfl⟩)
theorem slices_IndexFunc_byte_byte__six_1_L1_ok {w0 : World} (hg : Gs w0) {A0 : Nat → Prop} (hA0 : ∀ b, A0 b → b < w0.heap.size) : ∀ (n : Nat), ∀ {r : Int} {s_0 : List Int} {t_7 : Int} {t_8 : Int} {vs_0 : Value}, slices_IndexFunc_byte_byte__six_1_L1 n s_0 t_7 t_8 = some r → ∀ {w : World} {A : Nat → Prop}, (Below w0.heap.size w0 w) → (∀ b, A b → b < w.heap.size) → (∀ b, A0 b → A b) → (Hp A w0.heap.size w []) → (SlR (intC .u8) A w vs_0 s_0) → KE Tryz.prog 154 (Ret (fun v w' => v = .int .i64 r ∧ Below w0.heap.size w0 w')) 19 [.code (sub (bodyOf Tryz.f154) [2, 1, 2, 2, 1]), .inLoop (sub (bodyOf Tryz.f154) [2, 1, 2, 2, 1]), .inBlock 0, .code (sub (bodyOf Tryz.f154) [2, 2])] [(0, vs_0), (1, .func (.func 144) #[] #[]), (7, .int .i64 t_7), (8, .int .i64 t_8)] w := by
 intro n
 induction n with
 | zero => intro r s_0 t_7 t_8 vs_0 hS; cases hS
 | succ n ih =>
  have hr0 : ∀ {r : Int} {s_0 : List Int} {t_7 : Int} {t_8 : Int} {vs_0 : Value}, slices_IndexFunc_byte_byte__six_1_L1 n s_0 t_7 t_8 = some r → ∀ {w : World} {A : Nat → Prop}, (Below w0.heap.size w0 w) → (∀ b, A b → b < w.heap.size) → (∀ b, A0 b → A b) → (Hp A w0.heap.size w []) → (SlR (intC .u8) A w vs_0 s_0) → KE Tryz.prog 154 (Ret (fun v w' => v = .int .i64 r ∧ Below w0.heap.size w0 w')) 19 [.inLoop (sub (bodyOf Tryz.f154) [2, 1, 2, 2, 1]), .inBlock 0, .code (sub (bodyOf Tryz.f154) [2, 2])] [(0, vs_0), (1, .func (.func 144) #[] #[]), (7, .int .i64 t_7), (8, .int .i64 t_8)] w := fun {r} {s_0} {t_7} {t_8} {vs_0} hS {w} {A} hb hA hi hH hs_0 => ke_inLoop (ih hS hb hA hi hH hs_0)
  clear ih
  intro r s_0 t_7 t_8 vs_0 hS w A hb hA hi hH hs_0
  unfold slices_IndexFunc_byte_byte__six_1_L1 at hS
  refine ke_seq ?_
  refine ke_region ?_
  refine sr_ev (v := .bool (decide (t_8 < t_7))) (ev_lt rfl rfl) (by decide) ?_
  refine sr_end (l' := [(0, vs_0), (1, .func (.func 144) #[] #[]), (7, .int .i64 t_7), (8, .int .i64 t_8), (9, .bool (decide (t_8 < t_7)))]) (.cons rfl (.cons rfl (.cons rfl (.cons rfl (.cons rfl (.nil _)))))) ?_
  refine ke_seq ?_
  refine ke_cond (t := decide (t_8 < t_7)) rfl (fun hc3 => ?_) (fun hc3 => ?_)
  ·replace hS := ite_true' hS hc3
   refine ke_skip ?_
   refine ke_seq ?_
   refine ke_block ?_
   refine ke_seq ?_
   refine ke_region ?_
   refine sr_ev (v := .int .i64 t_8) (ev_move rfl) (by decide) ?_
   refine sr_ev (v := .int .i64 t_8) (ev_assign rfl) (by decide) ?_
   refine sr_end (l' := [(0, vs_0), (1, .func (.func 144) #[] #[]), (5, .int .i64 t_8), (7, .int .i64 t_7), (8, .int .i64 t_8)]) (.cons rfl (.cons rfl (.cons rfl (.cons rfl (.cons rfl (.nil _)))))) ?_
   refine ke_seq ?_
   refine ke_region ?_
   refine sr_ev (v := .func (.func 144) #[] #[]) (ev_move rfl) (by decide) ?_
   refine sr_ev (v := vs_0) (ev_move rfl) (by decide) ?_
   refine sr_ev (v := .int .i64 t_8) (ev_move rfl) (by decide) ?_
   obtain ⟨y4, hy5, hS⟩ := bind_some' hS
   refine sr_index hs_0 Tryz.underlying120 Tryz.info5 rfl rfl rfl hy5 (by decide) ?_
   intro b6 o7 cs9 he8
   obtain rfl : cs9 = [.int .u8 y4] := he8.rd
   refine sr_ev (v := .int .u8 y4) (ev_load Tryz.isAgg5 rfl (he8.cell 0 _ rfl)) (by decide) ?_
   obtain ⟨y10, hy11, hS⟩ := bind_some' hS
   refine sr_call (vs := [.int .u8 y4]) rfl Tryz.call144 rfl (otp_six_1_ok _ (hg.below hb) hy11) (by decide) ?_
   rintro _ w12 ⟨rfl, hbw13⟩
   replace hb := hb.trans (hbw13.mono hb.size)
   replace hA := lt_mono hA hbw13.size
   replace hH := hH.below hbw13
   replace hs_0 := hs_0.below hbw13
   refine sr_end (l' := [(0, vs_0), (1, .func (.func 144) #[] #[]), (5, .int .i64 t_8), (7, .int .i64 t_7), (8, .int .i64 t_8), (16, .bool y10)]) (.cons rfl (.cons rfl (.cons rfl (.cons rfl (.cons rfl (.cons rfl (.nil _))))))) ?_
   refine ke_cond (t := y10) rfl (fun hc14 => ?_) (fun hc14 => ?_)
   ·replace hS := ite_true' hS hc14
    refine ke_seq ?_
    refine ke_region ?_
    refine sr_ev (v := .int .i64 t_8) (ev_move rfl) (by decide) ?_
    refine sr_ev (v := .int .i64 t_8) (ev_assign rfl) (by decide) ?_
    refine sr_end (l' := [(4, .int .i64 t_8)]) (.cons rfl (.nil _)) ?_
    cases hS
    exact ke_ret1 Tryz.func154 rfl rfl ⟨_, rfl, rfl, hb⟩
   ·replace hS := ite_false' hS hc14
    refine ke_skip ?_
    refine ke_inBlock ?_
    refine ke_region ?_
    refine sr_ev (v := .int .i64 (IntKind.i64.wrap (t_8 + 1))) (ev_add rfl rfl) (by decide) ?_
    refine sr_ev (v := .int .i64 (IntKind.i64.wrap (t_8 + 1))) (ev_move rfl) (by decide) ?_
    refine sr_end (l' := [(0, vs_0), (1, .func (.func 144) #[] #[]), (7, .int .i64 t_7), (8, .int .i64 (IntKind.i64.wrap (t_8 + 1)))]) (.cons rfl (.cons rfl (.cons rfl (.cons rfl (.nil _))))) ?_
    have hK := hr0 hS hb hA hi hH hs_0
    exact ke_weaken (l' := [(0, vs_0), (1, .func (.func 144) #[] #[]), (7, .int .i64 t_7), (8, .int .i64 (IntKind.i64.wrap (t_8 + 1)))]) (.cons rfl (.cons rfl (.cons rfl (.cons rfl (.nil _))))) hK
  ·replace hS := ite_false' hS hc3
   refine ke_exit (k' := _) rfl ?_
   refine ke_seq ?_
   refine ke_region ?_
   refine sr_ev (v := .int .i64 (-1)) (ev_assign rfl) (by decide) ?_
   refine sr_end (l' := [(4, .int .i64 (-1))]) (.cons rfl (.nil _)) ?_
   cases hS
   exact ke_ret1 Tryz.func154 rfl rfl ⟨_, rfl, rfl, hb⟩
theorem slices_IndexFunc_byte_byte__six_1_ok {A0 : Nat → Prop} (w0 : World) (hg : Gs w0) {s_0 : List Int} {v1 : Value} {r : Int} (h2 : SlR (intC .u8) A0 w0 v1 s_0) (hS : slices_IndexFunc_byte_byte__six_1 s_0 = some r) :
  Calls Tryz.prog 154 #[v1, .func (.func 144) #[] #[]] w0 (Ret (fun v w' => v = .int .i64 r ∧ Below w0.heap.size w0 w')) := by
 unfold slices_IndexFunc_byte_byte__six_1 at hS
 have hb := Below.refl w0.heap.size w0
 replace h2 := h2.weak (A' := fun _ => False) (fun _ h => h.elim)
 obtain ⟨A0, hA0, hAe⟩ : ∃ A0 : Nat → Prop, (∀ b, A0 b → b < w0.heap.size) ∧ A0 = fun _ => False := ⟨_, fun _ h => h.elim, rfl⟩
 rw [← hAe] at h2
 clear hAe
 have hA := hA0
 have hi : ∀ b, A0 b → A0 b := fun _ h => h
 have hH := Hp.nil A0 w0.heap.size w0
 refine calls_of_ke Tryz.func154 rfl (n := 19) rfl rfl (l := [(0, v1), (1, .func (.func 144) #[] #[])]) rfl ?_
 refine ke_seq ?_
 refine ke_region ?_
 refine sr_ev (v := .int .i64 0) (ev_assign rfl) (by decide) ?_
 refine sr_end (l' := [(0, v1), (1, .func (.func 144) #[] #[])]) (.cons rfl (.cons rfl (.nil _))) ?_
 refine ke_seq ?_
 refine ke_seq ?_
 refine ke_region ?_
 refine sr_ev (v := v1) (ev_move rfl) (by decide) ?_
 refine sr_ev (v := .int .i64 (s_0.length : Int)) (ev_sllen Tryz.underlying120 rfl h2) (by decide) ?_
 refine sr_ev (v := .int .i64 0) (ev_move rfl) (by decide) ?_
 refine sr_end (l' := [(0, v1), (1, .func (.func 144) #[] #[]), (7, .int .i64 (s_0.length : Int)), (8, .int .i64 0)]) (.cons rfl (.cons rfl (.cons rfl (.cons rfl (.nil _))))) ?_
 refine ke_block ?_
 have hK := slices_IndexFunc_byte_byte__six_1_L1_ok hg hA0 _ hS hb hA hi hH h2
 exact ke_weaken (l' := [(0, v1), (1, .func (.func 144) #[] #[]), (7, .int .i64 (s_0.length : Int)), (8, .int .i64 0)]) (.cons rfl (.cons rfl (.cons rfl (.cons rfl (.nil _))))) (ke_loop hK)
theorem slices_ContainsFunc_byte_byte__six_1_ok {A0 : Nat → Prop} (w0 : World) (hg : Gs w0) {s_0 : List Int} {v1 : Value} {r : Bool} (h2 : SlR (intC .u8) A0 w0 v1 s_0) (hS : slices_ContainsFunc_byte_byte__six_1 s_0 = some r) :
  Calls Tryz.prog 145 #[v1, .func (.func 144) #[] #[]] w0 (Ret (fun v w' => v = .bool r ∧ Below w0.heap.size w0 w')) := by
 unfold slices_ContainsFunc_byte_byte__six_1 at hS
 have hb := Below.refl w0.heap.size w0
 replace h2 := h2.weak (A' := fun _ => False) (fun _ h => h.elim)
 obtain ⟨A0, hA0, hAe⟩ : ∃ A0 : Nat → Prop, (∀ b, A0 b → b < w0.heap.size) ∧ A0 = fun _ => False := ⟨_, fun _ h => h.elim, rfl⟩
 rw [← hAe] at h2
 clear hAe
 have hA := hA0
 have hi : ∀ b, A0 b → A0 b := fun _ h => h
 have hH := Hp.nil A0 w0.heap.size w0
 refine calls_of_ke Tryz.func145 rfl (n := 9) rfl rfl (l := [(0, v1), (1, .func (.func 144) #[] #[])]) rfl ?_
 refine ke_seq ?_
 refine ke_region ?_
 refine sr_ev (v := .bool false) (ev_assign rfl) (by decide) ?_
 refine sr_end (l' := [(0, v1), (1, .func (.func 144) #[] #[])]) (.cons rfl (.cons rfl (.nil _))) ?_
 refine ke_seq ?_
 refine ke_region ?_
 refine sr_ev (v := v1) (ev_move rfl) (by decide) ?_
 refine sr_ev (v := .func (.func 144) #[] #[]) (ev_move rfl) (by decide) ?_
 obtain ⟨y3, hy4, hS⟩ := bind_some' hS
 refine sr_call (vs := [v1, .func (.func 144) #[] #[]]) rfl Tryz.call154 rfl (slices_IndexFunc_byte_byte__six_1_ok _ (hg.below hb) h2 hy4) (by decide) ?_
 rintro _ w5 ⟨rfl, hbw6⟩
 replace hb := hb.trans (hbw6.mono hb.size)
 replace hA := lt_mono hA hbw6.size
 replace hH := hH.below hbw6
 refine sr_ev (v := .bool (decide (y3 ≥ 0))) (ev_ge rfl rfl) (by decide) ?_
 refine sr_ev (v := .bool (decide (y3 ≥ 0))) (ev_assign rfl) (by decide) ?_
 refine sr_end (l' := [(4, .bool (decide (y3 ≥ 0)))]) (.cons rfl (.nil _)) ?_
 cases hS
 exact ke_ret1 Tryz.func145 rfl rfl ⟨_, rfl, rfl, hb⟩
theorem otp_six_ok (w0 : World) (hg : Gs w0) {s_0 : Str} {r : Bool} (hS : otp_six s_0 = some r) :
  Calls Tryz.prog 133 #[str s_0] w0 (Ret (fun v w' => v = .bool r ∧ Below w0.heap.size w0 w')) := by
 unfold otp_six at hS
 have hb := Below.refl w0.heap.size w0
 obtain ⟨A0, hA0, hAe⟩ : ∃ A0 : Nat → Prop, (∀ b, A0 b → b < w0.heap.size) ∧ A0 = fun _ => False := ⟨_, fun _ h => h.elim, rfl⟩
 clear hAe
 have hA := hA0
 have hi : ∀ b, A0 b → A0 b := fun _ h => h
 have hH := Hp.nil A0 w0.heap.size w0
 refine calls_of_ke Tryz.func133 rfl (n := 14) rfl rfl (l := [(0, str s_0)]) rfl ?_
 refine ke_seq ?_
 refine ke_region ?_
 refine sr_ev (v := .bool false) (ev_assign rfl) (by decide) ?_
 refine sr_end (l' := [(0, str s_0)]) (.cons rfl (.nil _)) ?_
 refine ke_seq ?_
 refine ke_region ?_
 refine sr_ev (v := .func (.func 144) #[] #[]) (ev_assign rfl) (by decide) ?_
 refine sr_end (l' := [(0, str s_0), (3, .func (.func 144) #[] #[])]) (.cons rfl (.cons rfl (.nil _))) ?_
 refine ke_seq ?_
 refine ke_region ?_
 refine sr_ev (v := str s_0) (ev_move rfl) (by decide) ?_
 refine sr_ev (v := .int .i64 (s_0.length : Int)) (ev_slen Tryz.underlying9 rfl) (by decide) ?_
 refine sr_ev (v := .bool ((s_0.length : Int) == 6)) (ev_eq rfl rfl) (by decide) ?_
 refine sr_ev (v := .bool ((s_0.length : Int) == 6)) (ev_move rfl) (by decide) ?_
 obtain ⟨z3, hz5, hS⟩ := bind_some' hS
 refine sr_join (m := 6) (C := fun (x : Bool) w1 => z3 = x ∧ Below w0.heap.size w0 w1) (l' := fun x => [(13, .bool x)]) ?_ ?_
 ·rintro _ w6 ⟨rfl, hbw7⟩
  replace hb := hb.trans (hbw7.mono hb.size)
  replace hA := lt_mono hA hbw7.size
  replace hH := hH.below hbw7
  refine sr_ev (v := .bool z3) (ev_assign rfl) (by decide) ?_
  refine sr_end (l' := [(2, .bool z3)]) (.cons rfl (.nil _)) ?_
  cases hS
  exact ke_ret1 Tryz.func133 rfl rfl ⟨_, rfl, rfl, hb⟩
 ·intro K2
  clear hS
  have hj4 := Below.refl w0.heap.size w0
  rcases Bool.eq_false_or_eq_true ((s_0.length : Int) == 6) with hg1 | hg1
  ·have hS := ite_true' hz5 hg1
   refine sr_evg (b := true) (e := 7) rfl rfl hg1 (v := str s_0) (ev_move rfl) (by decide) ?_
   obtain ⟨hk18, hS⟩ := chk_some hS
   refine sr_unguard rfl rfl hg1 ?_
   refine sr_s2b hH hb.size hA Tryz.underlying9 Tryz.underlying120 Tryz.underlying5 hk18 rfl (by decide) ?_
   intro g8 v9 ex10 A11 w12 hH1 hv17 hst13 hbw14 hinc15 hA1 hge16
   replace hb := hb.trans (hbw14.mono hb.size)
   replace hj4 := hj4.trans (hbw14.mono hj4.size)
   replace hi := fun b hb => hinc15 b (hi b hb)
   replace hH : Hp A11 w0.heap.size w12 [(g8, rowObj (Value.int .u8) (strBytes s_0) ex10 5)] := hH1
   replace hA := hA1
   clear hH1 hA1
   refine sr_evg (b := true) (e := 7) rfl rfl hg1 (v := .func (.func 144) #[] #[]) (ev_move rfl) (by decide) ?_
   obtain ⟨y19, hy20, hS⟩ := bind_some' hS
   refine sr_callg (b := true) (e := 7) rfl rfl hg1 (vs := [v9, .func (.func 144) #[] #[]]) rfl Tryz.call145 rfl (slices_ContainsFunc_byte_byte__six_1_ok _ (hg.below hb) (hv17.sl (j := 0) hH rfl) hy20) (by decide) ?_
   rintro _ w21 ⟨rfl, hbw22⟩
   replace hb := hb.trans (hbw22.mono hb.size)
   replace hj4 := hj4.trans (hbw22.mono hj4.size)
   replace hA := lt_mono hA hbw22.size
   replace hH := hH.below hbw22
   refine sr_evg (b := true) (e := 7) rfl rfl hg1 (v := .bool (!y19)) (ev_not rfl) (by decide) ?_
   refine sr_ev (v := .bool (!y19)) (ev_pick_t rfl hg1 rfl) (by decide) ?_
   exact sr_weaken (l' := [(13, .bool (!y19))]) (.cons rfl (.nil _)) (K2 (!y19) _ ⟨(Option.some.inj hS).symm, hj4⟩)
  ·have hS := ite_false' hz5 hg1
   refine sr_pass (e := 7) rfl rfl (by rw [hg1]; rfl) (by decide) ?_
   refine sr_pass (e := 7) rfl rfl (by rw [hg1]; rfl) (by decide) ?_
   refine sr_pass (e := 7) rfl rfl (by rw [hg1]; rfl) (by decide) ?_
   refine sr_pass (e := 7) rfl rfl (by rw [hg1]; rfl) (by decide) ?_
   refine sr_pass (e := 7) rfl rfl (by rw [hg1]; rfl) (by decide) ?_
   refine sr_ev (v := .bool false) (ev_pick_f rfl hg1 rfl) (by decide) ?_
   exact sr_weaken (l' := [(13, .bool false)]) (.cons rfl (.nil _)) (K2 false _ ⟨(Option.some.inj hS).symm, hj4⟩)
theorem otp_form_ok (w0 : World) (hg : Gs w0) {secret_0 : Str} {s_1 : Str} {r : Int} (hS : otp_form secret_0 s_1 = some r) :
  Calls Tryz.prog 118 #[str secret_0, str s_1] w0 (Ret (fun v w' => v = .int .i64 r ∧ Below w0.heap.size w0 w')) := by
 unfold otp_form at hS
 have hb := Below.refl w0.heap.size w0
 refine calls_of_ke Tryz.func118 rfl (n := 13) rfl rfl (l := [(0, str secret_0), (1, str s_1)]) rfl ?_
 refine ke_seq ?_
 refine ke_region ?_
 refine sr_ev (v := .int .i64 0) (ev_assign rfl) (by decide) ?_
 refine sr_end (l' := [(0, str secret_0), (1, str s_1)]) (.cons rfl (.cons rfl (.nil _))) ?_
 refine ke_seq ?_
 refine ke_seq ?_
 refine ke_region ?_
 refine sr_ev (v := str secret_0) (ev_move rfl) (by decide) ?_
 obtain ⟨y1, hy2, hS⟩ := bind_some' hS
 refine sr_call (vs := [str secret_0]) rfl Tryz.call40 rfl (fold_Clean_ok _ (hg.below hb) hy2) (by decide) ?_
 rintro _ w3 ⟨rfl, hbw4⟩
 replace hb := hb.trans (hbw4.mono hb.size)
 refine sr_ev (v := .bool (!y1)) (ev_not rfl) (by decide) ?_
 refine sr_ev (v := .bool (!y1)) (ev_move rfl) (by decide) ?_
 obtain ⟨z7, hz9, hS⟩ := bind_some' hS
 refine sr_join (m := 4) (C := fun (x : Bool) w1 => z7 = x ∧ Below w3.heap.size w3 w1) (l' := fun x => [(12, .bool x)]) ?_ ?_
 ·rintro _ w10 ⟨rfl, hbw11⟩
  replace hb := hb.trans (hbw11.mono hb.size)
  refine sr_end (l' := [(12, .bool z7)]) (.cons rfl (.nil _)) ?_
  refine ke_cond (t := z7) rfl (fun hc16 => ?_) (fun hc16 => ?_)
  ·replace hS := ite_true' hS hc16
   refine ke_seq ?_
   refine ke_region ?_
   refine sr_ev (v := .int .i64 4) (ev_assign rfl) (by decide) ?_
   refine sr_end (l' := [(4, .int .i64 4)]) (.cons rfl (.nil _)) ?_
   cases hS
   exact ke_ret1 Tryz.func118 rfl rfl ⟨_, rfl, rfl, hb⟩
  ·replace hS := ite_false' hS hc16
   refine ke_skip ?_
   refine ke_seq ?_
   refine ke_region ?_
   refine sr_ev (v := .int .i64 0) (ev_assign rfl) (by decide) ?_
   refine sr_end (l' := [(4, .int .i64 0)]) (.cons rfl (.nil _)) ?_
   cases hS
   exact ke_ret1 Tryz.func118 rfl rfl ⟨_, rfl, rfl, hb⟩
 ·intro K6
  clear hS
  have hj8 := Below.refl w3.heap.size w3
  rcases Bool.eq_false_or_eq_true (!y1) with hg5 | hg5
  ·have hS := ite_true' hz9 hg5
   refine sr_pass (e := 8) rfl rfl (by rw [hg5]; rfl) (by decide) ?_
   refine sr_pass (e := 8) rfl rfl (by rw [hg5]; rfl) (by decide) ?_
   refine sr_pass (e := 8) rfl rfl (by rw [hg5]; rfl) (by decide) ?_
   refine sr_ev (v := .bool true) (ev_pick_t rfl hg5 rfl) (by decide) ?_
   exact sr_weaken (l' := [(12, .bool true)]) (.cons rfl (.nil _)) (K6 true _ ⟨(Option.some.inj hS).symm, hj8⟩)
  ·have hS := ite_false' hz9 hg5
   refine sr_evg (b := false) (e := 8) rfl rfl hg5 (v := str s_1) (ev_move rfl) (by decide) ?_
   obtain ⟨y12, hy13, hS⟩ := bind_some' hS
   refine sr_callg (b := false) (e := 8) rfl rfl hg5 (vs := [str s_1]) rfl Tryz.call133 rfl (otp_six_ok _ (hg.below hb) hy13) (by decide) ?_
   rintro _ w14 ⟨rfl, hbw15⟩
   replace hb := hb.trans (hbw15.mono hb.size)
   replace hj8 := hj8.trans (hbw15.mono hj8.size)
   refine sr_evg (b := false) (e := 8) rfl rfl hg5 (v := .bool (!y12)) (ev_not rfl) (by decide) ?_
   refine sr_ev (v := .bool (!y12)) (ev_pick_f rfl hg5 rfl) (by decide) ?_
   exact sr_weaken (l' := [(12, .bool (!y12))]) (.cons rfl (.nil _)) (K6 (!y12) _ ⟨(Option.some.inj hS).symm, hj8⟩)
theorem otp_Counter_ok (w0 : World) (hg : Gs w0) {now_0 : Int} {r : Int} (hS : otp_Counter now_0 = some r) :
  Calls Tryz.prog 13 #[.int .i64 now_0] w0 (Ret (fun v w' => v = .int .i64 r ∧ Below w0.heap.size w0 w')) := by
 unfold otp_Counter at hS
 have hb := Below.refl w0.heap.size w0
 refine calls_of_ke Tryz.func13 rfl (n := 6) rfl rfl (l := [(0, .int .i64 now_0)]) rfl ?_
 refine ke_seq ?_
 refine ke_region ?_
 refine sr_ev (v := .int .i64 0) (ev_assign rfl) (by decide) ?_
 refine sr_end (l' := [(0, .int .i64 now_0)]) (.cons rfl (.nil _)) ?_
 refine ke_seq ?_
 refine ke_region ?_
 refine sr_ev (v := .int .i64 now_0) (ev_move rfl) (by decide) ?_
 obtain ⟨y1, hy2, hS⟩ := bind_some' hS
 refine sr_call (vs := [.int .i64 now_0, .int .i64 0]) rfl Tryz.call39 rfl (clock_Add_ok _ (hg.below hb) hy2) (by decide) ?_
 rintro _ w3 ⟨rfl, hbw4⟩
 replace hb := hb.trans (hbw4.mono hb.size)
 refine sr_ev (v := .int .i64 (IntKind.i64.wrap (y1.tdiv 30))) (ev_quo rfl rfl (by decide)) (by decide) ?_
 refine sr_ev (v := .int .i64 (IntKind.i64.wrap (y1.tdiv 30))) (ev_assign rfl) (by decide) ?_
 refine sr_end (l' := [(2, .int .i64 (IntKind.i64.wrap (y1.tdiv 30)))]) (.cons rfl (.nil _)) ?_
 cases hS
 exact ke_ret1 Tryz.func13 rfl rfl ⟨_, rfl, rfl, hb⟩
theorem otp_VerifyAt_1_ok (w0 : World) (hg : Gs w0) {ρA : Tags} (hbd : ∀ b, ρA b ≠ 0 → b < w0.heap.size) (hz : Gz ρA) {c_0 : Int} {c1 : Str} {c2 : Str} {b1 : Nat} {b3 : Nat} {r : Bool} (he2 : ElT strC ρA 0 w0 b1 0 [str c1] c1) (he4 : ElT strC ρA 0 w0 b3 0 [str c2] c2) (hS : otp_VerifyAt_1 c_0 c1 c2 = some r) :
  Calls Tryz.prog 120 #[.int .i64 c_0, .pointer (some ⟨b1, 0, none⟩), .pointer (some ⟨b3, 0, none⟩)] w0 (Ret (fun v w' => v = .bool r ∧ Below w0.heap.size w0 w')) := by
 unfold otp_VerifyAt_1 at hS
 have hb := flat1_fr (ρ := ρA) (w := w0) hbd
 have hz := hz.flat1
 replace he2 := he2.mv flat1_rd (Nat.succ_pos _)
 replace he4 := he4.mv flat1_rd (Nat.succ_pos _)
 refine calls_of_ke Tryz.func120 rfl (n := 10) rfl rfl (l := [(0, .int .i64 c_0), (1, .pointer (some ⟨b1, 0, none⟩)), (2, .pointer (some ⟨b3, 0, none⟩))]) rfl ?_
 refine ke_seq ?_
 refine ke_region ?_
 refine sr_ev (v := .bool false) (ev_assign rfl) (by decide) ?_
 refine sr_end (l' := [(0, .int .i64 c_0), (1, .pointer (some ⟨b1, 0, none⟩)), (2, .pointer (some ⟨b3, 0, none⟩))]) (.cons rfl (.cons rfl (.cons rfl (.nil _)))) ?_
 refine ke_seq ?_
 refine ke_region_q Tryz.mixed (by kernel_rfl) ?_
 refine sq_ev (v := str c1) (fun w1 hw1 => ev_load Tryz.isAgg9 rfl ((he2.mv (Mv.of_below (i := 0) (ρ := (flat1 ρA)) hw1) (Nat.succ_pos _)).cell 0 _ rfl)) (by decide) ?_
 refine sq_ev (v := .int .i64 c_0) (fun w1 hw1 => ev_move rfl) (by decide) ?_
 obtain ⟨y7, hy8, hS⟩ := bind_some' hS
 refine sq_call (v := str y7) (vs := [str c1, .int .i64 c_0]) rfl Tryz.call41 rfl (fun w1 hw1 => (otp_code_ok _ ((hg.fr hz hb).below hw1) hy8)) (by decide) ?_
 refine sq_ev (v := str c2) (fun w1 hw1 => ev_load Tryz.isAgg9 rfl ((he4.mv (Mv.of_below (i := 0) (ρ := (flat1 ρA)) hw1) (Nat.succ_pos _)).cell 0 _ rfl)) (by decide) ?_
 refine sq_ev (v := .bool (y7 == c2)) (fun w1 hw1 => ev_seq rfl rfl) (by decide) ?_
 refine sq_ev (v := .bool (y7 == c2)) (fun w1 hw1 => ev_assign rfl) (by decide) ?_
 refine sq_end (l' := [(4, .bool (y7 == c2))]) (.cons rfl (.nil _)) (fun w6 hw5 => ?_)
 have htr12 := Tr.of_below hw5 hb.bd
 replace hb := hb.trans htr12
 cases hS
 exact ke_ret1 Tryz.func120 rfl rfl ⟨_, rfl, rfl, (hb.below (flat1_le _))⟩
theorem otp_search__VerifyAt_1_L1_ok {w0 : World} (hg : Gs w0) {ρA : Tags} (hbd : ∀ b, ρA b ≠ 0 → b < w0.heap.size) (hz : Gz (flat1 ρA)) : ∀ (n : Nat), ∀ {r : Int × Int} {to_1 : Int} {is_2_c0 : Str} {is_2_c1 : Str} {c_8 : Int} {bis_2_c0 : Nat} {bis_2_c1 : Nat}, otp_search__VerifyAt_1_L1 n to_1 is_2_c0 is_2_c1 c_8 = some r → ∀ {ρ : Tags} {w : World}, (Fr (flat1 ρA) w0 ρ w) → (ElT strC ρ 0 w bis_2_c0 0 [str is_2_c0] is_2_c0) → (ElT strC ρ 0 w bis_2_c1 0 [str is_2_c1] is_2_c1) → KE Tryz.prog 119 (Ret (fun v w' => v = .tuple #[.int .i64 r.1, .int .i64 r.2] ∧ Below w0.heap.size w0 w')) 21 [.code (sub (bodyOf Tryz.f119) [2, 1, 2, 2, 1]), .inLoop (sub (bodyOf Tryz.f119) [2, 1, 2, 2, 1]), .inBlock 0, .code (sub (bodyOf Tryz.f119) [2, 2])] [(1, .int .i64 to_1), (2, .func (.func 120) #[] #[.pointer (some ⟨bis_2_c0, 0, none⟩), .pointer (some ⟨bis_2_c1, 0, none⟩)]), (8, .int .i64 c_8)] w := by
 intro n
 induction n with
 | zero => intro r to_1 is_2_c0 is_2_c1 c_8 bis_2_c0 bis_2_c1 hS; cases hS
 | succ n ih =>
  have hr0 : ∀ {r : Int × Int} {to_1 : Int} {is_2_c0 : Str} {is_2_c1 : Str} {c_8 : Int} {bis_2_c0 : Nat} {bis_2_c1 : Nat}, otp_search__VerifyAt_1_L1 n to_1 is_2_c0 is_2_c1 c_8 = some r → ∀ {ρ : Tags} {w : World}, (Fr (flat1 ρA) w0 ρ w) → (ElT strC ρ 0 w bis_2_c0 0 [str is_2_c0] is_2_c0) → (ElT strC ρ 0 w bis_2_c1 0 [str is_2_c1] is_2_c1) → KE Tryz.prog 119 (Ret (fun v w' => v = .tuple #[.int .i64 r.1, .int .i64 r.2] ∧ Below w0.heap.size w0 w')) 21 [.inLoop (sub (bodyOf Tryz.f119) [2, 1, 2, 2, 1]), .inBlock 0, .code (sub (bodyOf Tryz.f119) [2, 2])] [(1, .int .i64 to_1), (2, .func (.func 120) #[] #[.pointer (some ⟨bis_2_c0, 0, none⟩), .pointer (some ⟨bis_2_c1, 0, none⟩)]), (8, .int .i64 c_8)] w := fun {r} {to_1} {is_2_c0} {is_2_c1} {c_8} {bis_2_c0} {bis_2_c1} hS {ρ} {w} hb heis_2_c0 heis_2_c1 => ke_inLoop (ih hS hb heis_2_c0 heis_2_c1)
  clear ih
  intro r to_1 is_2_c0 is_2_c1 c_8 bis_2_c0 bis_2_c1 hS ρ w hb heis_2_c0 heis_2_c1
  unfold otp_search__VerifyAt_1_L1 at hS
  refine ke_seq ?_
  refine ke_seq ?_
  refine ke_region ?_
  refine sr_ev (v := .int .i64 c_8) (ev_move rfl) (by decide) ?_
  refine sr_ev (v := .int .i64 to_1) (ev_move rfl) (by decide) ?_
  refine sr_ev (v := .int .i64 (gmin to_1 36650387592)) (ev_min rfl rfl) (by decide) ?_
  refine sr_ev (v := .bool (decide (c_8 ≤ (gmin to_1 36650387592)))) (ev_le rfl rfl) (by decide) ?_
  refine sr_end (l' := [(1, .int .i64 to_1), (2, .func (.func 120) #[] #[.pointer (some ⟨bis_2_c0, 0, none⟩), .pointer (some ⟨bis_2_c1, 0, none⟩)]), (8, .int .i64 c_8), (14, .bool (decide (c_8 ≤ (gmin to_1 36650387592))))]) (.cons rfl (.cons rfl (.cons rfl (.cons rfl (.nil _))))) ?_
  refine ke_cond (t := decide (c_8 ≤ (gmin to_1 36650387592))) rfl (fun hc5 => ?_) (fun hc5 => ?_)
  ·replace hS := ite_true' hS hc5
   refine ke_skip ?_
   refine ke_seq ?_
   refine ke_block ?_
   refine ke_seq ?_
   refine ke_region ?_
   refine sr_ev (v := .func (.func 120) #[] #[.pointer (some ⟨bis_2_c0, 0, none⟩), .pointer (some ⟨bis_2_c1, 0, none⟩)]) (ev_move rfl) (by decide) ?_
   refine sr_ev (v := .int .i64 c_8) (ev_move rfl) (by decide) ?_
   obtain ⟨y6, hy7, hS⟩ := bind_some' hS
   refine sr_callc (vs := [.int .i64 c_8]) rfl Tryz.call120 rfl (otp_VerifyAt_1_ok _ (hg.fr hz hb) (ρA := ρ) hb.bd (hz.fr hg hb) heis_2_c0 heis_2_c1 hy7) (by decide) ?_
   rintro _ w8 ⟨rfl, hbw9⟩
   have htr10 := Tr.of_below hbw9 hb.bd
   replace heis_2_c0 := heis_2_c0.mv (htr10.mv (i := 0) rfl) (Nat.succ_pos _)
   replace heis_2_c1 := heis_2_c1.mv (htr10.mv (i := 0) rfl) (Nat.succ_pos _)
   replace hb := hb.trans htr10
   refine sr_end (l' := [(1, .int .i64 to_1), (2, .func (.func 120) #[] #[.pointer (some ⟨bis_2_c0, 0, none⟩), .pointer (some ⟨bis_2_c1, 0, none⟩)]), (8, .int .i64 c_8), (19, .bool y6)]) (.cons rfl (.cons rfl (.cons rfl (.cons rfl (.nil _))))) ?_
   refine ke_cond (t := y6) rfl (fun hc11 => ?_) (fun hc11 => ?_)
   ·replace hS := ite_true' hS hc11
    refine ke_seq ?_
    refine ke_region ?_
    refine sr_ev (v := .int .i64 c_8) (ev_move rfl) (by decide) ?_
    refine sr_ev (v := .int .i64 c_8) (ev_assign rfl) (by decide) ?_
    refine sr_ev (v := .int .i64 0) (ev_assign rfl) (by decide) ?_
    refine sr_end (l' := [(6, .int .i64 c_8), (7, .int .i64 0)]) (.cons rfl (.cons rfl (.nil _))) ?_
    cases hS
    exact ke_ret2 Tryz.func119 rfl rfl rfl ⟨_, rfl, rfl, (hb.below (flat1_le _))⟩
   ·replace hS := ite_false' hS hc11
    refine ke_skip ?_
    refine ke_inBlock ?_
    refine ke_region ?_
    refine sr_ev (v := .int .i64 c_8) (ev_move rfl) (by decide) ?_
    refine sr_ev (v := .int .i64 (IntKind.i64.wrap (c_8 + 1))) (ev_add rfl rfl) (by decide) ?_
    refine sr_ev (v := .int .i64 (IntKind.i64.wrap (c_8 + 1))) (ev_assign rfl) (by decide) ?_
    refine sr_end (l' := [(1, .int .i64 to_1), (2, .func (.func 120) #[] #[.pointer (some ⟨bis_2_c0, 0, none⟩), .pointer (some ⟨bis_2_c1, 0, none⟩)]), (8, .int .i64 (IntKind.i64.wrap (c_8 + 1)))]) (.cons rfl (.cons rfl (.cons rfl (.nil _)))) ?_
    have hK := hr0 hS hb heis_2_c0 heis_2_c1
    exact ke_weaken (l' := [(1, .int .i64 to_1), (2, .func (.func 120) #[] #[.pointer (some ⟨bis_2_c0, 0, none⟩), .pointer (some ⟨bis_2_c1, 0, none⟩)]), (8, .int .i64 (IntKind.i64.wrap (c_8 + 1)))]) (.cons rfl (.cons rfl (.cons rfl (.nil _)))) hK
  ·replace hS := ite_false' hS hc5
   refine ke_exit (k' := _) rfl ?_
   refine ke_seq ?_
   refine ke_region ?_
   refine sr_ev (v := .int .i64 0) (ev_assign rfl) (by decide) ?_
   refine sr_ev (v := .int .i64 11) (ev_assign rfl) (by decide) ?_
   refine sr_end (l' := [(6, .int .i64 0), (7, .int .i64 11)]) (.cons rfl (.cons rfl (.nil _))) ?_
   cases hS
   exact ke_ret2 Tryz.func119 rfl rfl rfl ⟨_, rfl, rfl, (hb.below (flat1_le _))⟩
theorem otp_search__VerifyAt_1_ok (w0 : World) (hg : Gs w0) {ρA : Tags} (hbd : ∀ b, ρA b ≠ 0 → b < w0.heap.size) (hz : Gz ρA) {from_0 : Int} {to_1 : Int} {c2_0 : Str} {c2_1 : Str} {b1 : Nat} {b3 : Nat} {r : Int × Int} (he2 : ElT strC ρA 0 w0 b1 0 [str c2_0] c2_0) (he4 : ElT strC ρA 0 w0 b3 0 [str c2_1] c2_1) (hS : otp_search__VerifyAt_1 from_0 to_1 c2_0 c2_1 = some r) :
  Calls Tryz.prog 119 #[.int .i64 from_0, .int .i64 to_1, .func (.func 120) #[] #[.pointer (some ⟨b1, 0, none⟩), .pointer (some ⟨b3, 0, none⟩)]] w0 (Ret (fun v w' => v = .tuple #[.int .i64 r.1, .int .i64 r.2] ∧ Below w0.heap.size w0 w')) := by
 unfold otp_search__VerifyAt_1 at hS
 have hb := flat1_fr (ρ := ρA) (w := w0) hbd
 have hz := hz.flat1
 replace he2 := he2.mv flat1_rd (Nat.succ_pos _)
 replace he4 := he4.mv flat1_rd (Nat.succ_pos _)
 refine calls_of_ke Tryz.func119 rfl (n := 21) rfl rfl (l := [(0, .int .i64 from_0), (1, .int .i64 to_1), (2, .func (.func 120) #[] #[.pointer (some ⟨b1, 0, none⟩), .pointer (some ⟨b3, 0, none⟩)])]) rfl ?_
 refine ke_seq ?_
 refine ke_region ?_
 refine sr_ev (v := .int .i64 0) (ev_assign rfl) (by decide) ?_
 refine sr_ev (v := .int .i64 0) (ev_assign rfl) (by decide) ?_
 refine sr_end (l' := [(0, .int .i64 from_0), (1, .int .i64 to_1), (2, .func (.func 120) #[] #[.pointer (some ⟨b1, 0, none⟩), .pointer (some ⟨b3, 0, none⟩)])]) (.cons rfl (.cons rfl (.cons rfl (.nil _)))) ?_
 refine ke_seq ?_
 refine ke_seq ?_
 refine ke_region ?_
 refine sr_ev (v := .int .i64 from_0) (ev_move rfl) (by decide) ?_
 refine sr_ev (v := .int .i64 (gmax from_0 0)) (ev_max rfl rfl) (by decide) ?_
 refine sr_ev (v := .int .i64 (gmax from_0 0)) (ev_assign rfl) (by decide) ?_
 refine sr_end (l' := [(1, .int .i64 to_1), (2, .func (.func 120) #[] #[.pointer (some ⟨b1, 0, none⟩), .pointer (some ⟨b3, 0, none⟩)]), (8, .int .i64 (gmax from_0 0))]) (.cons rfl (.cons rfl (.cons rfl (.nil _)))) ?_
 refine ke_block ?_
 have hK := otp_search__VerifyAt_1_L1_ok hg hbd hz _ hS hb he2 he4
 exact ke_weaken (l' := [(1, .int .i64 to_1), (2, .func (.func 120) #[] #[.pointer (some ⟨b1, 0, none⟩), .pointer (some ⟨b3, 0, none⟩)]), (8, .int .i64 (gmax from_0 0))]) (.cons rfl (.cons rfl (.cons rfl (.nil _)))) (ke_loop hK)
theorem otp_VerifyAt_ok (w0 : World) (hg : Gs w0) {ρA : Tags} (hbd : ∀ b, ρA b ≠ 0 → b < w0.heap.size) (hz : Gz ρA) {secret_0 : Str} {last_1 : Int} {now_2 : Int} {skew_3 : Int} {s_4 : Str} {r : Int × Int} (hS : otp_VerifyAt secret_0 last_1 now_2 skew_3 s_4 = some r) :
  Calls Tryz.prog 91 #[str secret_0, .int .i64 last_1, .int .i64 now_2, .int .i64 skew_3, str s_4] w0 (Ret (fun v w' => v = .tuple #[.int .i64 r.1, .int .i64 r.2] ∧ Below w0.heap.size w0 w')) := by
 unfold otp_VerifyAt at hS
 have hb := flat1_fr (ρ := ρA) (w := w0) hbd
 have hz := hz.flat1
 refine calls_of_ke Tryz.func91 rfl (n := 45) rfl rfl (l := [(0, str secret_0), (1, .int .i64 last_1), (2, .int .i64 now_2), (3, .int .i64 skew_3), (4, str s_4)]) rfl ?_
 refine ke_seq ?_
 refine ke_region ?_
 refine sr_boxT 7 (by decide) hb.bd rfl (by decide) ?_
 intro g1 ρ2 w3 hB5 htr4
 replace hb := hb.trans htr4
 replace hB5 : Blk ρ2 7 w3 g1 (.cells #[str secret_0] 9 (0, 0)) := hB5
 refine sr_boxT 11 (by decide) hb.bd rfl (by decide) ?_
 intro g6 ρ7 w8 hB10 htr9
 replace hB5 := hB5.mv (htr9.mv (i := 7) rfl)
 replace hb := hb.trans htr9
 replace hB10 : Blk ρ7 11 w8 g6 (.cells #[str s_4] 9 (0, 0)) := hB10
 refine sr_ev (v := .int .i64 0) (ev_assign rfl) (by decide) ?_
 refine sr_ev (v := .int .i64 0) (ev_assign rfl) (by decide) ?_
 refine sr_end (l' := [(1, .int .i64 last_1), (2, .int .i64 now_2), (3, .int .i64 skew_3), (5, .pointer (some ⟨g1, 0, none⟩)), (9, .pointer (some ⟨g6, 0, none⟩))]) (.cons rfl (.cons rfl (.cons rfl (.cons rfl (.cons rfl (.nil _)))))) ?_
 refine ke_seq ?_
 refine ke_seq ?_
 refine ke_region ?_
 refine sr_ev (v := str secret_0) (ev_load Tryz.isAgg9 rfl (hB5.cell rfl)) (by decide) ?_
 refine sr_ev (v := str s_4) (ev_load Tryz.isAgg9 rfl (hB10.cell rfl)) (by decide) ?_
 obtain ⟨y11, hy12, hS⟩ := bind_some' hS
 refine sr_call (vs := [str secret_0, str s_4]) rfl Tryz.call118 rfl (otp_form_ok _ (hg.fr hz hb) hy12) (by decide) ?_
 rintro _ w13 ⟨rfl, hbw14⟩
 have htr15 := Tr.of_below hbw14 hb.bd
 replace hB10 := hB10.mv (htr15.mv (i := 11) rfl)
 replace hB5 := hB5.mv (htr15.mv (i := 7) rfl)
 replace hb := hb.trans htr15
 refine sr_ev (v := .int .i64 y11) (ev_assign rfl) (by decide) ?_
 refine sr_end (l' := [(1, .int .i64 last_1), (2, .int .i64 now_2), (3, .int .i64 skew_3), (5, .pointer (some ⟨g1, 0, none⟩)), (9, .pointer (some ⟨g6, 0, none⟩)), (12, .int .i64 y11)]) (.cons rfl (.cons rfl (.cons rfl (.cons rfl (.cons rfl (.cons rfl (.nil _))))))) ?_
 refine ke_seq ?_
 refine ke_region ?_
 refine sr_ev (v := .int .i64 y11) (ev_move rfl) (by decide) ?_
 refine sr_ev (v := .bool (y11 != 0)) (ev_ne rfl rfl) (by decide) ?_
 refine sr_end (l' := [(1, .int .i64 last_1), (2, .int .i64 now_2), (3, .int .i64 skew_3), (5, .pointer (some ⟨g1, 0, none⟩)), (9, .pointer (some ⟨g6, 0, none⟩)), (12, .int .i64 y11), (18, .bool (y11 != 0))]) (.cons rfl (.cons rfl (.cons rfl (.cons rfl (.cons rfl (.cons rfl (.cons rfl (.nil _)))))))) ?_
 refine ke_cond (t := y11 != 0) rfl (fun hc16 => ?_) (fun hc16 => ?_)
 ·replace hS := ite_true' hS hc16
  refine ke_seq ?_
  refine ke_region ?_
  refine sr_ev (v := .int .i64 y11) (ev_move rfl) (by decide) ?_
  refine sr_ev (v := .int .i64 0) (ev_assign rfl) (by decide) ?_
  refine sr_ev (v := .int .i64 y11) (ev_assign rfl) (by decide) ?_
  refine sr_end (l' := [(10, .int .i64 0), (11, .int .i64 y11)]) (.cons rfl (.cons rfl (.nil _))) ?_
  cases hS
  exact ke_ret2 Tryz.func91 rfl rfl rfl ⟨_, rfl, rfl, (hb.below (flat1_le _))⟩
 ·replace hS := ite_false' hS hc16
  refine ke_skip ?_
  refine ke_seq ?_
  refine ke_seq ?_
  refine ke_region ?_
  refine sr_ev (v := .int .i64 last_1) (ev_move rfl) (by decide) ?_
  refine sr_ev (v := .bool (decide (last_1 < (-1)))) (ev_lt rfl rfl) (by decide) ?_
  refine sr_ev (v := .bool (decide (last_1 < (-1)))) (ev_move rfl) (by decide) ?_
  refine sr_join (m := 3) (C := fun (x : Bool) w1 => x = ((decide (last_1 < (-1))) || (decide (last_1 > 36650387592))) ∧ w13 = w1) (l' := fun x => [(1, .int .i64 last_1), (2, .int .i64 now_2), (3, .int .i64 skew_3), (5, .pointer (some ⟨g1, 0, none⟩)), (9, .pointer (some ⟨g6, 0, none⟩)), (25, .bool x)]) ?_ ?_
  ·rintro _ _ ⟨rfl, rfl⟩
   refine sr_end (l' := [(1, .int .i64 last_1), (2, .int .i64 now_2), (3, .int .i64 skew_3), (5, .pointer (some ⟨g1, 0, none⟩)), (9, .pointer (some ⟨g6, 0, none⟩)), (25, .bool ((decide (last_1 < (-1))) || (decide (last_1 > 36650387592))))]) (.cons rfl (.cons rfl (.cons rfl (.cons rfl (.cons rfl (.cons rfl (.nil _))))))) ?_
   refine ke_cond (t := (decide (last_1 < (-1))) || (decide (last_1 > 36650387592))) rfl (fun hc25 => ?_) (fun hc25 => ?_)
   ·replace hS := ite_true' hS hc25
    refine ke_seq ?_
    refine ke_region ?_
    refine sr_ev (v := .int .i64 0) (ev_assign rfl) (by decide) ?_
    refine sr_ev (v := .int .i64 27) (ev_assign rfl) (by decide) ?_
    refine sr_end (l' := [(10, .int .i64 0), (11, .int .i64 27)]) (.cons rfl (.cons rfl (.nil _))) ?_
    cases hS
    exact ke_ret2 Tryz.func91 rfl rfl rfl ⟨_, rfl, rfl, (hb.below (flat1_le _))⟩
   ·replace hS := ite_false' hS hc25
    refine ke_skip ?_
    refine ke_seq ?_
    refine ke_region ?_
    refine sr_ev (v := .int .i64 skew_3) (ev_move rfl) (by decide) ?_
    refine sr_ev (v := .int .i64 (gmax skew_3 0)) (ev_max rfl rfl) (by decide) ?_
    refine sr_ev (v := .int .i64 (gmin (gmax skew_3 0) 600)) (ev_min rfl rfl) (by decide) ?_
    refine sr_ev (v := .int .i64 (IntKind.i64.wrap ((gmin (gmax skew_3 0) 600).tdiv 30))) (ev_quo rfl rfl (by decide)) (by decide) ?_
    refine sr_ev (v := .int .i64 (IntKind.i64.wrap ((gmin (gmax skew_3 0) 600).tdiv 30))) (ev_assign rfl) (by decide) ?_
    refine sr_end (l' := [(1, .int .i64 last_1), (2, .int .i64 now_2), (5, .pointer (some ⟨g1, 0, none⟩)), (9, .pointer (some ⟨g6, 0, none⟩)), (13, .int .i64 (IntKind.i64.wrap ((gmin (gmax skew_3 0) 600).tdiv 30)))]) (.cons rfl (.cons rfl (.cons rfl (.cons rfl (.cons rfl (.nil _)))))) ?_
    refine ke_seq ?_
    refine ke_region ?_
    refine sr_ev (v := .int .i64 last_1) (ev_move rfl) (by decide) ?_
    refine sr_ev (v := .int .i64 (IntKind.i64.wrap (last_1 + 1))) (ev_add rfl rfl) (by decide) ?_
    refine sr_ev (v := .int .i64 now_2) (ev_move rfl) (by decide) ?_
    obtain ⟨y26, hy27, hS⟩ := bind_some' hS
    refine sr_call (vs := [.int .i64 now_2]) rfl Tryz.call13 rfl (otp_Counter_ok _ (hg.fr hz hb) hy27) (by decide) ?_
    rintro _ w28 ⟨rfl, hbw29⟩
    have htr30 := Tr.of_below hbw29 hb.bd
    replace hB10 := hB10.mv (htr30.mv (i := 11) rfl)
    replace hB5 := hB5.mv (htr30.mv (i := 7) rfl)
    replace hb := hb.trans htr30
    refine sr_ev (v := .int .i64 (IntKind.i64.wrap ((gmin (gmax skew_3 0) 600).tdiv 30))) (ev_move rfl) (by decide) ?_
    refine sr_ev (v := .int .i64 (IntKind.i64.wrap (y26 - (IntKind.i64.wrap ((gmin (gmax skew_3 0) 600).tdiv 30))))) (ev_sub rfl rfl) (by decide) ?_
    refine sr_ev (v := .int .i64 (gmax (IntKind.i64.wrap (last_1 + 1)) (IntKind.i64.wrap (y26 - (IntKind.i64.wrap ((gmin (gmax skew_3 0) 600).tdiv 30)))))) (ev_max rfl rfl) (by decide) ?_
    refine sr_ev (v := .int .i64 now_2) (ev_move rfl) (by decide) ?_
    obtain ⟨y31, hy32, hS⟩ := bind_some' hS
    refine sr_call (vs := [.int .i64 now_2]) rfl Tryz.call13 rfl (otp_Counter_ok _ (hg.fr hz hb) hy32) (by decide) ?_
    rintro _ w33 ⟨rfl, hbw34⟩
    have htr35 := Tr.of_below hbw34 hb.bd
    replace hB10 := hB10.mv (htr35.mv (i := 11) rfl)
    replace hB5 := hB5.mv (htr35.mv (i := 7) rfl)
    replace hb := hb.trans htr35
    refine sr_ev (v := .int .i64 (IntKind.i64.wrap ((gmin (gmax skew_3 0) 600).tdiv 30))) (ev_move rfl) (by decide) ?_
    refine sr_ev (v := .int .i64 (IntKind.i64.wrap (y31 + (IntKind.i64.wrap ((gmin (gmax skew_3 0) 600).tdiv 30))))) (ev_add rfl rfl) (by decide) ?_
    have htr36 := frz_tr (ρ := ρ7) (w := w33) (i := 7) (by decide) hb.bd
    have he37 : ElT strC (frz ρ7 7) 0 w33 g1 0 [str secret_0] secret_0 := Blk.frzEl hB5 rfl rfl
    replace hB10 := hB10.mv (htr36.mv (i := 11) rfl)
    replace hb := hb.trans htr36
    have htr38 := frz_tr (ρ := (frz ρ7 7)) (w := w33) (i := 11) (by decide) hb.bd
    have he39 : ElT strC (frz (frz ρ7 7) 11) 0 w33 g6 0 [str s_4] s_4 := Blk.frzEl hB10 rfl rfl
    replace he37 := he37.mv (htr38.mv (i := 0) rfl) (Nat.succ_pos _)
    replace hb := hb.trans htr38
    refine sr_ev (v := .func (.func 120) #[] #[.pointer (some ⟨g1, 0, none⟩), .pointer (some ⟨g6, 0, none⟩)]) (ev_makeFunc rfl) (by decide) ?_
    obtain ⟨y40, hy41, hS⟩ := bind_some' hS
    refine sr_call (vs := [.int .i64 (gmax (IntKind.i64.wrap (last_1 + 1)) (IntKind.i64.wrap (y26 - (IntKind.i64.wrap ((gmin (gmax skew_3 0) 600).tdiv 30))))), .int .i64 (IntKind.i64.wrap (y31 + (IntKind.i64.wrap ((gmin (gmax skew_3 0) 600).tdiv 30)))), .func (.func 120) #[] #[.pointer (some ⟨g1, 0, none⟩), .pointer (some ⟨g6, 0, none⟩)]]) rfl Tryz.call119 rfl (otp_search__VerifyAt_1_ok _ (hg.fr hz hb) (ρA := (frz (frz ρ7 7) 11)) hb.bd (hz.fr hg hb) he37 he39 hy41) (by decide) ?_
    rintro _ w42 ⟨rfl, hbw43⟩
    have htr44 := Tr.of_below hbw43 hb.bd
    replace hb := hb.trans htr44
    refine sr_ev (v := .int .i64 y40.1) (ev_extract rfl rfl) (by decide) ?_
    refine sr_ev (v := .int .i64 y40.2) (ev_extract rfl rfl) (by decide) ?_
    refine sr_ev (v := .int .i64 y40.1) (ev_assign rfl) (by decide) ?_
    refine sr_ev (v := .int .i64 y40.2) (ev_assign rfl) (by decide) ?_
    refine sr_end (l' := [(10, .int .i64 y40.1), (11, .int .i64 y40.2)]) (.cons rfl (.cons rfl (.nil _))) ?_
    cases hS
    exact ke_ret2 Tryz.func91 rfl rfl rfl ⟨_, rfl, rfl, (hb.below (flat1_le _))⟩
  ·intro K18
   rcases Bool.eq_false_or_eq_true (decide (last_1 < (-1))) with hg17 | hg17
   all_goals try have hj20 : Tr ρ7 w13 (fun _ => false) ρ7 w13 := Tr.refl hb.bd
   ·refine sr_pass (e := 22) rfl rfl (by rw [hg17]; rfl) (by decide) ?_
    refine sr_pass (e := 22) rfl rfl (by rw [hg17]; rfl) (by decide) ?_
    refine sr_ev (v := .bool true) (ev_pick_t rfl hg17 rfl) (by decide) ?_
    exact sr_weaken (l' := [(1, .int .i64 last_1), (2, .int .i64 now_2), (3, .int .i64 skew_3), (5, .pointer (some ⟨g1, 0, none⟩)), (9, .pointer (some ⟨g6, 0, none⟩)), (25, .bool true)]) (.cons rfl (.cons rfl (.cons rfl (.cons rfl (.cons rfl (.cons rfl (.nil _))))))) (K18 true _ ⟨by first | (rw [hg17]; rfl) | rfl, rfl⟩)
   ·refine sr_evg (b := false) (e := 22) rfl rfl hg17 (v := .int .i64 last_1) (ev_move rfl) (by decide) ?_
    refine sr_evg (b := false) (e := 22) rfl rfl hg17 (v := .bool (decide (last_1 > 36650387592))) (ev_gt rfl rfl) (by decide) ?_
    refine sr_ev (v := .bool (decide (last_1 > 36650387592))) (ev_pick_f rfl hg17 rfl) (by decide) ?_
    exact sr_weaken (l' := [(1, .int .i64 last_1), (2, .int .i64 now_2), (3, .int .i64 skew_3), (5, .pointer (some ⟨g1, 0, none⟩)), (9, .pointer (some ⟨g6, 0, none⟩)), (25, .bool (decide (last_1 > 36650387592)))]) (.cons rfl (.cons rfl (.cons rfl (.cons rfl (.cons rfl (.cons rfl (.nil _))))))) (K18 (decide (last_1 > 36650387592)) _ ⟨by first | (rw [hg17]; rfl) | rfl, rfl⟩)
theorem login_Logins_byCode_ok (w0 : World) (hg : Gs w0) {ρA : Tags} (hbd : ∀ b, ρA b ≠ 0 → b < w0.heap.size) (hz : Gz ρA) {o : Nat} (ho2 : 2 ≤ o) {l_0 : login_Logins} {user_1 : Str} {code_2 : Str} {now_3 : Int} {gl_0 : Nat} {r : Bool × login_Logins} (ho0 : login_Logins.O (fun p => o + p) ρA w0 gl_0 l_0) (hS : login_Logins_byCode l_0 user_1 code_2 now_3 = some r) :
  Calls Tryz.prog 48 #[.pointer (some ⟨gl_0, 0, none⟩), str user_1, str code_2, .int .i64 now_3] w0 (Ret (fun v w' => ∃ ρ', v = .bool r.1 ∧ login_Logins.O (fun p => o + p) ρ' w' gl_0 r.2 ∧ Tr ρA w0 (rng o 7) ρ' w')) := by
 unfold login_Logins_byCode at hS
 have hb := enter_fr (ρ := ρA) (w := w0) (n := 7) ho2 hbd
 have hz := hz.enter (n := 7) ho2
 obtain ⟨v1, v3, v5, v7, hB9, hP2, h4, h6, h8⟩ := ho0
 replace hB9 := hB9.mv (enter_mv (p := 0) (n := 7) (by decide) ho2)
 replace hP2 := PtrO.mv hP2 secret_Locks.objK (fun p hp => enter_mv (p := 1 + p) (n := 7) (by omega) ho2) (fun p hp => by omega)
 replace h4 := h4.mv (enter_mv (p := 4) (n := 7) (by decide) ho2)
 replace h6 := h6.mv (enter_mv (p := 5) (n := 7) (by decide) ho2)
 replace h8 := h8.mv (enter_mv (p := 6) (n := 7) (by decide) ho2)
 replace hB9 : Blk (enter ρA o 7) 100 w0 gl_0 (.cells #[v1, v3, v5, v7] 69 (0, 0)) := hB9
 replace hP2 : PtrO secret_Locks.O (fun q => 100 + (1 + q)) (enter ρA o 7) w0 v1 l_0.locks := hP2
 replace h4 : MapT str login_credentials.c true (enter ρA o 7) 104 w0 v3 l_0.users := h4
 replace h6 : MapT str (intC .i64) false (enter ρA o 7) 105 w0 v5 l_0.counters := h6
 replace h8 : MapT str login_attempt.c true (enter ρA o 7) 106 w0 v7 l_0.attempts := h8
 refine calls_of_ke Tryz.func48 rfl (n := 48) rfl rfl (l := [(0, .pointer (some ⟨gl_0, 0, none⟩)), (1, str user_1), (2, str code_2), (3, .int .i64 now_3)]) rfl ?_
 refine ke_seq ?_
 refine ke_region ?_
 refine sr_ev (v := .bool false) (ev_assign rfl) (by decide) ?_
 refine sr_end (l' := [(0, .pointer (some ⟨gl_0, 0, none⟩)), (1, str user_1), (2, str code_2), (3, .int .i64 now_3)]) (.cons rfl (.cons rfl (.cons rfl (.cons rfl (.nil _))))) ?_
 refine ke_seq ?_
 refine ke_region ?_
 refine sr_ev (v := .pointer (some ⟨gl_0, 0, none⟩)) (ev_move rfl) (by decide) ?_
 refine sr_ev (v := .pointer (some ⟨gl_0, 0, none⟩)) (ev_nilCheck rfl) (by decide) ?_
 refine sr_ev (v := .pointer (some ⟨gl_0, 1, none⟩)) (ev_fieldAddr (i := 1) Tryz.underlying69 rfl Tryz.info65 rfl rfl) (by decide) ?_
 refine sr_ev (v := v3) (ev_load Tryz.isAgg65 rfl (hB9.cell rfl)) (by decide) ?_
 refine sr_ev (v := str user_1) (ev_move rfl) (by decide) ?_
 obtain ⟨y14, hy15, hS⟩ := bind_some' hS
 replace hy15 := Option.some.inj hy15
 obtain ⟨cs10, hrd11, hl12, hl13⟩ := h4.look (zcs := [str ([]), .int .i64 0, str ([]), str ([])]) (z := (login_credentials.mk (api_Verifier.mk ([]) 0 ([])) ([]))) Tryz.keyB9 Tryz.underlying65 Tryz.zeroValue98 rfl user_1
 rw [hy15] at hrd11
 obtain rfl : cs10 = [str y14.verifier.Salt, .int .i64 y14.verifier.Rounds, str y14.verifier.Hash, str y14.code] := hrd11
 refine sr_ev (v := .tuple #[.agg #[str y14.verifier.Salt, .int .i64 y14.verifier.Rounds, str y14.verifier.Hash, str y14.code], .bool (mhas l_0.users user_1)]) (hl13 w0 _ _ (Mv.of_below (i := 104) (ρ := (enter ρA o 7)) (Below.refl _ _)) rfl rfl) (by decide) ?_
 refine sr_ev (v := .tuple #[.agg #[str y14.verifier.Salt, .int .i64 y14.verifier.Rounds, str y14.verifier.Hash, str y14.code], .bool (mhas l_0.users user_1)]) (ev_move rfl) (by decide) ?_
 refine sr_ev (v := .agg #[str y14.verifier.Salt, .int .i64 y14.verifier.Rounds, str y14.verifier.Hash, str y14.code]) (ev_extract rfl rfl) (by decide) ?_
 refine sr_ev (v := .bool (mhas l_0.users user_1)) (ev_extract rfl rfl) (by decide) ?_
 refine sr_allocT 11 (by decide) hb.bd Tryz.zeroValue98 (by decide) ?_
 intro g16 ρ17 w18 hB20 htr19
 replace hB9 := hB9.mv (htr19.mv (i := 100) rfl)
 replace hP2 := PtrO.mv hP2 secret_Locks.objK (fun p hp => htr19.mv (i := 100 + (1 + p)) (by rcases p with _ | _ | _ | p <;> first | rfl | omega)) (fun p hp => by show 100 + (1 + p) ≠ 0; omega)
 replace h4 := h4.mv (htr19.mv (i := 104) rfl)
 replace h6 := h6.mv (htr19.mv (i := 105) rfl)
 replace h8 := h8.mv (htr19.mv (i := 106) rfl)
 replace hb := hb.trans htr19
 replace hB20 : Blk ρ17 11 w18 g16 (.cells #[str ([]), .int .i64 0, str ([]), str ([])] 98 (0, 0)) := hB20
 refine sr_storeT (v := .agg #[str y14.verifier.Salt, .int .i64 y14.verifier.Rounds, str y14.verifier.Hash, str y14.code]) (vs := [str y14.verifier.Salt, .int .i64 y14.verifier.Rounds, str y14.verifier.Hash, str y14.code]) (cs' := #[str y14.verifier.Salt, .int .i64 y14.verifier.Rounds, str y14.verifier.Hash, str y14.code]) hB20 (by decide) hb.bd rfl rfl rfl Tryz.sizeOf98 rfl rfl rfl ?_
 intro w21 hB201 htr22
 replace hB9 := hB9.mv (htr22.mv (i := 100) rfl)
 replace hP2 := PtrO.mv hP2 secret_Locks.objK (fun p hp => htr22.mv (i := 100 + (1 + p)) (by rcases p with _ | _ | _ | p <;> first | rfl | omega)) (fun p hp => by show 100 + (1 + p) ≠ 0; omega)
 replace h4 := h4.mv (htr22.mv (i := 104) rfl)
 replace h6 := h6.mv (htr22.mv (i := 105) rfl)
 replace h8 := h8.mv (htr22.mv (i := 106) rfl)
 replace hb := hb.trans htr22
 replace hB20 : Blk ρ17 11 w21 g16 (.cells #[str y14.verifier.Salt, .int .i64 y14.verifier.Rounds, str y14.verifier.Hash, str y14.code] 98 (0, 0)) := hB201
 clear hB201
 refine sr_ev (v := .bool (mhas l_0.users user_1)) (ev_assign rfl) (by decide) ?_
 refine sr_end (l' := [(0, .pointer (some ⟨gl_0, 0, none⟩)), (1, str user_1), (2, str code_2), (3, .int .i64 now_3), (9, .pointer (some ⟨g16, 0, none⟩)), (10, .bool (mhas l_0.users user_1))]) (.cons rfl (.cons rfl (.cons rfl (.cons rfl (.cons rfl (.cons rfl (.nil _))))))) ?_
 refine ke_seq ?_
 refine ke_seq ?_
 refine ke_region ?_
 refine sr_ev (v := .bool (mhas l_0.users user_1)) (ev_move rfl) (by decide) ?_
 refine sr_ev (v := .bool (!(mhas l_0.users user_1))) (ev_not rfl) (by decide) ?_
 refine sr_ev (v := .bool (!(mhas l_0.users user_1))) (ev_move rfl) (by decide) ?_
 refine sr_join (m := 4) (C := fun (x : Bool) w1 => x = ((!(mhas l_0.users user_1)) || (y14.code == ([]))) ∧ w21 = w1) (l' := fun x => [(0, .pointer (some ⟨gl_0, 0, none⟩)), (1, str user_1), (2, str code_2), (3, .int .i64 now_3), (9, .pointer (some ⟨g16, 0, none⟩)), (28, .bool x)]) ?_ ?_
 ·rintro _ _ ⟨rfl, rfl⟩
  refine sr_end (l' := [(0, .pointer (some ⟨gl_0, 0, none⟩)), (1, str user_1), (2, str code_2), (3, .int .i64 now_3), (9, .pointer (some ⟨g16, 0, none⟩)), (28, .bool ((!(mhas l_0.users user_1)) || (y14.code == ([]))))]) (.cons rfl (.cons rfl (.cons rfl (.cons rfl (.cons rfl (.cons rfl (.nil _))))))) ?_
  refine ke_cond (t := (!(mhas l_0.users user_1)) || (y14.code == ([]))) rfl (fun hc31 => ?_) (fun hc31 => ?_)
  ·replace hS := ite_true' hS hc31
   refine ke_seq ?_
   refine ke_region ?_
   refine sr_ev (v := .bool false) (ev_assign rfl) (by decide) ?_
   refine sr_end (l' := [(8, .bool false)]) (.cons rfl (.nil _)) ?_
   cases hS
   exact ke_ret1 Tryz.func48 rfl rfl ⟨_, rfl, leave ρA w0 o 7 ρ17, rfl, ⟨_, _, _, _, (hB9.mv (leave_mv (p := 0) (by decide) hb)), (PtrO.mv hP2 secret_Locks.objK (fun p hp => leave_mv (p := 1 + p) (by omega) hb) (fun p hp => by show o + (1 + p) ≠ 0; omega)), (h4.mv (leave_mv (p := 4) (by decide) hb)), (h6.mv (leave_mv (p := 5) (by decide) hb)), (h8.mv (leave_mv (p := 6) (by decide) hb))⟩, (leave_tr ho2 hb)⟩
  ·replace hS := ite_false' hS hc31
   refine ke_skip ?_
   refine ke_seq ?_
   refine ke_region_q Tryz.mixed (by kernel_rfl) ?_
   refine sq_ev (v := .pointer (some ⟨g16, 3, none⟩)) (fun w1 hw1 => ev_fieldAddr (i := 1) Tryz.underlying98 rfl Tryz.info9 rfl rfl) (by decide) ?_
   refine sq_ev (v := str y14.code) (fun w1 hw1 => ev_load Tryz.isAgg9 rfl ((hB20.mv (Mv.of_below (i := 11) (ρ := ρ17) hw1)).cell rfl)) (by decide) ?_
   refine sq_ev (v := .pointer (some ⟨gl_0, 0, none⟩)) (fun w1 hw1 => ev_move rfl) (by decide) ?_
   refine sq_ev (v := str user_1) (fun w1 hw1 => ev_move rfl) (by decide) ?_
   obtain ⟨y34, hy35, hS⟩ := bind_some' hS
   refine sq_call (v := .int .i64 y34) (vs := [.pointer (some ⟨gl_0, 0, none⟩), str user_1]) rfl Tryz.call92 rfl (fun w1 hw1 => (login_Logins_last_ok _ ((hg.fr hz hb).below hw1) (ρA := ρ17) (fun b h => Nat.lt_of_lt_of_le (hb.bd b h) hw1.size) (hz.fr hg hb) (τ0 := (fun p => 100 + p)) (fun p => Nat.le_add_right_of_le (by decide)) (⟨_, _, _, _, (hB9.mv (Mv.of_below (i := 100) (ρ := ρ17) hw1)), (PtrO.mv hP2 secret_Locks.objK (fun p hp => Mv.of_below (i := 100 + (1 + p)) (ρ := ρ17) hw1) (fun p hp => by show 100 + (1 + p) ≠ 0; omega)), (h4.mv (Mv.of_below (i := 104) (ρ := ρ17) hw1)), (h6.mv (Mv.of_below (i := 105) (ρ := ρ17) hw1)), (h8.mv (Mv.of_below (i := 106) (ρ := ρ17) hw1))⟩ : login_Logins.O (fun p => 100 + p) ρ17 w1 gl_0 l_0) hy35)) (by decide) ?_
   refine sq_ev (v := .int .i64 now_3) (fun w1 hw1 => ev_move rfl) (by decide) ?_
   refine sq_ev (v := str code_2) (fun w1 hw1 => ev_move rfl) (by decide) ?_
   obtain ⟨y39, hy40, hS⟩ := bind_some' hS
   refine sq_call (v := .tuple #[.int .i64 y39.1, .int .i64 y39.2]) (vs := [str y14.code, .int .i64 y34, .int .i64 now_3, .int .i64 60, str code_2]) rfl Tryz.call91 rfl (fun w1 hw1 => (otp_VerifyAt_ok _ ((hg.fr hz hb).below hw1) (ρA := ρ17) (fun b h => Nat.lt_of_lt_of_le (hb.bd b h) hw1.size) (hz.fr hg hb) hy40)) (by decide) ?_
   refine sq_ev (v := .tuple #[.int .i64 y39.1, .int .i64 y39.2]) (fun w1 hw1 => ev_move rfl) (by decide) ?_
   refine sq_ev (v := .int .i64 y39.1) (fun w1 hw1 => ev_extract rfl rfl) (by decide) ?_
   refine sq_ev (v := .int .i64 y39.2) (fun w1 hw1 => ev_extract rfl rfl) (by decide) ?_
   refine sq_ev (v := .int .i64 y39.1) (fun w1 hw1 => ev_assign rfl) (by decide) ?_
   refine sq_ev (v := .int .i64 y39.2) (fun w1 hw1 => ev_assign rfl) (by decide) ?_
   refine sq_end (l' := [(0, .pointer (some ⟨gl_0, 0, none⟩)), (1, str user_1), (11, .int .i64 y39.1), (12, .int .i64 y39.2)]) (.cons rfl (.cons rfl (.cons rfl (.cons rfl (.nil _))))) (fun w33 hw32 => ?_)
   have htr44 := Tr.of_below hw32 hb.bd
   replace hB9 := hB9.mv (htr44.mv (i := 100) rfl)
   replace hP2 := PtrO.mv hP2 secret_Locks.objK (fun p hp => htr44.mv (i := 100 + (1 + p)) (by rcases p with _ | _ | _ | p <;> first | rfl | omega)) (fun p hp => by show 100 + (1 + p) ≠ 0; omega)
   replace h4 := h4.mv (htr44.mv (i := 104) rfl)
   replace h6 := h6.mv (htr44.mv (i := 105) rfl)
   replace h8 := h8.mv (htr44.mv (i := 106) rfl)
   replace hb := hb.trans htr44
   refine ke_seq ?_
   refine ke_seq ?_
   refine ke_region ?_
   refine sr_ev (v := .int .i64 y39.2) (ev_move rfl) (by decide) ?_
   refine sr_ev (v := .bool (y39.2 != 0)) (ev_ne rfl rfl) (by decide) ?_
   refine sr_end (l' := [(0, .pointer (some ⟨gl_0, 0, none⟩)), (1, str user_1), (11, .int .i64 y39.1), (41, .bool (y39.2 != 0))]) (.cons rfl (.cons rfl (.cons rfl (.cons rfl (.nil _))))) ?_
   refine ke_cond (t := y39.2 != 0) rfl (fun hc45 => ?_) (fun hc45 => ?_)
   ·replace hS := ite_true' hS hc45
    refine ke_seq ?_
    refine ke_region ?_
    refine sr_ev (v := .bool false) (ev_assign rfl) (by decide) ?_
    refine sr_end (l' := [(8, .bool false)]) (.cons rfl (.nil _)) ?_
    cases hS
    exact ke_ret1 Tryz.func48 rfl rfl ⟨_, rfl, leave ρA w0 o 7 ρ17, rfl, ⟨_, _, _, _, (hB9.mv (leave_mv (p := 0) (by decide) hb)), (PtrO.mv hP2 secret_Locks.objK (fun p hp => leave_mv (p := 1 + p) (by omega) hb) (fun p hp => by show o + (1 + p) ≠ 0; omega)), (h4.mv (leave_mv (p := 4) (by decide) hb)), (h6.mv (leave_mv (p := 5) (by decide) hb)), (h8.mv (leave_mv (p := 6) (by decide) hb))⟩, (leave_tr ho2 hb)⟩
   ·replace hS := ite_false' hS hc45
    refine ke_skip ?_
    refine ke_seq ?_
    refine ke_region ?_
    refine sr_ev (v := .pointer (some ⟨gl_0, 0, none⟩)) (ev_move rfl) (by decide) ?_
    refine sr_ev (v := .pointer (some ⟨gl_0, 0, none⟩)) (ev_nilCheck rfl) (by decide) ?_
    refine sr_ev (v := .pointer (some ⟨gl_0, 2, none⟩)) (ev_fieldAddr (i := 2) Tryz.underlying69 rfl Tryz.info66 rfl rfl) (by decide) ?_
    refine sr_ev (v := v5) (ev_load Tryz.isAgg66 rfl (hB9.cell rfl)) (by decide) ?_
    refine sr_ev (v := str user_1) (ev_move rfl) (by decide) ?_
    refine sr_ev (v := .int .i64 y39.1) (ev_move rfl) (by decide) ?_
    obtain ⟨hk46, hS⟩ := chk_some hS
    refine sr_mapPut (k := user_1) (d := y39.1) (u := .int .i64 y39.1) (cs := [.int .i64 y39.1]) h6 hk46 Tryz.keyB9 Tryz.underlying66 (by decide) hb.bd rfl rfl rfl rfl rfl ?_
    intro w47 h61 htr48
    replace hB9 := hB9.mv (htr48.mv (i := 100) rfl)
    replace hP2 := PtrO.mv hP2 secret_Locks.objK (fun p hp => htr48.mv (i := 100 + (1 + p)) (by rcases p with _ | _ | _ | p <;> first | rfl | omega)) (fun p hp => by show 100 + (1 + p) ≠ 0; omega)
    replace h4 := h4.mv (htr48.mv (i := 104) rfl)
    replace h8 := h8.mv (htr48.mv (i := 106) rfl)
    replace hb := hb.trans htr48
    replace h6 := h61
    clear h61
    refine sr_end (l' := []) (.nil _) ?_
    refine ke_seq ?_
    refine ke_region ?_
    refine sr_ev (v := .bool true) (ev_assign rfl) (by decide) ?_
    refine sr_end (l' := [(8, .bool true)]) (.cons rfl (.nil _)) ?_
    cases hS
    exact ke_ret1 Tryz.func48 rfl rfl ⟨_, rfl, leave ρA w0 o 7 ρ17, rfl, ⟨_, _, _, _, (hB9.mv (leave_mv (p := 0) (by decide) hb)), (PtrO.mv hP2 secret_Locks.objK (fun p hp => leave_mv (p := 1 + p) (by omega) hb) (fun p hp => by show o + (1 + p) ≠ 0; omega)), (h4.mv (leave_mv (p := 4) (by decide) hb)), (h6.mv (leave_mv (p := 5) (by decide) hb)), (h8.mv (leave_mv (p := 6) (by decide) hb))⟩, (leave_tr ho2 hb)⟩
 ·intro K24
  rcases Bool.eq_false_or_eq_true (!(mhas l_0.users user_1)) with hg23 | hg23
  all_goals try have hj26 : Tr ρ17 w21 (fun _ => false) ρ17 w21 := Tr.refl hb.bd
  ·refine sr_pass (e := 24) rfl rfl (by rw [hg23]; rfl) (by decide) ?_
   refine sr_pass (e := 24) rfl rfl (by rw [hg23]; rfl) (by decide) ?_
   refine sr_pass (e := 24) rfl rfl (by rw [hg23]; rfl) (by decide) ?_
   refine sr_ev (v := .bool true) (ev_pick_t rfl hg23 rfl) (by decide) ?_
   exact sr_weaken (l' := [(0, .pointer (some ⟨gl_0, 0, none⟩)), (1, str user_1), (2, str code_2), (3, .int .i64 now_3), (9, .pointer (some ⟨g16, 0, none⟩)), (28, .bool true)]) (.cons rfl (.cons rfl (.cons rfl (.cons rfl (.cons rfl (.cons rfl (.nil _))))))) (K24 true _ ⟨by first | (rw [hg23]; rfl) | rfl, rfl⟩)
  ·refine sr_evg (b := false) (e := 24) rfl rfl hg23 (v := .pointer (some ⟨g16, 3, none⟩)) (ev_fieldAddr (i := 1) Tryz.underlying98 rfl Tryz.info9 rfl rfl) (by decide) ?_
   refine sr_evg (b := false) (e := 24) rfl rfl hg23 (v := str y14.code) (ev_load Tryz.isAgg9 rfl (hB20.cell rfl)) (by decide) ?_
   refine sr_evg (b := false) (e := 24) rfl rfl hg23 (v := .bool (y14.code == ([]))) (ev_seq rfl rfl) (by decide) ?_
   refine sr_ev (v := .bool (y14.code == ([]))) (ev_pick_f rfl hg23 rfl) (by decide) ?_
   exact sr_weaken (l' := [(0, .pointer (some ⟨gl_0, 0, none⟩)), (1, str user_1), (2, str code_2), (3, .int .i64 now_3), (9, .pointer (some ⟨g16, 0, none⟩)), (28, .bool (y14.code == ([])))]) (.cons rfl (.cons rfl (.cons rfl (.cons rfl (.cons rfl (.cons rfl (.nil _))))))) (K24 (y14.code == ([])) _ ⟨by first | (rw [hg23]; rfl) | rfl, rfl⟩)
theorem login_Logins_present__Logins_byCode_ok (w0 : World) (hg : Gs w0) {ρA : Tags} (hbd : ∀ b, ρA b ≠ 0 → b < w0.heap.size) (hz : Gz ρA) {o : Nat} (ho2 : 2 ≤ o) {l_0 : login_Logins} {id_1 : Str} {text_2 : Str} {now_3 : Int} {f_4 : Int} {gl_0 : Nat} {r : Int × login_Logins} (ho0 : login_Logins.O (fun p => o + p) ρA w0 gl_0 l_0) (hS : login_Logins_present__Logins_byCode l_0 id_1 text_2 now_3 f_4 = some r) :
  Calls Tryz.prog 47 #[.pointer (some ⟨gl_0, 0, none⟩), str id_1, str text_2, .int .i64 now_3, .int .i64 f_4, .func (.func 48) #[] #[]] w0 (Ret (fun v w' => ∃ ρ', v = .int .i64 r.1 ∧ login_Logins.O (fun p => o + p) ρ' w' gl_0 r.2 ∧ Tr ρA w0 (rng o 7) ρ' w')) := by
 unfold login_Logins_present__Logins_byCode at hS
 have hb := enter_fr (ρ := ρA) (w := w0) (n := 7) ho2 hbd
 have hz := hz.enter (n := 7) ho2
 obtain ⟨v1, v3, v5, v7, hB9, hP2, h4, h6, h8⟩ := ho0
 replace hB9 := hB9.mv (enter_mv (p := 0) (n := 7) (by decide) ho2)
 replace hP2 := PtrO.mv hP2 secret_Locks.objK (fun p hp => enter_mv (p := 1 + p) (n := 7) (by omega) ho2) (fun p hp => by omega)
 replace h4 := h4.mv (enter_mv (p := 4) (n := 7) (by decide) ho2)
 replace h6 := h6.mv (enter_mv (p := 5) (n := 7) (by decide) ho2)
 replace h8 := h8.mv (enter_mv (p := 6) (n := 7) (by decide) ho2)
 replace hB9 : Blk (enter ρA o 7) 100 w0 gl_0 (.cells #[v1, v3, v5, v7] 69 (0, 0)) := hB9
 replace hP2 : PtrO secret_Locks.O (fun q => 100 + (1 + q)) (enter ρA o 7) w0 v1 l_0.locks := hP2
 replace h4 : MapT str login_credentials.c true (enter ρA o 7) 104 w0 v3 l_0.users := h4
 replace h6 : MapT str (intC .i64) false (enter ρA o 7) 105 w0 v5 l_0.counters := h6
 replace h8 : MapT str login_attempt.c true (enter ρA o 7) 106 w0 v7 l_0.attempts := h8
 refine calls_of_ke Tryz.func47 rfl (n := 72) rfl rfl (l := [(0, .pointer (some ⟨gl_0, 0, none⟩)), (1, str id_1), (2, str text_2), (3, .int .i64 now_3), (4, .int .i64 f_4), (5, .func (.func 48) #[] #[])]) rfl ?_
 refine ke_seq ?_
 refine ke_region ?_
 refine sr_ev (v := .int .i64 0) (ev_assign rfl) (by decide) ?_
 refine sr_end (l' := [(0, .pointer (some ⟨gl_0, 0, none⟩)), (1, str id_1), (2, str text_2), (3, .int .i64 now_3), (4, .int .i64 f_4), (5, .func (.func 48) #[] #[])]) (.cons rfl (.cons rfl (.cons rfl (.cons rfl (.cons rfl (.cons rfl (.nil _))))))) ?_
 refine ke_seq ?_
 refine ke_region ?_
 refine sr_ev (v := .pointer (some ⟨gl_0, 0, none⟩)) (ev_move rfl) (by decide) ?_
 refine sr_ev (v := str id_1) (ev_move rfl) (by decide) ?_
 refine sr_ev (v := .int .i64 now_3) (ev_move rfl) (by decide) ?_
 obtain ⟨y10, hy11, hS⟩ := bind_some' hS
 refine sr_call (vs := [.pointer (some ⟨gl_0, 0, none⟩), str id_1, .int .i64 now_3]) rfl Tryz.call49 rfl (login_Logins_find_ok _ (hg.fr hz hb) (ρA := (enter ρA o 7)) hb.bd (hz.fr hg hb) (τ0 := (fun p => 100 + p)) (fun p => Nat.le_add_right_of_le (by decide)) (⟨_, _, _, _, hB9, hP2, h4, h6, h8⟩ : login_Logins.O (fun p => 100 + p) (enter ρA o 7) w0 gl_0 l_0) hy11) (by decide) ?_
 rintro _ w12 ⟨v15, rfl, h16, hbw13⟩
 have htr14 := Tr.of_below hbw13 hb.bd
 replace hB9 := hB9.mv (htr14.mv (i := 100) rfl)
 replace hP2 := PtrO.mv hP2 secret_Locks.objK (fun p hp => htr14.mv (i := 100 + (1 + p)) (by rcases p with _ | _ | _ | p <;> first | rfl | omega)) (fun p hp => by show 100 + (1 + p) ≠ 0; omega)
 replace h4 := h4.mv (htr14.mv (i := 104) rfl)
 replace h6 := h6.mv (htr14.mv (i := 105) rfl)
 replace h8 := h8.mv (htr14.mv (i := 106) rfl)
 replace hb := hb.trans htr14
 refine sr_ev (v := .tuple #[.agg #[str y10.1.user, .int .i64 y10.1.begun, v15], .int .i64 y10.2]) (ev_move rfl) (by decide) ?_
 refine sr_ev (v := .agg #[str y10.1.user, .int .i64 y10.1.begun, v15]) (ev_extract rfl rfl) (by decide) ?_
 refine sr_ev (v := .int .i64 y10.2) (ev_extract rfl rfl) (by decide) ?_
 refine sr_allocT 15 (by decide) hb.bd Tryz.zeroValue74 (by decide) ?_
 intro g17 ρ18 w19 hB21 htr20
 replace h16 := h16.mv htr20.rd
 replace hB9 := hB9.mv (htr20.mv (i := 100) rfl)
 replace hP2 := PtrO.mv hP2 secret_Locks.objK (fun p hp => htr20.mv (i := 100 + (1 + p)) (by rcases p with _ | _ | _ | p <;> first | rfl | omega)) (fun p hp => by show 100 + (1 + p) ≠ 0; omega)
 replace h4 := h4.mv (htr20.mv (i := 104) rfl)
 replace h6 := h6.mv (htr20.mv (i := 105) rfl)
 replace h8 := h8.mv (htr20.mv (i := 106) rfl)
 replace hb := hb.trans htr20
 replace hB21 : Blk ρ18 15 w19 g17 (.cells #[str ([]), .int .i64 0, (.slice none 0 0)] 74 (0, 0)) := hB21
 refine sr_storeT (v := .agg #[str y10.1.user, .int .i64 y10.1.begun, v15]) (vs := [str y10.1.user, .int .i64 y10.1.begun, v15]) (cs' := #[str y10.1.user, .int .i64 y10.1.begun, v15]) hB21 (by decide) hb.bd rfl rfl rfl Tryz.sizeOf74 rfl (by first | rfl | (simp only [List.all_cons, List.all_nil, SlR.oneCell h16]; done) | (simp only [List.all_cons, List.all_nil, SlR.oneCell h16]; rfl)) rfl ?_
 intro w22 hB211 htr23
 replace h16 := h16.mv htr23.rd
 replace hB9 := hB9.mv (htr23.mv (i := 100) rfl)
 replace hP2 := PtrO.mv hP2 secret_Locks.objK (fun p hp => htr23.mv (i := 100 + (1 + p)) (by rcases p with _ | _ | _ | p <;> first | rfl | omega)) (fun p hp => by show 100 + (1 + p) ≠ 0; omega)
 replace h4 := h4.mv (htr23.mv (i := 104) rfl)
 replace h6 := h6.mv (htr23.mv (i := 105) rfl)
 replace h8 := h8.mv (htr23.mv (i := 106) rfl)
 replace hb := hb.trans htr23
 replace hB21 : Blk ρ18 15 w22 g17 (.cells #[str y10.1.user, .int .i64 y10.1.begun, v15] 74 (0, 0)) := hB211
 clear hB211
 refine sr_ev (v := .int .i64 y10.2) (ev_assign rfl) (by decide) ?_
 refine sr_end (l' := [(0, .pointer (some ⟨gl_0, 0, none⟩)), (1, str id_1), (2, str text_2), (3, .int .i64 now_3), (4, .int .i64 f_4), (5, .func (.func 48) #[] #[]), (13, .pointer (some ⟨g17, 0, none⟩)), (14, .int .i64 y10.2)]) (.cons rfl (.cons rfl (.cons rfl (.cons rfl (.cons rfl (.cons rfl (.cons rfl (.cons rfl (.nil _))))))))) ?_
 refine ke_seq ?_
 refine ke_block ?_
 refine ke_seq ?_
 refine ke_region ?_
 refine sr_ev (v := .int .i64 y10.2) (ev_move rfl) (by decide) ?_
 refine sr_ev (v := .bool (y10.2 != 0)) (ev_ne rfl rfl) (by decide) ?_
 refine sr_ev (v := .bool (y10.2 != 0)) (ev_assign rfl) (by decide) ?_
 refine sr_end (l' := [(0, .pointer (some ⟨gl_0, 0, none⟩)), (1, str id_1), (2, str text_2), (3, .int .i64 now_3), (4, .int .i64 f_4), (5, .func (.func 48) #[] #[]), (13, .pointer (some ⟨g17, 0, none⟩)), (14, .int .i64 y10.2), (22, .bool (y10.2 != 0))]) (.cons rfl (.cons rfl (.cons rfl (.cons rfl (.cons rfl (.cons rfl (.cons rfl (.cons rfl (.cons rfl (.nil _)))))))))) ?_
 refine ke_cond (t := y10.2 != 0) rfl (fun hc24 => ?_) (fun hc24 => ?_)
 ·replace hS := ite_true' hS hc24
  refine ke_seq ?_
  refine ke_region ?_
  refine sr_ev (v := .int .i64 y10.2) (ev_move rfl) (by decide) ?_
  refine sr_ev (v := .int .i64 y10.2) (ev_assign rfl) (by decide) ?_
  refine sr_end (l' := [(12, .int .i64 y10.2)]) (.cons rfl (.nil _)) ?_
  cases hS
  exact ke_ret1 Tryz.func47 rfl rfl ⟨_, rfl, leave ρA w0 o 7 ρ18, rfl, ⟨_, _, _, _, (hB9.mv (leave_mv (p := 0) (by decide) hb)), (PtrO.mv hP2 secret_Locks.objK (fun p hp => leave_mv (p := 1 + p) (by omega) hb) (fun p hp => by show o + (1 + p) ≠ 0; omega)), (h4.mv (leave_mv (p := 4) (by decide) hb)), (h6.mv (leave_mv (p := 5) (by decide) hb)), (h8.mv (leave_mv (p := 6) (by decide) hb))⟩, (leave_tr ho2 hb)⟩
 ·replace hS := ite_false' hS hc24
  refine ke_seq ?_
  refine ke_region ?_
  refine sr_ev (v := .agg #[str y10.1.user, .int .i64 y10.1.begun, v15]) (ev_loads (cs := [str y10.1.user, .int .i64 y10.1.begun, v15]) Tryz.isAgg74 Tryz.sizeOf74 rfl (hB21.cells (vs := [str y10.1.user, .int .i64 y10.1.begun, v15]) rfl)) (by decide) ?_
  refine sr_ev (v := .int .i64 f_4) (ev_move rfl) (by decide) ?_
  obtain ⟨y25, hy26, hS⟩ := bind_some' hS
  refine sr_call (vs := [.agg #[str y10.1.user, .int .i64 y10.1.begun, v15], .int .i64 f_4]) rfl Tryz.call89 rfl (login_attempt_has_ok _ (hg.fr hz hb) (ρA := ρ18) hb.bd (hz.fr hg hb) h16 hy26) (by decide) ?_
  rintro _ w27 ⟨rfl, hbw28⟩
  have htr29 := Tr.of_below hbw28 hb.bd
  replace hB21 := hB21.mv (htr29.mv (i := 15) rfl)
  replace h16 := h16.mv htr29.rd
  replace hB9 := hB9.mv (htr29.mv (i := 100) rfl)
  replace hP2 := PtrO.mv hP2 secret_Locks.objK (fun p hp => htr29.mv (i := 100 + (1 + p)) (by rcases p with _ | _ | _ | p <;> first | rfl | omega)) (fun p hp => by show 100 + (1 + p) ≠ 0; omega)
  replace h4 := h4.mv (htr29.mv (i := 104) rfl)
  replace h6 := h6.mv (htr29.mv (i := 105) rfl)
  replace h8 := h8.mv (htr29.mv (i := 106) rfl)
  replace hb := hb.trans htr29
  refine sr_ev (v := .bool y25) (ev_assign rfl) (by decide) ?_
  refine sr_end (l' := [(0, .pointer (some ⟨gl_0, 0, none⟩)), (1, str id_1), (2, str text_2), (3, .int .i64 now_3), (4, .int .i64 f_4), (5, .func (.func 48) #[] #[]), (13, .pointer (some ⟨g17, 0, none⟩)), (26, .bool y25)]) (.cons rfl (.cons rfl (.cons rfl (.cons rfl (.cons rfl (.cons rfl (.cons rfl (.cons rfl (.nil _))))))))) ?_
  refine ke_cond (t := y25) rfl (fun hc30 => ?_) (fun hc30 => ?_)
  ·replace hS := ite_true' hS hc30
   refine ke_seq ?_
   refine ke_region ?_
   refine sr_ev (v := .int .i64 12) (ev_assign rfl) (by decide) ?_
   refine sr_end (l' := [(12, .int .i64 12)]) (.cons rfl (.nil _)) ?_
   cases hS
   exact ke_ret1 Tryz.func47 rfl rfl ⟨_, rfl, leave ρA w0 o 7 ρ18, rfl, ⟨_, _, _, _, (hB9.mv (leave_mv (p := 0) (by decide) hb)), (PtrO.mv hP2 secret_Locks.objK (fun p hp => leave_mv (p := 1 + p) (by omega) hb) (fun p hp => by show o + (1 + p) ≠ 0; omega)), (h4.mv (leave_mv (p := 4) (by decide) hb)), (h6.mv (leave_mv (p := 5) (by decide) hb)), (h8.mv (leave_mv (p := 6) (by decide) hb))⟩, (leave_tr ho2 hb)⟩
  ·replace hS := ite_false' hS hc30
   refine ke_seq ?_
   refine ke_region_q Tryz.mixed (by kernel_rfl) ?_
   refine sq_ev (v := .pointer (some ⟨gl_0, 0, none⟩)) (fun w1 hw1 => ev_move rfl) (by decide) ?_
   refine sq_ev (v := .pointer (some ⟨gl_0, 0, none⟩)) (fun w1 hw1 => ev_nilCheck rfl) (by decide) ?_
   refine sq_ev (v := .pointer (some ⟨gl_0, 0, none⟩)) (fun w1 hw1 => ev_fieldAddr (i := 0) Tryz.underlying69 rfl Tryz.info64 rfl rfl) (by decide) ?_
   refine sq_ev (v := v1) (fun w1 hw1 => ev_load Tryz.isAgg64 rfl ((hB9.mv (Mv.of_below (i := 100) (ρ := ρ18) hw1)).cell rfl)) (by decide) ?_
   refine sq_ev (v := .pointer (some ⟨g17, 0, none⟩)) (fun w1 hw1 => ev_fieldAddr (i := 0) Tryz.underlying74 rfl Tryz.info9 rfl rfl) (by decide) ?_
   refine sq_ev (v := str y10.1.user) (fun w1 hw1 => ev_load Tryz.isAgg9 rfl ((hB21.mv (Mv.of_below (i := 15) (ρ := ρ18) hw1)).cell rfl)) (by decide) ?_
   refine sq_ev (v := .int .i64 now_3) (fun w1 hw1 => ev_move rfl) (by decide) ?_
   rcases ho34 : l_0.locks with _ | z33
   ·replace hS := optC_none hS ho34
    obtain rfl := hP2.none_ ho34
    obtain ⟨y191, hy192, hS⟩ := bind_some' hS
    obtain rfl : y191 = false := (Option.some.inj hy192).symm
    refine sq_call (v := .bool false) (vs := [.pointer none, str y10.1.user, .int .i64 now_3]) rfl Tryz.call57 rfl (fun w1 hw1 => (secret_Locks_Locked__nil_ok _ ((hg.fr hz hb).below hw1) (ρA := ρ18) (fun b h => Nat.lt_of_lt_of_le (hb.bd b h) hw1.size) (hz.fr hg hb) hy192)) (by decide) ?_
    refine sq_ev (v := .bool false) (fun w1 hw1 => ev_assign rfl) (by decide) ?_
    refine sq_end (l' := [(0, .pointer (some ⟨gl_0, 0, none⟩)), (1, str id_1), (2, str text_2), (3, .int .i64 now_3), (4, .int .i64 f_4), (5, .func (.func 48) #[] #[]), (13, .pointer (some ⟨g17, 0, none⟩)), (30, .bool false)]) (.cons rfl (.cons rfl (.cons rfl (.cons rfl (.cons rfl (.cons rfl (.cons rfl (.cons rfl (.nil _))))))))) (fun w32 hw31 => ?_)
    have htr196 := Tr.of_below hw31 hb.bd
    replace hB21 := hB21.mv (htr196.mv (i := 15) rfl)
    replace h16 := h16.mv htr196.rd
    replace hB9 := hB9.mv (htr196.mv (i := 100) rfl)
    replace hP2 := PtrO.mv hP2 secret_Locks.objK (fun p hp => htr196.mv (i := 100 + (1 + p)) (by rcases p with _ | _ | _ | p <;> first | rfl | omega)) (fun p hp => by show 100 + (1 + p) ≠ 0; omega)
    replace h4 := h4.mv (htr196.mv (i := 104) rfl)
    replace h6 := h6.mv (htr196.mv (i := 105) rfl)
    replace h8 := h8.mv (htr196.mv (i := 106) rfl)
    replace hb := hb.trans htr196
    refine ke_cond (t := false) rfl (fun h => by cases h) (fun _ => ?_)
    refine ke_seq ?_
    refine ke_region ?_
    refine sr_ev (v := .func (.func 48) #[] #[]) (ev_move rfl) (by decide) ?_
    refine sr_ev (v := .pointer (some ⟨gl_0, 0, none⟩)) (ev_move rfl) (by decide) ?_
    refine sr_ev (v := .pointer (some ⟨g17, 0, none⟩)) (ev_fieldAddr (i := 0) Tryz.underlying74 rfl Tryz.info9 rfl rfl) (by decide) ?_
    refine sr_ev (v := str y10.1.user) (ev_load Tryz.isAgg9 rfl (hB21.cell rfl)) (by decide) ?_
    refine sr_ev (v := str text_2) (ev_move rfl) (by decide) ?_
    refine sr_ev (v := .int .i64 now_3) (ev_move rfl) (by decide) ?_
    obtain ⟨y197, hy198, hS⟩ := bind_some' hS
    refine sr_call (vs := [.pointer (some ⟨gl_0, 0, none⟩), str y10.1.user, str text_2, .int .i64 now_3]) rfl Tryz.call48 rfl (login_Logins_byCode_ok _ (hg.fr hz hb) (ρA := ρ18) hb.bd (hz.fr hg hb) (o := 100) (by decide) (⟨_, _, _, _, hB9, hP2, h4, h6, h8⟩ : login_Logins.O (fun p => 100 + p) ρ18 w32 gl_0 l_0) hy198) (by decide) ?_
    rintro _ w199 ⟨ρ211, rfl, ⟨v202, v204, v206, v208, hB210, hP203, h205, h207, h209⟩, htr201⟩
    replace hB21 := hB21.mv (htr201.mv (i := 15) rfl)
    replace h16 := h16.mv htr201.rd
    replace hb := hb.trans htr201
    replace hB210 : Blk ρ211 100 w199 gl_0 (.cells #[v202, v204, v206, v208] 69 (0, 0)) := hB210
    replace hP203 : PtrO secret_Locks.O (fun q => 100 + (1 + q)) ρ211 w199 v202 y197.2.locks := hP203
    replace h205 : MapT str login_credentials.c true ρ211 104 w199 v204 y197.2.users := h205
    replace h207 : MapT str (intC .i64) false ρ211 105 w199 v206 y197.2.counters := h207
    replace h209 : MapT str login_attempt.c true ρ211 106 w199 v208 y197.2.attempts := h209
    refine sr_ev (v := .bool (!y197.1)) (ev_not rfl) (by decide) ?_
    refine sr_ev (v := .bool (!y197.1)) (ev_assign rfl) (by decide) ?_
    refine sr_end (l' := [(0, .pointer (some ⟨gl_0, 0, none⟩)), (1, str id_1), (3, .int .i64 now_3), (4, .int .i64 f_4), (13, .pointer (some ⟨g17, 0, none⟩)), (39, .bool (!y197.1))]) (.cons rfl (.cons rfl (.cons rfl (.cons rfl (.cons rfl (.cons rfl (.nil _))))))) ?_
    refine ke_cond (t := !y197.1) rfl (fun hc212 => ?_) (fun hc212 => ?_)
    ·replace hS := ite_true' hS hc212
     refine ke_seq ?_
     refine ke_region_j (ρ := ρ211) (fun t => ([101, 102, 103] : List Nat).contains t) 8 Tryz.mixed (fun w214 hw213 => ?_)
     have htr215 := Tr.of_below hw213 hb.bd
     replace hB21 := hB21.mv (htr215.mv (i := 15) rfl)
     replace h16 := h16.mv htr215.rd
     replace hB210 := hB210.mv (htr215.mv (i := 100) rfl)
     replace hP203 := PtrO.mv hP203 secret_Locks.objK (fun p hp => htr215.mv (i := 100 + (1 + p)) (by rcases p with _ | _ | _ | p <;> first | rfl | omega)) (fun p hp => by show 100 + (1 + p) ≠ 0; omega)
     replace h205 := h205.mv (htr215.mv (i := 104) rfl)
     replace h207 := h207.mv (htr215.mv (i := 105) rfl)
     replace h209 := h209.mv (htr215.mv (i := 106) rfl)
     replace hb := hb.trans htr215
     refine dj_h 0 (.pointer (some ⟨gl_0, 0, none⟩)) hb.bd rfl (fun w1 ρ1 hw1 => ev_move rfl) ?_
     refine dj_h 1 (.pointer (some ⟨gl_0, 0, none⟩)) hb.bd rfl (fun w1 ρ1 hw1 => ev_nilCheck rfl) ?_
     refine dj_h 2 (.pointer (some ⟨gl_0, 0, none⟩)) hb.bd rfl (fun w1 ρ1 hw1 => ev_fieldAddr (i := 0) Tryz.underlying69 rfl Tryz.info64 rfl rfl) ?_
     refine dj_h 3 v202 hb.bd rfl (fun w1 ρ1 hw1 => ev_load Tryz.isAgg64 rfl ((hB210.mv (hw1.mv (i := 100) rfl)).cell rfl)) ?_
     refine dj_h 4 (.pointer (some ⟨g17, 0, none⟩)) hb.bd rfl (fun w1 ρ1 hw1 => ev_fieldAddr (i := 0) Tryz.underlying74 rfl Tryz.info9 rfl rfl) ?_
     refine dj_h 5 (str y10.1.user) hb.bd rfl (fun w1 ρ1 hw1 => ev_load Tryz.isAgg9 rfl ((hB21.mv (hw1.mv (i := 15) rfl)).cell rfl)) ?_
     refine dj_h 6 (.int .i64 now_3) hb.bd rfl (fun w1 ρ1 hw1 => ev_move rfl) ?_
     refine dj_E 7 (by kernel_rfl) rfl ?_
     have jt267 : Tr ρ211 w214 (fun t => ([101, 102, 103] : List Nat).contains t) ρ211 w214 := (Tr.refl hb.bd).weak (fun _ _ => rfl) rfl rfl
     rcases ho269 : y197.2.locks with _ | z268
     ·replace hS := optC_none hS ho269
      obtain rfl := hP203.none_ ho269
      obtain ⟨y287, hy288, hS⟩ := bind_some' hS
      refine sr_call (vs := [.pointer none, str y10.1.user, .int .i64 now_3]) rfl Tryz.call90 rfl (secret_Locks_Fail__nil_ok _ (hg.fr hz hb) (ρA := ρ211) hb.bd (hz.fr hg hb) hy288) (by decide) ?_
      rintro _ w289 ⟨rfl, hbw290⟩
      have htr291 := Tr.of_below hbw290 hb.bd
      replace hB210 := hB210.mv (htr291.mv (i := 100) rfl)
      replace h205 := h205.mv (htr291.mv (i := 104) rfl)
      replace h207 := h207.mv (htr291.mv (i := 105) rfl)
      replace h209 := h209.mv (htr291.mv (i := 106) rfl)
      replace hb := hb.trans htr291
      replace jt267 := (jt267.trans htr291).weak (J' := (fun t => ([101, 102, 103] : List Nat).contains t)) (by intro t h; simp [rng] at h ⊢ <;> omega) rfl rfl
      refine dj_next (l' := []) rfl (.nil _) jt267 (by intro t h; simp [rng] at h ⊢ <;> omega) rfl rfl ?_
      refine dj_done rfl (by kernel_rfl) ?_
      refine ke_weaken (l' := []) (.nil _) ?_
      refine ke_seq ?_
      refine ke_region ?_
      refine sr_ev (v := .int .i64 11) (ev_assign rfl) (by decide) ?_
      refine sr_end (l' := [(12, .int .i64 11)]) (.cons rfl (.nil _)) ?_
      cases hS
      exact ke_ret1 Tryz.func47 rfl rfl ⟨_, rfl, leave ρA w0 o 7 ρ211, rfl, ⟨_, _, _, _, (hB210.mv (leave_mv (p := 0) (by decide) hb)), PtrO.nil, (h205.mv (leave_mv (p := 4) (by decide) hb)), (h207.mv (leave_mv (p := 5) (by decide) hb)), (h209.mv (leave_mv (p := 6) (by decide) hb))⟩, (leave_tr ho2 hb)⟩
     ·replace hS := optC_some hS ho269
      obtain ⟨g270, rfl, ⟨v271, lp273, hB275, h272, hR274⟩⟩ := hP203.some_ ho269
      replace hB275 : Blk ρ211 101 w214 g270 (.cells #[.int .i64 z268.most, .int .i64 z268.window, .int .i64 z268.lock, v271] 134 (0, 0)) := hB275
      replace h272 : MapT str ptrC false ρ211 102 w214 v271 lp273 := h272
      replace hR274 : Recs secret_record.O 2 ρ211 103 w214 lp273 z268.users := hR274
      obtain ⟨y276, hy277, hS⟩ := bind_some' hS
      refine sr_call (vs := [.pointer (some ⟨g270, 0, none⟩), str y10.1.user, .int .i64 now_3]) rfl Tryz.call90 rfl (secret_Locks_Fail_ok _ (hg.fr hz hb) (ρA := ρ211) hb.bd (hz.fr hg hb) (o := 101) (by decide) (⟨_, _, hB275, h272, hR274⟩ : secret_Locks.O (fun p => 101 + p) ρ211 w214 g270 z268) hy277) (by decide) ?_
      rintro _ w278 ⟨ρ286, rfl, ⟨v281, lp283, hB285, h282, hR284⟩, htr280⟩
      replace hB210 := hB210.mv (htr280.mv (i := 100) rfl)
      replace h205 := h205.mv (htr280.mv (i := 104) rfl)
      replace h207 := h207.mv (htr280.mv (i := 105) rfl)
      replace h209 := h209.mv (htr280.mv (i := 106) rfl)
      replace hb := hb.trans htr280
      replace jt267 := (jt267.trans htr280).weak (J' := (fun t => ([101, 102, 103] : List Nat).contains t)) (by intro t h; simp [rng] at h ⊢ <;> omega) rfl rfl
      replace hB285 : Blk ρ286 101 w278 g270 (.cells #[.int .i64 y276.most, .int .i64 y276.window, .int .i64 y276.lock, v281] 134 (0, 0)) := hB285
      replace h282 : MapT str ptrC false ρ286 102 w278 v281 lp283 := h282
      replace hR284 : Recs secret_record.O 2 ρ286 103 w278 lp283 y276.users := hR284
      refine dj_next (l' := []) rfl (.nil _) jt267 (by intro t h; simp [rng] at h ⊢ <;> omega) rfl rfl ?_
      refine dj_done rfl (by kernel_rfl) ?_
      refine ke_weaken (l' := []) (.nil _) ?_
      refine ke_seq ?_
      refine ke_region ?_
      refine sr_ev (v := .int .i64 11) (ev_assign rfl) (by decide) ?_
      refine sr_end (l' := [(12, .int .i64 11)]) (.cons rfl (.nil _)) ?_
      cases hS
      exact ke_ret1 Tryz.func47 rfl rfl ⟨_, rfl, leave ρA w0 o 7 ρ286, rfl, ⟨_, _, _, _, (hB210.mv (leave_mv (p := 0) (by decide) hb)), (PtrO.mk ⟨_, _, (hB285.mv (leave_mv (p := 1) (by decide) hb)), (h282.mv (leave_mv (p := 2) (by decide) hb)), (Recs.mv hR284 secret_record.objK (leave_mv (p := 3) (by decide) hb) (Nat.ne_of_gt (Nat.lt_of_lt_of_le (Nat.lt_of_lt_of_le Nat.zero_lt_two ho2) (Nat.le_add_right _ _))))⟩), (h205.mv (leave_mv (p := 4) (by decide) hb)), (h207.mv (leave_mv (p := 5) (by decide) hb)), (h209.mv (leave_mv (p := 6) (by decide) hb))⟩, (leave_tr ho2 hb)⟩
    ·replace hS := ite_false' hS hc212
     refine ke_skip ?_
     refine ke_inBlock ?_
     refine ke_seq ?_
     refine ke_region ?_
     refine sr_ev (v := .pointer (some ⟨g17, 2, none⟩)) (ev_fieldAddr (i := 2) Tryz.underlying74 rfl Tryz.info36 rfl rfl) (by decide) ?_
     refine sr_ev (v := v15) (ev_load Tryz.isAgg36 rfl (hB21.cell rfl)) (by decide) ?_
     obtain ⟨y292, hy293, hS⟩ := bind_some' hS
     refine sr_call (vs := [v15]) rfl Tryz.call50 rfl (slices_Clone_api_Proof_api_Proof_ok _ (hg.fr hz hb) (ρA := ρ211) hb.bd (hz.fr hg hb) (o := 60) (by decide) h16 hy293) (by decide) ?_
     rintro v297 w294 ⟨ρ299, _, rfl, h298, htr296⟩
     replace hB21 := hB21.mv (htr296.mv (i := 15) rfl)
     replace h16 := h16.mv htr296.rd
     replace hB210 := hB210.mv (htr296.mv (i := 100) rfl)
     replace hP203 := PtrO.mv hP203 secret_Locks.objK (fun p hp => htr296.mv (i := 100 + (1 + p)) (by rcases p with _ | _ | _ | p <;> first | rfl | omega)) (fun p hp => by show 100 + (1 + p) ≠ 0; omega)
     replace h205 := h205.mv (htr296.mv (i := 104) rfl)
     replace h207 := h207.mv (htr296.mv (i := 105) rfl)
     replace h209 := h209.mv (htr296.mv (i := 106) rfl)
     replace hb := hb.trans htr296
     refine sr_ev (v := .int .i64 f_4) (ev_move rfl) (by decide) ?_
     refine sr_ev (v := .int .i64 now_3) (ev_move rfl) (by decide) ?_
     obtain ⟨y300, hy301, hS⟩ := bind_some' hS
     refine sr_call (vs := [.int .i64 now_3, .int .i64 0]) rfl Tryz.call39 rfl (clock_Add_ok _ (hg.fr hz hb) hy301) (by decide) ?_
     rintro _ w302 ⟨rfl, hbw303⟩
     have htr304 := Tr.of_below hbw303 hb.bd
     replace h298 := h298.mv (htr304.mv (i := 60) rfl) (by decide)
     replace hB21 := hB21.mv (htr304.mv (i := 15) rfl)
     replace h16 := h16.mv htr304.rd
     replace hB210 := hB210.mv (htr304.mv (i := 100) rfl)
     replace hP203 := PtrO.mv hP203 secret_Locks.objK (fun p hp => htr304.mv (i := 100 + (1 + p)) (by rcases p with _ | _ | _ | p <;> first | rfl | omega)) (fun p hp => by show 100 + (1 + p) ≠ 0; omega)
     replace h205 := h205.mv (htr304.mv (i := 104) rfl)
     replace h207 := h207.mv (htr304.mv (i := 105) rfl)
     replace h209 := h209.mv (htr304.mv (i := 106) rfl)
     replace hb := hb.trans htr304
     refine sr_ev (v := .agg #[.int .i64 f_4, .int .i64 y300]) (ev_build (vs := #[(0, .int .i64 f_4), (1, .int .i64 y300)]) rfl (fun _ => by kernel_rfl)) (by decide) ?_
     refine sr_litT (c := api_Proof.c) (ρ := ρ299) (E := 42) (xs := [(api_Proof.mk f_4 y300)]) (vs := #[(0, .agg #[.int .i64 f_4, .int .i64 y300])]) (cs := #[.int .i64 f_4, .int .i64 y300]) (css := [[.int .i64 f_4, .int .i64 y300]]) rfl (fun _ => by kernel_rfl) rfl ⟨rfl, trivial⟩ rfl (by decide) hb.bd (by decide) ?_
     intro v305 w307 h306 hbw309
     have htr308 := Tr.of_below hbw309 hb.bd
     replace h298 := h298.mv (htr308.mv (i := 60) rfl) (by decide)
     replace hB21 := hB21.mv (htr308.mv (i := 15) rfl)
     replace h16 := h16.mv htr308.rd
     replace hB210 := hB210.mv (htr308.mv (i := 100) rfl)
     replace hP203 := PtrO.mv hP203 secret_Locks.objK (fun p hp => htr308.mv (i := 100 + (1 + p)) (by rcases p with _ | _ | _ | p <;> first | rfl | omega)) (fun p hp => by show 100 + (1 + p) ≠ 0; omega)
     replace h205 := h205.mv (htr308.mv (i := 104) rfl)
     replace h207 := h207.mv (htr308.mv (i := 105) rfl)
     replace h209 := h209.mv (htr308.mv (i := 106) rfl)
     replace hb := hb.trans htr308
     obtain ⟨hk310, hS⟩ := chk_some hS
     refine sr_appendT (i := 60) (c := api_Proof.c) (ρ := ρ299) (E := 42) (xs := y292) (ys := ([(api_Proof.mk f_4 y300)] : List api_Proof)) h298 ((SlT.of_sl (i := 0) h306)).x Tryz.underlying36 Tryz.info42 rfl rfl rfl (by decide) (by decide) (by decide) hb.bd hk310 rfl rfl (by decide) ?_
     intro v311 ρ313 w314 h312 htr315
     replace hB21 := hB21.mv (htr315.mv (i := 15) rfl)
     replace h16 := h16.mv htr315.rd
     replace hB210 := hB210.mv (htr315.mv (i := 100) rfl)
     replace hP203 := PtrO.mv hP203 secret_Locks.objK (fun p hp => htr315.mv (i := 100 + (1 + p)) (by rcases p with _ | _ | _ | p <;> first | rfl | omega)) (fun p hp => by show 100 + (1 + p) ≠ 0; omega)
     replace h205 := h205.mv (htr315.mv (i := 104) rfl)
     replace h207 := h207.mv (htr315.mv (i := 105) rfl)
     replace h209 := h209.mv (htr315.mv (i := 106) rfl)
     replace hb := hb.trans htr315
     refine sr_ev (v := .pointer (some ⟨g17, 2, none⟩)) (ev_fieldAddr (i := 2) Tryz.underlying74 rfl Tryz.info36 rfl rfl) (by decide) ?_
     refine sr_storeT (v := v311) (vs := [v311]) (cs' := #[str y10.1.user, .int .i64 y10.1.begun, v311]) hB21 (by decide) hb.bd rfl rfl (one_cells (OwnT.oneCell h312)) Tryz.sizeOf36 rfl (by first | rfl | (simp only [List.all_cons, List.all_nil, OwnT.oneCell h312]; done) | (simp only [List.all_cons, List.all_nil, OwnT.oneCell h312]; rfl)) rfl ?_
     intro w316 hB211 htr317
     replace h312 := h312.mv (htr317.mv (i := 60) rfl) (by decide)
     replace hB210 := hB210.mv (htr317.mv (i := 100) rfl)
     replace hP203 := PtrO.mv hP203 secret_Locks.objK (fun p hp => htr317.mv (i := 100 + (1 + p)) (by rcases p with _ | _ | _ | p <;> first | rfl | omega)) (fun p hp => by show 100 + (1 + p) ≠ 0; omega)
     replace h205 := h205.mv (htr317.mv (i := 104) rfl)
     replace h207 := h207.mv (htr317.mv (i := 105) rfl)
     replace h209 := h209.mv (htr317.mv (i := 106) rfl)
     replace hb := hb.trans htr317
     replace hB21 : Blk ρ313 15 w316 g17 (.cells #[str y10.1.user, .int .i64 y10.1.begun, v311] 74 (0, 0)) := hB211
     clear hB211
     refine sr_end (l' := [(0, .pointer (some ⟨gl_0, 0, none⟩)), (1, str id_1), (13, .pointer (some ⟨g17, 0, none⟩))]) (.cons rfl (.cons rfl (.cons rfl (.nil _)))) ?_
     refine ke_seq ?_
     refine ke_region_j (ρ := ρ313) (fun t => ([60, 106] : List Nat).contains t) 7 Tryz.mixed (fun w319 hw318 => ?_)
     have htr320 := Tr.of_below hw318 hb.bd
     replace hB21 := hB21.mv (htr320.mv (i := 15) rfl)
     replace h312 := h312.mv (htr320.mv (i := 60) rfl) (by decide)
     replace hB210 := hB210.mv (htr320.mv (i := 100) rfl)
     replace hP203 := PtrO.mv hP203 secret_Locks.objK (fun p hp => htr320.mv (i := 100 + (1 + p)) (by rcases p with _ | _ | _ | p <;> first | rfl | omega)) (fun p hp => by show 100 + (1 + p) ≠ 0; omega)
     replace h205 := h205.mv (htr320.mv (i := 104) rfl)
     replace h207 := h207.mv (htr320.mv (i := 105) rfl)
     replace h209 := h209.mv (htr320.mv (i := 106) rfl)
     replace hb := hb.trans htr320
     refine dj_h 0 (.pointer (some ⟨gl_0, 0, none⟩)) hb.bd rfl (fun w1 ρ1 hw1 => ev_move rfl) ?_
     refine dj_h 1 (.pointer (some ⟨gl_0, 0, none⟩)) hb.bd rfl (fun w1 ρ1 hw1 => ev_nilCheck rfl) ?_
     refine dj_h 2 (.pointer (some ⟨gl_0, 3, none⟩)) hb.bd rfl (fun w1 ρ1 hw1 => ev_fieldAddr (i := 3) Tryz.underlying69 rfl Tryz.info67 rfl rfl) ?_
     refine dj_h 3 v208 hb.bd rfl (fun w1 ρ1 hw1 => ev_load Tryz.isAgg67 rfl ((hB210.mv (hw1.mv (i := 100) rfl)).cell rfl)) ?_
     refine dj_h 4 (str id_1) hb.bd rfl (fun w1 ρ1 hw1 => ev_move rfl) ?_
     refine dj_h 5 (.agg #[str y10.1.user, .int .i64 y10.1.begun, v311]) hb.bd rfl (fun w1 ρ1 hw1 => ev_loads (cs := [str y10.1.user, .int .i64 y10.1.begun, v311]) Tryz.isAgg74 Tryz.sizeOf74 rfl ((hB21.mv (hw1.mv (i := 15) rfl)).cells (vs := [str y10.1.user, .int .i64 y10.1.begun, v311]) rfl)) ?_
     refine dj_E 6 (by kernel_rfl) rfl ?_
     have jt334 : Tr ρ313 w319 (fun t => ([60, 106] : List Nat).contains t) ρ313 w319 := (Tr.refl hb.bd).weak (fun _ _ => rfl) rfl rfl
     have htr335 := frz_tr (ρ := ρ313) (w := w319) (i := 60) (by decide) hb.bd
     have h336 : SlR api_Proof.c (Wb (frz ρ313 60)) w319 v311 (y292 ++ ([(api_Proof.mk f_4 y300)] : List api_Proof)) := (SlT.mv h312.sl (frz_mv (ρ := ρ313) (w := w319) (i := 60))).sl
     replace h209 := h209.mv (htr335.mv (i := 106) rfl)
     replace hB210 := hB210.mv (htr335.mv (i := 100) rfl)
     replace hP203 := PtrO.mv hP203 secret_Locks.objK (fun p hp => htr335.mv (i := 100 + (1 + p)) (by rcases p with _ | _ | _ | p <;> first | rfl | omega)) (fun p hp => by show 100 + (1 + p) ≠ 0; omega)
     replace h205 := h205.mv (htr335.mv (i := 104) rfl)
     replace h207 := h207.mv (htr335.mv (i := 105) rfl)
     replace hb := hb.trans htr335
     replace jt334 := (jt334.trans htr335).weak (J' := (fun t => ([60, 106] : List Nat).contains t)) (by intro t h; simp [rng] at h ⊢ <;> omega) rfl rfl
     obtain ⟨hk337, hS⟩ := chk_some hS
     refine sr_mapPut (k := id_1) (d := (login_attempt.mk y10.1.user y10.1.begun (y292 ++ ([(api_Proof.mk f_4 y300)] : List api_Proof)))) (u := .agg #[str y10.1.user, .int .i64 y10.1.begun, v311]) (cs := [str y10.1.user, .int .i64 y10.1.begun, v311]) h209 hk337 Tryz.keyB9 Tryz.underlying67 (by decide) hb.bd rfl ⟨_, rfl, h336⟩ rfl rfl rfl ?_
     intro w338 h2091 htr339
     replace hB210 := hB210.mv (htr339.mv (i := 100) rfl)
     replace hP203 := PtrO.mv hP203 secret_Locks.objK (fun p hp => htr339.mv (i := 100 + (1 + p)) (by rcases p with _ | _ | _ | p <;> first | rfl | omega)) (fun p hp => by show 100 + (1 + p) ≠ 0; omega)
     replace h205 := h205.mv (htr339.mv (i := 104) rfl)
     replace h207 := h207.mv (htr339.mv (i := 105) rfl)
     replace hb := hb.trans htr339
     replace jt334 := (jt334.trans htr339).weak (J' := (fun t => ([60, 106] : List Nat).contains t)) (by intro t h; simp [rng] at h ⊢ <;> omega) rfl rfl
     replace h209 := h2091
     clear h2091
     refine dj_next (l' := []) rfl (.nil _) jt334 (by intro t h; simp [rng] at h ⊢ <;> omega) rfl rfl ?_
     refine dj_done rfl (by kernel_rfl) ?_
     refine ke_weaken (l' := []) (.nil _) ?_
     refine ke_seq ?_
     refine ke_region ?_
     refine sr_ev (v := .int .i64 0) (ev_assign rfl) (by decide) ?_
     refine sr_end (l' := [(12, .int .i64 0)]) (.cons rfl (.nil _)) ?_
     cases hS
     exact ke_ret1 Tryz.func47 rfl rfl ⟨_, rfl, leave ρA w0 o 7 (frz ρ313 60), rfl, ⟨_, _, _, _, (hB210.mv (leave_mv (p := 0) (by decide) hb)), (PtrO.mv hP203 secret_Locks.objK (fun p hp => leave_mv (p := 1 + p) (by omega) hb) (fun p hp => by show o + (1 + p) ≠ 0; omega)), (h205.mv (leave_mv (p := 4) (by decide) hb)), (h207.mv (leave_mv (p := 5) (by decide) hb)), (h209.mv (leave_mv (p := 6) (by decide) hb))⟩, (leave_tr ho2 hb)⟩
   ·replace hS := optC_some hS ho34
    obtain ⟨g35, rfl, ⟨v36, lp38, hB40, h37, hR39⟩⟩ := hP2.some_ ho34
    replace hB40 : Blk ρ18 101 w27 g35 (.cells #[.int .i64 z33.most, .int .i64 z33.window, .int .i64 z33.lock, v36] 134 (0, 0)) := hB40
    replace h37 : MapT str ptrC false ρ18 102 w27 v36 lp38 := h37
    replace hR39 : Recs secret_record.O 2 ρ18 103 w27 lp38 z33.users := hR39
    obtain ⟨y41, hy42, hS⟩ := bind_some' hS
    refine sq_call (v := .bool y41) (vs := [.pointer (some ⟨g35, 0, none⟩), str y10.1.user, .int .i64 now_3]) rfl Tryz.call57 rfl (fun w1 hw1 => (secret_Locks_Locked_ok _ ((hg.fr hz hb).below hw1) (ρA := ρ18) (fun b h => Nat.lt_of_lt_of_le (hb.bd b h) hw1.size) (hz.fr hg hb) (τ0 := (fun p => 101 + p)) (fun p => Nat.le_add_right_of_le (by decide)) (⟨_, _, (hB40.mv (Mv.of_below (i := 101) (ρ := ρ18) hw1)), (h37.mv (Mv.of_below (i := 102) (ρ := ρ18) hw1)), (Recs.mv hR39 secret_record.objK (Mv.of_below (i := 103) (ρ := ρ18) hw1) (by decide))⟩ : secret_Locks.O (fun p => 101 + p) ρ18 w1 g35 z33) hy42)) (by decide) ?_
    refine sq_ev (v := .bool y41) (fun w1 hw1 => ev_assign rfl) (by decide) ?_
    refine sq_end (l' := [(0, .pointer (some ⟨gl_0, 0, none⟩)), (1, str id_1), (2, str text_2), (3, .int .i64 now_3), (4, .int .i64 f_4), (5, .func (.func 48) #[] #[]), (13, .pointer (some ⟨g17, 0, none⟩)), (30, .bool y41)]) (.cons rfl (.cons rfl (.cons rfl (.cons rfl (.cons rfl (.cons rfl (.cons rfl (.cons rfl (.nil _))))))))) (fun w32 hw31 => ?_)
    have htr46 := Tr.of_below hw31 hb.bd
    replace hB21 := hB21.mv (htr46.mv (i := 15) rfl)
    replace h16 := h16.mv htr46.rd
    replace hB9 := hB9.mv (htr46.mv (i := 100) rfl)
    replace hP2 := PtrO.mv hP2 secret_Locks.objK (fun p hp => htr46.mv (i := 100 + (1 + p)) (by rcases p with _ | _ | _ | p <;> first | rfl | omega)) (fun p hp => by show 100 + (1 + p) ≠ 0; omega)
    replace h4 := h4.mv (htr46.mv (i := 104) rfl)
    replace h6 := h6.mv (htr46.mv (i := 105) rfl)
    replace h8 := h8.mv (htr46.mv (i := 106) rfl)
    replace hb := hb.trans htr46
    refine ke_cond (t := y41) rfl (fun hc47 => ?_) (fun hc47 => ?_)
    ·replace hS := ite_true' hS hc47
     refine ke_seq ?_
     refine ke_region ?_
     refine sr_ev (v := .int .i64 22) (ev_assign rfl) (by decide) ?_
     refine sr_end (l' := [(12, .int .i64 22)]) (.cons rfl (.nil _)) ?_
     cases hS
     exact ke_ret1 Tryz.func47 rfl rfl ⟨_, rfl, leave ρA w0 o 7 ρ18, rfl, ⟨_, _, _, _, (hB9.mv (leave_mv (p := 0) (by decide) hb)), (PtrO.mv hP2 secret_Locks.objK (fun p hp => leave_mv (p := 1 + p) (by omega) hb) (fun p hp => by show o + (1 + p) ≠ 0; omega)), (h4.mv (leave_mv (p := 4) (by decide) hb)), (h6.mv (leave_mv (p := 5) (by decide) hb)), (h8.mv (leave_mv (p := 6) (by decide) hb))⟩, (leave_tr ho2 hb)⟩
    ·replace hS := ite_false' hS hc47
     refine ke_seq ?_
     refine ke_region ?_
     refine sr_ev (v := .func (.func 48) #[] #[]) (ev_move rfl) (by decide) ?_
     refine sr_ev (v := .pointer (some ⟨gl_0, 0, none⟩)) (ev_move rfl) (by decide) ?_
     refine sr_ev (v := .pointer (some ⟨g17, 0, none⟩)) (ev_fieldAddr (i := 0) Tryz.underlying74 rfl Tryz.info9 rfl rfl) (by decide) ?_
     refine sr_ev (v := str y10.1.user) (ev_load Tryz.isAgg9 rfl (hB21.cell rfl)) (by decide) ?_
     refine sr_ev (v := str text_2) (ev_move rfl) (by decide) ?_
     refine sr_ev (v := .int .i64 now_3) (ev_move rfl) (by decide) ?_
     obtain ⟨y48, hy49, hS⟩ := bind_some' hS
     refine sr_call (vs := [.pointer (some ⟨gl_0, 0, none⟩), str y10.1.user, str text_2, .int .i64 now_3]) rfl Tryz.call48 rfl (login_Logins_byCode_ok _ (hg.fr hz hb) (ρA := ρ18) hb.bd (hz.fr hg hb) (o := 100) (by decide) (⟨_, _, _, _, hB9, hP2, h4, h6, h8⟩ : login_Logins.O (fun p => 100 + p) ρ18 w32 gl_0 l_0) hy49) (by decide) ?_
     rintro _ w50 ⟨ρ62, rfl, ⟨v53, v55, v57, v59, hB61, hP54, h56, h58, h60⟩, htr52⟩
     replace hB21 := hB21.mv (htr52.mv (i := 15) rfl)
     replace h16 := h16.mv htr52.rd
     replace hb := hb.trans htr52
     replace hB61 : Blk ρ62 100 w50 gl_0 (.cells #[v53, v55, v57, v59] 69 (0, 0)) := hB61
     replace hP54 : PtrO secret_Locks.O (fun q => 100 + (1 + q)) ρ62 w50 v53 y48.2.locks := hP54
     replace h56 : MapT str login_credentials.c true ρ62 104 w50 v55 y48.2.users := h56
     replace h58 : MapT str (intC .i64) false ρ62 105 w50 v57 y48.2.counters := h58
     replace h60 : MapT str login_attempt.c true ρ62 106 w50 v59 y48.2.attempts := h60
     refine sr_ev (v := .bool (!y48.1)) (ev_not rfl) (by decide) ?_
     refine sr_ev (v := .bool (!y48.1)) (ev_assign rfl) (by decide) ?_
     refine sr_end (l' := [(0, .pointer (some ⟨gl_0, 0, none⟩)), (1, str id_1), (3, .int .i64 now_3), (4, .int .i64 f_4), (13, .pointer (some ⟨g17, 0, none⟩)), (39, .bool (!y48.1))]) (.cons rfl (.cons rfl (.cons rfl (.cons rfl (.cons rfl (.cons rfl (.nil _))))))) ?_
     refine ke_cond (t := !y48.1) rfl (fun hc63 => ?_) (fun hc63 => ?_)
     ·replace hS := ite_true' hS hc63
      refine ke_seq ?_
      refine ke_region_j (ρ := ρ62) (fun t => ([101, 102, 103] : List Nat).contains t) 8 Tryz.mixed (fun w65 hw64 => ?_)
      have htr66 := Tr.of_below hw64 hb.bd
      replace hB21 := hB21.mv (htr66.mv (i := 15) rfl)
      replace h16 := h16.mv htr66.rd
      replace hB61 := hB61.mv (htr66.mv (i := 100) rfl)
      replace hP54 := PtrO.mv hP54 secret_Locks.objK (fun p hp => htr66.mv (i := 100 + (1 + p)) (by rcases p with _ | _ | _ | p <;> first | rfl | omega)) (fun p hp => by show 100 + (1 + p) ≠ 0; omega)
      replace h56 := h56.mv (htr66.mv (i := 104) rfl)
      replace h58 := h58.mv (htr66.mv (i := 105) rfl)
      replace h60 := h60.mv (htr66.mv (i := 106) rfl)
      replace hb := hb.trans htr66
      refine dj_h 0 (.pointer (some ⟨gl_0, 0, none⟩)) hb.bd rfl (fun w1 ρ1 hw1 => ev_move rfl) ?_
      refine dj_h 1 (.pointer (some ⟨gl_0, 0, none⟩)) hb.bd rfl (fun w1 ρ1 hw1 => ev_nilCheck rfl) ?_
      refine dj_h 2 (.pointer (some ⟨gl_0, 0, none⟩)) hb.bd rfl (fun w1 ρ1 hw1 => ev_fieldAddr (i := 0) Tryz.underlying69 rfl Tryz.info64 rfl rfl) ?_
      refine dj_h 3 v53 hb.bd rfl (fun w1 ρ1 hw1 => ev_load Tryz.isAgg64 rfl ((hB61.mv (hw1.mv (i := 100) rfl)).cell rfl)) ?_
      refine dj_h 4 (.pointer (some ⟨g17, 0, none⟩)) hb.bd rfl (fun w1 ρ1 hw1 => ev_fieldAddr (i := 0) Tryz.underlying74 rfl Tryz.info9 rfl rfl) ?_
      refine dj_h 5 (str y10.1.user) hb.bd rfl (fun w1 ρ1 hw1 => ev_load Tryz.isAgg9 rfl ((hB21.mv (hw1.mv (i := 15) rfl)).cell rfl)) ?_
      refine dj_h 6 (.int .i64 now_3) hb.bd rfl (fun w1 ρ1 hw1 => ev_move rfl) ?_
      refine dj_E 7 (by kernel_rfl) rfl ?_
      have jt118 : Tr ρ62 w65 (fun t => ([101, 102, 103] : List Nat).contains t) ρ62 w65 := (Tr.refl hb.bd).weak (fun _ _ => rfl) rfl rfl
      rcases ho120 : y48.2.locks with _ | z119
      ·replace hS := optC_none hS ho120
       obtain rfl := hP54.none_ ho120
       obtain ⟨y138, hy139, hS⟩ := bind_some' hS
       refine sr_call (vs := [.pointer none, str y10.1.user, .int .i64 now_3]) rfl Tryz.call90 rfl (secret_Locks_Fail__nil_ok _ (hg.fr hz hb) (ρA := ρ62) hb.bd (hz.fr hg hb) hy139) (by decide) ?_
       rintro _ w140 ⟨rfl, hbw141⟩
       have htr142 := Tr.of_below hbw141 hb.bd
       replace hB61 := hB61.mv (htr142.mv (i := 100) rfl)
       replace h56 := h56.mv (htr142.mv (i := 104) rfl)
       replace h58 := h58.mv (htr142.mv (i := 105) rfl)
       replace h60 := h60.mv (htr142.mv (i := 106) rfl)
       replace hb := hb.trans htr142
       replace jt118 := (jt118.trans htr142).weak (J' := (fun t => ([101, 102, 103] : List Nat).contains t)) (by intro t h; simp [rng] at h ⊢ <;> omega) rfl rfl
       refine dj_next (l' := []) rfl (.nil _) jt118 (by intro t h; simp [rng] at h ⊢ <;> omega) rfl rfl ?_
       refine dj_done rfl (by kernel_rfl) ?_
       refine ke_weaken (l' := []) (.nil _) ?_
       refine ke_seq ?_
       refine ke_region ?_
       refine sr_ev (v := .int .i64 11) (ev_assign rfl) (by decide) ?_
       refine sr_end (l' := [(12, .int .i64 11)]) (.cons rfl (.nil _)) ?_
       cases hS
       exact ke_ret1 Tryz.func47 rfl rfl ⟨_, rfl, leave ρA w0 o 7 ρ62, rfl, ⟨_, _, _, _, (hB61.mv (leave_mv (p := 0) (by decide) hb)), PtrO.nil, (h56.mv (leave_mv (p := 4) (by decide) hb)), (h58.mv (leave_mv (p := 5) (by decide) hb)), (h60.mv (leave_mv (p := 6) (by decide) hb))⟩, (leave_tr ho2 hb)⟩
      ·replace hS := optC_some hS ho120
       obtain ⟨g121, rfl, ⟨v122, lp124, hB126, h123, hR125⟩⟩ := hP54.some_ ho120
       replace hB126 : Blk ρ62 101 w65 g121 (.cells #[.int .i64 z119.most, .int .i64 z119.window, .int .i64 z119.lock, v122] 134 (0, 0)) := hB126
       replace h123 : MapT str ptrC false ρ62 102 w65 v122 lp124 := h123
       replace hR125 : Recs secret_record.O 2 ρ62 103 w65 lp124 z119.users := hR125
       obtain ⟨y127, hy128, hS⟩ := bind_some' hS
       refine sr_call (vs := [.pointer (some ⟨g121, 0, none⟩), str y10.1.user, .int .i64 now_3]) rfl Tryz.call90 rfl (secret_Locks_Fail_ok _ (hg.fr hz hb) (ρA := ρ62) hb.bd (hz.fr hg hb) (o := 101) (by decide) (⟨_, _, hB126, h123, hR125⟩ : secret_Locks.O (fun p => 101 + p) ρ62 w65 g121 z119) hy128) (by decide) ?_
       rintro _ w129 ⟨ρ137, rfl, ⟨v132, lp134, hB136, h133, hR135⟩, htr131⟩
       replace hB61 := hB61.mv (htr131.mv (i := 100) rfl)
       replace h56 := h56.mv (htr131.mv (i := 104) rfl)
       replace h58 := h58.mv (htr131.mv (i := 105) rfl)
       replace h60 := h60.mv (htr131.mv (i := 106) rfl)
       replace hb := hb.trans htr131
       replace jt118 := (jt118.trans htr131).weak (J' := (fun t => ([101, 102, 103] : List Nat).contains t)) (by intro t h; simp [rng] at h ⊢ <;> omega) rfl rfl
       replace hB136 : Blk ρ137 101 w129 g121 (.cells #[.int .i64 y127.most, .int .i64 y127.window, .int .i64 y127.lock, v132] 134 (0, 0)) := hB136
       replace h133 : MapT str ptrC false ρ137 102 w129 v132 lp134 := h133
       replace hR135 : Recs secret_record.O 2 ρ137 103 w129 lp134 y127.users := hR135
       refine dj_next (l' := []) rfl (.nil _) jt118 (by intro t h; simp [rng] at h ⊢ <;> omega) rfl rfl ?_
       refine dj_done rfl (by kernel_rfl) ?_
       refine ke_weaken (l' := []) (.nil _) ?_
       refine ke_seq ?_
       refine ke_region ?_
       refine sr_ev (v := .int .i64 11) (ev_assign rfl) (by decide) ?_
       refine sr_end (l' := [(12, .int .i64 11)]) (.cons rfl (.nil _)) ?_
       cases hS
       exact ke_ret1 Tryz.func47 rfl rfl ⟨_, rfl, leave ρA w0 o 7 ρ137, rfl, ⟨_, _, _, _, (hB61.mv (leave_mv (p := 0) (by decide) hb)), (PtrO.mk ⟨_, _, (hB136.mv (leave_mv (p := 1) (by decide) hb)), (h133.mv (leave_mv (p := 2) (by decide) hb)), (Recs.mv hR135 secret_record.objK (leave_mv (p := 3) (by decide) hb) (Nat.ne_of_gt (Nat.lt_of_lt_of_le (Nat.lt_of_lt_of_le Nat.zero_lt_two ho2) (Nat.le_add_right _ _))))⟩), (h56.mv (leave_mv (p := 4) (by decide) hb)), (h58.mv (leave_mv (p := 5) (by decide) hb)), (h60.mv (leave_mv (p := 6) (by decide) hb))⟩, (leave_tr ho2 hb)⟩
     ·replace hS := ite_false' hS hc63
      refine ke_skip ?_
      refine ke_inBlock ?_
      refine ke_seq ?_
      refine ke_region ?_
      refine sr_ev (v := .pointer (some ⟨g17, 2, none⟩)) (ev_fieldAddr (i := 2) Tryz.underlying74 rfl Tryz.info36 rfl rfl) (by decide) ?_
      refine sr_ev (v := v15) (ev_load Tryz.isAgg36 rfl (hB21.cell rfl)) (by decide) ?_
      obtain ⟨y143, hy144, hS⟩ := bind_some' hS
      refine sr_call (vs := [v15]) rfl Tryz.call50 rfl (slices_Clone_api_Proof_api_Proof_ok _ (hg.fr hz hb) (ρA := ρ62) hb.bd (hz.fr hg hb) (o := 60) (by decide) h16 hy144) (by decide) ?_
      rintro v148 w145 ⟨ρ150, _, rfl, h149, htr147⟩
      replace hB21 := hB21.mv (htr147.mv (i := 15) rfl)
      replace h16 := h16.mv htr147.rd
      replace hB61 := hB61.mv (htr147.mv (i := 100) rfl)
      replace hP54 := PtrO.mv hP54 secret_Locks.objK (fun p hp => htr147.mv (i := 100 + (1 + p)) (by rcases p with _ | _ | _ | p <;> first | rfl | omega)) (fun p hp => by show 100 + (1 + p) ≠ 0; omega)
      replace h56 := h56.mv (htr147.mv (i := 104) rfl)
      replace h58 := h58.mv (htr147.mv (i := 105) rfl)
      replace h60 := h60.mv (htr147.mv (i := 106) rfl)
      replace hb := hb.trans htr147
      refine sr_ev (v := .int .i64 f_4) (ev_move rfl) (by decide) ?_
      refine sr_ev (v := .int .i64 now_3) (ev_move rfl) (by decide) ?_
      obtain ⟨y151, hy152, hS⟩ := bind_some' hS
      refine sr_call (vs := [.int .i64 now_3, .int .i64 0]) rfl Tryz.call39 rfl (clock_Add_ok _ (hg.fr hz hb) hy152) (by decide) ?_
      rintro _ w153 ⟨rfl, hbw154⟩
      have htr155 := Tr.of_below hbw154 hb.bd
      replace h149 := h149.mv (htr155.mv (i := 60) rfl) (by decide)
      replace hB21 := hB21.mv (htr155.mv (i := 15) rfl)
      replace h16 := h16.mv htr155.rd
      replace hB61 := hB61.mv (htr155.mv (i := 100) rfl)
      replace hP54 := PtrO.mv hP54 secret_Locks.objK (fun p hp => htr155.mv (i := 100 + (1 + p)) (by rcases p with _ | _ | _ | p <;> first | rfl | omega)) (fun p hp => by show 100 + (1 + p) ≠ 0; omega)
      replace h56 := h56.mv (htr155.mv (i := 104) rfl)
      replace h58 := h58.mv (htr155.mv (i := 105) rfl)
      replace h60 := h60.mv (htr155.mv (i := 106) rfl)
      replace hb := hb.trans htr155
      refine sr_ev (v := .agg #[.int .i64 f_4, .int .i64 y151]) (ev_build (vs := #[(0, .int .i64 f_4), (1, .int .i64 y151)]) rfl (fun _ => by kernel_rfl)) (by decide) ?_
      refine sr_litT (c := api_Proof.c) (ρ := ρ150) (E := 42) (xs := [(api_Proof.mk f_4 y151)]) (vs := #[(0, .agg #[.int .i64 f_4, .int .i64 y151])]) (cs := #[.int .i64 f_4, .int .i64 y151]) (css := [[.int .i64 f_4, .int .i64 y151]]) rfl (fun _ => by kernel_rfl) rfl ⟨rfl, trivial⟩ rfl (by decide) hb.bd (by decide) ?_
      intro v156 w158 h157 hbw160
      have htr159 := Tr.of_below hbw160 hb.bd
      replace h149 := h149.mv (htr159.mv (i := 60) rfl) (by decide)
      replace hB21 := hB21.mv (htr159.mv (i := 15) rfl)
      replace h16 := h16.mv htr159.rd
      replace hB61 := hB61.mv (htr159.mv (i := 100) rfl)
      replace hP54 := PtrO.mv hP54 secret_Locks.objK (fun p hp => htr159.mv (i := 100 + (1 + p)) (by rcases p with _ | _ | _ | p <;> first | rfl | omega)) (fun p hp => by show 100 + (1 + p) ≠ 0; omega)
      replace h56 := h56.mv (htr159.mv (i := 104) rfl)
      replace h58 := h58.mv (htr159.mv (i := 105) rfl)
      replace h60 := h60.mv (htr159.mv (i := 106) rfl)
      replace hb := hb.trans htr159
      obtain ⟨hk161, hS⟩ := chk_some hS
      refine sr_appendT (i := 60) (c := api_Proof.c) (ρ := ρ150) (E := 42) (xs := y143) (ys := ([(api_Proof.mk f_4 y151)] : List api_Proof)) h149 ((SlT.of_sl (i := 0) h157)).x Tryz.underlying36 Tryz.info42 rfl rfl rfl (by decide) (by decide) (by decide) hb.bd hk161 rfl rfl (by decide) ?_
      intro v162 ρ164 w165 h163 htr166
      replace hB21 := hB21.mv (htr166.mv (i := 15) rfl)
      replace h16 := h16.mv htr166.rd
      replace hB61 := hB61.mv (htr166.mv (i := 100) rfl)
      replace hP54 := PtrO.mv hP54 secret_Locks.objK (fun p hp => htr166.mv (i := 100 + (1 + p)) (by rcases p with _ | _ | _ | p <;> first | rfl | omega)) (fun p hp => by show 100 + (1 + p) ≠ 0; omega)
      replace h56 := h56.mv (htr166.mv (i := 104) rfl)
      replace h58 := h58.mv (htr166.mv (i := 105) rfl)
      replace h60 := h60.mv (htr166.mv (i := 106) rfl)
      replace hb := hb.trans htr166
      refine sr_ev (v := .pointer (some ⟨g17, 2, none⟩)) (ev_fieldAddr (i := 2) Tryz.underlying74 rfl Tryz.info36 rfl rfl) (by decide) ?_
      refine sr_storeT (v := v162) (vs := [v162]) (cs' := #[str y10.1.user, .int .i64 y10.1.begun, v162]) hB21 (by decide) hb.bd rfl rfl (one_cells (OwnT.oneCell h163)) Tryz.sizeOf36 rfl (by first | rfl | (simp only [List.all_cons, List.all_nil, OwnT.oneCell h163]; done) | (simp only [List.all_cons, List.all_nil, OwnT.oneCell h163]; rfl)) rfl ?_
      intro w167 hB211 htr168
      replace h163 := h163.mv (htr168.mv (i := 60) rfl) (by decide)
      replace hB61 := hB61.mv (htr168.mv (i := 100) rfl)
      replace hP54 := PtrO.mv hP54 secret_Locks.objK (fun p hp => htr168.mv (i := 100 + (1 + p)) (by rcases p with _ | _ | _ | p <;> first | rfl | omega)) (fun p hp => by show 100 + (1 + p) ≠ 0; omega)
      replace h56 := h56.mv (htr168.mv (i := 104) rfl)
      replace h58 := h58.mv (htr168.mv (i := 105) rfl)
      replace h60 := h60.mv (htr168.mv (i := 106) rfl)
      replace hb := hb.trans htr168
      replace hB21 : Blk ρ164 15 w167 g17 (.cells #[str y10.1.user, .int .i64 y10.1.begun, v162] 74 (0, 0)) := hB211
      clear hB211
      refine sr_end (l' := [(0, .pointer (some ⟨gl_0, 0, none⟩)), (1, str id_1), (13, .pointer (some ⟨g17, 0, none⟩))]) (.cons rfl (.cons rfl (.cons rfl (.nil _)))) ?_
      refine ke_seq ?_
      refine ke_region_j (ρ := ρ164) (fun t => ([60, 106] : List Nat).contains t) 7 Tryz.mixed (fun w170 hw169 => ?_)
      have htr171 := Tr.of_below hw169 hb.bd
      replace hB21 := hB21.mv (htr171.mv (i := 15) rfl)
      replace h163 := h163.mv (htr171.mv (i := 60) rfl) (by decide)
      replace hB61 := hB61.mv (htr171.mv (i := 100) rfl)
      replace hP54 := PtrO.mv hP54 secret_Locks.objK (fun p hp => htr171.mv (i := 100 + (1 + p)) (by rcases p with _ | _ | _ | p <;> first | rfl | omega)) (fun p hp => by show 100 + (1 + p) ≠ 0; omega)
      replace h56 := h56.mv (htr171.mv (i := 104) rfl)
      replace h58 := h58.mv (htr171.mv (i := 105) rfl)
      replace h60 := h60.mv (htr171.mv (i := 106) rfl)
      replace hb := hb.trans htr171
      refine dj_h 0 (.pointer (some ⟨gl_0, 0, none⟩)) hb.bd rfl (fun w1 ρ1 hw1 => ev_move rfl) ?_
      refine dj_h 1 (.pointer (some ⟨gl_0, 0, none⟩)) hb.bd rfl (fun w1 ρ1 hw1 => ev_nilCheck rfl) ?_
      refine dj_h 2 (.pointer (some ⟨gl_0, 3, none⟩)) hb.bd rfl (fun w1 ρ1 hw1 => ev_fieldAddr (i := 3) Tryz.underlying69 rfl Tryz.info67 rfl rfl) ?_
      refine dj_h 3 v59 hb.bd rfl (fun w1 ρ1 hw1 => ev_load Tryz.isAgg67 rfl ((hB61.mv (hw1.mv (i := 100) rfl)).cell rfl)) ?_
      refine dj_h 4 (str id_1) hb.bd rfl (fun w1 ρ1 hw1 => ev_move rfl) ?_
      refine dj_h 5 (.agg #[str y10.1.user, .int .i64 y10.1.begun, v162]) hb.bd rfl (fun w1 ρ1 hw1 => ev_loads (cs := [str y10.1.user, .int .i64 y10.1.begun, v162]) Tryz.isAgg74 Tryz.sizeOf74 rfl ((hB21.mv (hw1.mv (i := 15) rfl)).cells (vs := [str y10.1.user, .int .i64 y10.1.begun, v162]) rfl)) ?_
      refine dj_E 6 (by kernel_rfl) rfl ?_
      have jt185 : Tr ρ164 w170 (fun t => ([60, 106] : List Nat).contains t) ρ164 w170 := (Tr.refl hb.bd).weak (fun _ _ => rfl) rfl rfl
      have htr186 := frz_tr (ρ := ρ164) (w := w170) (i := 60) (by decide) hb.bd
      have h187 : SlR api_Proof.c (Wb (frz ρ164 60)) w170 v162 (y143 ++ ([(api_Proof.mk f_4 y151)] : List api_Proof)) := (SlT.mv h163.sl (frz_mv (ρ := ρ164) (w := w170) (i := 60))).sl
      replace h60 := h60.mv (htr186.mv (i := 106) rfl)
      replace hB61 := hB61.mv (htr186.mv (i := 100) rfl)
      replace hP54 := PtrO.mv hP54 secret_Locks.objK (fun p hp => htr186.mv (i := 100 + (1 + p)) (by rcases p with _ | _ | _ | p <;> first | rfl | omega)) (fun p hp => by show 100 + (1 + p) ≠ 0; omega)
      replace h56 := h56.mv (htr186.mv (i := 104) rfl)
      replace h58 := h58.mv (htr186.mv (i := 105) rfl)
      replace hb := hb.trans htr186
      replace jt185 := (jt185.trans htr186).weak (J' := (fun t => ([60, 106] : List Nat).contains t)) (by intro t h; simp [rng] at h ⊢ <;> omega) rfl rfl
      obtain ⟨hk188, hS⟩ := chk_some hS
      refine sr_mapPut (k := id_1) (d := (login_attempt.mk y10.1.user y10.1.begun (y143 ++ ([(api_Proof.mk f_4 y151)] : List api_Proof)))) (u := .agg #[str y10.1.user, .int .i64 y10.1.begun, v162]) (cs := [str y10.1.user, .int .i64 y10.1.begun, v162]) h60 hk188 Tryz.keyB9 Tryz.underlying67 (by decide) hb.bd rfl ⟨_, rfl, h187⟩ rfl rfl rfl ?_
      intro w189 h601 htr190
      replace hB61 := hB61.mv (htr190.mv (i := 100) rfl)
      replace hP54 := PtrO.mv hP54 secret_Locks.objK (fun p hp => htr190.mv (i := 100 + (1 + p)) (by rcases p with _ | _ | _ | p <;> first | rfl | omega)) (fun p hp => by show 100 + (1 + p) ≠ 0; omega)
      replace h56 := h56.mv (htr190.mv (i := 104) rfl)
      replace h58 := h58.mv (htr190.mv (i := 105) rfl)
      replace hb := hb.trans htr190
      replace jt185 := (jt185.trans htr190).weak (J' := (fun t => ([60, 106] : List Nat).contains t)) (by intro t h; simp [rng] at h ⊢ <;> omega) rfl rfl
      replace h60 := h601
      clear h601
      refine dj_next (l' := []) rfl (.nil _) jt185 (by intro t h; simp [rng] at h ⊢ <;> omega) rfl rfl ?_
      refine dj_done rfl (by kernel_rfl) ?_
      refine ke_weaken (l' := []) (.nil _) ?_
      refine ke_seq ?_
      refine ke_region ?_
      refine sr_ev (v := .int .i64 0) (ev_assign rfl) (by decide) ?_
      refine sr_end (l' := [(12, .int .i64 0)]) (.cons rfl (.nil _)) ?_
      cases hS
      exact ke_ret1 Tryz.func47 rfl rfl ⟨_, rfl, leave ρA w0 o 7 (frz ρ164 60), rfl, ⟨_, _, _, _, (hB61.mv (leave_mv (p := 0) (by decide) hb)), (PtrO.mv hP54 secret_Locks.objK (fun p hp => leave_mv (p := 1 + p) (by omega) hb) (fun p hp => by show o + (1 + p) ≠ 0; omega)), (h56.mv (leave_mv (p := 4) (by decide) hb)), (h58.mv (leave_mv (p := 5) (by decide) hb)), (h60.mv (leave_mv (p := 6) (by decide) hb))⟩, (leave_tr ho2 hb)⟩
theorem login_Logins_Code_ok (w0 : World) (hg : Gs w0) {ρA : Tags} (hbd : ∀ b, ρA b ≠ 0 → b < w0.heap.size) (hz : Gz ρA) {o : Nat} (ho2 : 2 ≤ o) {l_0 : login_Logins} {id_1 : Str} {code_2 : Str} {now_3 : Int} {gl_0 : Nat} {r : Int × login_Logins} (ho0 : login_Logins.O (fun p => o + p) ρA w0 gl_0 l_0) (hS : login_Logins_Code l_0 id_1 code_2 now_3 = some r) :
  Calls Tryz.prog 15 #[.pointer (some ⟨gl_0, 0, none⟩), str id_1, str code_2, .int .i64 now_3] w0 (Ret (fun v w' => ∃ ρ', v = .int .i64 r.1 ∧ login_Logins.O (fun p => o + p) ρ' w' gl_0 r.2 ∧ Tr ρA w0 (rng o 7) ρ' w')) := by
 unfold login_Logins_Code at hS
 have hb := enter_fr (ρ := ρA) (w := w0) (n := 7) ho2 hbd
 have hz := hz.enter (n := 7) ho2
 obtain ⟨v1, v3, v5, v7, hB9, hP2, h4, h6, h8⟩ := ho0
 replace hB9 := hB9.mv (enter_mv (p := 0) (n := 7) (by decide) ho2)
 replace hP2 := PtrO.mv hP2 secret_Locks.objK (fun p hp => enter_mv (p := 1 + p) (n := 7) (by omega) ho2) (fun p hp => by omega)
 replace h4 := h4.mv (enter_mv (p := 4) (n := 7) (by decide) ho2)
 replace h6 := h6.mv (enter_mv (p := 5) (n := 7) (by decide) ho2)
 replace h8 := h8.mv (enter_mv (p := 6) (n := 7) (by decide) ho2)
 replace hB9 : Blk (enter ρA o 7) 100 w0 gl_0 (.cells #[v1, v3, v5, v7] 69 (0, 0)) := hB9
 replace hP2 : PtrO secret_Locks.O (fun q => 100 + (1 + q)) (enter ρA o 7) w0 v1 l_0.locks := hP2
 replace h4 : MapT str login_credentials.c true (enter ρA o 7) 104 w0 v3 l_0.users := h4
 replace h6 : MapT str (intC .i64) false (enter ρA o 7) 105 w0 v5 l_0.counters := h6
 replace h8 : MapT str login_attempt.c true (enter ρA o 7) 106 w0 v7 l_0.attempts := h8
 refine calls_of_ke Tryz.func15 rfl (n := 14) rfl rfl (l := [(0, .pointer (some ⟨gl_0, 0, none⟩)), (1, str id_1), (2, str code_2), (3, .int .i64 now_3)]) rfl ?_
 refine ke_seq ?_
 refine ke_region ?_
 refine sr_ev (v := .int .i64 0) (ev_assign rfl) (by decide) ?_
 refine sr_end (l' := [(0, .pointer (some ⟨gl_0, 0, none⟩)), (1, str id_1), (2, str code_2), (3, .int .i64 now_3)]) (.cons rfl (.cons rfl (.cons rfl (.cons rfl (.nil _))))) ?_
 refine ke_seq ?_
 refine ke_region ?_
 refine sr_ev (v := .pointer (some ⟨gl_0, 0, none⟩)) (ev_move rfl) (by decide) ?_
 refine sr_ev (v := str id_1) (ev_move rfl) (by decide) ?_
 refine sr_ev (v := str code_2) (ev_move rfl) (by decide) ?_
 refine sr_ev (v := .int .i64 now_3) (ev_move rfl) (by decide) ?_
 obtain ⟨y10, hy11, hS⟩ := bind_some' hS
 refine sr_call (vs := [.pointer (some ⟨gl_0, 0, none⟩), str id_1, str code_2, .int .i64 now_3, .int .i64 2, .func (.func 48) #[] #[]]) rfl Tryz.call47 rfl (login_Logins_present__Logins_byCode_ok _ (hg.fr hz hb) (ρA := (enter ρA o 7)) hb.bd (hz.fr hg hb) (o := 100) (by decide) (⟨_, _, _, _, hB9, hP2, h4, h6, h8⟩ : login_Logins.O (fun p => 100 + p) (enter ρA o 7) w0 gl_0 l_0) hy11) (by decide) ?_
 rintro _ w12 ⟨ρ24, rfl, ⟨v15, v17, v19, v21, hB23, hP16, h18, h20, h22⟩, htr14⟩
 replace hb := hb.trans htr14
 replace hB23 : Blk ρ24 100 w12 gl_0 (.cells #[v15, v17, v19, v21] 69 (0, 0)) := hB23
 replace hP16 : PtrO secret_Locks.O (fun q => 100 + (1 + q)) ρ24 w12 v15 y10.2.locks := hP16
 replace h18 : MapT str login_credentials.c true ρ24 104 w12 v17 y10.2.users := h18
 replace h20 : MapT str (intC .i64) false ρ24 105 w12 v19 y10.2.counters := h20
 replace h22 : MapT str login_attempt.c true ρ24 106 w12 v21 y10.2.attempts := h22
 refine sr_ev (v := .int .i64 y10.1) (ev_assign rfl) (by decide) ?_
 refine sr_end (l' := [(8, .int .i64 y10.1)]) (.cons rfl (.nil _)) ?_
 cases hS
 exact ke_ret1 Tryz.func15 rfl rfl ⟨_, rfl, leave ρA w0 o 7 ρ24, rfl, ⟨_, _, _, _, (hB23.mv (leave_mv (p := 0) (by decide) hb)), (PtrO.mv hP16 secret_Locks.objK (fun p hp => leave_mv (p := 1 + p) (by omega) hb) (fun p hp => by show o + (1 + p) ≠ 0; omega)), (h18.mv (leave_mv (p := 4) (by decide) hb)), (h20.mv (leave_mv (p := 5) (by decide) hb)), (h22.mv (leave_mv (p := 6) (by decide) hb))⟩, (leave_tr ho2 hb)⟩
theorem login_Logins_Locked_ok (w0 : World) (hg : Gs w0) {ρA : Tags} (hbd : ∀ b, ρA b ≠ 0 → b < w0.heap.size) (hz : Gz ρA) {τ0 : Nat → Nat} (hτ0 : ∀ p, 1 ≤ τ0 p) {l_0 : login_Logins} {user_1 : Str} {now_2 : Int} {gl_0 : Nat} {r : Bool} (ho0 : login_Logins.O τ0 ρA w0 gl_0 l_0) (hS : login_Logins_Locked l_0 user_1 now_2 = some r) :
  Calls Tryz.prog 22 #[.pointer (some ⟨gl_0, 0, none⟩), str user_1, .int .i64 now_2] w0 (Ret (fun v w' => v = .bool r ∧ Below w0.heap.size w0 w')) := by
 unfold login_Logins_Locked at hS
 have hb := flat1_fr (ρ := ρA) (w := w0) hbd
 have hz := hz.flat1
 obtain ⟨v1, v3, v5, v7, hB9, hP2, h4, h6, h8⟩ := ho0
 replace hB9 := hB9.mv (flat1_mv (hτ0 0))
 replace hP2 := PtrO.mv hP2 secret_Locks.objK (fun p hp => flat1_mv (hτ0 (1 + p))) (fun _ _ => by decide)
 replace h4 := h4.mv (flat1_mv (hτ0 4))
 replace h6 := h6.mv (flat1_mv (hτ0 5))
 replace h8 := h8.mv (flat1_mv (hτ0 6))
 replace hB9 : Blk (flat1 ρA) 1 w0 gl_0 (.cells #[v1, v3, v5, v7] 69 (0, 0)) := hB9
 replace hP2 : PtrO secret_Locks.O (fun _ => 1) (flat1 ρA) w0 v1 l_0.locks := hP2
 replace h4 : MapT str login_credentials.c true (flat1 ρA) 1 w0 v3 l_0.users := h4
 replace h6 : MapT str (intC .i64) false (flat1 ρA) 1 w0 v5 l_0.counters := h6
 replace h8 : MapT str login_attempt.c true (flat1 ρA) 1 w0 v7 l_0.attempts := h8
 refine calls_of_ke Tryz.func22 rfl (n := 18) rfl rfl (l := [(0, .pointer (some ⟨gl_0, 0, none⟩)), (1, str user_1), (2, .int .i64 now_2)]) rfl ?_
 refine ke_seq ?_
 refine ke_region ?_
 refine sr_ev (v := .bool false) (ev_assign rfl) (by decide) ?_
 refine sr_end (l' := [(0, .pointer (some ⟨gl_0, 0, none⟩)), (1, str user_1), (2, .int .i64 now_2)]) (.cons rfl (.cons rfl (.cons rfl (.nil _)))) ?_
 refine ke_seq ?_
 refine ke_region ?_
 refine sr_ev (v := .pointer (some ⟨gl_0, 0, none⟩)) (ev_move rfl) (by decide) ?_
 obtain ⟨y10, hy11, hS⟩ := bind_some' hS
 refine sr_call (vs := [.pointer (some ⟨gl_0, 0, none⟩)]) rfl Tryz.call42 rfl (login_Logins_ready_ok _ (hg.fr hz hb) (ρA := (flat1 ρA)) hb.bd (hz.fr hg hb) (τ0 := (fun _ => 1)) (fun _ => by decide) (⟨_, _, _, _, hB9, hP2, h4, h6, h8⟩ : login_Logins.O (fun _ => 1) (flat1 ρA) w0 gl_0 l_0) hy11) (by decide) ?_
 rintro _ w12 ⟨rfl, hbw13⟩
 have htr14 := Tr.of_below hbw13 hb.bd
 replace hB9 := hB9.mv (htr14.mv (i := 1) rfl)
 replace hP2 := PtrO.mv hP2 secret_Locks.objK (fun p hp => htr14.mv (i := 1) rfl) (fun _ _ => by decide)
 replace h4 := h4.mv (htr14.mv (i := 1) rfl)
 replace h6 := h6.mv (htr14.mv (i := 1) rfl)
 replace h8 := h8.mv (htr14.mv (i := 1) rfl)
 replace hb := hb.trans htr14
 refine sr_ev (v := .bool y10) (ev_move rfl) (by decide) ?_
 obtain ⟨z17, hz19, hS⟩ := bind_some' hS
 refine sr_join (m := 8) (C := fun (z : Bool) w1 => z17 = z ∧ ∃ ρ1, Tr (flat1 ρA) w12 (fun _ => false) ρ1 w1) (l' := fun z => [(17, .bool z)]) ?_ ?_
 ·rintro _ w20 ⟨rfl, ρ21, hj18⟩
  replace hb := hb.trans hj18
  refine sr_ev (v := .bool z17) (ev_assign rfl) (by decide) ?_
  refine sr_end (l' := [(6, .bool z17)]) (.cons rfl (.nil _)) ?_
  cases hS
  exact ke_ret1 Tryz.func22 rfl rfl ⟨_, rfl, rfl, (hb.below (flat1_le _))⟩
 ·intro K16
  clear hS
  have hj18 : Tr (flat1 ρA) w12 (fun _ => false) (flat1 ρA) w12 := (Tr.refl hb.bd).weak (fun _ _ => rfl) rfl rfl
  rcases Bool.eq_false_or_eq_true y10 with hg15 | hg15
  ·have hS := ite_true' hz19 hg15
   refine sr_evg (b := true) (e := 9) rfl rfl hg15 (v := .pointer (some ⟨gl_0, 0, none⟩)) (ev_move rfl) (by decide) ?_
   refine sr_evg (b := true) (e := 9) rfl rfl hg15 (v := .pointer (some ⟨gl_0, 0, none⟩)) (ev_nilCheck rfl) (by decide) ?_
   refine sr_evg (b := true) (e := 9) rfl rfl hg15 (v := .pointer (some ⟨gl_0, 0, none⟩)) (ev_fieldAddr (i := 0) Tryz.underlying69 rfl Tryz.info64 rfl rfl) (by decide) ?_
   refine sr_evg (b := true) (e := 9) rfl rfl hg15 (v := v1) (ev_load Tryz.isAgg64 rfl (hB9.cell rfl)) (by decide) ?_
   refine sr_evg (b := true) (e := 9) rfl rfl hg15 (v := str user_1) (ev_move rfl) (by decide) ?_
   refine sr_evg (b := true) (e := 9) rfl rfl hg15 (v := .int .i64 now_2) (ev_move rfl) (by decide) ?_
   rcases ho24 : l_0.locks with _ | z23
   ·replace hS := optC_none hS ho24
    obtain rfl := hP2.none_ ho24
    obtain ⟨y36, hy37, hS⟩ := bind_some' hS
    obtain rfl : y36 = false := (Option.some.inj hy37).symm
    refine sr_callg (b := true) (e := 9) rfl rfl hg15 (vs := [.pointer none, str user_1, .int .i64 now_2]) rfl Tryz.call57 rfl (secret_Locks_Locked__nil_ok _ (hg.fr hz hb) (ρA := (flat1 ρA)) hb.bd (hz.fr hg hb) hy37) (by decide) ?_
    rintro _ w38 ⟨rfl, hbw39⟩
    have htr40 := Tr.of_below hbw39 hb.bd
    replace hb := hb.trans htr40
    replace hj18 := (hj18.trans htr40).weak (J' := (fun _ => false)) (by intro t h; simp [rng] at h ⊢ <;> omega) rfl rfl
    refine sr_ev (v := .bool false) (ev_pick_t rfl hg15 rfl) (by decide) ?_
    exact sr_weaken (l' := [(17, .bool false)]) (.cons rfl (.nil _)) (K16 false _ ⟨(Option.some.inj hS).symm, _, hj18⟩)
   ·replace hS := optC_some hS ho24
    obtain ⟨g25, rfl, ⟨v26, lp28, hB30, h27, hR29⟩⟩ := hP2.some_ ho24
    replace hB30 : Blk (flat1 ρA) 1 w12 g25 (.cells #[.int .i64 z23.most, .int .i64 z23.window, .int .i64 z23.lock, v26] 134 (0, 0)) := hB30
    replace h27 : MapT str ptrC false (flat1 ρA) 1 w12 v26 lp28 := h27
    replace hR29 : Recs secret_record.O 2 (flat1 ρA) 1 w12 lp28 z23.users := hR29
    obtain ⟨y31, hy32, hS⟩ := bind_some' hS
    refine sr_callg (b := true) (e := 9) rfl rfl hg15 (vs := [.pointer (some ⟨g25, 0, none⟩), str user_1, .int .i64 now_2]) rfl Tryz.call57 rfl (secret_Locks_Locked_ok _ (hg.fr hz hb) (ρA := (flat1 ρA)) hb.bd (hz.fr hg hb) (τ0 := (fun _ => 1)) (fun _ => by decide) (⟨_, _, hB30, h27, hR29⟩ : secret_Locks.O (fun _ => 1) (flat1 ρA) w12 g25 z23) hy32) (by decide) ?_
    rintro _ w33 ⟨rfl, hbw34⟩
    have htr35 := Tr.of_below hbw34 hb.bd
    replace hb := hb.trans htr35
    replace hj18 := (hj18.trans htr35).weak (J' := (fun _ => false)) (by intro t h; simp [rng] at h ⊢ <;> omega) rfl rfl
    refine sr_ev (v := .bool y31) (ev_pick_t rfl hg15 rfl) (by decide) ?_
    exact sr_weaken (l' := [(17, .bool y31)]) (.cons rfl (.nil _)) (K16 y31 _ ⟨(Option.some.inj hS).symm, _, hj18⟩)
  ·have hS := ite_false' hz19 hg15
   refine sr_pass (e := 9) rfl rfl (by rw [hg15]; rfl) (by decide) ?_
   refine sr_pass (e := 9) rfl rfl (by rw [hg15]; rfl) (by decide) ?_
   refine sr_pass (e := 9) rfl rfl (by rw [hg15]; rfl) (by decide) ?_
   refine sr_pass (e := 9) rfl rfl (by rw [hg15]; rfl) (by decide) ?_
   refine sr_pass (e := 9) rfl rfl (by rw [hg15]; rfl) (by decide) ?_
   refine sr_pass (e := 9) rfl rfl (by rw [hg15]; rfl) (by decide) ?_
   refine sr_pass (e := 9) rfl rfl (by rw [hg15]; rfl) (by decide) ?_
   refine sr_ev (v := .bool false) (ev_pick_f rfl hg15 rfl) (by decide) ?_
   exact sr_weaken (l' := [(17, .bool false)]) (.cons rfl (.nil _)) (K16 false _ ⟨(Option.some.inj hS).symm, _, hj18⟩)
theorem law39_alive_ok (w0 : World) (hg : Gs w0) {ρA : Tags} (hbd : ∀ b, ρA b ≠ 0 → b < w0.heap.size) (hz : Gz ρA) {r : Bool} (hS : law39_alive = some r) :
  Calls Tryz.prog 10 #[] w0 (Ret (fun v w' => v = .bool r ∧ Below w0.heap.size w0 w')) := by
 unfold law39_alive at hS
 have hb := flat1_fr (ρ := ρA) (w := w0) hbd
 have hz := hz.flat1
 refine calls_of_ke Tryz.func10 rfl (n := 204) rfl rfl (l := []) rfl ?_
 refine ke_seq ?_
 refine ke_region ?_
 refine sr_ev (v := .bool false) (ev_assign rfl) (by decide) ?_
 refine sr_end (l' := []) (.nil _) ?_
 refine ke_seq ?_
 refine ke_region ?_
 obtain ⟨y1, hy2, hS⟩ := bind_some' hS
 refine sr_call (vs := [.int .i64 5]) rfl Tryz.call11 rfl (law39_ann_ok _ (hg.fr hz hb) (ρA := (flat1 ρA)) hb.bd (hz.fr hg hb) (o := 100) (by decide) hy2) (by decide) ?_
 rintro v6 w3 ⟨ρ8, _, rfl, hP7, htr5⟩
 replace hb := hb.trans htr5
 rcases ho10 : y1 with _ | z9
 ·replace hS := optC_none hS ho10
  obtain rfl := hP7.none_ ho10
  obtain ⟨y555, hy556, hS⟩ := bind_some' hS
  refine sr_call (vs := [.int .i64 2]) rfl Tryz.call11 rfl (law39_ann_ok _ (hg.fr hz hb) (ρA := ρ8) hb.bd (hz.fr hg hb) (o := 100) (by decide) hy556) (by decide) ?_
  rintro v560 w557 ⟨ρ562, _, rfl, hP561, htr559⟩
  replace hb := hb.trans htr559
  rcases ho564 : y555 with _ | z563
  ·replace hS := optC_none hS ho564
   obtain rfl := hP561.none_ ho564
   refine sr_ev (v := .pointer none) (ev_assign rfl) (by decide) ?_
   refine sr_ev (v := .pointer none) (ev_assign rfl) (by decide) ?_
   refine sr_end (l' := [(1, .pointer none), (2, .pointer none)]) (.cons rfl (.cons rfl (.nil _))) ?_
   refine ke_seq ?_
   refine ke_seq ?_
   refine ke_region ?_
   refine sr_ev (v := .pointer none) (ev_move rfl) (by decide) ?_
   refine sr_ev (v := .bool true) (ev_peqT_nil Tryz.underlying25 rfl rfl) (by decide) ?_
   refine sr_ev (v := .bool true) (ev_move rfl) (by decide) ?_
   refine sr_pass (e := 33) rfl rfl rfl (by decide) ?_
   refine sr_pass (e := 33) rfl rfl rfl (by decide) ?_
   refine sr_ev (v := .bool true) (ev_pick_t rfl rfl rfl) (by decide) ?_
   refine sr_end (l' := [(1, .pointer none), (2, .pointer none), (36, .bool true)]) (.cons rfl (.cons rfl (.cons rfl (.nil _)))) ?_
   refine ke_cond (t := true) rfl (fun _ => ?_) (fun h => by cases h)
   refine ke_seq ?_
   refine ke_region ?_
   refine sr_ev (v := .bool false) (ev_assign rfl) (by decide) ?_
   refine sr_end (l' := [(0, .bool false)]) (.cons rfl (.nil _)) ?_
   cases hS
   exact ke_ret1 Tryz.func10 rfl rfl ⟨_, rfl, rfl, (hb.below (flat1_le _))⟩
  ·replace hS := optC_some hS ho564
   obtain ⟨g565, rfl, ⟨v566, v568, v570, v572, hB574, hP567, h569, h571, h573⟩⟩ := hP561.some_ ho564
   replace hB574 : Blk ρ562 100 w557 g565 (.cells #[v566, v568, v570, v572] 69 (0, 0)) := hB574
   replace hP567 : PtrO secret_Locks.O (fun q => 100 + (1 + q)) ρ562 w557 v566 z563.locks := hP567
   replace h569 : MapT str login_credentials.c true ρ562 104 w557 v568 z563.users := h569
   replace h571 : MapT str (intC .i64) false ρ562 105 w557 v570 z563.counters := h571
   replace h573 : MapT str login_attempt.c true ρ562 106 w557 v572 z563.attempts := h573
   refine sr_ev (v := .pointer none) (ev_assign rfl) (by decide) ?_
   refine sr_ev (v := .pointer (some ⟨g565, 0, none⟩)) (ev_assign rfl) (by decide) ?_
   refine sr_end (l' := [(1, .pointer none), (2, .pointer (some ⟨g565, 0, none⟩))]) (.cons rfl (.cons rfl (.nil _))) ?_
   refine ke_seq ?_
   refine ke_seq ?_
   refine ke_region ?_
   refine sr_ev (v := .pointer none) (ev_move rfl) (by decide) ?_
   refine sr_ev (v := .bool true) (ev_peqT_nil Tryz.underlying25 rfl rfl) (by decide) ?_
   refine sr_ev (v := .bool true) (ev_move rfl) (by decide) ?_
   refine sr_pass (e := 33) rfl rfl rfl (by decide) ?_
   refine sr_pass (e := 33) rfl rfl rfl (by decide) ?_
   refine sr_ev (v := .bool true) (ev_pick_t rfl rfl rfl) (by decide) ?_
   refine sr_end (l' := [(1, .pointer none), (2, .pointer (some ⟨g565, 0, none⟩)), (36, .bool true)]) (.cons rfl (.cons rfl (.cons rfl (.nil _)))) ?_
   refine ke_cond (t := true) rfl (fun _ => ?_) (fun h => by cases h)
   refine ke_seq ?_
   refine ke_region ?_
   refine sr_ev (v := .bool false) (ev_assign rfl) (by decide) ?_
   refine sr_end (l' := [(0, .bool false)]) (.cons rfl (.nil _)) ?_
   cases hS
   exact ke_ret1 Tryz.func10 rfl rfl ⟨_, rfl, rfl, (hb.below (flat1_le _))⟩
 ·replace hS := optC_some hS ho10
  obtain ⟨g11, rfl, ⟨v12, v14, v16, v18, hB20, hP13, h15, h17, h19⟩⟩ := hP7.some_ ho10
  replace hB20 : Blk ρ8 100 w3 g11 (.cells #[v12, v14, v16, v18] 69 (0, 0)) := hB20
  replace hP13 : PtrO secret_Locks.O (fun q => 100 + (1 + q)) ρ8 w3 v12 z9.locks := hP13
  replace h15 : MapT str login_credentials.c true ρ8 104 w3 v14 z9.users := h15
  replace h17 : MapT str (intC .i64) false ρ8 105 w3 v16 z9.counters := h17
  replace h19 : MapT str login_attempt.c true ρ8 106 w3 v18 z9.attempts := h19
  obtain ⟨y21, hy22, hS⟩ := bind_some' hS
  refine sr_call (vs := [.int .i64 2]) rfl Tryz.call11 rfl (law39_ann_ok _ (hg.fr hz hb) (ρA := ρ8) hb.bd (hz.fr hg hb) (o := 200) (by decide) hy22) (by decide) ?_
  rintro v26 w23 ⟨ρ28, _, rfl, hP27, htr25⟩
  replace hB20 := hB20.mv (htr25.mv (i := 100) rfl)
  replace hP13 := PtrO.mv hP13 secret_Locks.objK (fun p hp => htr25.mv (i := 100 + (1 + p)) (by rcases p with _ | _ | _ | p <;> first | rfl | omega)) (fun p hp => by show 100 + (1 + p) ≠ 0; omega)
  replace h15 := h15.mv (htr25.mv (i := 104) rfl)
  replace h17 := h17.mv (htr25.mv (i := 105) rfl)
  replace h19 := h19.mv (htr25.mv (i := 106) rfl)
  replace hb := hb.trans htr25
  rcases ho30 : y21 with _ | z29
  ·replace hS := optC_none hS ho30
   obtain rfl := hP27.none_ ho30
   refine sr_ev (v := .pointer (some ⟨g11, 0, none⟩)) (ev_assign rfl) (by decide) ?_
   refine sr_ev (v := .pointer none) (ev_assign rfl) (by decide) ?_
   refine sr_end (l' := [(1, .pointer (some ⟨g11, 0, none⟩)), (2, .pointer none)]) (.cons rfl (.cons rfl (.nil _))) ?_
   refine ke_seq ?_
   refine ke_seq ?_
   refine ke_region ?_
   refine sr_ev (v := .pointer (some ⟨g11, 0, none⟩)) (ev_move rfl) (by decide) ?_
   refine sr_ev (v := .bool false) (ev_peqT_some Tryz.underlying25 rfl rfl) (by decide) ?_
   refine sr_ev (v := .bool false) (ev_move rfl) (by decide) ?_
   refine sr_evg (b := false) (e := 33) rfl rfl rfl (v := .pointer none) (ev_move rfl) (by decide) ?_
   refine sr_evg (b := false) (e := 33) rfl rfl rfl (v := .bool true) (ev_peqT_nil Tryz.underlying25 rfl rfl) (by decide) ?_
   refine sr_ev (v := .bool true) (ev_pick_f rfl rfl rfl) (by decide) ?_
   refine sr_end (l' := [(1, .pointer (some ⟨g11, 0, none⟩)), (2, .pointer none), (36, .bool true)]) (.cons rfl (.cons rfl (.cons rfl (.nil _)))) ?_
   refine ke_cond (t := true) rfl (fun _ => ?_) (fun h => by cases h)
   refine ke_seq ?_
   refine ke_region ?_
   refine sr_ev (v := .bool false) (ev_assign rfl) (by decide) ?_
   refine sr_end (l' := [(0, .bool false)]) (.cons rfl (.nil _)) ?_
   cases hS
   exact ke_ret1 Tryz.func10 rfl rfl ⟨_, rfl, rfl, (hb.below (flat1_le _))⟩
  ·replace hS := optC_some hS ho30
   obtain ⟨g31, rfl, ⟨v32, v34, v36, v38, hB40, hP33, h35, h37, h39⟩⟩ := hP27.some_ ho30
   replace hB40 : Blk ρ28 200 w23 g31 (.cells #[v32, v34, v36, v38] 69 (0, 0)) := hB40
   replace hP33 : PtrO secret_Locks.O (fun q => 200 + (1 + q)) ρ28 w23 v32 z29.locks := hP33
   replace h35 : MapT str login_credentials.c true ρ28 204 w23 v34 z29.users := h35
   replace h37 : MapT str (intC .i64) false ρ28 205 w23 v36 z29.counters := h37
   replace h39 : MapT str login_attempt.c true ρ28 206 w23 v38 z29.attempts := h39
   refine sr_ev (v := .pointer (some ⟨g11, 0, none⟩)) (ev_assign rfl) (by decide) ?_
   refine sr_ev (v := .pointer (some ⟨g31, 0, none⟩)) (ev_assign rfl) (by decide) ?_
   refine sr_end (l' := [(1, .pointer (some ⟨g11, 0, none⟩)), (2, .pointer (some ⟨g31, 0, none⟩))]) (.cons rfl (.cons rfl (.nil _))) ?_
   refine ke_seq ?_
   refine ke_seq ?_
   refine ke_region ?_
   refine sr_ev (v := .pointer (some ⟨g11, 0, none⟩)) (ev_move rfl) (by decide) ?_
   refine sr_ev (v := .bool false) (ev_peqT_some Tryz.underlying25 rfl rfl) (by decide) ?_
   refine sr_ev (v := .bool false) (ev_move rfl) (by decide) ?_
   refine sr_evg (b := false) (e := 33) rfl rfl rfl (v := .pointer (some ⟨g31, 0, none⟩)) (ev_move rfl) (by decide) ?_
   refine sr_evg (b := false) (e := 33) rfl rfl rfl (v := .bool false) (ev_peqT_some Tryz.underlying25 rfl rfl) (by decide) ?_
   refine sr_ev (v := .bool false) (ev_pick_f rfl rfl rfl) (by decide) ?_
   refine sr_end (l' := [(1, .pointer (some ⟨g11, 0, none⟩)), (2, .pointer (some ⟨g31, 0, none⟩)), (36, .bool false)]) (.cons rfl (.cons rfl (.cons rfl (.nil _)))) ?_
   refine ke_cond (t := false) rfl (fun h => by cases h) (fun _ => ?_)
   refine ke_skip ?_
   refine ke_seq ?_
   refine ke_region ?_
   refine sr_ev (v := .pointer (some ⟨g11, 0, none⟩)) (ev_move rfl) (by decide) ?_
   obtain ⟨y41, hy42, hS⟩ := bind_some' hS
   refine sr_call (vs := [.pointer (some ⟨g11, 0, none⟩), str ([97, 49]), str ([97, 110, 110]), .int .i64 0]) rfl Tryz.call14 rfl (login_Logins_Begin_ok _ (hg.fr hz hb) (ρA := ρ28) hb.bd (hz.fr hg hb) (o := 100) (by decide) (⟨_, _, _, _, hB20, hP13, h15, h17, h19⟩ : login_Logins.O (fun p => 100 + p) ρ28 w23 g11 z9) hy42) (by decide) ?_
   rintro _ w43 ⟨ρ55, rfl, ⟨v46, v48, v50, v52, hB54, hP47, h49, h51, h53⟩, htr45⟩
   replace hB40 := hB40.mv (htr45.mv (i := 200) rfl)
   replace hP33 := PtrO.mv hP33 secret_Locks.objK (fun p hp => htr45.mv (i := 200 + (1 + p)) (by rcases p with _ | _ | _ | p <;> first | rfl | omega)) (fun p hp => by show 200 + (1 + p) ≠ 0; omega)
   replace h35 := h35.mv (htr45.mv (i := 204) rfl)
   replace h37 := h37.mv (htr45.mv (i := 205) rfl)
   replace h39 := h39.mv (htr45.mv (i := 206) rfl)
   replace hb := hb.trans htr45
   replace hB54 : Blk ρ55 100 w43 g11 (.cells #[v46, v48, v50, v52] 69 (0, 0)) := hB54
   replace hP47 : PtrO secret_Locks.O (fun q => 100 + (1 + q)) ρ55 w43 v46 y41.2.locks := hP47
   replace h49 : MapT str login_credentials.c true ρ55 104 w43 v48 y41.2.users := h49
   replace h51 : MapT str (intC .i64) false ρ55 105 w43 v50 y41.2.counters := h51
   replace h53 : MapT str login_attempt.c true ρ55 106 w43 v52 y41.2.attempts := h53
   refine sr_ev (v := .pointer (some ⟨g11, 0, none⟩)) (ev_move rfl) (by decide) ?_
   obtain ⟨y56, hy57, hS⟩ := bind_some' hS
   refine sr_call (vs := [.pointer (some ⟨g11, 0, none⟩), str ([97, 49]), str ([98, 111, 98]), .int .i64 299]) rfl Tryz.call14 rfl (login_Logins_Begin_ok _ (hg.fr hz hb) (ρA := ρ55) hb.bd (hz.fr hg hb) (o := 100) (by decide) (⟨_, _, _, _, hB54, hP47, h49, h51, h53⟩ : login_Logins.O (fun p => 100 + p) ρ55 w43 g11 y41.2) hy57) (by decide) ?_
   rintro _ w58 ⟨ρ70, rfl, ⟨v61, v63, v65, v67, hB69, hP62, h64, h66, h68⟩, htr60⟩
   replace hB40 := hB40.mv (htr60.mv (i := 200) rfl)
   replace hP33 := PtrO.mv hP33 secret_Locks.objK (fun p hp => htr60.mv (i := 200 + (1 + p)) (by rcases p with _ | _ | _ | p <;> first | rfl | omega)) (fun p hp => by show 200 + (1 + p) ≠ 0; omega)
   replace h35 := h35.mv (htr60.mv (i := 204) rfl)
   replace h37 := h37.mv (htr60.mv (i := 205) rfl)
   replace h39 := h39.mv (htr60.mv (i := 206) rfl)
   replace hb := hb.trans htr60
   replace hB69 : Blk ρ70 100 w58 g11 (.cells #[v61, v63, v65, v67] 69 (0, 0)) := hB69
   replace hP62 : PtrO secret_Locks.O (fun q => 100 + (1 + q)) ρ70 w58 v61 y56.2.locks := hP62
   replace h64 : MapT str login_credentials.c true ρ70 104 w58 v63 y56.2.users := h64
   replace h66 : MapT str (intC .i64) false ρ70 105 w58 v65 y56.2.counters := h66
   replace h68 : MapT str login_attempt.c true ρ70 106 w58 v67 y56.2.attempts := h68
   refine sr_ev (v := .int .i64 y41.1) (ev_assign rfl) (by decide) ?_
   refine sr_ev (v := .int .i64 y56.1) (ev_assign rfl) (by decide) ?_
   refine sr_end (l' := [(1, .pointer (some ⟨g11, 0, none⟩)), (2, .pointer (some ⟨g31, 0, none⟩)), (3, .int .i64 y41.1), (4, .int .i64 y56.1)]) (.cons rfl (.cons rfl (.cons rfl (.cons rfl (.nil _))))) ?_
   refine ke_seq ?_
   refine ke_region ?_
   refine sr_ev (v := .pointer (some ⟨g11, 0, none⟩)) (ev_move rfl) (by decide) ?_
   obtain ⟨y71, hy72, hS⟩ := bind_some' hS
   refine sr_call (vs := [.pointer (some ⟨g11, 0, none⟩), str ([97, 49]), str ([119, 114, 111, 110, 103, 119, 111, 114, 100]), .int .i64 1]) rfl Tryz.call19 rfl (login_Logins_Password_ok _ (hg.fr hz hb) (ρA := ρ70) hb.bd (hz.fr hg hb) (o := 100) (by decide) (⟨_, _, _, _, hB69, hP62, h64, h66, h68⟩ : login_Logins.O (fun p => 100 + p) ρ70 w58 g11 y56.2) hy72) (by decide) ?_
   rintro _ w73 ⟨ρ85, rfl, ⟨v76, v78, v80, v82, hB84, hP77, h79, h81, h83⟩, htr75⟩
   replace hB40 := hB40.mv (htr75.mv (i := 200) rfl)
   replace hP33 := PtrO.mv hP33 secret_Locks.objK (fun p hp => htr75.mv (i := 200 + (1 + p)) (by rcases p with _ | _ | _ | p <;> first | rfl | omega)) (fun p hp => by show 200 + (1 + p) ≠ 0; omega)
   replace h35 := h35.mv (htr75.mv (i := 204) rfl)
   replace h37 := h37.mv (htr75.mv (i := 205) rfl)
   replace h39 := h39.mv (htr75.mv (i := 206) rfl)
   replace hb := hb.trans htr75
   replace hB84 : Blk ρ85 100 w73 g11 (.cells #[v76, v78, v80, v82] 69 (0, 0)) := hB84
   replace hP77 : PtrO secret_Locks.O (fun q => 100 + (1 + q)) ρ85 w73 v76 y71.2.locks := hP77
   replace h79 : MapT str login_credentials.c true ρ85 104 w73 v78 y71.2.users := h79
   replace h81 : MapT str (intC .i64) false ρ85 105 w73 v80 y71.2.counters := h81
   replace h83 : MapT str login_attempt.c true ρ85 106 w73 v82 y71.2.attempts := h83
   refine sr_ev (v := .pointer (some ⟨g11, 0, none⟩)) (ev_move rfl) (by decide) ?_
   obtain ⟨y86, hy87, hS⟩ := bind_some' hS
   refine sr_call (vs := [.pointer (some ⟨g11, 0, none⟩), str ([97, 49]), str ([115, 101, 99, 114, 101, 116, 119, 111, 114, 100]), .int .i64 2]) rfl Tryz.call19 rfl (login_Logins_Password_ok _ (hg.fr hz hb) (ρA := ρ85) hb.bd (hz.fr hg hb) (o := 100) (by decide) (⟨_, _, _, _, hB84, hP77, h79, h81, h83⟩ : login_Logins.O (fun p => 100 + p) ρ85 w73 g11 y71.2) hy87) (by decide) ?_
   rintro _ w88 ⟨ρ100, rfl, ⟨v91, v93, v95, v97, hB99, hP92, h94, h96, h98⟩, htr90⟩
   replace hB40 := hB40.mv (htr90.mv (i := 200) rfl)
   replace hP33 := PtrO.mv hP33 secret_Locks.objK (fun p hp => htr90.mv (i := 200 + (1 + p)) (by rcases p with _ | _ | _ | p <;> first | rfl | omega)) (fun p hp => by show 200 + (1 + p) ≠ 0; omega)
   replace h35 := h35.mv (htr90.mv (i := 204) rfl)
   replace h37 := h37.mv (htr90.mv (i := 205) rfl)
   replace h39 := h39.mv (htr90.mv (i := 206) rfl)
   replace hb := hb.trans htr90
   replace hB99 : Blk ρ100 100 w88 g11 (.cells #[v91, v93, v95, v97] 69 (0, 0)) := hB99
   replace hP92 : PtrO secret_Locks.O (fun q => 100 + (1 + q)) ρ100 w88 v91 y86.2.locks := hP92
   replace h94 : MapT str login_credentials.c true ρ100 104 w88 v93 y86.2.users := h94
   replace h96 : MapT str (intC .i64) false ρ100 105 w88 v95 y86.2.counters := h96
   replace h98 : MapT str login_attempt.c true ρ100 106 w88 v97 y86.2.attempts := h98
   refine sr_ev (v := .pointer (some ⟨g11, 0, none⟩)) (ev_move rfl) (by decide) ?_
   obtain ⟨y101, hy102, hS⟩ := bind_some' hS
   refine sr_call (vs := [.pointer (some ⟨g11, 0, none⟩), str ([97, 49]), str ([115, 101, 99, 114, 101, 116, 119, 111, 114, 100]), .int .i64 3]) rfl Tryz.call19 rfl (login_Logins_Password_ok _ (hg.fr hz hb) (ρA := ρ100) hb.bd (hz.fr hg hb) (o := 100) (by decide) (⟨_, _, _, _, hB99, hP92, h94, h96, h98⟩ : login_Logins.O (fun p => 100 + p) ρ100 w88 g11 y86.2) hy102) (by decide) ?_
   rintro _ w103 ⟨ρ115, rfl, ⟨v106, v108, v110, v112, hB114, hP107, h109, h111, h113⟩, htr105⟩
   replace hB40 := hB40.mv (htr105.mv (i := 200) rfl)
   replace hP33 := PtrO.mv hP33 secret_Locks.objK (fun p hp => htr105.mv (i := 200 + (1 + p)) (by rcases p with _ | _ | _ | p <;> first | rfl | omega)) (fun p hp => by show 200 + (1 + p) ≠ 0; omega)
   replace h35 := h35.mv (htr105.mv (i := 204) rfl)
   replace h37 := h37.mv (htr105.mv (i := 205) rfl)
   replace h39 := h39.mv (htr105.mv (i := 206) rfl)
   replace hb := hb.trans htr105
   replace hB114 : Blk ρ115 100 w103 g11 (.cells #[v106, v108, v110, v112] 69 (0, 0)) := hB114
   replace hP107 : PtrO secret_Locks.O (fun q => 100 + (1 + q)) ρ115 w103 v106 y101.2.locks := hP107
   replace h109 : MapT str login_credentials.c true ρ115 104 w103 v108 y101.2.users := h109
   replace h111 : MapT str (intC .i64) false ρ115 105 w103 v110 y101.2.counters := h111
   replace h113 : MapT str login_attempt.c true ρ115 106 w103 v112 y101.2.attempts := h113
   refine sr_ev (v := .int .i64 y71.1) (ev_assign rfl) (by decide) ?_
   refine sr_ev (v := .int .i64 y86.1) (ev_assign rfl) (by decide) ?_
   refine sr_ev (v := .int .i64 y101.1) (ev_assign rfl) (by decide) ?_
   refine sr_end (l' := [(1, .pointer (some ⟨g11, 0, none⟩)), (2, .pointer (some ⟨g31, 0, none⟩)), (3, .int .i64 y41.1), (4, .int .i64 y56.1), (5, .int .i64 y71.1), (6, .int .i64 y86.1), (7, .int .i64 y101.1)]) (.cons rfl (.cons rfl (.cons rfl (.cons rfl (.cons rfl (.cons rfl (.cons rfl (.nil _)))))))) ?_
   refine ke_seq ?_
   refine ke_region ?_
   refine sr_ev (v := .pointer (some ⟨g11, 0, none⟩)) (ev_move rfl) (by decide) ?_
   obtain ⟨y116, hy117, hS⟩ := bind_some' hS
   refine sr_call (vs := [.pointer (some ⟨g11, 0, none⟩), str ([97, 49]), .int .i64 2, .int .i64 4]) rfl Tryz.call17 rfl (login_Logins_Finish_ok _ (hg.fr hz hb) (ρA := ρ115) hb.bd (hz.fr hg hb) (o := 100) (by decide) (⟨_, _, _, _, hB114, hP107, h109, h111, h113⟩ : login_Logins.O (fun p => 100 + p) ρ115 w103 g11 y101.2) hy117) (by decide) ?_
   rintro _ w118 ⟨ρ132, v121, rfl, h122, ⟨v123, v125, v127, v129, hB131, hP124, h126, h128, h130⟩, htr120⟩
   replace hB40 := hB40.mv (htr120.mv (i := 200) rfl)
   replace hP33 := PtrO.mv hP33 secret_Locks.objK (fun p hp => htr120.mv (i := 200 + (1 + p)) (by rcases p with _ | _ | _ | p <;> first | rfl | omega)) (fun p hp => by show 200 + (1 + p) ≠ 0; omega)
   replace h35 := h35.mv (htr120.mv (i := 204) rfl)
   replace h37 := h37.mv (htr120.mv (i := 205) rfl)
   replace h39 := h39.mv (htr120.mv (i := 206) rfl)
   replace hb := hb.trans htr120
   replace hB131 : Blk ρ132 100 w118 g11 (.cells #[v123, v125, v127, v129] 69 (0, 0)) := hB131
   replace hP124 : PtrO secret_Locks.O (fun q => 100 + (1 + q)) ρ132 w118 v123 y116.2.2.2.locks := hP124
   replace h126 : MapT str login_credentials.c true ρ132 104 w118 v125 y116.2.2.2.users := h126
   replace h128 : MapT str (intC .i64) false ρ132 105 w118 v127 y116.2.2.2.counters := h128
   replace h130 : MapT str login_attempt.c true ρ132 106 w118 v129 y116.2.2.2.attempts := h130
   refine sr_ev (v := .tuple #[str y116.1, v121, .int .i64 y116.2.2.1]) (ev_move rfl) (by decide) ?_
   refine sr_ev (v := str y116.1) (ev_extract rfl rfl) (by decide) ?_
   refine sr_ev (v := v121) (ev_extract rfl rfl) (by decide) ?_
   refine sr_ev (v := .int .i64 y116.2.2.1) (ev_extract rfl rfl) (by decide) ?_
   refine sr_ev (v := str y116.1) (ev_assign rfl) (by decide) ?_
   refine sr_ev (v := v121) (ev_assign rfl) (by decide) ?_
   refine sr_ev (v := .int .i64 y116.2.2.1) (ev_assign rfl) (by decide) ?_
   refine sr_end (l' := [(1, .pointer (some ⟨g11, 0, none⟩)), (2, .pointer (some ⟨g31, 0, none⟩)), (3, .int .i64 y41.1), (4, .int .i64 y56.1), (5, .int .i64 y71.1), (6, .int .i64 y86.1), (7, .int .i64 y101.1), (10, .int .i64 y116.2.2.1)]) (.cons rfl (.cons rfl (.cons rfl (.cons rfl (.cons rfl (.cons rfl (.cons rfl (.cons rfl (.nil _))))))))) ?_
   refine ke_seq ?_
   refine ke_region ?_
   refine sr_ev (v := .pointer (some ⟨g11, 0, none⟩)) (ev_move rfl) (by decide) ?_
   obtain ⟨y133, hy134, hS⟩ := bind_some' hS
   refine sr_call (vs := [.pointer (some ⟨g11, 0, none⟩), str ([97, 49]), .int .i64 1, .int .i64 5]) rfl Tryz.call17 rfl (login_Logins_Finish_ok _ (hg.fr hz hb) (ρA := ρ132) hb.bd (hz.fr hg hb) (o := 100) (by decide) (⟨_, _, _, _, hB131, hP124, h126, h128, h130⟩ : login_Logins.O (fun p => 100 + p) ρ132 w118 g11 y116.2.2.2) hy134) (by decide) ?_
   rintro _ w135 ⟨ρ149, v138, rfl, h139, ⟨v140, v142, v144, v146, hB148, hP141, h143, h145, h147⟩, htr137⟩
   replace hB40 := hB40.mv (htr137.mv (i := 200) rfl)
   replace hP33 := PtrO.mv hP33 secret_Locks.objK (fun p hp => htr137.mv (i := 200 + (1 + p)) (by rcases p with _ | _ | _ | p <;> first | rfl | omega)) (fun p hp => by show 200 + (1 + p) ≠ 0; omega)
   replace h35 := h35.mv (htr137.mv (i := 204) rfl)
   replace h37 := h37.mv (htr137.mv (i := 205) rfl)
   replace h39 := h39.mv (htr137.mv (i := 206) rfl)
   replace hb := hb.trans htr137
   replace hB148 : Blk ρ149 100 w135 g11 (.cells #[v140, v142, v144, v146] 69 (0, 0)) := hB148
   replace hP141 : PtrO secret_Locks.O (fun q => 100 + (1 + q)) ρ149 w135 v140 y133.2.2.2.locks := hP141
   replace h143 : MapT str login_credentials.c true ρ149 104 w135 v142 y133.2.2.2.users := h143
   replace h145 : MapT str (intC .i64) false ρ149 105 w135 v144 y133.2.2.2.counters := h145
   replace h147 : MapT str login_attempt.c true ρ149 106 w135 v146 y133.2.2.2.attempts := h147
   refine sr_ev (v := .tuple #[str y133.1, v138, .int .i64 y133.2.2.1]) (ev_move rfl) (by decide) ?_
   refine sr_ev (v := str y133.1) (ev_extract rfl rfl) (by decide) ?_
   refine sr_ev (v := v138) (ev_extract rfl rfl) (by decide) ?_
   refine sr_ev (v := .int .i64 y133.2.2.1) (ev_extract rfl rfl) (by decide) ?_
   refine sr_ev (v := str y133.1) (ev_assign rfl) (by decide) ?_
   refine sr_ev (v := v138) (ev_assign rfl) (by decide) ?_
   refine sr_ev (v := .int .i64 y133.2.2.1) (ev_assign rfl) (by decide) ?_
   refine sr_end (l' := [(1, .pointer (some ⟨g11, 0, none⟩)), (2, .pointer (some ⟨g31, 0, none⟩)), (3, .int .i64 y41.1), (4, .int .i64 y56.1), (5, .int .i64 y71.1), (6, .int .i64 y86.1), (7, .int .i64 y101.1), (10, .int .i64 y116.2.2.1), (11, str y133.1), (12, v138), (13, .int .i64 y133.2.2.1)]) (.cons rfl (.cons rfl (.cons rfl (.cons rfl (.cons rfl (.cons rfl (.cons rfl (.cons rfl (.cons rfl (.cons rfl (.cons rfl (.nil _)))))))))))) ?_
   refine ke_seq ?_
   refine ke_region ?_
   refine sr_ev (v := .pointer (some ⟨g11, 0, none⟩)) (ev_move rfl) (by decide) ?_
   obtain ⟨y150, hy151, hS⟩ := bind_some' hS
   refine sr_call (vs := [.pointer (some ⟨g11, 0, none⟩), str ([97, 49]), .int .i64 0, .int .i64 6]) rfl Tryz.call17 rfl (login_Logins_Finish_ok _ (hg.fr hz hb) (ρA := ρ149) hb.bd (hz.fr hg hb) (o := 100) (by decide) (⟨_, _, _, _, hB148, hP141, h143, h145, h147⟩ : login_Logins.O (fun p => 100 + p) ρ149 w135 g11 y133.2.2.2) hy151) (by decide) ?_
   rintro _ w152 ⟨ρ166, v155, rfl, h156, ⟨v157, v159, v161, v163, hB165, hP158, h160, h162, h164⟩, htr154⟩
   replace h139 := h139.mv htr154.rd
   replace hB40 := hB40.mv (htr154.mv (i := 200) rfl)
   replace hP33 := PtrO.mv hP33 secret_Locks.objK (fun p hp => htr154.mv (i := 200 + (1 + p)) (by rcases p with _ | _ | _ | p <;> first | rfl | omega)) (fun p hp => by show 200 + (1 + p) ≠ 0; omega)
   replace h35 := h35.mv (htr154.mv (i := 204) rfl)
   replace h37 := h37.mv (htr154.mv (i := 205) rfl)
   replace h39 := h39.mv (htr154.mv (i := 206) rfl)
   replace hb := hb.trans htr154
   replace hB165 : Blk ρ166 100 w152 g11 (.cells #[v157, v159, v161, v163] 69 (0, 0)) := hB165
   replace hP158 : PtrO secret_Locks.O (fun q => 100 + (1 + q)) ρ166 w152 v157 y150.2.2.2.locks := hP158
   replace h160 : MapT str login_credentials.c true ρ166 104 w152 v159 y150.2.2.2.users := h160
   replace h162 : MapT str (intC .i64) false ρ166 105 w152 v161 y150.2.2.2.counters := h162
   replace h164 : MapT str login_attempt.c true ρ166 106 w152 v163 y150.2.2.2.attempts := h164
   refine sr_ev (v := .tuple #[str y150.1, v155, .int .i64 y150.2.2.1]) (ev_move rfl) (by decide) ?_
   refine sr_ev (v := str y150.1) (ev_extract rfl rfl) (by decide) ?_
   refine sr_ev (v := v155) (ev_extract rfl rfl) (by decide) ?_
   refine sr_ev (v := .int .i64 y150.2.2.1) (ev_extract rfl rfl) (by decide) ?_
   refine sr_ev (v := str y150.1) (ev_assign rfl) (by decide) ?_
   refine sr_ev (v := v155) (ev_assign rfl) (by decide) ?_
   refine sr_ev (v := .int .i64 y150.2.2.1) (ev_assign rfl) (by decide) ?_
   refine sr_end (l' := [(1, .pointer (some ⟨g11, 0, none⟩)), (2, .pointer (some ⟨g31, 0, none⟩)), (3, .int .i64 y41.1), (4, .int .i64 y56.1), (5, .int .i64 y71.1), (6, .int .i64 y86.1), (7, .int .i64 y101.1), (10, .int .i64 y116.2.2.1), (11, str y133.1), (12, v138), (13, .int .i64 y133.2.2.1), (16, .int .i64 y150.2.2.1)]) (.cons rfl (.cons rfl (.cons rfl (.cons rfl (.cons rfl (.cons rfl (.cons rfl (.cons rfl (.cons rfl (.cons rfl (.cons rfl (.cons rfl (.nil _))))))))))))) ?_
   refine ke_seq ?_
   refine ke_region ?_
   refine sr_ev (v := .pointer (some ⟨g31, 0, none⟩)) (ev_move rfl) (by decide) ?_
   obtain ⟨y167, hy168, hS⟩ := bind_some' hS
   refine sr_call (vs := [.pointer (some ⟨g31, 0, none⟩), str ([120]), str ([97, 110, 110]), .int .i64 0]) rfl Tryz.call14 rfl (login_Logins_Begin_ok _ (hg.fr hz hb) (ρA := ρ166) hb.bd (hz.fr hg hb) (o := 200) (by decide) (⟨_, _, _, _, hB40, hP33, h35, h37, h39⟩ : login_Logins.O (fun p => 200 + p) ρ166 w152 g31 z29) hy168) (by decide) ?_
   rintro _ w169 ⟨ρ181, rfl, ⟨v172, v174, v176, v178, hB180, hP173, h175, h177, h179⟩, htr171⟩
   replace h139 := h139.mv htr171.rd
   replace hB165 := hB165.mv (htr171.mv (i := 100) rfl)
   replace hP158 := PtrO.mv hP158 secret_Locks.objK (fun p hp => htr171.mv (i := 100 + (1 + p)) (by rcases p with _ | _ | _ | p <;> first | rfl | omega)) (fun p hp => by show 100 + (1 + p) ≠ 0; omega)
   replace h160 := h160.mv (htr171.mv (i := 104) rfl)
   replace h162 := h162.mv (htr171.mv (i := 105) rfl)
   replace h164 := h164.mv (htr171.mv (i := 106) rfl)
   replace hb := hb.trans htr171
   replace hB180 : Blk ρ181 200 w169 g31 (.cells #[v172, v174, v176, v178] 69 (0, 0)) := hB180
   replace hP173 : PtrO secret_Locks.O (fun q => 200 + (1 + q)) ρ181 w169 v172 y167.2.locks := hP173
   replace h175 : MapT str login_credentials.c true ρ181 204 w169 v174 y167.2.users := h175
   replace h177 : MapT str (intC .i64) false ρ181 205 w169 v176 y167.2.counters := h177
   replace h179 : MapT str login_attempt.c true ρ181 206 w169 v178 y167.2.attempts := h179
   refine sr_end (l' := [(1, .pointer (some ⟨g11, 0, none⟩)), (2, .pointer (some ⟨g31, 0, none⟩)), (3, .int .i64 y41.1), (4, .int .i64 y56.1), (5, .int .i64 y71.1), (6, .int .i64 y86.1), (7, .int .i64 y101.1), (10, .int .i64 y116.2.2.1), (11, str y133.1), (12, v138), (13, .int .i64 y133.2.2.1), (16, .int .i64 y150.2.2.1)]) (.cons rfl (.cons rfl (.cons rfl (.cons rfl (.cons rfl (.cons rfl (.cons rfl (.cons rfl (.cons rfl (.cons rfl (.cons rfl (.cons rfl (.nil _))))))))))))) ?_
   refine ke_seq ?_
   refine ke_region ?_
   refine sr_ev (v := .pointer (some ⟨g31, 0, none⟩)) (ev_move rfl) (by decide) ?_
   obtain ⟨y182, hy183, hS⟩ := bind_some' hS
   refine sr_call (vs := [.pointer (some ⟨g31, 0, none⟩), str ([121]), str ([97, 110, 110]), .int .i64 0]) rfl Tryz.call14 rfl (login_Logins_Begin_ok _ (hg.fr hz hb) (ρA := ρ181) hb.bd (hz.fr hg hb) (o := 200) (by decide) (⟨_, _, _, _, hB180, hP173, h175, h177, h179⟩ : login_Logins.O (fun p => 200 + p) ρ181 w169 g31 y167.2) hy183) (by decide) ?_
   rintro _ w184 ⟨ρ196, rfl, ⟨v187, v189, v191, v193, hB195, hP188, h190, h192, h194⟩, htr186⟩
   replace h139 := h139.mv htr186.rd
   replace hB165 := hB165.mv (htr186.mv (i := 100) rfl)
   replace hP158 := PtrO.mv hP158 secret_Locks.objK (fun p hp => htr186.mv (i := 100 + (1 + p)) (by rcases p with _ | _ | _ | p <;> first | rfl | omega)) (fun p hp => by show 100 + (1 + p) ≠ 0; omega)
   replace h160 := h160.mv (htr186.mv (i := 104) rfl)
   replace h162 := h162.mv (htr186.mv (i := 105) rfl)
   replace h164 := h164.mv (htr186.mv (i := 106) rfl)
   replace hb := hb.trans htr186
   replace hB195 : Blk ρ196 200 w184 g31 (.cells #[v187, v189, v191, v193] 69 (0, 0)) := hB195
   replace hP188 : PtrO secret_Locks.O (fun q => 200 + (1 + q)) ρ196 w184 v187 y182.2.locks := hP188
   replace h190 : MapT str login_credentials.c true ρ196 204 w184 v189 y182.2.users := h190
   replace h192 : MapT str (intC .i64) false ρ196 205 w184 v191 y182.2.counters := h192
   replace h194 : MapT str login_attempt.c true ρ196 206 w184 v193 y182.2.attempts := h194
   refine sr_end (l' := [(1, .pointer (some ⟨g11, 0, none⟩)), (2, .pointer (some ⟨g31, 0, none⟩)), (3, .int .i64 y41.1), (4, .int .i64 y56.1), (5, .int .i64 y71.1), (6, .int .i64 y86.1), (7, .int .i64 y101.1), (10, .int .i64 y116.2.2.1), (11, str y133.1), (12, v138), (13, .int .i64 y133.2.2.1), (16, .int .i64 y150.2.2.1)]) (.cons rfl (.cons rfl (.cons rfl (.cons rfl (.cons rfl (.cons rfl (.cons rfl (.cons rfl (.cons rfl (.cons rfl (.cons rfl (.cons rfl (.nil _))))))))))))) ?_
   refine ke_seq ?_
   refine ke_region ?_
   refine sr_ev (v := .pointer (some ⟨g31, 0, none⟩)) (ev_move rfl) (by decide) ?_
   obtain ⟨y197, hy198, hS⟩ := bind_some' hS
   refine sr_call (vs := [.pointer (some ⟨g31, 0, none⟩), str ([120]), str ([119, 114, 111, 110, 103, 119, 111, 114, 100]), .int .i64 0]) rfl Tryz.call19 rfl (login_Logins_Password_ok _ (hg.fr hz hb) (ρA := ρ196) hb.bd (hz.fr hg hb) (o := 200) (by decide) (⟨_, _, _, _, hB195, hP188, h190, h192, h194⟩ : login_Logins.O (fun p => 200 + p) ρ196 w184 g31 y182.2) hy198) (by decide) ?_
   rintro _ w199 ⟨ρ211, rfl, ⟨v202, v204, v206, v208, hB210, hP203, h205, h207, h209⟩, htr201⟩
   replace h139 := h139.mv htr201.rd
   replace hB165 := hB165.mv (htr201.mv (i := 100) rfl)
   replace hP158 := PtrO.mv hP158 secret_Locks.objK (fun p hp => htr201.mv (i := 100 + (1 + p)) (by rcases p with _ | _ | _ | p <;> first | rfl | omega)) (fun p hp => by show 100 + (1 + p) ≠ 0; omega)
   replace h160 := h160.mv (htr201.mv (i := 104) rfl)
   replace h162 := h162.mv (htr201.mv (i := 105) rfl)
   replace h164 := h164.mv (htr201.mv (i := 106) rfl)
   replace hb := hb.trans htr201
   replace hB210 : Blk ρ211 200 w199 g31 (.cells #[v202, v204, v206, v208] 69 (0, 0)) := hB210
   replace hP203 : PtrO secret_Locks.O (fun q => 200 + (1 + q)) ρ211 w199 v202 y197.2.locks := hP203
   replace h205 : MapT str login_credentials.c true ρ211 204 w199 v204 y197.2.users := h205
   replace h207 : MapT str (intC .i64) false ρ211 205 w199 v206 y197.2.counters := h207
   replace h209 : MapT str login_attempt.c true ρ211 206 w199 v208 y197.2.attempts := h209
   refine sr_ev (v := .pointer (some ⟨g31, 0, none⟩)) (ev_move rfl) (by decide) ?_
   obtain ⟨y212, hy213, hS⟩ := bind_some' hS
   refine sr_call (vs := [.pointer (some ⟨g31, 0, none⟩), str ([120]), str ([119, 114, 111, 110, 103, 119, 111, 114, 100]), .int .i64 0]) rfl Tryz.call19 rfl (login_Logins_Password_ok _ (hg.fr hz hb) (ρA := ρ211) hb.bd (hz.fr hg hb) (o := 200) (by decide) (⟨_, _, _, _, hB210, hP203, h205, h207, h209⟩ : login_Logins.O (fun p => 200 + p) ρ211 w199 g31 y197.2) hy213) (by decide) ?_
   rintro _ w214 ⟨ρ226, rfl, ⟨v217, v219, v221, v223, hB225, hP218, h220, h222, h224⟩, htr216⟩
   replace h139 := h139.mv htr216.rd
   replace hB165 := hB165.mv (htr216.mv (i := 100) rfl)
   replace hP158 := PtrO.mv hP158 secret_Locks.objK (fun p hp => htr216.mv (i := 100 + (1 + p)) (by rcases p with _ | _ | _ | p <;> first | rfl | omega)) (fun p hp => by show 100 + (1 + p) ≠ 0; omega)
   replace h160 := h160.mv (htr216.mv (i := 104) rfl)
   replace h162 := h162.mv (htr216.mv (i := 105) rfl)
   replace h164 := h164.mv (htr216.mv (i := 106) rfl)
   replace hb := hb.trans htr216
   replace hB225 : Blk ρ226 200 w214 g31 (.cells #[v217, v219, v221, v223] 69 (0, 0)) := hB225
   replace hP218 : PtrO secret_Locks.O (fun q => 200 + (1 + q)) ρ226 w214 v217 y212.2.locks := hP218
   replace h220 : MapT str login_credentials.c true ρ226 204 w214 v219 y212.2.users := h220
   replace h222 : MapT str (intC .i64) false ρ226 205 w214 v221 y212.2.counters := h222
   replace h224 : MapT str login_attempt.c true ρ226 206 w214 v223 y212.2.attempts := h224
   refine sr_ev (v := .pointer (some ⟨g31, 0, none⟩)) (ev_move rfl) (by decide) ?_
   obtain ⟨y227, hy228, hS⟩ := bind_some' hS
   refine sr_call (vs := [.pointer (some ⟨g31, 0, none⟩), str ([120]), str ([115, 101, 99, 114, 101, 116, 119, 111, 114, 100]), .int .i64 0]) rfl Tryz.call19 rfl (login_Logins_Password_ok _ (hg.fr hz hb) (ρA := ρ226) hb.bd (hz.fr hg hb) (o := 200) (by decide) (⟨_, _, _, _, hB225, hP218, h220, h222, h224⟩ : login_Logins.O (fun p => 200 + p) ρ226 w214 g31 y212.2) hy228) (by decide) ?_
   rintro _ w229 ⟨ρ241, rfl, ⟨v232, v234, v236, v238, hB240, hP233, h235, h237, h239⟩, htr231⟩
   replace h139 := h139.mv htr231.rd
   replace hB165 := hB165.mv (htr231.mv (i := 100) rfl)
   replace hP158 := PtrO.mv hP158 secret_Locks.objK (fun p hp => htr231.mv (i := 100 + (1 + p)) (by rcases p with _ | _ | _ | p <;> first | rfl | omega)) (fun p hp => by show 100 + (1 + p) ≠ 0; omega)
   replace h160 := h160.mv (htr231.mv (i := 104) rfl)
   replace h162 := h162.mv (htr231.mv (i := 105) rfl)
   replace h164 := h164.mv (htr231.mv (i := 106) rfl)
   replace hb := hb.trans htr231
   replace hB240 : Blk ρ241 200 w229 g31 (.cells #[v232, v234, v236, v238] 69 (0, 0)) := hB240
   replace hP233 : PtrO secret_Locks.O (fun q => 200 + (1 + q)) ρ241 w229 v232 y227.2.locks := hP233
   replace h235 : MapT str login_credentials.c true ρ241 204 w229 v234 y227.2.users := h235
   replace h237 : MapT str (intC .i64) false ρ241 205 w229 v236 y227.2.counters := h237
   replace h239 : MapT str login_attempt.c true ρ241 206 w229 v238 y227.2.attempts := h239
   refine sr_ev (v := .int .i64 y197.1) (ev_assign rfl) (by decide) ?_
   refine sr_ev (v := .int .i64 y212.1) (ev_assign rfl) (by decide) ?_
   refine sr_ev (v := .int .i64 y227.1) (ev_assign rfl) (by decide) ?_
   refine sr_end (l' := [(1, .pointer (some ⟨g11, 0, none⟩)), (2, .pointer (some ⟨g31, 0, none⟩)), (3, .int .i64 y41.1), (4, .int .i64 y56.1), (5, .int .i64 y71.1), (6, .int .i64 y86.1), (7, .int .i64 y101.1), (10, .int .i64 y116.2.2.1), (11, str y133.1), (12, v138), (13, .int .i64 y133.2.2.1), (16, .int .i64 y150.2.2.1), (17, .int .i64 y197.1), (18, .int .i64 y212.1), (19, .int .i64 y227.1)]) (.cons rfl (.cons rfl (.cons rfl (.cons rfl (.cons rfl (.cons rfl (.cons rfl (.cons rfl (.cons rfl (.cons rfl (.cons rfl (.cons rfl (.cons rfl (.cons rfl (.cons rfl (.nil _)))))))))))))))) ?_
   refine ke_seq ?_
   refine ke_region ?_
   obtain ⟨y242, hy243, hS⟩ := bind_some' hS
   refine sr_call (vs := [str ([115, 101, 101, 100]), .int .i64 0]) rfl Tryz.call12 rfl (otp_Code_ok _ (hg.fr hz hb) hy243) (by decide) ?_
   rintro _ w244 ⟨rfl, hbw245⟩
   have htr246 := Tr.of_below hbw245 hb.bd
   replace h139 := h139.mv htr246.rd
   replace hB240 := hB240.mv (htr246.mv (i := 200) rfl)
   replace hP233 := PtrO.mv hP233 secret_Locks.objK (fun p hp => htr246.mv (i := 200 + (1 + p)) (by rcases p with _ | _ | _ | p <;> first | rfl | omega)) (fun p hp => by show 200 + (1 + p) ≠ 0; omega)
   replace h235 := h235.mv (htr246.mv (i := 204) rfl)
   replace h237 := h237.mv (htr246.mv (i := 205) rfl)
   replace h239 := h239.mv (htr246.mv (i := 206) rfl)
   replace hB165 := hB165.mv (htr246.mv (i := 100) rfl)
   replace hP158 := PtrO.mv hP158 secret_Locks.objK (fun p hp => htr246.mv (i := 100 + (1 + p)) (by rcases p with _ | _ | _ | p <;> first | rfl | omega)) (fun p hp => by show 100 + (1 + p) ≠ 0; omega)
   replace h160 := h160.mv (htr246.mv (i := 104) rfl)
   replace h162 := h162.mv (htr246.mv (i := 105) rfl)
   replace h164 := h164.mv (htr246.mv (i := 106) rfl)
   replace hb := hb.trans htr246
   refine sr_ev (v := .tuple #[str y242.1, .int .i64 y242.2]) (ev_move rfl) (by decide) ?_
   refine sr_ev (v := str y242.1) (ev_extract rfl rfl) (by decide) ?_
   refine sr_ev (v := .int .i64 y242.2) (ev_extract rfl rfl) (by decide) ?_
   refine sr_ev (v := str y242.1) (ev_assign rfl) (by decide) ?_
   refine sr_ev (v := .int .i64 y242.2) (ev_assign rfl) (by decide) ?_
   refine sr_end (l' := [(1, .pointer (some ⟨g11, 0, none⟩)), (2, .pointer (some ⟨g31, 0, none⟩)), (3, .int .i64 y41.1), (4, .int .i64 y56.1), (5, .int .i64 y71.1), (6, .int .i64 y86.1), (7, .int .i64 y101.1), (10, .int .i64 y116.2.2.1), (11, str y133.1), (12, v138), (13, .int .i64 y133.2.2.1), (16, .int .i64 y150.2.2.1), (17, .int .i64 y197.1), (18, .int .i64 y212.1), (19, .int .i64 y227.1), (20, str y242.1), (21, .int .i64 y242.2)]) (.cons rfl (.cons rfl (.cons rfl (.cons rfl (.cons rfl (.cons rfl (.cons rfl (.cons rfl (.cons rfl (.cons rfl (.cons rfl (.cons rfl (.cons rfl (.cons rfl (.cons rfl (.cons rfl (.cons rfl (.nil _)))))))))))))))))) ?_
   refine ke_seq ?_
   refine ke_region ?_
   refine sr_ev (v := .pointer (some ⟨g11, 0, none⟩)) (ev_move rfl) (by decide) ?_
   obtain ⟨y247, hy248, hS⟩ := bind_some' hS
   refine sr_call (vs := [.pointer (some ⟨g11, 0, none⟩), str ([98]), str ([97, 110, 110]), .int .i64 0]) rfl Tryz.call14 rfl (login_Logins_Begin_ok _ (hg.fr hz hb) (ρA := ρ241) hb.bd (hz.fr hg hb) (o := 100) (by decide) (⟨_, _, _, _, hB165, hP158, h160, h162, h164⟩ : login_Logins.O (fun p => 100 + p) ρ241 w244 g11 y150.2.2.2) hy248) (by decide) ?_
   rintro _ w249 ⟨ρ261, rfl, ⟨v252, v254, v256, v258, hB260, hP253, h255, h257, h259⟩, htr251⟩
   replace h139 := h139.mv htr251.rd
   replace hB240 := hB240.mv (htr251.mv (i := 200) rfl)
   replace hP233 := PtrO.mv hP233 secret_Locks.objK (fun p hp => htr251.mv (i := 200 + (1 + p)) (by rcases p with _ | _ | _ | p <;> first | rfl | omega)) (fun p hp => by show 200 + (1 + p) ≠ 0; omega)
   replace h235 := h235.mv (htr251.mv (i := 204) rfl)
   replace h237 := h237.mv (htr251.mv (i := 205) rfl)
   replace h239 := h239.mv (htr251.mv (i := 206) rfl)
   replace hb := hb.trans htr251
   replace hB260 : Blk ρ261 100 w249 g11 (.cells #[v252, v254, v256, v258] 69 (0, 0)) := hB260
   replace hP253 : PtrO secret_Locks.O (fun q => 100 + (1 + q)) ρ261 w249 v252 y247.2.locks := hP253
   replace h255 : MapT str login_credentials.c true ρ261 104 w249 v254 y247.2.users := h255
   replace h257 : MapT str (intC .i64) false ρ261 105 w249 v256 y247.2.counters := h257
   replace h259 : MapT str login_attempt.c true ρ261 106 w249 v258 y247.2.attempts := h259
   refine sr_ev (v := .int .i64 y247.1) (ev_assign rfl) (by decide) ?_
   refine sr_end (l' := [(1, .pointer (some ⟨g11, 0, none⟩)), (2, .pointer (some ⟨g31, 0, none⟩)), (3, .int .i64 y41.1), (4, .int .i64 y56.1), (5, .int .i64 y71.1), (6, .int .i64 y86.1), (7, .int .i64 y101.1), (10, .int .i64 y116.2.2.1), (11, str y133.1), (12, v138), (13, .int .i64 y133.2.2.1), (16, .int .i64 y150.2.2.1), (17, .int .i64 y197.1), (18, .int .i64 y212.1), (19, .int .i64 y227.1), (20, str y242.1), (21, .int .i64 y242.2), (22, .int .i64 y247.1)]) (.cons rfl (.cons rfl (.cons rfl (.cons rfl (.cons rfl (.cons rfl (.cons rfl (.cons rfl (.cons rfl (.cons rfl (.cons rfl (.cons rfl (.cons rfl (.cons rfl (.cons rfl (.cons rfl (.cons rfl (.cons rfl (.nil _))))))))))))))))))) ?_
   refine ke_seq ?_
   refine ke_region ?_
   refine sr_ev (v := .pointer (some ⟨g11, 0, none⟩)) (ev_move rfl) (by decide) ?_
   refine sr_ev (v := str y242.1) (ev_move rfl) (by decide) ?_
   obtain ⟨y262, hy263, hS⟩ := bind_some' hS
   refine sr_call (vs := [.pointer (some ⟨g11, 0, none⟩), str ([98]), str y242.1, .int .i64 0]) rfl Tryz.call15 rfl (login_Logins_Code_ok _ (hg.fr hz hb) (ρA := ρ261) hb.bd (hz.fr hg hb) (o := 100) (by decide) (⟨_, _, _, _, hB260, hP253, h255, h257, h259⟩ : login_Logins.O (fun p => 100 + p) ρ261 w249 g11 y247.2) hy263) (by decide) ?_
   rintro _ w264 ⟨ρ276, rfl, ⟨v267, v269, v271, v273, hB275, hP268, h270, h272, h274⟩, htr266⟩
   replace h139 := h139.mv htr266.rd
   replace hB240 := hB240.mv (htr266.mv (i := 200) rfl)
   replace hP233 := PtrO.mv hP233 secret_Locks.objK (fun p hp => htr266.mv (i := 200 + (1 + p)) (by rcases p with _ | _ | _ | p <;> first | rfl | omega)) (fun p hp => by show 200 + (1 + p) ≠ 0; omega)
   replace h235 := h235.mv (htr266.mv (i := 204) rfl)
   replace h237 := h237.mv (htr266.mv (i := 205) rfl)
   replace h239 := h239.mv (htr266.mv (i := 206) rfl)
   replace hb := hb.trans htr266
   replace hB275 : Blk ρ276 100 w264 g11 (.cells #[v267, v269, v271, v273] 69 (0, 0)) := hB275
   replace hP268 : PtrO secret_Locks.O (fun q => 100 + (1 + q)) ρ276 w264 v267 y262.2.locks := hP268
   replace h270 : MapT str login_credentials.c true ρ276 104 w264 v269 y262.2.users := h270
   replace h272 : MapT str (intC .i64) false ρ276 105 w264 v271 y262.2.counters := h272
   replace h274 : MapT str login_attempt.c true ρ276 106 w264 v273 y262.2.attempts := h274
   refine sr_ev (v := .int .i64 y262.1) (ev_assign rfl) (by decide) ?_
   refine sr_end (l' := [(1, .pointer (some ⟨g11, 0, none⟩)), (2, .pointer (some ⟨g31, 0, none⟩)), (3, .int .i64 y41.1), (4, .int .i64 y56.1), (5, .int .i64 y71.1), (6, .int .i64 y86.1), (7, .int .i64 y101.1), (10, .int .i64 y116.2.2.1), (11, str y133.1), (12, v138), (13, .int .i64 y133.2.2.1), (16, .int .i64 y150.2.2.1), (17, .int .i64 y197.1), (18, .int .i64 y212.1), (19, .int .i64 y227.1), (20, str y242.1), (21, .int .i64 y242.2), (22, .int .i64 y247.1), (23, .int .i64 y262.1)]) (.cons rfl (.cons rfl (.cons rfl (.cons rfl (.cons rfl (.cons rfl (.cons rfl (.cons rfl (.cons rfl (.cons rfl (.cons rfl (.cons rfl (.cons rfl (.cons rfl (.cons rfl (.cons rfl (.cons rfl (.cons rfl (.cons rfl (.nil _)))))))))))))))))))) ?_
   refine ke_seq ?_
   refine ke_region ?_
   refine sr_ev (v := .pointer (some ⟨g11, 0, none⟩)) (ev_move rfl) (by decide) ?_
   obtain ⟨y277, hy278, hS⟩ := bind_some' hS
   refine sr_call (vs := [.pointer (some ⟨g11, 0, none⟩), str ([99]), str ([97, 110, 110]), .int .i64 0]) rfl Tryz.call14 rfl (login_Logins_Begin_ok _ (hg.fr hz hb) (ρA := ρ276) hb.bd (hz.fr hg hb) (o := 100) (by decide) (⟨_, _, _, _, hB275, hP268, h270, h272, h274⟩ : login_Logins.O (fun p => 100 + p) ρ276 w264 g11 y262.2) hy278) (by decide) ?_
   rintro _ w279 ⟨ρ291, rfl, ⟨v282, v284, v286, v288, hB290, hP283, h285, h287, h289⟩, htr281⟩
   replace h139 := h139.mv htr281.rd
   replace hB240 := hB240.mv (htr281.mv (i := 200) rfl)
   replace hP233 := PtrO.mv hP233 secret_Locks.objK (fun p hp => htr281.mv (i := 200 + (1 + p)) (by rcases p with _ | _ | _ | p <;> first | rfl | omega)) (fun p hp => by show 200 + (1 + p) ≠ 0; omega)
   replace h235 := h235.mv (htr281.mv (i := 204) rfl)
   replace h237 := h237.mv (htr281.mv (i := 205) rfl)
   replace h239 := h239.mv (htr281.mv (i := 206) rfl)
   replace hb := hb.trans htr281
   replace hB290 : Blk ρ291 100 w279 g11 (.cells #[v282, v284, v286, v288] 69 (0, 0)) := hB290
   replace hP283 : PtrO secret_Locks.O (fun q => 100 + (1 + q)) ρ291 w279 v282 y277.2.locks := hP283
   replace h285 : MapT str login_credentials.c true ρ291 104 w279 v284 y277.2.users := h285
   replace h287 : MapT str (intC .i64) false ρ291 105 w279 v286 y277.2.counters := h287
   replace h289 : MapT str login_attempt.c true ρ291 106 w279 v288 y277.2.attempts := h289
   refine sr_end (l' := [(1, .pointer (some ⟨g11, 0, none⟩)), (2, .pointer (some ⟨g31, 0, none⟩)), (3, .int .i64 y41.1), (4, .int .i64 y56.1), (5, .int .i64 y71.1), (6, .int .i64 y86.1), (7, .int .i64 y101.1), (10, .int .i64 y116.2.2.1), (11, str y133.1), (12, v138), (13, .int .i64 y133.2.2.1), (16, .int .i64 y150.2.2.1), (17, .int .i64 y197.1), (18, .int .i64 y212.1), (19, .int .i64 y227.1), (20, str y242.1), (21, .int .i64 y242.2), (22, .int .i64 y247.1), (23, .int .i64 y262.1)]) (.cons rfl (.cons rfl (.cons rfl (.cons rfl (.cons rfl (.cons rfl (.cons rfl (.cons rfl (.cons rfl (.cons rfl (.cons rfl (.cons rfl (.cons rfl (.cons rfl (.cons rfl (.cons rfl (.cons rfl (.cons rfl (.cons rfl (.nil _)))))))))))))))))))) ?_
   refine ke_seq ?_
   refine ke_region ?_
   obtain ⟨y292, hy293, hS⟩ := bind_some' hS
   refine sr_call (vs := [str ([115, 101, 101, 100]), .int .i64 1]) rfl Tryz.call12 rfl (otp_Code_ok _ (hg.fr hz hb) hy293) (by decide) ?_
   rintro _ w294 ⟨rfl, hbw295⟩
   have htr296 := Tr.of_below hbw295 hb.bd
   replace h139 := h139.mv htr296.rd
   replace hB240 := hB240.mv (htr296.mv (i := 200) rfl)
   replace hP233 := PtrO.mv hP233 secret_Locks.objK (fun p hp => htr296.mv (i := 200 + (1 + p)) (by rcases p with _ | _ | _ | p <;> first | rfl | omega)) (fun p hp => by show 200 + (1 + p) ≠ 0; omega)
   replace h235 := h235.mv (htr296.mv (i := 204) rfl)
   replace h237 := h237.mv (htr296.mv (i := 205) rfl)
   replace h239 := h239.mv (htr296.mv (i := 206) rfl)
   replace hB290 := hB290.mv (htr296.mv (i := 100) rfl)
   replace hP283 := PtrO.mv hP283 secret_Locks.objK (fun p hp => htr296.mv (i := 100 + (1 + p)) (by rcases p with _ | _ | _ | p <;> first | rfl | omega)) (fun p hp => by show 100 + (1 + p) ≠ 0; omega)
   replace h285 := h285.mv (htr296.mv (i := 104) rfl)
   replace h287 := h287.mv (htr296.mv (i := 105) rfl)
   replace h289 := h289.mv (htr296.mv (i := 106) rfl)
   replace hb := hb.trans htr296
   refine sr_ev (v := .tuple #[str y292.1, .int .i64 y292.2]) (ev_move rfl) (by decide) ?_
   refine sr_ev (v := str y292.1) (ev_extract rfl rfl) (by decide) ?_
   refine sr_ev (v := .int .i64 y292.2) (ev_extract rfl rfl) (by decide) ?_
   refine sr_ev (v := str y292.1) (ev_assign rfl) (by decide) ?_
   refine sr_ev (v := .int .i64 y292.2) (ev_assign rfl) (by decide) ?_
   refine sr_end (l' := [(1, .pointer (some ⟨g11, 0, none⟩)), (2, .pointer (some ⟨g31, 0, none⟩)), (3, .int .i64 y41.1), (4, .int .i64 y56.1), (5, .int .i64 y71.1), (6, .int .i64 y86.1), (7, .int .i64 y101.1), (10, .int .i64 y116.2.2.1), (11, str y133.1), (12, v138), (13, .int .i64 y133.2.2.1), (16, .int .i64 y150.2.2.1), (17, .int .i64 y197.1), (18, .int .i64 y212.1), (19, .int .i64 y227.1), (20, str y242.1), (21, .int .i64 y242.2), (22, .int .i64 y247.1), (23, .int .i64 y262.1), (24, str y292.1)]) (.cons rfl (.cons rfl (.cons rfl (.cons rfl (.cons rfl (.cons rfl (.cons rfl (.cons rfl (.cons rfl (.cons rfl (.cons rfl (.cons rfl (.cons rfl (.cons rfl (.cons rfl (.cons rfl (.cons rfl (.cons rfl (.cons rfl (.cons rfl (.nil _))))))))))))))))))))) ?_
   refine ke_seq ?_
   refine ke_region ?_
   obtain ⟨y297, hy298, hS⟩ := bind_some' hS
   refine sr_call (vs := [str ([115, 101, 101, 100]), .int .i64 2]) rfl Tryz.call12 rfl (otp_Code_ok _ (hg.fr hz hb) hy298) (by decide) ?_
   rintro _ w299 ⟨rfl, hbw300⟩
   have htr301 := Tr.of_below hbw300 hb.bd
   replace h139 := h139.mv htr301.rd
   replace hB240 := hB240.mv (htr301.mv (i := 200) rfl)
   replace hP233 := PtrO.mv hP233 secret_Locks.objK (fun p hp => htr301.mv (i := 200 + (1 + p)) (by rcases p with _ | _ | _ | p <;> first | rfl | omega)) (fun p hp => by show 200 + (1 + p) ≠ 0; omega)
   replace h235 := h235.mv (htr301.mv (i := 204) rfl)
   replace h237 := h237.mv (htr301.mv (i := 205) rfl)
   replace h239 := h239.mv (htr301.mv (i := 206) rfl)
   replace hB290 := hB290.mv (htr301.mv (i := 100) rfl)
   replace hP283 := PtrO.mv hP283 secret_Locks.objK (fun p hp => htr301.mv (i := 100 + (1 + p)) (by rcases p with _ | _ | _ | p <;> first | rfl | omega)) (fun p hp => by show 100 + (1 + p) ≠ 0; omega)
   replace h285 := h285.mv (htr301.mv (i := 104) rfl)
   replace h287 := h287.mv (htr301.mv (i := 105) rfl)
   replace h289 := h289.mv (htr301.mv (i := 106) rfl)
   replace hb := hb.trans htr301
   refine sr_ev (v := .tuple #[str y297.1, .int .i64 y297.2]) (ev_move rfl) (by decide) ?_
   refine sr_ev (v := str y297.1) (ev_extract rfl rfl) (by decide) ?_
   refine sr_ev (v := .int .i64 y297.2) (ev_extract rfl rfl) (by decide) ?_
   refine sr_ev (v := str y297.1) (ev_assign rfl) (by decide) ?_
   refine sr_ev (v := .int .i64 y297.2) (ev_assign rfl) (by decide) ?_
   refine sr_end (l' := [(1, .pointer (some ⟨g11, 0, none⟩)), (2, .pointer (some ⟨g31, 0, none⟩)), (3, .int .i64 y41.1), (4, .int .i64 y56.1), (5, .int .i64 y71.1), (6, .int .i64 y86.1), (7, .int .i64 y101.1), (10, .int .i64 y116.2.2.1), (11, str y133.1), (12, v138), (13, .int .i64 y133.2.2.1), (16, .int .i64 y150.2.2.1), (17, .int .i64 y197.1), (18, .int .i64 y212.1), (19, .int .i64 y227.1), (20, str y242.1), (21, .int .i64 y242.2), (22, .int .i64 y247.1), (23, .int .i64 y262.1), (24, str y292.1), (26, str y297.1)]) (.cons rfl (.cons rfl (.cons rfl (.cons rfl (.cons rfl (.cons rfl (.cons rfl (.cons rfl (.cons rfl (.cons rfl (.cons rfl (.cons rfl (.cons rfl (.cons rfl (.cons rfl (.cons rfl (.cons rfl (.cons rfl (.cons rfl (.cons rfl (.cons rfl (.nil _)))))))))))))))))))))) ?_
   refine ke_seq ?_
   refine ke_region ?_
   refine sr_ev (v := .pointer (some ⟨g11, 0, none⟩)) (ev_move rfl) (by decide) ?_
   refine sr_ev (v := str y242.1) (ev_move rfl) (by decide) ?_
   obtain ⟨y302, hy303, hS⟩ := bind_some' hS
   refine sr_call (vs := [.pointer (some ⟨g11, 0, none⟩), str ([99]), str y242.1, .int .i64 0]) rfl Tryz.call15 rfl (login_Logins_Code_ok _ (hg.fr hz hb) (ρA := ρ291) hb.bd (hz.fr hg hb) (o := 100) (by decide) (⟨_, _, _, _, hB290, hP283, h285, h287, h289⟩ : login_Logins.O (fun p => 100 + p) ρ291 w299 g11 y277.2) hy303) (by decide) ?_
   rintro _ w304 ⟨ρ316, rfl, ⟨v307, v309, v311, v313, hB315, hP308, h310, h312, h314⟩, htr306⟩
   replace h139 := h139.mv htr306.rd
   replace hB240 := hB240.mv (htr306.mv (i := 200) rfl)
   replace hP233 := PtrO.mv hP233 secret_Locks.objK (fun p hp => htr306.mv (i := 200 + (1 + p)) (by rcases p with _ | _ | _ | p <;> first | rfl | omega)) (fun p hp => by show 200 + (1 + p) ≠ 0; omega)
   replace h235 := h235.mv (htr306.mv (i := 204) rfl)
   replace h237 := h237.mv (htr306.mv (i := 205) rfl)
   replace h239 := h239.mv (htr306.mv (i := 206) rfl)
   replace hb := hb.trans htr306
   replace hB315 : Blk ρ316 100 w304 g11 (.cells #[v307, v309, v311, v313] 69 (0, 0)) := hB315
   replace hP308 : PtrO secret_Locks.O (fun q => 100 + (1 + q)) ρ316 w304 v307 y302.2.locks := hP308
   replace h310 : MapT str login_credentials.c true ρ316 104 w304 v309 y302.2.users := h310
   replace h312 : MapT str (intC .i64) false ρ316 105 w304 v311 y302.2.counters := h312
   replace h314 : MapT str login_attempt.c true ρ316 106 w304 v313 y302.2.attempts := h314
   refine sr_ev (v := .int .i64 y302.1) (ev_assign rfl) (by decide) ?_
   refine sr_end (l' := [(2, .pointer (some ⟨g31, 0, none⟩)), (3, .int .i64 y41.1), (4, .int .i64 y56.1), (5, .int .i64 y71.1), (6, .int .i64 y86.1), (7, .int .i64 y101.1), (10, .int .i64 y116.2.2.1), (11, str y133.1), (12, v138), (13, .int .i64 y133.2.2.1), (16, .int .i64 y150.2.2.1), (17, .int .i64 y197.1), (18, .int .i64 y212.1), (19, .int .i64 y227.1), (20, str y242.1), (21, .int .i64 y242.2), (22, .int .i64 y247.1), (23, .int .i64 y262.1), (24, str y292.1), (26, str y297.1), (28, .int .i64 y302.1)]) (.cons rfl (.cons rfl (.cons rfl (.cons rfl (.cons rfl (.cons rfl (.cons rfl (.cons rfl (.cons rfl (.cons rfl (.cons rfl (.cons rfl (.cons rfl (.cons rfl (.cons rfl (.cons rfl (.cons rfl (.cons rfl (.cons rfl (.cons rfl (.cons rfl (.nil _)))))))))))))))))))))) ?_
   refine ke_seq ?_
   refine ke_region ?_
   refine sr_ev (v := .int .i64 y302.1) (ev_move rfl) (by decide) ?_
   refine sr_ev (v := .bool (y302.1 == 11)) (ev_eq rfl rfl) (by decide) ?_
   refine sr_ev (v := .bool (y302.1 == 11)) (ev_move rfl) (by decide) ?_
   refine sr_join (m := 13) (C := fun (x : Bool) w1 => x = ((y302.1 == 11) || ((y302.1 == 0) && ((y292.1 == y242.1) || (y297.1 == y242.1)))) ∧ w304 = w1) (l' := fun x => [(2, .pointer (some ⟨g31, 0, none⟩)), (3, .int .i64 y41.1), (4, .int .i64 y56.1), (5, .int .i64 y71.1), (6, .int .i64 y86.1), (7, .int .i64 y101.1), (10, .int .i64 y116.2.2.1), (11, str y133.1), (12, v138), (13, .int .i64 y133.2.2.1), (16, .int .i64 y150.2.2.1), (17, .int .i64 y197.1), (18, .int .i64 y212.1), (19, .int .i64 y227.1), (21, .int .i64 y242.2), (22, .int .i64 y247.1), (23, .int .i64 y262.1), (112, .bool x)]) ?_ ?_
   ·rintro _ _ ⟨rfl, rfl⟩
    refine sr_ev (v := .bool ((y302.1 == 11) || ((y302.1 == 0) && ((y292.1 == y242.1) || (y297.1 == y242.1))))) (ev_move rfl) (by decide) ?_
    refine sr_join (m := 3) (C := fun (x : Bool) w1 => x = (((y302.1 == 11) || ((y302.1 == 0) && ((y292.1 == y242.1) || (y297.1 == y242.1)))) && (y41.1 == 0)) ∧ w304 = w1) (l' := fun x => [(2, .pointer (some ⟨g31, 0, none⟩)), (4, .int .i64 y56.1), (5, .int .i64 y71.1), (6, .int .i64 y86.1), (7, .int .i64 y101.1), (10, .int .i64 y116.2.2.1), (11, str y133.1), (12, v138), (13, .int .i64 y133.2.2.1), (16, .int .i64 y150.2.2.1), (17, .int .i64 y197.1), (18, .int .i64 y212.1), (19, .int .i64 y227.1), (21, .int .i64 y242.2), (22, .int .i64 y247.1), (23, .int .i64 y262.1), (116, .bool x)]) ?_ ?_
    ·rintro _ _ ⟨rfl, rfl⟩
     refine sr_ev (v := .bool (((y302.1 == 11) || ((y302.1 == 0) && ((y292.1 == y242.1) || (y297.1 == y242.1)))) && (y41.1 == 0))) (ev_move rfl) (by decide) ?_
     refine sr_join (m := 3) (C := fun (x : Bool) w1 => x = ((((y302.1 == 11) || ((y302.1 == 0) && ((y292.1 == y242.1) || (y297.1 == y242.1)))) && (y41.1 == 0)) && (y56.1 == 7)) ∧ w304 = w1) (l' := fun x => [(2, .pointer (some ⟨g31, 0, none⟩)), (5, .int .i64 y71.1), (6, .int .i64 y86.1), (7, .int .i64 y101.1), (10, .int .i64 y116.2.2.1), (11, str y133.1), (12, v138), (13, .int .i64 y133.2.2.1), (16, .int .i64 y150.2.2.1), (17, .int .i64 y197.1), (18, .int .i64 y212.1), (19, .int .i64 y227.1), (21, .int .i64 y242.2), (22, .int .i64 y247.1), (23, .int .i64 y262.1), (120, .bool x)]) ?_ ?_
     ·rintro _ _ ⟨rfl, rfl⟩
      refine sr_ev (v := .bool ((((y302.1 == 11) || ((y302.1 == 0) && ((y292.1 == y242.1) || (y297.1 == y242.1)))) && (y41.1 == 0)) && (y56.1 == 7))) (ev_move rfl) (by decide) ?_
      refine sr_join (m := 3) (C := fun (x : Bool) w1 => x = (((((y302.1 == 11) || ((y302.1 == 0) && ((y292.1 == y242.1) || (y297.1 == y242.1)))) && (y41.1 == 0)) && (y56.1 == 7)) && (y71.1 == 11)) ∧ w304 = w1) (l' := fun x => [(2, .pointer (some ⟨g31, 0, none⟩)), (6, .int .i64 y86.1), (7, .int .i64 y101.1), (10, .int .i64 y116.2.2.1), (11, str y133.1), (12, v138), (13, .int .i64 y133.2.2.1), (16, .int .i64 y150.2.2.1), (17, .int .i64 y197.1), (18, .int .i64 y212.1), (19, .int .i64 y227.1), (21, .int .i64 y242.2), (22, .int .i64 y247.1), (23, .int .i64 y262.1), (124, .bool x)]) ?_ ?_
      ·rintro _ _ ⟨rfl, rfl⟩
       refine sr_ev (v := .bool (((((y302.1 == 11) || ((y302.1 == 0) && ((y292.1 == y242.1) || (y297.1 == y242.1)))) && (y41.1 == 0)) && (y56.1 == 7)) && (y71.1 == 11))) (ev_move rfl) (by decide) ?_
       refine sr_join (m := 3) (C := fun (x : Bool) w1 => x = ((((((y302.1 == 11) || ((y302.1 == 0) && ((y292.1 == y242.1) || (y297.1 == y242.1)))) && (y41.1 == 0)) && (y56.1 == 7)) && (y71.1 == 11)) && (y86.1 == 0)) ∧ w304 = w1) (l' := fun x => [(2, .pointer (some ⟨g31, 0, none⟩)), (7, .int .i64 y101.1), (10, .int .i64 y116.2.2.1), (11, str y133.1), (12, v138), (13, .int .i64 y133.2.2.1), (16, .int .i64 y150.2.2.1), (17, .int .i64 y197.1), (18, .int .i64 y212.1), (19, .int .i64 y227.1), (21, .int .i64 y242.2), (22, .int .i64 y247.1), (23, .int .i64 y262.1), (128, .bool x)]) ?_ ?_
       ·rintro _ _ ⟨rfl, rfl⟩
        refine sr_ev (v := .bool ((((((y302.1 == 11) || ((y302.1 == 0) && ((y292.1 == y242.1) || (y297.1 == y242.1)))) && (y41.1 == 0)) && (y56.1 == 7)) && (y71.1 == 11)) && (y86.1 == 0))) (ev_move rfl) (by decide) ?_
        refine sr_join (m := 3) (C := fun (x : Bool) w1 => x = (((((((y302.1 == 11) || ((y302.1 == 0) && ((y292.1 == y242.1) || (y297.1 == y242.1)))) && (y41.1 == 0)) && (y56.1 == 7)) && (y71.1 == 11)) && (y86.1 == 0)) && (y101.1 == 12)) ∧ w304 = w1) (l' := fun x => [(2, .pointer (some ⟨g31, 0, none⟩)), (10, .int .i64 y116.2.2.1), (11, str y133.1), (12, v138), (13, .int .i64 y133.2.2.1), (16, .int .i64 y150.2.2.1), (17, .int .i64 y197.1), (18, .int .i64 y212.1), (19, .int .i64 y227.1), (21, .int .i64 y242.2), (22, .int .i64 y247.1), (23, .int .i64 y262.1), (132, .bool x)]) ?_ ?_
        ·rintro _ _ ⟨rfl, rfl⟩
         refine sr_ev (v := .bool (((((((y302.1 == 11) || ((y302.1 == 0) && ((y292.1 == y242.1) || (y297.1 == y242.1)))) && (y41.1 == 0)) && (y56.1 == 7)) && (y71.1 == 11)) && (y86.1 == 0)) && (y101.1 == 12))) (ev_move rfl) (by decide) ?_
         refine sr_join (m := 3) (C := fun (x : Bool) w1 => x = ((((((((y302.1 == 11) || ((y302.1 == 0) && ((y292.1 == y242.1) || (y297.1 == y242.1)))) && (y41.1 == 0)) && (y56.1 == 7)) && (y71.1 == 11)) && (y86.1 == 0)) && (y101.1 == 12)) && (y116.2.2.1 == 21)) ∧ w304 = w1) (l' := fun x => [(2, .pointer (some ⟨g31, 0, none⟩)), (11, str y133.1), (12, v138), (13, .int .i64 y133.2.2.1), (16, .int .i64 y150.2.2.1), (17, .int .i64 y197.1), (18, .int .i64 y212.1), (19, .int .i64 y227.1), (21, .int .i64 y242.2), (22, .int .i64 y247.1), (23, .int .i64 y262.1), (136, .bool x)]) ?_ ?_
         ·rintro _ _ ⟨rfl, rfl⟩
          refine sr_ev (v := .bool ((((((((y302.1 == 11) || ((y302.1 == 0) && ((y292.1 == y242.1) || (y297.1 == y242.1)))) && (y41.1 == 0)) && (y56.1 == 7)) && (y71.1 == 11)) && (y86.1 == 0)) && (y101.1 == 12)) && (y116.2.2.1 == 21))) (ev_move rfl) (by decide) ?_
          refine sr_join (m := 3) (C := fun (x : Bool) w1 => x = (((((((((y302.1 == 11) || ((y302.1 == 0) && ((y292.1 == y242.1) || (y297.1 == y242.1)))) && (y41.1 == 0)) && (y56.1 == 7)) && (y71.1 == 11)) && (y86.1 == 0)) && (y101.1 == 12)) && (y116.2.2.1 == 21)) && (y133.2.2.1 == 0)) ∧ w304 = w1) (l' := fun x => [(2, .pointer (some ⟨g31, 0, none⟩)), (11, str y133.1), (12, v138), (16, .int .i64 y150.2.2.1), (17, .int .i64 y197.1), (18, .int .i64 y212.1), (19, .int .i64 y227.1), (21, .int .i64 y242.2), (22, .int .i64 y247.1), (23, .int .i64 y262.1), (140, .bool x)]) ?_ ?_
          ·rintro _ _ ⟨rfl, rfl⟩
           refine sr_ev (v := .bool (((((((((y302.1 == 11) || ((y302.1 == 0) && ((y292.1 == y242.1) || (y297.1 == y242.1)))) && (y41.1 == 0)) && (y56.1 == 7)) && (y71.1 == 11)) && (y86.1 == 0)) && (y101.1 == 12)) && (y116.2.2.1 == 21)) && (y133.2.2.1 == 0))) (ev_move rfl) (by decide) ?_
           refine sr_join (m := 3) (C := fun (x : Bool) w1 => x = ((((((((((y302.1 == 11) || ((y302.1 == 0) && ((y292.1 == y242.1) || (y297.1 == y242.1)))) && (y41.1 == 0)) && (y56.1 == 7)) && (y71.1 == 11)) && (y86.1 == 0)) && (y101.1 == 12)) && (y116.2.2.1 == 21)) && (y133.2.2.1 == 0)) && (y133.1 == ([97, 110, 110]))) ∧ w304 = w1) (l' := fun x => [(2, .pointer (some ⟨g31, 0, none⟩)), (12, v138), (16, .int .i64 y150.2.2.1), (17, .int .i64 y197.1), (18, .int .i64 y212.1), (19, .int .i64 y227.1), (21, .int .i64 y242.2), (22, .int .i64 y247.1), (23, .int .i64 y262.1), (144, .bool x)]) ?_ ?_
           ·rintro _ _ ⟨rfl, rfl⟩
            refine sr_ev (v := .bool ((((((((((y302.1 == 11) || ((y302.1 == 0) && ((y292.1 == y242.1) || (y297.1 == y242.1)))) && (y41.1 == 0)) && (y56.1 == 7)) && (y71.1 == 11)) && (y86.1 == 0)) && (y101.1 == 12)) && (y116.2.2.1 == 21)) && (y133.2.2.1 == 0)) && (y133.1 == ([97, 110, 110])))) (ev_move rfl) (by decide) ?_
            refine sr_join (m := 4) (C := fun (x : Bool) w1 => x = (((((((((((y302.1 == 11) || ((y302.1 == 0) && ((y292.1 == y242.1) || (y297.1 == y242.1)))) && (y41.1 == 0)) && (y56.1 == 7)) && (y71.1 == 11)) && (y86.1 == 0)) && (y101.1 == 12)) && (y116.2.2.1 == 21)) && (y133.2.2.1 == 0)) && (y133.1 == ([97, 110, 110]))) && ((y133.2.1.length : Int) == 1)) ∧ w304 = w1) (l' := fun x => [(2, .pointer (some ⟨g31, 0, none⟩)), (12, v138), (16, .int .i64 y150.2.2.1), (17, .int .i64 y197.1), (18, .int .i64 y212.1), (19, .int .i64 y227.1), (21, .int .i64 y242.2), (22, .int .i64 y247.1), (23, .int .i64 y262.1), (149, .bool x)]) ?_ ?_
            ·rintro _ _ ⟨rfl, rfl⟩
             refine sr_ev (v := .bool (((((((((((y302.1 == 11) || ((y302.1 == 0) && ((y292.1 == y242.1) || (y297.1 == y242.1)))) && (y41.1 == 0)) && (y56.1 == 7)) && (y71.1 == 11)) && (y86.1 == 0)) && (y101.1 == 12)) && (y116.2.2.1 == 21)) && (y133.2.2.1 == 0)) && (y133.1 == ([97, 110, 110]))) && ((y133.2.1.length : Int) == 1))) (ev_move rfl) (by decide) ?_
             obtain ⟨z415, hz417, hS⟩ := bind_some' hS
             refine sr_join (m := 6) (C := fun (z : Bool) w1 => z415 = z ∧ ∃ ρ1, Tr ρ316 w304 (fun _ => false) ρ1 w1) (l' := fun z => [(2, .pointer (some ⟨g31, 0, none⟩)), (16, .int .i64 y150.2.2.1), (17, .int .i64 y197.1), (18, .int .i64 y212.1), (19, .int .i64 y227.1), (21, .int .i64 y242.2), (22, .int .i64 y247.1), (23, .int .i64 y262.1), (156, .bool z)]) ?_ ?_
             ·rintro _ w418 ⟨rfl, ρ419, hj416⟩
              replace hB240 := hB240.mv (hj416.mv (i := 200) rfl)
              replace hP233 := PtrO.mv hP233 secret_Locks.objK (fun p hp => hj416.mv (i := 200 + (1 + p)) (by rcases p with _ | _ | _ | p <;> first | rfl | omega)) (fun p hp => by show 200 + (1 + p) ≠ 0; omega)
              replace h235 := h235.mv (hj416.mv (i := 204) rfl)
              replace h237 := h237.mv (hj416.mv (i := 205) rfl)
              replace h239 := h239.mv (hj416.mv (i := 206) rfl)
              replace hb := hb.trans hj416
              refine sr_ev (v := .bool z415) (ev_move rfl) (by decide) ?_
              refine sr_join (m := 3) (C := fun (x : Bool) w1 => x = (z415 && (y150.2.2.1 == 6)) ∧ w418 = w1) (l' := fun x => [(2, .pointer (some ⟨g31, 0, none⟩)), (17, .int .i64 y197.1), (18, .int .i64 y212.1), (19, .int .i64 y227.1), (21, .int .i64 y242.2), (22, .int .i64 y247.1), (23, .int .i64 y262.1), (160, .bool x)]) ?_ ?_
              ·rintro _ _ ⟨rfl, rfl⟩
               refine sr_ev (v := .bool (z415 && (y150.2.2.1 == 6))) (ev_move rfl) (by decide) ?_
               refine sr_join (m := 3) (C := fun (x : Bool) w1 => x = ((z415 && (y150.2.2.1 == 6)) && (y197.1 == 11)) ∧ w418 = w1) (l' := fun x => [(2, .pointer (some ⟨g31, 0, none⟩)), (18, .int .i64 y212.1), (19, .int .i64 y227.1), (21, .int .i64 y242.2), (22, .int .i64 y247.1), (23, .int .i64 y262.1), (164, .bool x)]) ?_ ?_
               ·rintro _ _ ⟨rfl, rfl⟩
                refine sr_ev (v := .bool ((z415 && (y150.2.2.1 == 6)) && (y197.1 == 11))) (ev_move rfl) (by decide) ?_
                refine sr_join (m := 3) (C := fun (x : Bool) w1 => x = (((z415 && (y150.2.2.1 == 6)) && (y197.1 == 11)) && (y212.1 == 11)) ∧ w418 = w1) (l' := fun x => [(2, .pointer (some ⟨g31, 0, none⟩)), (19, .int .i64 y227.1), (21, .int .i64 y242.2), (22, .int .i64 y247.1), (23, .int .i64 y262.1), (168, .bool x)]) ?_ ?_
                ·rintro _ _ ⟨rfl, rfl⟩
                 refine sr_ev (v := .bool (((z415 && (y150.2.2.1 == 6)) && (y197.1 == 11)) && (y212.1 == 11))) (ev_move rfl) (by decide) ?_
                 refine sr_join (m := 3) (C := fun (x : Bool) w1 => x = ((((z415 && (y150.2.2.1 == 6)) && (y197.1 == 11)) && (y212.1 == 11)) && (y227.1 == 22)) ∧ w418 = w1) (l' := fun x => [(2, .pointer (some ⟨g31, 0, none⟩)), (21, .int .i64 y242.2), (22, .int .i64 y247.1), (23, .int .i64 y262.1), (172, .bool x)]) ?_ ?_
                 ·rintro _ _ ⟨rfl, rfl⟩
                  refine sr_ev (v := .bool ((((z415 && (y150.2.2.1 == 6)) && (y197.1 == 11)) && (y212.1 == 11)) && (y227.1 == 22))) (ev_move rfl) (by decide) ?_
                  refine sr_join (m := 3) (C := fun (x : Bool) w1 => x = (((((z415 && (y150.2.2.1 == 6)) && (y197.1 == 11)) && (y212.1 == 11)) && (y227.1 == 22)) && (y242.2 == 0)) ∧ w418 = w1) (l' := fun x => [(2, .pointer (some ⟨g31, 0, none⟩)), (22, .int .i64 y247.1), (23, .int .i64 y262.1), (176, .bool x)]) ?_ ?_
                  ·rintro _ _ ⟨rfl, rfl⟩
                   refine sr_ev (v := .bool (((((z415 && (y150.2.2.1 == 6)) && (y197.1 == 11)) && (y212.1 == 11)) && (y227.1 == 22)) && (y242.2 == 0))) (ev_move rfl) (by decide) ?_
                   refine sr_join (m := 3) (C := fun (x : Bool) w1 => x = ((((((z415 && (y150.2.2.1 == 6)) && (y197.1 == 11)) && (y212.1 == 11)) && (y227.1 == 22)) && (y242.2 == 0)) && (y247.1 == 0)) ∧ w418 = w1) (l' := fun x => [(2, .pointer (some ⟨g31, 0, none⟩)), (23, .int .i64 y262.1), (180, .bool x)]) ?_ ?_
                   ·rintro _ _ ⟨rfl, rfl⟩
                    refine sr_ev (v := .bool ((((((z415 && (y150.2.2.1 == 6)) && (y197.1 == 11)) && (y212.1 == 11)) && (y227.1 == 22)) && (y242.2 == 0)) && (y247.1 == 0))) (ev_move rfl) (by decide) ?_
                    refine sr_join (m := 3) (C := fun (x : Bool) w1 => x = (((((((z415 && (y150.2.2.1 == 6)) && (y197.1 == 11)) && (y212.1 == 11)) && (y227.1 == 22)) && (y242.2 == 0)) && (y247.1 == 0)) && (y262.1 == 0)) ∧ w418 = w1) (l' := fun x => [(2, .pointer (some ⟨g31, 0, none⟩)), (184, .bool x)]) ?_ ?_
                    ·rintro _ _ ⟨rfl, rfl⟩
                     refine sr_ev (v := .bool (((((((z415 && (y150.2.2.1 == 6)) && (y197.1 == 11)) && (y212.1 == 11)) && (y227.1 == 22)) && (y242.2 == 0)) && (y247.1 == 0)) && (y262.1 == 0))) (ev_move rfl) (by decide) ?_
                     obtain ⟨z486, hz488, hS⟩ := bind_some' hS
                     refine sr_join (m := 4) (C := fun (z : Bool × login_Logins) w1 => z486 = z ∧ ∃ ρ1, login_Logins.O (fun p => 200 + p) ρ1 w1 g31 z.2 ∧ Tr ρ419 w418 (fun t => ([200, 201, 202, 203, 204, 205, 206] : List Nat).contains t) ρ1 w1) (l' := fun z => [(2, .pointer (some ⟨g31, 0, none⟩)), (189, .bool z.1)]) ?_ ?_
                     ·rintro _ w489 ⟨rfl, ρ490, ⟨v507, v509, v511, v513, hB515, hP508, h510, h512, h514⟩, hj487⟩
                      replace hb := hb.trans hj487
                      replace hB515 : Blk ρ490 200 w489 g31 (.cells #[v507, v509, v511, v513] 69 (0, 0)) := hB515
                      replace hP508 : PtrO secret_Locks.O (fun q => 200 + (1 + q)) ρ490 w489 v507 z486.2.locks := hP508
                      replace h510 : MapT str login_credentials.c true ρ490 204 w489 v509 z486.2.users := h510
                      replace h512 : MapT str (intC .i64) false ρ490 205 w489 v511 z486.2.counters := h512
                      replace h514 : MapT str login_attempt.c true ρ490 206 w489 v513 z486.2.attempts := h514
                      refine sr_ev (v := .bool z486.1) (ev_move rfl) (by decide) ?_
                      obtain ⟨z518, hz520, hS⟩ := bind_some' hS
                      refine sr_join (m := 4) (C := fun (z : Bool) w1 => z518 = z ∧ ∃ ρ1, Tr ρ490 w489 (fun _ => false) ρ1 w1) (l' := fun z => [(2, .pointer (some ⟨g31, 0, none⟩)), (194, .bool z)]) ?_ ?_
                      ·rintro _ w521 ⟨rfl, ρ522, hj519⟩
                       replace hB515 := hB515.mv (hj519.mv (i := 200) rfl)
                       replace hP508 := PtrO.mv hP508 secret_Locks.objK (fun p hp => hj519.mv (i := 200 + (1 + p)) (by rcases p with _ | _ | _ | p <;> first | rfl | omega)) (fun p hp => by show 200 + (1 + p) ≠ 0; omega)
                       replace h510 := h510.mv (hj519.mv (i := 204) rfl)
                       replace h512 := h512.mv (hj519.mv (i := 205) rfl)
                       replace h514 := h514.mv (hj519.mv (i := 206) rfl)
                       replace hb := hb.trans hj519
                       refine sr_ev (v := .bool z518) (ev_move rfl) (by decide) ?_
                       obtain ⟨z531, hz533, hS⟩ := bind_some' hS
                       refine sr_join (m := 4) (C := fun (z : Bool) w1 => z531 = z ∧ ∃ ρ1, Tr ρ522 w521 (fun _ => false) ρ1 w1) (l' := fun z => [(2, .pointer (some ⟨g31, 0, none⟩)), (199, .bool z)]) ?_ ?_
                       ·rintro _ w534 ⟨rfl, ρ535, hj532⟩
                        replace hB515 := hB515.mv (hj532.mv (i := 200) rfl)
                        replace hP508 := PtrO.mv hP508 secret_Locks.objK (fun p hp => hj532.mv (i := 200 + (1 + p)) (by rcases p with _ | _ | _ | p <;> first | rfl | omega)) (fun p hp => by show 200 + (1 + p) ≠ 0; omega)
                        replace h510 := h510.mv (hj532.mv (i := 204) rfl)
                        replace h512 := h512.mv (hj532.mv (i := 205) rfl)
                        replace h514 := h514.mv (hj532.mv (i := 206) rfl)
                        replace hb := hb.trans hj532
                        refine sr_ev (v := .bool z531) (ev_move rfl) (by decide) ?_
                        obtain ⟨z544, hz546, hS⟩ := bind_some' hS
                        refine sr_join (m := 3) (C := fun (z : Bool) w1 => z544 = z ∧ ∃ ρ1, Tr ρ535 w534 (fun _ => false) ρ1 w1) (l' := fun z => [(203, .bool z)]) ?_ ?_
                        ·rintro _ w547 ⟨rfl, ρ548, hj545⟩
                         replace hb := hb.trans hj545
                         refine sr_ev (v := .bool z544) (ev_assign rfl) (by decide) ?_
                         refine sr_end (l' := [(0, .bool z544)]) (.cons rfl (.nil _)) ?_
                         cases hS
                         exact ke_ret1 Tryz.func10 rfl rfl ⟨_, rfl, rfl, (hb.below (flat1_le _))⟩
                        ·intro K543
                         clear hS
                         have hj545 : Tr ρ535 w534 (fun _ => false) ρ535 w534 := (Tr.refl hb.bd).weak (fun _ _ => rfl) rfl rfl
                         rcases Bool.eq_false_or_eq_true z531 with hg542 | hg542
                         ·have hS := ite_true' hz546 hg542
                          refine sr_evg (b := true) (e := 200) rfl rfl hg542 (v := .pointer (some ⟨g31, 0, none⟩)) (ev_move rfl) (by decide) ?_
                          obtain ⟨y550, hy551, hS⟩ := bind_some' hS
                          refine sr_callg (b := true) (e := 200) rfl rfl hg542 (vs := [.pointer (some ⟨g31, 0, none⟩), str ([97, 110, 110]), .int .i64 0]) rfl Tryz.call22 rfl (login_Logins_Locked_ok _ (hg.fr hz hb) (ρA := ρ535) hb.bd (hz.fr hg hb) (τ0 := (fun p => 200 + p)) (fun p => Nat.le_add_right_of_le (by decide)) (⟨_, _, _, _, hB515, hP508, h510, h512, h514⟩ : login_Logins.O (fun p => 200 + p) ρ535 w534 g31 z486.2) hy551) (by decide) ?_
                          rintro _ w552 ⟨rfl, hbw553⟩
                          have htr554 := Tr.of_below hbw553 hb.bd
                          replace hb := hb.trans htr554
                          replace hj545 := (hj545.trans htr554).weak (J' := (fun _ => false)) (by intro t h; simp [rng] at h ⊢ <;> omega) rfl rfl
                          refine sr_ev (v := .bool y550) (ev_pick_t rfl hg542 rfl) (by decide) ?_
                          exact sr_weaken (l' := [(203, .bool y550)]) (.cons rfl (.nil _)) (K543 y550 _ ⟨(Option.some.inj hS).symm, _, hj545⟩)
                         ·have hS := ite_false' hz546 hg542
                          refine sr_pass (e := 200) rfl rfl (by rw [hg542]; rfl) (by decide) ?_
                          refine sr_pass (e := 200) rfl rfl (by rw [hg542]; rfl) (by decide) ?_
                          refine sr_ev (v := .bool false) (ev_pick_f rfl hg542 rfl) (by decide) ?_
                          exact sr_weaken (l' := [(203, .bool false)]) (.cons rfl (.nil _)) (K543 false _ ⟨(Option.some.inj hS).symm, _, hj545⟩)
                       ·intro K530
                        clear hS
                        have hj532 : Tr ρ522 w521 (fun _ => false) ρ522 w521 := (Tr.refl hb.bd).weak (fun _ _ => rfl) rfl rfl
                        rcases Bool.eq_false_or_eq_true z518 with hg529 | hg529
                        ·have hS := ite_true' hz533 hg529
                         refine sr_evg (b := true) (e := 195) rfl rfl hg529 (v := .pointer (some ⟨g31, 0, none⟩)) (ev_move rfl) (by decide) ?_
                         obtain ⟨y537, hy538, hS⟩ := bind_some' hS
                         refine sr_callg (b := true) (e := 195) rfl rfl hg529 (vs := [.pointer (some ⟨g31, 0, none⟩), .int .i64 300]) rfl Tryz.call37 rfl (login_Logins_Open_ok _ (hg.fr hz hb) (ρA := ρ522) hb.bd (hz.fr hg hb) (τ0 := (fun p => 200 + p)) (fun p => Nat.le_add_right_of_le (by decide)) (⟨_, _, _, _, hB515, hP508, h510, h512, h514⟩ : login_Logins.O (fun p => 200 + p) ρ522 w521 g31 z486.2) hy538) (by decide) ?_
                         rintro _ w539 ⟨rfl, hbw540⟩
                         have htr541 := Tr.of_below hbw540 hb.bd
                         replace hB515 := hB515.mv (htr541.mv (i := 200) rfl)
                         replace hP508 := PtrO.mv hP508 secret_Locks.objK (fun p hp => htr541.mv (i := 200 + (1 + p)) (by rcases p with _ | _ | _ | p <;> first | rfl | omega)) (fun p hp => by show 200 + (1 + p) ≠ 0; omega)
                         replace h510 := h510.mv (htr541.mv (i := 204) rfl)
                         replace h512 := h512.mv (htr541.mv (i := 205) rfl)
                         replace h514 := h514.mv (htr541.mv (i := 206) rfl)
                         replace hb := hb.trans htr541
                         replace hj532 := (hj532.trans htr541).weak (J' := (fun _ => false)) (by intro t h; simp [rng] at h ⊢ <;> omega) rfl rfl
                         refine sr_evg (b := true) (e := 195) rfl rfl hg529 (v := .bool (y537 == 0)) (ev_eq rfl rfl) (by decide) ?_
                         refine sr_ev (v := .bool (y537 == 0)) (ev_pick_t rfl hg529 rfl) (by decide) ?_
                         exact sr_weaken (l' := [(2, .pointer (some ⟨g31, 0, none⟩)), (199, .bool (y537 == 0))]) (.cons rfl (.cons rfl (.nil _))) (K530 (y537 == 0) _ ⟨(Option.some.inj hS).symm, _, hj532⟩)
                        ·have hS := ite_false' hz533 hg529
                         refine sr_pass (e := 195) rfl rfl (by rw [hg529]; rfl) (by decide) ?_
                         refine sr_pass (e := 195) rfl rfl (by rw [hg529]; rfl) (by decide) ?_
                         refine sr_pass (e := 195) rfl rfl (by rw [hg529]; rfl) (by decide) ?_
                         refine sr_ev (v := .bool false) (ev_pick_f rfl hg529 rfl) (by decide) ?_
                         exact sr_weaken (l' := [(2, .pointer (some ⟨g31, 0, none⟩)), (199, .bool false)]) (.cons rfl (.cons rfl (.nil _))) (K530 false _ ⟨(Option.some.inj hS).symm, _, hj532⟩)
                      ·intro K517
                       clear hS
                       have hj519 : Tr ρ490 w489 (fun _ => false) ρ490 w489 := (Tr.refl hb.bd).weak (fun _ _ => rfl) rfl rfl
                       rcases Bool.eq_false_or_eq_true z486.1 with hg516 | hg516
                       ·have hS := ite_true' hz520 hg516
                        refine sr_evg (b := true) (e := 190) rfl rfl hg516 (v := .pointer (some ⟨g31, 0, none⟩)) (ev_move rfl) (by decide) ?_
                        obtain ⟨y524, hy525, hS⟩ := bind_some' hS
                        refine sr_callg (b := true) (e := 190) rfl rfl hg516 (vs := [.pointer (some ⟨g31, 0, none⟩), .int .i64 0]) rfl Tryz.call37 rfl (login_Logins_Open_ok _ (hg.fr hz hb) (ρA := ρ490) hb.bd (hz.fr hg hb) (τ0 := (fun p => 200 + p)) (fun p => Nat.le_add_right_of_le (by decide)) (⟨_, _, _, _, hB515, hP508, h510, h512, h514⟩ : login_Logins.O (fun p => 200 + p) ρ490 w489 g31 z486.2) hy525) (by decide) ?_
                        rintro _ w526 ⟨rfl, hbw527⟩
                        have htr528 := Tr.of_below hbw527 hb.bd
                        replace hB515 := hB515.mv (htr528.mv (i := 200) rfl)
                        replace hP508 := PtrO.mv hP508 secret_Locks.objK (fun p hp => htr528.mv (i := 200 + (1 + p)) (by rcases p with _ | _ | _ | p <;> first | rfl | omega)) (fun p hp => by show 200 + (1 + p) ≠ 0; omega)
                        replace h510 := h510.mv (htr528.mv (i := 204) rfl)
                        replace h512 := h512.mv (htr528.mv (i := 205) rfl)
                        replace h514 := h514.mv (htr528.mv (i := 206) rfl)
                        replace hb := hb.trans htr528
                        replace hj519 := (hj519.trans htr528).weak (J' := (fun _ => false)) (by intro t h; simp [rng] at h ⊢ <;> omega) rfl rfl
                        refine sr_evg (b := true) (e := 190) rfl rfl hg516 (v := .bool (y524 == 2)) (ev_eq rfl rfl) (by decide) ?_
                        refine sr_ev (v := .bool (y524 == 2)) (ev_pick_t rfl hg516 rfl) (by decide) ?_
                        exact sr_weaken (l' := [(2, .pointer (some ⟨g31, 0, none⟩)), (194, .bool (y524 == 2))]) (.cons rfl (.cons rfl (.nil _))) (K517 (y524 == 2) _ ⟨(Option.some.inj hS).symm, _, hj519⟩)
                       ·have hS := ite_false' hz520 hg516
                        refine sr_pass (e := 190) rfl rfl (by rw [hg516]; rfl) (by decide) ?_
                        refine sr_pass (e := 190) rfl rfl (by rw [hg516]; rfl) (by decide) ?_
                        refine sr_pass (e := 190) rfl rfl (by rw [hg516]; rfl) (by decide) ?_
                        refine sr_ev (v := .bool false) (ev_pick_f rfl hg516 rfl) (by decide) ?_
                        exact sr_weaken (l' := [(2, .pointer (some ⟨g31, 0, none⟩)), (194, .bool false)]) (.cons rfl (.cons rfl (.nil _))) (K517 false _ ⟨(Option.some.inj hS).symm, _, hj519⟩)
                     ·intro K485
                      clear hS
                      have hj487 : Tr ρ419 w418 (fun t => ([200, 201, 202, 203, 204, 205, 206] : List Nat).contains t) ρ419 w418 := (Tr.refl hb.bd).weak (fun _ _ => rfl) rfl rfl
                      rcases Bool.eq_false_or_eq_true (((((((z415 && (y150.2.2.1 == 6)) && (y197.1 == 11)) && (y212.1 == 11)) && (y227.1 == 22)) && (y242.2 == 0)) && (y247.1 == 0)) && (y262.1 == 0)) with hg484 | hg484
                      ·have hS := ite_true' hz488 hg484
                       refine sr_evg (b := true) (e := 185) rfl rfl hg484 (v := .pointer (some ⟨g31, 0, none⟩)) (ev_move rfl) (by decide) ?_
                       obtain ⟨y492, hy493, hS⟩ := bind_some' hS
                       refine sr_callg (b := true) (e := 185) rfl rfl hg484 (vs := [.pointer (some ⟨g31, 0, none⟩), str ([121]), str ([115, 101, 99, 114, 101, 116, 119, 111, 114, 100]), .int .i64 300]) rfl Tryz.call19 rfl (login_Logins_Password_ok _ (hg.fr hz hb) (ρA := ρ419) hb.bd (hz.fr hg hb) (o := 200) (by decide) (⟨_, _, _, _, hB240, hP233, h235, h237, h239⟩ : login_Logins.O (fun p => 200 + p) ρ419 w418 g31 y227.2) hy493) (by decide) ?_
                       rintro _ w494 ⟨ρ506, rfl, ⟨v497, v499, v501, v503, hB505, hP498, h500, h502, h504⟩, htr496⟩
                       replace hb := hb.trans htr496
                       replace hj487 := (hj487.trans htr496).weak (J' := (fun t => ([200, 201, 202, 203, 204, 205, 206] : List Nat).contains t)) (by intro t h; simp [rng] at h ⊢ <;> omega) rfl rfl
                       replace hB505 : Blk ρ506 200 w494 g31 (.cells #[v497, v499, v501, v503] 69 (0, 0)) := hB505
                       replace hP498 : PtrO secret_Locks.O (fun q => 200 + (1 + q)) ρ506 w494 v497 y492.2.locks := hP498
                       replace h500 : MapT str login_credentials.c true ρ506 204 w494 v499 y492.2.users := h500
                       replace h502 : MapT str (intC .i64) false ρ506 205 w494 v501 y492.2.counters := h502
                       replace h504 : MapT str login_attempt.c true ρ506 206 w494 v503 y492.2.attempts := h504
                       refine sr_evg (b := true) (e := 185) rfl rfl hg484 (v := .bool (y492.1 == 13)) (ev_eq rfl rfl) (by decide) ?_
                       refine sr_ev (v := .bool (y492.1 == 13)) (ev_pick_t rfl hg484 rfl) (by decide) ?_
                       exact sr_weaken (l' := [(2, .pointer (some ⟨g31, 0, none⟩)), (189, .bool (y492.1 == 13))]) (.cons rfl (.cons rfl (.nil _))) (K485 (y492.1 == 13, y492.2) _ ⟨(Option.some.inj hS).symm, _, ⟨_, _, _, _, hB505, hP498, h500, h502, h504⟩, hj487⟩)
                      ·have hS := ite_false' hz488 hg484
                       refine sr_pass (e := 185) rfl rfl (by rw [hg484]; rfl) (by decide) ?_
                       refine sr_pass (e := 185) rfl rfl (by rw [hg484]; rfl) (by decide) ?_
                       refine sr_pass (e := 185) rfl rfl (by rw [hg484]; rfl) (by decide) ?_
                       refine sr_ev (v := .bool false) (ev_pick_f rfl hg484 rfl) (by decide) ?_
                       exact sr_weaken (l' := [(2, .pointer (some ⟨g31, 0, none⟩)), (189, .bool false)]) (.cons rfl (.cons rfl (.nil _))) (K485 (false, y227.2) _ ⟨(Option.some.inj hS).symm, _, ⟨_, _, _, _, hB240, hP233, h235, h237, h239⟩, hj487⟩)
                    ·intro K477
                     rcases Bool.eq_false_or_eq_true ((((((z415 && (y150.2.2.1 == 6)) && (y197.1 == 11)) && (y212.1 == 11)) && (y227.1 == 22)) && (y242.2 == 0)) && (y247.1 == 0)) with hg476 | hg476
                     all_goals try have hj479 : Tr ρ419 w418 (fun _ => false) ρ419 w418 := Tr.refl hb.bd
                     ·refine sr_evg (b := true) (e := 181) rfl rfl hg476 (v := .int .i64 y262.1) (ev_move rfl) (by decide) ?_
                      refine sr_evg (b := true) (e := 181) rfl rfl hg476 (v := .bool (y262.1 == 0)) (ev_eq rfl rfl) (by decide) ?_
                      refine sr_ev (v := .bool (y262.1 == 0)) (ev_pick_t rfl hg476 rfl) (by decide) ?_
                      exact sr_weaken (l' := [(2, .pointer (some ⟨g31, 0, none⟩)), (184, .bool (y262.1 == 0))]) (.cons rfl (.cons rfl (.nil _))) (K477 (y262.1 == 0) _ ⟨by first | (rw [hg476]; rfl) | rfl, rfl⟩)
                     ·refine sr_pass (e := 181) rfl rfl (by rw [hg476]; rfl) (by decide) ?_
                      refine sr_pass (e := 181) rfl rfl (by rw [hg476]; rfl) (by decide) ?_
                      refine sr_ev (v := .bool false) (ev_pick_f rfl hg476 rfl) (by decide) ?_
                      exact sr_weaken (l' := [(2, .pointer (some ⟨g31, 0, none⟩)), (184, .bool false)]) (.cons rfl (.cons rfl (.nil _))) (K477 false _ ⟨by first | (rw [hg476]; rfl) | rfl, rfl⟩)
                   ·intro K469
                    rcases Bool.eq_false_or_eq_true (((((z415 && (y150.2.2.1 == 6)) && (y197.1 == 11)) && (y212.1 == 11)) && (y227.1 == 22)) && (y242.2 == 0)) with hg468 | hg468
                    all_goals try have hj471 : Tr ρ419 w418 (fun _ => false) ρ419 w418 := Tr.refl hb.bd
                    ·refine sr_evg (b := true) (e := 177) rfl rfl hg468 (v := .int .i64 y247.1) (ev_move rfl) (by decide) ?_
                     refine sr_evg (b := true) (e := 177) rfl rfl hg468 (v := .bool (y247.1 == 0)) (ev_eq rfl rfl) (by decide) ?_
                     refine sr_ev (v := .bool (y247.1 == 0)) (ev_pick_t rfl hg468 rfl) (by decide) ?_
                     exact sr_weaken (l' := [(2, .pointer (some ⟨g31, 0, none⟩)), (23, .int .i64 y262.1), (180, .bool (y247.1 == 0))]) (.cons rfl (.cons rfl (.cons rfl (.nil _)))) (K469 (y247.1 == 0) _ ⟨by first | (rw [hg468]; rfl) | rfl, rfl⟩)
                    ·refine sr_pass (e := 177) rfl rfl (by rw [hg468]; rfl) (by decide) ?_
                     refine sr_pass (e := 177) rfl rfl (by rw [hg468]; rfl) (by decide) ?_
                     refine sr_ev (v := .bool false) (ev_pick_f rfl hg468 rfl) (by decide) ?_
                     exact sr_weaken (l' := [(2, .pointer (some ⟨g31, 0, none⟩)), (23, .int .i64 y262.1), (180, .bool false)]) (.cons rfl (.cons rfl (.cons rfl (.nil _)))) (K469 false _ ⟨by first | (rw [hg468]; rfl) | rfl, rfl⟩)
                  ·intro K461
                   rcases Bool.eq_false_or_eq_true ((((z415 && (y150.2.2.1 == 6)) && (y197.1 == 11)) && (y212.1 == 11)) && (y227.1 == 22)) with hg460 | hg460
                   all_goals try have hj463 : Tr ρ419 w418 (fun _ => false) ρ419 w418 := Tr.refl hb.bd
                   ·refine sr_evg (b := true) (e := 173) rfl rfl hg460 (v := .int .i64 y242.2) (ev_move rfl) (by decide) ?_
                    refine sr_evg (b := true) (e := 173) rfl rfl hg460 (v := .bool (y242.2 == 0)) (ev_eq rfl rfl) (by decide) ?_
                    refine sr_ev (v := .bool (y242.2 == 0)) (ev_pick_t rfl hg460 rfl) (by decide) ?_
                    exact sr_weaken (l' := [(2, .pointer (some ⟨g31, 0, none⟩)), (22, .int .i64 y247.1), (23, .int .i64 y262.1), (176, .bool (y242.2 == 0))]) (.cons rfl (.cons rfl (.cons rfl (.cons rfl (.nil _))))) (K461 (y242.2 == 0) _ ⟨by first | (rw [hg460]; rfl) | rfl, rfl⟩)
                   ·refine sr_pass (e := 173) rfl rfl (by rw [hg460]; rfl) (by decide) ?_
                    refine sr_pass (e := 173) rfl rfl (by rw [hg460]; rfl) (by decide) ?_
                    refine sr_ev (v := .bool false) (ev_pick_f rfl hg460 rfl) (by decide) ?_
                    exact sr_weaken (l' := [(2, .pointer (some ⟨g31, 0, none⟩)), (22, .int .i64 y247.1), (23, .int .i64 y262.1), (176, .bool false)]) (.cons rfl (.cons rfl (.cons rfl (.cons rfl (.nil _))))) (K461 false _ ⟨by first | (rw [hg460]; rfl) | rfl, rfl⟩)
                 ·intro K453
                  rcases Bool.eq_false_or_eq_true (((z415 && (y150.2.2.1 == 6)) && (y197.1 == 11)) && (y212.1 == 11)) with hg452 | hg452
                  all_goals try have hj455 : Tr ρ419 w418 (fun _ => false) ρ419 w418 := Tr.refl hb.bd
                  ·refine sr_evg (b := true) (e := 169) rfl rfl hg452 (v := .int .i64 y227.1) (ev_move rfl) (by decide) ?_
                   refine sr_evg (b := true) (e := 169) rfl rfl hg452 (v := .bool (y227.1 == 22)) (ev_eq rfl rfl) (by decide) ?_
                   refine sr_ev (v := .bool (y227.1 == 22)) (ev_pick_t rfl hg452 rfl) (by decide) ?_
                   exact sr_weaken (l' := [(2, .pointer (some ⟨g31, 0, none⟩)), (21, .int .i64 y242.2), (22, .int .i64 y247.1), (23, .int .i64 y262.1), (172, .bool (y227.1 == 22))]) (.cons rfl (.cons rfl (.cons rfl (.cons rfl (.cons rfl (.nil _)))))) (K453 (y227.1 == 22) _ ⟨by first | (rw [hg452]; rfl) | rfl, rfl⟩)
                  ·refine sr_pass (e := 169) rfl rfl (by rw [hg452]; rfl) (by decide) ?_
                   refine sr_pass (e := 169) rfl rfl (by rw [hg452]; rfl) (by decide) ?_
                   refine sr_ev (v := .bool false) (ev_pick_f rfl hg452 rfl) (by decide) ?_
                   exact sr_weaken (l' := [(2, .pointer (some ⟨g31, 0, none⟩)), (21, .int .i64 y242.2), (22, .int .i64 y247.1), (23, .int .i64 y262.1), (172, .bool false)]) (.cons rfl (.cons rfl (.cons rfl (.cons rfl (.cons rfl (.nil _)))))) (K453 false _ ⟨by first | (rw [hg452]; rfl) | rfl, rfl⟩)
                ·intro K445
                 rcases Bool.eq_false_or_eq_true ((z415 && (y150.2.2.1 == 6)) && (y197.1 == 11)) with hg444 | hg444
                 all_goals try have hj447 : Tr ρ419 w418 (fun _ => false) ρ419 w418 := Tr.refl hb.bd
                 ·refine sr_evg (b := true) (e := 165) rfl rfl hg444 (v := .int .i64 y212.1) (ev_move rfl) (by decide) ?_
                  refine sr_evg (b := true) (e := 165) rfl rfl hg444 (v := .bool (y212.1 == 11)) (ev_eq rfl rfl) (by decide) ?_
                  refine sr_ev (v := .bool (y212.1 == 11)) (ev_pick_t rfl hg444 rfl) (by decide) ?_
                  exact sr_weaken (l' := [(2, .pointer (some ⟨g31, 0, none⟩)), (19, .int .i64 y227.1), (21, .int .i64 y242.2), (22, .int .i64 y247.1), (23, .int .i64 y262.1), (168, .bool (y212.1 == 11))]) (.cons rfl (.cons rfl (.cons rfl (.cons rfl (.cons rfl (.cons rfl (.nil _))))))) (K445 (y212.1 == 11) _ ⟨by first | (rw [hg444]; rfl) | rfl, rfl⟩)
                 ·refine sr_pass (e := 165) rfl rfl (by rw [hg444]; rfl) (by decide) ?_
                  refine sr_pass (e := 165) rfl rfl (by rw [hg444]; rfl) (by decide) ?_
                  refine sr_ev (v := .bool false) (ev_pick_f rfl hg444 rfl) (by decide) ?_
                  exact sr_weaken (l' := [(2, .pointer (some ⟨g31, 0, none⟩)), (19, .int .i64 y227.1), (21, .int .i64 y242.2), (22, .int .i64 y247.1), (23, .int .i64 y262.1), (168, .bool false)]) (.cons rfl (.cons rfl (.cons rfl (.cons rfl (.cons rfl (.cons rfl (.nil _))))))) (K445 false _ ⟨by first | (rw [hg444]; rfl) | rfl, rfl⟩)
               ·intro K437
                rcases Bool.eq_false_or_eq_true (z415 && (y150.2.2.1 == 6)) with hg436 | hg436
                all_goals try have hj439 : Tr ρ419 w418 (fun _ => false) ρ419 w418 := Tr.refl hb.bd
                ·refine sr_evg (b := true) (e := 161) rfl rfl hg436 (v := .int .i64 y197.1) (ev_move rfl) (by decide) ?_
                 refine sr_evg (b := true) (e := 161) rfl rfl hg436 (v := .bool (y197.1 == 11)) (ev_eq rfl rfl) (by decide) ?_
                 refine sr_ev (v := .bool (y197.1 == 11)) (ev_pick_t rfl hg436 rfl) (by decide) ?_
                 exact sr_weaken (l' := [(2, .pointer (some ⟨g31, 0, none⟩)), (18, .int .i64 y212.1), (19, .int .i64 y227.1), (21, .int .i64 y242.2), (22, .int .i64 y247.1), (23, .int .i64 y262.1), (164, .bool (y197.1 == 11))]) (.cons rfl (.cons rfl (.cons rfl (.cons rfl (.cons rfl (.cons rfl (.cons rfl (.nil _)))))))) (K437 (y197.1 == 11) _ ⟨by first | (rw [hg436]; rfl) | rfl, rfl⟩)
                ·refine sr_pass (e := 161) rfl rfl (by rw [hg436]; rfl) (by decide) ?_
                 refine sr_pass (e := 161) rfl rfl (by rw [hg436]; rfl) (by decide) ?_
                 refine sr_ev (v := .bool false) (ev_pick_f rfl hg436 rfl) (by decide) ?_
                 exact sr_weaken (l' := [(2, .pointer (some ⟨g31, 0, none⟩)), (18, .int .i64 y212.1), (19, .int .i64 y227.1), (21, .int .i64 y242.2), (22, .int .i64 y247.1), (23, .int .i64 y262.1), (164, .bool false)]) (.cons rfl (.cons rfl (.cons rfl (.cons rfl (.cons rfl (.cons rfl (.cons rfl (.nil _)))))))) (K437 false _ ⟨by first | (rw [hg436]; rfl) | rfl, rfl⟩)
              ·intro K429
               rcases Bool.eq_false_or_eq_true z415 with hg428 | hg428
               all_goals try have hj431 : Tr ρ419 w418 (fun _ => false) ρ419 w418 := Tr.refl hb.bd
               ·refine sr_evg (b := true) (e := 157) rfl rfl hg428 (v := .int .i64 y150.2.2.1) (ev_move rfl) (by decide) ?_
                refine sr_evg (b := true) (e := 157) rfl rfl hg428 (v := .bool (y150.2.2.1 == 6)) (ev_eq rfl rfl) (by decide) ?_
                refine sr_ev (v := .bool (y150.2.2.1 == 6)) (ev_pick_t rfl hg428 rfl) (by decide) ?_
                exact sr_weaken (l' := [(2, .pointer (some ⟨g31, 0, none⟩)), (17, .int .i64 y197.1), (18, .int .i64 y212.1), (19, .int .i64 y227.1), (21, .int .i64 y242.2), (22, .int .i64 y247.1), (23, .int .i64 y262.1), (160, .bool (y150.2.2.1 == 6))]) (.cons rfl (.cons rfl (.cons rfl (.cons rfl (.cons rfl (.cons rfl (.cons rfl (.cons rfl (.nil _))))))))) (K429 (y150.2.2.1 == 6) _ ⟨by first | (rw [hg428]; rfl) | rfl, rfl⟩)
               ·refine sr_pass (e := 157) rfl rfl (by rw [hg428]; rfl) (by decide) ?_
                refine sr_pass (e := 157) rfl rfl (by rw [hg428]; rfl) (by decide) ?_
                refine sr_ev (v := .bool false) (ev_pick_f rfl hg428 rfl) (by decide) ?_
                exact sr_weaken (l' := [(2, .pointer (some ⟨g31, 0, none⟩)), (17, .int .i64 y197.1), (18, .int .i64 y212.1), (19, .int .i64 y227.1), (21, .int .i64 y242.2), (22, .int .i64 y247.1), (23, .int .i64 y262.1), (160, .bool false)]) (.cons rfl (.cons rfl (.cons rfl (.cons rfl (.cons rfl (.cons rfl (.cons rfl (.cons rfl (.nil _))))))))) (K429 false _ ⟨by first | (rw [hg428]; rfl) | rfl, rfl⟩)
             ·intro K414
              clear hS
              have hj416 : Tr ρ316 w304 (fun _ => false) ρ316 w304 := (Tr.refl hb.bd).weak (fun _ _ => rfl) rfl rfl
              rcases Bool.eq_false_or_eq_true (((((((((((y302.1 == 11) || ((y302.1 == 0) && ((y292.1 == y242.1) || (y297.1 == y242.1)))) && (y41.1 == 0)) && (y56.1 == 7)) && (y71.1 == 11)) && (y86.1 == 0)) && (y101.1 == 12)) && (y116.2.2.1 == 21)) && (y133.2.2.1 == 0)) && (y133.1 == ([97, 110, 110]))) && ((y133.2.1.length : Int) == 1)) with hg413 | hg413
              ·have hS := ite_true' hz417 hg413
               refine sr_evg (b := true) (e := 150) rfl rfl hg413 (v := v138) (ev_move rfl) (by decide) ?_
               obtain ⟨y421, hy422, hS⟩ := bind_some' hS
               obtain ⟨b423, o424, cs426, hq427, he425⟩ := ((SlT.of_sl (i := 0) h139)).elem (P := Tryz.prog) Tryz.underlying36 Tryz.info42 rfl hy422
               obtain rfl : cs426 = [.int .i64 y421.Factor, .int .i64 y421.Time] := he425.rd
               refine sr_evg (b := true) (e := 150) rfl rfl hg413 (v := .pointer (some ⟨b423, o424, none⟩)) (hq427 w304 rfl rfl) (by decide) ?_
               refine sr_evg (b := true) (e := 150) rfl rfl hg413 (v := .agg #[.int .i64 y421.Factor, .int .i64 y421.Time]) (ev_loads (cs := [.int .i64 y421.Factor, .int .i64 y421.Time]) Tryz.isAgg42 Tryz.sizeOf42 rfl he425.cell) (by decide) ?_
               refine sr_evg (b := true) (e := 150) rfl rfl hg413 (v := .agg #[.int .i64 1, .int .i64 2]) (ev_build (vs := #[(0, .int .i64 1), (1, .int .i64 2)]) rfl (fun _ => by kernel_rfl)) (by decide) ?_
               refine sr_evg (b := true) (e := 150) rfl rfl hg413 (v := .bool (api_Proof.eqb y421 (api_Proof.mk 1 2))) (ev_aeq (Tryz.eq42 y421 (api_Proof.mk 1 2)) rfl rfl) (by decide) ?_
               refine sr_ev (v := .bool (api_Proof.eqb y421 (api_Proof.mk 1 2))) (ev_pick_t rfl hg413 rfl) (by decide) ?_
               exact sr_weaken (l' := [(2, .pointer (some ⟨g31, 0, none⟩)), (16, .int .i64 y150.2.2.1), (17, .int .i64 y197.1), (18, .int .i64 y212.1), (19, .int .i64 y227.1), (21, .int .i64 y242.2), (22, .int .i64 y247.1), (23, .int .i64 y262.1), (156, .bool (api_Proof.eqb y421 (api_Proof.mk 1 2)))]) (.cons rfl (.cons rfl (.cons rfl (.cons rfl (.cons rfl (.cons rfl (.cons rfl (.cons rfl (.cons rfl (.nil _)))))))))) (K414 (api_Proof.eqb y421 (api_Proof.mk 1 2)) _ ⟨(Option.some.inj hS).symm, _, hj416⟩)
              ·have hS := ite_false' hz417 hg413
               refine sr_pass (e := 150) rfl rfl (by rw [hg413]; rfl) (by decide) ?_
               refine sr_pass (e := 150) rfl rfl (by rw [hg413]; rfl) (by decide) ?_
               refine sr_pass (e := 150) rfl rfl (by rw [hg413]; rfl) (by decide) ?_
               refine sr_pass (e := 150) rfl rfl (by rw [hg413]; rfl) (by decide) ?_
               refine sr_pass (e := 150) rfl rfl (by rw [hg413]; rfl) (by decide) ?_
               refine sr_ev (v := .bool false) (ev_pick_f rfl hg413 rfl) (by decide) ?_
               exact sr_weaken (l' := [(2, .pointer (some ⟨g31, 0, none⟩)), (16, .int .i64 y150.2.2.1), (17, .int .i64 y197.1), (18, .int .i64 y212.1), (19, .int .i64 y227.1), (21, .int .i64 y242.2), (22, .int .i64 y247.1), (23, .int .i64 y262.1), (156, .bool false)]) (.cons rfl (.cons rfl (.cons rfl (.cons rfl (.cons rfl (.cons rfl (.cons rfl (.cons rfl (.cons rfl (.nil _)))))))))) (K414 false _ ⟨(Option.some.inj hS).symm, _, hj416⟩)
            ·intro K406
             rcases Bool.eq_false_or_eq_true ((((((((((y302.1 == 11) || ((y302.1 == 0) && ((y292.1 == y242.1) || (y297.1 == y242.1)))) && (y41.1 == 0)) && (y56.1 == 7)) && (y71.1 == 11)) && (y86.1 == 0)) && (y101.1 == 12)) && (y116.2.2.1 == 21)) && (y133.2.2.1 == 0)) && (y133.1 == ([97, 110, 110]))) with hg405 | hg405
             all_goals try have hj408 : Tr ρ316 w304 (fun _ => false) ρ316 w304 := Tr.refl hb.bd
             ·refine sr_evg (b := true) (e := 145) rfl rfl hg405 (v := v138) (ev_move rfl) (by decide) ?_
              refine sr_evg (b := true) (e := 145) rfl rfl hg405 (v := .int .i64 (y133.2.1.length : Int)) (ev_sllenW Tryz.underlying36 rfl h139.asSl) (by decide) ?_
              refine sr_evg (b := true) (e := 145) rfl rfl hg405 (v := .bool ((y133.2.1.length : Int) == 1)) (ev_eq rfl rfl) (by decide) ?_
              refine sr_ev (v := .bool ((y133.2.1.length : Int) == 1)) (ev_pick_t rfl hg405 rfl) (by decide) ?_
              exact sr_weaken (l' := [(2, .pointer (some ⟨g31, 0, none⟩)), (12, v138), (16, .int .i64 y150.2.2.1), (17, .int .i64 y197.1), (18, .int .i64 y212.1), (19, .int .i64 y227.1), (21, .int .i64 y242.2), (22, .int .i64 y247.1), (23, .int .i64 y262.1), (149, .bool ((y133.2.1.length : Int) == 1))]) (.cons rfl (.cons rfl (.cons rfl (.cons rfl (.cons rfl (.cons rfl (.cons rfl (.cons rfl (.cons rfl (.cons rfl (.nil _))))))))))) (K406 ((y133.2.1.length : Int) == 1) _ ⟨by first | (rw [hg405]; rfl) | rfl, rfl⟩)
             ·refine sr_pass (e := 145) rfl rfl (by rw [hg405]; rfl) (by decide) ?_
              refine sr_pass (e := 145) rfl rfl (by rw [hg405]; rfl) (by decide) ?_
              refine sr_pass (e := 145) rfl rfl (by rw [hg405]; rfl) (by decide) ?_
              refine sr_ev (v := .bool false) (ev_pick_f rfl hg405 rfl) (by decide) ?_
              exact sr_weaken (l' := [(2, .pointer (some ⟨g31, 0, none⟩)), (12, v138), (16, .int .i64 y150.2.2.1), (17, .int .i64 y197.1), (18, .int .i64 y212.1), (19, .int .i64 y227.1), (21, .int .i64 y242.2), (22, .int .i64 y247.1), (23, .int .i64 y262.1), (149, .bool false)]) (.cons rfl (.cons rfl (.cons rfl (.cons rfl (.cons rfl (.cons rfl (.cons rfl (.cons rfl (.cons rfl (.cons rfl (.nil _))))))))))) (K406 false _ ⟨by first | (rw [hg405]; rfl) | rfl, rfl⟩)
           ·intro K398
            rcases Bool.eq_false_or_eq_true (((((((((y302.1 == 11) || ((y302.1 == 0) && ((y292.1 == y242.1) || (y297.1 == y242.1)))) && (y41.1 == 0)) && (y56.1 == 7)) && (y71.1 == 11)) && (y86.1 == 0)) && (y101.1 == 12)) && (y116.2.2.1 == 21)) && (y133.2.2.1 == 0)) with hg397 | hg397
            all_goals try have hj400 : Tr ρ316 w304 (fun _ => false) ρ316 w304 := Tr.refl hb.bd
            ·refine sr_evg (b := true) (e := 141) rfl rfl hg397 (v := str y133.1) (ev_move rfl) (by decide) ?_
             refine sr_evg (b := true) (e := 141) rfl rfl hg397 (v := .bool (y133.1 == ([97, 110, 110]))) (ev_seq rfl rfl) (by decide) ?_
             refine sr_ev (v := .bool (y133.1 == ([97, 110, 110]))) (ev_pick_t rfl hg397 rfl) (by decide) ?_
             exact sr_weaken (l' := [(2, .pointer (some ⟨g31, 0, none⟩)), (12, v138), (16, .int .i64 y150.2.2.1), (17, .int .i64 y197.1), (18, .int .i64 y212.1), (19, .int .i64 y227.1), (21, .int .i64 y242.2), (22, .int .i64 y247.1), (23, .int .i64 y262.1), (144, .bool (y133.1 == ([97, 110, 110])))]) (.cons rfl (.cons rfl (.cons rfl (.cons rfl (.cons rfl (.cons rfl (.cons rfl (.cons rfl (.cons rfl (.cons rfl (.nil _))))))))))) (K398 (y133.1 == ([97, 110, 110])) _ ⟨by first | (rw [hg397]; rfl) | rfl, rfl⟩)
            ·refine sr_pass (e := 141) rfl rfl (by rw [hg397]; rfl) (by decide) ?_
             refine sr_pass (e := 141) rfl rfl (by rw [hg397]; rfl) (by decide) ?_
             refine sr_ev (v := .bool false) (ev_pick_f rfl hg397 rfl) (by decide) ?_
             exact sr_weaken (l' := [(2, .pointer (some ⟨g31, 0, none⟩)), (12, v138), (16, .int .i64 y150.2.2.1), (17, .int .i64 y197.1), (18, .int .i64 y212.1), (19, .int .i64 y227.1), (21, .int .i64 y242.2), (22, .int .i64 y247.1), (23, .int .i64 y262.1), (144, .bool false)]) (.cons rfl (.cons rfl (.cons rfl (.cons rfl (.cons rfl (.cons rfl (.cons rfl (.cons rfl (.cons rfl (.cons rfl (.nil _))))))))))) (K398 false _ ⟨by first | (rw [hg397]; rfl) | rfl, rfl⟩)
          ·intro K390
           rcases Bool.eq_false_or_eq_true ((((((((y302.1 == 11) || ((y302.1 == 0) && ((y292.1 == y242.1) || (y297.1 == y242.1)))) && (y41.1 == 0)) && (y56.1 == 7)) && (y71.1 == 11)) && (y86.1 == 0)) && (y101.1 == 12)) && (y116.2.2.1 == 21)) with hg389 | hg389
           all_goals try have hj392 : Tr ρ316 w304 (fun _ => false) ρ316 w304 := Tr.refl hb.bd
           ·refine sr_evg (b := true) (e := 137) rfl rfl hg389 (v := .int .i64 y133.2.2.1) (ev_move rfl) (by decide) ?_
            refine sr_evg (b := true) (e := 137) rfl rfl hg389 (v := .bool (y133.2.2.1 == 0)) (ev_eq rfl rfl) (by decide) ?_
            refine sr_ev (v := .bool (y133.2.2.1 == 0)) (ev_pick_t rfl hg389 rfl) (by decide) ?_
            exact sr_weaken (l' := [(2, .pointer (some ⟨g31, 0, none⟩)), (11, str y133.1), (12, v138), (16, .int .i64 y150.2.2.1), (17, .int .i64 y197.1), (18, .int .i64 y212.1), (19, .int .i64 y227.1), (21, .int .i64 y242.2), (22, .int .i64 y247.1), (23, .int .i64 y262.1), (140, .bool (y133.2.2.1 == 0))]) (.cons rfl (.cons rfl (.cons rfl (.cons rfl (.cons rfl (.cons rfl (.cons rfl (.cons rfl (.cons rfl (.cons rfl (.cons rfl (.nil _)))))))))))) (K390 (y133.2.2.1 == 0) _ ⟨by first | (rw [hg389]; rfl) | rfl, rfl⟩)
           ·refine sr_pass (e := 137) rfl rfl (by rw [hg389]; rfl) (by decide) ?_
            refine sr_pass (e := 137) rfl rfl (by rw [hg389]; rfl) (by decide) ?_
            refine sr_ev (v := .bool false) (ev_pick_f rfl hg389 rfl) (by decide) ?_
            exact sr_weaken (l' := [(2, .pointer (some ⟨g31, 0, none⟩)), (11, str y133.1), (12, v138), (16, .int .i64 y150.2.2.1), (17, .int .i64 y197.1), (18, .int .i64 y212.1), (19, .int .i64 y227.1), (21, .int .i64 y242.2), (22, .int .i64 y247.1), (23, .int .i64 y262.1), (140, .bool false)]) (.cons rfl (.cons rfl (.cons rfl (.cons rfl (.cons rfl (.cons rfl (.cons rfl (.cons rfl (.cons rfl (.cons rfl (.cons rfl (.nil _)))))))))))) (K390 false _ ⟨by first | (rw [hg389]; rfl) | rfl, rfl⟩)
         ·intro K382
          rcases Bool.eq_false_or_eq_true (((((((y302.1 == 11) || ((y302.1 == 0) && ((y292.1 == y242.1) || (y297.1 == y242.1)))) && (y41.1 == 0)) && (y56.1 == 7)) && (y71.1 == 11)) && (y86.1 == 0)) && (y101.1 == 12)) with hg381 | hg381
          all_goals try have hj384 : Tr ρ316 w304 (fun _ => false) ρ316 w304 := Tr.refl hb.bd
          ·refine sr_evg (b := true) (e := 133) rfl rfl hg381 (v := .int .i64 y116.2.2.1) (ev_move rfl) (by decide) ?_
           refine sr_evg (b := true) (e := 133) rfl rfl hg381 (v := .bool (y116.2.2.1 == 21)) (ev_eq rfl rfl) (by decide) ?_
           refine sr_ev (v := .bool (y116.2.2.1 == 21)) (ev_pick_t rfl hg381 rfl) (by decide) ?_
           exact sr_weaken (l' := [(2, .pointer (some ⟨g31, 0, none⟩)), (11, str y133.1), (12, v138), (13, .int .i64 y133.2.2.1), (16, .int .i64 y150.2.2.1), (17, .int .i64 y197.1), (18, .int .i64 y212.1), (19, .int .i64 y227.1), (21, .int .i64 y242.2), (22, .int .i64 y247.1), (23, .int .i64 y262.1), (136, .bool (y116.2.2.1 == 21))]) (.cons rfl (.cons rfl (.cons rfl (.cons rfl (.cons rfl (.cons rfl (.cons rfl (.cons rfl (.cons rfl (.cons rfl (.cons rfl (.cons rfl (.nil _))))))))))))) (K382 (y116.2.2.1 == 21) _ ⟨by first | (rw [hg381]; rfl) | rfl, rfl⟩)
          ·refine sr_pass (e := 133) rfl rfl (by rw [hg381]; rfl) (by decide) ?_
           refine sr_pass (e := 133) rfl rfl (by rw [hg381]; rfl) (by decide) ?_
           refine sr_ev (v := .bool false) (ev_pick_f rfl hg381 rfl) (by decide) ?_
           exact sr_weaken (l' := [(2, .pointer (some ⟨g31, 0, none⟩)), (11, str y133.1), (12, v138), (13, .int .i64 y133.2.2.1), (16, .int .i64 y150.2.2.1), (17, .int .i64 y197.1), (18, .int .i64 y212.1), (19, .int .i64 y227.1), (21, .int .i64 y242.2), (22, .int .i64 y247.1), (23, .int .i64 y262.1), (136, .bool false)]) (.cons rfl (.cons rfl (.cons rfl (.cons rfl (.cons rfl (.cons rfl (.cons rfl (.cons rfl (.cons rfl (.cons rfl (.cons rfl (.cons rfl (.nil _))))))))))))) (K382 false _ ⟨by first | (rw [hg381]; rfl) | rfl, rfl⟩)
        ·intro K374
         rcases Bool.eq_false_or_eq_true ((((((y302.1 == 11) || ((y302.1 == 0) && ((y292.1 == y242.1) || (y297.1 == y242.1)))) && (y41.1 == 0)) && (y56.1 == 7)) && (y71.1 == 11)) && (y86.1 == 0)) with hg373 | hg373
         all_goals try have hj376 : Tr ρ316 w304 (fun _ => false) ρ316 w304 := Tr.refl hb.bd
         ·refine sr_evg (b := true) (e := 129) rfl rfl hg373 (v := .int .i64 y101.1) (ev_move rfl) (by decide) ?_
          refine sr_evg (b := true) (e := 129) rfl rfl hg373 (v := .bool (y101.1 == 12)) (ev_eq rfl rfl) (by decide) ?_
          refine sr_ev (v := .bool (y101.1 == 12)) (ev_pick_t rfl hg373 rfl) (by decide) ?_
          exact sr_weaken (l' := [(2, .pointer (some ⟨g31, 0, none⟩)), (10, .int .i64 y116.2.2.1), (11, str y133.1), (12, v138), (13, .int .i64 y133.2.2.1), (16, .int .i64 y150.2.2.1), (17, .int .i64 y197.1), (18, .int .i64 y212.1), (19, .int .i64 y227.1), (21, .int .i64 y242.2), (22, .int .i64 y247.1), (23, .int .i64 y262.1), (132, .bool (y101.1 == 12))]) (.cons rfl (.cons rfl (.cons rfl (.cons rfl (.cons rfl (.cons rfl (.cons rfl (.cons rfl (.cons rfl (.cons rfl (.cons rfl (.cons rfl (.cons rfl (.nil _)))))))))))))) (K374 (y101.1 == 12) _ ⟨by first | (rw [hg373]; rfl) | rfl, rfl⟩)
         ·refine sr_pass (e := 129) rfl rfl (by rw [hg373]; rfl) (by decide) ?_
          refine sr_pass (e := 129) rfl rfl (by rw [hg373]; rfl) (by decide) ?_
          refine sr_ev (v := .bool false) (ev_pick_f rfl hg373 rfl) (by decide) ?_
          exact sr_weaken (l' := [(2, .pointer (some ⟨g31, 0, none⟩)), (10, .int .i64 y116.2.2.1), (11, str y133.1), (12, v138), (13, .int .i64 y133.2.2.1), (16, .int .i64 y150.2.2.1), (17, .int .i64 y197.1), (18, .int .i64 y212.1), (19, .int .i64 y227.1), (21, .int .i64 y242.2), (22, .int .i64 y247.1), (23, .int .i64 y262.1), (132, .bool false)]) (.cons rfl (.cons rfl (.cons rfl (.cons rfl (.cons rfl (.cons rfl (.cons rfl (.cons rfl (.cons rfl (.cons rfl (.cons rfl (.cons rfl (.cons rfl (.nil _)))))))))))))) (K374 false _ ⟨by first | (rw [hg373]; rfl) | rfl, rfl⟩)
       ·intro K366
        rcases Bool.eq_false_or_eq_true (((((y302.1 == 11) || ((y302.1 == 0) && ((y292.1 == y242.1) || (y297.1 == y242.1)))) && (y41.1 == 0)) && (y56.1 == 7)) && (y71.1 == 11)) with hg365 | hg365
        all_goals try have hj368 : Tr ρ316 w304 (fun _ => false) ρ316 w304 := Tr.refl hb.bd
        ·refine sr_evg (b := true) (e := 125) rfl rfl hg365 (v := .int .i64 y86.1) (ev_move rfl) (by decide) ?_
         refine sr_evg (b := true) (e := 125) rfl rfl hg365 (v := .bool (y86.1 == 0)) (ev_eq rfl rfl) (by decide) ?_
         refine sr_ev (v := .bool (y86.1 == 0)) (ev_pick_t rfl hg365 rfl) (by decide) ?_
         exact sr_weaken (l' := [(2, .pointer (some ⟨g31, 0, none⟩)), (7, .int .i64 y101.1), (10, .int .i64 y116.2.2.1), (11, str y133.1), (12, v138), (13, .int .i64 y133.2.2.1), (16, .int .i64 y150.2.2.1), (17, .int .i64 y197.1), (18, .int .i64 y212.1), (19, .int .i64 y227.1), (21, .int .i64 y242.2), (22, .int .i64 y247.1), (23, .int .i64 y262.1), (128, .bool (y86.1 == 0))]) (.cons rfl (.cons rfl (.cons rfl (.cons rfl (.cons rfl (.cons rfl (.cons rfl (.cons rfl (.cons rfl (.cons rfl (.cons rfl (.cons rfl (.cons rfl (.cons rfl (.nil _))))))))))))))) (K366 (y86.1 == 0) _ ⟨by first | (rw [hg365]; rfl) | rfl, rfl⟩)
        ·refine sr_pass (e := 125) rfl rfl (by rw [hg365]; rfl) (by decide) ?_
         refine sr_pass (e := 125) rfl rfl (by rw [hg365]; rfl) (by decide) ?_
         refine sr_ev (v := .bool false) (ev_pick_f rfl hg365 rfl) (by decide) ?_
         exact sr_weaken (l' := [(2, .pointer (some ⟨g31, 0, none⟩)), (7, .int .i64 y101.1), (10, .int .i64 y116.2.2.1), (11, str y133.1), (12, v138), (13, .int .i64 y133.2.2.1), (16, .int .i64 y150.2.2.1), (17, .int .i64 y197.1), (18, .int .i64 y212.1), (19, .int .i64 y227.1), (21, .int .i64 y242.2), (22, .int .i64 y247.1), (23, .int .i64 y262.1), (128, .bool false)]) (.cons rfl (.cons rfl (.cons rfl (.cons rfl (.cons rfl (.cons rfl (.cons rfl (.cons rfl (.cons rfl (.cons rfl (.cons rfl (.cons rfl (.cons rfl (.cons rfl (.nil _))))))))))))))) (K366 false _ ⟨by first | (rw [hg365]; rfl) | rfl, rfl⟩)
      ·intro K358
       rcases Bool.eq_false_or_eq_true ((((y302.1 == 11) || ((y302.1 == 0) && ((y292.1 == y242.1) || (y297.1 == y242.1)))) && (y41.1 == 0)) && (y56.1 == 7)) with hg357 | hg357
       all_goals try have hj360 : Tr ρ316 w304 (fun _ => false) ρ316 w304 := Tr.refl hb.bd
       ·refine sr_evg (b := true) (e := 121) rfl rfl hg357 (v := .int .i64 y71.1) (ev_move rfl) (by decide) ?_
        refine sr_evg (b := true) (e := 121) rfl rfl hg357 (v := .bool (y71.1 == 11)) (ev_eq rfl rfl) (by decide) ?_
        refine sr_ev (v := .bool (y71.1 == 11)) (ev_pick_t rfl hg357 rfl) (by decide) ?_
        exact sr_weaken (l' := [(2, .pointer (some ⟨g31, 0, none⟩)), (6, .int .i64 y86.1), (7, .int .i64 y101.1), (10, .int .i64 y116.2.2.1), (11, str y133.1), (12, v138), (13, .int .i64 y133.2.2.1), (16, .int .i64 y150.2.2.1), (17, .int .i64 y197.1), (18, .int .i64 y212.1), (19, .int .i64 y227.1), (21, .int .i64 y242.2), (22, .int .i64 y247.1), (23, .int .i64 y262.1), (124, .bool (y71.1 == 11))]) (.cons rfl (.cons rfl (.cons rfl (.cons rfl (.cons rfl (.cons rfl (.cons rfl (.cons rfl (.cons rfl (.cons rfl (.cons rfl (.cons rfl (.cons rfl (.cons rfl (.cons rfl (.nil _)))))))))))))))) (K358 (y71.1 == 11) _ ⟨by first | (rw [hg357]; rfl) | rfl, rfl⟩)
       ·refine sr_pass (e := 121) rfl rfl (by rw [hg357]; rfl) (by decide) ?_
        refine sr_pass (e := 121) rfl rfl (by rw [hg357]; rfl) (by decide) ?_
        refine sr_ev (v := .bool false) (ev_pick_f rfl hg357 rfl) (by decide) ?_
        exact sr_weaken (l' := [(2, .pointer (some ⟨g31, 0, none⟩)), (6, .int .i64 y86.1), (7, .int .i64 y101.1), (10, .int .i64 y116.2.2.1), (11, str y133.1), (12, v138), (13, .int .i64 y133.2.2.1), (16, .int .i64 y150.2.2.1), (17, .int .i64 y197.1), (18, .int .i64 y212.1), (19, .int .i64 y227.1), (21, .int .i64 y242.2), (22, .int .i64 y247.1), (23, .int .i64 y262.1), (124, .bool false)]) (.cons rfl (.cons rfl (.cons rfl (.cons rfl (.cons rfl (.cons rfl (.cons rfl (.cons rfl (.cons rfl (.cons rfl (.cons rfl (.cons rfl (.cons rfl (.cons rfl (.cons rfl (.nil _)))))))))))))))) (K358 false _ ⟨by first | (rw [hg357]; rfl) | rfl, rfl⟩)
     ·intro K350
      rcases Bool.eq_false_or_eq_true (((y302.1 == 11) || ((y302.1 == 0) && ((y292.1 == y242.1) || (y297.1 == y242.1)))) && (y41.1 == 0)) with hg349 | hg349
      all_goals try have hj352 : Tr ρ316 w304 (fun _ => false) ρ316 w304 := Tr.refl hb.bd
      ·refine sr_evg (b := true) (e := 117) rfl rfl hg349 (v := .int .i64 y56.1) (ev_move rfl) (by decide) ?_
       refine sr_evg (b := true) (e := 117) rfl rfl hg349 (v := .bool (y56.1 == 7)) (ev_eq rfl rfl) (by decide) ?_
       refine sr_ev (v := .bool (y56.1 == 7)) (ev_pick_t rfl hg349 rfl) (by decide) ?_
       exact sr_weaken (l' := [(2, .pointer (some ⟨g31, 0, none⟩)), (5, .int .i64 y71.1), (6, .int .i64 y86.1), (7, .int .i64 y101.1), (10, .int .i64 y116.2.2.1), (11, str y133.1), (12, v138), (13, .int .i64 y133.2.2.1), (16, .int .i64 y150.2.2.1), (17, .int .i64 y197.1), (18, .int .i64 y212.1), (19, .int .i64 y227.1), (21, .int .i64 y242.2), (22, .int .i64 y247.1), (23, .int .i64 y262.1), (120, .bool (y56.1 == 7))]) (.cons rfl (.cons rfl (.cons rfl (.cons rfl (.cons rfl (.cons rfl (.cons rfl (.cons rfl (.cons rfl (.cons rfl (.cons rfl (.cons rfl (.cons rfl (.cons rfl (.cons rfl (.cons rfl (.nil _))))))))))))))))) (K350 (y56.1 == 7) _ ⟨by first | (rw [hg349]; rfl) | rfl, rfl⟩)
      ·refine sr_pass (e := 117) rfl rfl (by rw [hg349]; rfl) (by decide) ?_
       refine sr_pass (e := 117) rfl rfl (by rw [hg349]; rfl) (by decide) ?_
       refine sr_ev (v := .bool false) (ev_pick_f rfl hg349 rfl) (by decide) ?_
       exact sr_weaken (l' := [(2, .pointer (some ⟨g31, 0, none⟩)), (5, .int .i64 y71.1), (6, .int .i64 y86.1), (7, .int .i64 y101.1), (10, .int .i64 y116.2.2.1), (11, str y133.1), (12, v138), (13, .int .i64 y133.2.2.1), (16, .int .i64 y150.2.2.1), (17, .int .i64 y197.1), (18, .int .i64 y212.1), (19, .int .i64 y227.1), (21, .int .i64 y242.2), (22, .int .i64 y247.1), (23, .int .i64 y262.1), (120, .bool false)]) (.cons rfl (.cons rfl (.cons rfl (.cons rfl (.cons rfl (.cons rfl (.cons rfl (.cons rfl (.cons rfl (.cons rfl (.cons rfl (.cons rfl (.cons rfl (.cons rfl (.cons rfl (.cons rfl (.nil _))))))))))))))))) (K350 false _ ⟨by first | (rw [hg349]; rfl) | rfl, rfl⟩)
    ·intro K342
     rcases Bool.eq_false_or_eq_true ((y302.1 == 11) || ((y302.1 == 0) && ((y292.1 == y242.1) || (y297.1 == y242.1)))) with hg341 | hg341
     all_goals try have hj344 : Tr ρ316 w304 (fun _ => false) ρ316 w304 := Tr.refl hb.bd
     ·refine sr_evg (b := true) (e := 113) rfl rfl hg341 (v := .int .i64 y41.1) (ev_move rfl) (by decide) ?_
      refine sr_evg (b := true) (e := 113) rfl rfl hg341 (v := .bool (y41.1 == 0)) (ev_eq rfl rfl) (by decide) ?_
      refine sr_ev (v := .bool (y41.1 == 0)) (ev_pick_t rfl hg341 rfl) (by decide) ?_
      exact sr_weaken (l' := [(2, .pointer (some ⟨g31, 0, none⟩)), (4, .int .i64 y56.1), (5, .int .i64 y71.1), (6, .int .i64 y86.1), (7, .int .i64 y101.1), (10, .int .i64 y116.2.2.1), (11, str y133.1), (12, v138), (13, .int .i64 y133.2.2.1), (16, .int .i64 y150.2.2.1), (17, .int .i64 y197.1), (18, .int .i64 y212.1), (19, .int .i64 y227.1), (21, .int .i64 y242.2), (22, .int .i64 y247.1), (23, .int .i64 y262.1), (116, .bool (y41.1 == 0))]) (.cons rfl (.cons rfl (.cons rfl (.cons rfl (.cons rfl (.cons rfl (.cons rfl (.cons rfl (.cons rfl (.cons rfl (.cons rfl (.cons rfl (.cons rfl (.cons rfl (.cons rfl (.cons rfl (.cons rfl (.nil _)))))))))))))))))) (K342 (y41.1 == 0) _ ⟨by first | (rw [hg341]; rfl) | rfl, rfl⟩)
     ·refine sr_pass (e := 113) rfl rfl (by rw [hg341]; rfl) (by decide) ?_
      refine sr_pass (e := 113) rfl rfl (by rw [hg341]; rfl) (by decide) ?_
      refine sr_ev (v := .bool false) (ev_pick_f rfl hg341 rfl) (by decide) ?_
      exact sr_weaken (l' := [(2, .pointer (some ⟨g31, 0, none⟩)), (4, .int .i64 y56.1), (5, .int .i64 y71.1), (6, .int .i64 y86.1), (7, .int .i64 y101.1), (10, .int .i64 y116.2.2.1), (11, str y133.1), (12, v138), (13, .int .i64 y133.2.2.1), (16, .int .i64 y150.2.2.1), (17, .int .i64 y197.1), (18, .int .i64 y212.1), (19, .int .i64 y227.1), (21, .int .i64 y242.2), (22, .int .i64 y247.1), (23, .int .i64 y262.1), (116, .bool false)]) (.cons rfl (.cons rfl (.cons rfl (.cons rfl (.cons rfl (.cons rfl (.cons rfl (.cons rfl (.cons rfl (.cons rfl (.cons rfl (.cons rfl (.cons rfl (.cons rfl (.cons rfl (.cons rfl (.cons rfl (.nil _)))))))))))))))))) (K342 false _ ⟨by first | (rw [hg341]; rfl) | rfl, rfl⟩)
   ·intro K318
    rcases Bool.eq_false_or_eq_true (y302.1 == 11) with hg317 | hg317
    all_goals try have hj320 : Tr ρ316 w304 (fun _ => false) ρ316 w304 := Tr.refl hb.bd
    ·refine sr_pass (e := 99) rfl rfl (by rw [hg317]; rfl) (by decide) ?_
     refine sr_pass (e := 99) rfl rfl (by rw [hg317]; rfl) (by decide) ?_
     refine sr_pass (e := 99) rfl rfl (by rw [hg317]; rfl) (by decide) ?_
     refine sr_pass_undef (e := 102) rfl rfl (by decide) ?_
     refine sr_pass_undef (e := 102) rfl rfl (by decide) ?_
     refine sr_pass_undef (e := 102) rfl rfl (by decide) ?_
     refine sr_pass_undef (e := 102) rfl rfl (by decide) ?_
     refine sr_pass_undef (e := 106) rfl rfl (by decide) ?_
     refine sr_pass_undef (e := 106) rfl rfl (by decide) ?_
     refine sr_pass_undef (e := 106) rfl rfl (by decide) ?_
     refine sr_pass_undef (e := 102) rfl rfl (by decide) ?_
     refine sr_pass (e := 99) rfl rfl (by rw [hg317]; rfl) (by decide) ?_
     refine sr_ev (v := .bool true) (ev_pick_t rfl hg317 rfl) (by decide) ?_
     exact sr_weaken (l' := [(2, .pointer (some ⟨g31, 0, none⟩)), (3, .int .i64 y41.1), (4, .int .i64 y56.1), (5, .int .i64 y71.1), (6, .int .i64 y86.1), (7, .int .i64 y101.1), (10, .int .i64 y116.2.2.1), (11, str y133.1), (12, v138), (13, .int .i64 y133.2.2.1), (16, .int .i64 y150.2.2.1), (17, .int .i64 y197.1), (18, .int .i64 y212.1), (19, .int .i64 y227.1), (21, .int .i64 y242.2), (22, .int .i64 y247.1), (23, .int .i64 y262.1), (112, .bool true)]) (.cons rfl (.cons rfl (.cons rfl (.cons rfl (.cons rfl (.cons rfl (.cons rfl (.cons rfl (.cons rfl (.cons rfl (.cons rfl (.cons rfl (.cons rfl (.cons rfl (.cons rfl (.cons rfl (.cons rfl (.cons rfl (.nil _))))))))))))))))))) (K318 true _ ⟨by first | (rw [hg317]; rfl) | rfl, rfl⟩)
    ·refine sr_evg (b := false) (e := 99) rfl rfl hg317 (v := .int .i64 y302.1) (ev_move rfl) (by decide) ?_
     refine sr_evg (b := false) (e := 99) rfl rfl hg317 (v := .bool (y302.1 == 0)) (ev_eq rfl rfl) (by decide) ?_
     refine sr_evg (b := false) (e := 99) rfl rfl hg317 (v := .bool (y302.1 == 0)) (ev_move rfl) (by decide) ?_
     refine sr_join (m := 9) (C := fun (x : Bool) w1 => x = ((y302.1 == 0) && ((y292.1 == y242.1) || (y297.1 == y242.1))) ∧ w304 = w1) (l' := fun x => [(2, .pointer (some ⟨g31, 0, none⟩)), (3, .int .i64 y41.1), (4, .int .i64 y56.1), (5, .int .i64 y71.1), (6, .int .i64 y86.1), (7, .int .i64 y101.1), (10, .int .i64 y116.2.2.1), (11, str y133.1), (12, v138), (13, .int .i64 y133.2.2.1), (16, .int .i64 y150.2.2.1), (17, .int .i64 y197.1), (18, .int .i64 y212.1), (19, .int .i64 y227.1), (21, .int .i64 y242.2), (22, .int .i64 y247.1), (23, .int .i64 y262.1), (99, .bool (y302.1 == 11)), (111, .bool x)]) ?_ ?_
     ·rintro _ _ ⟨rfl, rfl⟩
      refine sr_ev (v := .bool ((y302.1 == 0) && ((y292.1 == y242.1) || (y297.1 == y242.1)))) (ev_pick_f rfl hg317 rfl) (by decide) ?_
      exact sr_weaken (l' := [(2, .pointer (some ⟨g31, 0, none⟩)), (3, .int .i64 y41.1), (4, .int .i64 y56.1), (5, .int .i64 y71.1), (6, .int .i64 y86.1), (7, .int .i64 y101.1), (10, .int .i64 y116.2.2.1), (11, str y133.1), (12, v138), (13, .int .i64 y133.2.2.1), (16, .int .i64 y150.2.2.1), (17, .int .i64 y197.1), (18, .int .i64 y212.1), (19, .int .i64 y227.1), (21, .int .i64 y242.2), (22, .int .i64 y247.1), (23, .int .i64 y262.1), (112, .bool ((y302.1 == 0) && ((y292.1 == y242.1) || (y297.1 == y242.1))))]) (.cons rfl (.cons rfl (.cons rfl (.cons rfl (.cons rfl (.cons rfl (.cons rfl (.cons rfl (.cons rfl (.cons rfl (.cons rfl (.cons rfl (.cons rfl (.cons rfl (.cons rfl (.cons rfl (.cons rfl (.cons rfl (.nil _))))))))))))))))))) (K318 ((y302.1 == 0) && ((y292.1 == y242.1) || (y297.1 == y242.1))) _ ⟨by first | (rw [hg317]; rfl) | rfl, rfl⟩)
     ·intro K326
      rcases Bool.eq_false_or_eq_true (y302.1 == 0) with hg325 | hg325
      all_goals try have hj328 : Tr ρ316 w304 (fun _ => false) ρ316 w304 := Tr.refl hb.bd
      ·refine sr_evg (b := true) (e := 102) rfl rfl hg325 (v := str y292.1) (ev_move rfl) (by decide) ?_
       refine sr_evg (b := true) (e := 102) rfl rfl hg325 (v := str y242.1) (ev_move rfl) (by decide) ?_
       refine sr_evg (b := true) (e := 102) rfl rfl hg325 (v := .bool (y292.1 == y242.1)) (ev_seq rfl rfl) (by decide) ?_
       refine sr_evg (b := true) (e := 102) rfl rfl hg325 (v := .bool (y292.1 == y242.1)) (ev_move rfl) (by decide) ?_
       refine sr_join (m := 4) (C := fun (x : Bool) w1 => x = ((y292.1 == y242.1) || (y297.1 == y242.1)) ∧ w304 = w1) (l' := fun x => [(2, .pointer (some ⟨g31, 0, none⟩)), (3, .int .i64 y41.1), (4, .int .i64 y56.1), (5, .int .i64 y71.1), (6, .int .i64 y86.1), (7, .int .i64 y101.1), (10, .int .i64 y116.2.2.1), (11, str y133.1), (12, v138), (13, .int .i64 y133.2.2.1), (16, .int .i64 y150.2.2.1), (17, .int .i64 y197.1), (18, .int .i64 y212.1), (19, .int .i64 y227.1), (21, .int .i64 y242.2), (22, .int .i64 y247.1), (23, .int .i64 y262.1), (99, .bool (y302.1 == 11)), (102, .bool (y302.1 == 0)), (110, .bool x)]) ?_ ?_
       ·rintro _ _ ⟨rfl, rfl⟩
        refine sr_evg (b := false) (e := 99) rfl rfl hg317 (v := .bool ((y292.1 == y242.1) || (y297.1 == y242.1))) (ev_pick_t rfl hg325 rfl) (by decide) ?_
        exact sr_weaken (l' := [(2, .pointer (some ⟨g31, 0, none⟩)), (3, .int .i64 y41.1), (4, .int .i64 y56.1), (5, .int .i64 y71.1), (6, .int .i64 y86.1), (7, .int .i64 y101.1), (10, .int .i64 y116.2.2.1), (11, str y133.1), (12, v138), (13, .int .i64 y133.2.2.1), (16, .int .i64 y150.2.2.1), (17, .int .i64 y197.1), (18, .int .i64 y212.1), (19, .int .i64 y227.1), (21, .int .i64 y242.2), (22, .int .i64 y247.1), (23, .int .i64 y262.1), (99, .bool (y302.1 == 11)), (111, .bool ((y292.1 == y242.1) || (y297.1 == y242.1)))]) (.cons rfl (.cons rfl (.cons rfl (.cons rfl (.cons rfl (.cons rfl (.cons rfl (.cons rfl (.cons rfl (.cons rfl (.cons rfl (.cons rfl (.cons rfl (.cons rfl (.cons rfl (.cons rfl (.cons rfl (.cons rfl (.cons rfl (.nil _)))))))))))))))))))) (K326 ((y292.1 == y242.1) || (y297.1 == y242.1)) _ ⟨by first | (rw [hg325]; rfl) | rfl, rfl⟩)
       ·intro K334
        rcases Bool.eq_false_or_eq_true (y292.1 == y242.1) with hg333 | hg333
        all_goals try have hj336 : Tr ρ316 w304 (fun _ => false) ρ316 w304 := Tr.refl hb.bd
        ·refine sr_pass (e := 106) rfl rfl (by rw [hg333]; rfl) (by decide) ?_
         refine sr_pass (e := 106) rfl rfl (by rw [hg333]; rfl) (by decide) ?_
         refine sr_pass (e := 106) rfl rfl (by rw [hg333]; rfl) (by decide) ?_
         refine sr_evg (b := true) (e := 102) rfl rfl hg325 (v := .bool true) (ev_pick_t rfl hg333 rfl) (by decide) ?_
         exact sr_weaken (l' := [(2, .pointer (some ⟨g31, 0, none⟩)), (3, .int .i64 y41.1), (4, .int .i64 y56.1), (5, .int .i64 y71.1), (6, .int .i64 y86.1), (7, .int .i64 y101.1), (10, .int .i64 y116.2.2.1), (11, str y133.1), (12, v138), (13, .int .i64 y133.2.2.1), (16, .int .i64 y150.2.2.1), (17, .int .i64 y197.1), (18, .int .i64 y212.1), (19, .int .i64 y227.1), (21, .int .i64 y242.2), (22, .int .i64 y247.1), (23, .int .i64 y262.1), (99, .bool (y302.1 == 11)), (102, .bool (y302.1 == 0)), (110, .bool true)]) (.cons rfl (.cons rfl (.cons rfl (.cons rfl (.cons rfl (.cons rfl (.cons rfl (.cons rfl (.cons rfl (.cons rfl (.cons rfl (.cons rfl (.cons rfl (.cons rfl (.cons rfl (.cons rfl (.cons rfl (.cons rfl (.cons rfl (.cons rfl (.nil _))))))))))))))))))))) (K334 true _ ⟨by first | (rw [hg333]; rfl) | rfl, rfl⟩)
        ·refine sr_evg (b := false) (e := 106) rfl rfl hg333 (v := str y297.1) (ev_move rfl) (by decide) ?_
         refine sr_evg (b := false) (e := 106) rfl rfl hg333 (v := str y242.1) (ev_move rfl) (by decide) ?_
         refine sr_evg (b := false) (e := 106) rfl rfl hg333 (v := .bool (y297.1 == y242.1)) (ev_seq rfl rfl) (by decide) ?_
         refine sr_evg (b := true) (e := 102) rfl rfl hg325 (v := .bool (y297.1 == y242.1)) (ev_pick_f rfl hg333 rfl) (by decide) ?_
         exact sr_weaken (l' := [(2, .pointer (some ⟨g31, 0, none⟩)), (3, .int .i64 y41.1), (4, .int .i64 y56.1), (5, .int .i64 y71.1), (6, .int .i64 y86.1), (7, .int .i64 y101.1), (10, .int .i64 y116.2.2.1), (11, str y133.1), (12, v138), (13, .int .i64 y133.2.2.1), (16, .int .i64 y150.2.2.1), (17, .int .i64 y197.1), (18, .int .i64 y212.1), (19, .int .i64 y227.1), (21, .int .i64 y242.2), (22, .int .i64 y247.1), (23, .int .i64 y262.1), (99, .bool (y302.1 == 11)), (102, .bool (y302.1 == 0)), (110, .bool (y297.1 == y242.1))]) (.cons rfl (.cons rfl (.cons rfl (.cons rfl (.cons rfl (.cons rfl (.cons rfl (.cons rfl (.cons rfl (.cons rfl (.cons rfl (.cons rfl (.cons rfl (.cons rfl (.cons rfl (.cons rfl (.cons rfl (.cons rfl (.cons rfl (.cons rfl (.nil _))))))))))))))))))))) (K334 (y297.1 == y242.1) _ ⟨by first | (rw [hg333]; rfl) | rfl, rfl⟩)
      ·refine sr_pass (e := 102) rfl rfl (by rw [hg325]; rfl) (by decide) ?_
       refine sr_pass (e := 102) rfl rfl (by rw [hg325]; rfl) (by decide) ?_
       refine sr_pass (e := 102) rfl rfl (by rw [hg325]; rfl) (by decide) ?_
       refine sr_pass (e := 102) rfl rfl (by rw [hg325]; rfl) (by decide) ?_
       refine sr_pass_undef (e := 106) rfl rfl (by decide) ?_
       refine sr_pass_undef (e := 106) rfl rfl (by decide) ?_
       refine sr_pass_undef (e := 106) rfl rfl (by decide) ?_
       refine sr_pass (e := 102) rfl rfl (by rw [hg325]; rfl) (by decide) ?_
       refine sr_evg (b := false) (e := 99) rfl rfl hg317 (v := .bool false) (ev_pick_f rfl hg325 rfl) (by decide) ?_
       exact sr_weaken (l' := [(2, .pointer (some ⟨g31, 0, none⟩)), (3, .int .i64 y41.1), (4, .int .i64 y56.1), (5, .int .i64 y71.1), (6, .int .i64 y86.1), (7, .int .i64 y101.1), (10, .int .i64 y116.2.2.1), (11, str y133.1), (12, v138), (13, .int .i64 y133.2.2.1), (16, .int .i64 y150.2.2.1), (17, .int .i64 y197.1), (18, .int .i64 y212.1), (19, .int .i64 y227.1), (21, .int .i64 y242.2), (22, .int .i64 y247.1), (23, .int .i64 y262.1), (99, .bool (y302.1 == 11)), (111, .bool false)]) (.cons rfl (.cons rfl (.cons rfl (.cons rfl (.cons rfl (.cons rfl (.cons rfl (.cons rfl (.cons rfl (.cons rfl (.cons rfl (.cons rfl (.cons rfl (.cons rfl (.cons rfl (.cons rfl (.cons rfl (.cons rfl (.cons rfl (.nil _)))))))))))))))))))) (K326 false _ ⟨by first | (rw [hg325]; rfl) | rfl, rfl⟩)
theorem login_Logins_ready__nil_ok (w0 : World) (hg : Gs w0) {ρA : Tags} (hbd : ∀ b, ρA b ≠ 0 → b < w0.heap.size) (hz : Gz ρA) {r : Bool} (hS : login_Logins_ready__nil = some r) :
  Calls Tryz.prog 42 #[.pointer none] w0 (Ret (fun v w' => v = .bool r ∧ Below w0.heap.size w0 w')) := by
 unfold login_Logins_ready__nil at hS
 have hb := flat1_fr (ρ := ρA) (w := w0) hbd
 have hz := hz.flat1
 refine calls_of_ke Tryz.func42 rfl (n := 12) rfl rfl (l := [(0, .pointer none)]) rfl ?_
 refine ke_seq ?_
 refine ke_region ?_
 refine sr_ev (v := .bool false) (ev_assign rfl) (by decide) ?_
 refine sr_end (l' := [(0, .pointer none)]) (.cons rfl (.nil _)) ?_
 refine ke_seq ?_
 refine ke_region ?_
 refine sr_ev (v := .pointer none) (ev_move rfl) (by decide) ?_
 refine sr_ev (v := .bool false) (ev_pneT_nil Tryz.underlying25 rfl rfl) (by decide) ?_
 refine sr_ev (v := .bool false) (ev_move rfl) (by decide) ?_
 refine sr_pass (e := 5) rfl rfl rfl (by decide) ?_
 refine sr_pass (e := 5) rfl rfl rfl (by decide) ?_
 refine sr_pass (e := 5) rfl rfl rfl (by decide) ?_
 refine sr_pass (e := 5) rfl rfl rfl (by decide) ?_
 refine sr_pass (e := 5) rfl rfl rfl (by decide) ?_
 refine sr_ev (v := .bool false) (ev_pick_f rfl rfl rfl) (by decide) ?_
 refine sr_ev (v := .bool false) (ev_assign rfl) (by decide) ?_
 refine sr_end (l' := [(2, .bool false)]) (.cons rfl (.nil _)) ?_
 cases hS
 exact ke_ret1 Tryz.func42 rfl rfl ⟨_, rfl, rfl, (hb.below (flat1_le _))⟩
theorem login_Logins_find__nil_ok (w0 : World) (hg : Gs w0) {ρA : Tags} (hbd : ∀ b, ρA b ≠ 0 → b < w0.heap.size) (hz : Gz ρA) {id_1 : Str} {now_2 : Int} {r : login_attempt × Int} (hS : login_Logins_find__nil id_1 now_2 = some r) :
  Calls Tryz.prog 49 #[.pointer none, str id_1, .int .i64 now_2] w0 (Ret (fun v w' => ∃ x1, v = .tuple #[.agg #[str r.1.user, .int .i64 r.1.begun, x1], .int .i64 r.2] ∧ SlR api_Proof.c (Wb ρA) w' x1 r.1.proofs ∧ Below w0.heap.size w0 w')) := by
 unfold login_Logins_find__nil at hS
 have hb := flat1_fr (ρ := ρA) (w := w0) hbd
 have hz := hz.flat1
 refine calls_of_ke Tryz.func49 rfl (n := 33) rfl rfl (l := [(0, .pointer none), (1, str id_1), (2, .int .i64 now_2)]) rfl ?_
 refine ke_seq ?_
 refine ke_region ?_
 refine sr_allocT 8 (by decide) hb.bd Tryz.zeroValue74 (by decide) ?_
 intro g3 ρ4 w5 hB7 htr6
 replace hb := hb.trans htr6
 replace hB7 : Blk ρ4 8 w5 g3 (.cells #[str ([]), .int .i64 0, (.slice none 0 0)] 74 (0, 0)) := hB7
 refine sr_ev (v := .int .i64 0) (ev_assign rfl) (by decide) ?_
 refine sr_end (l' := [(0, .pointer none), (1, str id_1), (2, .int .i64 now_2), (6, .pointer (some ⟨g3, 0, none⟩))]) (.cons rfl (.cons rfl (.cons rfl (.cons rfl (.nil _))))) ?_
 refine ke_seq ?_
 refine ke_seq ?_
 refine ke_region ?_
 refine sr_ev (v := .pointer none) (ev_move rfl) (by decide) ?_
 obtain ⟨y8, hy9, hS⟩ := bind_some' hS
 obtain rfl : y8 = false := (Option.some.inj hy9).symm
 refine sr_call (vs := [.pointer none]) rfl Tryz.call42 rfl (login_Logins_ready__nil_ok _ (hg.fr hz hb) (ρA := ρ4) hb.bd (hz.fr hg hb) hy9) (by decide) ?_
 rintro _ w10 ⟨rfl, hbw11⟩
 have htr12 := Tr.of_below hbw11 hb.bd
 replace hB7 := hB7.mv (htr12.mv (i := 8) rfl)
 replace hb := hb.trans htr12
 refine sr_ev (v := .bool true) (ev_notc rfl rfl) (by decide) ?_
 refine sr_end (l' := [(0, .pointer none), (1, str id_1), (2, .int .i64 now_2), (6, .pointer (some ⟨g3, 0, none⟩)), (12, .bool true)]) (.cons rfl (.cons rfl (.cons rfl (.cons rfl (.cons rfl (.nil _)))))) ?_
 refine ke_cond (t := true) rfl (fun _ => ?_) (fun h => by cases h)
 refine ke_seq ?_
 refine ke_region ?_
 refine sr_ev (v := .agg #[str ([]), .int .i64 0, (.slice none 0 0)]) (ev_build (vs := #[]) rfl (fun _ => by kernel_rfl)) (by decide) ?_
 refine sr_storeT (v := .agg #[str ([]), .int .i64 0, (.slice none 0 0)]) (vs := [str ([]), .int .i64 0, (.slice none 0 0)]) (cs' := #[str ([]), .int .i64 0, (.slice none 0 0)]) hB7 (by decide) hb.bd rfl rfl rfl Tryz.sizeOf74 rfl rfl rfl ?_
 intro w13 hB71 htr14
 replace hb := hb.trans htr14
 replace hB7 : Blk ρ4 8 w13 g3 (.cells #[str ([]), .int .i64 0, (.slice none 0 0)] 74 (0, 0)) := hB71
 clear hB71
 refine sr_ev (v := .int .i64 1) (ev_assign rfl) (by decide) ?_
 refine sr_end (l' := [(6, .pointer (some ⟨g3, 0, none⟩)), (7, .int .i64 1)]) (.cons rfl (.cons rfl (.nil _))) ?_
 cases hS
 exact ke_ret (rs := [.cell 6 74, .tmp 7]) (vs := [.agg #[str ([]), .int .i64 0, (.slice none 0 0)], .int .i64 1]) Tryz.func49 rfl ⟨⟨_, rfl, run_loadVar_s (cs := [str ([]), .int .i64 0, (.slice none 0 0)]) Tryz.isAgg74 Tryz.sizeOf74 (hB7.cells (vs := [str ([]), .int .i64 0, (.slice none 0 0)]) rfl)⟩, rfl, trivial⟩ rfl ⟨_, rfl, _, rfl, SlR.nil, (hb.below (flat1_le _))⟩
theorem login_Logins_Finish__nil_ok (w0 : World) (hg : Gs w0) {ρA : Tags} (hbd : ∀ b, ρA b ≠ 0 → b < w0.heap.size) (hz : Gz ρA) {id_1 : Str} {level_2 : Int} {now_3 : Int} {r : Str × (List api_Proof) × Int} (hS : login_Logins_Finish__nil id_1 level_2 now_3 = some r) :
  Calls Tryz.prog 17 #[.pointer none, str id_1, .int .i64 level_2, .int .i64 now_3] w0 (Ret (fun v w' => ∃ x1, v = .tuple #[str r.1, x1, .int .i64 r.2.2] ∧ SlR api_Proof.c (Wb ρA) w' x1 r.2.1 ∧ Below w0.heap.size w0 w')) := by
 unfold login_Logins_Finish__nil at hS
 have hb := flat1_fr (ρ := ρA) (w := w0) hbd
 have hz := hz.flat1
 refine calls_of_ke Tryz.func17 rfl (n := 40) rfl rfl (l := [(0, .pointer none), (1, str id_1), (2, .int .i64 level_2), (3, .int .i64 now_3)]) rfl ?_
 refine ke_seq ?_
 refine ke_region ?_
 refine sr_ev (v := str ([])) (ev_assign rfl) (by decide) ?_
 refine sr_ev (v := .slice none 0 0) (ev_assign rfl) (by decide) ?_
 refine sr_ev (v := .int .i64 0) (ev_assign rfl) (by decide) ?_
 refine sr_end (l' := [(0, .pointer none), (1, str id_1), (2, .int .i64 level_2), (3, .int .i64 now_3)]) (.cons rfl (.cons rfl (.cons rfl (.cons rfl (.nil _))))) ?_
 refine ke_seq ?_
 refine ke_region ?_
 refine sr_ev (v := .pointer none) (ev_move rfl) (by decide) ?_
 refine sr_ev (v := str id_1) (ev_move rfl) (by decide) ?_
 refine sr_ev (v := .int .i64 now_3) (ev_move rfl) (by decide) ?_
 obtain ⟨y3, hy4, hS⟩ := bind_some' hS
 refine sr_call (vs := [.pointer none, str id_1, .int .i64 now_3]) rfl Tryz.call49 rfl (login_Logins_find__nil_ok _ (hg.fr hz hb) (ρA := (flat1 ρA)) hb.bd (hz.fr hg hb) hy4) (by decide) ?_
 rintro _ w5 ⟨v8, rfl, h9, hbw6⟩
 have htr7 := Tr.of_below hbw6 hb.bd
 replace hb := hb.trans htr7
 refine sr_ev (v := .tuple #[.agg #[str y3.1.user, .int .i64 y3.1.begun, v8], .int .i64 y3.2]) (ev_move rfl) (by decide) ?_
 refine sr_ev (v := .agg #[str y3.1.user, .int .i64 y3.1.begun, v8]) (ev_extract rfl rfl) (by decide) ?_
 refine sr_ev (v := .int .i64 y3.2) (ev_extract rfl rfl) (by decide) ?_
 refine sr_allocT 13 (by decide) hb.bd Tryz.zeroValue74 (by decide) ?_
 intro g10 ρ11 w12 hB14 htr13
 replace h9 := h9.mv htr13.rd
 replace hb := hb.trans htr13
 replace hB14 : Blk ρ11 13 w12 g10 (.cells #[str ([]), .int .i64 0, (.slice none 0 0)] 74 (0, 0)) := hB14
 refine sr_storeT (v := .agg #[str y3.1.user, .int .i64 y3.1.begun, v8]) (vs := [str y3.1.user, .int .i64 y3.1.begun, v8]) (cs' := #[str y3.1.user, .int .i64 y3.1.begun, v8]) hB14 (by decide) hb.bd rfl rfl rfl Tryz.sizeOf74 rfl (by first | rfl | (simp only [List.all_cons, List.all_nil, SlR.oneCell h9]; done) | (simp only [List.all_cons, List.all_nil, SlR.oneCell h9]; rfl)) rfl ?_
 intro w15 hB141 htr16
 replace h9 := h9.mv htr16.rd
 replace hb := hb.trans htr16
 replace hB14 : Blk ρ11 13 w15 g10 (.cells #[str y3.1.user, .int .i64 y3.1.begun, v8] 74 (0, 0)) := hB141
 clear hB141
 refine sr_ev (v := .int .i64 y3.2) (ev_assign rfl) (by decide) ?_
 refine sr_end (l' := [(0, .pointer none), (1, str id_1), (2, .int .i64 level_2), (11, .pointer (some ⟨g10, 0, none⟩)), (12, .int .i64 y3.2)]) (.cons rfl (.cons rfl (.cons rfl (.cons rfl (.cons rfl (.nil _)))))) ?_
 refine ke_seq ?_
 refine ke_block ?_
 refine ke_seq ?_
 refine ke_region ?_
 refine sr_ev (v := .int .i64 y3.2) (ev_move rfl) (by decide) ?_
 refine sr_ev (v := .bool (y3.2 != 0)) (ev_ne rfl rfl) (by decide) ?_
 refine sr_ev (v := .bool (y3.2 != 0)) (ev_assign rfl) (by decide) ?_
 refine sr_end (l' := [(0, .pointer none), (1, str id_1), (2, .int .i64 level_2), (11, .pointer (some ⟨g10, 0, none⟩)), (12, .int .i64 y3.2), (20, .bool (y3.2 != 0))]) (.cons rfl (.cons rfl (.cons rfl (.cons rfl (.cons rfl (.cons rfl (.nil _))))))) ?_
 refine ke_cond (t := y3.2 != 0) rfl (fun hc17 => ?_) (fun hc17 => ?_)
 ·replace hS := ite_true' hS hc17
  refine ke_seq ?_
  refine ke_region ?_
  refine sr_ev (v := .int .i64 y3.2) (ev_move rfl) (by decide) ?_
  refine sr_ev (v := str ([])) (ev_assign rfl) (by decide) ?_
  refine sr_ev (v := .slice none 0 0) (ev_assign rfl) (by decide) ?_
  refine sr_ev (v := .int .i64 y3.2) (ev_assign rfl) (by decide) ?_
  refine sr_end (l' := [(8, str ([])), (9, .slice none 0 0), (10, .int .i64 y3.2)]) (.cons rfl (.cons rfl (.cons rfl (.nil _)))) ?_
  cases hS
  exact ke_ret3 Tryz.func17 rfl rfl rfl rfl ⟨_, rfl, _, rfl, SlR.nil, (hb.below (flat1_le _))⟩
 ·replace hS := ite_false' hS hc17
  refine ke_seq ?_
  refine ke_region ?_
  refine sr_ev (v := .pointer (some ⟨g10, 2, none⟩)) (ev_fieldAddr (i := 2) Tryz.underlying74 rfl Tryz.info36 rfl rfl) (by decide) ?_
  refine sr_ev (v := v8) (ev_load Tryz.isAgg36 rfl (hB14.cell rfl)) (by decide) ?_
  obtain ⟨y18, hy19, hS⟩ := bind_some' hS
  refine sr_call (vs := [v8]) rfl Tryz.call18 rfl (strength_Level_ok _ (hg.fr hz hb) (ρA := ρ11) hb.bd (hz.fr hg hb) h9 hy19) (by decide) ?_
  rintro _ w20 ⟨rfl, hbw21⟩
  have htr22 := Tr.of_below hbw21 hb.bd
  replace hB14 := hB14.mv (htr22.mv (i := 13) rfl)
  replace h9 := h9.mv htr22.rd
  replace hb := hb.trans htr22
  refine sr_ev (v := .int .i64 level_2) (ev_move rfl) (by decide) ?_
  refine sr_ev (v := .bool (decide (y18 < level_2))) (ev_lt rfl rfl) (by decide) ?_
  refine sr_ev (v := .bool (decide (y18 < level_2))) (ev_assign rfl) (by decide) ?_
  refine sr_end (l' := [(0, .pointer none), (1, str id_1), (11, .pointer (some ⟨g10, 0, none⟩)), (24, .bool (decide (y18 < level_2)))]) (.cons rfl (.cons rfl (.cons rfl (.cons rfl (.nil _))))) ?_
  refine ke_cond (t := decide (y18 < level_2)) rfl (fun hc23 => ?_) (fun hc23 => ?_)
  ·replace hS := ite_true' hS hc23
   refine ke_seq ?_
   refine ke_region ?_
   refine sr_ev (v := str ([])) (ev_assign rfl) (by decide) ?_
   refine sr_ev (v := .slice none 0 0) (ev_assign rfl) (by decide) ?_
   refine sr_ev (v := .int .i64 21) (ev_assign rfl) (by decide) ?_
   refine sr_end (l' := [(8, str ([])), (9, .slice none 0 0), (10, .int .i64 21)]) (.cons rfl (.cons rfl (.cons rfl (.nil _)))) ?_
   cases hS
   exact ke_ret3 Tryz.func17 rfl rfl rfl rfl ⟨_, rfl, _, rfl, SlR.nil, (hb.below (flat1_le _))⟩
  ·replace hS := ite_false' hS hc23
   refine ke_skip ?_
   refine ke_inBlock ?_
   refine ke_seq ?_
   refine ke_region ?_
   refine sr_ev (v := .pointer none) (ev_move rfl) (by decide) ?_
   cases hS

end YtkhodjenbganfaaGreatDoor
end Go.Proofs
