/- Own work: a part of the proofs of this seat. -/
import Derived.Test.YtmdbnoopcdpomaaGreatDoorProg
import Derived.Test.YtmdbnoopcdpomaaGreatDoorShelf
import Derived.Test.YtmdbnoopcdpomaaGreatDoorIter
import Derived.Test.YtmdbnoopcdpomaaGreatDoorKwFS
import Derived.KernelRfl
import Derived.Test.YtmdbnoopcdpomaaGreatDoorKwFClientNilW1
set_option linter.unusedVariables false
set_option linter.unusedSimpArgs false
set_option linter.unusedSectionVars false
set_option maxHeartbeats 8000000
set_option maxRecDepth 8000
namespace Go.Proofs
namespace YtmdbnoopcdpomaaGreatDoor
open Go Go.KW Go.KW.S Go.RowKit
theorem secret_isPassword_L1_ok {w0 : World} (hg : Gs w0) : ∀ (n : Nat), ∀ {r : Bool} {s_0 : Str} {t_5 : Int} {t_6 : Int}, secret_isPassword_L1 n s_0 t_5 t_6 = some r → ∀ {w : World}, (Below w0.heap.size w0 w) → KE Tryz.prog 64 (Ret (fun v w' => v = .bool r ∧ Below w0.heap.size w0 w')) 28 [.code (sub (bodyOf Tryz.f64) [2, 1, 2, 2, 1]), .inLoop (sub (bodyOf Tryz.f64) [2, 1, 2, 2, 1]), .inBlock 0, .code (sub (bodyOf Tryz.f64) [2, 2])] [(0, str s_0), (5, .int .i64 t_5), (6, .int .i64 t_6)] w := by
 intro n
 induction n with
 | zero => intro r s_0 t_5 t_6 hS; cases hS
 | succ n ih =>
  have hr0 : ∀ {r : Bool} {s_0 : Str} {t_5 : Int} {t_6 : Int}, secret_isPassword_L1 n s_0 t_5 t_6 = some r → ∀ {w : World}, (Below w0.heap.size w0 w) → KE Tryz.prog 64 (Ret (fun v w' => v = .bool r ∧ Below w0.heap.size w0 w')) 28 [.inLoop (sub (bodyOf Tryz.f64) [2, 1, 2, 2, 1]), .inBlock 0, .code (sub (bodyOf Tryz.f64) [2, 2])] [(0, str s_0), (5, .int .i64 t_5), (6, .int .i64 t_6)] w := fun {r} {s_0} {t_5} {t_6} hS {w} hb => ke_inLoop (ih hS hb)
  clear ih
  intro r s_0 t_5 t_6 hS w hb
  unfold secret_isPassword_L1 at hS
  refine ke_seq ?_
  refine ke_region ?_
  refine sr_ev (v := .bool (decide (t_6 < t_5))) (ev_lt rfl rfl) (by decide) ?_
  refine sr_end (l' := [(0, str s_0), (5, .int .i64 t_5), (6, .int .i64 t_6), (7, .bool (decide (t_6 < t_5)))]) (.cons rfl (.cons rfl (.cons rfl (.cons rfl (.nil _))))) ?_
  refine ke_seq ?_
  refine ke_cond (t := decide (t_6 < t_5)) rfl (fun hc1 => ?_) (fun hc1 => ?_)
  ·replace hS := ite_true' hS hc1
   refine ke_skip ?_
   refine ke_seq ?_
   refine ke_block ?_
   refine ke_seq ?_
   refine ke_region ?_
   refine sr_ev (v := .int .i64 t_6) (ev_move rfl) (by decide) ?_
   refine sr_ev (v := .int .i64 t_6) (ev_assign rfl) (by decide) ?_
   refine sr_end (l' := [(0, str s_0), (3, .int .i64 t_6), (5, .int .i64 t_5), (6, .int .i64 t_6)]) (.cons rfl (.cons rfl (.cons rfl (.cons rfl (.nil _))))) ?_
   refine ke_seq ?_
   refine ke_region ?_
   refine sr_ev (v := str s_0) (ev_move rfl) (by decide) ?_
   refine sr_ev (v := .int .i64 t_6) (ev_move rfl) (by decide) ?_
   obtain ⟨hk2, hS⟩ := chk_some hS
   refine sr_ev (v := .int .u8 (byteAt s_0 t_6)) (ev_sindex Tryz.underlying9 rfl rfl hk2) (by decide) ?_
   refine sr_ev (v := .bool (decide ((byteAt s_0 t_6) < 32))) (ev_lt rfl rfl) (by decide) ?_
   refine sr_ev (v := .bool (decide ((byteAt s_0 t_6) < 32))) (ev_move rfl) (by decide) ?_
   obtain ⟨z5, hz7, hS⟩ := bind_some' hS
   refine sr_join (m := 5) (C := fun (x : Bool) w1 => z5 = x ∧ Below w.heap.size w w1) (l' := fun x => [(0, str s_0), (5, .int .i64 t_5), (6, .int .i64 t_6), (18, .bool x)]) ?_ ?_
   ·rintro _ w8 ⟨rfl, hbw9⟩
    replace hb := hb.trans (hbw9.mono hb.size)
    refine sr_end (l' := [(0, str s_0), (5, .int .i64 t_5), (6, .int .i64 t_6), (18, .bool z5)]) (.cons rfl (.cons rfl (.cons rfl (.cons rfl (.nil _))))) ?_
    refine ke_cond (t := z5) rfl (fun hc11 => ?_) (fun hc11 => ?_)
    ·replace hS := ite_true' hS hc11
     refine ke_seq ?_
     refine ke_region ?_
     refine sr_ev (v := .bool false) (ev_assign rfl) (by decide) ?_
     refine sr_end (l' := [(2, .bool false)]) (.cons rfl (.nil _)) ?_
     cases hS
     exact ke_ret1 Tryz.func64 rfl rfl ⟨_, rfl, rfl, hb⟩
    ·replace hS := ite_false' hS hc11
     refine ke_skip ?_
     refine ke_inBlock ?_
     refine ke_region ?_
     refine sr_ev (v := .int .i64 (IntKind.i64.wrap (t_6 + 1))) (ev_add rfl rfl) (by decide) ?_
     refine sr_ev (v := .int .i64 (IntKind.i64.wrap (t_6 + 1))) (ev_move rfl) (by decide) ?_
     refine sr_end (l' := [(0, str s_0), (5, .int .i64 t_5), (6, .int .i64 (IntKind.i64.wrap (t_6 + 1)))]) (.cons rfl (.cons rfl (.cons rfl (.nil _)))) ?_
     have hK := hr0 hS hb
     exact ke_weaken (l' := [(0, str s_0), (5, .int .i64 t_5), (6, .int .i64 (IntKind.i64.wrap (t_6 + 1)))]) (.cons rfl (.cons rfl (.cons rfl (.nil _)))) hK
   ·intro K4
    clear hS
    have hj6 := Below.refl w.heap.size w
    rcases Bool.eq_false_or_eq_true (decide ((byteAt s_0 t_6) < 32)) with hg3 | hg3
    ·have hS := ite_true' hz7 hg3
     refine sr_pass (e := 13) rfl rfl (by rw [hg3]; rfl) (by decide) ?_
     refine sr_pass (e := 13) rfl rfl (by rw [hg3]; rfl) (by decide) ?_
     refine sr_pass (e := 13) rfl rfl (by rw [hg3]; rfl) (by decide) ?_
     refine sr_pass (e := 13) rfl rfl (by rw [hg3]; rfl) (by decide) ?_
     refine sr_ev (v := .bool true) (ev_pick_t rfl hg3 rfl) (by decide) ?_
     exact sr_weaken (l' := [(0, str s_0), (5, .int .i64 t_5), (6, .int .i64 t_6), (18, .bool true)]) (.cons rfl (.cons rfl (.cons rfl (.cons rfl (.nil _))))) (K4 true _ ⟨(Option.some.inj hS).symm, hj6⟩)
    ·have hS := ite_false' hz7 hg3
     refine sr_evg (b := false) (e := 13) rfl rfl hg3 (v := str s_0) (ev_move rfl) (by decide) ?_
     refine sr_evg (b := false) (e := 13) rfl rfl hg3 (v := .int .i64 t_6) (ev_move rfl) (by decide) ?_
     obtain ⟨hk10, hS⟩ := chk_some hS
     refine sr_evg (b := false) (e := 13) rfl rfl hg3 (v := .int .u8 (byteAt s_0 t_6)) (ev_sindex Tryz.underlying9 rfl rfl hk10) (by decide) ?_
     refine sr_evg (b := false) (e := 13) rfl rfl hg3 (v := .bool (decide ((byteAt s_0 t_6) > 126))) (ev_gt rfl rfl) (by decide) ?_
     refine sr_ev (v := .bool (decide ((byteAt s_0 t_6) > 126))) (ev_pick_f rfl hg3 rfl) (by decide) ?_
     exact sr_weaken (l' := [(0, str s_0), (5, .int .i64 t_5), (6, .int .i64 t_6), (18, .bool (decide ((byteAt s_0 t_6) > 126)))]) (.cons rfl (.cons rfl (.cons rfl (.cons rfl (.nil _))))) (K4 (decide ((byteAt s_0 t_6) > 126)) _ ⟨(Option.some.inj hS).symm, hj6⟩)
  ·replace hS := ite_false' hS hc1
   refine ke_exit (k' := _) rfl ?_
   refine ke_seq ?_
   refine ke_region ?_
   refine sr_ev (v := str s_0) (ev_move rfl) (by decide) ?_
   refine sr_ev (v := .int .i64 (s_0.length : Int)) (ev_slen Tryz.underlying9 rfl) (by decide) ?_
   refine sr_ev (v := .bool (decide ((s_0.length : Int) ≥ 8))) (ev_ge rfl rfl) (by decide) ?_
   refine sr_ev (v := .bool (decide ((s_0.length : Int) ≥ 8))) (ev_move rfl) (by decide) ?_
   refine sr_join (m := 4) (C := fun (x : Bool) w1 => x = ((decide ((s_0.length : Int) ≥ 8)) && (decide ((s_0.length : Int) ≤ 256))) ∧ w = w1) (l' := fun x => [(27, .bool x)]) ?_ ?_
   ·rintro _ _ ⟨rfl, rfl⟩
    refine sr_ev (v := .bool ((decide ((s_0.length : Int) ≥ 8)) && (decide ((s_0.length : Int) ≤ 256)))) (ev_assign rfl) (by decide) ?_
    refine sr_end (l' := [(2, .bool ((decide ((s_0.length : Int) ≥ 8)) && (decide ((s_0.length : Int) ≤ 256))))]) (.cons rfl (.nil _)) ?_
    cases hS
    exact ke_ret1 Tryz.func64 rfl rfl ⟨_, rfl, rfl, hb⟩
   ·intro K13
    rcases Bool.eq_false_or_eq_true (decide ((s_0.length : Int) ≥ 8)) with hg12 | hg12
    ·refine sr_evg (b := true) (e := 23) rfl rfl hg12 (v := str s_0) (ev_move rfl) (by decide) ?_
     refine sr_evg (b := true) (e := 23) rfl rfl hg12 (v := .int .i64 (s_0.length : Int)) (ev_slen Tryz.underlying9 rfl) (by decide) ?_
     refine sr_evg (b := true) (e := 23) rfl rfl hg12 (v := .bool (decide ((s_0.length : Int) ≤ 256))) (ev_le rfl rfl) (by decide) ?_
     refine sr_ev (v := .bool (decide ((s_0.length : Int) ≤ 256))) (ev_pick_t rfl hg12 rfl) (by decide) ?_
     exact sr_weaken (l' := [(27, .bool (decide ((s_0.length : Int) ≤ 256)))]) (.cons rfl (.nil _)) (K13 (decide ((s_0.length : Int) ≤ 256)) _ ⟨by rw [hg12]; rfl, rfl⟩)
    ·refine sr_pass (e := 23) rfl rfl (by rw [hg12]; rfl) (by decide) ?_
     refine sr_pass (e := 23) rfl rfl (by rw [hg12]; rfl) (by decide) ?_
     refine sr_pass (e := 23) rfl rfl (by rw [hg12]; rfl) (by decide) ?_
     refine sr_ev (v := .bool false) (ev_pick_f rfl hg12 rfl) (by decide) ?_
     exact sr_weaken (l' := [(27, .bool false)]) (.cons rfl (.nil _)) (K13 false _ ⟨by rw [hg12]; rfl, rfl⟩)
theorem secret_isPassword_ok (w0 : World) (hg : Gs w0) {s_0 : Str} {r : Bool} (hS : secret_isPassword s_0 = some r) :
  Calls Tryz.prog 64 #[str s_0] w0 (Ret (fun v w' => v = .bool r ∧ Below w0.heap.size w0 w')) := by
 unfold secret_isPassword at hS
 have hb := Below.refl w0.heap.size w0
 refine calls_of_ke Tryz.func64 rfl (n := 28) rfl rfl (l := [(0, str s_0)]) rfl ?_
 refine ke_seq ?_
 refine ke_region ?_
 refine sr_ev (v := .bool false) (ev_assign rfl) (by decide) ?_
 refine sr_end (l' := [(0, str s_0)]) (.cons rfl (.nil _)) ?_
 refine ke_seq ?_
 refine ke_seq ?_
 refine ke_region ?_
 refine sr_ev (v := str s_0) (ev_move rfl) (by decide) ?_
 refine sr_ev (v := .int .i64 (s_0.length : Int)) (ev_slen Tryz.underlying9 rfl) (by decide) ?_
 refine sr_ev (v := .int .i64 0) (ev_move rfl) (by decide) ?_
 refine sr_end (l' := [(0, str s_0), (5, .int .i64 (s_0.length : Int)), (6, .int .i64 0)]) (.cons rfl (.cons rfl (.cons rfl (.nil _)))) ?_
 refine ke_block ?_
 have hK := secret_isPassword_L1_ok hg _ hS hb
 exact ke_weaken (l' := [(0, str s_0), (5, .int .i64 (s_0.length : Int)), (6, .int .i64 0)]) (.cons rfl (.cons rfl (.cons rfl (.nil _)))) (ke_loop hK)
theorem digest_Sum_L1_ok {w0 : World} (hg : Gs w0) : ∀ (n : Nat), ∀ {r : Int} {s_0 : Str} {h_3 : Int} {t_6 : Int} {t_7 : Int}, digest_Sum_L1 n s_0 h_3 t_6 t_7 = some r → ∀ {w : World}, (Below w0.heap.size w0 w) → KE Tryz.prog 102 (Ret (fun v w' => v = .int .u64 r ∧ Below w0.heap.size w0 w')) 34 [.code (sub (bodyOf Tryz.f102) [2, 2, 1, 2, 2, 1]), .inLoop (sub (bodyOf Tryz.f102) [2, 2, 1, 2, 2, 1]), .inBlock 0, .code (sub (bodyOf Tryz.f102) [2, 2, 2])] [(0, str s_0), (3, .int .u64 h_3), (6, .int .i64 t_6), (7, .int .i64 t_7)] w := by
 intro n
 induction n with
 | zero => intro r s_0 h_3 t_6 t_7 hS; cases hS
 | succ n ih =>
  have hr0 : ∀ {r : Int} {s_0 : Str} {h_3 : Int} {t_6 : Int} {t_7 : Int}, digest_Sum_L1 n s_0 h_3 t_6 t_7 = some r → ∀ {w : World}, (Below w0.heap.size w0 w) → KE Tryz.prog 102 (Ret (fun v w' => v = .int .u64 r ∧ Below w0.heap.size w0 w')) 34 [.inLoop (sub (bodyOf Tryz.f102) [2, 2, 1, 2, 2, 1]), .inBlock 0, .code (sub (bodyOf Tryz.f102) [2, 2, 2])] [(0, str s_0), (3, .int .u64 h_3), (6, .int .i64 t_6), (7, .int .i64 t_7)] w := fun {r} {s_0} {h_3} {t_6} {t_7} hS {w} hb => ke_inLoop (ih hS hb)
  clear ih
  intro r s_0 h_3 t_6 t_7 hS w hb
  unfold digest_Sum_L1 at hS
  refine ke_seq ?_
  refine ke_region ?_
  refine sr_ev (v := .bool (decide (t_7 < t_6))) (ev_lt rfl rfl) (by decide) ?_
  refine sr_end (l' := [(0, str s_0), (3, .int .u64 h_3), (6, .int .i64 t_6), (7, .int .i64 t_7), (8, .bool (decide (t_7 < t_6)))]) (.cons rfl (.cons rfl (.cons rfl (.cons rfl (.cons rfl (.nil _)))))) ?_
  refine ke_seq ?_
  refine ke_cond (t := decide (t_7 < t_6)) rfl (fun hc1 => ?_) (fun hc1 => ?_)
  ·replace hS := ite_true' hS hc1
   refine ke_skip ?_
   refine ke_seq ?_
   refine ke_block ?_
   refine ke_seq ?_
   refine ke_region ?_
   refine sr_ev (v := .int .i64 t_7) (ev_move rfl) (by decide) ?_
   refine sr_ev (v := .int .i64 t_7) (ev_assign rfl) (by decide) ?_
   refine sr_end (l' := [(0, str s_0), (3, .int .u64 h_3), (4, .int .i64 t_7), (6, .int .i64 t_6), (7, .int .i64 t_7)]) (.cons rfl (.cons rfl (.cons rfl (.cons rfl (.cons rfl (.nil _)))))) ?_
   refine ke_region ?_
   refine sr_ev (v := .int .u64 h_3) (ev_move rfl) (by decide) ?_
   refine sr_ev (v := str s_0) (ev_move rfl) (by decide) ?_
   refine sr_ev (v := .int .i64 t_7) (ev_move rfl) (by decide) ?_
   obtain ⟨hk2, hS⟩ := chk_some hS
   refine sr_ev (v := .int .u8 (byteAt s_0 t_7)) (ev_sindex Tryz.underlying9 rfl rfl hk2) (by decide) ?_
   refine sr_ev (v := .int .u64 (IntKind.u64.wrap (byteAt s_0 t_7))) (ev_conv Tryz.underlying86 Tryz.underlying5 rfl) (by decide) ?_
   refine sr_ev (v := .int .u64 (bXor .u64 h_3 (IntKind.u64.wrap (byteAt s_0 t_7)))) (ev_xor rfl rfl) (by decide) ?_
   refine sr_ev (v := .int .u64 (IntKind.u64.wrap ((bXor .u64 h_3 (IntKind.u64.wrap (byteAt s_0 t_7))) * 1099511628211))) (ev_mul rfl rfl) (by decide) ?_
   refine sr_ev (v := .int .u64 (IntKind.u64.wrap ((bXor .u64 h_3 (IntKind.u64.wrap (byteAt s_0 t_7))) * 1099511628211))) (ev_assign rfl) (by decide) ?_
   refine sr_end (l' := [(0, str s_0), (3, .int .u64 (IntKind.u64.wrap ((bXor .u64 h_3 (IntKind.u64.wrap (byteAt s_0 t_7))) * 1099511628211))), (6, .int .i64 t_6), (7, .int .i64 t_7)]) (.cons rfl (.cons rfl (.cons rfl (.cons rfl (.nil _))))) ?_
   refine ke_inBlock ?_
   refine ke_region ?_
   refine sr_ev (v := .int .i64 (IntKind.i64.wrap (t_7 + 1))) (ev_add rfl rfl) (by decide) ?_
   refine sr_ev (v := .int .i64 (IntKind.i64.wrap (t_7 + 1))) (ev_move rfl) (by decide) ?_
   refine sr_end (l' := [(0, str s_0), (3, .int .u64 (IntKind.u64.wrap ((bXor .u64 h_3 (IntKind.u64.wrap (byteAt s_0 t_7))) * 1099511628211))), (6, .int .i64 t_6), (7, .int .i64 (IntKind.i64.wrap (t_7 + 1)))]) (.cons rfl (.cons rfl (.cons rfl (.cons rfl (.nil _))))) ?_
   have hK := hr0 hS hb
   exact ke_weaken (l' := [(0, str s_0), (3, .int .u64 (IntKind.u64.wrap ((bXor .u64 h_3 (IntKind.u64.wrap (byteAt s_0 t_7))) * 1099511628211))), (6, .int .i64 t_6), (7, .int .i64 (IntKind.i64.wrap (t_7 + 1)))]) (.cons rfl (.cons rfl (.cons rfl (.cons rfl (.nil _))))) hK
  ·replace hS := ite_false' hS hc1
   refine ke_exit (k' := _) rfl ?_
   refine ke_seq ?_
   refine ke_region ?_
   refine sr_ev (v := .int .u64 h_3) (ev_move rfl) (by decide) ?_
   refine sr_ev (v := .int .u64 h_3) (ev_move rfl) (by decide) ?_
   refine sr_ev (v := .int .u64 (bShr .u64 h_3 33)) (ev_shr rfl rfl (by decide)) (by decide) ?_
   refine sr_ev (v := .int .u64 (bXor .u64 h_3 (bShr .u64 h_3 33))) (ev_xor rfl rfl) (by decide) ?_
   refine sr_ev (v := .int .u64 (bXor .u64 h_3 (bShr .u64 h_3 33))) (ev_assign rfl) (by decide) ?_
   refine sr_end (l' := [(3, .int .u64 (bXor .u64 h_3 (bShr .u64 h_3 33)))]) (.cons rfl (.nil _)) ?_
   refine ke_seq ?_
   refine ke_region ?_
   refine sr_ev (v := .int .u64 (bXor .u64 h_3 (bShr .u64 h_3 33))) (ev_move rfl) (by decide) ?_
   refine sr_ev (v := .int .u64 (IntKind.u64.wrap ((bXor .u64 h_3 (bShr .u64 h_3 33)) * 18397679294719823053))) (ev_mul rfl rfl) (by decide) ?_
   refine sr_ev (v := .int .u64 (IntKind.u64.wrap ((bXor .u64 h_3 (bShr .u64 h_3 33)) * 18397679294719823053))) (ev_assign rfl) (by decide) ?_
   refine sr_end (l' := [(3, .int .u64 (IntKind.u64.wrap ((bXor .u64 h_3 (bShr .u64 h_3 33)) * 18397679294719823053)))]) (.cons rfl (.nil _)) ?_
   refine ke_seq ?_
   refine ke_region ?_
   refine sr_ev (v := .int .u64 (IntKind.u64.wrap ((bXor .u64 h_3 (bShr .u64 h_3 33)) * 18397679294719823053))) (ev_move rfl) (by decide) ?_
   refine sr_ev (v := .int .u64 (IntKind.u64.wrap ((bXor .u64 h_3 (bShr .u64 h_3 33)) * 18397679294719823053))) (ev_move rfl) (by decide) ?_
   refine sr_ev (v := .int .u64 (bShr .u64 (IntKind.u64.wrap ((bXor .u64 h_3 (bShr .u64 h_3 33)) * 18397679294719823053)) 33)) (ev_shr rfl rfl (by decide)) (by decide) ?_
   refine sr_ev (v := .int .u64 (bXor .u64 (IntKind.u64.wrap ((bXor .u64 h_3 (bShr .u64 h_3 33)) * 18397679294719823053)) (bShr .u64 (IntKind.u64.wrap ((bXor .u64 h_3 (bShr .u64 h_3 33)) * 18397679294719823053)) 33))) (ev_xor rfl rfl) (by decide) ?_
   refine sr_ev (v := .int .u64 (bXor .u64 (IntKind.u64.wrap ((bXor .u64 h_3 (bShr .u64 h_3 33)) * 18397679294719823053)) (bShr .u64 (IntKind.u64.wrap ((bXor .u64 h_3 (bShr .u64 h_3 33)) * 18397679294719823053)) 33))) (ev_assign rfl) (by decide) ?_
   refine sr_end (l' := [(3, .int .u64 (bXor .u64 (IntKind.u64.wrap ((bXor .u64 h_3 (bShr .u64 h_3 33)) * 18397679294719823053)) (bShr .u64 (IntKind.u64.wrap ((bXor .u64 h_3 (bShr .u64 h_3 33)) * 18397679294719823053)) 33)))]) (.cons rfl (.nil _)) ?_
   refine ke_seq ?_
   refine ke_region ?_
   refine sr_ev (v := .int .u64 (bXor .u64 (IntKind.u64.wrap ((bXor .u64 h_3 (bShr .u64 h_3 33)) * 18397679294719823053)) (bShr .u64 (IntKind.u64.wrap ((bXor .u64 h_3 (bShr .u64 h_3 33)) * 18397679294719823053)) 33))) (ev_move rfl) (by decide) ?_
   refine sr_ev (v := .int .u64 (IntKind.u64.wrap ((bXor .u64 (IntKind.u64.wrap ((bXor .u64 h_3 (bShr .u64 h_3 33)) * 18397679294719823053)) (bShr .u64 (IntKind.u64.wrap ((bXor .u64 h_3 (bShr .u64 h_3 33)) * 18397679294719823053)) 33)) * 14181476777654086739))) (ev_mul rfl rfl) (by decide) ?_
   refine sr_ev (v := .int .u64 (IntKind.u64.wrap ((bXor .u64 (IntKind.u64.wrap ((bXor .u64 h_3 (bShr .u64 h_3 33)) * 18397679294719823053)) (bShr .u64 (IntKind.u64.wrap ((bXor .u64 h_3 (bShr .u64 h_3 33)) * 18397679294719823053)) 33)) * 14181476777654086739))) (ev_assign rfl) (by decide) ?_
   refine sr_end (l' := [(3, .int .u64 (IntKind.u64.wrap ((bXor .u64 (IntKind.u64.wrap ((bXor .u64 h_3 (bShr .u64 h_3 33)) * 18397679294719823053)) (bShr .u64 (IntKind.u64.wrap ((bXor .u64 h_3 (bShr .u64 h_3 33)) * 18397679294719823053)) 33)) * 14181476777654086739)))]) (.cons rfl (.nil _)) ?_
   refine ke_seq ?_
   refine ke_region ?_
   refine sr_ev (v := .int .u64 (IntKind.u64.wrap ((bXor .u64 (IntKind.u64.wrap ((bXor .u64 h_3 (bShr .u64 h_3 33)) * 18397679294719823053)) (bShr .u64 (IntKind.u64.wrap ((bXor .u64 h_3 (bShr .u64 h_3 33)) * 18397679294719823053)) 33)) * 14181476777654086739))) (ev_move rfl) (by decide) ?_
   refine sr_ev (v := .int .u64 (IntKind.u64.wrap ((bXor .u64 (IntKind.u64.wrap ((bXor .u64 h_3 (bShr .u64 h_3 33)) * 18397679294719823053)) (bShr .u64 (IntKind.u64.wrap ((bXor .u64 h_3 (bShr .u64 h_3 33)) * 18397679294719823053)) 33)) * 14181476777654086739))) (ev_move rfl) (by decide) ?_
   refine sr_ev (v := .int .u64 (bShr .u64 (IntKind.u64.wrap ((bXor .u64 (IntKind.u64.wrap ((bXor .u64 h_3 (bShr .u64 h_3 33)) * 18397679294719823053)) (bShr .u64 (IntKind.u64.wrap ((bXor .u64 h_3 (bShr .u64 h_3 33)) * 18397679294719823053)) 33)) * 14181476777654086739)) 33)) (ev_shr rfl rfl (by decide)) (by decide) ?_
   refine sr_ev (v := .int .u64 (bXor .u64 (IntKind.u64.wrap ((bXor .u64 (IntKind.u64.wrap ((bXor .u64 h_3 (bShr .u64 h_3 33)) * 18397679294719823053)) (bShr .u64 (IntKind.u64.wrap ((bXor .u64 h_3 (bShr .u64 h_3 33)) * 18397679294719823053)) 33)) * 14181476777654086739)) (bShr .u64 (IntKind.u64.wrap ((bXor .u64 (IntKind.u64.wrap ((bXor .u64 h_3 (bShr .u64 h_3 33)) * 18397679294719823053)) (bShr .u64 (IntKind.u64.wrap ((bXor .u64 h_3 (bShr .u64 h_3 33)) * 18397679294719823053)) 33)) * 14181476777654086739)) 33))) (ev_xor rfl rfl) (by decide) ?_
   refine sr_ev (v := .int .u64 (bXor .u64 (IntKind.u64.wrap ((bXor .u64 (IntKind.u64.wrap ((bXor .u64 h_3 (bShr .u64 h_3 33)) * 18397679294719823053)) (bShr .u64 (IntKind.u64.wrap ((bXor .u64 h_3 (bShr .u64 h_3 33)) * 18397679294719823053)) 33)) * 14181476777654086739)) (bShr .u64 (IntKind.u64.wrap ((bXor .u64 (IntKind.u64.wrap ((bXor .u64 h_3 (bShr .u64 h_3 33)) * 18397679294719823053)) (bShr .u64 (IntKind.u64.wrap ((bXor .u64 h_3 (bShr .u64 h_3 33)) * 18397679294719823053)) 33)) * 14181476777654086739)) 33))) (ev_assign rfl) (by decide) ?_
   refine sr_end (l' := [(2, .int .u64 (bXor .u64 (IntKind.u64.wrap ((bXor .u64 (IntKind.u64.wrap ((bXor .u64 h_3 (bShr .u64 h_3 33)) * 18397679294719823053)) (bShr .u64 (IntKind.u64.wrap ((bXor .u64 h_3 (bShr .u64 h_3 33)) * 18397679294719823053)) 33)) * 14181476777654086739)) (bShr .u64 (IntKind.u64.wrap ((bXor .u64 (IntKind.u64.wrap ((bXor .u64 h_3 (bShr .u64 h_3 33)) * 18397679294719823053)) (bShr .u64 (IntKind.u64.wrap ((bXor .u64 h_3 (bShr .u64 h_3 33)) * 18397679294719823053)) 33)) * 14181476777654086739)) 33)))]) (.cons rfl (.nil _)) ?_
   cases hS
   exact ke_ret1 Tryz.func102 rfl rfl ⟨_, rfl, rfl, hb⟩
theorem digest_Sum_ok (w0 : World) (hg : Gs w0) {s_0 : Str} {r : Int} (hS : digest_Sum s_0 = some r) :
  Calls Tryz.prog 102 #[str s_0] w0 (Ret (fun v w' => v = .int .u64 r ∧ Below w0.heap.size w0 w')) := by
 unfold digest_Sum at hS
 have hb := Below.refl w0.heap.size w0
 refine calls_of_ke Tryz.func102 rfl (n := 34) rfl rfl (l := [(0, str s_0)]) rfl ?_
 refine ke_seq ?_
 refine ke_region ?_
 refine sr_ev (v := .int .u64 0) (ev_assign rfl) (by decide) ?_
 refine sr_end (l' := [(0, str s_0)]) (.cons rfl (.nil _)) ?_
 refine ke_seq ?_
 refine ke_region ?_
 refine sr_ev (v := .int .u64 14695981039346656037) (ev_assign rfl) (by decide) ?_
 refine sr_end (l' := [(0, str s_0), (3, .int .u64 14695981039346656037)]) (.cons rfl (.cons rfl (.nil _))) ?_
 refine ke_seq ?_
 refine ke_seq ?_
 refine ke_region ?_
 refine sr_ev (v := str s_0) (ev_move rfl) (by decide) ?_
 refine sr_ev (v := .int .i64 (s_0.length : Int)) (ev_slen Tryz.underlying9 rfl) (by decide) ?_
 refine sr_ev (v := .int .i64 0) (ev_move rfl) (by decide) ?_
 refine sr_end (l' := [(0, str s_0), (3, .int .u64 14695981039346656037), (6, .int .i64 (s_0.length : Int)), (7, .int .i64 0)]) (.cons rfl (.cons rfl (.cons rfl (.cons rfl (.nil _))))) ?_
 refine ke_block ?_
 have hK := digest_Sum_L1_ok hg _ hS hb
 exact ke_weaken (l' := [(0, str s_0), (3, .int .u64 14695981039346656037), (6, .int .i64 (s_0.length : Int)), (7, .int .i64 0)]) (.cons rfl (.cons rfl (.cons rfl (.cons rfl (.nil _))))) (ke_loop hK)
theorem digest_Hex_L1_ok {w0 : World} (hg : Gs w0) {A0 : Nat → Prop} (hA0 : ∀ b, A0 b → b < w0.heap.size) : ∀ (n : Nat), ∀ {r : Str} {n_0 : Int} {b_3 : List Int} {t_5 : Int} {gb_3 : Nat}, digest_Hex_L1 n n_0 b_3 t_5 = some r → ∀ {w : World} {A : Nat → Prop}, (Below w0.heap.size w0 w) → (∀ b, A b → b < w.heap.size) → (∀ b, A0 b → A b) → (Hp A w0.heap.size w [(gb_3, .cells (b_3.map (Value.int .u8)).toArray 100 (0, 0))]) → KE Tryz.prog 101 (Ret (fun v w' => v = str r ∧ Below w0.heap.size w0 w')) 21 [.code (sub (bodyOf Tryz.f101) [2, 2, 1, 2, 2, 1]), .inLoop (sub (bodyOf Tryz.f101) [2, 2, 1, 2, 2, 1]), .inBlock 0, .code (sub (bodyOf Tryz.f101) [2, 2, 2])] [(0, .int .u64 n_0), (3, .pointer (some ⟨gb_3, 0, none⟩)), (5, .int .i64 t_5)] w := by
 intro n
 induction n with
 | zero => intro r n_0 b_3 t_5 gb_3 hS; cases hS
 | succ n ih =>
  have hr0 : ∀ {r : Str} {n_0 : Int} {b_3 : List Int} {t_5 : Int} {gb_3 : Nat}, digest_Hex_L1 n n_0 b_3 t_5 = some r → ∀ {w : World} {A : Nat → Prop}, (Below w0.heap.size w0 w) → (∀ b, A b → b < w.heap.size) → (∀ b, A0 b → A b) → (Hp A w0.heap.size w [(gb_3, .cells (b_3.map (Value.int .u8)).toArray 100 (0, 0))]) → KE Tryz.prog 101 (Ret (fun v w' => v = str r ∧ Below w0.heap.size w0 w')) 21 [.inLoop (sub (bodyOf Tryz.f101) [2, 2, 1, 2, 2, 1]), .inBlock 0, .code (sub (bodyOf Tryz.f101) [2, 2, 2])] [(0, .int .u64 n_0), (3, .pointer (some ⟨gb_3, 0, none⟩)), (5, .int .i64 t_5)] w := fun {r} {n_0} {b_3} {t_5} {gb_3} hS {w} {A} hb hA hi hH => ke_inLoop (ih hS hb hA hi hH)
  clear ih
  intro r n_0 b_3 t_5 gb_3 hS w A hb hA hi hH
  unfold digest_Hex_L1 at hS
  refine ke_seq ?_
  refine ke_region ?_
  refine sr_ev (v := .bool (decide (t_5 < 16))) (ev_lt rfl rfl) (by decide) ?_
  refine sr_end (l' := [(0, .int .u64 n_0), (3, .pointer (some ⟨gb_3, 0, none⟩)), (5, .int .i64 t_5), (6, .bool (decide (t_5 < 16)))]) (.cons rfl (.cons rfl (.cons rfl (.cons rfl (.nil _))))) ?_
  refine ke_seq ?_
  refine ke_cond (t := decide (t_5 < 16)) rfl (fun hc8 => ?_) (fun hc8 => ?_)
  ·replace hS := ite_true' hS hc8
   refine ke_skip ?_
   refine ke_seq ?_
   refine ke_block ?_
   refine ke_seq ?_
   refine ke_region ?_
   refine sr_ev (v := .int .i64 t_5) (ev_move rfl) (by decide) ?_
   refine sr_ev (v := .int .i64 t_5) (ev_assign rfl) (by decide) ?_
   refine sr_end (l' := [(0, .int .u64 n_0), (3, .pointer (some ⟨gb_3, 0, none⟩)), (4, .int .i64 t_5), (5, .int .i64 t_5)]) (.cons rfl (.cons rfl (.cons rfl (.cons rfl (.nil _))))) ?_
   refine ke_region ?_
   refine sr_ev (v := .int .i64 t_5) (ev_move rfl) (by decide) ?_
   refine sr_ev (v := .int .i64 (IntKind.i64.wrap (15 - t_5))) (ev_sub rfl rfl) (by decide) ?_
   refine sr_ev (v := .int .u64 n_0) (ev_move rfl) (by decide) ?_
   refine sr_ev (v := .int .i64 t_5) (ev_move rfl) (by decide) ?_
   refine sr_ev (v := .int .i64 (IntKind.i64.wrap (4 * t_5))) (ev_mul rfl rfl) (by decide) ?_
   obtain ⟨hk9, hS⟩ := chk_some hS
   refine sr_ev (v := .int .u64 (bShr .u64 n_0 (IntKind.i64.wrap (4 * t_5)))) (ev_shr rfl rfl hk9) (by decide) ?_
   refine sr_ev (v := .int .u64 (bAnd .u64 (bShr .u64 n_0 (IntKind.i64.wrap (4 * t_5))) 15)) (ev_and rfl rfl) (by decide) ?_
   obtain ⟨hk10, hS⟩ := chk_some hS
   refine sr_ev (v := .pointer (some ⟨0, 0 + (bAnd .u64 (bShr .u64 n_0 (IntKind.i64.wrap (4 * t_5))) 15).toNat * 1, none⟩)) (ev_arrindex Tryz.underlying100 Tryz.info5 rfl rfl rfl hk10) (by decide) ?_
   obtain ⟨y11, hy12, hS⟩ := bind_some' hS
   refine sr_ev (v := .int .u8 y11) (ev_load Tryz.isAgg5 rfl ((hg.below hb).tab0 hy12)) (by decide) ?_
   obtain ⟨hk13, hS⟩ := chk_some hS
   refine sr_ev (v := .pointer (some ⟨gb_3, 0 + (IntKind.i64.wrap (15 - t_5)).toNat * 1, none⟩)) (ev_arrindex Tryz.underlying100 Tryz.info5 rfl rfl rfl hk13) (by decide) ?_
   obtain ⟨hk14, hS⟩ := chk_some hS
   refine sr_store_arr (j := 0) hH rfl Tryz.sizeOf5 rfl rfl hk14 ?_
   intro w15 hH1 hwr16
   replace hb := hwr16.below hb (hH.base _ (List.mem_of_getElem? (i := 0) rfl))
   replace hA := hwr16.lt hA
   replace hH : Hp A w0.heap.size w15 [(gb_3, .cells ((setAt b_3 (IntKind.i64.wrap (15 - t_5)) y11).map (Value.int .u8)).toArray 100 (0, 0))] := hH1
   clear hH1
   refine sr_end (l' := [(0, .int .u64 n_0), (3, .pointer (some ⟨gb_3, 0, none⟩)), (5, .int .i64 t_5)]) (.cons rfl (.cons rfl (.cons rfl (.nil _)))) ?_
   refine ke_inBlock ?_
   refine ke_region ?_
   refine sr_ev (v := .int .i64 (IntKind.i64.wrap (t_5 + 1))) (ev_add rfl rfl) (by decide) ?_
   refine sr_ev (v := .int .i64 (IntKind.i64.wrap (t_5 + 1))) (ev_move rfl) (by decide) ?_
   refine sr_end (l' := [(0, .int .u64 n_0), (3, .pointer (some ⟨gb_3, 0, none⟩)), (5, .int .i64 (IntKind.i64.wrap (t_5 + 1)))]) (.cons rfl (.cons rfl (.cons rfl (.nil _)))) ?_
   have hK := hr0 hS hb hA hi hH
   exact ke_weaken (l' := [(0, .int .u64 n_0), (3, .pointer (some ⟨gb_3, 0, none⟩)), (5, .int .i64 (IntKind.i64.wrap (t_5 + 1)))]) (.cons rfl (.cons rfl (.cons rfl (.nil _)))) hK
  ·replace hS := ite_false' hS hc8
   refine ke_exit (k' := _) rfl ?_
   refine ke_seq ?_
   refine ke_region ?_
   refine sr_ev (v := .slice (some ⟨gb_3, 0, none⟩) 16 16) (ev_arrslice Tryz.underlying100 Tryz.info5 rfl) (by decide) ?_
   obtain ⟨hk17, hS⟩ := chk_some hS
   refine sr_ev (v := str (bytesStr b_3)) (ev_arr2s (j := 0) hH rfl (by simpa using hk17) rfl Tryz.underlying113 Tryz.underlying5 Tryz.underlying9 rfl) (by decide) ?_
   refine sr_ev (v := str (bytesStr b_3)) (ev_assign rfl) (by decide) ?_
   refine sr_end (l' := [(2, str (bytesStr b_3))]) (.cons rfl (.nil _)) ?_
   cases hS
   exact ke_ret1 Tryz.func101 rfl rfl ⟨_, rfl, rfl, hb⟩
theorem digest_Hex_ok (w0 : World) (hg : Gs w0) {n_0 : Int} {r : Str} (hS : digest_Hex n_0 = some r) :
  Calls Tryz.prog 101 #[.int .u64 n_0] w0 (Ret (fun v w' => v = str r ∧ Below w0.heap.size w0 w')) := by
 unfold digest_Hex at hS
 have hb := Below.refl w0.heap.size w0
 obtain ⟨A0, hA0, hAe⟩ : ∃ A0 : Nat → Prop, (∀ b, A0 b → b < w0.heap.size) ∧ A0 = fun _ => False := ⟨_, fun _ h => h.elim, rfl⟩
 clear hAe
 have hA := hA0
 have hi : ∀ b, A0 b → A0 b := fun _ h => h
 have hH := Hp.nil A0 w0.heap.size w0
 refine calls_of_ke Tryz.func101 rfl (n := 21) rfl rfl (l := [(0, .int .u64 n_0)]) rfl ?_
 refine ke_seq ?_
 refine ke_region ?_
 refine sr_ev (v := str ([])) (ev_assign rfl) (by decide) ?_
 refine sr_end (l' := [(0, .int .u64 n_0)]) (.cons rfl (.nil _)) ?_
 refine ke_seq ?_
 refine ke_region ?_
 refine sr_alloc hH hb.size hA Tryz.zeroValue100 (by decide) ?_
 intro g1 A2 w3 hH1 hst4 hbw5 hinc6 hA1 hge7
 replace hb := hb.trans (hbw5.mono hb.size)
 replace hi := fun b hb => hinc6 b (hi b hb)
 replace hH : Hp A2 w0.heap.size w3 [(g1, .cells (([0, 0, 0, 0, 0, 0, 0, 0, 0, 0, 0, 0, 0, 0, 0, 0]).map (Value.int .u8)).toArray 100 (0, 0))] := hH1
 replace hA := hA1
 clear hH1 hA1
 refine sr_end (l' := [(0, .int .u64 n_0), (3, .pointer (some ⟨g1, 0, none⟩))]) (.cons rfl (.cons rfl (.nil _))) ?_
 refine ke_seq ?_
 refine ke_seq ?_
 refine ke_region ?_
 refine sr_ev (v := .int .i64 0) (ev_move rfl) (by decide) ?_
 refine sr_end (l' := [(0, .int .u64 n_0), (3, .pointer (some ⟨g1, 0, none⟩)), (5, .int .i64 0)]) (.cons rfl (.cons rfl (.cons rfl (.nil _)))) ?_
 refine ke_block ?_
 have hK := digest_Hex_L1_ok hg hA0 _ hS hb hA hi hH
 exact ke_weaken (l' := [(0, .int .u64 n_0), (3, .pointer (some ⟨g1, 0, none⟩)), (5, .int .i64 0)]) (.cons rfl (.cons rfl (.cons rfl (.nil _)))) (ke_loop hK)
theorem digest_Text_ok (w0 : World) (hg : Gs w0) {s_0 : Str} {r : Str} (hS : digest_Text s_0 = some r) :
  Calls Tryz.prog 90 #[str s_0] w0 (Ret (fun v w' => v = str r ∧ Below w0.heap.size w0 w')) := by
 unfold digest_Text at hS
 have hb := Below.refl w0.heap.size w0
 refine calls_of_ke Tryz.func90 rfl (n := 6) rfl rfl (l := [(0, str s_0)]) rfl ?_
 refine ke_seq ?_
 refine ke_region ?_
 refine sr_ev (v := str ([])) (ev_assign rfl) (by decide) ?_
 refine sr_end (l' := [(0, str s_0)]) (.cons rfl (.nil _)) ?_
 refine ke_seq ?_
 refine ke_region ?_
 refine sr_ev (v := str s_0) (ev_move rfl) (by decide) ?_
 obtain ⟨y1, hy2, hS⟩ := bind_some' hS
 refine sr_call (vs := [str s_0]) rfl Tryz.call102 rfl (digest_Sum_ok _ (hg.below hb) hy2) (by decide) ?_
 rintro _ w3 ⟨rfl, hbw4⟩
 replace hb := hb.trans (hbw4.mono hb.size)
 obtain ⟨y5, hy6, hS⟩ := bind_some' hS
 refine sr_call (vs := [.int .u64 y1]) rfl Tryz.call101 rfl (digest_Hex_ok _ (hg.below hb) hy6) (by decide) ?_
 rintro _ w7 ⟨rfl, hbw8⟩
 replace hb := hb.trans (hbw8.mono hb.size)
 refine sr_ev (v := str y5) (ev_assign rfl) (by decide) ?_
 refine sr_end (l' := [(2, str y5)]) (.cons rfl (.nil _)) ?_
 cases hS
 exact ke_ret1 Tryz.func90 rfl rfl ⟨_, rfl, rfl, hb⟩
theorem digest_Iterate_L1_ok {w0 : World} (hg : Gs w0) : ∀ (n : Nat), ∀ {r : Str} {salt_0 : Str} {h_7 : Str} {t_15 : Int} {t_16 : Int}, digest_Iterate_L1 n salt_0 h_7 t_15 t_16 = some r → ∀ {w : World}, (Below w0.heap.size w0 w) → KE Tryz.prog 65 (Ret (fun v w' => v = str r ∧ Below w0.heap.size w0 w')) 25 [.code (sub (bodyOf Tryz.f65) [2, 2, 1, 2, 2, 1]), .inLoop (sub (bodyOf Tryz.f65) [2, 2, 1, 2, 2, 1]), .inBlock 0, .code (sub (bodyOf Tryz.f65) [2, 2, 2])] [(0, str salt_0), (7, str h_7), (15, .int .i64 t_15), (16, .int .i64 t_16)] w := by
 intro n
 induction n with
 | zero => intro r salt_0 h_7 t_15 t_16 hS; cases hS
 | succ n ih =>
  have hr0 : ∀ {r : Str} {salt_0 : Str} {h_7 : Str} {t_15 : Int} {t_16 : Int}, digest_Iterate_L1 n salt_0 h_7 t_15 t_16 = some r → ∀ {w : World}, (Below w0.heap.size w0 w) → KE Tryz.prog 65 (Ret (fun v w' => v = str r ∧ Below w0.heap.size w0 w')) 25 [.inLoop (sub (bodyOf Tryz.f65) [2, 2, 1, 2, 2, 1]), .inBlock 0, .code (sub (bodyOf Tryz.f65) [2, 2, 2])] [(0, str salt_0), (7, str h_7), (15, .int .i64 t_15), (16, .int .i64 t_16)] w := fun {r} {salt_0} {h_7} {t_15} {t_16} hS {w} hb => ke_inLoop (ih hS hb)
  clear ih
  intro r salt_0 h_7 t_15 t_16 hS w hb
  unfold digest_Iterate_L1 at hS
  refine ke_seq ?_
  refine ke_region ?_
  refine sr_ev (v := .bool (decide (t_16 < t_15))) (ev_lt rfl rfl) (by decide) ?_
  refine sr_end (l' := [(0, str salt_0), (7, str h_7), (15, .int .i64 t_15), (16, .int .i64 t_16), (17, .bool (decide (t_16 < t_15)))]) (.cons rfl (.cons rfl (.cons rfl (.cons rfl (.cons rfl (.nil _)))))) ?_
  refine ke_seq ?_
  refine ke_cond (t := decide (t_16 < t_15)) rfl (fun hc7 => ?_) (fun hc7 => ?_)
  ·replace hS := ite_true' hS hc7
   refine ke_skip ?_
   refine ke_seq ?_
   refine ke_block ?_
   refine ke_region ?_
   refine sr_ev (v := str h_7) (ev_move rfl) (by decide) ?_
   obtain ⟨hk8, hS⟩ := chk_some hS
   refine sr_ev (v := str (h_7 ++ ([124]))) (ev_cat rfl rfl hk8) (by decide) ?_
   refine sr_ev (v := str salt_0) (ev_move rfl) (by decide) ?_
   obtain ⟨hk9, hS⟩ := chk_some hS
   refine sr_ev (v := str ((h_7 ++ ([124])) ++ salt_0)) (ev_cat rfl rfl hk9) (by decide) ?_
   obtain ⟨y10, hy11, hS⟩ := bind_some' hS
   refine sr_call (vs := [str ((h_7 ++ ([124])) ++ salt_0)]) rfl Tryz.call90 rfl (digest_Text_ok _ (hg.below hb) hy11) (by decide) ?_
   rintro _ w12 ⟨rfl, hbw13⟩
   replace hb := hb.trans (hbw13.mono hb.size)
   refine sr_ev (v := str y10) (ev_assign rfl) (by decide) ?_
   refine sr_end (l' := [(0, str salt_0), (7, str y10), (15, .int .i64 t_15), (16, .int .i64 t_16)]) (.cons rfl (.cons rfl (.cons rfl (.cons rfl (.nil _))))) ?_
   refine ke_inBlock ?_
   refine ke_region ?_
   refine sr_ev (v := .int .i64 (IntKind.i64.wrap (t_16 + 1))) (ev_add rfl rfl) (by decide) ?_
   refine sr_ev (v := .int .i64 (IntKind.i64.wrap (t_16 + 1))) (ev_move rfl) (by decide) ?_
   refine sr_end (l' := [(0, str salt_0), (7, str y10), (15, .int .i64 t_15), (16, .int .i64 (IntKind.i64.wrap (t_16 + 1)))]) (.cons rfl (.cons rfl (.cons rfl (.cons rfl (.nil _))))) ?_
   have hK := hr0 hS hb
   exact ke_weaken (l' := [(0, str salt_0), (7, str y10), (15, .int .i64 t_15), (16, .int .i64 (IntKind.i64.wrap (t_16 + 1)))]) (.cons rfl (.cons rfl (.cons rfl (.cons rfl (.nil _))))) hK
  ·replace hS := ite_false' hS hc7
   refine ke_exit (k' := _) rfl ?_
   refine ke_seq ?_
   refine ke_region ?_
   refine sr_ev (v := str h_7) (ev_move rfl) (by decide) ?_
   refine sr_ev (v := str h_7) (ev_assign rfl) (by decide) ?_
   refine sr_end (l' := [(6, str h_7)]) (.cons rfl (.nil _)) ?_
   cases hS
   exact ke_ret1 Tryz.func65 rfl rfl ⟨_, rfl, rfl, hb⟩
theorem digest_Iterate_ok (w0 : World) (hg : Gs w0) {salt_0 : Str} {s_1 : Str} {rounds_2 : Int} {r : Str} (hS : digest_Iterate salt_0 s_1 rounds_2 = some r) :
  Calls Tryz.prog 65 #[str salt_0, str s_1, .int .i64 rounds_2] w0 (Ret (fun v w' => v = str r ∧ Below w0.heap.size w0 w')) := by
 unfold digest_Iterate at hS
 have hb := Below.refl w0.heap.size w0
 refine calls_of_ke Tryz.func65 rfl (n := 25) rfl rfl (l := [(0, str salt_0), (1, str s_1), (2, .int .i64 rounds_2)]) rfl ?_
 refine ke_seq ?_
 refine ke_region ?_
 refine sr_ev (v := str ([])) (ev_assign rfl) (by decide) ?_
 refine sr_end (l' := [(0, str salt_0), (1, str s_1), (2, .int .i64 rounds_2)]) (.cons rfl (.cons rfl (.cons rfl (.nil _)))) ?_
 refine ke_seq ?_
 refine ke_region ?_
 refine sr_ev (v := str salt_0) (ev_move rfl) (by decide) ?_
 obtain ⟨hk1, hS⟩ := chk_some hS
 refine sr_ev (v := str (salt_0 ++ ([124]))) (ev_cat rfl rfl hk1) (by decide) ?_
 refine sr_ev (v := str s_1) (ev_move rfl) (by decide) ?_
 obtain ⟨hk2, hS⟩ := chk_some hS
 refine sr_ev (v := str ((salt_0 ++ ([124])) ++ s_1)) (ev_cat rfl rfl hk2) (by decide) ?_
 obtain ⟨y3, hy4, hS⟩ := bind_some' hS
 refine sr_call (vs := [str ((salt_0 ++ ([124])) ++ s_1)]) rfl Tryz.call90 rfl (digest_Text_ok _ (hg.below hb) hy4) (by decide) ?_
 rintro _ w5 ⟨rfl, hbw6⟩
 replace hb := hb.trans (hbw6.mono hb.size)
 refine sr_ev (v := str y3) (ev_assign rfl) (by decide) ?_
 refine sr_end (l' := [(0, str salt_0), (2, .int .i64 rounds_2), (7, str y3)]) (.cons rfl (.cons rfl (.cons rfl (.nil _)))) ?_
 refine ke_seq ?_
 refine ke_seq ?_
 refine ke_region ?_
 refine sr_ev (v := .int .i64 rounds_2) (ev_move rfl) (by decide) ?_
 refine sr_ev (v := .int .i64 (gmax rounds_2 0)) (ev_max rfl rfl) (by decide) ?_
 refine sr_ev (v := .int .i64 (gmin (gmax rounds_2 0) 64)) (ev_min rfl rfl) (by decide) ?_
 refine sr_ev (v := .int .i64 0) (ev_move rfl) (by decide) ?_
 refine sr_end (l' := [(0, str salt_0), (7, str y3), (15, .int .i64 (gmin (gmax rounds_2 0) 64)), (16, .int .i64 0)]) (.cons rfl (.cons rfl (.cons rfl (.cons rfl (.nil _))))) ?_
 refine ke_block ?_
 have hK := digest_Iterate_L1_ok hg _ hS hb
 exact ke_weaken (l' := [(0, str salt_0), (7, str y3), (15, .int .i64 (gmin (gmax rounds_2 0) 64)), (16, .int .i64 0)]) (.cons rfl (.cons rfl (.cons rfl (.cons rfl (.nil _))))) (ke_loop hK)
theorem secret_Check_ok (w0 : World) (hg : Gs w0) {v_0 : api_Verifier} {password_1 : Str} {r : Bool} (hS : secret_Check v_0 password_1 = some r) :
  Calls Tryz.prog 40 #[.agg #[str v_0.Salt, .int .i64 v_0.Rounds, str v_0.Hash], str password_1] w0 (Ret (fun v w' => v = .bool r ∧ Below w0.heap.size w0 w')) := by
 unfold secret_Check at hS
 have hb := Below.refl w0.heap.size w0
 obtain ⟨A0, hA0, hAe⟩ : ∃ A0 : Nat → Prop, (∀ b, A0 b → b < w0.heap.size) ∧ A0 = fun _ => False := ⟨_, fun _ h => h.elim, rfl⟩
 clear hAe
 have hA := hA0
 have hi : ∀ b, A0 b → A0 b := fun _ h => h
 have hH := Hp.nil A0 w0.heap.size w0
 refine calls_of_ke Tryz.func40 rfl (n := 22) rfl rfl (l := [(0, .agg #[str v_0.Salt, .int .i64 v_0.Rounds, str v_0.Hash]), (1, str password_1)]) rfl ?_
 refine ke_seq ?_
 refine ke_region ?_
 refine sr_box hH hb.size hA rfl (by decide) ?_
 intro g1 A2 w3 hH1 hst4 hbw5 hinc6 hA1 hge7
 replace hb := hb.trans (hbw5.mono hb.size)
 replace hi := fun b hb => hinc6 b (hi b hb)
 replace hH : Hp A2 w0.heap.size w3 [(g1, .cells #[str v_0.Salt, .int .i64 v_0.Rounds, str v_0.Hash] 24 (0, 0))] := hH1
 replace hA := hA1
 clear hH1 hA1
 refine sr_ev (v := .bool false) (ev_assign rfl) (by decide) ?_
 refine sr_end (l' := [(1, str password_1), (2, .pointer (some ⟨g1, 0, none⟩))]) (.cons rfl (.cons rfl (.nil _))) ?_
 refine ke_seq ?_
 refine ke_region_q Tryz.mixed (by kernel_rfl) ?_
 refine sq_ev (v := .agg #[str v_0.Salt, .int .i64 v_0.Rounds, str v_0.Hash]) (fun w1 hw1 => ev_loads Tryz.isAgg24 Tryz.sizeOf24 rfl ((hH.below hw1).cells (i := 0) (vs := [str v_0.Salt, .int .i64 v_0.Rounds, str v_0.Hash]) rfl rfl)) (by decide) ?_
 obtain ⟨y10, hy11, hS⟩ := bind_some' hS
 refine sq_call (v := .bool y10) (vs := [.agg #[str v_0.Salt, .int .i64 v_0.Rounds, str v_0.Hash]]) rfl Tryz.call66 rfl (fun w1 hw1 => (secret_Valid_ok _ (hg.below (hb.trans (hw1.mono hb.size))) hy11)) (by decide) ?_
 refine sq_ev (v := .bool y10) (fun w1 hw1 => ev_move rfl) (by decide) ?_
 obtain ⟨z16, hz18, hS⟩ := bind_some' hS
 refine sq_join (m := 3) (C := fun (x : Bool) => z16 = x) (l' := fun x => [(1, str password_1), (2, .pointer (some ⟨g1, 0, none⟩)), (10, .bool x)]) ?_ ?_
 ·rintro _ rfl
  refine sq_ev (v := .bool z16) (fun w1 hw1 => ev_move rfl) (by decide) ?_
  obtain ⟨z27, hz29, hS⟩ := bind_some' hS
  refine sq_join (m := 10) (C := fun (x : Bool) => z27 = x) (l' := fun x => [(21, .bool x)]) ?_ ?_
  ·rintro _ rfl
   refine sq_ev (v := .bool z27) (fun w1 hw1 => ev_assign rfl) (by decide) ?_
   refine sq_end (l' := [(4, .bool z27)]) (.cons rfl (.nil _)) (fun w9 hw8 => ?_)
   replace hb := hb.trans (hw8.mono hb.size)
   replace hA := lt_mono hA hw8.size
   replace hH := hH.below hw8
   cases hS
   exact ke_ret1 Tryz.func40 rfl rfl ⟨_, rfl, rfl, hb⟩
  ·intro K26
   clear hS
   rcases Bool.eq_false_or_eq_true z16 with hg25 | hg25
   ·have hS := ite_true' hz29 hg25
    refine sq_evg (b := true) (e := 11) rfl rfl hg25 (v := .pointer (some ⟨g1, 2, none⟩)) (fun w1 hw1 => ev_fieldAddr (i := 2) Tryz.underlying24 rfl Tryz.info9 rfl rfl) (by decide) ?_
    refine sq_evg (b := true) (e := 11) rfl rfl hg25 (v := str v_0.Hash) (fun w1 hw1 => ev_load Tryz.isAgg9 rfl ((hH.below hw1).cell (i := 0) rfl rfl)) (by decide) ?_
    refine sq_evg (b := true) (e := 11) rfl rfl hg25 (v := .pointer (some ⟨g1, 0, none⟩)) (fun w1 hw1 => ev_fieldAddr (i := 0) Tryz.underlying24 rfl Tryz.info9 rfl rfl) (by decide) ?_
    refine sq_evg (b := true) (e := 11) rfl rfl hg25 (v := str v_0.Salt) (fun w1 hw1 => ev_load Tryz.isAgg9 rfl ((hH.below hw1).cell (i := 0) rfl rfl)) (by decide) ?_
    refine sq_evg (b := true) (e := 11) rfl rfl hg25 (v := str password_1) (fun w1 hw1 => ev_move rfl) (by decide) ?_
    refine sq_evg (b := true) (e := 11) rfl rfl hg25 (v := .pointer (some ⟨g1, 1, none⟩)) (fun w1 hw1 => ev_fieldAddr (i := 1) Tryz.underlying24 rfl Tryz.info3 rfl rfl) (by decide) ?_
    refine sq_evg (b := true) (e := 11) rfl rfl hg25 (v := .int .i64 v_0.Rounds) (fun w1 hw1 => ev_load Tryz.isAgg3 rfl ((hH.below hw1).cell (i := 0) rfl rfl)) (by decide) ?_
    obtain ⟨y32, hy33, hS⟩ := bind_some' hS
    refine sq_callg (b := true) (e := 11) rfl rfl hg25 (v := str y32) (vs := [str v_0.Salt, str password_1, .int .i64 v_0.Rounds]) rfl Tryz.call65 rfl (fun w1 hw1 => (digest_Iterate_ok _ (hg.below (hb.trans (hw1.mono hb.size))) hy33)) (by decide) ?_
    refine sq_evg (b := true) (e := 11) rfl rfl hg25 (v := .bool (v_0.Hash == y32)) (fun w1 hw1 => ev_seq rfl rfl) (by decide) ?_
    refine sq_ev (v := .bool (v_0.Hash == y32)) (fun w1 hw1 => ev_pick_t rfl hg25 rfl) (by decide) ?_
    exact sq_weaken (l' := [(21, .bool (v_0.Hash == y32))]) (.cons rfl (.nil _)) (K26 (v_0.Hash == y32) (Option.some.inj hS).symm)
   ·have hS := ite_false' hz29 hg25
    refine sq_pass (e := 11) rfl rfl (by rw [hg25]; rfl) (by decide) ?_
    refine sq_pass (e := 11) rfl rfl (by rw [hg25]; rfl) (by decide) ?_
    refine sq_pass (e := 11) rfl rfl (by rw [hg25]; rfl) (by decide) ?_
    refine sq_pass (e := 11) rfl rfl (by rw [hg25]; rfl) (by decide) ?_
    refine sq_pass (e := 11) rfl rfl (by rw [hg25]; rfl) (by decide) ?_
    refine sq_pass (e := 11) rfl rfl (by rw [hg25]; rfl) (by decide) ?_
    refine sq_pass (e := 11) rfl rfl (by rw [hg25]; rfl) (by decide) ?_
    refine sq_pass (e := 11) rfl rfl (by rw [hg25]; rfl) (by decide) ?_
    refine sq_pass (e := 11) rfl rfl (by rw [hg25]; rfl) (by decide) ?_
    refine sq_ev (v := .bool false) (fun w1 hw1 => ev_pick_f rfl hg25 rfl) (by decide) ?_
    exact sq_weaken (l' := [(21, .bool false)]) (.cons rfl (.nil _)) (K26 false (Option.some.inj hS).symm)
 ·intro K15
  clear hS
  rcases Bool.eq_false_or_eq_true y10 with hg14 | hg14
  ·have hS := ite_true' hz18 hg14
   refine sq_evg (b := true) (e := 7) rfl rfl hg14 (v := str password_1) (fun w1 hw1 => ev_move rfl) (by decide) ?_
   obtain ⟨y21, hy22, hS⟩ := bind_some' hS
   refine sq_callg (b := true) (e := 7) rfl rfl hg14 (v := .bool y21) (vs := [str password_1]) rfl Tryz.call64 rfl (fun w1 hw1 => (secret_isPassword_ok _ (hg.below (hb.trans (hw1.mono hb.size))) hy22)) (by decide) ?_
   refine sq_ev (v := .bool y21) (fun w1 hw1 => ev_pick_t rfl hg14 rfl) (by decide) ?_
   exact sq_weaken (l' := [(1, str password_1), (2, .pointer (some ⟨g1, 0, none⟩)), (10, .bool y21)]) (.cons rfl (.cons rfl (.cons rfl (.nil _)))) (K15 y21 (Option.some.inj hS).symm)
  ·have hS := ite_false' hz18 hg14
   refine sq_pass (e := 7) rfl rfl (by rw [hg14]; rfl) (by decide) ?_
   refine sq_pass (e := 7) rfl rfl (by rw [hg14]; rfl) (by decide) ?_
   refine sq_ev (v := .bool false) (fun w1 hw1 => ev_pick_f rfl hg14 rfl) (by decide) ?_
   exact sq_weaken (l' := [(1, str password_1), (2, .pointer (some ⟨g1, 0, none⟩)), (10, .bool false)]) (.cons rfl (.cons rfl (.cons rfl (.nil _)))) (K15 false (Option.some.inj hS).symm)
theorem client_accepts_ok (w0 : World) (hg : Gs w0) {ρA : Tags} (hbd : ∀ b, ρA b ≠ 0 → b < w0.heap.size) (hz : Gz ρA) {c_0 : api_Client} {s_1 : Str} {v1 : Value} {v3 : Value} {r : Bool} (h2 : SlR strC (Wb ρA) w0 v1 c_0.Redirects) (h4 : SlR strC (Wb ρA) w0 v3 c_0.Scopes) (hS : client_accepts c_0 s_1 = some r) :
  Calls Tryz.prog 59 #[.agg #[str c_0.ID, .int .i64 c_0.Kind, str c_0.Tenant, str c_0.Secret.Salt, .int .i64 c_0.Secret.Rounds, str c_0.Secret.Hash, v1, v3, str c_0.Logout], str s_1] w0 (Ret (fun v w' => v = .bool r ∧ Below w0.heap.size w0 w')) := by
 unfold client_accepts at hS
 have hb := flat1_fr (ρ := ρA) (w := w0) hbd
 have hz := hz.flat1
 replace h2 := SlR.mv h2 flat1_rd
 replace h4 := SlR.mv h4 flat1_rd
 refine calls_of_ke Tryz.func59 rfl (n := 14) rfl rfl (l := [(0, .agg #[str c_0.ID, .int .i64 c_0.Kind, str c_0.Tenant, str c_0.Secret.Salt, .int .i64 c_0.Secret.Rounds, str c_0.Secret.Hash, v1, v3, str c_0.Logout]), (1, str s_1)]) rfl ?_
 refine ke_seq ?_
 refine ke_region ?_
 refine sr_boxT 4 (by decide) hb.bd rfl (by decide) ?_
 intro g5 ρ6 w7 hB9 htr8
 replace h2 := h2.mv htr8.rd
 replace h4 := h4.mv htr8.rd
 replace hb := hb.trans htr8
 replace hB9 : Blk ρ6 4 w7 g5 (.cells #[str c_0.ID, .int .i64 c_0.Kind, str c_0.Tenant, str c_0.Secret.Salt, .int .i64 c_0.Secret.Rounds, str c_0.Secret.Hash, v1, v3, str c_0.Logout] 27 (0, 0)) := hB9
 refine sr_ev (v := .bool false) (ev_assign rfl) (by decide) ?_
 refine sr_end (l' := [(1, str s_1), (2, .pointer (some ⟨g5, 0, none⟩))]) (.cons rfl (.cons rfl (.nil _))) ?_
 refine ke_seq ?_
 refine ke_seq ?_
 refine ke_region ?_
 refine sr_ev (v := .pointer (some ⟨g5, 1, none⟩)) (ev_fieldAddr (i := 1) Tryz.underlying27 rfl Tryz.info22 rfl rfl) (by decide) ?_
 refine sr_ev (v := .int .i64 c_0.Kind) (ev_load Tryz.isAgg22 rfl (hB9.cell rfl)) (by decide) ?_
 refine sr_ev (v := .bool (c_0.Kind == 1)) (ev_eq rfl rfl) (by decide) ?_
 refine sr_end (l' := [(1, str s_1), (2, .pointer (some ⟨g5, 0, none⟩)), (7, .bool (c_0.Kind == 1))]) (.cons rfl (.cons rfl (.cons rfl (.nil _)))) ?_
 refine ke_cond (t := c_0.Kind == 1) rfl (fun hc10 => ?_) (fun hc10 => ?_)
 ·replace hS := ite_true' hS hc10
  refine ke_seq ?_
  refine ke_region ?_
  refine sr_ev (v := str s_1) (ev_move rfl) (by decide) ?_
  refine sr_ev (v := .bool (s_1 == ([]))) (ev_seq rfl rfl) (by decide) ?_
  refine sr_ev (v := .bool (s_1 == ([]))) (ev_assign rfl) (by decide) ?_
  refine sr_end (l' := [(4, .bool (s_1 == ([])))]) (.cons rfl (.nil _)) ?_
  cases hS
  exact ke_ret1 Tryz.func59 rfl rfl ⟨_, rfl, rfl, (hb.below (flat1_le _))⟩
 ·replace hS := ite_false' hS hc10
  refine ke_skip ?_
  refine ke_seq ?_
  refine ke_region ?_
  refine sr_ev (v := .pointer (some ⟨g5, 3, none⟩)) (ev_fieldAddr (i := 3) Tryz.underlying27 rfl Tryz.info24 rfl rfl) (by decide) ?_
  refine sr_ev (v := .agg #[str c_0.Secret.Salt, .int .i64 c_0.Secret.Rounds, str c_0.Secret.Hash]) (ev_loads (cs := [str c_0.Secret.Salt, .int .i64 c_0.Secret.Rounds, str c_0.Secret.Hash]) Tryz.isAgg24 Tryz.sizeOf24 rfl (hB9.cells (vs := [str c_0.Secret.Salt, .int .i64 c_0.Secret.Rounds, str c_0.Secret.Hash]) rfl)) (by decide) ?_
  refine sr_ev (v := str s_1) (ev_move rfl) (by decide) ?_
  obtain ⟨y11, hy12, hS⟩ := bind_some' hS
  refine sr_call (vs := [.agg #[str c_0.Secret.Salt, .int .i64 c_0.Secret.Rounds, str c_0.Secret.Hash], str s_1]) rfl Tryz.call40 rfl (secret_Check_ok _ (hg.fr hz hb) hy12) (by decide) ?_
  rintro _ w13 ⟨rfl, hbw14⟩
  have htr15 := Tr.of_below hbw14 hb.bd
  replace hb := hb.trans htr15
  refine sr_ev (v := .bool y11) (ev_assign rfl) (by decide) ?_
  refine sr_end (l' := [(4, .bool y11)]) (.cons rfl (.nil _)) ?_
  cases hS
  exact ke_ret1 Tryz.func59 rfl rfl ⟨_, rfl, rfl, (hb.below (flat1_le _))⟩
theorem client_Clients_Authenticate_ok (w0 : World) (hg : Gs w0) {ρA : Tags} (hbd : ∀ b, ρA b ≠ 0 → b < w0.heap.size) (hz : Gz ρA) {τ0 : Nat → Nat} (hτ0 : ∀ p, 1 ≤ τ0 p) {r_0 : client_Clients} {id_1 : Str} {secret_2 : Str} {gr_0 : Nat} {r : Int} (ho0 : client_Clients.O τ0 ρA w0 gr_0 r_0) (hS : client_Clients_Authenticate r_0 id_1 secret_2 = some r) :
  Calls Tryz.prog 29 #[.pointer (some ⟨gr_0, 0, none⟩), str id_1, str secret_2] w0 (Ret (fun v w' => v = .int .i64 r ∧ Below w0.heap.size w0 w')) := by
 unfold client_Clients_Authenticate at hS
 have hb := flat1_fr (ρ := ρA) (w := w0) hbd
 have hz := hz.flat1
 obtain ⟨v1, hB3, h2⟩ := ho0
 replace hB3 := hB3.mv (flat1_mv (hτ0 0))
 replace h2 := h2.mv (flat1_mv (hτ0 1))
 replace hB3 : Blk (flat1 ρA) 1 w0 gr_0 (.cells #[v1] 57 (0, 0)) := hB3
 replace h2 : MapT str api_Client.c true (flat1 ρA) 1 w0 v1 r_0.of_ := h2
 refine calls_of_ke Tryz.func29 rfl (n := 24) rfl rfl (l := [(0, .pointer (some ⟨gr_0, 0, none⟩)), (1, str id_1), (2, str secret_2)]) rfl ?_
 refine ke_seq ?_
 refine ke_region ?_
 refine sr_ev (v := .int .i64 0) (ev_assign rfl) (by decide) ?_
 refine sr_end (l' := [(0, .pointer (some ⟨gr_0, 0, none⟩)), (1, str id_1), (2, str secret_2)]) (.cons rfl (.cons rfl (.cons rfl (.nil _)))) ?_
 refine ke_seq ?_
 refine ke_region ?_
 refine sr_ev (v := .pointer (some ⟨gr_0, 0, none⟩)) (ev_move rfl) (by decide) ?_
 refine sr_ev (v := str id_1) (ev_move rfl) (by decide) ?_
 obtain ⟨y4, hy5, hS⟩ := bind_some' hS
 refine sr_call (vs := [.pointer (some ⟨gr_0, 0, none⟩), str id_1]) rfl Tryz.call54 rfl (client_Clients_find_ok _ (hg.fr hz hb) (ρA := (flat1 ρA)) hb.bd (hz.fr hg hb) (τ0 := (fun _ => 1)) (fun _ => by decide) (⟨_, hB3, h2⟩ : client_Clients.O (fun _ => 1) (flat1 ρA) w0 gr_0 r_0) hy5) (by decide) ?_
 rintro _ w6 ⟨v9, v11, rfl, h10, h12, hbw7⟩
 have htr8 := Tr.of_below hbw7 hb.bd
 replace hb := hb.trans htr8
 refine sr_ev (v := .tuple #[.agg #[str y4.1.ID, .int .i64 y4.1.Kind, str y4.1.Tenant, str y4.1.Secret.Salt, .int .i64 y4.1.Secret.Rounds, str y4.1.Secret.Hash, v9, v11, str y4.1.Logout], .int .i64 y4.2]) (ev_move rfl) (by decide) ?_
 refine sr_ev (v := .agg #[str y4.1.ID, .int .i64 y4.1.Kind, str y4.1.Tenant, str y4.1.Secret.Salt, .int .i64 y4.1.Secret.Rounds, str y4.1.Secret.Hash, v9, v11, str y4.1.Logout]) (ev_extract rfl rfl) (by decide) ?_
 refine sr_ev (v := .int .i64 y4.2) (ev_extract rfl rfl) (by decide) ?_
 refine sr_allocT 9 (by decide) hb.bd Tryz.zeroValue27 (by decide) ?_
 intro g13 ρ14 w15 hB17 htr16
 replace h10 := h10.mv htr16.rd
 replace h12 := h12.mv htr16.rd
 replace hb := hb.trans htr16
 replace hB17 : Blk ρ14 9 w15 g13 (.cells #[str ([]), .int .i64 0, str ([]), str ([]), .int .i64 0, str ([]), (.slice none 0 0), (.slice none 0 0), str ([])] 27 (0, 0)) := hB17
 refine sr_storeT (v := .agg #[str y4.1.ID, .int .i64 y4.1.Kind, str y4.1.Tenant, str y4.1.Secret.Salt, .int .i64 y4.1.Secret.Rounds, str y4.1.Secret.Hash, v9, v11, str y4.1.Logout]) (vs := [str y4.1.ID, .int .i64 y4.1.Kind, str y4.1.Tenant, str y4.1.Secret.Salt, .int .i64 y4.1.Secret.Rounds, str y4.1.Secret.Hash, v9, v11, str y4.1.Logout]) (cs' := #[str y4.1.ID, .int .i64 y4.1.Kind, str y4.1.Tenant, str y4.1.Secret.Salt, .int .i64 y4.1.Secret.Rounds, str y4.1.Secret.Hash, v9, v11, str y4.1.Logout]) hB17 (by decide) hb.bd rfl rfl rfl Tryz.sizeOf27 rfl (by first | rfl | (simp only [List.all_cons, List.all_nil, SlR.oneCell h10, SlR.oneCell h12]; done) | (simp only [List.all_cons, List.all_nil, SlR.oneCell h10, SlR.oneCell h12]; rfl)) rfl ?_
 intro w18 hB171 htr19
 replace h10 := h10.mv htr19.rd
 replace h12 := h12.mv htr19.rd
 replace hb := hb.trans htr19
 replace hB17 : Blk ρ14 9 w18 g13 (.cells #[str y4.1.ID, .int .i64 y4.1.Kind, str y4.1.Tenant, str y4.1.Secret.Salt, .int .i64 y4.1.Secret.Rounds, str y4.1.Secret.Hash, v9, v11, str y4.1.Logout] 27 (0, 0)) := hB171
 clear hB171
 refine sr_ev (v := .int .i64 y4.2) (ev_assign rfl) (by decide) ?_
 refine sr_end (l' := [(2, str secret_2), (7, .pointer (some ⟨g13, 0, none⟩)), (8, .int .i64 y4.2)]) (.cons rfl (.cons rfl (.cons rfl (.nil _)))) ?_
 refine ke_seq ?_
 refine ke_seq ?_
 refine ke_region ?_
 refine sr_ev (v := .int .i64 y4.2) (ev_move rfl) (by decide) ?_
 refine sr_ev (v := .bool (y4.2 == 0)) (ev_eq rfl rfl) (by decide) ?_
 refine sr_ev (v := .bool (y4.2 == 0)) (ev_move rfl) (by decide) ?_
 obtain ⟨z22, hz24, hS⟩ := bind_some' hS
 refine sr_join (m := 5) (C := fun (z : Bool) w1 => z22 = z ∧ ∃ ρ1, Tr ρ14 w18 (fun _ => false) ρ1 w1) (l' := fun z => [(8, .int .i64 y4.2), (22, .bool z)]) ?_ ?_
 ·rintro _ w25 ⟨rfl, ρ26, hj23⟩
  replace hb := hb.trans hj23
  refine sr_end (l' := [(8, .int .i64 y4.2), (22, .bool z22)]) (.cons rfl (.cons rfl (.nil _))) ?_
  refine ke_cond (t := z22) rfl (fun hc33 => ?_) (fun hc33 => ?_)
  ·replace hS := ite_true' hS hc33
   refine ke_seq ?_
   refine ke_region ?_
   refine sr_ev (v := .int .i64 11) (ev_assign rfl) (by decide) ?_
   refine sr_end (l' := [(6, .int .i64 11)]) (.cons rfl (.nil _)) ?_
   cases hS
   exact ke_ret1 Tryz.func29 rfl rfl ⟨_, rfl, rfl, (hb.below (flat1_le _))⟩
  ·replace hS := ite_false' hS hc33
   refine ke_skip ?_
   refine ke_seq ?_
   refine ke_region ?_
   refine sr_ev (v := .int .i64 y4.2) (ev_move rfl) (by decide) ?_
   refine sr_ev (v := .int .i64 y4.2) (ev_assign rfl) (by decide) ?_
   refine sr_end (l' := [(6, .int .i64 y4.2)]) (.cons rfl (.nil _)) ?_
   cases hS
   exact ke_ret1 Tryz.func29 rfl rfl ⟨_, rfl, rfl, (hb.below (flat1_le _))⟩
 ·intro K21
  clear hS
  have hj23 : Tr ρ14 w18 (fun _ => false) ρ14 w18 := (Tr.refl hb.bd).weak (fun _ _ => rfl) rfl rfl
  rcases Bool.eq_false_or_eq_true (y4.2 == 0) with hg20 | hg20
  ·have hS := ite_true' hz24 hg20
   refine sr_evg (b := true) (e := 17) rfl rfl hg20 (v := .agg #[str y4.1.ID, .int .i64 y4.1.Kind, str y4.1.Tenant, str y4.1.Secret.Salt, .int .i64 y4.1.Secret.Rounds, str y4.1.Secret.Hash, v9, v11, str y4.1.Logout]) (ev_loads (cs := [str y4.1.ID, .int .i64 y4.1.Kind, str y4.1.Tenant, str y4.1.Secret.Salt, .int .i64 y4.1.Secret.Rounds, str y4.1.Secret.Hash, v9, v11, str y4.1.Logout]) Tryz.isAgg27 Tryz.sizeOf27 rfl (hB17.cells (vs := [str y4.1.ID, .int .i64 y4.1.Kind, str y4.1.Tenant, str y4.1.Secret.Salt, .int .i64 y4.1.Secret.Rounds, str y4.1.Secret.Hash, v9, v11, str y4.1.Logout]) rfl)) (by decide) ?_
   refine sr_evg (b := true) (e := 17) rfl rfl hg20 (v := str secret_2) (ev_move rfl) (by decide) ?_
   obtain ⟨y28, hy29, hS⟩ := bind_some' hS
   refine sr_callg (b := true) (e := 17) rfl rfl hg20 (vs := [.agg #[str y4.1.ID, .int .i64 y4.1.Kind, str y4.1.Tenant, str y4.1.Secret.Salt, .int .i64 y4.1.Secret.Rounds, str y4.1.Secret.Hash, v9, v11, str y4.1.Logout], str secret_2]) rfl Tryz.call59 rfl (client_accepts_ok _ (hg.fr hz hb) (ρA := ρ14) hb.bd (hz.fr hg hb) h10 h12 hy29) (by decide) ?_
   rintro _ w30 ⟨rfl, hbw31⟩
   have htr32 := Tr.of_below hbw31 hb.bd
   replace hb := hb.trans htr32
   replace hj23 := (hj23.trans htr32).weak (J' := (fun _ => false)) (by intro t h; simp [rng] at h ⊢ <;> omega) rfl rfl
   refine sr_evg (b := true) (e := 17) rfl rfl hg20 (v := .bool (!y28)) (ev_not rfl) (by decide) ?_
   refine sr_ev (v := .bool (!y28)) (ev_pick_t rfl hg20 rfl) (by decide) ?_
   exact sr_weaken (l' := [(8, .int .i64 y4.2), (22, .bool (!y28))]) (.cons rfl (.cons rfl (.nil _))) (K21 (!y28) _ ⟨(Option.some.inj hS).symm, _, hj23⟩)
  ·have hS := ite_false' hz24 hg20
   refine sr_pass (e := 17) rfl rfl (by rw [hg20]; rfl) (by decide) ?_
   refine sr_pass (e := 17) rfl rfl (by rw [hg20]; rfl) (by decide) ?_
   refine sr_pass (e := 17) rfl rfl (by rw [hg20]; rfl) (by decide) ?_
   refine sr_pass (e := 17) rfl rfl (by rw [hg20]; rfl) (by decide) ?_
   refine sr_ev (v := .bool false) (ev_pick_f rfl hg20 rfl) (by decide) ?_
   exact sr_weaken (l' := [(8, .int .i64 y4.2), (22, .bool false)]) (.cons rfl (.cons rfl (.nil _))) (K21 false _ ⟨(Option.some.inj hS).symm, _, hj23⟩)
theorem scope_Implies_ok (w0 : World) (hg : Gs w0) {a_0 : Str} {b_1 : Str} {r : Bool} (hS : scope_Implies a_0 b_1 = some r) :
  Calls Tryz.prog 83 #[str a_0, str b_1] w0 (Ret (fun v w' => v = .bool r ∧ Below w0.heap.size w0 w')) := by
 unfold scope_Implies at hS
 have hb := Below.refl w0.heap.size w0
 refine calls_of_ke Tryz.func83 rfl (n := 22) rfl rfl (l := [(0, str a_0), (1, str b_1)]) rfl ?_
 refine ke_seq ?_
 refine ke_region ?_
 refine sr_ev (v := .bool false) (ev_assign rfl) (by decide) ?_
 refine sr_end (l' := [(0, str a_0), (1, str b_1)]) (.cons rfl (.cons rfl (.nil _))) ?_
 refine ke_seq ?_
 refine ke_region ?_
 refine sr_ev (v := str a_0) (ev_move rfl) (by decide) ?_
 obtain ⟨y1, hy2, hS⟩ := bind_some' hS
 refine sr_call (vs := [str a_0]) rfl Tryz.call52 rfl (scope_valid_ok _ (hg.below hb) hy2) (by decide) ?_
 rintro _ w3 ⟨rfl, hbw4⟩
 replace hb := hb.trans (hbw4.mono hb.size)
 refine sr_ev (v := .bool y1) (ev_move rfl) (by decide) ?_
 obtain ⟨z7, hz9, hS⟩ := bind_some' hS
 refine sr_join (m := 3) (C := fun (x : Bool) w1 => z7 = x ∧ Below w3.heap.size w3 w1) (l' := fun x => [(0, str a_0), (1, str b_1), (10, .bool x)]) ?_ ?_
 ·rintro _ w10 ⟨rfl, hbw11⟩
  replace hb := hb.trans (hbw11.mono hb.size)
  refine sr_ev (v := .bool z7) (ev_move rfl) (by decide) ?_
  obtain ⟨z18, hz20, hS⟩ := bind_some' hS
  refine sr_join (m := 10) (C := fun (x : Bool) w1 => z18 = x ∧ Below w10.heap.size w10 w1) (l' := fun x => [(21, .bool x)]) ?_ ?_
  ·rintro _ w21 ⟨rfl, hbw22⟩
   replace hb := hb.trans (hbw22.mono hb.size)
   refine sr_ev (v := .bool z18) (ev_assign rfl) (by decide) ?_
   refine sr_end (l' := [(4, .bool z18)]) (.cons rfl (.nil _)) ?_
   cases hS
   exact ke_ret1 Tryz.func83 rfl rfl ⟨_, rfl, rfl, hb⟩
  ·intro K17
   clear hS
   have hj19 := Below.refl w10.heap.size w10
   rcases Bool.eq_false_or_eq_true z7 with hg16 | hg16
   ·have hS := ite_true' hz20 hg16
    refine sr_evg (b := true) (e := 11) rfl rfl hg16 (v := str a_0) (ev_move rfl) (by decide) ?_
    refine sr_evg (b := true) (e := 11) rfl rfl hg16 (v := str b_1) (ev_move rfl) (by decide) ?_
    refine sr_evg (b := true) (e := 11) rfl rfl hg16 (v := .bool (a_0 == b_1)) (ev_seq rfl rfl) (by decide) ?_
    refine sr_evg (b := true) (e := 11) rfl rfl hg16 (v := .bool (a_0 == b_1)) (ev_move rfl) (by decide) ?_
    obtain ⟨z25, hz27, hS⟩ := bind_some' hS
    refine sr_join (m := 5) (C := fun (x : Bool) w1 => z25 = x ∧ Below w10.heap.size w10 w1) (l' := fun x => [(11, .bool z7), (20, .bool x)]) ?_ ?_
    ·rintro _ w28 ⟨rfl, hbw29⟩
     replace hb := hb.trans (hbw29.mono hb.size)
     replace hj19 := hj19.trans (hbw29.mono hj19.size)
     refine sr_ev (v := .bool z25) (ev_pick_t rfl hg16 rfl) (by decide) ?_
     exact sr_weaken (l' := [(21, .bool z25)]) (.cons rfl (.nil _)) (K17 z25 _ ⟨(Option.some.inj hS).symm, hj19⟩)
    ·intro K24
     clear hS
     have hj26 := Below.refl w10.heap.size w10
     rcases Bool.eq_false_or_eq_true (a_0 == b_1) with hg23 | hg23
     ·have hS := ite_true' hz27 hg23
      refine sr_pass (e := 15) rfl rfl (by rw [hg23]; rfl) (by decide) ?_
      refine sr_pass (e := 15) rfl rfl (by rw [hg23]; rfl) (by decide) ?_
      refine sr_pass (e := 15) rfl rfl (by rw [hg23]; rfl) (by decide) ?_
      refine sr_pass (e := 15) rfl rfl (by rw [hg23]; rfl) (by decide) ?_
      refine sr_evg (b := true) (e := 11) rfl rfl hg16 (v := .bool true) (ev_pick_t rfl hg23 rfl) (by decide) ?_
      exact sr_weaken (l' := [(11, .bool z7), (20, .bool true)]) (.cons rfl (.cons rfl (.nil _))) (K24 true _ ⟨(Option.some.inj hS).symm, hj26⟩)
     ·have hS := ite_false' hz27 hg23
      refine sr_evg (b := false) (e := 15) rfl rfl hg23 (v := str b_1) (ev_move rfl) (by decide) ?_
      refine sr_evg (b := false) (e := 15) rfl rfl hg23 (v := str a_0) (ev_move rfl) (by decide) ?_
      obtain ⟨hk30, hS⟩ := chk_some hS
      refine sr_evg (b := false) (e := 15) rfl rfl hg23 (v := str (a_0 ++ ([46]))) (ev_cat rfl rfl hk30) (by decide) ?_
      obtain ⟨y31, hy32, hS⟩ := bind_some' hS
      refine sr_callg (b := false) (e := 15) rfl rfl hg23 (vs := [str b_1, str (a_0 ++ ([46]))]) rfl Tryz.call74 rfl (strings_HasPrefix_ok _ (hg.below hb) hy32) (by decide) ?_
      rintro _ w33 ⟨rfl, hbw34⟩
      replace hb := hb.trans (hbw34.mono hb.size)
      replace hj19 := hj19.trans (hbw34.mono hj19.size)
      replace hj26 := hj26.trans (hbw34.mono hj26.size)
      refine sr_evg (b := true) (e := 11) rfl rfl hg16 (v := .bool y31) (ev_pick_f rfl hg23 rfl) (by decide) ?_
      exact sr_weaken (l' := [(11, .bool z7), (20, .bool y31)]) (.cons rfl (.cons rfl (.nil _))) (K24 y31 _ ⟨(Option.some.inj hS).symm, hj26⟩)
   ·have hS := ite_false' hz20 hg16
    refine sr_pass (e := 11) rfl rfl (by rw [hg16]; rfl) (by decide) ?_
    refine sr_pass (e := 11) rfl rfl (by rw [hg16]; rfl) (by decide) ?_
    refine sr_pass (e := 11) rfl rfl (by rw [hg16]; rfl) (by decide) ?_
    refine sr_pass (e := 11) rfl rfl (by rw [hg16]; rfl) (by decide) ?_
    refine sr_pass_undef (e := 15) rfl rfl (by decide) ?_
    refine sr_pass_undef (e := 15) rfl rfl (by decide) ?_
    refine sr_pass_undef (e := 15) rfl rfl (by decide) ?_
    refine sr_pass_undef (e := 15) rfl rfl (by decide) ?_
    refine sr_pass (e := 11) rfl rfl (by rw [hg16]; rfl) (by decide) ?_
    refine sr_ev (v := .bool false) (ev_pick_f rfl hg16 rfl) (by decide) ?_
    exact sr_weaken (l' := [(21, .bool false)]) (.cons rfl (.nil _)) (K17 false _ ⟨(Option.some.inj hS).symm, hj19⟩)
 ·intro K6
  clear hS
  have hj8 := Below.refl w3.heap.size w3
  rcases Bool.eq_false_or_eq_true y1 with hg5 | hg5
  ·have hS := ite_true' hz9 hg5
   refine sr_evg (b := true) (e := 7) rfl rfl hg5 (v := str b_1) (ev_move rfl) (by decide) ?_
   obtain ⟨y12, hy13, hS⟩ := bind_some' hS
   refine sr_callg (b := true) (e := 7) rfl rfl hg5 (vs := [str b_1]) rfl Tryz.call52 rfl (scope_valid_ok _ (hg.below hb) hy13) (by decide) ?_
   rintro _ w14 ⟨rfl, hbw15⟩
   replace hb := hb.trans (hbw15.mono hb.size)
   replace hj8 := hj8.trans (hbw15.mono hj8.size)
   refine sr_ev (v := .bool y12) (ev_pick_t rfl hg5 rfl) (by decide) ?_
   exact sr_weaken (l' := [(0, str a_0), (1, str b_1), (10, .bool y12)]) (.cons rfl (.cons rfl (.cons rfl (.nil _)))) (K6 y12 _ ⟨(Option.some.inj hS).symm, hj8⟩)
  ·have hS := ite_false' hz9 hg5
   refine sr_pass (e := 7) rfl rfl (by rw [hg5]; rfl) (by decide) ?_
   refine sr_pass (e := 7) rfl rfl (by rw [hg5]; rfl) (by decide) ?_
   refine sr_ev (v := .bool false) (ev_pick_f rfl hg5 rfl) (by decide) ?_
   exact sr_weaken (l' := [(0, str a_0), (1, str b_1), (10, .bool false)]) (.cons rfl (.cons rfl (.cons rfl (.nil _)))) (K6 false _ ⟨(Option.some.inj hS).symm, hj8⟩)
theorem scope_covered_L1_ok {w0 : World} (hg : Gs w0) {A0 : Nat → Prop} (hA0 : ∀ b, A0 b → b < w0.heap.size) : ∀ (n : Nat), ∀ {r : Bool} {s_0 : Str} {t_7 : List Str} {t_8 : Int} {t_9 : Int} {vt_7 : Value}, scope_covered_L1 n s_0 t_7 t_8 t_9 = some r → ∀ {w : World} {A : Nat → Prop}, (Below w0.heap.size w0 w) → (∀ b, A b → b < w.heap.size) → (∀ b, A0 b → A b) → (Hp A w0.heap.size w []) → (SlR strC A w vt_7 t_7) → KE Tryz.prog 55 (Ret (fun v w' => v = .bool r ∧ Below w0.heap.size w0 w')) 17 [.code (sub (bodyOf Tryz.f55) [2, 1, 2, 2, 1]), .inLoop (sub (bodyOf Tryz.f55) [2, 1, 2, 2, 1]), .inBlock 0, .code (sub (bodyOf Tryz.f55) [2, 2])] [(0, str s_0), (7, vt_7), (8, .int .i64 t_8), (9, .int .i64 t_9)] w := by
 intro n
 induction n with
 | zero => intro r s_0 t_7 t_8 t_9 vt_7 hS; cases hS
 | succ n ih =>
  have hr0 : ∀ {r : Bool} {s_0 : Str} {t_7 : List Str} {t_8 : Int} {t_9 : Int} {vt_7 : Value}, scope_covered_L1 n s_0 t_7 t_8 t_9 = some r → ∀ {w : World} {A : Nat → Prop}, (Below w0.heap.size w0 w) → (∀ b, A b → b < w.heap.size) → (∀ b, A0 b → A b) → (Hp A w0.heap.size w []) → (SlR strC A w vt_7 t_7) → KE Tryz.prog 55 (Ret (fun v w' => v = .bool r ∧ Below w0.heap.size w0 w')) 17 [.inLoop (sub (bodyOf Tryz.f55) [2, 1, 2, 2, 1]), .inBlock 0, .code (sub (bodyOf Tryz.f55) [2, 2])] [(0, str s_0), (7, vt_7), (8, .int .i64 t_8), (9, .int .i64 t_9)] w := fun {r} {s_0} {t_7} {t_8} {t_9} {vt_7} hS {w} {A} hb hA hi hH ht_7 => ke_inLoop (ih hS hb hA hi hH ht_7)
  clear ih
  intro r s_0 t_7 t_8 t_9 vt_7 hS w A hb hA hi hH ht_7
  unfold scope_covered_L1 at hS
  refine ke_seq ?_
  refine ke_region ?_
  refine sr_ev (v := .bool (decide (t_9 < t_8))) (ev_lt rfl rfl) (by decide) ?_
  refine sr_end (l' := [(0, str s_0), (7, vt_7), (8, .int .i64 t_8), (9, .int .i64 t_9), (10, .bool (decide (t_9 < t_8)))]) (.cons rfl (.cons rfl (.cons rfl (.cons rfl (.cons rfl (.nil _)))))) ?_
  refine ke_seq ?_
  refine ke_cond (t := decide (t_9 < t_8)) rfl (fun hc3 => ?_) (fun hc3 => ?_)
  ·replace hS := ite_true' hS hc3
   refine ke_skip ?_
   refine ke_seq ?_
   refine ke_block ?_
   refine ke_seq ?_
   refine ke_region ?_
   obtain ⟨y4, hy5, hS⟩ := bind_some' hS
   refine sr_index ht_7 Tryz.underlying25 Tryz.info9 rfl rfl rfl hy5 (by decide) ?_
   intro b6 o7 cs9 he8
   obtain rfl : cs9 = [str y4] := he8.rd
   refine sr_ev (v := str y4) (ev_load Tryz.isAgg9 rfl (he8.cell 0 _ rfl)) (by decide) ?_
   refine sr_ev (v := str y4) (ev_assign rfl) (by decide) ?_
   refine sr_end (l' := [(0, str s_0), (6, str y4), (7, vt_7), (8, .int .i64 t_8), (9, .int .i64 t_9)]) (.cons rfl (.cons rfl (.cons rfl (.cons rfl (.cons rfl (.nil _)))))) ?_
   refine ke_seq ?_
   refine ke_region ?_
   refine sr_ev (v := str y4) (ev_move rfl) (by decide) ?_
   refine sr_ev (v := str s_0) (ev_move rfl) (by decide) ?_
   obtain ⟨y10, hy11, hS⟩ := bind_some' hS
   refine sr_call (vs := [str y4, str s_0]) rfl Tryz.call83 rfl (scope_Implies_ok _ (hg.below hb) hy11) (by decide) ?_
   rintro _ w12 ⟨rfl, hbw13⟩
   replace hb := hb.trans (hbw13.mono hb.size)
   replace hA := lt_mono hA hbw13.size
   replace hH := hH.below hbw13
   replace ht_7 := ht_7.below hbw13
   refine sr_end (l' := [(0, str s_0), (7, vt_7), (8, .int .i64 t_8), (9, .int .i64 t_9), (15, .bool y10)]) (.cons rfl (.cons rfl (.cons rfl (.cons rfl (.cons rfl (.nil _)))))) ?_
   refine ke_cond (t := y10) rfl (fun hc14 => ?_) (fun hc14 => ?_)
   ·replace hS := ite_true' hS hc14
    refine ke_seq ?_
    refine ke_region ?_
    refine sr_ev (v := .bool true) (ev_assign rfl) (by decide) ?_
    refine sr_end (l' := [(4, .bool true)]) (.cons rfl (.nil _)) ?_
    cases hS
    exact ke_ret1 Tryz.func55 rfl rfl ⟨_, rfl, rfl, hb⟩
   ·replace hS := ite_false' hS hc14
    refine ke_skip ?_
    refine ke_inBlock ?_
    refine ke_region ?_
    refine sr_ev (v := .int .i64 (IntKind.i64.wrap (t_9 + 1))) (ev_add rfl rfl) (by decide) ?_
    refine sr_ev (v := .int .i64 (IntKind.i64.wrap (t_9 + 1))) (ev_move rfl) (by decide) ?_
    refine sr_end (l' := [(0, str s_0), (7, vt_7), (8, .int .i64 t_8), (9, .int .i64 (IntKind.i64.wrap (t_9 + 1)))]) (.cons rfl (.cons rfl (.cons rfl (.cons rfl (.nil _))))) ?_
    have hK := hr0 hS hb hA hi hH ht_7
    exact ke_weaken (l' := [(0, str s_0), (7, vt_7), (8, .int .i64 t_8), (9, .int .i64 (IntKind.i64.wrap (t_9 + 1)))]) (.cons rfl (.cons rfl (.cons rfl (.cons rfl (.nil _))))) hK
  ·replace hS := ite_false' hS hc3
   refine ke_exit (k' := _) rfl ?_
   refine ke_seq ?_
   refine ke_region ?_
   refine sr_ev (v := .bool false) (ev_assign rfl) (by decide) ?_
   refine sr_end (l' := [(4, .bool false)]) (.cons rfl (.nil _)) ?_
   cases hS
   exact ke_ret1 Tryz.func55 rfl rfl ⟨_, rfl, rfl, hb⟩
theorem scope_covered_ok {A0 : Nat → Prop} (w0 : World) (hg : Gs w0) {s_0 : Str} {l_1 : List Str} {v1 : Value} {r : Bool} (h2 : SlR strC A0 w0 v1 l_1) (hS : scope_covered s_0 l_1 = some r) :
  Calls Tryz.prog 55 #[str s_0, v1] w0 (Ret (fun v w' => v = .bool r ∧ Below w0.heap.size w0 w')) := by
 unfold scope_covered at hS
 have hb := Below.refl w0.heap.size w0
 replace h2 := h2.weak (A' := fun _ => False) (fun _ h => h.elim)
 obtain ⟨A0, hA0, hAe⟩ : ∃ A0 : Nat → Prop, (∀ b, A0 b → b < w0.heap.size) ∧ A0 = fun _ => False := ⟨_, fun _ h => h.elim, rfl⟩
 rw [← hAe] at h2
 clear hAe
 have hA := hA0
 have hi : ∀ b, A0 b → A0 b := fun _ h => h
 have hH := Hp.nil A0 w0.heap.size w0
 refine calls_of_ke Tryz.func55 rfl (n := 17) rfl rfl (l := [(0, str s_0), (1, v1)]) rfl ?_
 refine ke_seq ?_
 refine ke_region ?_
 refine sr_ev (v := .bool false) (ev_assign rfl) (by decide) ?_
 refine sr_end (l' := [(0, str s_0), (1, v1)]) (.cons rfl (.cons rfl (.nil _))) ?_
 refine ke_seq ?_
 refine ke_seq ?_
 refine ke_region ?_
 refine sr_ev (v := v1) (ev_move rfl) (by decide) ?_
 refine sr_ev (v := .int .i64 (l_1.length : Int)) (ev_sllen Tryz.underlying25 rfl h2) (by decide) ?_
 refine sr_ev (v := .int .i64 0) (ev_move rfl) (by decide) ?_
 refine sr_end (l' := [(0, str s_0), (7, v1), (8, .int .i64 (l_1.length : Int)), (9, .int .i64 0)]) (.cons rfl (.cons rfl (.cons rfl (.cons rfl (.nil _))))) ?_
 refine ke_block ?_
 have hK := scope_covered_L1_ok hg hA0 _ hS hb hA hi hH h2
 exact ke_weaken (l' := [(0, str s_0), (7, v1), (8, .int .i64 (l_1.length : Int)), (9, .int .i64 0)]) (.cons rfl (.cons rfl (.cons rfl (.cons rfl (.nil _))))) (ke_loop hK)
theorem scope_Within_L1_ok {w0 : World} (hg : Gs w0) {A0 : Nat → Prop} (hA0 : ∀ b, A0 b → b < w0.heap.size) : ∀ (n : Nat), ∀ {r : Bool} {b_1 : List Str} {t_7 : List Str} {t_8 : Int} {t_9 : Int} {vb_1 : Value} {vt_7 : Value}, scope_Within_L1 n b_1 t_7 t_8 t_9 = some r → ∀ {w : World} {A : Nat → Prop}, (Below w0.heap.size w0 w) → (∀ b, A b → b < w.heap.size) → (∀ b, A0 b → A b) → (Hp A w0.heap.size w []) → (SlR strC A w vb_1 b_1) → (SlR strC A w vt_7 t_7) → KE Tryz.prog 20 (Ret (fun v w' => v = .bool r ∧ Below w0.heap.size w0 w')) 18 [.code (sub (bodyOf Tryz.f20) [2, 1, 2, 2, 1]), .inLoop (sub (bodyOf Tryz.f20) [2, 1, 2, 2, 1]), .inBlock 0, .code (sub (bodyOf Tryz.f20) [2, 2])] [(1, vb_1), (7, vt_7), (8, .int .i64 t_8), (9, .int .i64 t_9)] w := by
 intro n
 induction n with
 | zero => intro r b_1 t_7 t_8 t_9 vb_1 vt_7 hS; cases hS
 | succ n ih =>
  have hr0 : ∀ {r : Bool} {b_1 : List Str} {t_7 : List Str} {t_8 : Int} {t_9 : Int} {vb_1 : Value} {vt_7 : Value}, scope_Within_L1 n b_1 t_7 t_8 t_9 = some r → ∀ {w : World} {A : Nat → Prop}, (Below w0.heap.size w0 w) → (∀ b, A b → b < w.heap.size) → (∀ b, A0 b → A b) → (Hp A w0.heap.size w []) → (SlR strC A w vb_1 b_1) → (SlR strC A w vt_7 t_7) → KE Tryz.prog 20 (Ret (fun v w' => v = .bool r ∧ Below w0.heap.size w0 w')) 18 [.inLoop (sub (bodyOf Tryz.f20) [2, 1, 2, 2, 1]), .inBlock 0, .code (sub (bodyOf Tryz.f20) [2, 2])] [(1, vb_1), (7, vt_7), (8, .int .i64 t_8), (9, .int .i64 t_9)] w := fun {r} {b_1} {t_7} {t_8} {t_9} {vb_1} {vt_7} hS {w} {A} hb hA hi hH hb_1 ht_7 => ke_inLoop (ih hS hb hA hi hH hb_1 ht_7)
  clear ih
  intro r b_1 t_7 t_8 t_9 vb_1 vt_7 hS w A hb hA hi hH hb_1 ht_7
  unfold scope_Within_L1 at hS
  refine ke_seq ?_
  refine ke_region ?_
  refine sr_ev (v := .bool (decide (t_9 < t_8))) (ev_lt rfl rfl) (by decide) ?_
  refine sr_end (l' := [(1, vb_1), (7, vt_7), (8, .int .i64 t_8), (9, .int .i64 t_9), (10, .bool (decide (t_9 < t_8)))]) (.cons rfl (.cons rfl (.cons rfl (.cons rfl (.cons rfl (.nil _)))))) ?_
  refine ke_seq ?_
  refine ke_cond (t := decide (t_9 < t_8)) rfl (fun hc5 => ?_) (fun hc5 => ?_)
  ·replace hS := ite_true' hS hc5
   refine ke_skip ?_
   refine ke_seq ?_
   refine ke_block ?_
   refine ke_seq ?_
   refine ke_region ?_
   obtain ⟨y6, hy7, hS⟩ := bind_some' hS
   refine sr_index ht_7 Tryz.underlying25 Tryz.info9 rfl rfl rfl hy7 (by decide) ?_
   intro b8 o9 cs11 he10
   obtain rfl : cs11 = [str y6] := he10.rd
   refine sr_ev (v := str y6) (ev_load Tryz.isAgg9 rfl (he10.cell 0 _ rfl)) (by decide) ?_
   refine sr_ev (v := str y6) (ev_assign rfl) (by decide) ?_
   refine sr_end (l' := [(1, vb_1), (6, str y6), (7, vt_7), (8, .int .i64 t_8), (9, .int .i64 t_9)]) (.cons rfl (.cons rfl (.cons rfl (.cons rfl (.cons rfl (.nil _)))))) ?_
   refine ke_seq ?_
   refine ke_region ?_
   refine sr_ev (v := str y6) (ev_move rfl) (by decide) ?_
   refine sr_ev (v := vb_1) (ev_move rfl) (by decide) ?_
   obtain ⟨y12, hy13, hS⟩ := bind_some' hS
   refine sr_call (vs := [str y6, vb_1]) rfl Tryz.call55 rfl (scope_covered_ok _ (hg.below hb) hb_1 hy13) (by decide) ?_
   rintro _ w14 ⟨rfl, hbw15⟩
   replace hb := hb.trans (hbw15.mono hb.size)
   replace hA := lt_mono hA hbw15.size
   replace hH := hH.below hbw15
   replace hb_1 := hb_1.below hbw15
   replace ht_7 := ht_7.below hbw15
   refine sr_ev (v := .bool (!y12)) (ev_not rfl) (by decide) ?_
   refine sr_end (l' := [(1, vb_1), (7, vt_7), (8, .int .i64 t_8), (9, .int .i64 t_9), (16, .bool (!y12))]) (.cons rfl (.cons rfl (.cons rfl (.cons rfl (.cons rfl (.nil _)))))) ?_
   refine ke_cond (t := !y12) rfl (fun hc16 => ?_) (fun hc16 => ?_)
   ·replace hS := ite_true' hS hc16
    refine ke_seq ?_
    refine ke_region ?_
    refine sr_ev (v := .bool false) (ev_assign rfl) (by decide) ?_
    refine sr_end (l' := [(4, .bool false)]) (.cons rfl (.nil _)) ?_
    cases hS
    exact ke_ret1 Tryz.func20 rfl rfl ⟨_, rfl, rfl, hb⟩
   ·replace hS := ite_false' hS hc16
    refine ke_skip ?_
    refine ke_inBlock ?_
    refine ke_region ?_
    refine sr_ev (v := .int .i64 (IntKind.i64.wrap (t_9 + 1))) (ev_add rfl rfl) (by decide) ?_
    refine sr_ev (v := .int .i64 (IntKind.i64.wrap (t_9 + 1))) (ev_move rfl) (by decide) ?_
    refine sr_end (l' := [(1, vb_1), (7, vt_7), (8, .int .i64 t_8), (9, .int .i64 (IntKind.i64.wrap (t_9 + 1)))]) (.cons rfl (.cons rfl (.cons rfl (.cons rfl (.nil _))))) ?_
    have hK := hr0 hS hb hA hi hH hb_1 ht_7
    exact ke_weaken (l' := [(1, vb_1), (7, vt_7), (8, .int .i64 t_8), (9, .int .i64 (IntKind.i64.wrap (t_9 + 1)))]) (.cons rfl (.cons rfl (.cons rfl (.cons rfl (.nil _))))) hK
  ·replace hS := ite_false' hS hc5
   refine ke_exit (k' := _) rfl ?_
   refine ke_seq ?_
   refine ke_region ?_
   refine sr_ev (v := .bool true) (ev_assign rfl) (by decide) ?_
   refine sr_end (l' := [(4, .bool true)]) (.cons rfl (.nil _)) ?_
   cases hS
   exact ke_ret1 Tryz.func20 rfl rfl ⟨_, rfl, rfl, hb⟩
theorem scope_Within_ok {A0 : Nat → Prop} (w0 : World) (hg : Gs w0) {a_0 : List Str} {b_1 : List Str} {v1 : Value} {v3 : Value} {r : Bool} (h2 : SlR strC A0 w0 v1 a_0) (h4 : SlR strC A0 w0 v3 b_1) (hS : scope_Within a_0 b_1 = some r) :
  Calls Tryz.prog 20 #[v1, v3] w0 (Ret (fun v w' => v = .bool r ∧ Below w0.heap.size w0 w')) := by
 unfold scope_Within at hS
 have hb := Below.refl w0.heap.size w0
 replace h2 := h2.weak (A' := fun _ => False) (fun _ h => h.elim)
 replace h4 := h4.weak (A' := fun _ => False) (fun _ h => h.elim)
 obtain ⟨A0, hA0, hAe⟩ : ∃ A0 : Nat → Prop, (∀ b, A0 b → b < w0.heap.size) ∧ A0 = fun _ => False := ⟨_, fun _ h => h.elim, rfl⟩
 rw [← hAe] at h2
 rw [← hAe] at h4
 clear hAe
 have hA := hA0
 have hi : ∀ b, A0 b → A0 b := fun _ h => h
 have hH := Hp.nil A0 w0.heap.size w0
 refine calls_of_ke Tryz.func20 rfl (n := 18) rfl rfl (l := [(0, v1), (1, v3)]) rfl ?_
 refine ke_seq ?_
 refine ke_region ?_
 refine sr_ev (v := .bool false) (ev_assign rfl) (by decide) ?_
 refine sr_end (l' := [(0, v1), (1, v3)]) (.cons rfl (.cons rfl (.nil _))) ?_
 refine ke_seq ?_
 refine ke_seq ?_
 refine ke_region ?_
 refine sr_ev (v := v1) (ev_move rfl) (by decide) ?_
 refine sr_ev (v := .int .i64 (a_0.length : Int)) (ev_sllen Tryz.underlying25 rfl h2) (by decide) ?_
 refine sr_ev (v := .int .i64 0) (ev_move rfl) (by decide) ?_
 refine sr_end (l' := [(1, v3), (7, v1), (8, .int .i64 (a_0.length : Int)), (9, .int .i64 0)]) (.cons rfl (.cons rfl (.cons rfl (.cons rfl (.nil _))))) ?_
 refine ke_block ?_
 have hK := scope_Within_L1_ok hg hA0 _ hS hb hA hi hH h4 h2
 exact ke_weaken (l' := [(1, v3), (7, v1), (8, .int .i64 (a_0.length : Int)), (9, .int .i64 0)]) (.cons rfl (.cons rfl (.cons rfl (.cons rfl (.nil _))))) (ke_loop hK)
theorem client_Clients_Allowed_ok (w0 : World) (hg : Gs w0) {ρA : Tags} (hbd : ∀ b, ρA b ≠ 0 → b < w0.heap.size) (hz : Gz ρA) {τ0 : Nat → Nat} (hτ0 : ∀ p, 1 ≤ τ0 p) {r_0 : client_Clients} {id_1 : Str} {scopes_2 : List Str} {v4 : Value} {gr_0 : Nat} {r : Int} (h5 : SlR strC (Wb ρA) w0 v4 scopes_2) (ho0 : client_Clients.O τ0 ρA w0 gr_0 r_0) (hS : client_Clients_Allowed r_0 id_1 scopes_2 = some r) :
  Calls Tryz.prog 19 #[.pointer (some ⟨gr_0, 0, none⟩), str id_1, v4] w0 (Ret (fun v w' => v = .int .i64 r ∧ Below w0.heap.size w0 w')) := by
 unfold client_Clients_Allowed at hS
 have hb := flat1_fr (ρ := ρA) (w := w0) hbd
 have hz := hz.flat1
 replace h5 := SlR.mv h5 flat1_rd
 obtain ⟨v1, hB3, h2⟩ := ho0
 replace hB3 := hB3.mv (flat1_mv (hτ0 0))
 replace h2 := h2.mv (flat1_mv (hτ0 1))
 replace hB3 : Blk (flat1 ρA) 1 w0 gr_0 (.cells #[v1] 57 (0, 0)) := hB3
 replace h2 : MapT str api_Client.c true (flat1 ρA) 1 w0 v1 r_0.of_ := h2
 refine calls_of_ke Tryz.func19 rfl (n := 25) rfl rfl (l := [(0, .pointer (some ⟨gr_0, 0, none⟩)), (1, str id_1), (2, v4)]) rfl ?_
 refine ke_seq ?_
 refine ke_region ?_
 refine sr_ev (v := .int .i64 0) (ev_assign rfl) (by decide) ?_
 refine sr_end (l' := [(0, .pointer (some ⟨gr_0, 0, none⟩)), (1, str id_1), (2, v4)]) (.cons rfl (.cons rfl (.cons rfl (.nil _)))) ?_
 refine ke_seq ?_
 refine ke_region ?_
 refine sr_ev (v := .pointer (some ⟨gr_0, 0, none⟩)) (ev_move rfl) (by decide) ?_
 refine sr_ev (v := str id_1) (ev_move rfl) (by decide) ?_
 obtain ⟨y6, hy7, hS⟩ := bind_some' hS
 refine sr_call (vs := [.pointer (some ⟨gr_0, 0, none⟩), str id_1]) rfl Tryz.call54 rfl (client_Clients_find_ok _ (hg.fr hz hb) (ρA := (flat1 ρA)) hb.bd (hz.fr hg hb) (τ0 := (fun _ => 1)) (fun _ => by decide) (⟨_, hB3, h2⟩ : client_Clients.O (fun _ => 1) (flat1 ρA) w0 gr_0 r_0) hy7) (by decide) ?_
 rintro _ w8 ⟨v11, v13, rfl, h12, h14, hbw9⟩
 have htr10 := Tr.of_below hbw9 hb.bd
 replace h5 := h5.mv htr10.rd
 replace hb := hb.trans htr10
 refine sr_ev (v := .tuple #[.agg #[str y6.1.ID, .int .i64 y6.1.Kind, str y6.1.Tenant, str y6.1.Secret.Salt, .int .i64 y6.1.Secret.Rounds, str y6.1.Secret.Hash, v11, v13, str y6.1.Logout], .int .i64 y6.2]) (ev_move rfl) (by decide) ?_
 refine sr_ev (v := .agg #[str y6.1.ID, .int .i64 y6.1.Kind, str y6.1.Tenant, str y6.1.Secret.Salt, .int .i64 y6.1.Secret.Rounds, str y6.1.Secret.Hash, v11, v13, str y6.1.Logout]) (ev_extract rfl rfl) (by decide) ?_
 refine sr_ev (v := .int .i64 y6.2) (ev_extract rfl rfl) (by decide) ?_
 refine sr_allocT 9 (by decide) hb.bd Tryz.zeroValue27 (by decide) ?_
 intro g15 ρ16 w17 hB19 htr18
 replace h5 := h5.mv htr18.rd
 replace h12 := h12.mv htr18.rd
 replace h14 := h14.mv htr18.rd
 replace hb := hb.trans htr18
 replace hB19 : Blk ρ16 9 w17 g15 (.cells #[str ([]), .int .i64 0, str ([]), str ([]), .int .i64 0, str ([]), (.slice none 0 0), (.slice none 0 0), str ([])] 27 (0, 0)) := hB19
 refine sr_storeT (v := .agg #[str y6.1.ID, .int .i64 y6.1.Kind, str y6.1.Tenant, str y6.1.Secret.Salt, .int .i64 y6.1.Secret.Rounds, str y6.1.Secret.Hash, v11, v13, str y6.1.Logout]) (vs := [str y6.1.ID, .int .i64 y6.1.Kind, str y6.1.Tenant, str y6.1.Secret.Salt, .int .i64 y6.1.Secret.Rounds, str y6.1.Secret.Hash, v11, v13, str y6.1.Logout]) (cs' := #[str y6.1.ID, .int .i64 y6.1.Kind, str y6.1.Tenant, str y6.1.Secret.Salt, .int .i64 y6.1.Secret.Rounds, str y6.1.Secret.Hash, v11, v13, str y6.1.Logout]) hB19 (by decide) hb.bd rfl rfl rfl Tryz.sizeOf27 rfl (by first | rfl | (simp only [List.all_cons, List.all_nil, SlR.oneCell h12, SlR.oneCell h14]; done) | (simp only [List.all_cons, List.all_nil, SlR.oneCell h12, SlR.oneCell h14]; rfl)) rfl ?_
 intro w20 hB191 htr21
 replace h5 := h5.mv htr21.rd
 replace h12 := h12.mv htr21.rd
 replace h14 := h14.mv htr21.rd
 replace hb := hb.trans htr21
 replace hB19 : Blk ρ16 9 w20 g15 (.cells #[str y6.1.ID, .int .i64 y6.1.Kind, str y6.1.Tenant, str y6.1.Secret.Salt, .int .i64 y6.1.Secret.Rounds, str y6.1.Secret.Hash, v11, v13, str y6.1.Logout] 27 (0, 0)) := hB191
 clear hB191
 refine sr_ev (v := .int .i64 y6.2) (ev_assign rfl) (by decide) ?_
 refine sr_end (l' := [(2, v4), (7, .pointer (some ⟨g15, 0, none⟩)), (8, .int .i64 y6.2)]) (.cons rfl (.cons rfl (.cons rfl (.nil _)))) ?_
 refine ke_seq ?_
 refine ke_seq ?_
 refine ke_region ?_
 refine sr_ev (v := .int .i64 y6.2) (ev_move rfl) (by decide) ?_
 refine sr_ev (v := .bool (y6.2 == 0)) (ev_eq rfl rfl) (by decide) ?_
 refine sr_ev (v := .bool (y6.2 == 0)) (ev_move rfl) (by decide) ?_
 obtain ⟨z24, hz26, hS⟩ := bind_some' hS
 refine sr_join (m := 6) (C := fun (z : Bool) w1 => z24 = z ∧ ∃ ρ1, Tr ρ16 w20 (fun _ => false) ρ1 w1) (l' := fun z => [(8, .int .i64 y6.2), (23, .bool z)]) ?_ ?_
 ·rintro _ w27 ⟨rfl, ρ28, hj25⟩
  replace hb := hb.trans hj25
  refine sr_end (l' := [(8, .int .i64 y6.2), (23, .bool z24)]) (.cons rfl (.cons rfl (.nil _))) ?_
  refine ke_cond (t := z24) rfl (fun hc35 => ?_) (fun hc35 => ?_)
  ·replace hS := ite_true' hS hc35
   refine ke_seq ?_
   refine ke_region ?_
   refine sr_ev (v := .int .i64 19) (ev_assign rfl) (by decide) ?_
   refine sr_end (l' := [(6, .int .i64 19)]) (.cons rfl (.nil _)) ?_
   cases hS
   exact ke_ret1 Tryz.func19 rfl rfl ⟨_, rfl, rfl, (hb.below (flat1_le _))⟩
  ·replace hS := ite_false' hS hc35
   refine ke_skip ?_
   refine ke_seq ?_
   refine ke_region ?_
   refine sr_ev (v := .int .i64 y6.2) (ev_move rfl) (by decide) ?_
   refine sr_ev (v := .int .i64 y6.2) (ev_assign rfl) (by decide) ?_
   refine sr_end (l' := [(6, .int .i64 y6.2)]) (.cons rfl (.nil _)) ?_
   cases hS
   exact ke_ret1 Tryz.func19 rfl rfl ⟨_, rfl, rfl, (hb.below (flat1_le _))⟩
 ·intro K23
  clear hS
  have hj25 : Tr ρ16 w20 (fun _ => false) ρ16 w20 := (Tr.refl hb.bd).weak (fun _ _ => rfl) rfl rfl
  rcases Bool.eq_false_or_eq_true (y6.2 == 0) with hg22 | hg22
  ·have hS := ite_true' hz26 hg22
   refine sr_evg (b := true) (e := 17) rfl rfl hg22 (v := v4) (ev_move rfl) (by decide) ?_
   refine sr_evg (b := true) (e := 17) rfl rfl hg22 (v := .pointer (some ⟨g15, 7, none⟩)) (ev_fieldAddr (i := 5) Tryz.underlying27 rfl Tryz.info25 rfl rfl) (by decide) ?_
   refine sr_evg (b := true) (e := 17) rfl rfl hg22 (v := v13) (ev_load Tryz.isAgg25 rfl (hB19.cell rfl)) (by decide) ?_
   obtain ⟨y30, hy31, hS⟩ := bind_some' hS
   refine sr_callg (b := true) (e := 17) rfl rfl hg22 (vs := [v4, v13]) rfl Tryz.call20 rfl (scope_Within_ok _ (hg.fr hz hb) h5.asSl h14.asSl hy31) (by decide) ?_
   rintro _ w32 ⟨rfl, hbw33⟩
   have htr34 := Tr.of_below hbw33 hb.bd
   replace hb := hb.trans htr34
   replace hj25 := (hj25.trans htr34).weak (J' := (fun _ => false)) (by intro t h; simp [rng] at h ⊢ <;> omega) rfl rfl
   refine sr_evg (b := true) (e := 17) rfl rfl hg22 (v := .bool (!y30)) (ev_not rfl) (by decide) ?_
   refine sr_ev (v := .bool (!y30)) (ev_pick_t rfl hg22 rfl) (by decide) ?_
   exact sr_weaken (l' := [(8, .int .i64 y6.2), (23, .bool (!y30))]) (.cons rfl (.cons rfl (.nil _))) (K23 (!y30) _ ⟨(Option.some.inj hS).symm, _, hj25⟩)
  ·have hS := ite_false' hz26 hg22
   refine sr_pass (e := 17) rfl rfl (by rw [hg22]; rfl) (by decide) ?_
   refine sr_pass (e := 17) rfl rfl (by rw [hg22]; rfl) (by decide) ?_
   refine sr_pass (e := 17) rfl rfl (by rw [hg22]; rfl) (by decide) ?_
   refine sr_pass (e := 17) rfl rfl (by rw [hg22]; rfl) (by decide) ?_
   refine sr_pass (e := 17) rfl rfl (by rw [hg22]; rfl) (by decide) ?_
   refine sr_ev (v := .bool false) (ev_pick_f rfl hg22 rfl) (by decide) ?_
   exact sr_weaken (l' := [(8, .int .i64 y6.2), (23, .bool false)]) (.cons rfl (.cons rfl (.nil _))) (K23 false _ ⟨(Option.some.inj hS).symm, _, hj25⟩)
theorem client_Clients_List_ok (w0 : World) (hg : Gs w0) {ρA : Tags} (hbd : ∀ b, ρA b ≠ 0 → b < w0.heap.size) (hz : Gz ρA) {τ0 : Nat → Nat} (hτ0 : ∀ p, 1 ≤ τ0 p) {r_0 : client_Clients} {gr_0 : Nat} {r : List Str} (ho0 : client_Clients.O τ0 ρA w0 gr_0 r_0) (hS : client_Clients_List r_0 = some r) :
  Calls Tryz.prog 35 #[.pointer (some ⟨gr_0, 0, none⟩)] w0 (Ret (fun v w' => ∃ x1, v = x1 ∧ SlR strC (Wb ρA) w' x1 r ∧ Below w0.heap.size w0 w')) := by
 unfold client_Clients_List at hS
 have hb := flat1_fr (ρ := ρA) (w := w0) hbd
 have hz := hz.flat1
 obtain ⟨v1, hB3, h2⟩ := ho0
 replace hB3 := hB3.mv (flat1_mv (hτ0 0))
 replace h2 := h2.mv (flat1_mv (hτ0 1))
 replace hB3 : Blk (flat1 ρA) 1 w0 gr_0 (.cells #[v1] 57 (0, 0)) := hB3
 replace h2 : MapT str api_Client.c true (flat1 ρA) 1 w0 v1 r_0.of_ := h2
 refine calls_of_ke Tryz.func35 rfl (n := 12) rfl rfl (l := [(0, .pointer (some ⟨gr_0, 0, none⟩))]) rfl ?_
 refine ke_seq ?_
 refine ke_region ?_
 refine sr_ev (v := .slice none 0 0) (ev_assign rfl) (by decide) ?_
 refine sr_end (l' := [(0, .pointer (some ⟨gr_0, 0, none⟩))]) (.cons rfl (.nil _)) ?_
 refine ke_seq ?_
 refine ke_seq ?_
 refine ke_region ?_
 refine sr_ev (v := .pointer (some ⟨gr_0, 0, none⟩)) (ev_move rfl) (by decide) ?_
 obtain ⟨y6, hy7, hS⟩ := bind_some' hS
 refine sr_call (vs := [.pointer (some ⟨gr_0, 0, none⟩)]) rfl Tryz.call50 rfl (client_Clients_ready_ok _ (hg.fr hz hb) (ρA := (flat1 ρA)) hb.bd (hz.fr hg hb) (τ0 := (fun _ => 1)) (fun _ => by decide) (⟨_, hB3, h2⟩ : client_Clients.O (fun _ => 1) (flat1 ρA) w0 gr_0 r_0) hy7) (by decide) ?_
 rintro _ w8 ⟨rfl, hbw9⟩
 have htr10 := Tr.of_below hbw9 hb.bd
 replace hB3 := hB3.mv (htr10.mv (i := 1) rfl)
 replace h2 := h2.mv (htr10.mv (i := 1) rfl)
 replace hb := hb.trans htr10
 refine sr_ev (v := .bool (!y6)) (ev_not rfl) (by decide) ?_
 refine sr_end (l' := [(0, .pointer (some ⟨gr_0, 0, none⟩)), (5, .bool (!y6))]) (.cons rfl (.cons rfl (.nil _))) ?_
 refine ke_cond (t := !y6) rfl (fun hc11 => ?_) (fun hc11 => ?_)
 ·replace hS := ite_true' hS hc11
  refine ke_seq ?_
  refine ke_region ?_
  refine sr_ev (v := .slice none 0 0) (ev_assign rfl) (by decide) ?_
  refine sr_end (l' := [(2, .slice none 0 0)]) (.cons rfl (.nil _)) ?_
  cases hS
  exact ke_ret1 Tryz.func35 rfl rfl ⟨_, rfl, _, rfl, SlR.nil, (hb.below (flat1_le _))⟩
 ·replace hS := ite_false' hS hc11
  refine ke_skip ?_
  refine ke_seq ?_
  refine ke_region ?_
  refine sr_ev (v := .pointer (some ⟨gr_0, 0, none⟩)) (ev_move rfl) (by decide) ?_
  refine sr_ev (v := .pointer (some ⟨gr_0, 0, none⟩)) (ev_nilCheck rfl) (by decide) ?_
  refine sr_ev (v := .pointer (some ⟨gr_0, 0, none⟩)) (ev_fieldAddr (i := 0) Tryz.underlying57 rfl Tryz.info55 rfl rfl) (by decide) ?_
  refine sr_ev (v := v1) (ev_load Tryz.isAgg55 rfl (hB3.cell rfl)) (by decide) ?_
  obtain ⟨y12, hy13, hS⟩ := bind_some' hS
  refine sr_call (vs := [v1]) rfl Tryz.call63 rfl (keys_call (fun mb W => Tryz.maps_Keys_63 mb W) h2) (by decide) ?_
  rintro _ _ ⟨rfl, rfl⟩
  refine sr_call (vs := [.func (.func 89) #[] #[.pointer (some ⟨w8.heap.size, 0, none⟩)]]) rfl Tryz.call62 rfl (sortedKeys_ok (E := 9) Tryz.underlying9 (fun b nn D0 R w h1 h2 h3 => Tryz.slices_Sorted_keys_62_63 b nn D0 R w h1 h2 h3) (fun w => Tryz.slices_Sorted_keys_nil_62_63 w) h2 hb.bd hy13) (by decide) ?_
  rintro v14 w16 hfr18
  obtain ⟨h15, htr17⟩ := freshT (i := 13) (by decide) hb.bd hfr18
  replace hb := hb.trans htr17
  refine sr_ev (v := v14) (ev_assign rfl) (by decide) ?_
  refine sr_end (l' := [(2, v14)]) (.cons rfl (.nil _)) ?_
  have htr19 := frz_tr (ρ := (ownTags (flat1 ρA) 13 v14)) (w := w16) (i := 13) (by decide) hb.bd
  have h20 : SlR strC (Wb (frz (ownTags (flat1 ρA) 13 v14) 13)) w16 v14 y12 := (SlT.mv h15.sl (frz_mv (ρ := (ownTags (flat1 ρA) 13 v14)) (w := w16) (i := 13))).sl
  replace hb := hb.trans htr19
  cases hS
  exact ke_ret1 Tryz.func35 rfl rfl ⟨_, rfl, _, rfl, (SlR.mv h20 (flat1_back hb hbd)), (hb.below (flat1_le _))⟩
theorem ref07_Lists_L1_ok {w0 : World} (hg : Gs w0) {A0 : Nat → Prop} (hA0 : ∀ b, A0 b → b < w0.heap.size) : ∀ (n : Nat), ∀ {r : Bool} {a_0 : List Str} {b_1 : List Str} {i_5 : Int} {va_0 : Value} {vb_1 : Value}, ref07_Lists_L1 n a_0 b_1 i_5 = some r → ∀ {w : World} {A : Nat → Prop}, (Below w0.heap.size w0 w) → (∀ b, A b → b < w.heap.size) → (∀ b, A0 b → A b) → (Hp A w0.heap.size w []) → (SlR strC A w va_0 a_0) → (SlR strC A w vb_1 b_1) → KE Tryz.prog 34 (Ret (fun v w' => v = .bool r ∧ Below w0.heap.size w0 w')) 26 [.code (sub (bodyOf Tryz.f34) [2, 2, 1, 2, 2, 1]), .inLoop (sub (bodyOf Tryz.f34) [2, 2, 1, 2, 2, 1]), .inBlock 0, .code (sub (bodyOf Tryz.f34) [2, 2, 2])] [(0, va_0), (1, vb_1), (5, .int .i64 i_5)] w := by
 intro n
 induction n with
 | zero => intro r a_0 b_1 i_5 va_0 vb_1 hS; cases hS
 | succ n ih =>
  have hr0 : ∀ {r : Bool} {a_0 : List Str} {b_1 : List Str} {i_5 : Int} {va_0 : Value} {vb_1 : Value}, ref07_Lists_L1 n a_0 b_1 i_5 = some r → ∀ {w : World} {A : Nat → Prop}, (Below w0.heap.size w0 w) → (∀ b, A b → b < w.heap.size) → (∀ b, A0 b → A b) → (Hp A w0.heap.size w []) → (SlR strC A w va_0 a_0) → (SlR strC A w vb_1 b_1) → KE Tryz.prog 34 (Ret (fun v w' => v = .bool r ∧ Below w0.heap.size w0 w')) 26 [.inLoop (sub (bodyOf Tryz.f34) [2, 2, 1, 2, 2, 1]), .inBlock 0, .code (sub (bodyOf Tryz.f34) [2, 2, 2])] [(0, va_0), (1, vb_1), (5, .int .i64 i_5)] w := fun {r} {a_0} {b_1} {i_5} {va_0} {vb_1} hS {w} {A} hb hA hi hH ha_0 hb_1 => ke_inLoop (ih hS hb hA hi hH ha_0 hb_1)
  clear ih
  intro r a_0 b_1 i_5 va_0 vb_1 hS w A hb hA hi hH ha_0 hb_1
  unfold ref07_Lists_L1 at hS
  refine ke_seq ?_
  refine ke_seq ?_
  refine ke_region ?_
  refine sr_ev (v := .int .i64 i_5) (ev_move rfl) (by decide) ?_
  refine sr_ev (v := va_0) (ev_move rfl) (by decide) ?_
  refine sr_ev (v := .int .i64 (a_0.length : Int)) (ev_sllen Tryz.underlying25 rfl ha_0) (by decide) ?_
  refine sr_ev (v := .bool (decide (i_5 < (a_0.length : Int)))) (ev_lt rfl rfl) (by decide) ?_
  refine sr_end (l' := [(0, va_0), (1, vb_1), (5, .int .i64 i_5), (14, .bool (decide (i_5 < (a_0.length : Int))))]) (.cons rfl (.cons rfl (.cons rfl (.cons rfl (.nil _))))) ?_
  refine ke_cond (t := decide (i_5 < (a_0.length : Int))) rfl (fun hc6 => ?_) (fun hc6 => ?_)
  ·replace hS := ite_true' hS hc6
   refine ke_skip ?_
   refine ke_seq ?_
   refine ke_block ?_
   refine ke_seq ?_
   refine ke_region_q Tryz.mixed (by kernel_rfl) ?_
   refine sq_ev (v := va_0) (fun w1 hw1 => ev_move rfl) (by decide) ?_
   refine sq_ev (v := .int .i64 i_5) (fun w1 hw1 => ev_move rfl) (by decide) ?_
   obtain ⟨y9, hy10, hS⟩ := bind_some' hS
   obtain ⟨b11, o12, cs14, he13, hixhe13⟩ := ha_0.elem Tryz.underlying25 Tryz.info9 rfl (P := Tryz.prog) hy10
   obtain rfl : cs14 = [str y9] := he13.rd
   refine sq_ev (v := .pointer (some ⟨b11, o12, none⟩)) (fun w1 hw1 => hixhe13 w1 hw1 rfl rfl) (by decide) ?_
   refine sq_ev (v := str y9) (fun w1 hw1 => ev_load Tryz.isAgg9 rfl ((he13.step (.of_below hw1) (Nat.succ_pos _)).cell 0 _ rfl)) (by decide) ?_
   refine sq_ev (v := vb_1) (fun w1 hw1 => ev_move rfl) (by decide) ?_
   refine sq_ev (v := .int .i64 i_5) (fun w1 hw1 => ev_move rfl) (by decide) ?_
   obtain ⟨y15, hy16, hS⟩ := bind_some' hS
   obtain ⟨b17, o18, cs20, he19, hixhe19⟩ := hb_1.elem Tryz.underlying25 Tryz.info9 rfl (P := Tryz.prog) hy16
   obtain rfl : cs20 = [str y15] := he19.rd
   refine sq_ev (v := .pointer (some ⟨b17, o18, none⟩)) (fun w1 hw1 => hixhe19 w1 hw1 rfl rfl) (by decide) ?_
   refine sq_ev (v := str y15) (fun w1 hw1 => ev_load Tryz.isAgg9 rfl ((he19.step (.of_below hw1) (Nat.succ_pos _)).cell 0 _ rfl)) (by decide) ?_
   refine sq_ev (v := .bool (!(y9 == y15))) (fun w1 hw1 => ev_sne rfl rfl) (by decide) ?_
   refine sq_end (l' := [(0, va_0), (1, vb_1), (5, .int .i64 i_5), (25, .bool (!(y9 == y15)))]) (.cons rfl (.cons rfl (.cons rfl (.cons rfl (.nil _))))) (fun w8 hw7 => ?_)
   replace hb := hb.trans (hw7.mono hb.size)
   replace hA := lt_mono hA hw7.size
   replace hH := hH.below hw7
   replace ha_0 := ha_0.below hw7
   replace hb_1 := hb_1.below hw7
   refine ke_cond (t := !(y9 == y15)) rfl (fun hc21 => ?_) (fun hc21 => ?_)
   ·replace hS := ite_true' hS hc21
    refine ke_seq ?_
    refine ke_region ?_
    refine sr_ev (v := .bool false) (ev_assign rfl) (by decide) ?_
    refine sr_end (l' := [(4, .bool false)]) (.cons rfl (.nil _)) ?_
    cases hS
    exact ke_ret1 Tryz.func34 rfl rfl ⟨_, rfl, rfl, hb⟩
   ·replace hS := ite_false' hS hc21
    refine ke_skip ?_
    refine ke_inBlock ?_
    refine ke_region ?_
    refine sr_ev (v := .int .i64 i_5) (ev_move rfl) (by decide) ?_
    refine sr_ev (v := .int .i64 (IntKind.i64.wrap (i_5 + 1))) (ev_add rfl rfl) (by decide) ?_
    refine sr_ev (v := .int .i64 (IntKind.i64.wrap (i_5 + 1))) (ev_assign rfl) (by decide) ?_
    refine sr_end (l' := [(0, va_0), (1, vb_1), (5, .int .i64 (IntKind.i64.wrap (i_5 + 1)))]) (.cons rfl (.cons rfl (.cons rfl (.nil _)))) ?_
    have hK := hr0 hS hb hA hi hH ha_0 hb_1
    exact ke_weaken (l' := [(0, va_0), (1, vb_1), (5, .int .i64 (IntKind.i64.wrap (i_5 + 1)))]) (.cons rfl (.cons rfl (.cons rfl (.nil _)))) hK
  ·replace hS := ite_false' hS hc6
   refine ke_exit (k' := _) rfl ?_
   refine ke_seq ?_
   refine ke_region ?_
   refine sr_ev (v := .bool true) (ev_assign rfl) (by decide) ?_
   refine sr_end (l' := [(4, .bool true)]) (.cons rfl (.nil _)) ?_
   cases hS
   exact ke_ret1 Tryz.func34 rfl rfl ⟨_, rfl, rfl, hb⟩
theorem ref07_Lists_ok {A0 : Nat → Prop} (w0 : World) (hg : Gs w0) {a_0 : List Str} {b_1 : List Str} {v1 : Value} {v3 : Value} {r : Bool} (h2 : SlR strC A0 w0 v1 a_0) (h4 : SlR strC A0 w0 v3 b_1) (hS : ref07_Lists a_0 b_1 = some r) :
  Calls Tryz.prog 34 #[v1, v3] w0 (Ret (fun v w' => v = .bool r ∧ Below w0.heap.size w0 w')) := by
 unfold ref07_Lists at hS
 have hb := Below.refl w0.heap.size w0
 replace h2 := h2.weak (A' := fun _ => False) (fun _ h => h.elim)
 replace h4 := h4.weak (A' := fun _ => False) (fun _ h => h.elim)
 obtain ⟨A0, hA0, hAe⟩ : ∃ A0 : Nat → Prop, (∀ b, A0 b → b < w0.heap.size) ∧ A0 = fun _ => False := ⟨_, fun _ h => h.elim, rfl⟩
 rw [← hAe] at h2
 rw [← hAe] at h4
 clear hAe
 have hA := hA0
 have hi : ∀ b, A0 b → A0 b := fun _ h => h
 have hH := Hp.nil A0 w0.heap.size w0
 refine calls_of_ke Tryz.func34 rfl (n := 26) rfl rfl (l := [(0, v1), (1, v3)]) rfl ?_
 refine ke_seq ?_
 refine ke_region ?_
 refine sr_ev (v := .bool false) (ev_assign rfl) (by decide) ?_
 refine sr_end (l' := [(0, v1), (1, v3)]) (.cons rfl (.cons rfl (.nil _))) ?_
 refine ke_seq ?_
 refine ke_seq ?_
 refine ke_region ?_
 refine sr_ev (v := v1) (ev_move rfl) (by decide) ?_
 refine sr_ev (v := .int .i64 (a_0.length : Int)) (ev_sllen Tryz.underlying25 rfl h2) (by decide) ?_
 refine sr_ev (v := v3) (ev_move rfl) (by decide) ?_
 refine sr_ev (v := .int .i64 (b_1.length : Int)) (ev_sllen Tryz.underlying25 rfl h4) (by decide) ?_
 refine sr_ev (v := .bool ((a_0.length : Int) != (b_1.length : Int))) (ev_ne rfl rfl) (by decide) ?_
 refine sr_end (l' := [(0, v1), (1, v3), (10, .bool ((a_0.length : Int) != (b_1.length : Int)))]) (.cons rfl (.cons rfl (.cons rfl (.nil _)))) ?_
 refine ke_cond (t := (a_0.length : Int) != (b_1.length : Int)) rfl (fun hc5 => ?_) (fun hc5 => ?_)
 ·replace hS := ite_true' hS hc5
  refine ke_seq ?_
  refine ke_region ?_
  refine sr_ev (v := .bool false) (ev_assign rfl) (by decide) ?_
  refine sr_end (l' := [(4, .bool false)]) (.cons rfl (.nil _)) ?_
  cases hS
  exact ke_ret1 Tryz.func34 rfl rfl ⟨_, rfl, rfl, hb⟩
 ·replace hS := ite_false' hS hc5
  refine ke_skip ?_
  refine ke_seq ?_
  refine ke_seq ?_
  refine ke_region ?_
  refine sr_ev (v := .int .i64 0) (ev_assign rfl) (by decide) ?_
  refine sr_end (l' := [(0, v1), (1, v3), (5, .int .i64 0)]) (.cons rfl (.cons rfl (.cons rfl (.nil _)))) ?_
  refine ke_block ?_
  have hK := ref07_Lists_L1_ok hg hA0 _ hS hb hA hi hH h2 h4
  exact ke_weaken (l' := [(0, v1), (1, v3), (5, .int .i64 0)]) (.cons rfl (.cons rfl (.cons rfl (.nil _)))) (ke_loop hK)
theorem client_Clients_Remove_B1_ok {w0 : World} (hg : Gs w0) {ρA : Tags} (hbd : ∀ b, ρA b ≠ 0 → b < w0.heap.size) {o : Nat} (ho2 : 2 ≤ o) {gr_0 : Nat} (hz : Gz (enter ρA o 2)) {r : Bool × client_Clients} {e_6 : Int} {ogr_0 : client_Clients} (hS : client_Clients_Remove_B1 e_6 ogr_0 = some r) {ρ : Tags} {w : World} (hb : Fr (enter ρA o 2) w0 ρ w) (hogr_0 : client_Clients.O (fun p => 100 + p) ρ w gr_0 ogr_0) :
  KE Tryz.prog 32 (Ret (fun v w' => ∃ ρ', v = .bool r.1 ∧ client_Clients.O (fun p => o + p) ρ' w' gr_0 r.2 ∧ Tr ρA w0 (rng o 2) ρ' w')) 22 [.code (sub (bodyOf Tryz.f32) [2, 2, 2])] [(6, .int .i64 e_6)] w := by
 unfold client_Clients_Remove_B1 at hS
 obtain ⟨v23, hB25, h24⟩ := hogr_0
 replace hB25 : Blk ρ 100 w gr_0 (.cells #[v23] 57 (0, 0)) := hB25
 replace h24 : MapT str api_Client.c true ρ 101 w v23 ogr_0.of_ := h24
 refine ke_seq ?_
 refine ke_region ?_
 refine sr_ev (v := .int .i64 e_6) (ev_move rfl) (by decide) ?_
 refine sr_ev (v := .bool (e_6 == 0)) (ev_eq rfl rfl) (by decide) ?_
 refine sr_ev (v := .bool (e_6 == 0)) (ev_assign rfl) (by decide) ?_
 refine sr_end (l' := [(4, .bool (e_6 == 0))]) (.cons rfl (.nil _)) ?_
 cases hS
 exact ke_ret1 Tryz.func32 rfl rfl ⟨_, rfl, leave ρA w0 o 2 ρ, rfl, ⟨_, (hB25.mv (leave_mv (p := 0) (by decide) hb)), (h24.mv (leave_mv (p := 1) (by decide) hb))⟩, (leave_tr ho2 hb)⟩
theorem client_Clients_Remove_ok (w0 : World) (hg : Gs w0) {ρA : Tags} (hbd : ∀ b, ρA b ≠ 0 → b < w0.heap.size) (hz : Gz ρA) {o : Nat} (ho2 : 2 ≤ o) {r_0 : client_Clients} {id_1 : Str} {gr_0 : Nat} {r : Bool × client_Clients} (ho0 : client_Clients.O (fun p => o + p) ρA w0 gr_0 r_0) (hS : client_Clients_Remove r_0 id_1 = some r) :
  Calls Tryz.prog 32 #[.pointer (some ⟨gr_0, 0, none⟩), str id_1] w0 (Ret (fun v w' => ∃ ρ', v = .bool r.1 ∧ client_Clients.O (fun p => o + p) ρ' w' gr_0 r.2 ∧ Tr ρA w0 (rng o 2) ρ' w')) := by
 unfold client_Clients_Remove at hS
 have hb := enter_fr (ρ := ρA) (w := w0) (n := 2) ho2 hbd
 have hz := hz.enter (n := 2) ho2
 obtain ⟨v1, hB3, h2⟩ := ho0
 replace hB3 := hB3.mv (enter_mv (p := 0) (n := 2) (by decide) ho2)
 replace h2 := h2.mv (enter_mv (p := 1) (n := 2) (by decide) ho2)
 replace hB3 : Blk (enter ρA o 2) 100 w0 gr_0 (.cells #[v1] 57 (0, 0)) := hB3
 replace h2 : MapT str api_Client.c true (enter ρA o 2) 101 w0 v1 r_0.of_ := h2
 refine calls_of_ke Tryz.func32 rfl (n := 22) rfl rfl (l := [(0, .pointer (some ⟨gr_0, 0, none⟩)), (1, str id_1)]) rfl ?_
 refine ke_seq ?_
 refine ke_region ?_
 refine sr_ev (v := .bool false) (ev_assign rfl) (by decide) ?_
 refine sr_end (l' := [(0, .pointer (some ⟨gr_0, 0, none⟩)), (1, str id_1)]) (.cons rfl (.cons rfl (.nil _))) ?_
 refine ke_seq ?_
 refine ke_region ?_
 refine sr_ev (v := .pointer (some ⟨gr_0, 0, none⟩)) (ev_move rfl) (by decide) ?_
 refine sr_ev (v := str id_1) (ev_move rfl) (by decide) ?_
 obtain ⟨y4, hy5, hS⟩ := bind_some' hS
 refine sr_call (vs := [.pointer (some ⟨gr_0, 0, none⟩), str id_1]) rfl Tryz.call54 rfl (client_Clients_find_ok _ (hg.fr hz hb) (ρA := (enter ρA o 2)) hb.bd (hz.fr hg hb) (τ0 := (fun p => 100 + p)) (fun p => Nat.le_add_right_of_le (by decide)) (⟨_, hB3, h2⟩ : client_Clients.O (fun p => 100 + p) (enter ρA o 2) w0 gr_0 r_0) hy5) (by decide) ?_
 rintro _ w6 ⟨v9, v11, rfl, h10, h12, hbw7⟩
 have htr8 := Tr.of_below hbw7 hb.bd
 replace hB3 := hB3.mv (htr8.mv (i := 100) rfl)
 replace h2 := h2.mv (htr8.mv (i := 101) rfl)
 replace hb := hb.trans htr8
 refine sr_ev (v := .tuple #[.agg #[str y4.1.ID, .int .i64 y4.1.Kind, str y4.1.Tenant, str y4.1.Secret.Salt, .int .i64 y4.1.Secret.Rounds, str y4.1.Secret.Hash, v9, v11, str y4.1.Logout], .int .i64 y4.2]) (ev_move rfl) (by decide) ?_
 refine sr_ev (v := .agg #[str y4.1.ID, .int .i64 y4.1.Kind, str y4.1.Tenant, str y4.1.Secret.Salt, .int .i64 y4.1.Secret.Rounds, str y4.1.Secret.Hash, v9, v11, str y4.1.Logout]) (ev_extract rfl rfl) (by decide) ?_
 refine sr_ev (v := .int .i64 y4.2) (ev_extract rfl rfl) (by decide) ?_
 refine sr_allocT 7 (by decide) hb.bd Tryz.zeroValue27 (by decide) ?_
 intro g13 ρ14 w15 hB17 htr16
 replace h10 := h10.mv htr16.rd
 replace h12 := h12.mv htr16.rd
 replace hB3 := hB3.mv (htr16.mv (i := 100) rfl)
 replace h2 := h2.mv (htr16.mv (i := 101) rfl)
 replace hb := hb.trans htr16
 replace hB17 : Blk ρ14 7 w15 g13 (.cells #[str ([]), .int .i64 0, str ([]), str ([]), .int .i64 0, str ([]), (.slice none 0 0), (.slice none 0 0), str ([])] 27 (0, 0)) := hB17
 refine sr_storeT (v := .agg #[str y4.1.ID, .int .i64 y4.1.Kind, str y4.1.Tenant, str y4.1.Secret.Salt, .int .i64 y4.1.Secret.Rounds, str y4.1.Secret.Hash, v9, v11, str y4.1.Logout]) (vs := [str y4.1.ID, .int .i64 y4.1.Kind, str y4.1.Tenant, str y4.1.Secret.Salt, .int .i64 y4.1.Secret.Rounds, str y4.1.Secret.Hash, v9, v11, str y4.1.Logout]) (cs' := #[str y4.1.ID, .int .i64 y4.1.Kind, str y4.1.Tenant, str y4.1.Secret.Salt, .int .i64 y4.1.Secret.Rounds, str y4.1.Secret.Hash, v9, v11, str y4.1.Logout]) hB17 (by decide) hb.bd rfl rfl rfl Tryz.sizeOf27 rfl (by first | rfl | (simp only [List.all_cons, List.all_nil, SlR.oneCell h10, SlR.oneCell h12]; done) | (simp only [List.all_cons, List.all_nil, SlR.oneCell h10, SlR.oneCell h12]; rfl)) rfl ?_
 intro w18 hB171 htr19
 replace h10 := h10.mv htr19.rd
 replace h12 := h12.mv htr19.rd
 replace hB3 := hB3.mv (htr19.mv (i := 100) rfl)
 replace h2 := h2.mv (htr19.mv (i := 101) rfl)
 replace hb := hb.trans htr19
 replace hB17 : Blk ρ14 7 w18 g13 (.cells #[str y4.1.ID, .int .i64 y4.1.Kind, str y4.1.Tenant, str y4.1.Secret.Salt, .int .i64 y4.1.Secret.Rounds, str y4.1.Secret.Hash, v9, v11, str y4.1.Logout] 27 (0, 0)) := hB171
 clear hB171
 refine sr_ev (v := .int .i64 y4.2) (ev_assign rfl) (by decide) ?_
 refine sr_end (l' := [(0, .pointer (some ⟨gr_0, 0, none⟩)), (1, str id_1), (6, .int .i64 y4.2)]) (.cons rfl (.cons rfl (.cons rfl (.nil _)))) ?_
 refine ke_seq ?_
 refine ke_seq ?_
 refine ke_region ?_
 refine sr_ev (v := .int .i64 y4.2) (ev_move rfl) (by decide) ?_
 refine sr_ev (v := .bool (y4.2 == 0)) (ev_eq rfl rfl) (by decide) ?_
 refine sr_end (l' := [(0, .pointer (some ⟨gr_0, 0, none⟩)), (1, str id_1), (6, .int .i64 y4.2), (14, .bool (y4.2 == 0))]) (.cons rfl (.cons rfl (.cons rfl (.cons rfl (.nil _))))) ?_
 refine ke_cond (t := y4.2 == 0) rfl (fun hc20 => ?_) (fun hc20 => ?_)
 ·replace hS := ite_true' hS hc20
  refine ke_region ?_
  refine sr_ev (v := .pointer (some ⟨gr_0, 0, none⟩)) (ev_move rfl) (by decide) ?_
  refine sr_ev (v := .pointer (some ⟨gr_0, 0, none⟩)) (ev_nilCheck rfl) (by decide) ?_
  refine sr_ev (v := .pointer (some ⟨gr_0, 0, none⟩)) (ev_fieldAddr (i := 0) Tryz.underlying57 rfl Tryz.info55 rfl rfl) (by decide) ?_
  refine sr_ev (v := v1) (ev_load Tryz.isAgg55 rfl (hB3.cell rfl)) (by decide) ?_
  refine sr_ev (v := str id_1) (ev_move rfl) (by decide) ?_
  refine sr_mapDel0 (k := id_1) h2 Tryz.keyB9 Tryz.underlying55 (by decide) hb.bd rfl rfl ?_
  intro w21 h21 htr22
  replace hB3 := hB3.mv (htr22.mv (i := 100) rfl)
  replace hb := hb.trans htr22
  replace h2 := h21
  clear h21
  refine sr_end (l' := [(6, .int .i64 y4.2)]) (.cons rfl (.nil _)) ?_
  have hK := client_Clients_Remove_B1_ok hg hbd ho2 hz hS hb ⟨_, hB3, h2⟩
  exact ke_weaken (l' := [(6, .int .i64 y4.2)]) (.cons rfl (.nil _)) hK
 ·replace hS := ite_false' hS hc20
  refine ke_skip ?_
  have hK := client_Clients_Remove_B1_ok hg hbd ho2 hz hS hb ⟨_, hB3, h2⟩
  exact ke_weaken (l' := [(6, .int .i64 y4.2)]) (.cons rfl (.nil _)) hK
theorem law36_alive_ok (w0 : World) (hg : Gs w0) {ρA : Tags} (hbd : ∀ b, ρA b ≠ 0 → b < w0.heap.size) (hz : Gz ρA) {r : Bool} (hS : law36_alive = some r) :
  Calls Tryz.prog 11 #[] w0 (Ret (fun v w' => v = .bool r ∧ Below w0.heap.size w0 w')) := by
 unfold law36_alive at hS
 have hb := flat1_fr (ρ := ρA) (w := w0) hbd
 have hz := hz.flat1
 refine calls_of_ke Tryz.func11 rfl (n := 88) rfl rfl (l := []) rfl ?_
 refine ke_seq ?_
 refine ke_region ?_
 refine sr_ev (v := .bool false) (ev_assign rfl) (by decide) ?_
 refine sr_end (l' := []) (.nil _) ?_
 refine ke_seq ?_
 refine ke_region ?_
 obtain ⟨y1, hy2, hS⟩ := bind_some' hS
 refine sr_call (vs := []) rfl Tryz.call15 rfl (client_New_ok _ (hg.fr hz hb) (ρA := (flat1 ρA)) hb.bd (hz.fr hg hb) (o := 100) (by decide) hy2) (by decide) ?_
 rintro _ w3 ⟨ρ10, g6, rfl, ⟨v7, hB9, h8⟩, htr5⟩
 replace hb := hb.trans htr5
 replace hB9 : Blk ρ10 100 w3 g6 (.cells #[v7] 57 (0, 0)) := hB9
 replace h8 : MapT str api_Client.c true ρ10 101 w3 v7 y1.of_ := h8
 refine sr_ev (v := .pointer (some ⟨g6, 0, none⟩)) (ev_assign rfl) (by decide) ?_
 refine sr_end (l' := [(1, .pointer (some ⟨g6, 0, none⟩))]) (.cons rfl (.nil _)) ?_
 refine ke_seq ?_
 refine ke_seq ?_
 refine ke_region ?_
 refine sr_ev (v := .pointer (some ⟨g6, 0, none⟩)) (ev_move rfl) (by decide) ?_
 refine sr_ev (v := .bool false) (ev_peqT_some Tryz.underlying33 rfl rfl) (by decide) ?_
 refine sr_end (l' := [(1, .pointer (some ⟨g6, 0, none⟩)), (8, .bool false)]) (.cons rfl (.cons rfl (.nil _))) ?_
 refine ke_cond (t := false) rfl (fun h => by cases h) (fun _ => ?_)
 refine ke_skip ?_
 refine ke_seq ?_
 refine ke_region ?_
 refine sr_ev (v := .pointer (some ⟨g6, 0, none⟩)) (ev_move rfl) (by decide) ?_
 obtain ⟨y11, hy12, hS⟩ := bind_some' hS
 refine sr_call (vs := []) rfl Tryz.call16 rfl (law36_app_ok _ (hg.fr hz hb) (ρA := ρ10) hb.bd (hz.fr hg hb) hy12) (by decide) ?_
 rintro _ w13 ⟨v16, v18, rfl, h17, h19, hbw14⟩
 have htr15 := Tr.of_below hbw14 hb.bd
 replace hB9 := hB9.mv (htr15.mv (i := 100) rfl)
 replace h8 := h8.mv (htr15.mv (i := 101) rfl)
 replace hb := hb.trans htr15
 obtain ⟨y20, hy21, hS⟩ := bind_some' hS
 refine sr_call (vs := [.pointer (some ⟨g6, 0, none⟩), .agg #[str y11.ID, .int .i64 y11.Kind, str y11.Tenant, str y11.Secret.Salt, .int .i64 y11.Secret.Rounds, str y11.Secret.Hash, v16, v18, str y11.Logout]]) rfl Tryz.call17 rfl (client_Clients_Register_ok _ (hg.fr hz hb) (ρA := ρ10) hb.bd (hz.fr hg hb) (o := 100) (by decide) h17 h19 (⟨_, hB9, h8⟩ : client_Clients.O (fun p => 100 + p) ρ10 w13 g6 y1) hy21) (by decide) ?_
 rintro _ w22 ⟨ρ28, rfl, ⟨v25, hB27, h26⟩, htr24⟩
 replace hb := hb.trans htr24
 replace hB27 : Blk ρ28 100 w22 g6 (.cells #[v25] 57 (0, 0)) := hB27
 replace h26 : MapT str api_Client.c true ρ28 101 w22 v25 y20.2.of_ := h26
 refine sr_ev (v := .int .i64 y20.1) (ev_assign rfl) (by decide) ?_
 refine sr_end (l' := [(1, .pointer (some ⟨g6, 0, none⟩)), (2, .int .i64 y20.1)]) (.cons rfl (.cons rfl (.nil _))) ?_
 refine ke_seq ?_
 refine ke_region ?_
 obtain ⟨y29, hy30, hS⟩ := bind_some' hS
 refine sr_call (vs := []) rfl Tryz.call16 rfl (law36_app_ok _ (hg.fr hz hb) (ρA := ρ28) hb.bd (hz.fr hg hb) hy30) (by decide) ?_
 rintro _ w31 ⟨v34, v36, rfl, h35, h37, hbw32⟩
 have htr33 := Tr.of_below hbw32 hb.bd
 replace hB27 := hB27.mv (htr33.mv (i := 100) rfl)
 replace h26 := h26.mv (htr33.mv (i := 101) rfl)
 replace hb := hb.trans htr33
 obtain ⟨y38, hy39, hS⟩ := bind_some' hS
 refine sr_call (vs := []) rfl Tryz.call16 rfl (law36_app_ok _ (hg.fr hz hb) (ρA := ρ28) hb.bd (hz.fr hg hb) hy39) (by decide) ?_
 rintro _ w40 ⟨v43, v45, rfl, h44, h46, hbw41⟩
 have htr42 := Tr.of_below hbw41 hb.bd
 replace h35 := h35.mv htr42.rd
 replace h37 := h37.mv htr42.rd
 replace hB27 := hB27.mv (htr42.mv (i := 100) rfl)
 replace h26 := h26.mv (htr42.mv (i := 101) rfl)
 replace hb := hb.trans htr42
 obtain ⟨y47, hy48, hS⟩ := bind_some' hS
 refine sr_call (vs := []) rfl Tryz.call16 rfl (law36_app_ok _ (hg.fr hz hb) (ρA := ρ28) hb.bd (hz.fr hg hb) hy48) (by decide) ?_
 rintro _ w49 ⟨v52, v54, rfl, h53, h55, hbw50⟩
 have htr51 := Tr.of_below hbw50 hb.bd
 replace h35 := h35.mv htr51.rd
 replace h37 := h37.mv htr51.rd
 replace h44 := h44.mv htr51.rd
 replace h46 := h46.mv htr51.rd
 replace hB27 := hB27.mv (htr51.mv (i := 100) rfl)
 replace h26 := h26.mv (htr51.mv (i := 101) rfl)
 replace hb := hb.trans htr51
 refine sr_allocT 5 (by decide) hb.bd Tryz.zeroValue27 (by decide) ?_
 intro g56 ρ57 w58 hB60 htr59
 replace h35 := h35.mv htr59.rd
 replace h37 := h37.mv htr59.rd
 replace h44 := h44.mv htr59.rd
 replace h46 := h46.mv htr59.rd
 replace h53 := h53.mv htr59.rd
 replace h55 := h55.mv htr59.rd
 replace hB27 := hB27.mv (htr59.mv (i := 100) rfl)
 replace h26 := h26.mv (htr59.mv (i := 101) rfl)
 replace hb := hb.trans htr59
 replace hB60 : Blk ρ57 5 w58 g56 (.cells #[str ([]), .int .i64 0, str ([]), str ([]), .int .i64 0, str ([]), (.slice none 0 0), (.slice none 0 0), str ([])] 27 (0, 0)) := hB60
 refine sr_allocT 6 (by decide) hb.bd Tryz.zeroValue27 (by decide) ?_
 intro g61 ρ62 w63 hB65 htr64
 replace h35 := h35.mv htr64.rd
 replace h37 := h37.mv htr64.rd
 replace h44 := h44.mv htr64.rd
 replace h46 := h46.mv htr64.rd
 replace h53 := h53.mv htr64.rd
 replace h55 := h55.mv htr64.rd
 replace hB60 := hB60.mv (htr64.mv (i := 5) rfl)
 replace hB27 := hB27.mv (htr64.mv (i := 100) rfl)
 replace h26 := h26.mv (htr64.mv (i := 101) rfl)
 replace hb := hb.trans htr64
 replace hB65 : Blk ρ62 6 w63 g61 (.cells #[str ([]), .int .i64 0, str ([]), str ([]), .int .i64 0, str ([]), (.slice none 0 0), (.slice none 0 0), str ([])] 27 (0, 0)) := hB65
 refine sr_allocT 7 (by decide) hb.bd Tryz.zeroValue27 (by decide) ?_
 intro g66 ρ67 w68 hB70 htr69
 replace h35 := h35.mv htr69.rd
 replace h37 := h37.mv htr69.rd
 replace h44 := h44.mv htr69.rd
 replace h46 := h46.mv htr69.rd
 replace h53 := h53.mv htr69.rd
 replace h55 := h55.mv htr69.rd
 replace hB65 := hB65.mv (htr69.mv (i := 6) rfl)
 replace hB60 := hB60.mv (htr69.mv (i := 5) rfl)
 replace hB27 := hB27.mv (htr69.mv (i := 100) rfl)
 replace h26 := h26.mv (htr69.mv (i := 101) rfl)
 replace hb := hb.trans htr69
 replace hB70 : Blk ρ67 7 w68 g66 (.cells #[str ([]), .int .i64 0, str ([]), str ([]), .int .i64 0, str ([]), (.slice none 0 0), (.slice none 0 0), str ([])] 27 (0, 0)) := hB70
 refine sr_storeT (v := .agg #[str y29.ID, .int .i64 y29.Kind, str y29.Tenant, str y29.Secret.Salt, .int .i64 y29.Secret.Rounds, str y29.Secret.Hash, v34, v36, str y29.Logout]) (vs := [str y29.ID, .int .i64 y29.Kind, str y29.Tenant, str y29.Secret.Salt, .int .i64 y29.Secret.Rounds, str y29.Secret.Hash, v34, v36, str y29.Logout]) (cs' := #[str y29.ID, .int .i64 y29.Kind, str y29.Tenant, str y29.Secret.Salt, .int .i64 y29.Secret.Rounds, str y29.Secret.Hash, v34, v36, str y29.Logout]) hB60 (by decide) hb.bd rfl rfl rfl Tryz.sizeOf27 rfl (by first | rfl | (simp only [List.all_cons, List.all_nil, SlR.oneCell h35, SlR.oneCell h37]; done) | (simp only [List.all_cons, List.all_nil, SlR.oneCell h35, SlR.oneCell h37]; rfl)) rfl ?_
 intro w71 hB601 htr72
 replace h44 := h44.mv htr72.rd
 replace h46 := h46.mv htr72.rd
 replace h53 := h53.mv htr72.rd
 replace h55 := h55.mv htr72.rd
 replace hB70 := hB70.mv (htr72.mv (i := 7) rfl)
 replace hB65 := hB65.mv (htr72.mv (i := 6) rfl)
 replace h35 := h35.mv htr72.rd
 replace h37 := h37.mv htr72.rd
 replace hB27 := hB27.mv (htr72.mv (i := 100) rfl)
 replace h26 := h26.mv (htr72.mv (i := 101) rfl)
 replace hb := hb.trans htr72
 replace hB60 : Blk ρ67 5 w71 g56 (.cells #[str y29.ID, .int .i64 y29.Kind, str y29.Tenant, str y29.Secret.Salt, .int .i64 y29.Secret.Rounds, str y29.Secret.Hash, v34, v36, str y29.Logout] 27 (0, 0)) := hB601
 clear hB601
 refine sr_storeT (v := .agg #[str y38.ID, .int .i64 y38.Kind, str y38.Tenant, str y38.Secret.Salt, .int .i64 y38.Secret.Rounds, str y38.Secret.Hash, v43, v45, str y38.Logout]) (vs := [str y38.ID, .int .i64 y38.Kind, str y38.Tenant, str y38.Secret.Salt, .int .i64 y38.Secret.Rounds, str y38.Secret.Hash, v43, v45, str y38.Logout]) (cs' := #[str y38.ID, .int .i64 y38.Kind, str y38.Tenant, str y38.Secret.Salt, .int .i64 y38.Secret.Rounds, str y38.Secret.Hash, v43, v45, str y38.Logout]) hB65 (by decide) hb.bd rfl rfl rfl Tryz.sizeOf27 rfl (by first | rfl | (simp only [List.all_cons, List.all_nil, SlR.oneCell h44, SlR.oneCell h46]; done) | (simp only [List.all_cons, List.all_nil, SlR.oneCell h44, SlR.oneCell h46]; rfl)) rfl ?_
 intro w73 hB651 htr74
 replace h53 := h53.mv htr74.rd
 replace h55 := h55.mv htr74.rd
 replace hB70 := hB70.mv (htr74.mv (i := 7) rfl)
 replace h44 := h44.mv htr74.rd
 replace h46 := h46.mv htr74.rd
 replace hB60 := hB60.mv (htr74.mv (i := 5) rfl)
 replace h35 := h35.mv htr74.rd
 replace h37 := h37.mv htr74.rd
 replace hB27 := hB27.mv (htr74.mv (i := 100) rfl)
 replace h26 := h26.mv (htr74.mv (i := 101) rfl)
 replace hb := hb.trans htr74
 replace hB65 : Blk ρ67 6 w73 g61 (.cells #[str y38.ID, .int .i64 y38.Kind, str y38.Tenant, str y38.Secret.Salt, .int .i64 y38.Secret.Rounds, str y38.Secret.Hash, v43, v45, str y38.Logout] 27 (0, 0)) := hB651
 clear hB651
 refine sr_storeT (v := .agg #[str y47.ID, .int .i64 y47.Kind, str y47.Tenant, str y47.Secret.Salt, .int .i64 y47.Secret.Rounds, str y47.Secret.Hash, v52, v54, str y47.Logout]) (vs := [str y47.ID, .int .i64 y47.Kind, str y47.Tenant, str y47.Secret.Salt, .int .i64 y47.Secret.Rounds, str y47.Secret.Hash, v52, v54, str y47.Logout]) (cs' := #[str y47.ID, .int .i64 y47.Kind, str y47.Tenant, str y47.Secret.Salt, .int .i64 y47.Secret.Rounds, str y47.Secret.Hash, v52, v54, str y47.Logout]) hB70 (by decide) hb.bd rfl rfl rfl Tryz.sizeOf27 rfl (by first | rfl | (simp only [List.all_cons, List.all_nil, SlR.oneCell h53, SlR.oneCell h55]; done) | (simp only [List.all_cons, List.all_nil, SlR.oneCell h53, SlR.oneCell h55]; rfl)) rfl ?_
 intro w75 hB701 htr76
 replace h53 := h53.mv htr76.rd
 replace h55 := h55.mv htr76.rd
 replace hB65 := hB65.mv (htr76.mv (i := 6) rfl)
 replace h44 := h44.mv htr76.rd
 replace h46 := h46.mv htr76.rd
 replace hB60 := hB60.mv (htr76.mv (i := 5) rfl)
 replace h35 := h35.mv htr76.rd
 replace h37 := h37.mv htr76.rd
 replace hB27 := hB27.mv (htr76.mv (i := 100) rfl)
 replace h26 := h26.mv (htr76.mv (i := 101) rfl)
 replace hb := hb.trans htr76
 replace hB70 : Blk ρ67 7 w75 g66 (.cells #[str y47.ID, .int .i64 y47.Kind, str y47.Tenant, str y47.Secret.Salt, .int .i64 y47.Secret.Rounds, str y47.Secret.Hash, v52, v54, str y47.Logout] 27 (0, 0)) := hB701
 clear hB701
 refine sr_end (l' := [(1, .pointer (some ⟨g6, 0, none⟩)), (2, .int .i64 y20.1), (3, .pointer (some ⟨g56, 0, none⟩)), (4, .pointer (some ⟨g61, 0, none⟩)), (5, .pointer (some ⟨g66, 0, none⟩))]) (.cons rfl (.cons rfl (.cons rfl (.cons rfl (.cons rfl (.nil _)))))) ?_
 refine ke_seq ?_
 refine ke_region ?_
 refine sr_ev (v := .pointer (some ⟨g56, 1, none⟩)) (ev_fieldAddr (i := 1) Tryz.underlying27 rfl Tryz.info22 rfl rfl) (by decide) ?_
 refine sr_storeT (v := .int .i64 2) (vs := [.int .i64 2]) (cs' := #[str y29.ID, .int .i64 2, str y29.Tenant, str y29.Secret.Salt, .int .i64 y29.Secret.Rounds, str y29.Secret.Hash, v34, v36, str y29.Logout]) hB60 (by decide) hb.bd rfl rfl rfl Tryz.sizeOf22 rfl rfl rfl ?_
 intro w77 hB601 htr78
 replace hB70 := hB70.mv (htr78.mv (i := 7) rfl)
 replace h53 := h53.mv htr78.rd
 replace h55 := h55.mv htr78.rd
 replace hB65 := hB65.mv (htr78.mv (i := 6) rfl)
 replace h44 := h44.mv htr78.rd
 replace h46 := h46.mv htr78.rd
 replace h35 := h35.mv htr78.rd
 replace h37 := h37.mv htr78.rd
 replace hB27 := hB27.mv (htr78.mv (i := 100) rfl)
 replace h26 := h26.mv (htr78.mv (i := 101) rfl)
 replace hb := hb.trans htr78
 replace hB60 : Blk ρ67 5 w77 g56 (.cells #[str y29.ID, .int .i64 2, str y29.Tenant, str y29.Secret.Salt, .int .i64 y29.Secret.Rounds, str y29.Secret.Hash, v34, v36, str y29.Logout] 27 (0, 0)) := hB601
 clear hB601
 refine sr_end (l' := [(1, .pointer (some ⟨g6, 0, none⟩)), (2, .int .i64 y20.1), (3, .pointer (some ⟨g56, 0, none⟩)), (4, .pointer (some ⟨g61, 0, none⟩)), (5, .pointer (some ⟨g66, 0, none⟩))]) (.cons rfl (.cons rfl (.cons rfl (.cons rfl (.cons rfl (.nil _)))))) ?_
 refine ke_seq ?_
 refine ke_region ?_
 refine sr_litT (c := strC) (ρ := ρ67) (E := 9) (xs := [[104, 116, 116, 112, 58, 47, 47, 97, 112, 112]]) (vs := #[(0, str ([104, 116, 116, 112, 58, 47, 47, 97, 112, 112]))]) (cs := #[str ([104, 116, 116, 112, 58, 47, 47, 97, 112, 112])]) (css := [[str ([104, 116, 116, 112, 58, 47, 47, 97, 112, 112])]]) rfl (fun _ => by kernel_rfl) rfl ⟨rfl, trivial⟩ rfl (by decide) hb.bd (by decide) ?_
 intro v79 w81 h80 hbw83
 have htr82 := Tr.of_below hbw83 hb.bd
 replace hB70 := hB70.mv (htr82.mv (i := 7) rfl)
 replace h53 := h53.mv htr82.rd
 replace h55 := h55.mv htr82.rd
 replace hB65 := hB65.mv (htr82.mv (i := 6) rfl)
 replace h44 := h44.mv htr82.rd
 replace h46 := h46.mv htr82.rd
 replace hB60 := hB60.mv (htr82.mv (i := 5) rfl)
 replace h35 := h35.mv htr82.rd
 replace h37 := h37.mv htr82.rd
 replace hB27 := hB27.mv (htr82.mv (i := 100) rfl)
 replace h26 := h26.mv (htr82.mv (i := 101) rfl)
 replace hb := hb.trans htr82
 refine sr_ev (v := .pointer (some ⟨g61, 6, none⟩)) (ev_fieldAddr (i := 4) Tryz.underlying27 rfl Tryz.info25 rfl rfl) (by decide) ?_
 refine sr_storeT (v := v79) (vs := [v79]) (cs' := #[str y38.ID, .int .i64 y38.Kind, str y38.Tenant, str y38.Secret.Salt, .int .i64 y38.Secret.Rounds, str y38.Secret.Hash, v79, v45, str y38.Logout]) hB65 (by decide) hb.bd rfl rfl (one_cells (SlR.oneCell h80)) Tryz.sizeOf25 rfl (by first | rfl | (simp only [List.all_cons, List.all_nil, SlR.oneCell h80]; done) | (simp only [List.all_cons, List.all_nil, SlR.oneCell h80]; rfl)) rfl ?_
 intro w84 hB651 htr85
 replace hB70 := hB70.mv (htr85.mv (i := 7) rfl)
 replace h53 := h53.mv htr85.rd
 replace h55 := h55.mv htr85.rd
 replace h80 := h80.mv htr85.rd
 replace h46 := h46.mv htr85.rd
 replace hB60 := hB60.mv (htr85.mv (i := 5) rfl)
 replace h35 := h35.mv htr85.rd
 replace h37 := h37.mv htr85.rd
 replace hB27 := hB27.mv (htr85.mv (i := 100) rfl)
 replace h26 := h26.mv (htr85.mv (i := 101) rfl)
 replace hb := hb.trans htr85
 replace hB65 : Blk ρ67 6 w84 g61 (.cells #[str y38.ID, .int .i64 y38.Kind, str y38.Tenant, str y38.Secret.Salt, .int .i64 y38.Secret.Rounds, str y38.Secret.Hash, v79, v45, str y38.Logout] 27 (0, 0)) := hB651
 clear hB651
 refine sr_end (l' := [(1, .pointer (some ⟨g6, 0, none⟩)), (2, .int .i64 y20.1), (3, .pointer (some ⟨g56, 0, none⟩)), (4, .pointer (some ⟨g61, 0, none⟩)), (5, .pointer (some ⟨g66, 0, none⟩))]) (.cons rfl (.cons rfl (.cons rfl (.cons rfl (.cons rfl (.nil _)))))) ?_
 refine ke_seq ?_
 refine ke_region ?_
 refine sr_ev (v := .pointer (some ⟨g66, 6, none⟩)) (ev_fieldAddr (i := 4) Tryz.underlying27 rfl Tryz.info25 rfl rfl) (by decide) ?_
 refine sr_storeT (v := (.slice none 0 0)) (vs := [(.slice none 0 0)]) (cs' := #[str y47.ID, .int .i64 y47.Kind, str y47.Tenant, str y47.Secret.Salt, .int .i64 y47.Secret.Rounds, str y47.Secret.Hash, (.slice none 0 0), v54, str y47.Logout]) hB70 (by decide) hb.bd rfl rfl rfl Tryz.sizeOf25 rfl rfl rfl ?_
 intro w86 hB701 htr87
 replace h55 := h55.mv htr87.rd
 replace hB65 := hB65.mv (htr87.mv (i := 6) rfl)
 replace h80 := h80.mv htr87.rd
 replace h46 := h46.mv htr87.rd
 replace hB60 := hB60.mv (htr87.mv (i := 5) rfl)
 replace h35 := h35.mv htr87.rd
 replace h37 := h37.mv htr87.rd
 replace hB27 := hB27.mv (htr87.mv (i := 100) rfl)
 replace h26 := h26.mv (htr87.mv (i := 101) rfl)
 replace hb := hb.trans htr87
 replace hB70 : Blk ρ67 7 w86 g66 (.cells #[str y47.ID, .int .i64 y47.Kind, str y47.Tenant, str y47.Secret.Salt, .int .i64 y47.Secret.Rounds, str y47.Secret.Hash, (.slice none 0 0), v54, str y47.Logout] 27 (0, 0)) := hB701
 clear hB701
 refine sr_end (l' := [(1, .pointer (some ⟨g6, 0, none⟩)), (2, .int .i64 y20.1), (3, .pointer (some ⟨g56, 0, none⟩)), (4, .pointer (some ⟨g61, 0, none⟩)), (5, .pointer (some ⟨g66, 0, none⟩))]) (.cons rfl (.cons rfl (.cons rfl (.cons rfl (.cons rfl (.nil _)))))) ?_
 refine ke_seq ?_
 refine ke_region ?_
 refine sr_ev (v := .int .i64 y20.1) (ev_move rfl) (by decide) ?_
 refine sr_ev (v := .bool (y20.1 == 0)) (ev_eq rfl rfl) (by decide) ?_
 refine sr_ev (v := .bool (y20.1 == 0)) (ev_move rfl) (by decide) ?_
 obtain ⟨z90, hz92, hS⟩ := bind_some' hS
 refine sr_join (m := 4) (C := fun (z : Bool) w1 => z90 = z ∧ ∃ ρ1, Tr ρ67 w86 (fun _ => false) ρ1 w1) (l' := fun z => [(1, .pointer (some ⟨g6, 0, none⟩)), (3, .pointer (some ⟨g56, 0, none⟩)), (4, .pointer (some ⟨g61, 0, none⟩)), (5, .pointer (some ⟨g66, 0, none⟩)), (25, .bool z)]) ?_ ?_
 ·rintro _ w93 ⟨rfl, ρ94, hj91⟩
  replace hB70 := hB70.mv (hj91.mv (i := 7) rfl)
  replace h55 := h55.mv hj91.rd
  replace hB65 := hB65.mv (hj91.mv (i := 6) rfl)
  replace h80 := h80.mv hj91.rd
  replace h46 := h46.mv hj91.rd
  replace hB60 := hB60.mv (hj91.mv (i := 5) rfl)
  replace h35 := h35.mv hj91.rd
  replace h37 := h37.mv hj91.rd
  replace hB27 := hB27.mv (hj91.mv (i := 100) rfl)
  replace h26 := h26.mv (hj91.mv (i := 101) rfl)
  replace hb := hb.trans hj91
  refine sr_ev (v := .bool z90) (ev_move rfl) (by decide) ?_
  obtain ⟨z103, hz105, hS⟩ := bind_some' hS
  refine sr_join (m := 4) (C := fun (z : Bool) w1 => z103 = z ∧ ∃ ρ1, Tr ρ94 w93 (fun _ => false) ρ1 w1) (l' := fun z => [(1, .pointer (some ⟨g6, 0, none⟩)), (3, .pointer (some ⟨g56, 0, none⟩)), (4, .pointer (some ⟨g61, 0, none⟩)), (5, .pointer (some ⟨g66, 0, none⟩)), (30, .bool z)]) ?_ ?_
  ·rintro _ w106 ⟨rfl, ρ107, hj104⟩
   replace hB70 := hB70.mv (hj104.mv (i := 7) rfl)
   replace h55 := h55.mv hj104.rd
   replace hB65 := hB65.mv (hj104.mv (i := 6) rfl)
   replace h80 := h80.mv hj104.rd
   replace h46 := h46.mv hj104.rd
   replace hB60 := hB60.mv (hj104.mv (i := 5) rfl)
   replace h35 := h35.mv hj104.rd
   replace h37 := h37.mv hj104.rd
   replace hB27 := hB27.mv (hj104.mv (i := 100) rfl)
   replace h26 := h26.mv (hj104.mv (i := 101) rfl)
   replace hb := hb.trans hj104
   refine sr_ev (v := .bool z103) (ev_move rfl) (by decide) ?_
   obtain ⟨z116, hz118, hS⟩ := bind_some' hS
   refine sr_join (m := 4) (C := fun (z : Bool) w1 => z116 = z ∧ ∃ ρ1, Tr ρ107 w106 (fun _ => false) ρ1 w1) (l' := fun z => [(1, .pointer (some ⟨g6, 0, none⟩)), (3, .pointer (some ⟨g56, 0, none⟩)), (4, .pointer (some ⟨g61, 0, none⟩)), (5, .pointer (some ⟨g66, 0, none⟩)), (35, .bool z)]) ?_ ?_
   ·rintro _ w119 ⟨rfl, ρ120, hj117⟩
    replace hB70 := hB70.mv (hj117.mv (i := 7) rfl)
    replace h55 := h55.mv hj117.rd
    replace hB65 := hB65.mv (hj117.mv (i := 6) rfl)
    replace h80 := h80.mv hj117.rd
    replace h46 := h46.mv hj117.rd
    replace hB60 := hB60.mv (hj117.mv (i := 5) rfl)
    replace h35 := h35.mv hj117.rd
    replace h37 := h37.mv hj117.rd
    replace hB27 := hB27.mv (hj117.mv (i := 100) rfl)
    replace h26 := h26.mv (hj117.mv (i := 101) rfl)
    replace hb := hb.trans hj117
    refine sr_ev (v := .bool z116) (ev_move rfl) (by decide) ?_
    obtain ⟨z129, hz131, hS⟩ := bind_some' hS
    refine sr_join (m := 4) (C := fun (z : Bool) w1 => z129 = z ∧ ∃ ρ1, Tr ρ120 w119 (fun _ => false) ρ1 w1) (l' := fun z => [(1, .pointer (some ⟨g6, 0, none⟩)), (3, .pointer (some ⟨g56, 0, none⟩)), (4, .pointer (some ⟨g61, 0, none⟩)), (5, .pointer (some ⟨g66, 0, none⟩)), (40, .bool z)]) ?_ ?_
    ·rintro _ w132 ⟨rfl, ρ133, hj130⟩
     replace hB70 := hB70.mv (hj130.mv (i := 7) rfl)
     replace h55 := h55.mv hj130.rd
     replace hB65 := hB65.mv (hj130.mv (i := 6) rfl)
     replace h80 := h80.mv hj130.rd
     replace h46 := h46.mv hj130.rd
     replace hB60 := hB60.mv (hj130.mv (i := 5) rfl)
     replace h35 := h35.mv hj130.rd
     replace h37 := h37.mv hj130.rd
     replace hB27 := hB27.mv (hj130.mv (i := 100) rfl)
     replace h26 := h26.mv (hj130.mv (i := 101) rfl)
     replace hb := hb.trans hj130
     refine sr_ev (v := .bool z129) (ev_move rfl) (by decide) ?_
     obtain ⟨z142, hz144, hS⟩ := bind_some' hS
     refine sr_join (m := 5) (C := fun (z : Bool) w1 => z142 = z ∧ ∃ ρ1, Tr ρ133 w132 (fun _ => false) ρ1 w1) (l' := fun z => [(1, .pointer (some ⟨g6, 0, none⟩)), (3, .pointer (some ⟨g56, 0, none⟩)), (4, .pointer (some ⟨g61, 0, none⟩)), (5, .pointer (some ⟨g66, 0, none⟩)), (46, .bool z)]) ?_ ?_
     ·rintro _ w145 ⟨rfl, ρ146, hj143⟩
      replace hB70 := hB70.mv (hj143.mv (i := 7) rfl)
      replace h55 := h55.mv hj143.rd
      replace hB65 := hB65.mv (hj143.mv (i := 6) rfl)
      replace h80 := h80.mv hj143.rd
      replace h46 := h46.mv hj143.rd
      replace hB60 := hB60.mv (hj143.mv (i := 5) rfl)
      replace h35 := h35.mv hj143.rd
      replace h37 := h37.mv hj143.rd
      replace hB27 := hB27.mv (hj143.mv (i := 100) rfl)
      replace h26 := h26.mv (hj143.mv (i := 101) rfl)
      replace hb := hb.trans hj143
      refine sr_ev (v := .bool z142) (ev_move rfl) (by decide) ?_
      obtain ⟨z160, hz162, hS⟩ := bind_some' hS
      refine sr_join (m := 5) (C := fun (z : Bool) w1 => z160 = z ∧ ∃ ρ1, Tr ρ146 w145 (fun _ => false) ρ1 w1) (l' := fun z => [(1, .pointer (some ⟨g6, 0, none⟩)), (3, .pointer (some ⟨g56, 0, none⟩)), (4, .pointer (some ⟨g61, 0, none⟩)), (5, .pointer (some ⟨g66, 0, none⟩)), (52, .bool z)]) ?_ ?_
      ·rintro _ w163 ⟨rfl, ρ164, hj161⟩
       replace hB70 := hB70.mv (hj161.mv (i := 7) rfl)
       replace h55 := h55.mv hj161.rd
       replace hB65 := hB65.mv (hj161.mv (i := 6) rfl)
       replace h80 := h80.mv hj161.rd
       replace h46 := h46.mv hj161.rd
       replace hB60 := hB60.mv (hj161.mv (i := 5) rfl)
       replace h35 := h35.mv hj161.rd
       replace h37 := h37.mv hj161.rd
       replace hB27 := hB27.mv (hj161.mv (i := 100) rfl)
       replace h26 := h26.mv (hj161.mv (i := 101) rfl)
       replace hb := hb.trans hj161
       refine sr_ev (v := .bool z160) (ev_move rfl) (by decide) ?_
       obtain ⟨z178, hz180, hS⟩ := bind_some' hS
       refine sr_join (m := 4) (C := fun (z : Bool) w1 => z178 = z ∧ ∃ ρ1, Tr ρ164 w163 (fun _ => false) ρ1 w1) (l' := fun z => [(1, .pointer (some ⟨g6, 0, none⟩)), (3, .pointer (some ⟨g56, 0, none⟩)), (4, .pointer (some ⟨g61, 0, none⟩)), (5, .pointer (some ⟨g66, 0, none⟩)), (57, .bool z)]) ?_ ?_
       ·rintro _ w181 ⟨rfl, ρ182, hj179⟩
        replace hB70 := hB70.mv (hj179.mv (i := 7) rfl)
        replace h55 := h55.mv hj179.rd
        replace hB65 := hB65.mv (hj179.mv (i := 6) rfl)
        replace h80 := h80.mv hj179.rd
        replace h46 := h46.mv hj179.rd
        replace hB60 := hB60.mv (hj179.mv (i := 5) rfl)
        replace h35 := h35.mv hj179.rd
        replace h37 := h37.mv hj179.rd
        replace hB27 := hB27.mv (hj179.mv (i := 100) rfl)
        replace h26 := h26.mv (hj179.mv (i := 101) rfl)
        replace hb := hb.trans hj179
        refine sr_ev (v := .bool z178) (ev_move rfl) (by decide) ?_
        obtain ⟨z191, hz193, hS⟩ := bind_some' hS
        refine sr_join (m := 4) (C := fun (z : Bool) w1 => z191 = z ∧ ∃ ρ1, Tr ρ182 w181 (fun _ => false) ρ1 w1) (l' := fun z => [(1, .pointer (some ⟨g6, 0, none⟩)), (4, .pointer (some ⟨g61, 0, none⟩)), (5, .pointer (some ⟨g66, 0, none⟩)), (62, .bool z)]) ?_ ?_
        ·rintro _ w194 ⟨rfl, ρ195, hj192⟩
         replace hB70 := hB70.mv (hj192.mv (i := 7) rfl)
         replace h55 := h55.mv hj192.rd
         replace hB65 := hB65.mv (hj192.mv (i := 6) rfl)
         replace h80 := h80.mv hj192.rd
         replace h46 := h46.mv hj192.rd
         replace hB27 := hB27.mv (hj192.mv (i := 100) rfl)
         replace h26 := h26.mv (hj192.mv (i := 101) rfl)
         replace hb := hb.trans hj192
         refine sr_ev (v := .bool z191) (ev_move rfl) (by decide) ?_
         obtain ⟨z204, hz206, hS⟩ := bind_some' hS
         refine sr_join (m := 4) (C := fun (z : Bool) w1 => z204 = z ∧ ∃ ρ1, Tr ρ195 w194 (fun _ => false) ρ1 w1) (l' := fun z => [(1, .pointer (some ⟨g6, 0, none⟩)), (5, .pointer (some ⟨g66, 0, none⟩)), (67, .bool z)]) ?_ ?_
         ·rintro _ w207 ⟨rfl, ρ208, hj205⟩
          replace hB70 := hB70.mv (hj205.mv (i := 7) rfl)
          replace h55 := h55.mv hj205.rd
          replace hB27 := hB27.mv (hj205.mv (i := 100) rfl)
          replace h26 := h26.mv (hj205.mv (i := 101) rfl)
          replace hb := hb.trans hj205
          refine sr_ev (v := .bool z204) (ev_move rfl) (by decide) ?_
          obtain ⟨z217, hz219, hS⟩ := bind_some' hS
          refine sr_join (m := 4) (C := fun (z : Bool) w1 => z217 = z ∧ ∃ ρ1, Tr ρ208 w207 (fun _ => false) ρ1 w1) (l' := fun z => [(1, .pointer (some ⟨g6, 0, none⟩)), (72, .bool z)]) ?_ ?_
          ·rintro _ w220 ⟨rfl, ρ221, hj218⟩
           replace hB27 := hB27.mv (hj218.mv (i := 100) rfl)
           replace h26 := h26.mv (hj218.mv (i := 101) rfl)
           replace hb := hb.trans hj218
           refine sr_ev (v := .bool z217) (ev_move rfl) (by decide) ?_
           obtain ⟨z230, hz232, hS⟩ := bind_some' hS
           refine sr_join (m := 5) (C := fun (z : Bool) w1 => z230 = z ∧ ∃ ρ1, Tr ρ221 w220 (fun _ => false) ρ1 w1) (l' := fun z => [(1, .pointer (some ⟨g6, 0, none⟩)), (78, .bool z)]) ?_ ?_
           ·rintro _ w233 ⟨rfl, ρ234, hj231⟩
            replace hB27 := hB27.mv (hj231.mv (i := 100) rfl)
            replace h26 := h26.mv (hj231.mv (i := 101) rfl)
            replace hb := hb.trans hj231
            refine sr_ev (v := .bool z230) (ev_move rfl) (by decide) ?_
            obtain ⟨z255, hz257, hS⟩ := bind_some' hS
            refine sr_join (m := 3) (C := fun (z : Bool × client_Clients) w1 => z255 = z ∧ ∃ ρ1, client_Clients.O (fun p => 100 + p) ρ1 w1 g6 z.2 ∧ Tr ρ234 w233 (fun t => ([100, 101] : List Nat).contains t) ρ1 w1) (l' := fun z => [(1, .pointer (some ⟨g6, 0, none⟩)), (82, .bool z.1)]) ?_ ?_
            ·rintro _ w258 ⟨rfl, ρ259, ⟨v270, hB272, h271⟩, hj256⟩
             replace hb := hb.trans hj256
             replace hB272 : Blk ρ259 100 w258 g6 (.cells #[v270] 57 (0, 0)) := hB272
             replace h271 : MapT str api_Client.c true ρ259 101 w258 v270 z255.2.of_ := h271
             refine sr_ev (v := .bool z255.1) (ev_move rfl) (by decide) ?_
             obtain ⟨z275, hz277, hS⟩ := bind_some' hS
             refine sr_join (m := 4) (C := fun (z : Bool × client_Clients) w1 => z275 = z ∧ ∃ ρ1, client_Clients.O (fun p => 100 + p) ρ1 w1 g6 z.2 ∧ Tr ρ259 w258 (fun t => ([100, 101] : List Nat).contains t) ρ1 w1) (l' := fun z => [(87, .bool z.1)]) ?_ ?_
             ·rintro _ w278 ⟨rfl, ρ279, ⟨v290, hB292, h291⟩, hj276⟩
              replace hb := hb.trans hj276
              replace hB292 : Blk ρ279 100 w278 g6 (.cells #[v290] 57 (0, 0)) := hB292
              replace h291 : MapT str api_Client.c true ρ279 101 w278 v290 z275.2.of_ := h291
              refine sr_ev (v := .bool z275.1) (ev_assign rfl) (by decide) ?_
              refine sr_end (l' := [(0, .bool z275.1)]) (.cons rfl (.nil _)) ?_
              cases hS
              exact ke_ret1 Tryz.func11 rfl rfl ⟨_, rfl, rfl, (hb.below (flat1_le _))⟩
             ·intro K274
              clear hS
              have hj276 : Tr ρ259 w258 (fun t => ([100, 101] : List Nat).contains t) ρ259 w258 := (Tr.refl hb.bd).weak (fun _ _ => rfl) rfl rfl
              rcases Bool.eq_false_or_eq_true z255.1 with hg273 | hg273
              ·have hS := ite_true' hz277 hg273
               refine sr_evg (b := true) (e := 83) rfl rfl hg273 (v := .pointer (some ⟨g6, 0, none⟩)) (ev_move rfl) (by decide) ?_
               obtain ⟨y281, hy282, hS⟩ := bind_some' hS
               refine sr_callg (b := true) (e := 83) rfl rfl hg273 (vs := [.pointer (some ⟨g6, 0, none⟩), str ([97, 112, 112])]) rfl Tryz.call32 rfl (client_Clients_Remove_ok _ (hg.fr hz hb) (ρA := ρ259) hb.bd (hz.fr hg hb) (o := 100) (by decide) (⟨_, hB272, h271⟩ : client_Clients.O (fun p => 100 + p) ρ259 w258 g6 z255.2) hy282) (by decide) ?_
               rintro _ w283 ⟨ρ289, rfl, ⟨v286, hB288, h287⟩, htr285⟩
               replace hb := hb.trans htr285
               replace hj276 := (hj276.trans htr285).weak (J' := (fun t => ([100, 101] : List Nat).contains t)) (by intro t h; simp [rng] at h ⊢ <;> omega) rfl rfl
               replace hB288 : Blk ρ289 100 w283 g6 (.cells #[v286] 57 (0, 0)) := hB288
               replace h287 : MapT str api_Client.c true ρ289 101 w283 v286 y281.2.of_ := h287
               refine sr_evg (b := true) (e := 83) rfl rfl hg273 (v := .bool (!y281.1)) (ev_not rfl) (by decide) ?_
               refine sr_ev (v := .bool (!y281.1)) (ev_pick_t rfl hg273 rfl) (by decide) ?_
               exact sr_weaken (l' := [(87, .bool (!y281.1))]) (.cons rfl (.nil _)) (K274 (!y281.1, y281.2) _ ⟨(Option.some.inj hS).symm, _, ⟨_, hB288, h287⟩, hj276⟩)
              ·have hS := ite_false' hz277 hg273
               refine sr_pass (e := 83) rfl rfl (by rw [hg273]; rfl) (by decide) ?_
               refine sr_pass (e := 83) rfl rfl (by rw [hg273]; rfl) (by decide) ?_
               refine sr_pass (e := 83) rfl rfl (by rw [hg273]; rfl) (by decide) ?_
               refine sr_ev (v := .bool false) (ev_pick_f rfl hg273 rfl) (by decide) ?_
               exact sr_weaken (l' := [(87, .bool false)]) (.cons rfl (.nil _)) (K274 (false, z255.2) _ ⟨(Option.some.inj hS).symm, _, ⟨_, hB272, h271⟩, hj276⟩)
            ·intro K254
             clear hS
             have hj256 : Tr ρ234 w233 (fun t => ([100, 101] : List Nat).contains t) ρ234 w233 := (Tr.refl hb.bd).weak (fun _ _ => rfl) rfl rfl
             rcases Bool.eq_false_or_eq_true z230 with hg253 | hg253
             ·have hS := ite_true' hz257 hg253
              refine sr_evg (b := true) (e := 79) rfl rfl hg253 (v := .pointer (some ⟨g6, 0, none⟩)) (ev_move rfl) (by decide) ?_
              obtain ⟨y261, hy262, hS⟩ := bind_some' hS
              refine sr_callg (b := true) (e := 79) rfl rfl hg253 (vs := [.pointer (some ⟨g6, 0, none⟩), str ([97, 112, 112])]) rfl Tryz.call32 rfl (client_Clients_Remove_ok _ (hg.fr hz hb) (ρA := ρ234) hb.bd (hz.fr hg hb) (o := 100) (by decide) (⟨_, hB27, h26⟩ : client_Clients.O (fun p => 100 + p) ρ234 w233 g6 y20.2) hy262) (by decide) ?_
              rintro _ w263 ⟨ρ269, rfl, ⟨v266, hB268, h267⟩, htr265⟩
              replace hb := hb.trans htr265
              replace hj256 := (hj256.trans htr265).weak (J' := (fun t => ([100, 101] : List Nat).contains t)) (by intro t h; simp [rng] at h ⊢ <;> omega) rfl rfl
              replace hB268 : Blk ρ269 100 w263 g6 (.cells #[v266] 57 (0, 0)) := hB268
              replace h267 : MapT str api_Client.c true ρ269 101 w263 v266 y261.2.of_ := h267
              refine sr_ev (v := .bool y261.1) (ev_pick_t rfl hg253 rfl) (by decide) ?_
              exact sr_weaken (l' := [(1, .pointer (some ⟨g6, 0, none⟩)), (82, .bool y261.1)]) (.cons rfl (.cons rfl (.nil _))) (K254 (y261.1, y261.2) _ ⟨(Option.some.inj hS).symm, _, ⟨_, hB268, h267⟩, hj256⟩)
             ·have hS := ite_false' hz257 hg253
              refine sr_pass (e := 79) rfl rfl (by rw [hg253]; rfl) (by decide) ?_
              refine sr_pass (e := 79) rfl rfl (by rw [hg253]; rfl) (by decide) ?_
              refine sr_ev (v := .bool false) (ev_pick_f rfl hg253 rfl) (by decide) ?_
              exact sr_weaken (l' := [(1, .pointer (some ⟨g6, 0, none⟩)), (82, .bool false)]) (.cons rfl (.cons rfl (.nil _))) (K254 (false, y20.2) _ ⟨(Option.some.inj hS).symm, _, ⟨_, hB27, h26⟩, hj256⟩)
           ·intro K229
            clear hS
            have hj231 : Tr ρ221 w220 (fun _ => false) ρ221 w220 := (Tr.refl hb.bd).weak (fun _ _ => rfl) rfl rfl
            rcases Bool.eq_false_or_eq_true z217 with hg228 | hg228
            ·have hS := ite_true' hz232 hg228
             refine sr_evg (b := true) (e := 73) rfl rfl hg228 (v := .pointer (some ⟨g6, 0, none⟩)) (ev_move rfl) (by decide) ?_
             obtain ⟨y236, hy237, hS⟩ := bind_some' hS
             refine sr_callg (b := true) (e := 73) rfl rfl hg228 (vs := [.pointer (some ⟨g6, 0, none⟩)]) rfl Tryz.call35 rfl (client_Clients_List_ok _ (hg.fr hz hb) (ρA := ρ221) hb.bd (hz.fr hg hb) (τ0 := (fun p => 100 + p)) (fun p => Nat.le_add_right_of_le (by decide)) (⟨_, hB27, h26⟩ : client_Clients.O (fun p => 100 + p) ρ221 w220 g6 y20.2) hy237) (by decide) ?_
             rintro v241 w238 ⟨_, rfl, h242, hbw239⟩
             have htr240 := Tr.of_below hbw239 hb.bd
             replace hB27 := hB27.mv (htr240.mv (i := 100) rfl)
             replace h26 := h26.mv (htr240.mv (i := 101) rfl)
             replace hb := hb.trans htr240
             replace hj231 := (hj231.trans htr240).weak (J' := (fun _ => false)) (by intro t h; simp [rng] at h ⊢ <;> omega) rfl rfl
             refine sr_unguard rfl rfl hg228 ?_
             refine sr_litT (c := strC) (ρ := ρ221) (E := 9) (xs := [[97, 112, 112]]) (vs := #[(0, str ([97, 112, 112]))]) (cs := #[str ([97, 112, 112])]) (css := [[str ([97, 112, 112])]]) rfl (fun _ => by kernel_rfl) rfl ⟨rfl, trivial⟩ rfl (by decide) hb.bd (by decide) ?_
             intro v243 w245 h244 hbw247
             have htr246 := Tr.of_below hbw247 hb.bd
             replace h242 := h242.mv htr246.rd
             replace hB27 := hB27.mv (htr246.mv (i := 100) rfl)
             replace h26 := h26.mv (htr246.mv (i := 101) rfl)
             replace hb := hb.trans htr246
             replace hj231 := (hj231.trans htr246).weak (J' := (fun _ => false)) (by intro t h; simp [rng] at h ⊢ <;> omega) rfl rfl
             obtain ⟨y248, hy249, hS⟩ := bind_some' hS
             refine sr_callg (b := true) (e := 73) rfl rfl hg228 (vs := [v241, v243]) rfl Tryz.call34 rfl (ref07_Lists_ok _ (hg.fr hz hb) h242.asSl h244.asSl hy249) (by decide) ?_
             rintro _ w250 ⟨rfl, hbw251⟩
             have htr252 := Tr.of_below hbw251 hb.bd
             replace hB27 := hB27.mv (htr252.mv (i := 100) rfl)
             replace h26 := h26.mv (htr252.mv (i := 101) rfl)
             replace hb := hb.trans htr252
             replace hj231 := (hj231.trans htr252).weak (J' := (fun _ => false)) (by intro t h; simp [rng] at h ⊢ <;> omega) rfl rfl
             refine sr_ev (v := .bool y248) (ev_pick_t rfl hg228 rfl) (by decide) ?_
             exact sr_weaken (l' := [(1, .pointer (some ⟨g6, 0, none⟩)), (78, .bool y248)]) (.cons rfl (.cons rfl (.nil _))) (K229 y248 _ ⟨(Option.some.inj hS).symm, _, hj231⟩)
            ·have hS := ite_false' hz232 hg228
             refine sr_pass (e := 73) rfl rfl (by rw [hg228]; rfl) (by decide) ?_
             refine sr_pass (e := 73) rfl rfl (by rw [hg228]; rfl) (by decide) ?_
             refine sr_pass (e := 73) rfl rfl (by rw [hg228]; rfl) (by decide) ?_
             refine sr_pass (e := 73) rfl rfl (by rw [hg228]; rfl) (by decide) ?_
             refine sr_ev (v := .bool false) (ev_pick_f rfl hg228 rfl) (by decide) ?_
             exact sr_weaken (l' := [(1, .pointer (some ⟨g6, 0, none⟩)), (78, .bool false)]) (.cons rfl (.cons rfl (.nil _))) (K229 false _ ⟨(Option.some.inj hS).symm, _, hj231⟩)
          ·intro K216
           clear hS
           have hj218 : Tr ρ208 w207 (fun _ => false) ρ208 w207 := (Tr.refl hb.bd).weak (fun _ _ => rfl) rfl rfl
           rcases Bool.eq_false_or_eq_true z204 with hg215 | hg215
           ·have hS := ite_true' hz219 hg215
            refine sr_evg (b := true) (e := 68) rfl rfl hg215 (v := .agg #[str y47.ID, .int .i64 y47.Kind, str y47.Tenant, str y47.Secret.Salt, .int .i64 y47.Secret.Rounds, str y47.Secret.Hash, (.slice none 0 0), v54, str y47.Logout]) (ev_loads (cs := [str y47.ID, .int .i64 y47.Kind, str y47.Tenant, str y47.Secret.Salt, .int .i64 y47.Secret.Rounds, str y47.Secret.Hash, (.slice none 0 0), v54, str y47.Logout]) Tryz.isAgg27 Tryz.sizeOf27 rfl (hB70.cells (vs := [str y47.ID, .int .i64 y47.Kind, str y47.Tenant, str y47.Secret.Salt, .int .i64 y47.Secret.Rounds, str y47.Secret.Hash, (.slice none 0 0), v54, str y47.Logout]) rfl)) (by decide) ?_
            obtain ⟨y223, hy224, hS⟩ := bind_some' hS
            refine sr_callg (b := true) (e := 68) rfl rfl hg215 (vs := [.agg #[str y47.ID, .int .i64 y47.Kind, str y47.Tenant, str y47.Secret.Salt, .int .i64 y47.Secret.Rounds, str y47.Secret.Hash, (.slice none 0 0), v54, str y47.Logout]]) rfl Tryz.call12 rfl (client_Check_ok (c_0 := (api_Client.mk y47.ID y47.Kind y47.Tenant y47.Secret ([] : List Str) y47.Scopes y47.Logout)) _ (hg.fr hz hb) (ρA := ρ208) hb.bd (hz.fr hg hb) (SlR.nil (A := Wb ρ208)) h55 hy224) (by decide) ?_
            rintro _ w225 ⟨rfl, hbw226⟩
            have htr227 := Tr.of_below hbw226 hb.bd
            replace hB27 := hB27.mv (htr227.mv (i := 100) rfl)
            replace h26 := h26.mv (htr227.mv (i := 101) rfl)
            replace hb := hb.trans htr227
            replace hj218 := (hj218.trans htr227).weak (J' := (fun _ => false)) (by intro t h; simp [rng] at h ⊢ <;> omega) rfl rfl
            refine sr_evg (b := true) (e := 68) rfl rfl hg215 (v := .bool (y223 == 6)) (ev_eq rfl rfl) (by decide) ?_
            refine sr_ev (v := .bool (y223 == 6)) (ev_pick_t rfl hg215 rfl) (by decide) ?_
            exact sr_weaken (l' := [(1, .pointer (some ⟨g6, 0, none⟩)), (72, .bool (y223 == 6))]) (.cons rfl (.cons rfl (.nil _))) (K216 (y223 == 6) _ ⟨(Option.some.inj hS).symm, _, hj218⟩)
           ·have hS := ite_false' hz219 hg215
            refine sr_pass (e := 68) rfl rfl (by rw [hg215]; rfl) (by decide) ?_
            refine sr_pass (e := 68) rfl rfl (by rw [hg215]; rfl) (by decide) ?_
            refine sr_pass (e := 68) rfl rfl (by rw [hg215]; rfl) (by decide) ?_
            refine sr_ev (v := .bool false) (ev_pick_f rfl hg215 rfl) (by decide) ?_
            exact sr_weaken (l' := [(1, .pointer (some ⟨g6, 0, none⟩)), (72, .bool false)]) (.cons rfl (.cons rfl (.nil _))) (K216 false _ ⟨(Option.some.inj hS).symm, _, hj218⟩)
         ·intro K203
          clear hS
          have hj205 : Tr ρ195 w194 (fun _ => false) ρ195 w194 := (Tr.refl hb.bd).weak (fun _ _ => rfl) rfl rfl
          rcases Bool.eq_false_or_eq_true z191 with hg202 | hg202
          ·have hS := ite_true' hz206 hg202
           refine sr_evg (b := true) (e := 63) rfl rfl hg202 (v := .agg #[str y38.ID, .int .i64 y38.Kind, str y38.Tenant, str y38.Secret.Salt, .int .i64 y38.Secret.Rounds, str y38.Secret.Hash, v79, v45, str y38.Logout]) (ev_loads (cs := [str y38.ID, .int .i64 y38.Kind, str y38.Tenant, str y38.Secret.Salt, .int .i64 y38.Secret.Rounds, str y38.Secret.Hash, v79, v45, str y38.Logout]) Tryz.isAgg27 Tryz.sizeOf27 rfl (hB65.cells (vs := [str y38.ID, .int .i64 y38.Kind, str y38.Tenant, str y38.Secret.Salt, .int .i64 y38.Secret.Rounds, str y38.Secret.Hash, v79, v45, str y38.Logout]) rfl)) (by decide) ?_
           obtain ⟨y210, hy211, hS⟩ := bind_some' hS
           refine sr_callg (b := true) (e := 63) rfl rfl hg202 (vs := [.agg #[str y38.ID, .int .i64 y38.Kind, str y38.Tenant, str y38.Secret.Salt, .int .i64 y38.Secret.Rounds, str y38.Secret.Hash, v79, v45, str y38.Logout]]) rfl Tryz.call12 rfl (client_Check_ok (c_0 := (api_Client.mk y38.ID y38.Kind y38.Tenant y38.Secret ([[104, 116, 116, 112, 58, 47, 47, 97, 112, 112]] : List Str) y38.Scopes y38.Logout)) _ (hg.fr hz hb) (ρA := ρ195) hb.bd (hz.fr hg hb) h80 h46 hy211) (by decide) ?_
           rintro _ w212 ⟨rfl, hbw213⟩
           have htr214 := Tr.of_below hbw213 hb.bd
           replace hB70 := hB70.mv (htr214.mv (i := 7) rfl)
           replace h55 := h55.mv htr214.rd
           replace hB27 := hB27.mv (htr214.mv (i := 100) rfl)
           replace h26 := h26.mv (htr214.mv (i := 101) rfl)
           replace hb := hb.trans htr214
           replace hj205 := (hj205.trans htr214).weak (J' := (fun _ => false)) (by intro t h; simp [rng] at h ⊢ <;> omega) rfl rfl
           refine sr_evg (b := true) (e := 63) rfl rfl hg202 (v := .bool (y210 == 4)) (ev_eq rfl rfl) (by decide) ?_
           refine sr_ev (v := .bool (y210 == 4)) (ev_pick_t rfl hg202 rfl) (by decide) ?_
           exact sr_weaken (l' := [(1, .pointer (some ⟨g6, 0, none⟩)), (5, .pointer (some ⟨g66, 0, none⟩)), (67, .bool (y210 == 4))]) (.cons rfl (.cons rfl (.cons rfl (.nil _)))) (K203 (y210 == 4) _ ⟨(Option.some.inj hS).symm, _, hj205⟩)
          ·have hS := ite_false' hz206 hg202
           refine sr_pass (e := 63) rfl rfl (by rw [hg202]; rfl) (by decide) ?_
           refine sr_pass (e := 63) rfl rfl (by rw [hg202]; rfl) (by decide) ?_
           refine sr_pass (e := 63) rfl rfl (by rw [hg202]; rfl) (by decide) ?_
           refine sr_ev (v := .bool false) (ev_pick_f rfl hg202 rfl) (by decide) ?_
           exact sr_weaken (l' := [(1, .pointer (some ⟨g6, 0, none⟩)), (5, .pointer (some ⟨g66, 0, none⟩)), (67, .bool false)]) (.cons rfl (.cons rfl (.cons rfl (.nil _)))) (K203 false _ ⟨(Option.some.inj hS).symm, _, hj205⟩)
        ·intro K190
         clear hS
         have hj192 : Tr ρ182 w181 (fun _ => false) ρ182 w181 := (Tr.refl hb.bd).weak (fun _ _ => rfl) rfl rfl
         rcases Bool.eq_false_or_eq_true z178 with hg189 | hg189
         ·have hS := ite_true' hz193 hg189
          refine sr_evg (b := true) (e := 58) rfl rfl hg189 (v := .agg #[str y29.ID, .int .i64 2, str y29.Tenant, str y29.Secret.Salt, .int .i64 y29.Secret.Rounds, str y29.Secret.Hash, v34, v36, str y29.Logout]) (ev_loads (cs := [str y29.ID, .int .i64 2, str y29.Tenant, str y29.Secret.Salt, .int .i64 y29.Secret.Rounds, str y29.Secret.Hash, v34, v36, str y29.Logout]) Tryz.isAgg27 Tryz.sizeOf27 rfl (hB60.cells (vs := [str y29.ID, .int .i64 2, str y29.Tenant, str y29.Secret.Salt, .int .i64 y29.Secret.Rounds, str y29.Secret.Hash, v34, v36, str y29.Logout]) rfl)) (by decide) ?_
          obtain ⟨y197, hy198, hS⟩ := bind_some' hS
          refine sr_callg (b := true) (e := 58) rfl rfl hg189 (vs := [.agg #[str y29.ID, .int .i64 2, str y29.Tenant, str y29.Secret.Salt, .int .i64 y29.Secret.Rounds, str y29.Secret.Hash, v34, v36, str y29.Logout]]) rfl Tryz.call12 rfl (client_Check_ok (c_0 := (api_Client.mk y29.ID 2 y29.Tenant y29.Secret y29.Redirects y29.Scopes y29.Logout)) _ (hg.fr hz hb) (ρA := ρ182) hb.bd (hz.fr hg hb) h35 h37 hy198) (by decide) ?_
          rintro _ w199 ⟨rfl, hbw200⟩
          have htr201 := Tr.of_below hbw200 hb.bd
          replace hB70 := hB70.mv (htr201.mv (i := 7) rfl)
          replace h55 := h55.mv htr201.rd
          replace hB65 := hB65.mv (htr201.mv (i := 6) rfl)
          replace h80 := h80.mv htr201.rd
          replace h46 := h46.mv htr201.rd
          replace hB27 := hB27.mv (htr201.mv (i := 100) rfl)
          replace h26 := h26.mv (htr201.mv (i := 101) rfl)
          replace hb := hb.trans htr201
          replace hj192 := (hj192.trans htr201).weak (J' := (fun _ => false)) (by intro t h; simp [rng] at h ⊢ <;> omega) rfl rfl
          refine sr_evg (b := true) (e := 58) rfl rfl hg189 (v := .bool (y197 == 4)) (ev_eq rfl rfl) (by decide) ?_
          refine sr_ev (v := .bool (y197 == 4)) (ev_pick_t rfl hg189 rfl) (by decide) ?_
          exact sr_weaken (l' := [(1, .pointer (some ⟨g6, 0, none⟩)), (4, .pointer (some ⟨g61, 0, none⟩)), (5, .pointer (some ⟨g66, 0, none⟩)), (62, .bool (y197 == 4))]) (.cons rfl (.cons rfl (.cons rfl (.cons rfl (.nil _))))) (K190 (y197 == 4) _ ⟨(Option.some.inj hS).symm, _, hj192⟩)
         ·have hS := ite_false' hz193 hg189
          refine sr_pass (e := 58) rfl rfl (by rw [hg189]; rfl) (by decide) ?_
          refine sr_pass (e := 58) rfl rfl (by rw [hg189]; rfl) (by decide) ?_
          refine sr_pass (e := 58) rfl rfl (by rw [hg189]; rfl) (by decide) ?_
          refine sr_ev (v := .bool false) (ev_pick_f rfl hg189 rfl) (by decide) ?_
          exact sr_weaken (l' := [(1, .pointer (some ⟨g6, 0, none⟩)), (4, .pointer (some ⟨g61, 0, none⟩)), (5, .pointer (some ⟨g66, 0, none⟩)), (62, .bool false)]) (.cons rfl (.cons rfl (.cons rfl (.cons rfl (.nil _))))) (K190 false _ ⟨(Option.some.inj hS).symm, _, hj192⟩)
       ·intro K177
        clear hS
        have hj179 : Tr ρ164 w163 (fun _ => false) ρ164 w163 := (Tr.refl hb.bd).weak (fun _ _ => rfl) rfl rfl
        rcases Bool.eq_false_or_eq_true z160 with hg176 | hg176
        ·have hS := ite_true' hz180 hg176
         refine sr_evg (b := true) (e := 53) rfl rfl hg176 (v := .pointer (some ⟨g6, 0, none⟩)) (ev_move rfl) (by decide) ?_
         obtain ⟨y184, hy185, hS⟩ := bind_some' hS
         refine sr_callg (b := true) (e := 53) rfl rfl hg176 (vs := [.pointer (some ⟨g6, 0, none⟩), str ([120]), (.slice none 0 0)]) rfl Tryz.call19 rfl (client_Clients_Allowed_ok _ (hg.fr hz hb) (ρA := ρ164) hb.bd (hz.fr hg hb) (τ0 := (fun p => 100 + p)) (fun p => Nat.le_add_right_of_le (by decide)) (SlR.nil (A := Wb ρ164)) (⟨_, hB27, h26⟩ : client_Clients.O (fun p => 100 + p) ρ164 w163 g6 y20.2) hy185) (by decide) ?_
         rintro _ w186 ⟨rfl, hbw187⟩
         have htr188 := Tr.of_below hbw187 hb.bd
         replace hB70 := hB70.mv (htr188.mv (i := 7) rfl)
         replace h55 := h55.mv htr188.rd
         replace hB65 := hB65.mv (htr188.mv (i := 6) rfl)
         replace h80 := h80.mv htr188.rd
         replace h46 := h46.mv htr188.rd
         replace hB60 := hB60.mv (htr188.mv (i := 5) rfl)
         replace h35 := h35.mv htr188.rd
         replace h37 := h37.mv htr188.rd
         replace hB27 := hB27.mv (htr188.mv (i := 100) rfl)
         replace h26 := h26.mv (htr188.mv (i := 101) rfl)
         replace hb := hb.trans htr188
         replace hj179 := (hj179.trans htr188).weak (J' := (fun _ => false)) (by intro t h; simp [rng] at h ⊢ <;> omega) rfl rfl
         refine sr_evg (b := true) (e := 53) rfl rfl hg176 (v := .bool (y184 == 6)) (ev_eq rfl rfl) (by decide) ?_
         refine sr_ev (v := .bool (y184 == 6)) (ev_pick_t rfl hg176 rfl) (by decide) ?_
         exact sr_weaken (l' := [(1, .pointer (some ⟨g6, 0, none⟩)), (3, .pointer (some ⟨g56, 0, none⟩)), (4, .pointer (some ⟨g61, 0, none⟩)), (5, .pointer (some ⟨g66, 0, none⟩)), (57, .bool (y184 == 6))]) (.cons rfl (.cons rfl (.cons rfl (.cons rfl (.cons rfl (.nil _)))))) (K177 (y184 == 6) _ ⟨(Option.some.inj hS).symm, _, hj179⟩)
        ·have hS := ite_false' hz180 hg176
         refine sr_pass (e := 53) rfl rfl (by rw [hg176]; rfl) (by decide) ?_
         refine sr_pass (e := 53) rfl rfl (by rw [hg176]; rfl) (by decide) ?_
         refine sr_pass (e := 53) rfl rfl (by rw [hg176]; rfl) (by decide) ?_
         refine sr_ev (v := .bool false) (ev_pick_f rfl hg176 rfl) (by decide) ?_
         exact sr_weaken (l' := [(1, .pointer (some ⟨g6, 0, none⟩)), (3, .pointer (some ⟨g56, 0, none⟩)), (4, .pointer (some ⟨g61, 0, none⟩)), (5, .pointer (some ⟨g66, 0, none⟩)), (57, .bool false)]) (.cons rfl (.cons rfl (.cons rfl (.cons rfl (.cons rfl (.nil _)))))) (K177 false _ ⟨(Option.some.inj hS).symm, _, hj179⟩)
      ·intro K159
       clear hS
       have hj161 : Tr ρ146 w145 (fun _ => false) ρ146 w145 := (Tr.refl hb.bd).weak (fun _ _ => rfl) rfl rfl
       rcases Bool.eq_false_or_eq_true z142 with hg158 | hg158
       ·have hS := ite_true' hz162 hg158
        refine sr_evg (b := true) (e := 47) rfl rfl hg158 (v := .pointer (some ⟨g6, 0, none⟩)) (ev_move rfl) (by decide) ?_
        refine sr_unguard rfl rfl hg158 ?_
        refine sr_litT (c := strC) (ρ := ρ146) (E := 9) (xs := [[102, 105, 108, 101, 115]]) (vs := #[(0, str ([102, 105, 108, 101, 115]))]) (cs := #[str ([102, 105, 108, 101, 115])]) (css := [[str ([102, 105, 108, 101, 115])]]) rfl (fun _ => by kernel_rfl) rfl ⟨rfl, trivial⟩ rfl (by decide) hb.bd (by decide) ?_
        intro v166 w168 h167 hbw170
        have htr169 := Tr.of_below hbw170 hb.bd
        replace hB70 := hB70.mv (htr169.mv (i := 7) rfl)
        replace h55 := h55.mv htr169.rd
        replace hB65 := hB65.mv (htr169.mv (i := 6) rfl)
        replace h80 := h80.mv htr169.rd
        replace h46 := h46.mv htr169.rd
        replace hB60 := hB60.mv (htr169.mv (i := 5) rfl)
        replace h35 := h35.mv htr169.rd
        replace h37 := h37.mv htr169.rd
        replace hB27 := hB27.mv (htr169.mv (i := 100) rfl)
        replace h26 := h26.mv (htr169.mv (i := 101) rfl)
        replace hb := hb.trans htr169
        replace hj161 := (hj161.trans htr169).weak (J' := (fun _ => false)) (by intro t h; simp [rng] at h ⊢ <;> omega) rfl rfl
        obtain ⟨y171, hy172, hS⟩ := bind_some' hS
        refine sr_callg (b := true) (e := 47) rfl rfl hg158 (vs := [.pointer (some ⟨g6, 0, none⟩), str ([97, 112, 112]), v166]) rfl Tryz.call19 rfl (client_Clients_Allowed_ok _ (hg.fr hz hb) (ρA := ρ146) hb.bd (hz.fr hg hb) (τ0 := (fun p => 100 + p)) (fun p => Nat.le_add_right_of_le (by decide)) h167 (⟨_, hB27, h26⟩ : client_Clients.O (fun p => 100 + p) ρ146 w168 g6 y20.2) hy172) (by decide) ?_
        rintro _ w173 ⟨rfl, hbw174⟩
        have htr175 := Tr.of_below hbw174 hb.bd
        replace hB70 := hB70.mv (htr175.mv (i := 7) rfl)
        replace h55 := h55.mv htr175.rd
        replace hB65 := hB65.mv (htr175.mv (i := 6) rfl)
        replace h80 := h80.mv htr175.rd
        replace h46 := h46.mv htr175.rd
        replace hB60 := hB60.mv (htr175.mv (i := 5) rfl)
        replace h35 := h35.mv htr175.rd
        replace h37 := h37.mv htr175.rd
        replace hB27 := hB27.mv (htr175.mv (i := 100) rfl)
        replace h26 := h26.mv (htr175.mv (i := 101) rfl)
        replace hb := hb.trans htr175
        replace hj161 := (hj161.trans htr175).weak (J' := (fun _ => false)) (by intro t h; simp [rng] at h ⊢ <;> omega) rfl rfl
        refine sr_evg (b := true) (e := 47) rfl rfl hg158 (v := .bool (y171 == 19)) (ev_eq rfl rfl) (by decide) ?_
        refine sr_ev (v := .bool (y171 == 19)) (ev_pick_t rfl hg158 rfl) (by decide) ?_
        exact sr_weaken (l' := [(1, .pointer (some ⟨g6, 0, none⟩)), (3, .pointer (some ⟨g56, 0, none⟩)), (4, .pointer (some ⟨g61, 0, none⟩)), (5, .pointer (some ⟨g66, 0, none⟩)), (52, .bool (y171 == 19))]) (.cons rfl (.cons rfl (.cons rfl (.cons rfl (.cons rfl (.nil _)))))) (K159 (y171 == 19) _ ⟨(Option.some.inj hS).symm, _, hj161⟩)
       ·have hS := ite_false' hz162 hg158
        refine sr_pass (e := 47) rfl rfl (by rw [hg158]; rfl) (by decide) ?_
        refine sr_pass (e := 47) rfl rfl (by rw [hg158]; rfl) (by decide) ?_
        refine sr_pass (e := 47) rfl rfl (by rw [hg158]; rfl) (by decide) ?_
        refine sr_pass (e := 47) rfl rfl (by rw [hg158]; rfl) (by decide) ?_
        refine sr_ev (v := .bool false) (ev_pick_f rfl hg158 rfl) (by decide) ?_
        exact sr_weaken (l' := [(1, .pointer (some ⟨g6, 0, none⟩)), (3, .pointer (some ⟨g56, 0, none⟩)), (4, .pointer (some ⟨g61, 0, none⟩)), (5, .pointer (some ⟨g66, 0, none⟩)), (52, .bool false)]) (.cons rfl (.cons rfl (.cons rfl (.cons rfl (.cons rfl (.nil _)))))) (K159 false _ ⟨(Option.some.inj hS).symm, _, hj161⟩)
     ·intro K141
      clear hS
      have hj143 : Tr ρ133 w132 (fun _ => false) ρ133 w132 := (Tr.refl hb.bd).weak (fun _ _ => rfl) rfl rfl
      rcases Bool.eq_false_or_eq_true z129 with hg140 | hg140
      ·have hS := ite_true' hz144 hg140
       refine sr_evg (b := true) (e := 41) rfl rfl hg140 (v := .pointer (some ⟨g6, 0, none⟩)) (ev_move rfl) (by decide) ?_
       refine sr_unguard rfl rfl hg140 ?_
       refine sr_litT (c := strC) (ρ := ρ133) (E := 9) (xs := [[109, 97, 105, 108, 46, 114, 101, 97, 100]]) (vs := #[(0, str ([109, 97, 105, 108, 46, 114, 101, 97, 100]))]) (cs := #[str ([109, 97, 105, 108, 46, 114, 101, 97, 100])]) (css := [[str ([109, 97, 105, 108, 46, 114, 101, 97, 100])]]) rfl (fun _ => by kernel_rfl) rfl ⟨rfl, trivial⟩ rfl (by decide) hb.bd (by decide) ?_
       intro v148 w150 h149 hbw152
       have htr151 := Tr.of_below hbw152 hb.bd
       replace hB70 := hB70.mv (htr151.mv (i := 7) rfl)
       replace h55 := h55.mv htr151.rd
       replace hB65 := hB65.mv (htr151.mv (i := 6) rfl)
       replace h80 := h80.mv htr151.rd
       replace h46 := h46.mv htr151.rd
       replace hB60 := hB60.mv (htr151.mv (i := 5) rfl)
       replace h35 := h35.mv htr151.rd
       replace h37 := h37.mv htr151.rd
       replace hB27 := hB27.mv (htr151.mv (i := 100) rfl)
       replace h26 := h26.mv (htr151.mv (i := 101) rfl)
       replace hb := hb.trans htr151
       replace hj143 := (hj143.trans htr151).weak (J' := (fun _ => false)) (by intro t h; simp [rng] at h ⊢ <;> omega) rfl rfl
       obtain ⟨y153, hy154, hS⟩ := bind_some' hS
       refine sr_callg (b := true) (e := 41) rfl rfl hg140 (vs := [.pointer (some ⟨g6, 0, none⟩), str ([97, 112, 112]), v148]) rfl Tryz.call19 rfl (client_Clients_Allowed_ok _ (hg.fr hz hb) (ρA := ρ133) hb.bd (hz.fr hg hb) (τ0 := (fun p => 100 + p)) (fun p => Nat.le_add_right_of_le (by decide)) h149 (⟨_, hB27, h26⟩ : client_Clients.O (fun p => 100 + p) ρ133 w150 g6 y20.2) hy154) (by decide) ?_
       rintro _ w155 ⟨rfl, hbw156⟩
       have htr157 := Tr.of_below hbw156 hb.bd
       replace hB70 := hB70.mv (htr157.mv (i := 7) rfl)
       replace h55 := h55.mv htr157.rd
       replace hB65 := hB65.mv (htr157.mv (i := 6) rfl)
       replace h80 := h80.mv htr157.rd
       replace h46 := h46.mv htr157.rd
       replace hB60 := hB60.mv (htr157.mv (i := 5) rfl)
       replace h35 := h35.mv htr157.rd
       replace h37 := h37.mv htr157.rd
       replace hB27 := hB27.mv (htr157.mv (i := 100) rfl)
       replace h26 := h26.mv (htr157.mv (i := 101) rfl)
       replace hb := hb.trans htr157
       replace hj143 := (hj143.trans htr157).weak (J' := (fun _ => false)) (by intro t h; simp [rng] at h ⊢ <;> omega) rfl rfl
       refine sr_evg (b := true) (e := 41) rfl rfl hg140 (v := .bool (y153 == 0)) (ev_eq rfl rfl) (by decide) ?_
       refine sr_ev (v := .bool (y153 == 0)) (ev_pick_t rfl hg140 rfl) (by decide) ?_
       exact sr_weaken (l' := [(1, .pointer (some ⟨g6, 0, none⟩)), (3, .pointer (some ⟨g56, 0, none⟩)), (4, .pointer (some ⟨g61, 0, none⟩)), (5, .pointer (some ⟨g66, 0, none⟩)), (46, .bool (y153 == 0))]) (.cons rfl (.cons rfl (.cons rfl (.cons rfl (.cons rfl (.nil _)))))) (K141 (y153 == 0) _ ⟨(Option.some.inj hS).symm, _, hj143⟩)
      ·have hS := ite_false' hz144 hg140
       refine sr_pass (e := 41) rfl rfl (by rw [hg140]; rfl) (by decide) ?_
       refine sr_pass (e := 41) rfl rfl (by rw [hg140]; rfl) (by decide) ?_
       refine sr_pass (e := 41) rfl rfl (by rw [hg140]; rfl) (by decide) ?_
       refine sr_pass (e := 41) rfl rfl (by rw [hg140]; rfl) (by decide) ?_
       refine sr_ev (v := .bool false) (ev_pick_f rfl hg140 rfl) (by decide) ?_
       exact sr_weaken (l' := [(1, .pointer (some ⟨g6, 0, none⟩)), (3, .pointer (some ⟨g56, 0, none⟩)), (4, .pointer (some ⟨g61, 0, none⟩)), (5, .pointer (some ⟨g66, 0, none⟩)), (46, .bool false)]) (.cons rfl (.cons rfl (.cons rfl (.cons rfl (.cons rfl (.nil _)))))) (K141 false _ ⟨(Option.some.inj hS).symm, _, hj143⟩)
    ·intro K128
     clear hS
     have hj130 : Tr ρ120 w119 (fun _ => false) ρ120 w119 := (Tr.refl hb.bd).weak (fun _ _ => rfl) rfl rfl
     rcases Bool.eq_false_or_eq_true z116 with hg127 | hg127
     ·have hS := ite_true' hz131 hg127
      refine sr_evg (b := true) (e := 36) rfl rfl hg127 (v := .pointer (some ⟨g6, 0, none⟩)) (ev_move rfl) (by decide) ?_
      obtain ⟨y135, hy136, hS⟩ := bind_some' hS
      refine sr_callg (b := true) (e := 36) rfl rfl hg127 (vs := [.pointer (some ⟨g6, 0, none⟩), str ([97, 112, 112]), str ([120])]) rfl Tryz.call29 rfl (client_Clients_Authenticate_ok _ (hg.fr hz hb) (ρA := ρ120) hb.bd (hz.fr hg hb) (τ0 := (fun p => 100 + p)) (fun p => Nat.le_add_right_of_le (by decide)) (⟨_, hB27, h26⟩ : client_Clients.O (fun p => 100 + p) ρ120 w119 g6 y20.2) hy136) (by decide) ?_
      rintro _ w137 ⟨rfl, hbw138⟩
      have htr139 := Tr.of_below hbw138 hb.bd
      replace hB70 := hB70.mv (htr139.mv (i := 7) rfl)
      replace h55 := h55.mv htr139.rd
      replace hB65 := hB65.mv (htr139.mv (i := 6) rfl)
      replace h80 := h80.mv htr139.rd
      replace h46 := h46.mv htr139.rd
      replace hB60 := hB60.mv (htr139.mv (i := 5) rfl)
      replace h35 := h35.mv htr139.rd
      replace h37 := h37.mv htr139.rd
      replace hB27 := hB27.mv (htr139.mv (i := 100) rfl)
      replace h26 := h26.mv (htr139.mv (i := 101) rfl)
      replace hb := hb.trans htr139
      replace hj130 := (hj130.trans htr139).weak (J' := (fun _ => false)) (by intro t h; simp [rng] at h ⊢ <;> omega) rfl rfl
      refine sr_evg (b := true) (e := 36) rfl rfl hg127 (v := .bool (y135 == 11)) (ev_eq rfl rfl) (by decide) ?_
      refine sr_ev (v := .bool (y135 == 11)) (ev_pick_t rfl hg127 rfl) (by decide) ?_
      exact sr_weaken (l' := [(1, .pointer (some ⟨g6, 0, none⟩)), (3, .pointer (some ⟨g56, 0, none⟩)), (4, .pointer (some ⟨g61, 0, none⟩)), (5, .pointer (some ⟨g66, 0, none⟩)), (40, .bool (y135 == 11))]) (.cons rfl (.cons rfl (.cons rfl (.cons rfl (.cons rfl (.nil _)))))) (K128 (y135 == 11) _ ⟨(Option.some.inj hS).symm, _, hj130⟩)
     ·have hS := ite_false' hz131 hg127
      refine sr_pass (e := 36) rfl rfl (by rw [hg127]; rfl) (by decide) ?_
      refine sr_pass (e := 36) rfl rfl (by rw [hg127]; rfl) (by decide) ?_
      refine sr_pass (e := 36) rfl rfl (by rw [hg127]; rfl) (by decide) ?_
      refine sr_ev (v := .bool false) (ev_pick_f rfl hg127 rfl) (by decide) ?_
      exact sr_weaken (l' := [(1, .pointer (some ⟨g6, 0, none⟩)), (3, .pointer (some ⟨g56, 0, none⟩)), (4, .pointer (some ⟨g61, 0, none⟩)), (5, .pointer (some ⟨g66, 0, none⟩)), (40, .bool false)]) (.cons rfl (.cons rfl (.cons rfl (.cons rfl (.cons rfl (.nil _)))))) (K128 false _ ⟨(Option.some.inj hS).symm, _, hj130⟩)
   ·intro K115
    clear hS
    have hj117 : Tr ρ107 w106 (fun _ => false) ρ107 w106 := (Tr.refl hb.bd).weak (fun _ _ => rfl) rfl rfl
    rcases Bool.eq_false_or_eq_true z103 with hg114 | hg114
    ·have hS := ite_true' hz118 hg114
     refine sr_evg (b := true) (e := 31) rfl rfl hg114 (v := .pointer (some ⟨g6, 0, none⟩)) (ev_move rfl) (by decide) ?_
     obtain ⟨y122, hy123, hS⟩ := bind_some' hS
     refine sr_callg (b := true) (e := 31) rfl rfl hg114 (vs := [.pointer (some ⟨g6, 0, none⟩), str ([97, 112, 112]), str ([])]) rfl Tryz.call29 rfl (client_Clients_Authenticate_ok _ (hg.fr hz hb) (ρA := ρ107) hb.bd (hz.fr hg hb) (τ0 := (fun p => 100 + p)) (fun p => Nat.le_add_right_of_le (by decide)) (⟨_, hB27, h26⟩ : client_Clients.O (fun p => 100 + p) ρ107 w106 g6 y20.2) hy123) (by decide) ?_
     rintro _ w124 ⟨rfl, hbw125⟩
     have htr126 := Tr.of_below hbw125 hb.bd
     replace hB70 := hB70.mv (htr126.mv (i := 7) rfl)
     replace h55 := h55.mv htr126.rd
     replace hB65 := hB65.mv (htr126.mv (i := 6) rfl)
     replace h80 := h80.mv htr126.rd
     replace h46 := h46.mv htr126.rd
     replace hB60 := hB60.mv (htr126.mv (i := 5) rfl)
     replace h35 := h35.mv htr126.rd
     replace h37 := h37.mv htr126.rd
     replace hB27 := hB27.mv (htr126.mv (i := 100) rfl)
     replace h26 := h26.mv (htr126.mv (i := 101) rfl)
     replace hb := hb.trans htr126
     replace hj117 := (hj117.trans htr126).weak (J' := (fun _ => false)) (by intro t h; simp [rng] at h ⊢ <;> omega) rfl rfl
     refine sr_evg (b := true) (e := 31) rfl rfl hg114 (v := .bool (y122 == 0)) (ev_eq rfl rfl) (by decide) ?_
     refine sr_ev (v := .bool (y122 == 0)) (ev_pick_t rfl hg114 rfl) (by decide) ?_
     exact sr_weaken (l' := [(1, .pointer (some ⟨g6, 0, none⟩)), (3, .pointer (some ⟨g56, 0, none⟩)), (4, .pointer (some ⟨g61, 0, none⟩)), (5, .pointer (some ⟨g66, 0, none⟩)), (35, .bool (y122 == 0))]) (.cons rfl (.cons rfl (.cons rfl (.cons rfl (.cons rfl (.nil _)))))) (K115 (y122 == 0) _ ⟨(Option.some.inj hS).symm, _, hj117⟩)
    ·have hS := ite_false' hz118 hg114
     refine sr_pass (e := 31) rfl rfl (by rw [hg114]; rfl) (by decide) ?_
     refine sr_pass (e := 31) rfl rfl (by rw [hg114]; rfl) (by decide) ?_
     refine sr_pass (e := 31) rfl rfl (by rw [hg114]; rfl) (by decide) ?_
     refine sr_ev (v := .bool false) (ev_pick_f rfl hg114 rfl) (by decide) ?_
     exact sr_weaken (l' := [(1, .pointer (some ⟨g6, 0, none⟩)), (3, .pointer (some ⟨g56, 0, none⟩)), (4, .pointer (some ⟨g61, 0, none⟩)), (5, .pointer (some ⟨g66, 0, none⟩)), (35, .bool false)]) (.cons rfl (.cons rfl (.cons rfl (.cons rfl (.cons rfl (.nil _)))))) (K115 false _ ⟨(Option.some.inj hS).symm, _, hj117⟩)
  ·intro K102
   clear hS
   have hj104 : Tr ρ94 w93 (fun _ => false) ρ94 w93 := (Tr.refl hb.bd).weak (fun _ _ => rfl) rfl rfl
   rcases Bool.eq_false_or_eq_true z90 with hg101 | hg101
   ·have hS := ite_true' hz105 hg101
    refine sr_evg (b := true) (e := 26) rfl rfl hg101 (v := .pointer (some ⟨g6, 0, none⟩)) (ev_move rfl) (by decide) ?_
    obtain ⟨y109, hy110, hS⟩ := bind_some' hS
    refine sr_callg (b := true) (e := 26) rfl rfl hg101 (vs := [.pointer (some ⟨g6, 0, none⟩), str ([97, 112, 112]), str ([104, 116, 116, 112, 115, 58, 47, 47, 97, 112, 112, 47, 99, 98, 47])]) rfl Tryz.call27 rfl (client_Clients_Redirect_ok _ (hg.fr hz hb) (ρA := ρ94) hb.bd (hz.fr hg hb) (τ0 := (fun p => 100 + p)) (fun p => Nat.le_add_right_of_le (by decide)) (⟨_, hB27, h26⟩ : client_Clients.O (fun p => 100 + p) ρ94 w93 g6 y20.2) hy110) (by decide) ?_
    rintro _ w111 ⟨rfl, hbw112⟩
    have htr113 := Tr.of_below hbw112 hb.bd
    replace hB70 := hB70.mv (htr113.mv (i := 7) rfl)
    replace h55 := h55.mv htr113.rd
    replace hB65 := hB65.mv (htr113.mv (i := 6) rfl)
    replace h80 := h80.mv htr113.rd
    replace h46 := h46.mv htr113.rd
    replace hB60 := hB60.mv (htr113.mv (i := 5) rfl)
    replace h35 := h35.mv htr113.rd
    replace h37 := h37.mv htr113.rd
    replace hB27 := hB27.mv (htr113.mv (i := 100) rfl)
    replace h26 := h26.mv (htr113.mv (i := 101) rfl)
    replace hb := hb.trans htr113
    replace hj104 := (hj104.trans htr113).weak (J' := (fun _ => false)) (by intro t h; simp [rng] at h ⊢ <;> omega) rfl rfl
    refine sr_evg (b := true) (e := 26) rfl rfl hg101 (v := .bool (y109 == 11)) (ev_eq rfl rfl) (by decide) ?_
    refine sr_ev (v := .bool (y109 == 11)) (ev_pick_t rfl hg101 rfl) (by decide) ?_
    exact sr_weaken (l' := [(1, .pointer (some ⟨g6, 0, none⟩)), (3, .pointer (some ⟨g56, 0, none⟩)), (4, .pointer (some ⟨g61, 0, none⟩)), (5, .pointer (some ⟨g66, 0, none⟩)), (30, .bool (y109 == 11))]) (.cons rfl (.cons rfl (.cons rfl (.cons rfl (.cons rfl (.nil _)))))) (K102 (y109 == 11) _ ⟨(Option.some.inj hS).symm, _, hj104⟩)
   ·have hS := ite_false' hz105 hg101
    refine sr_pass (e := 26) rfl rfl (by rw [hg101]; rfl) (by decide) ?_
    refine sr_pass (e := 26) rfl rfl (by rw [hg101]; rfl) (by decide) ?_
    refine sr_pass (e := 26) rfl rfl (by rw [hg101]; rfl) (by decide) ?_
    refine sr_ev (v := .bool false) (ev_pick_f rfl hg101 rfl) (by decide) ?_
    exact sr_weaken (l' := [(1, .pointer (some ⟨g6, 0, none⟩)), (3, .pointer (some ⟨g56, 0, none⟩)), (4, .pointer (some ⟨g61, 0, none⟩)), (5, .pointer (some ⟨g66, 0, none⟩)), (30, .bool false)]) (.cons rfl (.cons rfl (.cons rfl (.cons rfl (.cons rfl (.nil _)))))) (K102 false _ ⟨(Option.some.inj hS).symm, _, hj104⟩)
 ·intro K89
  clear hS
  have hj91 : Tr ρ67 w86 (fun _ => false) ρ67 w86 := (Tr.refl hb.bd).weak (fun _ _ => rfl) rfl rfl
  rcases Bool.eq_false_or_eq_true (y20.1 == 0) with hg88 | hg88
  ·have hS := ite_true' hz92 hg88
   refine sr_evg (b := true) (e := 21) rfl rfl hg88 (v := .pointer (some ⟨g6, 0, none⟩)) (ev_move rfl) (by decide) ?_
   obtain ⟨y96, hy97, hS⟩ := bind_some' hS
   refine sr_callg (b := true) (e := 21) rfl rfl hg88 (vs := [.pointer (some ⟨g6, 0, none⟩), str ([97, 112, 112]), str ([104, 116, 116, 112, 115, 58, 47, 47, 97, 112, 112, 47, 99, 98])]) rfl Tryz.call27 rfl (client_Clients_Redirect_ok _ (hg.fr hz hb) (ρA := ρ67) hb.bd (hz.fr hg hb) (τ0 := (fun p => 100 + p)) (fun p => Nat.le_add_right_of_le (by decide)) (⟨_, hB27, h26⟩ : client_Clients.O (fun p => 100 + p) ρ67 w86 g6 y20.2) hy97) (by decide) ?_
   rintro _ w98 ⟨rfl, hbw99⟩
   have htr100 := Tr.of_below hbw99 hb.bd
   replace hB70 := hB70.mv (htr100.mv (i := 7) rfl)
   replace h55 := h55.mv htr100.rd
   replace hB65 := hB65.mv (htr100.mv (i := 6) rfl)
   replace h80 := h80.mv htr100.rd
   replace h46 := h46.mv htr100.rd
   replace hB60 := hB60.mv (htr100.mv (i := 5) rfl)
   replace h35 := h35.mv htr100.rd
   replace h37 := h37.mv htr100.rd
   replace hB27 := hB27.mv (htr100.mv (i := 100) rfl)
   replace h26 := h26.mv (htr100.mv (i := 101) rfl)
   replace hb := hb.trans htr100
   replace hj91 := (hj91.trans htr100).weak (J' := (fun _ => false)) (by intro t h; simp [rng] at h ⊢ <;> omega) rfl rfl
   refine sr_evg (b := true) (e := 21) rfl rfl hg88 (v := .bool (y96 == 0)) (ev_eq rfl rfl) (by decide) ?_
   refine sr_ev (v := .bool (y96 == 0)) (ev_pick_t rfl hg88 rfl) (by decide) ?_
   exact sr_weaken (l' := [(1, .pointer (some ⟨g6, 0, none⟩)), (3, .pointer (some ⟨g56, 0, none⟩)), (4, .pointer (some ⟨g61, 0, none⟩)), (5, .pointer (some ⟨g66, 0, none⟩)), (25, .bool (y96 == 0))]) (.cons rfl (.cons rfl (.cons rfl (.cons rfl (.cons rfl (.nil _)))))) (K89 (y96 == 0) _ ⟨(Option.some.inj hS).symm, _, hj91⟩)
  ·have hS := ite_false' hz92 hg88
   refine sr_pass (e := 21) rfl rfl (by rw [hg88]; rfl) (by decide) ?_
   refine sr_pass (e := 21) rfl rfl (by rw [hg88]; rfl) (by decide) ?_
   refine sr_pass (e := 21) rfl rfl (by rw [hg88]; rfl) (by decide) ?_
   refine sr_ev (v := .bool false) (ev_pick_f rfl hg88 rfl) (by decide) ?_
   exact sr_weaken (l' := [(1, .pointer (some ⟨g6, 0, none⟩)), (3, .pointer (some ⟨g56, 0, none⟩)), (4, .pointer (some ⟨g61, 0, none⟩)), (5, .pointer (some ⟨g66, 0, none⟩)), (25, .bool false)]) (.cons rfl (.cons rfl (.cons rfl (.cons rfl (.cons rfl (.nil _)))))) (K89 false _ ⟨(Option.some.inj hS).symm, _, hj91⟩)
theorem client_Clients_ready__nil_ok (w0 : World) (hg : Gs w0) {ρA : Tags} (hbd : ∀ b, ρA b ≠ 0 → b < w0.heap.size) (hz : Gz ρA) {r : Bool} (hS : client_Clients_ready__nil = some r) :
  Calls Tryz.prog 50 #[.pointer none] w0 (Ret (fun v w' => v = .bool r ∧ Below w0.heap.size w0 w')) := by
 unfold client_Clients_ready__nil at hS
 have hb := flat1_fr (ρ := ρA) (w := w0) hbd
 have hz := hz.flat1
 refine calls_of_ke Tryz.func50 rfl (n := 12) rfl rfl (l := [(0, .pointer none)]) rfl ?_
 refine ke_seq ?_
 refine ke_region ?_
 refine sr_ev (v := .bool false) (ev_assign rfl) (by decide) ?_
 refine sr_end (l' := [(0, .pointer none)]) (.cons rfl (.nil _)) ?_
 refine ke_seq ?_
 refine ke_region ?_
 refine sr_ev (v := .pointer none) (ev_move rfl) (by decide) ?_
 refine sr_ev (v := .bool false) (ev_pneT_nil Tryz.underlying33 rfl rfl) (by decide) ?_
 refine sr_ev (v := .bool false) (ev_move rfl) (by decide) ?_
 refine sr_pass (e := 5) rfl rfl rfl (by decide) ?_
 refine sr_pass (e := 5) rfl rfl rfl (by decide) ?_
 refine sr_pass (e := 5) rfl rfl rfl (by decide) ?_
 refine sr_pass (e := 5) rfl rfl rfl (by decide) ?_
 refine sr_pass (e := 5) rfl rfl rfl (by decide) ?_
 refine sr_ev (v := .bool false) (ev_pick_f rfl rfl rfl) (by decide) ?_
 refine sr_ev (v := .bool false) (ev_assign rfl) (by decide) ?_
 refine sr_end (l' := [(2, .bool false)]) (.cons rfl (.nil _)) ?_
 cases hS
 exact ke_ret1 Tryz.func50 rfl rfl ⟨_, rfl, rfl, (hb.below (flat1_le _))⟩
theorem client_Clients_find__nil_ok (w0 : World) (hg : Gs w0) {ρA : Tags} (hbd : ∀ b, ρA b ≠ 0 → b < w0.heap.size) (hz : Gz ρA) {id_1 : Str} {r : api_Client × Int} (hS : client_Clients_find__nil id_1 = some r) :
  Calls Tryz.prog 54 #[.pointer none, str id_1] w0 (Ret (fun v w' => ∃ x1 x2, v = .tuple #[.agg #[str r.1.ID, .int .i64 r.1.Kind, str r.1.Tenant, str r.1.Secret.Salt, .int .i64 r.1.Secret.Rounds, str r.1.Secret.Hash, x1, x2, str r.1.Logout], .int .i64 r.2] ∧ SlR strC (Wb ρA) w' x1 r.1.Redirects ∧ SlR strC (Wb ρA) w' x2 r.1.Scopes ∧ Below w0.heap.size w0 w')) := by
 unfold client_Clients_find__nil at hS
 have hb := flat1_fr (ρ := ρA) (w := w0) hbd
 have hz := hz.flat1
 refine calls_of_ke Tryz.func54 rfl (n := 25) rfl rfl (l := [(0, .pointer none), (1, str id_1)]) rfl ?_
 refine ke_seq ?_
 refine ke_region ?_
 refine sr_allocT 6 (by decide) hb.bd Tryz.zeroValue27 (by decide) ?_
 intro g5 ρ6 w7 hB9 htr8
 replace hb := hb.trans htr8
 replace hB9 : Blk ρ6 6 w7 g5 (.cells #[str ([]), .int .i64 0, str ([]), str ([]), .int .i64 0, str ([]), (.slice none 0 0), (.slice none 0 0), str ([])] 27 (0, 0)) := hB9
 refine sr_ev (v := .int .i64 0) (ev_assign rfl) (by decide) ?_
 refine sr_end (l' := [(0, .pointer none), (1, str id_1), (4, .pointer (some ⟨g5, 0, none⟩))]) (.cons rfl (.cons rfl (.cons rfl (.nil _)))) ?_
 refine ke_seq ?_
 refine ke_seq ?_
 refine ke_region ?_
 refine sr_ev (v := .pointer none) (ev_move rfl) (by decide) ?_
 obtain ⟨y10, hy11, hS⟩ := bind_some' hS
 obtain rfl : y10 = false := (Option.some.inj hy11).symm
 refine sr_call (vs := [.pointer none]) rfl Tryz.call50 rfl (client_Clients_ready__nil_ok _ (hg.fr hz hb) (ρA := ρ6) hb.bd (hz.fr hg hb) hy11) (by decide) ?_
 rintro _ w12 ⟨rfl, hbw13⟩
 have htr14 := Tr.of_below hbw13 hb.bd
 replace hB9 := hB9.mv (htr14.mv (i := 6) rfl)
 replace hb := hb.trans htr14
 refine sr_ev (v := .bool true) (ev_notc rfl rfl) (by decide) ?_
 refine sr_end (l' := [(0, .pointer none), (1, str id_1), (4, .pointer (some ⟨g5, 0, none⟩)), (10, .bool true)]) (.cons rfl (.cons rfl (.cons rfl (.cons rfl (.nil _))))) ?_
 refine ke_cond (t := true) rfl (fun _ => ?_) (fun h => by cases h)
 refine ke_seq ?_
 refine ke_region ?_
 refine sr_ev (v := .agg #[str ([]), .int .i64 0, str ([]), str ([]), .int .i64 0, str ([]), (.slice none 0 0), (.slice none 0 0), str ([])]) (ev_build (vs := #[]) rfl (fun _ => by kernel_rfl)) (by decide) ?_
 refine sr_storeT (v := .agg #[str ([]), .int .i64 0, str ([]), str ([]), .int .i64 0, str ([]), (.slice none 0 0), (.slice none 0 0), str ([])]) (vs := [str ([]), .int .i64 0, str ([]), str ([]), .int .i64 0, str ([]), (.slice none 0 0), (.slice none 0 0), str ([])]) (cs' := #[str ([]), .int .i64 0, str ([]), str ([]), .int .i64 0, str ([]), (.slice none 0 0), (.slice none 0 0), str ([])]) hB9 (by decide) hb.bd rfl rfl rfl Tryz.sizeOf27 rfl rfl rfl ?_
 intro w15 hB91 htr16
 replace hb := hb.trans htr16
 replace hB9 : Blk ρ6 6 w15 g5 (.cells #[str ([]), .int .i64 0, str ([]), str ([]), .int .i64 0, str ([]), (.slice none 0 0), (.slice none 0 0), str ([])] 27 (0, 0)) := hB91
 clear hB91
 refine sr_ev (v := .int .i64 1) (ev_assign rfl) (by decide) ?_
 refine sr_end (l' := [(4, .pointer (some ⟨g5, 0, none⟩)), (5, .int .i64 1)]) (.cons rfl (.cons rfl (.nil _))) ?_
 cases hS
 exact ke_ret (rs := [.cell 4 27, .tmp 5]) (vs := [.agg #[str ([]), .int .i64 0, str ([]), str ([]), .int .i64 0, str ([]), (.slice none 0 0), (.slice none 0 0), str ([])], .int .i64 1]) Tryz.func54 rfl ⟨⟨_, rfl, run_loadVar_s (cs := [str ([]), .int .i64 0, str ([]), str ([]), .int .i64 0, str ([]), (.slice none 0 0), (.slice none 0 0), str ([])]) Tryz.isAgg27 Tryz.sizeOf27 (hB9.cells (vs := [str ([]), .int .i64 0, str ([]), str ([]), .int .i64 0, str ([]), (.slice none 0 0), (.slice none 0 0), str ([])]) rfl)⟩, rfl, trivial⟩ rfl ⟨_, rfl, _, _, rfl, SlR.nil, SlR.nil, (hb.below (flat1_le _))⟩
theorem client_Clients_Get__nil_ok (w0 : World) (hg : Gs w0) {ρA : Tags} (hbd : ∀ b, ρA b ≠ 0 → b < w0.heap.size) (hz : Gz ρA) {id_1 : Str} {r : api_Client × Bool} (hS : client_Clients_Get__nil id_1 = some r) :
  Calls Tryz.prog 24 #[.pointer none, str id_1] w0 (Ret (fun v w' => ∃ x1 x2, v = .tuple #[.agg #[str r.1.ID, .int .i64 r.1.Kind, str r.1.Tenant, str r.1.Secret.Salt, .int .i64 r.1.Secret.Rounds, str r.1.Secret.Hash, x1, x2, str r.1.Logout], .bool r.2] ∧ SlR strC (Wb ρA) w' x1 r.1.Redirects ∧ SlR strC (Wb ρA) w' x2 r.1.Scopes ∧ Below w0.heap.size w0 w')) := by
 unfold client_Clients_Get__nil at hS
 have hb := flat1_fr (ρ := ρA) (w := w0) hbd
 have hz := hz.flat1
 refine calls_of_ke Tryz.func24 rfl (n := 18) rfl rfl (l := [(0, .pointer none), (1, str id_1)]) rfl ?_
 refine ke_seq ?_
 refine ke_region ?_
 refine sr_allocT 6 (by decide) hb.bd Tryz.zeroValue27 (by decide) ?_
 intro g5 ρ6 w7 hB9 htr8
 replace hb := hb.trans htr8
 replace hB9 : Blk ρ6 6 w7 g5 (.cells #[str ([]), .int .i64 0, str ([]), str ([]), .int .i64 0, str ([]), (.slice none 0 0), (.slice none 0 0), str ([])] 27 (0, 0)) := hB9
 refine sr_ev (v := .bool false) (ev_assign rfl) (by decide) ?_
 refine sr_end (l' := [(0, .pointer none), (1, str id_1), (4, .pointer (some ⟨g5, 0, none⟩))]) (.cons rfl (.cons rfl (.cons rfl (.nil _)))) ?_
 refine ke_seq ?_
 refine ke_region ?_
 refine sr_ev (v := .pointer none) (ev_move rfl) (by decide) ?_
 refine sr_ev (v := str id_1) (ev_move rfl) (by decide) ?_
 obtain ⟨y10, hy11, hS⟩ := bind_some' hS
 refine sr_call (vs := [.pointer none, str id_1]) rfl Tryz.call54 rfl (client_Clients_find__nil_ok _ (hg.fr hz hb) (ρA := ρ6) hb.bd (hz.fr hg hb) hy11) (by decide) ?_
 rintro _ w12 ⟨v15, v17, rfl, h16, h18, hbw13⟩
 have htr14 := Tr.of_below hbw13 hb.bd
 replace hB9 := hB9.mv (htr14.mv (i := 6) rfl)
 replace hb := hb.trans htr14
 refine sr_ev (v := .tuple #[.agg #[str y10.1.ID, .int .i64 y10.1.Kind, str y10.1.Tenant, str y10.1.Secret.Salt, .int .i64 y10.1.Secret.Rounds, str y10.1.Secret.Hash, v15, v17, str y10.1.Logout], .int .i64 y10.2]) (ev_move rfl) (by decide) ?_
 refine sr_ev (v := .agg #[str y10.1.ID, .int .i64 y10.1.Kind, str y10.1.Tenant, str y10.1.Secret.Salt, .int .i64 y10.1.Secret.Rounds, str y10.1.Secret.Hash, v15, v17, str y10.1.Logout]) (ev_extract rfl rfl) (by decide) ?_
 refine sr_ev (v := .int .i64 y10.2) (ev_extract rfl rfl) (by decide) ?_
 refine sr_allocT 8 (by decide) hb.bd Tryz.zeroValue27 (by decide) ?_
 intro g19 ρ20 w21 hB23 htr22
 replace h16 := h16.mv htr22.rd
 replace h18 := h18.mv htr22.rd
 replace hB9 := hB9.mv (htr22.mv (i := 6) rfl)
 replace hb := hb.trans htr22
 replace hB23 : Blk ρ20 8 w21 g19 (.cells #[str ([]), .int .i64 0, str ([]), str ([]), .int .i64 0, str ([]), (.slice none 0 0), (.slice none 0 0), str ([])] 27 (0, 0)) := hB23
 refine sr_storeT (v := .agg #[str y10.1.ID, .int .i64 y10.1.Kind, str y10.1.Tenant, str y10.1.Secret.Salt, .int .i64 y10.1.Secret.Rounds, str y10.1.Secret.Hash, v15, v17, str y10.1.Logout]) (vs := [str y10.1.ID, .int .i64 y10.1.Kind, str y10.1.Tenant, str y10.1.Secret.Salt, .int .i64 y10.1.Secret.Rounds, str y10.1.Secret.Hash, v15, v17, str y10.1.Logout]) (cs' := #[str y10.1.ID, .int .i64 y10.1.Kind, str y10.1.Tenant, str y10.1.Secret.Salt, .int .i64 y10.1.Secret.Rounds, str y10.1.Secret.Hash, v15, v17, str y10.1.Logout]) hB23 (by decide) hb.bd rfl rfl rfl Tryz.sizeOf27 rfl (by first | rfl | (simp only [List.all_cons, List.all_nil, SlR.oneCell h16, SlR.oneCell h18]; done) | (simp only [List.all_cons, List.all_nil, SlR.oneCell h16, SlR.oneCell h18]; rfl)) rfl ?_
 intro w24 hB231 htr25
 replace h16 := h16.mv htr25.rd
 replace h18 := h18.mv htr25.rd
 replace hB9 := hB9.mv (htr25.mv (i := 6) rfl)
 replace hb := hb.trans htr25
 replace hB23 : Blk ρ20 8 w24 g19 (.cells #[str y10.1.ID, .int .i64 y10.1.Kind, str y10.1.Tenant, str y10.1.Secret.Salt, .int .i64 y10.1.Secret.Rounds, str y10.1.Secret.Hash, v15, v17, str y10.1.Logout] 27 (0, 0)) := hB231
 clear hB231
 refine sr_ev (v := .int .i64 y10.2) (ev_assign rfl) (by decide) ?_
 refine sr_end (l' := [(4, .pointer (some ⟨g5, 0, none⟩)), (6, .pointer (some ⟨g19, 0, none⟩)), (7, .int .i64 y10.2)]) (.cons rfl (.cons rfl (.cons rfl (.nil _)))) ?_
 refine ke_seq ?_
 refine ke_region ?_
 refine sr_ev (v := .agg #[str y10.1.ID, .int .i64 y10.1.Kind, str y10.1.Tenant, str y10.1.Secret.Salt, .int .i64 y10.1.Secret.Rounds, str y10.1.Secret.Hash, v15, v17, str y10.1.Logout]) (ev_loads (cs := [str y10.1.ID, .int .i64 y10.1.Kind, str y10.1.Tenant, str y10.1.Secret.Salt, .int .i64 y10.1.Secret.Rounds, str y10.1.Secret.Hash, v15, v17, str y10.1.Logout]) Tryz.isAgg27 Tryz.sizeOf27 rfl (hB23.cells (vs := [str y10.1.ID, .int .i64 y10.1.Kind, str y10.1.Tenant, str y10.1.Secret.Salt, .int .i64 y10.1.Secret.Rounds, str y10.1.Secret.Hash, v15, v17, str y10.1.Logout]) rfl)) (by decide) ?_
 obtain ⟨y26, hy27, hS⟩ := bind_some' hS
 refine sr_call (vs := [.agg #[str y10.1.ID, .int .i64 y10.1.Kind, str y10.1.Tenant, str y10.1.Secret.Salt, .int .i64 y10.1.Secret.Rounds, str y10.1.Secret.Hash, v15, v17, str y10.1.Logout]]) rfl Tryz.call51 rfl (client_own_ok _ (hg.fr hz hb) (ρA := ρ20) hb.bd (hz.fr hg hb) h16 h18 hy27) (by decide) ?_
 rintro _ w28 ⟨v31, v33, rfl, h32, h34, hbw29⟩
 have htr30 := Tr.of_below hbw29 hb.bd
 replace hB9 := hB9.mv (htr30.mv (i := 6) rfl)
 replace hb := hb.trans htr30
 refine sr_ev (v := .int .i64 y10.2) (ev_move rfl) (by decide) ?_
 refine sr_ev (v := .bool (y10.2 == 0)) (ev_eq rfl rfl) (by decide) ?_
 refine sr_storeT (v := .agg #[str y26.ID, .int .i64 y26.Kind, str y26.Tenant, str y26.Secret.Salt, .int .i64 y26.Secret.Rounds, str y26.Secret.Hash, v31, v33, str y26.Logout]) (vs := [str y26.ID, .int .i64 y26.Kind, str y26.Tenant, str y26.Secret.Salt, .int .i64 y26.Secret.Rounds, str y26.Secret.Hash, v31, v33, str y26.Logout]) (cs' := #[str y26.ID, .int .i64 y26.Kind, str y26.Tenant, str y26.Secret.Salt, .int .i64 y26.Secret.Rounds, str y26.Secret.Hash, v31, v33, str y26.Logout]) hB9 (by decide) hb.bd rfl rfl rfl Tryz.sizeOf27 rfl (by first | rfl | (simp only [List.all_cons, List.all_nil, SlR.oneCell h32, SlR.oneCell h34]; done) | (simp only [List.all_cons, List.all_nil, SlR.oneCell h32, SlR.oneCell h34]; rfl)) rfl ?_
 intro w35 hB91 htr36
 replace h32 := h32.mv htr36.rd
 replace h34 := h34.mv htr36.rd
 replace hb := hb.trans htr36
 replace hB9 : Blk ρ20 6 w35 g5 (.cells #[str y26.ID, .int .i64 y26.Kind, str y26.Tenant, str y26.Secret.Salt, .int .i64 y26.Secret.Rounds, str y26.Secret.Hash, v31, v33, str y26.Logout] 27 (0, 0)) := hB91
 clear hB91
 refine sr_ev (v := .bool (y10.2 == 0)) (ev_assign rfl) (by decide) ?_
 refine sr_end (l' := [(4, .pointer (some ⟨g5, 0, none⟩)), (5, .bool (y10.2 == 0))]) (.cons rfl (.cons rfl (.nil _))) ?_
 cases hS
 exact ke_ret (rs := [.cell 4 27, .tmp 5]) (vs := [.agg #[str y26.ID, .int .i64 y26.Kind, str y26.Tenant, str y26.Secret.Salt, .int .i64 y26.Secret.Rounds, str y26.Secret.Hash, v31, v33, str y26.Logout], .bool (y10.2 == 0)]) Tryz.func24 rfl ⟨⟨_, rfl, run_loadVar_s (cs := [str y26.ID, .int .i64 y26.Kind, str y26.Tenant, str y26.Secret.Salt, .int .i64 y26.Secret.Rounds, str y26.Secret.Hash, v31, v33, str y26.Logout]) Tryz.isAgg27 Tryz.sizeOf27 (hB9.cells (vs := [str y26.ID, .int .i64 y26.Kind, str y26.Tenant, str y26.Secret.Salt, .int .i64 y26.Secret.Rounds, str y26.Secret.Hash, v31, v33, str y26.Logout]) rfl)⟩, rfl, trivial⟩ rfl ⟨_, rfl, _, _, rfl, (SlR.mv h32 (flat1_back hb hbd)), (SlR.mv h34 (flat1_back hb hbd)), (hb.below (flat1_le _))⟩
theorem client_Clients_Register__nil_ok (w0 : World) (hg : Gs w0) {ρA : Tags} (hbd : ∀ b, ρA b ≠ 0 → b < w0.heap.size) (hz : Gz ρA) {c_1 : api_Client} {v1 : Value} {v3 : Value} {r : Int} (h2 : SlR strC (Wb ρA) w0 v1 c_1.Redirects) (h4 : SlR strC (Wb ρA) w0 v3 c_1.Scopes) (hS : client_Clients_Register__nil c_1 = some r) :
  Calls Tryz.prog 17 #[.pointer none, .agg #[str c_1.ID, .int .i64 c_1.Kind, str c_1.Tenant, str c_1.Secret.Salt, .int .i64 c_1.Secret.Rounds, str c_1.Secret.Hash, v1, v3, str c_1.Logout]] w0 (Ret (fun v w' => v = .int .i64 r ∧ Below w0.heap.size w0 w')) := by
 unfold client_Clients_Register__nil at hS
 have hb := flat1_fr (ρ := ρA) (w := w0) hbd
 have hz := hz.flat1
 replace h2 := SlR.mv h2 flat1_rd
 replace h4 := SlR.mv h4 flat1_rd
 refine calls_of_ke Tryz.func17 rfl (n := 44) rfl rfl (l := [(0, .pointer none), (1, .agg #[str c_1.ID, .int .i64 c_1.Kind, str c_1.Tenant, str c_1.Secret.Salt, .int .i64 c_1.Secret.Rounds, str c_1.Secret.Hash, v1, v3, str c_1.Logout])]) rfl ?_
 refine ke_seq ?_
 refine ke_region ?_
 refine sr_boxT 5 (by decide) hb.bd rfl (by decide) ?_
 intro g5 ρ6 w7 hB9 htr8
 replace h2 := h2.mv htr8.rd
 replace h4 := h4.mv htr8.rd
 replace hb := hb.trans htr8
 replace hB9 : Blk ρ6 5 w7 g5 (.cells #[str c_1.ID, .int .i64 c_1.Kind, str c_1.Tenant, str c_1.Secret.Salt, .int .i64 c_1.Secret.Rounds, str c_1.Secret.Hash, v1, v3, str c_1.Logout] 27 (0, 0)) := hB9
 refine sr_ev (v := .int .i64 0) (ev_assign rfl) (by decide) ?_
 refine sr_end (l' := [(0, .pointer none), (3, .pointer (some ⟨g5, 0, none⟩))]) (.cons rfl (.cons rfl (.nil _))) ?_
 refine ke_seq ?_
 refine ke_seq ?_
 refine ke_region ?_
 refine sr_ev (v := .pointer none) (ev_move rfl) (by decide) ?_
 obtain ⟨y10, hy11, hS⟩ := bind_some' hS
 obtain rfl : y10 = false := (Option.some.inj hy11).symm
 refine sr_call (vs := [.pointer none]) rfl Tryz.call50 rfl (client_Clients_ready__nil_ok _ (hg.fr hz hb) (ρA := ρ6) hb.bd (hz.fr hg hb) hy11) (by decide) ?_
 rintro _ w12 ⟨rfl, hbw13⟩
 have htr14 := Tr.of_below hbw13 hb.bd
 replace hB9 := hB9.mv (htr14.mv (i := 5) rfl)
 replace h2 := h2.mv htr14.rd
 replace h4 := h4.mv htr14.rd
 replace hb := hb.trans htr14
 refine sr_ev (v := .bool true) (ev_notc rfl rfl) (by decide) ?_
 refine sr_end (l' := [(0, .pointer none), (3, .pointer (some ⟨g5, 0, none⟩)), (10, .bool true)]) (.cons rfl (.cons rfl (.cons rfl (.nil _)))) ?_
 refine ke_cond (t := true) rfl (fun _ => ?_) (fun h => by cases h)
 refine ke_seq ?_
 refine ke_region ?_
 refine sr_ev (v := .int .i64 1) (ev_assign rfl) (by decide) ?_
 refine sr_end (l' := [(4, .int .i64 1)]) (.cons rfl (.nil _)) ?_
 cases hS
 exact ke_ret1 Tryz.func17 rfl rfl ⟨_, rfl, rfl, (hb.below (flat1_le _))⟩
theorem client_Clients_Redirect__nil_ok (w0 : World) (hg : Gs w0) {ρA : Tags} (hbd : ∀ b, ρA b ≠ 0 → b < w0.heap.size) (hz : Gz ρA) {id_1 : Str} {address_2 : Str} {r : Int} (hS : client_Clients_Redirect__nil id_1 address_2 = some r) :
  Calls Tryz.prog 27 #[.pointer none, str id_1, str address_2] w0 (Ret (fun v w' => v = .int .i64 r ∧ Below w0.heap.size w0 w')) := by
 unfold client_Clients_Redirect__nil at hS
 have hb := flat1_fr (ρ := ρA) (w := w0) hbd
 have hz := hz.flat1
 refine calls_of_ke Tryz.func27 rfl (n := 25) rfl rfl (l := [(0, .pointer none), (1, str id_1), (2, str address_2)]) rfl ?_
 refine ke_seq ?_
 refine ke_region ?_
 refine sr_ev (v := .int .i64 0) (ev_assign rfl) (by decide) ?_
 refine sr_end (l' := [(0, .pointer none), (1, str id_1), (2, str address_2)]) (.cons rfl (.cons rfl (.cons rfl (.nil _)))) ?_
 refine ke_seq ?_
 refine ke_region ?_
 refine sr_ev (v := .pointer none) (ev_move rfl) (by decide) ?_
 refine sr_ev (v := str id_1) (ev_move rfl) (by decide) ?_
 obtain ⟨y1, hy2, hS⟩ := bind_some' hS
 refine sr_call (vs := [.pointer none, str id_1]) rfl Tryz.call54 rfl (client_Clients_find__nil_ok _ (hg.fr hz hb) (ρA := (flat1 ρA)) hb.bd (hz.fr hg hb) hy2) (by decide) ?_
 rintro _ w3 ⟨v6, v8, rfl, h7, h9, hbw4⟩
 have htr5 := Tr.of_below hbw4 hb.bd
 replace hb := hb.trans htr5
 refine sr_ev (v := .tuple #[.agg #[str y1.1.ID, .int .i64 y1.1.Kind, str y1.1.Tenant, str y1.1.Secret.Salt, .int .i64 y1.1.Secret.Rounds, str y1.1.Secret.Hash, v6, v8, str y1.1.Logout], .int .i64 y1.2]) (ev_move rfl) (by decide) ?_
 refine sr_ev (v := .agg #[str y1.1.ID, .int .i64 y1.1.Kind, str y1.1.Tenant, str y1.1.Secret.Salt, .int .i64 y1.1.Secret.Rounds, str y1.1.Secret.Hash, v6, v8, str y1.1.Logout]) (ev_extract rfl rfl) (by decide) ?_
 refine sr_ev (v := .int .i64 y1.2) (ev_extract rfl rfl) (by decide) ?_
 refine sr_allocT 9 (by decide) hb.bd Tryz.zeroValue27 (by decide) ?_
 intro g10 ρ11 w12 hB14 htr13
 replace h7 := h7.mv htr13.rd
 replace h9 := h9.mv htr13.rd
 replace hb := hb.trans htr13
 replace hB14 : Blk ρ11 9 w12 g10 (.cells #[str ([]), .int .i64 0, str ([]), str ([]), .int .i64 0, str ([]), (.slice none 0 0), (.slice none 0 0), str ([])] 27 (0, 0)) := hB14
 refine sr_storeT (v := .agg #[str y1.1.ID, .int .i64 y1.1.Kind, str y1.1.Tenant, str y1.1.Secret.Salt, .int .i64 y1.1.Secret.Rounds, str y1.1.Secret.Hash, v6, v8, str y1.1.Logout]) (vs := [str y1.1.ID, .int .i64 y1.1.Kind, str y1.1.Tenant, str y1.1.Secret.Salt, .int .i64 y1.1.Secret.Rounds, str y1.1.Secret.Hash, v6, v8, str y1.1.Logout]) (cs' := #[str y1.1.ID, .int .i64 y1.1.Kind, str y1.1.Tenant, str y1.1.Secret.Salt, .int .i64 y1.1.Secret.Rounds, str y1.1.Secret.Hash, v6, v8, str y1.1.Logout]) hB14 (by decide) hb.bd rfl rfl rfl Tryz.sizeOf27 rfl (by first | rfl | (simp only [List.all_cons, List.all_nil, SlR.oneCell h7, SlR.oneCell h9]; done) | (simp only [List.all_cons, List.all_nil, SlR.oneCell h7, SlR.oneCell h9]; rfl)) rfl ?_
 intro w15 hB141 htr16
 replace h7 := h7.mv htr16.rd
 replace h9 := h9.mv htr16.rd
 replace hb := hb.trans htr16
 replace hB14 : Blk ρ11 9 w15 g10 (.cells #[str y1.1.ID, .int .i64 y1.1.Kind, str y1.1.Tenant, str y1.1.Secret.Salt, .int .i64 y1.1.Secret.Rounds, str y1.1.Secret.Hash, v6, v8, str y1.1.Logout] 27 (0, 0)) := hB141
 clear hB141
 refine sr_ev (v := .int .i64 y1.2) (ev_assign rfl) (by decide) ?_
 refine sr_end (l' := [(2, str address_2), (7, .pointer (some ⟨g10, 0, none⟩)), (8, .int .i64 y1.2)]) (.cons rfl (.cons rfl (.cons rfl (.nil _)))) ?_
 refine ke_seq ?_
 refine ke_seq ?_
 refine ke_region ?_
 refine sr_ev (v := .int .i64 y1.2) (ev_move rfl) (by decide) ?_
 refine sr_ev (v := .bool (y1.2 == 0)) (ev_eq rfl rfl) (by decide) ?_
 refine sr_ev (v := .bool (y1.2 == 0)) (ev_move rfl) (by decide) ?_
 obtain ⟨z19, hz21, hS⟩ := bind_some' hS
 refine sr_join (m := 6) (C := fun (z : Bool) w1 => z19 = z ∧ ∃ ρ1, Tr ρ11 w15 (fun _ => false) ρ1 w1) (l' := fun z => [(8, .int .i64 y1.2), (23, .bool z)]) ?_ ?_
 ·rintro _ w22 ⟨rfl, ρ23, hj20⟩
  replace hb := hb.trans hj20
  refine sr_end (l' := [(8, .int .i64 y1.2), (23, .bool z19)]) (.cons rfl (.cons rfl (.nil _))) ?_
  refine ke_cond (t := z19) rfl (fun hc30 => ?_) (fun hc30 => ?_)
  ·replace hS := ite_true' hS hc30
   refine ke_seq ?_
   refine ke_region ?_
   refine sr_ev (v := .int .i64 11) (ev_assign rfl) (by decide) ?_
   refine sr_end (l' := [(6, .int .i64 11)]) (.cons rfl (.nil _)) ?_
   cases hS
   exact ke_ret1 Tryz.func27 rfl rfl ⟨_, rfl, rfl, (hb.below (flat1_le _))⟩
  ·replace hS := ite_false' hS hc30
   refine ke_skip ?_
   refine ke_seq ?_
   refine ke_region ?_
   refine sr_ev (v := .int .i64 y1.2) (ev_move rfl) (by decide) ?_
   refine sr_ev (v := .int .i64 y1.2) (ev_assign rfl) (by decide) ?_
   refine sr_end (l' := [(6, .int .i64 y1.2)]) (.cons rfl (.nil _)) ?_
   cases hS
   exact ke_ret1 Tryz.func27 rfl rfl ⟨_, rfl, rfl, (hb.below (flat1_le _))⟩
 ·intro K18
  clear hS
  have hj20 : Tr ρ11 w15 (fun _ => false) ρ11 w15 := (Tr.refl hb.bd).weak (fun _ _ => rfl) rfl rfl
  rcases Bool.eq_false_or_eq_true (y1.2 == 0) with hg17 | hg17
  ·have hS := ite_true' hz21 hg17
   refine sr_evg (b := true) (e := 17) rfl rfl hg17 (v := .pointer (some ⟨g10, 6, none⟩)) (ev_fieldAddr (i := 4) Tryz.underlying27 rfl Tryz.info25 rfl rfl) (by decide) ?_
   refine sr_evg (b := true) (e := 17) rfl rfl hg17 (v := v6) (ev_load Tryz.isAgg25 rfl (hB14.cell rfl)) (by decide) ?_
   refine sr_evg (b := true) (e := 17) rfl rfl hg17 (v := str address_2) (ev_move rfl) (by decide) ?_
   obtain ⟨y25, hy26, hS⟩ := bind_some' hS
   refine sr_callg (b := true) (e := 17) rfl rfl hg17 (vs := [v6, str address_2]) rfl Tryz.call53 rfl (slices_Contains_string_string_ok _ (hg.fr hz hb) h7.asSl hy26) (by decide) ?_
   rintro _ w27 ⟨rfl, hbw28⟩
   have htr29 := Tr.of_below hbw28 hb.bd
   replace hb := hb.trans htr29
   replace hj20 := (hj20.trans htr29).weak (J' := (fun _ => false)) (by intro t h; simp [rng] at h ⊢ <;> omega) rfl rfl
   refine sr_evg (b := true) (e := 17) rfl rfl hg17 (v := .bool (!y25)) (ev_not rfl) (by decide) ?_
   refine sr_ev (v := .bool (!y25)) (ev_pick_t rfl hg17 rfl) (by decide) ?_
   exact sr_weaken (l' := [(8, .int .i64 y1.2), (23, .bool (!y25))]) (.cons rfl (.cons rfl (.nil _))) (K18 (!y25) _ ⟨(Option.some.inj hS).symm, _, hj20⟩)
  ·have hS := ite_false' hz21 hg17
   refine sr_pass (e := 17) rfl rfl (by rw [hg17]; rfl) (by decide) ?_
   refine sr_pass (e := 17) rfl rfl (by rw [hg17]; rfl) (by decide) ?_
   refine sr_pass (e := 17) rfl rfl (by rw [hg17]; rfl) (by decide) ?_
   refine sr_pass (e := 17) rfl rfl (by rw [hg17]; rfl) (by decide) ?_
   refine sr_pass (e := 17) rfl rfl (by rw [hg17]; rfl) (by decide) ?_
   refine sr_ev (v := .bool false) (ev_pick_f rfl hg17 rfl) (by decide) ?_
   exact sr_weaken (l' := [(8, .int .i64 y1.2), (23, .bool false)]) (.cons rfl (.cons rfl (.nil _))) (K18 false _ ⟨(Option.some.inj hS).symm, _, hj20⟩)
theorem client_Clients_Authenticate__nil_ok (w0 : World) (hg : Gs w0) {ρA : Tags} (hbd : ∀ b, ρA b ≠ 0 → b < w0.heap.size) (hz : Gz ρA) {id_1 : Str} {secret_2 : Str} {r : Int} (hS : client_Clients_Authenticate__nil id_1 secret_2 = some r) :
  Calls Tryz.prog 29 #[.pointer none, str id_1, str secret_2] w0 (Ret (fun v w' => v = .int .i64 r ∧ Below w0.heap.size w0 w')) := by
 unfold client_Clients_Authenticate__nil at hS
 have hb := flat1_fr (ρ := ρA) (w := w0) hbd
 have hz := hz.flat1
 refine calls_of_ke Tryz.func29 rfl (n := 24) rfl rfl (l := [(0, .pointer none), (1, str id_1), (2, str secret_2)]) rfl ?_
 refine ke_seq ?_
 refine ke_region ?_
 refine sr_ev (v := .int .i64 0) (ev_assign rfl) (by decide) ?_
 refine sr_end (l' := [(0, .pointer none), (1, str id_1), (2, str secret_2)]) (.cons rfl (.cons rfl (.cons rfl (.nil _)))) ?_
 refine ke_seq ?_
 refine ke_region ?_
 refine sr_ev (v := .pointer none) (ev_move rfl) (by decide) ?_
 refine sr_ev (v := str id_1) (ev_move rfl) (by decide) ?_
 obtain ⟨y1, hy2, hS⟩ := bind_some' hS
 refine sr_call (vs := [.pointer none, str id_1]) rfl Tryz.call54 rfl (client_Clients_find__nil_ok _ (hg.fr hz hb) (ρA := (flat1 ρA)) hb.bd (hz.fr hg hb) hy2) (by decide) ?_
 rintro _ w3 ⟨v6, v8, rfl, h7, h9, hbw4⟩
 have htr5 := Tr.of_below hbw4 hb.bd
 replace hb := hb.trans htr5
 refine sr_ev (v := .tuple #[.agg #[str y1.1.ID, .int .i64 y1.1.Kind, str y1.1.Tenant, str y1.1.Secret.Salt, .int .i64 y1.1.Secret.Rounds, str y1.1.Secret.Hash, v6, v8, str y1.1.Logout], .int .i64 y1.2]) (ev_move rfl) (by decide) ?_
 refine sr_ev (v := .agg #[str y1.1.ID, .int .i64 y1.1.Kind, str y1.1.Tenant, str y1.1.Secret.Salt, .int .i64 y1.1.Secret.Rounds, str y1.1.Secret.Hash, v6, v8, str y1.1.Logout]) (ev_extract rfl rfl) (by decide) ?_
 refine sr_ev (v := .int .i64 y1.2) (ev_extract rfl rfl) (by decide) ?_
 refine sr_allocT 9 (by decide) hb.bd Tryz.zeroValue27 (by decide) ?_
 intro g10 ρ11 w12 hB14 htr13
 replace h7 := h7.mv htr13.rd
 replace h9 := h9.mv htr13.rd
 replace hb := hb.trans htr13
 replace hB14 : Blk ρ11 9 w12 g10 (.cells #[str ([]), .int .i64 0, str ([]), str ([]), .int .i64 0, str ([]), (.slice none 0 0), (.slice none 0 0), str ([])] 27 (0, 0)) := hB14
 refine sr_storeT (v := .agg #[str y1.1.ID, .int .i64 y1.1.Kind, str y1.1.Tenant, str y1.1.Secret.Salt, .int .i64 y1.1.Secret.Rounds, str y1.1.Secret.Hash, v6, v8, str y1.1.Logout]) (vs := [str y1.1.ID, .int .i64 y1.1.Kind, str y1.1.Tenant, str y1.1.Secret.Salt, .int .i64 y1.1.Secret.Rounds, str y1.1.Secret.Hash, v6, v8, str y1.1.Logout]) (cs' := #[str y1.1.ID, .int .i64 y1.1.Kind, str y1.1.Tenant, str y1.1.Secret.Salt, .int .i64 y1.1.Secret.Rounds, str y1.1.Secret.Hash, v6, v8, str y1.1.Logout]) hB14 (by decide) hb.bd rfl rfl rfl Tryz.sizeOf27 rfl (by first | rfl | (simp only [List.all_cons, List.all_nil, SlR.oneCell h7, SlR.oneCell h9]; done) | (simp only [List.all_cons, List.all_nil, SlR.oneCell h7, SlR.oneCell h9]; rfl)) rfl ?_
 intro w15 hB141 htr16
 replace h7 := h7.mv htr16.rd
 replace h9 := h9.mv htr16.rd
 replace hb := hb.trans htr16
 replace hB14 : Blk ρ11 9 w15 g10 (.cells #[str y1.1.ID, .int .i64 y1.1.Kind, str y1.1.Tenant, str y1.1.Secret.Salt, .int .i64 y1.1.Secret.Rounds, str y1.1.Secret.Hash, v6, v8, str y1.1.Logout] 27 (0, 0)) := hB141
 clear hB141
 refine sr_ev (v := .int .i64 y1.2) (ev_assign rfl) (by decide) ?_
 refine sr_end (l' := [(2, str secret_2), (7, .pointer (some ⟨g10, 0, none⟩)), (8, .int .i64 y1.2)]) (.cons rfl (.cons rfl (.cons rfl (.nil _)))) ?_
 refine ke_seq ?_
 refine ke_seq ?_
 refine ke_region ?_
 refine sr_ev (v := .int .i64 y1.2) (ev_move rfl) (by decide) ?_
 refine sr_ev (v := .bool (y1.2 == 0)) (ev_eq rfl rfl) (by decide) ?_
 refine sr_ev (v := .bool (y1.2 == 0)) (ev_move rfl) (by decide) ?_
 obtain ⟨z19, hz21, hS⟩ := bind_some' hS
 refine sr_join (m := 5) (C := fun (z : Bool) w1 => z19 = z ∧ ∃ ρ1, Tr ρ11 w15 (fun _ => false) ρ1 w1) (l' := fun z => [(8, .int .i64 y1.2), (22, .bool z)]) ?_ ?_
 ·rintro _ w22 ⟨rfl, ρ23, hj20⟩
  replace hb := hb.trans hj20
  refine sr_end (l' := [(8, .int .i64 y1.2), (22, .bool z19)]) (.cons rfl (.cons rfl (.nil _))) ?_
  refine ke_cond (t := z19) rfl (fun hc30 => ?_) (fun hc30 => ?_)
  ·replace hS := ite_true' hS hc30
   refine ke_seq ?_
   refine ke_region ?_
   refine sr_ev (v := .int .i64 11) (ev_assign rfl) (by decide) ?_
   refine sr_end (l' := [(6, .int .i64 11)]) (.cons rfl (.nil _)) ?_
   cases hS
   exact ke_ret1 Tryz.func29 rfl rfl ⟨_, rfl, rfl, (hb.below (flat1_le _))⟩
  ·replace hS := ite_false' hS hc30
   refine ke_skip ?_
   refine ke_seq ?_
   refine ke_region ?_
   refine sr_ev (v := .int .i64 y1.2) (ev_move rfl) (by decide) ?_
   refine sr_ev (v := .int .i64 y1.2) (ev_assign rfl) (by decide) ?_
   refine sr_end (l' := [(6, .int .i64 y1.2)]) (.cons rfl (.nil _)) ?_
   cases hS
   exact ke_ret1 Tryz.func29 rfl rfl ⟨_, rfl, rfl, (hb.below (flat1_le _))⟩
 ·intro K18
  clear hS
  have hj20 : Tr ρ11 w15 (fun _ => false) ρ11 w15 := (Tr.refl hb.bd).weak (fun _ _ => rfl) rfl rfl
  rcases Bool.eq_false_or_eq_true (y1.2 == 0) with hg17 | hg17
  ·have hS := ite_true' hz21 hg17
   refine sr_evg (b := true) (e := 17) rfl rfl hg17 (v := .agg #[str y1.1.ID, .int .i64 y1.1.Kind, str y1.1.Tenant, str y1.1.Secret.Salt, .int .i64 y1.1.Secret.Rounds, str y1.1.Secret.Hash, v6, v8, str y1.1.Logout]) (ev_loads (cs := [str y1.1.ID, .int .i64 y1.1.Kind, str y1.1.Tenant, str y1.1.Secret.Salt, .int .i64 y1.1.Secret.Rounds, str y1.1.Secret.Hash, v6, v8, str y1.1.Logout]) Tryz.isAgg27 Tryz.sizeOf27 rfl (hB14.cells (vs := [str y1.1.ID, .int .i64 y1.1.Kind, str y1.1.Tenant, str y1.1.Secret.Salt, .int .i64 y1.1.Secret.Rounds, str y1.1.Secret.Hash, v6, v8, str y1.1.Logout]) rfl)) (by decide) ?_
   refine sr_evg (b := true) (e := 17) rfl rfl hg17 (v := str secret_2) (ev_move rfl) (by decide) ?_
   obtain ⟨y25, hy26, hS⟩ := bind_some' hS
   refine sr_callg (b := true) (e := 17) rfl rfl hg17 (vs := [.agg #[str y1.1.ID, .int .i64 y1.1.Kind, str y1.1.Tenant, str y1.1.Secret.Salt, .int .i64 y1.1.Secret.Rounds, str y1.1.Secret.Hash, v6, v8, str y1.1.Logout], str secret_2]) rfl Tryz.call59 rfl (client_accepts_ok _ (hg.fr hz hb) (ρA := ρ11) hb.bd (hz.fr hg hb) h7 h9 hy26) (by decide) ?_
   rintro _ w27 ⟨rfl, hbw28⟩
   have htr29 := Tr.of_below hbw28 hb.bd
   replace hb := hb.trans htr29
   replace hj20 := (hj20.trans htr29).weak (J' := (fun _ => false)) (by intro t h; simp [rng] at h ⊢ <;> omega) rfl rfl
   refine sr_evg (b := true) (e := 17) rfl rfl hg17 (v := .bool (!y25)) (ev_not rfl) (by decide) ?_
   refine sr_ev (v := .bool (!y25)) (ev_pick_t rfl hg17 rfl) (by decide) ?_
   exact sr_weaken (l' := [(8, .int .i64 y1.2), (22, .bool (!y25))]) (.cons rfl (.cons rfl (.nil _))) (K18 (!y25) _ ⟨(Option.some.inj hS).symm, _, hj20⟩)
  ·have hS := ite_false' hz21 hg17
   refine sr_pass (e := 17) rfl rfl (by rw [hg17]; rfl) (by decide) ?_
   refine sr_pass (e := 17) rfl rfl (by rw [hg17]; rfl) (by decide) ?_
   refine sr_pass (e := 17) rfl rfl (by rw [hg17]; rfl) (by decide) ?_
   refine sr_pass (e := 17) rfl rfl (by rw [hg17]; rfl) (by decide) ?_
   refine sr_ev (v := .bool false) (ev_pick_f rfl hg17 rfl) (by decide) ?_
   exact sr_weaken (l' := [(8, .int .i64 y1.2), (22, .bool false)]) (.cons rfl (.cons rfl (.nil _))) (K18 false _ ⟨(Option.some.inj hS).symm, _, hj20⟩)
theorem client_Clients_Allowed__nil_ok (w0 : World) (hg : Gs w0) {ρA : Tags} (hbd : ∀ b, ρA b ≠ 0 → b < w0.heap.size) (hz : Gz ρA) {id_1 : Str} {scopes_2 : List Str} {v1 : Value} {r : Int} (h2 : SlR strC (Wb ρA) w0 v1 scopes_2) (hS : client_Clients_Allowed__nil id_1 scopes_2 = some r) :
  Calls Tryz.prog 19 #[.pointer none, str id_1, v1] w0 (Ret (fun v w' => v = .int .i64 r ∧ Below w0.heap.size w0 w')) := by
 unfold client_Clients_Allowed__nil at hS
 have hb := flat1_fr (ρ := ρA) (w := w0) hbd
 have hz := hz.flat1
 replace h2 := SlR.mv h2 flat1_rd
 refine calls_of_ke Tryz.func19 rfl (n := 25) rfl rfl (l := [(0, .pointer none), (1, str id_1), (2, v1)]) rfl ?_
 refine ke_seq ?_
 refine ke_region ?_
 refine sr_ev (v := .int .i64 0) (ev_assign rfl) (by decide) ?_
 refine sr_end (l' := [(0, .pointer none), (1, str id_1), (2, v1)]) (.cons rfl (.cons rfl (.cons rfl (.nil _)))) ?_
 refine ke_seq ?_
 refine ke_region ?_
 refine sr_ev (v := .pointer none) (ev_move rfl) (by decide) ?_
 refine sr_ev (v := str id_1) (ev_move rfl) (by decide) ?_
 obtain ⟨y3, hy4, hS⟩ := bind_some' hS
 refine sr_call (vs := [.pointer none, str id_1]) rfl Tryz.call54 rfl (client_Clients_find__nil_ok _ (hg.fr hz hb) (ρA := (flat1 ρA)) hb.bd (hz.fr hg hb) hy4) (by decide) ?_
 rintro _ w5 ⟨v8, v10, rfl, h9, h11, hbw6⟩
 have htr7 := Tr.of_below hbw6 hb.bd
 replace h2 := h2.mv htr7.rd
 replace hb := hb.trans htr7
 refine sr_ev (v := .tuple #[.agg #[str y3.1.ID, .int .i64 y3.1.Kind, str y3.1.Tenant, str y3.1.Secret.Salt, .int .i64 y3.1.Secret.Rounds, str y3.1.Secret.Hash, v8, v10, str y3.1.Logout], .int .i64 y3.2]) (ev_move rfl) (by decide) ?_
 refine sr_ev (v := .agg #[str y3.1.ID, .int .i64 y3.1.Kind, str y3.1.Tenant, str y3.1.Secret.Salt, .int .i64 y3.1.Secret.Rounds, str y3.1.Secret.Hash, v8, v10, str y3.1.Logout]) (ev_extract rfl rfl) (by decide) ?_
 refine sr_ev (v := .int .i64 y3.2) (ev_extract rfl rfl) (by decide) ?_
 refine sr_allocT 9 (by decide) hb.bd Tryz.zeroValue27 (by decide) ?_
 intro g12 ρ13 w14 hB16 htr15
 replace h2 := h2.mv htr15.rd
 replace h9 := h9.mv htr15.rd
 replace h11 := h11.mv htr15.rd
 replace hb := hb.trans htr15
 replace hB16 : Blk ρ13 9 w14 g12 (.cells #[str ([]), .int .i64 0, str ([]), str ([]), .int .i64 0, str ([]), (.slice none 0 0), (.slice none 0 0), str ([])] 27 (0, 0)) := hB16
 refine sr_storeT (v := .agg #[str y3.1.ID, .int .i64 y3.1.Kind, str y3.1.Tenant, str y3.1.Secret.Salt, .int .i64 y3.1.Secret.Rounds, str y3.1.Secret.Hash, v8, v10, str y3.1.Logout]) (vs := [str y3.1.ID, .int .i64 y3.1.Kind, str y3.1.Tenant, str y3.1.Secret.Salt, .int .i64 y3.1.Secret.Rounds, str y3.1.Secret.Hash, v8, v10, str y3.1.Logout]) (cs' := #[str y3.1.ID, .int .i64 y3.1.Kind, str y3.1.Tenant, str y3.1.Secret.Salt, .int .i64 y3.1.Secret.Rounds, str y3.1.Secret.Hash, v8, v10, str y3.1.Logout]) hB16 (by decide) hb.bd rfl rfl rfl Tryz.sizeOf27 rfl (by first | rfl | (simp only [List.all_cons, List.all_nil, SlR.oneCell h9, SlR.oneCell h11]; done) | (simp only [List.all_cons, List.all_nil, SlR.oneCell h9, SlR.oneCell h11]; rfl)) rfl ?_
 intro w17 hB161 htr18
 replace h2 := h2.mv htr18.rd
 replace h9 := h9.mv htr18.rd
 replace h11 := h11.mv htr18.rd
 replace hb := hb.trans htr18
 replace hB16 : Blk ρ13 9 w17 g12 (.cells #[str y3.1.ID, .int .i64 y3.1.Kind, str y3.1.Tenant, str y3.1.Secret.Salt, .int .i64 y3.1.Secret.Rounds, str y3.1.Secret.Hash, v8, v10, str y3.1.Logout] 27 (0, 0)) := hB161
 clear hB161
 refine sr_ev (v := .int .i64 y3.2) (ev_assign rfl) (by decide) ?_
 refine sr_end (l' := [(2, v1), (7, .pointer (some ⟨g12, 0, none⟩)), (8, .int .i64 y3.2)]) (.cons rfl (.cons rfl (.cons rfl (.nil _)))) ?_
 refine ke_seq ?_
 refine ke_seq ?_
 refine ke_region ?_
 refine sr_ev (v := .int .i64 y3.2) (ev_move rfl) (by decide) ?_
 refine sr_ev (v := .bool (y3.2 == 0)) (ev_eq rfl rfl) (by decide) ?_
 refine sr_ev (v := .bool (y3.2 == 0)) (ev_move rfl) (by decide) ?_
 obtain ⟨z21, hz23, hS⟩ := bind_some' hS
 refine sr_join (m := 6) (C := fun (z : Bool) w1 => z21 = z ∧ ∃ ρ1, Tr ρ13 w17 (fun _ => false) ρ1 w1) (l' := fun z => [(8, .int .i64 y3.2), (23, .bool z)]) ?_ ?_
 ·rintro _ w24 ⟨rfl, ρ25, hj22⟩
  replace hb := hb.trans hj22
  refine sr_end (l' := [(8, .int .i64 y3.2), (23, .bool z21)]) (.cons rfl (.cons rfl (.nil _))) ?_
  refine ke_cond (t := z21) rfl (fun hc32 => ?_) (fun hc32 => ?_)
  ·replace hS := ite_true' hS hc32
   refine ke_seq ?_
   refine ke_region ?_
   refine sr_ev (v := .int .i64 19) (ev_assign rfl) (by decide) ?_
   refine sr_end (l' := [(6, .int .i64 19)]) (.cons rfl (.nil _)) ?_
   cases hS
   exact ke_ret1 Tryz.func19 rfl rfl ⟨_, rfl, rfl, (hb.below (flat1_le _))⟩
  ·replace hS := ite_false' hS hc32
   refine ke_skip ?_
   refine ke_seq ?_
   refine ke_region ?_
   refine sr_ev (v := .int .i64 y3.2) (ev_move rfl) (by decide) ?_
   refine sr_ev (v := .int .i64 y3.2) (ev_assign rfl) (by decide) ?_
   refine sr_end (l' := [(6, .int .i64 y3.2)]) (.cons rfl (.nil _)) ?_
   cases hS
   exact ke_ret1 Tryz.func19 rfl rfl ⟨_, rfl, rfl, (hb.below (flat1_le _))⟩
 ·intro K20
  clear hS
  have hj22 : Tr ρ13 w17 (fun _ => false) ρ13 w17 := (Tr.refl hb.bd).weak (fun _ _ => rfl) rfl rfl
  rcases Bool.eq_false_or_eq_true (y3.2 == 0) with hg19 | hg19
  ·have hS := ite_true' hz23 hg19
   refine sr_evg (b := true) (e := 17) rfl rfl hg19 (v := v1) (ev_move rfl) (by decide) ?_
   refine sr_evg (b := true) (e := 17) rfl rfl hg19 (v := .pointer (some ⟨g12, 7, none⟩)) (ev_fieldAddr (i := 5) Tryz.underlying27 rfl Tryz.info25 rfl rfl) (by decide) ?_
   refine sr_evg (b := true) (e := 17) rfl rfl hg19 (v := v10) (ev_load Tryz.isAgg25 rfl (hB16.cell rfl)) (by decide) ?_
   obtain ⟨y27, hy28, hS⟩ := bind_some' hS
   refine sr_callg (b := true) (e := 17) rfl rfl hg19 (vs := [v1, v10]) rfl Tryz.call20 rfl (scope_Within_ok _ (hg.fr hz hb) h2.asSl h11.asSl hy28) (by decide) ?_
   rintro _ w29 ⟨rfl, hbw30⟩
   have htr31 := Tr.of_below hbw30 hb.bd
   replace hb := hb.trans htr31
   replace hj22 := (hj22.trans htr31).weak (J' := (fun _ => false)) (by intro t h; simp [rng] at h ⊢ <;> omega) rfl rfl
   refine sr_evg (b := true) (e := 17) rfl rfl hg19 (v := .bool (!y27)) (ev_not rfl) (by decide) ?_
   refine sr_ev (v := .bool (!y27)) (ev_pick_t rfl hg19 rfl) (by decide) ?_
   exact sr_weaken (l' := [(8, .int .i64 y3.2), (23, .bool (!y27))]) (.cons rfl (.cons rfl (.nil _))) (K20 (!y27) _ ⟨(Option.some.inj hS).symm, _, hj22⟩)
  ·have hS := ite_false' hz23 hg19
   refine sr_pass (e := 17) rfl rfl (by rw [hg19]; rfl) (by decide) ?_
   refine sr_pass (e := 17) rfl rfl (by rw [hg19]; rfl) (by decide) ?_
   refine sr_pass (e := 17) rfl rfl (by rw [hg19]; rfl) (by decide) ?_
   refine sr_pass (e := 17) rfl rfl (by rw [hg19]; rfl) (by decide) ?_
   refine sr_pass (e := 17) rfl rfl (by rw [hg19]; rfl) (by decide) ?_
   refine sr_ev (v := .bool false) (ev_pick_f rfl hg19 rfl) (by decide) ?_
   exact sr_weaken (l' := [(8, .int .i64 y3.2), (23, .bool false)]) (.cons rfl (.cons rfl (.nil _))) (K20 false _ ⟨(Option.some.inj hS).symm, _, hj22⟩)
theorem client_Clients_Remove__nil_B1_ok {w0 : World} (hg : Gs w0) {ρA : Tags} (hbd : ∀ b, ρA b ≠ 0 → b < w0.heap.size) (hz : Gz (flat1 ρA)) {r : Bool} {e_6 : Int} (hS : client_Clients_Remove__nil_B1 e_6 = some r) {ρ : Tags} {w : World} (hb : Fr (flat1 ρA) w0 ρ w) :
  KE Tryz.prog 32 (Ret (fun v w' => v = .bool r ∧ Below w0.heap.size w0 w')) 22 [.code (sub (bodyOf Tryz.f32) [2, 2, 2])] [(6, .int .i64 e_6)] w := by
 unfold client_Clients_Remove__nil_B1 at hS
 refine ke_seq ?_
 refine ke_region ?_
 refine sr_ev (v := .int .i64 e_6) (ev_move rfl) (by decide) ?_
 refine sr_ev (v := .bool (e_6 == 0)) (ev_eq rfl rfl) (by decide) ?_
 refine sr_ev (v := .bool (e_6 == 0)) (ev_assign rfl) (by decide) ?_
 refine sr_end (l' := [(4, .bool (e_6 == 0))]) (.cons rfl (.nil _)) ?_
 cases hS
 exact ke_ret1 Tryz.func32 rfl rfl ⟨_, rfl, rfl, (hb.below (flat1_le _))⟩
theorem client_Clients_Remove__nil_ok (w0 : World) (hg : Gs w0) {ρA : Tags} (hbd : ∀ b, ρA b ≠ 0 → b < w0.heap.size) (hz : Gz ρA) {id_1 : Str} {r : Bool} (hS : client_Clients_Remove__nil id_1 = some r) :
  Calls Tryz.prog 32 #[.pointer none, str id_1] w0 (Ret (fun v w' => v = .bool r ∧ Below w0.heap.size w0 w')) := by
 unfold client_Clients_Remove__nil at hS
 have hb := flat1_fr (ρ := ρA) (w := w0) hbd
 have hz := hz.flat1
 refine calls_of_ke Tryz.func32 rfl (n := 22) rfl rfl (l := [(0, .pointer none), (1, str id_1)]) rfl ?_
 refine ke_seq ?_
 refine ke_region ?_
 refine sr_ev (v := .bool false) (ev_assign rfl) (by decide) ?_
 refine sr_end (l' := [(0, .pointer none), (1, str id_1)]) (.cons rfl (.cons rfl (.nil _))) ?_
 refine ke_seq ?_
 refine ke_region ?_
 refine sr_ev (v := .pointer none) (ev_move rfl) (by decide) ?_
 refine sr_ev (v := str id_1) (ev_move rfl) (by decide) ?_
 obtain ⟨y1, hy2, hS⟩ := bind_some' hS
 refine sr_call (vs := [.pointer none, str id_1]) rfl Tryz.call54 rfl (client_Clients_find__nil_ok _ (hg.fr hz hb) (ρA := (flat1 ρA)) hb.bd (hz.fr hg hb) hy2) (by decide) ?_
 rintro _ w3 ⟨v6, v8, rfl, h7, h9, hbw4⟩
 have htr5 := Tr.of_below hbw4 hb.bd
 replace hb := hb.trans htr5
 refine sr_ev (v := .tuple #[.agg #[str y1.1.ID, .int .i64 y1.1.Kind, str y1.1.Tenant, str y1.1.Secret.Salt, .int .i64 y1.1.Secret.Rounds, str y1.1.Secret.Hash, v6, v8, str y1.1.Logout], .int .i64 y1.2]) (ev_move rfl) (by decide) ?_
 refine sr_ev (v := .agg #[str y1.1.ID, .int .i64 y1.1.Kind, str y1.1.Tenant, str y1.1.Secret.Salt, .int .i64 y1.1.Secret.Rounds, str y1.1.Secret.Hash, v6, v8, str y1.1.Logout]) (ev_extract rfl rfl) (by decide) ?_
 refine sr_ev (v := .int .i64 y1.2) (ev_extract rfl rfl) (by decide) ?_
 refine sr_allocT 7 (by decide) hb.bd Tryz.zeroValue27 (by decide) ?_
 intro g10 ρ11 w12 hB14 htr13
 replace h7 := h7.mv htr13.rd
 replace h9 := h9.mv htr13.rd
 replace hb := hb.trans htr13
 replace hB14 : Blk ρ11 7 w12 g10 (.cells #[str ([]), .int .i64 0, str ([]), str ([]), .int .i64 0, str ([]), (.slice none 0 0), (.slice none 0 0), str ([])] 27 (0, 0)) := hB14
 refine sr_storeT (v := .agg #[str y1.1.ID, .int .i64 y1.1.Kind, str y1.1.Tenant, str y1.1.Secret.Salt, .int .i64 y1.1.Secret.Rounds, str y1.1.Secret.Hash, v6, v8, str y1.1.Logout]) (vs := [str y1.1.ID, .int .i64 y1.1.Kind, str y1.1.Tenant, str y1.1.Secret.Salt, .int .i64 y1.1.Secret.Rounds, str y1.1.Secret.Hash, v6, v8, str y1.1.Logout]) (cs' := #[str y1.1.ID, .int .i64 y1.1.Kind, str y1.1.Tenant, str y1.1.Secret.Salt, .int .i64 y1.1.Secret.Rounds, str y1.1.Secret.Hash, v6, v8, str y1.1.Logout]) hB14 (by decide) hb.bd rfl rfl rfl Tryz.sizeOf27 rfl (by first | rfl | (simp only [List.all_cons, List.all_nil, SlR.oneCell h7, SlR.oneCell h9]; done) | (simp only [List.all_cons, List.all_nil, SlR.oneCell h7, SlR.oneCell h9]; rfl)) rfl ?_
 intro w15 hB141 htr16
 replace h7 := h7.mv htr16.rd
 replace h9 := h9.mv htr16.rd
 replace hb := hb.trans htr16
 replace hB14 : Blk ρ11 7 w15 g10 (.cells #[str y1.1.ID, .int .i64 y1.1.Kind, str y1.1.Tenant, str y1.1.Secret.Salt, .int .i64 y1.1.Secret.Rounds, str y1.1.Secret.Hash, v6, v8, str y1.1.Logout] 27 (0, 0)) := hB141
 clear hB141
 refine sr_ev (v := .int .i64 y1.2) (ev_assign rfl) (by decide) ?_
 refine sr_end (l' := [(0, .pointer none), (1, str id_1), (6, .int .i64 y1.2)]) (.cons rfl (.cons rfl (.cons rfl (.nil _)))) ?_
 refine ke_seq ?_
 refine ke_seq ?_
 refine ke_region ?_
 refine sr_ev (v := .int .i64 y1.2) (ev_move rfl) (by decide) ?_
 refine sr_ev (v := .bool (y1.2 == 0)) (ev_eq rfl rfl) (by decide) ?_
 refine sr_end (l' := [(0, .pointer none), (1, str id_1), (6, .int .i64 y1.2), (14, .bool (y1.2 == 0))]) (.cons rfl (.cons rfl (.cons rfl (.cons rfl (.nil _))))) ?_
 refine ke_cond (t := y1.2 == 0) rfl (fun hc17 => ?_) (fun hc17 => ?_)
 ·replace hS := ite_true' hS hc17
  refine ke_region ?_
  refine sr_ev (v := .pointer none) (ev_move rfl) (by decide) ?_
  cases hS
 ·replace hS := ite_false' hS hc17
  refine ke_skip ?_
  have hK := client_Clients_Remove__nil_B1_ok hg hbd hz hS hb
  exact ke_weaken (l' := [(6, .int .i64 y1.2)]) (.cons rfl (.nil _)) hK
theorem client_Clients_List__nil_ok (w0 : World) (hg : Gs w0) {ρA : Tags} (hbd : ∀ b, ρA b ≠ 0 → b < w0.heap.size) (hz : Gz ρA) {r : List Str} (hS : client_Clients_List__nil = some r) :
  Calls Tryz.prog 35 #[.pointer none] w0 (Ret (fun v w' => ∃ x1, v = x1 ∧ SlR strC (Wb ρA) w' x1 r ∧ Below w0.heap.size w0 w')) := by
 unfold client_Clients_List__nil at hS
 have hb := flat1_fr (ρ := ρA) (w := w0) hbd
 have hz := hz.flat1
 refine calls_of_ke Tryz.func35 rfl (n := 12) rfl rfl (l := [(0, .pointer none)]) rfl ?_
 refine ke_seq ?_
 refine ke_region ?_
 refine sr_ev (v := .slice none 0 0) (ev_assign rfl) (by decide) ?_
 refine sr_end (l' := [(0, .pointer none)]) (.cons rfl (.nil _)) ?_
 refine ke_seq ?_
 refine ke_seq ?_
 refine ke_region ?_
 refine sr_ev (v := .pointer none) (ev_move rfl) (by decide) ?_
 obtain ⟨y3, hy4, hS⟩ := bind_some' hS
 obtain rfl : y3 = false := (Option.some.inj hy4).symm
 refine sr_call (vs := [.pointer none]) rfl Tryz.call50 rfl (client_Clients_ready__nil_ok _ (hg.fr hz hb) (ρA := (flat1 ρA)) hb.bd (hz.fr hg hb) hy4) (by decide) ?_
 rintro _ w5 ⟨rfl, hbw6⟩
 have htr7 := Tr.of_below hbw6 hb.bd
 replace hb := hb.trans htr7
 refine sr_ev (v := .bool true) (ev_notc rfl rfl) (by decide) ?_
 refine sr_end (l' := [(0, .pointer none), (5, .bool true)]) (.cons rfl (.cons rfl (.nil _))) ?_
 refine ke_cond (t := true) rfl (fun _ => ?_) (fun h => by cases h)
 refine ke_seq ?_
 refine ke_region ?_
 refine sr_ev (v := .slice none 0 0) (ev_assign rfl) (by decide) ?_
 refine sr_end (l' := [(2, .slice none 0 0)]) (.cons rfl (.nil _)) ?_
 cases hS
 exact ke_ret1 Tryz.func35 rfl rfl ⟨_, rfl, _, rfl, SlR.nil, (hb.below (flat1_le _))⟩
theorem client_Clients_Get_ok (w0 : World) (hg : Gs w0) {ρA : Tags} (hbd : ∀ b, ρA b ≠ 0 → b < w0.heap.size) (hz : Gz ρA) {τ0 : Nat → Nat} (hτ0 : ∀ p, 1 ≤ τ0 p) {r_0 : client_Clients} {id_1 : Str} {gr_0 : Nat} {r : api_Client × Bool} (ho0 : client_Clients.O τ0 ρA w0 gr_0 r_0) (hS : client_Clients_Get r_0 id_1 = some r) :
  Calls Tryz.prog 24 #[.pointer (some ⟨gr_0, 0, none⟩), str id_1] w0 (Ret (fun v w' => ∃ x1 x2, v = .tuple #[.agg #[str r.1.ID, .int .i64 r.1.Kind, str r.1.Tenant, str r.1.Secret.Salt, .int .i64 r.1.Secret.Rounds, str r.1.Secret.Hash, x1, x2, str r.1.Logout], .bool r.2] ∧ SlR strC (Wb ρA) w' x1 r.1.Redirects ∧ SlR strC (Wb ρA) w' x2 r.1.Scopes ∧ Below w0.heap.size w0 w')) := by
 unfold client_Clients_Get at hS
 have hb := flat1_fr (ρ := ρA) (w := w0) hbd
 have hz := hz.flat1
 obtain ⟨v1, hB3, h2⟩ := ho0
 replace hB3 := hB3.mv (flat1_mv (hτ0 0))
 replace h2 := h2.mv (flat1_mv (hτ0 1))
 replace hB3 : Blk (flat1 ρA) 1 w0 gr_0 (.cells #[v1] 57 (0, 0)) := hB3
 replace h2 : MapT str api_Client.c true (flat1 ρA) 1 w0 v1 r_0.of_ := h2
 refine calls_of_ke Tryz.func24 rfl (n := 18) rfl rfl (l := [(0, .pointer (some ⟨gr_0, 0, none⟩)), (1, str id_1)]) rfl ?_
 refine ke_seq ?_
 refine ke_region ?_
 refine sr_allocT 6 (by decide) hb.bd Tryz.zeroValue27 (by decide) ?_
 intro g8 ρ9 w10 hB12 htr11
 replace hB3 := hB3.mv (htr11.mv (i := 1) rfl)
 replace h2 := h2.mv (htr11.mv (i := 1) rfl)
 replace hb := hb.trans htr11
 replace hB12 : Blk ρ9 6 w10 g8 (.cells #[str ([]), .int .i64 0, str ([]), str ([]), .int .i64 0, str ([]), (.slice none 0 0), (.slice none 0 0), str ([])] 27 (0, 0)) := hB12
 refine sr_ev (v := .bool false) (ev_assign rfl) (by decide) ?_
 refine sr_end (l' := [(0, .pointer (some ⟨gr_0, 0, none⟩)), (1, str id_1), (4, .pointer (some ⟨g8, 0, none⟩))]) (.cons rfl (.cons rfl (.cons rfl (.nil _)))) ?_
 refine ke_seq ?_
 refine ke_region ?_
 refine sr_ev (v := .pointer (some ⟨gr_0, 0, none⟩)) (ev_move rfl) (by decide) ?_
 refine sr_ev (v := str id_1) (ev_move rfl) (by decide) ?_
 obtain ⟨y13, hy14, hS⟩ := bind_some' hS
 refine sr_call (vs := [.pointer (some ⟨gr_0, 0, none⟩), str id_1]) rfl Tryz.call54 rfl (client_Clients_find_ok _ (hg.fr hz hb) (ρA := ρ9) hb.bd (hz.fr hg hb) (τ0 := (fun _ => 1)) (fun _ => by decide) (⟨_, hB3, h2⟩ : client_Clients.O (fun _ => 1) ρ9 w10 gr_0 r_0) hy14) (by decide) ?_
 rintro _ w15 ⟨v18, v20, rfl, h19, h21, hbw16⟩
 have htr17 := Tr.of_below hbw16 hb.bd
 replace hB12 := hB12.mv (htr17.mv (i := 6) rfl)
 replace hb := hb.trans htr17
 refine sr_ev (v := .tuple #[.agg #[str y13.1.ID, .int .i64 y13.1.Kind, str y13.1.Tenant, str y13.1.Secret.Salt, .int .i64 y13.1.Secret.Rounds, str y13.1.Secret.Hash, v18, v20, str y13.1.Logout], .int .i64 y13.2]) (ev_move rfl) (by decide) ?_
 refine sr_ev (v := .agg #[str y13.1.ID, .int .i64 y13.1.Kind, str y13.1.Tenant, str y13.1.Secret.Salt, .int .i64 y13.1.Secret.Rounds, str y13.1.Secret.Hash, v18, v20, str y13.1.Logout]) (ev_extract rfl rfl) (by decide) ?_
 refine sr_ev (v := .int .i64 y13.2) (ev_extract rfl rfl) (by decide) ?_
 refine sr_allocT 8 (by decide) hb.bd Tryz.zeroValue27 (by decide) ?_
 intro g22 ρ23 w24 hB26 htr25
 replace h19 := h19.mv htr25.rd
 replace h21 := h21.mv htr25.rd
 replace hB12 := hB12.mv (htr25.mv (i := 6) rfl)
 replace hb := hb.trans htr25
 replace hB26 : Blk ρ23 8 w24 g22 (.cells #[str ([]), .int .i64 0, str ([]), str ([]), .int .i64 0, str ([]), (.slice none 0 0), (.slice none 0 0), str ([])] 27 (0, 0)) := hB26
 refine sr_storeT (v := .agg #[str y13.1.ID, .int .i64 y13.1.Kind, str y13.1.Tenant, str y13.1.Secret.Salt, .int .i64 y13.1.Secret.Rounds, str y13.1.Secret.Hash, v18, v20, str y13.1.Logout]) (vs := [str y13.1.ID, .int .i64 y13.1.Kind, str y13.1.Tenant, str y13.1.Secret.Salt, .int .i64 y13.1.Secret.Rounds, str y13.1.Secret.Hash, v18, v20, str y13.1.Logout]) (cs' := #[str y13.1.ID, .int .i64 y13.1.Kind, str y13.1.Tenant, str y13.1.Secret.Salt, .int .i64 y13.1.Secret.Rounds, str y13.1.Secret.Hash, v18, v20, str y13.1.Logout]) hB26 (by decide) hb.bd rfl rfl rfl Tryz.sizeOf27 rfl (by first | rfl | (simp only [List.all_cons, List.all_nil, SlR.oneCell h19, SlR.oneCell h21]; done) | (simp only [List.all_cons, List.all_nil, SlR.oneCell h19, SlR.oneCell h21]; rfl)) rfl ?_
 intro w27 hB261 htr28
 replace h19 := h19.mv htr28.rd
 replace h21 := h21.mv htr28.rd
 replace hB12 := hB12.mv (htr28.mv (i := 6) rfl)
 replace hb := hb.trans htr28
 replace hB26 : Blk ρ23 8 w27 g22 (.cells #[str y13.1.ID, .int .i64 y13.1.Kind, str y13.1.Tenant, str y13.1.Secret.Salt, .int .i64 y13.1.Secret.Rounds, str y13.1.Secret.Hash, v18, v20, str y13.1.Logout] 27 (0, 0)) := hB261
 clear hB261
 refine sr_ev (v := .int .i64 y13.2) (ev_assign rfl) (by decide) ?_
 refine sr_end (l' := [(4, .pointer (some ⟨g8, 0, none⟩)), (6, .pointer (some ⟨g22, 0, none⟩)), (7, .int .i64 y13.2)]) (.cons rfl (.cons rfl (.cons rfl (.nil _)))) ?_
 refine ke_seq ?_
 refine ke_region ?_
 refine sr_ev (v := .agg #[str y13.1.ID, .int .i64 y13.1.Kind, str y13.1.Tenant, str y13.1.Secret.Salt, .int .i64 y13.1.Secret.Rounds, str y13.1.Secret.Hash, v18, v20, str y13.1.Logout]) (ev_loads (cs := [str y13.1.ID, .int .i64 y13.1.Kind, str y13.1.Tenant, str y13.1.Secret.Salt, .int .i64 y13.1.Secret.Rounds, str y13.1.Secret.Hash, v18, v20, str y13.1.Logout]) Tryz.isAgg27 Tryz.sizeOf27 rfl (hB26.cells (vs := [str y13.1.ID, .int .i64 y13.1.Kind, str y13.1.Tenant, str y13.1.Secret.Salt, .int .i64 y13.1.Secret.Rounds, str y13.1.Secret.Hash, v18, v20, str y13.1.Logout]) rfl)) (by decide) ?_
 obtain ⟨y29, hy30, hS⟩ := bind_some' hS
 refine sr_call (vs := [.agg #[str y13.1.ID, .int .i64 y13.1.Kind, str y13.1.Tenant, str y13.1.Secret.Salt, .int .i64 y13.1.Secret.Rounds, str y13.1.Secret.Hash, v18, v20, str y13.1.Logout]]) rfl Tryz.call51 rfl (client_own_ok _ (hg.fr hz hb) (ρA := ρ23) hb.bd (hz.fr hg hb) h19 h21 hy30) (by decide) ?_
 rintro _ w31 ⟨v34, v36, rfl, h35, h37, hbw32⟩
 have htr33 := Tr.of_below hbw32 hb.bd
 replace hB12 := hB12.mv (htr33.mv (i := 6) rfl)
 replace hb := hb.trans htr33
 refine sr_ev (v := .int .i64 y13.2) (ev_move rfl) (by decide) ?_
 refine sr_ev (v := .bool (y13.2 == 0)) (ev_eq rfl rfl) (by decide) ?_
 refine sr_storeT (v := .agg #[str y29.ID, .int .i64 y29.Kind, str y29.Tenant, str y29.Secret.Salt, .int .i64 y29.Secret.Rounds, str y29.Secret.Hash, v34, v36, str y29.Logout]) (vs := [str y29.ID, .int .i64 y29.Kind, str y29.Tenant, str y29.Secret.Salt, .int .i64 y29.Secret.Rounds, str y29.Secret.Hash, v34, v36, str y29.Logout]) (cs' := #[str y29.ID, .int .i64 y29.Kind, str y29.Tenant, str y29.Secret.Salt, .int .i64 y29.Secret.Rounds, str y29.Secret.Hash, v34, v36, str y29.Logout]) hB12 (by decide) hb.bd rfl rfl rfl Tryz.sizeOf27 rfl (by first | rfl | (simp only [List.all_cons, List.all_nil, SlR.oneCell h35, SlR.oneCell h37]; done) | (simp only [List.all_cons, List.all_nil, SlR.oneCell h35, SlR.oneCell h37]; rfl)) rfl ?_
 intro w38 hB121 htr39
 replace h35 := h35.mv htr39.rd
 replace h37 := h37.mv htr39.rd
 replace hb := hb.trans htr39
 replace hB12 : Blk ρ23 6 w38 g8 (.cells #[str y29.ID, .int .i64 y29.Kind, str y29.Tenant, str y29.Secret.Salt, .int .i64 y29.Secret.Rounds, str y29.Secret.Hash, v34, v36, str y29.Logout] 27 (0, 0)) := hB121
 clear hB121
 refine sr_ev (v := .bool (y13.2 == 0)) (ev_assign rfl) (by decide) ?_
 refine sr_end (l' := [(4, .pointer (some ⟨g8, 0, none⟩)), (5, .bool (y13.2 == 0))]) (.cons rfl (.cons rfl (.nil _))) ?_
 cases hS
 exact ke_ret (rs := [.cell 4 27, .tmp 5]) (vs := [.agg #[str y29.ID, .int .i64 y29.Kind, str y29.Tenant, str y29.Secret.Salt, .int .i64 y29.Secret.Rounds, str y29.Secret.Hash, v34, v36, str y29.Logout], .bool (y13.2 == 0)]) Tryz.func24 rfl ⟨⟨_, rfl, run_loadVar_s (cs := [str y29.ID, .int .i64 y29.Kind, str y29.Tenant, str y29.Secret.Salt, .int .i64 y29.Secret.Rounds, str y29.Secret.Hash, v34, v36, str y29.Logout]) Tryz.isAgg27 Tryz.sizeOf27 (hB12.cells (vs := [str y29.ID, .int .i64 y29.Kind, str y29.Tenant, str y29.Secret.Salt, .int .i64 y29.Secret.Rounds, str y29.Secret.Hash, v34, v36, str y29.Logout]) rfl)⟩, rfl, trivial⟩ rfl ⟨_, rfl, _, _, rfl, (SlR.mv h35 (flat1_back hb hbd)), (SlR.mv h37 (flat1_back hb hbd)), (hb.below (flat1_le _))⟩

end YtmdbnoopcdpomaaGreatDoor
end Go.Proofs
