/- Own work: a part of the proofs of this seat. -/
import Derived.Test.YtlmnhekpgjgndaaDoorProg
import Derived.Test.YtlmnhekpgjgndaaDoorShelf
import Derived.Test.YtlmnhekpgjgndaaDoorKwCS
import Derived.KernelRfl
import Derived.Test.YtlmnhekpgjgndaaDoorKwCW1
set_option linter.unusedVariables false
set_option maxHeartbeats 8000000
namespace Go.Proofs
namespace YtlmnhekpgjgndaaDoor
open Go Go.KW Go.KW.S Go.RowKit
theorem ref29_Parse_L1_ok {w0 : World} (hg : Gs w0) {A0 : Nat → Prop} (hA0 : ∀ b, A0 b → b < w0.heap.size) : ∀ (n : Nat), ∀ {r : (List Str) × Int} {s_0 : Str} {out_4 : List Str} {from_5 : Int} {i_6 : Int} {vout_4 : Value}, ref29_Parse_L1 n s_0 out_4 from_5 i_6 = some r → ∀ {w : World} {A : Nat → Prop}, (Below w0.heap.size w0 w) → (∀ b, A b → b < w.heap.size) → (∀ b, A0 b → A b) → (Hp A w0.heap.size w []) → (OwnS strC 9 A w0.heap.size w vout_4 out_4) → (Dj vout_4 []) → KE Tryd.prog 15 (Ret (fun v w' => ∃ x1, v = .tuple #[x1, .int .i64 r.2] ∧ SlR strC A0 w' x1 r.1 ∧ Below w0.heap.size w0 w')) 41 [.code (sub (bodyOf Tryd.f15) [2, 2, 2, 2, 1, 2, 2, 1]), .inLoop (sub (bodyOf Tryd.f15) [2, 2, 2, 2, 1, 2, 2, 1]), .inBlock 0, .code (sub (bodyOf Tryd.f15) [2, 2, 2, 2, 2])] [(0, str s_0), (4, vout_4), (5, .int .i64 from_5), (6, .int .i64 i_6)] w := by
  intro n
  induction n with
  | zero => intro r s_0 out_4 from_5 i_6 vout_4 hS; cases hS
  | succ n ih =>
    have hr0 : ∀ {r : (List Str) × Int} {s_0 : Str} {out_4 : List Str} {from_5 : Int} {i_6 : Int} {vout_4 : Value}, ref29_Parse_L1 n s_0 out_4 from_5 i_6 = some r → ∀ {w : World} {A : Nat → Prop}, (Below w0.heap.size w0 w) → (∀ b, A b → b < w.heap.size) → (∀ b, A0 b → A b) → (Hp A w0.heap.size w []) → (OwnS strC 9 A w0.heap.size w vout_4 out_4) → (Dj vout_4 []) → KE Tryd.prog 15 (Ret (fun v w' => ∃ x1, v = .tuple #[x1, .int .i64 r.2] ∧ SlR strC A0 w' x1 r.1 ∧ Below w0.heap.size w0 w')) 41 [.inLoop (sub (bodyOf Tryd.f15) [2, 2, 2, 2, 1, 2, 2, 1]), .inBlock 0, .code (sub (bodyOf Tryd.f15) [2, 2, 2, 2, 2])] [(0, str s_0), (4, vout_4), (5, .int .i64 from_5), (6, .int .i64 i_6)] w := fun {r} {s_0} {out_4} {from_5} {i_6} {vout_4} hS {w} {A} hb hA hi hH hout_4 dout_4 => ke_inLoop (ih hS hb hA hi hH hout_4 dout_4)
    clear ih
    intro r s_0 out_4 from_5 i_6 vout_4 hS w A hb hA hi hH hout_4 dout_4
    unfold ref29_Parse_L1 at hS
    refine ke_seq ?_
    refine ke_seq ?_
    refine ke_region ?_
    refine sr_ev (v := .int .i64 i_6) (ev_move rfl) (by decide) ?_
    refine sr_ev (v := str s_0) (ev_move rfl) (by decide) ?_
    refine sr_ev (v := .int .i64 (s_0.length : Int)) (ev_slen Tryd.underlying9 rfl) (by decide) ?_
    refine sr_ev (v := .bool (decide (i_6 ≤ (s_0.length : Int)))) (ev_le rfl rfl) (by decide) ?_
    refine sr_end (l' := [(0, str s_0), (4, vout_4), (5, .int .i64 from_5), (6, .int .i64 i_6), (13, .bool (decide (i_6 ≤ (s_0.length : Int))))]) (.cons rfl (.cons rfl (.cons rfl (.cons rfl (.cons rfl (.nil _)))))) ?_
    refine ke_cond (t := decide (i_6 ≤ (s_0.length : Int))) rfl (fun hc6 => ?_) (fun hc6 => ?_)
    · replace hS := ite_true' hS hc6
      refine ke_skip ?_
      refine ke_seq ?_
      refine ke_block ?_
      refine ke_seq ?_
      refine ke_region ?_
      refine sr_ev (v := .int .i64 i_6) (ev_move rfl) (by decide) ?_
      refine sr_ev (v := str s_0) (ev_move rfl) (by decide) ?_
      refine sr_ev (v := .int .i64 (s_0.length : Int)) (ev_slen Tryd.underlying9 rfl) (by decide) ?_
      refine sr_ev (v := .bool (i_6 == (s_0.length : Int))) (ev_eq rfl rfl) (by decide) ?_
      refine sr_ev (v := .bool (i_6 == (s_0.length : Int))) (ev_move rfl) (by decide) ?_
      obtain ⟨z9, hz11, hS⟩ := bind_some' hS
      refine sr_join (m := 5) (C := fun (x : Bool) w1 => z9 = x ∧ Below w.heap.size w w1) (l' := fun x => [(0, str s_0), (4, vout_4), (5, .int .i64 from_5), (6, .int .i64 i_6), (25, .bool x)]) ?_ ?_
      · rintro _ w12 ⟨rfl, hbw13⟩
        replace hb := hb.trans (hbw13.mono hb.size)
        replace hA := lt_mono hA hbw13.size
        replace hH := hH.below hbw13
        replace hout_4 := hout_4.below hbw13
        refine sr_end (l' := [(0, str s_0), (4, vout_4), (5, .int .i64 from_5), (6, .int .i64 i_6), (25, .bool z9)]) (.cons rfl (.cons rfl (.cons rfl (.cons rfl (.cons rfl (.nil _)))))) ?_
        refine ke_cond (t := z9) rfl (fun hc15 => ?_) (fun hc15 => ?_)
        · replace hS := ite_true' hS hc15
          refine ke_seq ?_
          refine ke_region ?_
          refine sr_ev (v := vout_4) (ev_move rfl) (by decide) ?_
          refine sr_ev (v := str s_0) (ev_move rfl) (by decide) ?_
          refine sr_ev (v := .int .i64 from_5) (ev_move rfl) (by decide) ?_
          refine sr_ev (v := .int .i64 i_6) (ev_move rfl) (by decide) ?_
          obtain ⟨hk16, hS⟩ := chk_some hS
          refine sr_ev (v := str (cut s_0 from_5 i_6)) (ev_sslice Tryd.underlying9 rfl rfl rfl hk16) (by decide) ?_
          refine sr_lit (c := strC) (A := A) (E := 9) (xs := [cut s_0 from_5 i_6]) (vs := #[(0, str (cut s_0 from_5 i_6))]) (cs := #[str (cut s_0 from_5 i_6)]) (css := [[str (cut s_0 from_5 i_6)]]) rfl (fun _ => by kernel_rfl) rfl ⟨rfl, trivial⟩ rfl (by decide) hA (by decide) ?_
          intro v17 w19 h18 hbw20
          replace hb := hb.trans (hbw20.mono hb.size)
          replace hA := lt_mono hA hbw20.size
          replace hH := hH.below hbw20
          replace hout_4 := hout_4.below hbw20
          obtain ⟨hk21, hS⟩ := chk_some hS
          refine sr_append (c := strC) (A := A) (B := w0.heap.size) (E := 9) (xs := out_4) (ys := ([cut s_0 from_5 i_6] : List Str)) hout_4 h18 Tryd.underlying22 Tryd.info9 rfl rfl rfl (by decide) (by decide) hA hb.size hk21 rfl rfl (by decide) ?_
          intro v22 A24 w25 h23 hst26 hbB27 hinc28 hA1 hoth29 hold
          have dj30 : Dj v22 [] := fun p hp e => by rcases hold _ e with h | h; exact dout_4 p hp h; have := hH.lt hp; omega
          replace hb := hb.trans hbB27
          replace hi := fun b hb => hinc28 b (hi b hb)
          replace hH := hH.keep hinc28 (fun p hp => hoth29 _ (hH.lt hp) (dout_4 p hp))
          replace hA := hA1
          clear hA1
          refine sr_ev (v := v22) (ev_assign rfl) (by decide) ?_
          refine sr_end (l' := [(0, str s_0), (4, v22), (6, .int .i64 i_6)]) (.cons rfl (.cons rfl (.cons rfl (.nil _)))) ?_
          refine ke_region ?_
          refine sr_ev (v := .int .i64 i_6) (ev_move rfl) (by decide) ?_
          refine sr_ev (v := .int .i64 (IntKind.i64.wrap (i_6 + 1))) (ev_add rfl rfl) (by decide) ?_
          refine sr_ev (v := .int .i64 (IntKind.i64.wrap (i_6 + 1))) (ev_assign rfl) (by decide) ?_
          refine sr_end (l' := [(0, str s_0), (4, v22), (5, .int .i64 (IntKind.i64.wrap (i_6 + 1))), (6, .int .i64 i_6)]) (.cons rfl (.cons rfl (.cons rfl (.cons rfl (.nil _))))) ?_
          have hK := ref29_Parse_B2_ok hg hA0 _ hr0 hS hb hA hi hH h23 dj30
          exact ke_weaken (l' := [(0, str s_0), (4, v22), (5, .int .i64 (IntKind.i64.wrap (i_6 + 1))), (6, .int .i64 i_6)]) (.cons rfl (.cons rfl (.cons rfl (.cons rfl (.nil _))))) hK
        · replace hS := ite_false' hS hc15
          refine ke_skip ?_
          have hK := ref29_Parse_B2_ok hg hA0 _ hr0 hS hb hA hi hH hout_4 dout_4
          exact ke_weaken (l' := [(0, str s_0), (4, vout_4), (5, .int .i64 from_5), (6, .int .i64 i_6)]) (.cons rfl (.cons rfl (.cons rfl (.cons rfl (.nil _))))) hK
      · intro K8
        clear hS
        have hj10 := Below.refl w.heap.size w
        rcases Bool.eq_false_or_eq_true (i_6 == (s_0.length : Int)) with hg7 | hg7
        · have hS := ite_true' hz11 hg7
          refine sr_pass (e := 20) rfl rfl (by rw [hg7]; rfl) (by decide) ?_
          refine sr_pass (e := 20) rfl rfl (by rw [hg7]; rfl) (by decide) ?_
          refine sr_pass (e := 20) rfl rfl (by rw [hg7]; rfl) (by decide) ?_
          refine sr_pass (e := 20) rfl rfl (by rw [hg7]; rfl) (by decide) ?_
          refine sr_ev (v := .bool true) (ev_pick_t rfl hg7 rfl) (by decide) ?_
          exact sr_weaken (l' := [(0, str s_0), (4, vout_4), (5, .int .i64 from_5), (6, .int .i64 i_6), (25, .bool true)]) (.cons rfl (.cons rfl (.cons rfl (.cons rfl (.cons rfl (.nil _)))))) (K8 true _ ⟨(Option.some.inj hS).symm, hj10⟩)
        · have hS := ite_false' hz11 hg7
          refine sr_evg (b := false) (e := 20) rfl rfl hg7 (v := str s_0) (ev_move rfl) (by decide) ?_
          refine sr_evg (b := false) (e := 20) rfl rfl hg7 (v := .int .i64 i_6) (ev_move rfl) (by decide) ?_
          obtain ⟨hk14, hS⟩ := chk_some hS
          refine sr_evg (b := false) (e := 20) rfl rfl hg7 (v := .int .u8 (byteAt s_0 i_6)) (ev_sindex Tryd.underlying9 rfl rfl hk14) (by decide) ?_
          refine sr_evg (b := false) (e := 20) rfl rfl hg7 (v := .bool ((byteAt s_0 i_6) == 32)) (ev_eq rfl rfl) (by decide) ?_
          refine sr_ev (v := .bool ((byteAt s_0 i_6) == 32)) (ev_pick_f rfl hg7 rfl) (by decide) ?_
          exact sr_weaken (l' := [(0, str s_0), (4, vout_4), (5, .int .i64 from_5), (6, .int .i64 i_6), (25, .bool ((byteAt s_0 i_6) == 32))]) (.cons rfl (.cons rfl (.cons rfl (.cons rfl (.cons rfl (.nil _)))))) (K8 ((byteAt s_0 i_6) == 32) _ ⟨(Option.some.inj hS).symm, hj10⟩)
    · replace hS := ite_false' hS hc6
      refine ke_exit (k' := _) rfl ?_
      refine ke_seq ?_
      refine ke_seq ?_
      refine ke_region ?_
      refine sr_ev (v := vout_4) (ev_move rfl) (by decide) ?_
      obtain ⟨y33, hy34, hS⟩ := bind_some' hS
      refine sr_call (vs := [vout_4]) rfl Tryd.call17 rfl (ref29_Check_ok _ (hg.below hb) hout_4.asSl hy34) (by decide) ?_
      rintro _ w35 ⟨rfl, hbw36⟩
      replace hb := hb.trans (hbw36.mono hb.size)
      replace hA := lt_mono hA hbw36.size
      replace hH := hH.below hbw36
      replace hout_4 := hout_4.below hbw36
      refine sr_ev (v := .int .i64 y33) (ev_assign rfl) (by decide) ?_
      refine sr_end (l' := [(4, vout_4), (7, .int .i64 y33)]) (.cons rfl (.cons rfl (.nil _))) ?_
      refine ke_seq ?_
      refine ke_region ?_
      refine sr_ev (v := .int .i64 y33) (ev_move rfl) (by decide) ?_
      refine sr_ev (v := .bool (y33 != 0)) (ev_ne rfl rfl) (by decide) ?_
      refine sr_end (l' := [(4, vout_4), (7, .int .i64 y33), (38, .bool (y33 != 0))]) (.cons rfl (.cons rfl (.cons rfl (.nil _)))) ?_
      refine ke_cond (t := y33 != 0) rfl (fun hc37 => ?_) (fun hc37 => ?_)
      · replace hS := ite_true' hS hc37
        refine ke_seq ?_
        refine ke_region ?_
        refine sr_ev (v := .int .i64 y33) (ev_move rfl) (by decide) ?_
        refine sr_ev (v := .slice none 0 0) (ev_assign rfl) (by decide) ?_
        refine sr_ev (v := .int .i64 y33) (ev_assign rfl) (by decide) ?_
        refine sr_end (l' := [(2, .slice none 0 0), (3, .int .i64 y33)]) (.cons rfl (.cons rfl (.nil _))) ?_
        cases hS
        exact ke_ret2 Tryd.func15 rfl rfl rfl ⟨_, rfl, _, rfl, SlR.nil, hb⟩
      · replace hS := ite_false' hS hc37
        refine ke_skip ?_
        refine ke_seq ?_
        refine ke_region ?_
        refine sr_ev (v := vout_4) (ev_move rfl) (by decide) ?_
        refine sr_ev (v := vout_4) (ev_assign rfl) (by decide) ?_
        refine sr_ev (v := .int .i64 0) (ev_assign rfl) (by decide) ?_
        refine sr_end (l' := [(2, vout_4), (3, .int .i64 0)]) (.cons rfl (.cons rfl (.nil _))) ?_
        cases hS
        exact ke_ret2 Tryd.func15 rfl rfl rfl ⟨_, rfl, _, rfl, hout_4.toSl (fun b hb => ⟨hi b hb, hA0 b hb⟩), hb⟩
theorem ref29_Parse_ok {A0 : Nat → Prop} (w0 : World) (hg : Gs w0) {s_0 : Str} {r : (List Str) × Int} (hA0 : ∀ b, A0 b → b < w0.heap.size) (hS : ref29_Parse s_0 = some r) :
    Calls Tryd.prog 15 #[str s_0] w0 (Ret (fun v w' => ∃ x1, v = .tuple #[x1, .int .i64 r.2] ∧ SlR strC A0 w' x1 r.1 ∧ Below w0.heap.size w0 w')) := by
  unfold ref29_Parse at hS
  have hb := Below.refl w0.heap.size w0
  have hA := hA0
  have hi : ∀ b, A0 b → A0 b := fun _ h => h
  have hH := Hp.nil A0 w0.heap.size w0
  refine calls_of_ke Tryd.func15 rfl (n := 41) rfl rfl (l := [(0, str s_0)]) rfl ?_
  refine ke_seq ?_
  refine ke_region ?_
  refine sr_ev (v := .slice none 0 0) (ev_assign rfl) (by decide) ?_
  refine sr_ev (v := .int .i64 0) (ev_assign rfl) (by decide) ?_
  refine sr_end (l' := [(0, str s_0)]) (.cons rfl (.nil _)) ?_
  refine ke_seq ?_
  refine ke_seq ?_
  refine ke_region ?_
  refine sr_ev (v := str s_0) (ev_move rfl) (by decide) ?_
  refine sr_ev (v := .bool (s_0 == ([]))) (ev_seq rfl rfl) (by decide) ?_
  refine sr_end (l' := [(0, str s_0), (9, .bool (s_0 == ([])))]) (.cons rfl (.cons rfl (.nil _))) ?_
  refine ke_cond (t := s_0 == ([])) rfl (fun hc3 => ?_) (fun hc3 => ?_)
  · replace hS := ite_true' hS hc3
    refine ke_seq ?_
    refine ke_region ?_
    refine sr_ev (v := .slice none 0 0) (ev_assign rfl) (by decide) ?_
    refine sr_ev (v := .int .i64 0) (ev_assign rfl) (by decide) ?_
    refine sr_end (l' := [(2, .slice none 0 0), (3, .int .i64 0)]) (.cons rfl (.cons rfl (.nil _))) ?_
    cases hS
    exact ke_ret2 Tryd.func15 rfl rfl rfl ⟨_, rfl, _, rfl, SlR.nil, hb⟩
  · replace hS := ite_false' hS hc3
    refine ke_skip ?_
    refine ke_seq ?_
    refine ke_region ?_
    refine sr_ev (v := .slice none 0 0) (ev_assign rfl) (by decide) ?_
    refine sr_end (l' := [(0, str s_0), (4, .slice none 0 0)]) (.cons rfl (.cons rfl (.nil _))) ?_
    refine ke_seq ?_
    refine ke_region ?_
    refine sr_ev (v := .int .i64 0) (ev_assign rfl) (by decide) ?_
    refine sr_end (l' := [(0, str s_0), (4, .slice none 0 0), (5, .int .i64 0)]) (.cons rfl (.cons rfl (.cons rfl (.nil _)))) ?_
    refine ke_seq ?_
    refine ke_seq ?_
    refine ke_region ?_
    refine sr_ev (v := .int .i64 0) (ev_assign rfl) (by decide) ?_
    refine sr_end (l' := [(0, str s_0), (4, .slice none 0 0), (5, .int .i64 0), (6, .int .i64 0)]) (.cons rfl (.cons rfl (.cons rfl (.cons rfl (.nil _))))) ?_
    refine ke_block ?_
    have hK := ref29_Parse_L1_ok hg hA0 _ hS hb hA hi hH OwnS.nil (Dj.nil _)
    exact ke_weaken (l' := [(0, str s_0), (4, (.slice none 0 0)), (5, .int .i64 0), (6, .int .i64 0)]) (.cons rfl (.cons rfl (.cons rfl (.cons rfl (.nil _))))) (ke_loop hK)
theorem law29_ScopeChecks_ok {A0 : Nat → Prop} (w0 : World) (hg : Gs w0) {l_0 : List Str} {s_1 : Str} {v1 : Value} {r : Bool} (h2 : SlR strC A0 w0 v1 l_0) (hS : law29_ScopeChecks l_0 s_1 = some r) :
    Calls Tryd.prog 3 #[v1, str s_1] w0 (Ret (fun v w' => v = .bool r ∧ Below w0.heap.size w0 w')) := by
  unfold law29_ScopeChecks at hS
  have hb := Below.refl w0.heap.size w0
  replace h2 := h2.weak (A' := fun _ => False) (fun _ h => h.elim)
  obtain ⟨A0, hA0, hAe⟩ : ∃ A0 : Nat → Prop, (∀ b, A0 b → b < w0.heap.size) ∧ A0 = fun _ => False := ⟨_, fun _ h => h.elim, rfl⟩
  rw [← hAe] at h2
  clear hAe
  have hA := hA0
  have hi : ∀ b, A0 b → A0 b := fun _ h => h
  have hH := Hp.nil A0 w0.heap.size w0
  refine calls_of_ke Tryd.func3 rfl (n := 70) rfl rfl (l := [(0, v1), (1, str s_1)]) rfl ?_
  refine ke_seq ?_
  refine ke_region ?_
  refine sr_ev (v := .bool false) (ev_assign rfl) (by decide) ?_
  refine sr_end (l' := [(0, v1), (1, str s_1)]) (.cons rfl (.cons rfl (.nil _))) ?_
  refine ke_seq ?_
  refine ke_seq ?_
  refine ke_region ?_
  refine sr_ev (v := v1) (ev_move rfl) (by decide) ?_
  obtain ⟨y3, hy4, hS⟩ := bind_some' hS
  refine sr_call (vs := [v1]) rfl Tryd.call10 rfl (law29_few_ok _ (hg.below hb) h2 hy4) (by decide) ?_
  rintro _ w5 ⟨rfl, hbw6⟩
  replace hb := hb.trans (hbw6.mono hb.size)
  replace hA := lt_mono hA hbw6.size
  replace hH := hH.below hbw6
  replace h2 := h2.below hbw6
  refine sr_ev (v := .bool (!y3)) (ev_not rfl) (by decide) ?_
  refine sr_ev (v := .bool (!y3)) (ev_move rfl) (by decide) ?_
  refine sr_join (m := 4) (C := fun (x : Bool) w1 => x = ((!y3) || (decide ((s_1.length : Int) > 2000))) ∧ w5 = w1) (l' := fun x => [(0, v1), (1, str s_1), (20, .bool x)]) ?_ ?_
  · rintro _ _ ⟨rfl, rfl⟩
    refine sr_end (l' := [(0, v1), (1, str s_1), (20, .bool ((!y3) || (decide ((s_1.length : Int) > 2000))))]) (.cons rfl (.cons rfl (.cons rfl (.nil _)))) ?_
    refine ke_cond (t := (!y3) || (decide ((s_1.length : Int) > 2000))) rfl (fun hc14 => ?_) (fun hc14 => ?_)
    · replace hS := ite_true' hS hc14
      refine ke_seq ?_
      refine ke_region ?_
      obtain ⟨y15, hy16, hS⟩ := bind_some' hS
      refine sr_call (vs := []) rfl Tryd.call11 rfl (law29_awake_ok _ (hg.below hb) hy16) (by decide) ?_
      rintro _ w17 ⟨rfl, hbw18⟩
      replace hb := hb.trans (hbw18.mono hb.size)
      replace hA := lt_mono hA hbw18.size
      replace hH := hH.below hbw18
      refine sr_ev (v := .bool y15) (ev_assign rfl) (by decide) ?_
      refine sr_end (l' := [(4, .bool y15)]) (.cons rfl (.nil _)) ?_
      cases hS
      exact ke_ret1 Tryd.func3 rfl rfl ⟨_, rfl, rfl, hb⟩
    · replace hS := ite_false' hS hc14
      refine ke_skip ?_
      refine ke_seq ?_
      refine ke_region ?_
      refine sr_ev (v := v1) (ev_move rfl) (by decide) ?_
      obtain ⟨y19, hy20, hS⟩ := bind_some' hS
      refine sr_call (vs := [v1]) rfl Tryd.call12 rfl (scope_Text_ok _ (hg.below hb) h2 hy20) (by decide) ?_
      rintro _ w21 ⟨rfl, hbw22⟩
      replace hb := hb.trans (hbw22.mono hb.size)
      replace hA := lt_mono hA hbw22.size
      replace hH := hH.below hbw22
      replace h2 := h2.below hbw22
      refine sr_ev (v := .tuple #[str y19.1, .int .i64 y19.2]) (ev_move rfl) (by decide) ?_
      refine sr_ev (v := str y19.1) (ev_extract rfl rfl) (by decide) ?_
      refine sr_ev (v := .int .i64 y19.2) (ev_extract rfl rfl) (by decide) ?_
      refine sr_ev (v := str y19.1) (ev_assign rfl) (by decide) ?_
      refine sr_ev (v := .int .i64 y19.2) (ev_assign rfl) (by decide) ?_
      refine sr_end (l' := [(0, v1), (1, str s_1), (5, str y19.1), (6, .int .i64 y19.2)]) (.cons rfl (.cons rfl (.cons rfl (.cons rfl (.nil _))))) ?_
      refine ke_seq ?_
      refine ke_region ?_
      refine sr_ev (v := v1) (ev_move rfl) (by decide) ?_
      obtain ⟨y23, hy24, hS⟩ := bind_some' hS
      refine sr_call (vs := [v1]) rfl Tryd.call13 rfl (ref29_Text_ok _ (hg.below hb) h2 hy24) (by decide) ?_
      rintro _ w25 ⟨rfl, hbw26⟩
      replace hb := hb.trans (hbw26.mono hb.size)
      replace hA := lt_mono hA hbw26.size
      replace hH := hH.below hbw26
      replace h2 := h2.below hbw26
      refine sr_ev (v := .tuple #[str y23.1, .int .i64 y23.2]) (ev_move rfl) (by decide) ?_
      refine sr_ev (v := str y23.1) (ev_extract rfl rfl) (by decide) ?_
      refine sr_ev (v := .int .i64 y23.2) (ev_extract rfl rfl) (by decide) ?_
      refine sr_ev (v := str y23.1) (ev_assign rfl) (by decide) ?_
      refine sr_ev (v := .int .i64 y23.2) (ev_assign rfl) (by decide) ?_
      refine sr_end (l' := [(0, v1), (1, str s_1), (5, str y19.1), (6, .int .i64 y19.2), (7, str y23.1), (8, .int .i64 y23.2)]) (.cons rfl (.cons rfl (.cons rfl (.cons rfl (.cons rfl (.cons rfl (.nil _))))))) ?_
      refine ke_seq ?_
      refine ke_region ?_
      refine sr_ev (v := str s_1) (ev_move rfl) (by decide) ?_
      obtain ⟨y27, hy28, hS⟩ := bind_some' hS
      refine sr_call (vs := [str s_1]) rfl Tryd.call14 rfl (scope_Parse_ok _ (hg.below hb) hA hy28) (by decide) ?_
      rintro _ w29 ⟨v31, rfl, h32, hbw30⟩
      replace hb := hb.trans (hbw30.mono hb.size)
      replace hA := lt_mono hA hbw30.size
      replace hH := hH.below hbw30
      replace h2 := h2.below hbw30
      refine sr_ev (v := .tuple #[v31, .int .i64 y27.2]) (ev_move rfl) (by decide) ?_
      refine sr_ev (v := v31) (ev_extract rfl rfl) (by decide) ?_
      refine sr_ev (v := .int .i64 y27.2) (ev_extract rfl rfl) (by decide) ?_
      refine sr_ev (v := v31) (ev_assign rfl) (by decide) ?_
      refine sr_ev (v := .int .i64 y27.2) (ev_assign rfl) (by decide) ?_
      refine sr_end (l' := [(0, v1), (1, str s_1), (5, str y19.1), (6, .int .i64 y19.2), (7, str y23.1), (8, .int .i64 y23.2), (9, v31), (10, .int .i64 y27.2)]) (.cons rfl (.cons rfl (.cons rfl (.cons rfl (.cons rfl (.cons rfl (.cons rfl (.cons rfl (.nil _))))))))) ?_
      refine ke_seq ?_
      refine ke_region ?_
      refine sr_ev (v := str s_1) (ev_move rfl) (by decide) ?_
      obtain ⟨y33, hy34, hS⟩ := bind_some' hS
      refine sr_call (vs := [str s_1]) rfl Tryd.call15 rfl (ref29_Parse_ok _ (hg.below hb) hA hy34) (by decide) ?_
      rintro _ w35 ⟨v37, rfl, h38, hbw36⟩
      replace hb := hb.trans (hbw36.mono hb.size)
      replace hA := lt_mono hA hbw36.size
      replace hH := hH.below hbw36
      replace h2 := h2.below hbw36
      replace h32 := h32.below hbw36
      refine sr_ev (v := .tuple #[v37, .int .i64 y33.2]) (ev_move rfl) (by decide) ?_
      refine sr_ev (v := v37) (ev_extract rfl rfl) (by decide) ?_
      refine sr_ev (v := .int .i64 y33.2) (ev_extract rfl rfl) (by decide) ?_
      refine sr_ev (v := v37) (ev_assign rfl) (by decide) ?_
      refine sr_ev (v := .int .i64 y33.2) (ev_assign rfl) (by decide) ?_
      refine sr_end (l' := [(0, v1), (5, str y19.1), (6, .int .i64 y19.2), (7, str y23.1), (8, .int .i64 y23.2), (9, v31), (10, .int .i64 y27.2), (11, v37), (12, .int .i64 y33.2)]) (.cons rfl (.cons rfl (.cons rfl (.cons rfl (.cons rfl (.cons rfl (.cons rfl (.cons rfl (.cons rfl (.nil _)))))))))) ?_
      refine ke_seq ?_
      refine ke_region ?_
      refine sr_ev (v := v1) (ev_move rfl) (by decide) ?_
      obtain ⟨y39, hy40, hS⟩ := bind_some' hS
      refine sr_call (vs := [v1]) rfl Tryd.call16 rfl (scope_Check_ok _ (hg.below hb) h2 hy40) (by decide) ?_
      rintro _ w41 ⟨rfl, hbw42⟩
      replace hb := hb.trans (hbw42.mono hb.size)
      replace hA := lt_mono hA hbw42.size
      replace hH := hH.below hbw42
      replace h2 := h2.below hbw42
      replace h32 := h32.below hbw42
      replace h38 := h38.below hbw42
      refine sr_ev (v := v1) (ev_move rfl) (by decide) ?_
      obtain ⟨y43, hy44, hS⟩ := bind_some' hS
      refine sr_call (vs := [v1]) rfl Tryd.call17 rfl (ref29_Check_ok _ (hg.below hb) h2 hy44) (by decide) ?_
      rintro _ w45 ⟨rfl, hbw46⟩
      replace hb := hb.trans (hbw46.mono hb.size)
      replace hA := lt_mono hA hbw46.size
      replace hH := hH.below hbw46
      replace h32 := h32.below hbw46
      replace h38 := h38.below hbw46
      refine sr_ev (v := .bool (y39 == y43)) (ev_eq rfl rfl) (by decide) ?_
      refine sr_ev (v := .bool (y39 == y43)) (ev_move rfl) (by decide) ?_
      refine sr_join (m := 4) (C := fun (x : Bool) w1 => x = ((y39 == y43) && (y19.1 == y23.1)) ∧ w45 = w1) (l' := fun x => [(6, .int .i64 y19.2), (8, .int .i64 y23.2), (9, v31), (10, .int .i64 y27.2), (11, v37), (12, .int .i64 y33.2), (51, .bool x)]) ?_ ?_
      · rintro _ _ ⟨rfl, rfl⟩
        refine sr_ev (v := .bool ((y39 == y43) && (y19.1 == y23.1))) (ev_move rfl) (by decide) ?_
        refine sr_join (m := 4) (C := fun (x : Bool) w1 => x = (((y39 == y43) && (y19.1 == y23.1)) && (y19.2 == y23.2)) ∧ w45 = w1) (l' := fun x => [(9, v31), (10, .int .i64 y27.2), (11, v37), (12, .int .i64 y33.2), (56, .bool x)]) ?_ ?_
        · rintro _ _ ⟨rfl, rfl⟩
          refine sr_ev (v := .bool (((y39 == y43) && (y19.1 == y23.1)) && (y19.2 == y23.2))) (ev_move rfl) (by decide) ?_
          obtain ⟨z63, hz65, hS⟩ := bind_some' hS
          refine sr_join (m := 4) (C := fun (x : Bool) w1 => z63 = x ∧ Below w45.heap.size w45 w1) (l' := fun x => [(10, .int .i64 y27.2), (12, .int .i64 y33.2), (61, .bool x)]) ?_ ?_
          · rintro _ w66 ⟨rfl, hbw67⟩
            replace hb := hb.trans (hbw67.mono hb.size)
            replace hA := lt_mono hA hbw67.size
            replace hH := hH.below hbw67
            refine sr_ev (v := .bool z63) (ev_move rfl) (by decide) ?_
            refine sr_join (m := 4) (C := fun (x : Bool) w1 => x = (z63 && (y27.2 == y33.2)) ∧ w66 = w1) (l' := fun x => [(66, .bool x)]) ?_ ?_
            · rintro _ _ ⟨rfl, rfl⟩
              refine sr_ev (v := .bool (z63 && (y27.2 == y33.2))) (ev_move rfl) (by decide) ?_
              obtain ⟨z81, hz83, hS⟩ := bind_some' hS
              refine sr_join (m := 2) (C := fun (x : Bool) w1 => z81 = x ∧ Below w66.heap.size w66 w1) (l' := fun x => [(69, .bool x)]) ?_ ?_
              · rintro _ w84 ⟨rfl, hbw85⟩
                replace hb := hb.trans (hbw85.mono hb.size)
                replace hA := lt_mono hA hbw85.size
                replace hH := hH.below hbw85
                refine sr_ev (v := .bool z81) (ev_assign rfl) (by decide) ?_
                refine sr_end (l' := [(4, .bool z81)]) (.cons rfl (.nil _)) ?_
                cases hS
                exact ke_ret1 Tryd.func3 rfl rfl ⟨_, rfl, rfl, hb⟩
              · intro K80
                clear hS
                have hj82 := Below.refl w66.heap.size w66
                rcases Bool.eq_false_or_eq_true (z63 && (y27.2 == y33.2)) with hg79 | hg79
                · have hS := ite_true' hz83 hg79
                  obtain ⟨y86, hy87, hS⟩ := bind_some' hS
                  refine sr_callg (b := true) (e := 67) rfl rfl hg79 (vs := []) rfl Tryd.call11 rfl (law29_awake_ok _ (hg.below hb) hy87) (by decide) ?_
                  rintro _ w88 ⟨rfl, hbw89⟩
                  replace hb := hb.trans (hbw89.mono hb.size)
                  replace hj82 := hj82.trans (hbw89.mono hj82.size)
                  replace hA := lt_mono hA hbw89.size
                  replace hH := hH.below hbw89
                  refine sr_ev (v := .bool y86) (ev_pick_t rfl hg79 rfl) (by decide) ?_
                  exact sr_weaken (l' := [(69, .bool y86)]) (.cons rfl (.nil _)) (K80 y86 _ ⟨(Option.some.inj hS).symm, hj82⟩)
                · have hS := ite_false' hz83 hg79
                  refine sr_pass (e := 67) rfl rfl (by rw [hg79]; rfl) (by decide) ?_
                  refine sr_ev (v := .bool false) (ev_pick_f rfl hg79 rfl) (by decide) ?_
                  exact sr_weaken (l' := [(69, .bool false)]) (.cons rfl (.nil _)) (K80 false _ ⟨(Option.some.inj hS).symm, hj82⟩)
            · intro K73
              rcases Bool.eq_false_or_eq_true z63 with hg72 | hg72
              · refine sr_evg (b := true) (e := 62) rfl rfl hg72 (v := .int .i64 y27.2) (ev_move rfl) (by decide) ?_
                refine sr_evg (b := true) (e := 62) rfl rfl hg72 (v := .int .i64 y33.2) (ev_move rfl) (by decide) ?_
                refine sr_evg (b := true) (e := 62) rfl rfl hg72 (v := .bool (y27.2 == y33.2)) (ev_eq rfl rfl) (by decide) ?_
                refine sr_ev (v := .bool (y27.2 == y33.2)) (ev_pick_t rfl hg72 rfl) (by decide) ?_
                exact sr_weaken (l' := [(66, .bool (y27.2 == y33.2))]) (.cons rfl (.nil _)) (K73 (y27.2 == y33.2) _ ⟨by rw [hg72]; rfl, rfl⟩)
              · refine sr_pass (e := 62) rfl rfl (by rw [hg72]; rfl) (by decide) ?_
                refine sr_pass (e := 62) rfl rfl (by rw [hg72]; rfl) (by decide) ?_
                refine sr_pass (e := 62) rfl rfl (by rw [hg72]; rfl) (by decide) ?_
                refine sr_ev (v := .bool false) (ev_pick_f rfl hg72 rfl) (by decide) ?_
                exact sr_weaken (l' := [(66, .bool false)]) (.cons rfl (.nil _)) (K73 false _ ⟨by rw [hg72]; rfl, rfl⟩)
          · intro K62
            clear hS
            have hj64 := Below.refl w45.heap.size w45
            rcases Bool.eq_false_or_eq_true (((y39 == y43) && (y19.1 == y23.1)) && (y19.2 == y23.2)) with hg61 | hg61
            · have hS := ite_true' hz65 hg61
              refine sr_evg (b := true) (e := 57) rfl rfl hg61 (v := v31) (ev_move rfl) (by decide) ?_
              refine sr_evg (b := true) (e := 57) rfl rfl hg61 (v := v37) (ev_move rfl) (by decide) ?_
              obtain ⟨y68, hy69, hS⟩ := bind_some' hS
              refine sr_callg (b := true) (e := 57) rfl rfl hg61 (vs := [v31, v37]) rfl Tryd.call18 rfl (ref03_Same_ok _ (hg.below hb) h32 h38 hy69) (by decide) ?_
              rintro _ w70 ⟨rfl, hbw71⟩
              replace hb := hb.trans (hbw71.mono hb.size)
              replace hj64 := hj64.trans (hbw71.mono hj64.size)
              replace hA := lt_mono hA hbw71.size
              replace hH := hH.below hbw71
              refine sr_ev (v := .bool y68) (ev_pick_t rfl hg61 rfl) (by decide) ?_
              exact sr_weaken (l' := [(10, .int .i64 y27.2), (12, .int .i64 y33.2), (61, .bool y68)]) (.cons rfl (.cons rfl (.cons rfl (.nil _)))) (K62 y68 _ ⟨(Option.some.inj hS).symm, hj64⟩)
            · have hS := ite_false' hz65 hg61
              refine sr_pass (e := 57) rfl rfl (by rw [hg61]; rfl) (by decide) ?_
              refine sr_pass (e := 57) rfl rfl (by rw [hg61]; rfl) (by decide) ?_
              refine sr_pass (e := 57) rfl rfl (by rw [hg61]; rfl) (by decide) ?_
              refine sr_ev (v := .bool false) (ev_pick_f rfl hg61 rfl) (by decide) ?_
              exact sr_weaken (l' := [(10, .int .i64 y27.2), (12, .int .i64 y33.2), (61, .bool false)]) (.cons rfl (.cons rfl (.cons rfl (.nil _)))) (K62 false _ ⟨(Option.some.inj hS).symm, hj64⟩)
        · intro K55
          rcases Bool.eq_false_or_eq_true ((y39 == y43) && (y19.1 == y23.1)) with hg54 | hg54
          · refine sr_evg (b := true) (e := 52) rfl rfl hg54 (v := .int .i64 y19.2) (ev_move rfl) (by decide) ?_
            refine sr_evg (b := true) (e := 52) rfl rfl hg54 (v := .int .i64 y23.2) (ev_move rfl) (by decide) ?_
            refine sr_evg (b := true) (e := 52) rfl rfl hg54 (v := .bool (y19.2 == y23.2)) (ev_eq rfl rfl) (by decide) ?_
            refine sr_ev (v := .bool (y19.2 == y23.2)) (ev_pick_t rfl hg54 rfl) (by decide) ?_
            exact sr_weaken (l' := [(9, v31), (10, .int .i64 y27.2), (11, v37), (12, .int .i64 y33.2), (56, .bool (y19.2 == y23.2))]) (.cons rfl (.cons rfl (.cons rfl (.cons rfl (.cons rfl (.nil _)))))) (K55 (y19.2 == y23.2) _ ⟨by rw [hg54]; rfl, rfl⟩)
          · refine sr_pass (e := 52) rfl rfl (by rw [hg54]; rfl) (by decide) ?_
            refine sr_pass (e := 52) rfl rfl (by rw [hg54]; rfl) (by decide) ?_
            refine sr_pass (e := 52) rfl rfl (by rw [hg54]; rfl) (by decide) ?_
            refine sr_ev (v := .bool false) (ev_pick_f rfl hg54 rfl) (by decide) ?_
            exact sr_weaken (l' := [(9, v31), (10, .int .i64 y27.2), (11, v37), (12, .int .i64 y33.2), (56, .bool false)]) (.cons rfl (.cons rfl (.cons rfl (.cons rfl (.cons rfl (.nil _)))))) (K55 false _ ⟨by rw [hg54]; rfl, rfl⟩)
      · intro K48
        rcases Bool.eq_false_or_eq_true (y39 == y43) with hg47 | hg47
        · refine sr_evg (b := true) (e := 47) rfl rfl hg47 (v := str y19.1) (ev_move rfl) (by decide) ?_
          refine sr_evg (b := true) (e := 47) rfl rfl hg47 (v := str y23.1) (ev_move rfl) (by decide) ?_
          refine sr_evg (b := true) (e := 47) rfl rfl hg47 (v := .bool (y19.1 == y23.1)) (ev_seq rfl rfl) (by decide) ?_
          refine sr_ev (v := .bool (y19.1 == y23.1)) (ev_pick_t rfl hg47 rfl) (by decide) ?_
          exact sr_weaken (l' := [(6, .int .i64 y19.2), (8, .int .i64 y23.2), (9, v31), (10, .int .i64 y27.2), (11, v37), (12, .int .i64 y33.2), (51, .bool (y19.1 == y23.1))]) (.cons rfl (.cons rfl (.cons rfl (.cons rfl (.cons rfl (.cons rfl (.cons rfl (.nil _)))))))) (K48 (y19.1 == y23.1) _ ⟨by rw [hg47]; rfl, rfl⟩)
        · refine sr_pass (e := 47) rfl rfl (by rw [hg47]; rfl) (by decide) ?_
          refine sr_pass (e := 47) rfl rfl (by rw [hg47]; rfl) (by decide) ?_
          refine sr_pass (e := 47) rfl rfl (by rw [hg47]; rfl) (by decide) ?_
          refine sr_ev (v := .bool false) (ev_pick_f rfl hg47 rfl) (by decide) ?_
          exact sr_weaken (l' := [(6, .int .i64 y19.2), (8, .int .i64 y23.2), (9, v31), (10, .int .i64 y27.2), (11, v37), (12, .int .i64 y33.2), (51, .bool false)]) (.cons rfl (.cons rfl (.cons rfl (.cons rfl (.cons rfl (.cons rfl (.cons rfl (.nil _)))))))) (K48 false _ ⟨by rw [hg47]; rfl, rfl⟩)
  · intro K8
    rcases Bool.eq_false_or_eq_true (!y3) with hg7 | hg7
    · refine sr_pass (e := 16) rfl rfl (by rw [hg7]; rfl) (by decide) ?_
      refine sr_pass (e := 16) rfl rfl (by rw [hg7]; rfl) (by decide) ?_
      refine sr_pass (e := 16) rfl rfl (by rw [hg7]; rfl) (by decide) ?_
      refine sr_ev (v := .bool true) (ev_pick_t rfl hg7 rfl) (by decide) ?_
      exact sr_weaken (l' := [(0, v1), (1, str s_1), (20, .bool true)]) (.cons rfl (.cons rfl (.cons rfl (.nil _)))) (K8 true _ ⟨by rw [hg7]; rfl, rfl⟩)
    · refine sr_evg (b := false) (e := 16) rfl rfl hg7 (v := str s_1) (ev_move rfl) (by decide) ?_
      refine sr_evg (b := false) (e := 16) rfl rfl hg7 (v := .int .i64 (s_1.length : Int)) (ev_slen Tryd.underlying9 rfl) (by decide) ?_
      refine sr_evg (b := false) (e := 16) rfl rfl hg7 (v := .bool (decide ((s_1.length : Int) > 2000))) (ev_gt rfl rfl) (by decide) ?_
      refine sr_ev (v := .bool (decide ((s_1.length : Int) > 2000))) (ev_pick_f rfl hg7 rfl) (by decide) ?_
      exact sr_weaken (l' := [(0, v1), (1, str s_1), (20, .bool (decide ((s_1.length : Int) > 2000)))]) (.cons rfl (.cons rfl (.cons rfl (.nil _)))) (K8 (decide ((s_1.length : Int) > 2000)) _ ⟨by rw [hg7]; rfl, rfl⟩)
theorem ref29_Implies_ok (w0 : World) (hg : Gs w0) {a_0 : Str} {b_1 : Str} {r : Bool} (hS : ref29_Implies a_0 b_1 = some r) :
    Calls Tryd.prog 22 #[str a_0, str b_1] w0 (Ret (fun v w' => v = .bool r ∧ Below w0.heap.size w0 w')) := by
  unfold ref29_Implies at hS
  have hb := Below.refl w0.heap.size w0
  refine calls_of_ke Tryd.func22 rfl (n := 33) rfl rfl (l := [(0, str a_0), (1, str b_1)]) rfl ?_
  refine ke_seq ?_
  refine ke_region ?_
  refine sr_ev (v := .bool false) (ev_assign rfl) (by decide) ?_
  refine sr_end (l' := [(0, str a_0), (1, str b_1)]) (.cons rfl (.cons rfl (.nil _))) ?_
  refine ke_seq ?_
  refine ke_region ?_
  refine sr_ev (v := str a_0) (ev_move rfl) (by decide) ?_
  obtain ⟨y1, hy2, hS⟩ := bind_some' hS
  refine sr_call (vs := [str a_0]) rfl Tryd.call34 rfl (ref29_Valid_ok _ (hg.below hb) hy2) (by decide) ?_
  rintro _ w3 ⟨rfl, hbw4⟩
  replace hb := hb.trans (hbw4.mono hb.size)
  refine sr_ev (v := .bool y1) (ev_move rfl) (by decide) ?_
  obtain ⟨z7, hz9, hS⟩ := bind_some' hS
  refine sr_join (m := 3) (C := fun (x : Bool) w1 => z7 = x ∧ Below w3.heap.size w3 w1) (l' := fun x => [(0, str a_0), (1, str b_1), (10, .bool x)]) ?_ ?_
  · rintro _ w10 ⟨rfl, hbw11⟩
    replace hb := hb.trans (hbw11.mono hb.size)
    refine sr_ev (v := .bool z7) (ev_move rfl) (by decide) ?_
    obtain ⟨z18, hz20, hS⟩ := bind_some' hS
    refine sr_join (m := 21) (C := fun (x : Bool) w1 => z18 = x ∧ Below w10.heap.size w10 w1) (l' := fun x => [(32, .bool x)]) ?_ ?_
    · rintro _ w21 ⟨rfl, hbw22⟩
      replace hb := hb.trans (hbw22.mono hb.size)
      refine sr_ev (v := .bool z18) (ev_assign rfl) (by decide) ?_
      refine sr_end (l' := [(4, .bool z18)]) (.cons rfl (.nil _)) ?_
      cases hS
      exact ke_ret1 Tryd.func22 rfl rfl ⟨_, rfl, rfl, hb⟩
    · intro K17
      clear hS
      have hj19 := Below.refl w10.heap.size w10
      rcases Bool.eq_false_or_eq_true z7 with hg16 | hg16
      · have hS := ite_true' hz20 hg16
        refine sr_evg (b := true) (e := 11) rfl rfl hg16 (v := str a_0) (ev_move rfl) (by decide) ?_
        refine sr_evg (b := true) (e := 11) rfl rfl hg16 (v := str b_1) (ev_move rfl) (by decide) ?_
        refine sr_evg (b := true) (e := 11) rfl rfl hg16 (v := .bool (a_0 == b_1)) (ev_seq rfl rfl) (by decide) ?_
        refine sr_evg (b := true) (e := 11) rfl rfl hg16 (v := .bool (a_0 == b_1)) (ev_move rfl) (by decide) ?_
        obtain ⟨z25, hz27, hS⟩ := bind_some' hS
        refine sr_join (m := 16) (C := fun (x : Bool) w1 => z25 = x ∧ Below w10.heap.size w10 w1) (l' := fun x => [(11, .bool z7), (31, .bool x)]) ?_ ?_
        · rintro _ w28 ⟨rfl, hbw29⟩
          replace hb := hb.trans (hbw29.mono hb.size)
          replace hj19 := hj19.trans (hbw29.mono hj19.size)
          refine sr_ev (v := .bool z25) (ev_pick_t rfl hg16 rfl) (by decide) ?_
          exact sr_weaken (l' := [(32, .bool z25)]) (.cons rfl (.nil _)) (K17 z25 _ ⟨(Option.some.inj hS).symm, hj19⟩)
        · intro K24
          clear hS
          have hj26 := Below.refl w10.heap.size w10
          rcases Bool.eq_false_or_eq_true (a_0 == b_1) with hg23 | hg23
          · have hS := ite_true' hz27 hg23
            refine sr_pass (e := 15) rfl rfl (by rw [hg23]; rfl) (by decide) ?_
            refine sr_pass (e := 15) rfl rfl (by rw [hg23]; rfl) (by decide) ?_
            refine sr_pass (e := 15) rfl rfl (by rw [hg23]; rfl) (by decide) ?_
            refine sr_pass (e := 15) rfl rfl (by rw [hg23]; rfl) (by decide) ?_
            refine sr_pass (e := 15) rfl rfl (by rw [hg23]; rfl) (by decide) ?_
            refine sr_pass (e := 15) rfl rfl (by rw [hg23]; rfl) (by decide) ?_
            refine sr_pass_undef (e := 21) rfl rfl (by decide) ?_
            refine sr_pass_undef (e := 21) rfl rfl (by decide) ?_
            refine sr_pass_undef (e := 21) rfl rfl (by decide) ?_
            refine sr_pass_undef (e := 21) rfl rfl (by decide) ?_
            refine sr_pass_undef (e := 21) rfl rfl (by decide) ?_
            refine sr_pass_undef (e := 21) rfl rfl (by decide) ?_
            refine sr_pass_undef (e := 21) rfl rfl (by decide) ?_
            refine sr_pass_undef (e := 21) rfl rfl (by decide) ?_
            refine sr_pass (e := 15) rfl rfl (by rw [hg23]; rfl) (by decide) ?_
            refine sr_evg (b := true) (e := 11) rfl rfl hg16 (v := .bool true) (ev_pick_t rfl hg23 rfl) (by decide) ?_
            exact sr_weaken (l' := [(11, .bool z7), (31, .bool true)]) (.cons rfl (.cons rfl (.nil _))) (K24 true _ ⟨(Option.some.inj hS).symm, hj26⟩)
          · have hS := ite_false' hz27 hg23
            refine sr_evg (b := false) (e := 15) rfl rfl hg23 (v := str b_1) (ev_move rfl) (by decide) ?_
            refine sr_evg (b := false) (e := 15) rfl rfl hg23 (v := .int .i64 (b_1.length : Int)) (ev_slen Tryd.underlying9 rfl) (by decide) ?_
            refine sr_evg (b := false) (e := 15) rfl rfl hg23 (v := str a_0) (ev_move rfl) (by decide) ?_
            refine sr_evg (b := false) (e := 15) rfl rfl hg23 (v := .int .i64 (a_0.length : Int)) (ev_slen Tryd.underlying9 rfl) (by decide) ?_
            refine sr_evg (b := false) (e := 15) rfl rfl hg23 (v := .bool (decide ((b_1.length : Int) > (a_0.length : Int)))) (ev_gt rfl rfl) (by decide) ?_
            refine sr_evg (b := false) (e := 15) rfl rfl hg23 (v := .bool (decide ((b_1.length : Int) > (a_0.length : Int)))) (ev_move rfl) (by decide) ?_
            obtain ⟨z32, hz34, hS⟩ := bind_some' hS
            refine sr_join (m := 9) (C := fun (x : Bool) w1 => z32 = x ∧ Below w10.heap.size w10 w1) (l' := fun x => [(11, .bool z7), (15, .bool (a_0 == b_1)), (30, .bool x)]) ?_ ?_
            · rintro _ w35 ⟨rfl, hbw36⟩
              replace hb := hb.trans (hbw36.mono hb.size)
              replace hj19 := hj19.trans (hbw36.mono hj19.size)
              replace hj26 := hj26.trans (hbw36.mono hj26.size)
              refine sr_evg (b := true) (e := 11) rfl rfl hg16 (v := .bool z32) (ev_pick_f rfl hg23 rfl) (by decide) ?_
              exact sr_weaken (l' := [(11, .bool z7), (31, .bool z32)]) (.cons rfl (.cons rfl (.nil _))) (K24 z32 _ ⟨(Option.some.inj hS).symm, hj26⟩)
            · intro K31
              clear hS
              have hj33 := Below.refl w10.heap.size w10
              rcases Bool.eq_false_or_eq_true (decide ((b_1.length : Int) > (a_0.length : Int))) with hg30 | hg30
              · have hS := ite_true' hz34 hg30
                refine sr_evg (b := true) (e := 21) rfl rfl hg30 (v := str b_1) (ev_move rfl) (by decide) ?_
                refine sr_evg (b := true) (e := 21) rfl rfl hg30 (v := str a_0) (ev_move rfl) (by decide) ?_
                refine sr_evg (b := true) (e := 21) rfl rfl hg30 (v := .int .i64 (a_0.length : Int)) (ev_slen Tryd.underlying9 rfl) (by decide) ?_
                refine sr_evg (b := true) (e := 21) rfl rfl hg30 (v := .int .i64 (IntKind.i64.wrap ((a_0.length : Int) + 1))) (ev_add rfl rfl) (by decide) ?_
                obtain ⟨hk37, hS⟩ := chk_some hS
                refine sr_evg (b := true) (e := 21) rfl rfl hg30 (v := str (cut b_1 0 (IntKind.i64.wrap ((a_0.length : Int) + 1)))) (ev_sslice_to Tryd.underlying9 rfl rfl hk37) (by decide) ?_
                refine sr_evg (b := true) (e := 21) rfl rfl hg30 (v := str a_0) (ev_move rfl) (by decide) ?_
                obtain ⟨hk38, hS⟩ := chk_some hS
                refine sr_evg (b := true) (e := 21) rfl rfl hg30 (v := str (a_0 ++ ([46]))) (ev_cat rfl rfl hk38) (by decide) ?_
                refine sr_evg (b := true) (e := 21) rfl rfl hg30 (v := .bool ((cut b_1 0 (IntKind.i64.wrap ((a_0.length : Int) + 1))) == (a_0 ++ ([46])))) (ev_seq rfl rfl) (by decide) ?_
                refine sr_evg (b := false) (e := 15) rfl rfl hg23 (v := .bool ((cut b_1 0 (IntKind.i64.wrap ((a_0.length : Int) + 1))) == (a_0 ++ ([46])))) (ev_pick_t rfl hg30 rfl) (by decide) ?_
                exact sr_weaken (l' := [(11, .bool z7), (15, .bool (a_0 == b_1)), (30, .bool ((cut b_1 0 (IntKind.i64.wrap ((a_0.length : Int) + 1))) == (a_0 ++ ([46]))))]) (.cons rfl (.cons rfl (.cons rfl (.nil _)))) (K31 ((cut b_1 0 (IntKind.i64.wrap ((a_0.length : Int) + 1))) == (a_0 ++ ([46]))) _ ⟨(Option.some.inj hS).symm, hj33⟩)
              · have hS := ite_false' hz34 hg30
                refine sr_pass (e := 21) rfl rfl (by rw [hg30]; rfl) (by decide) ?_
                refine sr_pass (e := 21) rfl rfl (by rw [hg30]; rfl) (by decide) ?_
                refine sr_pass (e := 21) rfl rfl (by rw [hg30]; rfl) (by decide) ?_
                refine sr_pass (e := 21) rfl rfl (by rw [hg30]; rfl) (by decide) ?_
                refine sr_pass (e := 21) rfl rfl (by rw [hg30]; rfl) (by decide) ?_
                refine sr_pass (e := 21) rfl rfl (by rw [hg30]; rfl) (by decide) ?_
                refine sr_pass (e := 21) rfl rfl (by rw [hg30]; rfl) (by decide) ?_
                refine sr_pass (e := 21) rfl rfl (by rw [hg30]; rfl) (by decide) ?_
                refine sr_evg (b := false) (e := 15) rfl rfl hg23 (v := .bool false) (ev_pick_f rfl hg30 rfl) (by decide) ?_
                exact sr_weaken (l' := [(11, .bool z7), (15, .bool (a_0 == b_1)), (30, .bool false)]) (.cons rfl (.cons rfl (.cons rfl (.nil _)))) (K31 false _ ⟨(Option.some.inj hS).symm, hj33⟩)
      · have hS := ite_false' hz20 hg16
        refine sr_pass (e := 11) rfl rfl (by rw [hg16]; rfl) (by decide) ?_
        refine sr_pass (e := 11) rfl rfl (by rw [hg16]; rfl) (by decide) ?_
        refine sr_pass (e := 11) rfl rfl (by rw [hg16]; rfl) (by decide) ?_
        refine sr_pass (e := 11) rfl rfl (by rw [hg16]; rfl) (by decide) ?_
        refine sr_pass_undef (e := 15) rfl rfl (by decide) ?_
        refine sr_pass_undef (e := 15) rfl rfl (by decide) ?_
        refine sr_pass_undef (e := 15) rfl rfl (by decide) ?_
        refine sr_pass_undef (e := 15) rfl rfl (by decide) ?_
        refine sr_pass_undef (e := 15) rfl rfl (by decide) ?_
        refine sr_pass_undef (e := 15) rfl rfl (by decide) ?_
        refine sr_pass_undef (e := 21) rfl rfl (by decide) ?_
        refine sr_pass_undef (e := 21) rfl rfl (by decide) ?_
        refine sr_pass_undef (e := 21) rfl rfl (by decide) ?_
        refine sr_pass_undef (e := 21) rfl rfl (by decide) ?_
        refine sr_pass_undef (e := 21) rfl rfl (by decide) ?_
        refine sr_pass_undef (e := 21) rfl rfl (by decide) ?_
        refine sr_pass_undef (e := 21) rfl rfl (by decide) ?_
        refine sr_pass_undef (e := 21) rfl rfl (by decide) ?_
        refine sr_pass_undef (e := 15) rfl rfl (by decide) ?_
        refine sr_pass (e := 11) rfl rfl (by rw [hg16]; rfl) (by decide) ?_
        refine sr_ev (v := .bool false) (ev_pick_f rfl hg16 rfl) (by decide) ?_
        exact sr_weaken (l' := [(32, .bool false)]) (.cons rfl (.nil _)) (K17 false _ ⟨(Option.some.inj hS).symm, hj19⟩)
  · intro K6
    clear hS
    have hj8 := Below.refl w3.heap.size w3
    rcases Bool.eq_false_or_eq_true y1 with hg5 | hg5
    · have hS := ite_true' hz9 hg5
      refine sr_evg (b := true) (e := 7) rfl rfl hg5 (v := str b_1) (ev_move rfl) (by decide) ?_
      obtain ⟨y12, hy13, hS⟩ := bind_some' hS
      refine sr_callg (b := true) (e := 7) rfl rfl hg5 (vs := [str b_1]) rfl Tryd.call34 rfl (ref29_Valid_ok _ (hg.below hb) hy13) (by decide) ?_
      rintro _ w14 ⟨rfl, hbw15⟩
      replace hb := hb.trans (hbw15.mono hb.size)
      replace hj8 := hj8.trans (hbw15.mono hj8.size)
      refine sr_ev (v := .bool y12) (ev_pick_t rfl hg5 rfl) (by decide) ?_
      exact sr_weaken (l' := [(0, str a_0), (1, str b_1), (10, .bool y12)]) (.cons rfl (.cons rfl (.cons rfl (.nil _)))) (K6 y12 _ ⟨(Option.some.inj hS).symm, hj8⟩)
    · have hS := ite_false' hz9 hg5
      refine sr_pass (e := 7) rfl rfl (by rw [hg5]; rfl) (by decide) ?_
      refine sr_pass (e := 7) rfl rfl (by rw [hg5]; rfl) (by decide) ?_
      refine sr_ev (v := .bool false) (ev_pick_f rfl hg5 rfl) (by decide) ?_
      exact sr_weaken (l' := [(0, str a_0), (1, str b_1), (10, .bool false)]) (.cons rfl (.cons rfl (.cons rfl (.nil _)))) (K6 false _ ⟨(Option.some.inj hS).symm, hj8⟩)
theorem ref06_Insert_B3_ok {w0 : World} (hg : Gs w0) {A0 : Nat → Prop} (hA0 : ∀ b, A0 b → b < w0.heap.size) (r0 : List Str → Str → List Str → Bool → Int → Option (List Str))
    (hr0 : ∀ {r : List Str} {l_0 : List Str} {s_1 : Str} {out_5 : List Str} {done_6 : Bool} {i_7 : Int} {vl_0 : Value} {vout_5 : Value}, r0 l_0 s_1 out_5 done_6 i_7 = some r → ∀ {w : World} {A : Nat → Prop}, (Below w0.heap.size w0 w) → (∀ b, A b → b < w.heap.size) → (∀ b, A0 b → A b) → (Hp A w0.heap.size w []) → (SlR strC A w vl_0 l_0) → (OwnS strC 9 A w0.heap.size w vout_5 out_5) → (Dj vout_5 []) → KE Tryd.prog 36 (Ret (fun v w' => ∃ x1, v = x1 ∧ SlR strC A0 w' x1 r ∧ Below w0.heap.size w0 w')) 48 [.inLoop (sub (bodyOf Tryd.f36) [2, 2, 2, 1, 2, 2, 1]), .inBlock 0, .code (sub (bodyOf Tryd.f36) [2, 2, 2, 2])] [(0, vl_0), (1, str s_1), (5, vout_5), (6, .bool done_6), (7, .int .i64 i_7)] w) {r : List Str} {l_0 : List Str} {s_1 : Str} {out_5 : List Str} {done_6 : Bool} {i_7 : Int} {vl_0 : Value} {vout_5 : Value} (hS : ref06_Insert_B3 r0 l_0 s_1 out_5 done_6 i_7 = some r) {w : World} {A : Nat → Prop} (hb : Below w0.heap.size w0 w) (hA : ∀ b, A b → b < w.heap.size) (hi : ∀ b, A0 b → A b) (hH : Hp A w0.heap.size w []) (hl_0 : SlR strC A w vl_0 l_0) (hout_5 : OwnS strC 9 A w0.heap.size w vout_5 out_5) (dout_5 : Dj vout_5 []) :
    KE Tryd.prog 36 (Ret (fun v w' => ∃ x1, v = x1 ∧ SlR strC A0 w' x1 r ∧ Below w0.heap.size w0 w')) 48 [.inBlock 1, .code (sub (bodyOf Tryd.f36) [2, 2, 2, 1, 2, 2, 1, 2, 2]), .inLoop (sub (bodyOf Tryd.f36) [2, 2, 2, 1, 2, 2, 1]), .inBlock 0, .code (sub (bodyOf Tryd.f36) [2, 2, 2, 2])] [(0, vl_0), (1, str s_1), (5, vout_5), (6, .bool done_6), (7, .int .i64 i_7)] w := by
  unfold ref06_Insert_B3 at hS
  refine ke_inBlock ?_
  refine ke_region ?_
  refine sr_ev (v := .int .i64 i_7) (ev_move rfl) (by decide) ?_
  refine sr_ev (v := .int .i64 (IntKind.i64.wrap (i_7 + 1))) (ev_add rfl rfl) (by decide) ?_
  refine sr_ev (v := .int .i64 (IntKind.i64.wrap (i_7 + 1))) (ev_assign rfl) (by decide) ?_
  refine sr_end (l' := [(0, vl_0), (1, str s_1), (5, vout_5), (6, .bool done_6), (7, .int .i64 (IntKind.i64.wrap (i_7 + 1)))]) (.cons rfl (.cons rfl (.cons rfl (.cons rfl (.cons rfl (.nil _)))))) ?_
  have hK := hr0 hS hb hA hi hH hl_0 hout_5 dout_5
  exact ke_weaken (l' := [(0, vl_0), (1, str s_1), (5, vout_5), (6, .bool done_6), (7, .int .i64 (IntKind.i64.wrap (i_7 + 1)))]) (.cons rfl (.cons rfl (.cons rfl (.cons rfl (.cons rfl (.nil _)))))) hK
theorem ref06_Insert_B2_ok {w0 : World} (hg : Gs w0) {A0 : Nat → Prop} (hA0 : ∀ b, A0 b → b < w0.heap.size) (r0 : List Str → Str → List Str → Bool → Int → Option (List Str))
    (hr0 : ∀ {r : List Str} {l_0 : List Str} {s_1 : Str} {out_5 : List Str} {done_6 : Bool} {i_7 : Int} {vl_0 : Value} {vout_5 : Value}, r0 l_0 s_1 out_5 done_6 i_7 = some r → ∀ {w : World} {A : Nat → Prop}, (Below w0.heap.size w0 w) → (∀ b, A b → b < w.heap.size) → (∀ b, A0 b → A b) → (Hp A w0.heap.size w []) → (SlR strC A w vl_0 l_0) → (OwnS strC 9 A w0.heap.size w vout_5 out_5) → (Dj vout_5 []) → KE Tryd.prog 36 (Ret (fun v w' => ∃ x1, v = x1 ∧ SlR strC A0 w' x1 r ∧ Below w0.heap.size w0 w')) 48 [.inLoop (sub (bodyOf Tryd.f36) [2, 2, 2, 1, 2, 2, 1]), .inBlock 0, .code (sub (bodyOf Tryd.f36) [2, 2, 2, 2])] [(0, vl_0), (1, str s_1), (5, vout_5), (6, .bool done_6), (7, .int .i64 i_7)] w) {r : List Str} {l_0 : List Str} {s_1 : Str} {out_5 : List Str} {done_6 : Bool} {i_7 : Int} {vl_0 : Value} {vout_5 : Value} (hS : ref06_Insert_B2 r0 l_0 s_1 out_5 done_6 i_7 = some r) {w : World} {A : Nat → Prop} (hb : Below w0.heap.size w0 w) (hA : ∀ b, A b → b < w.heap.size) (hi : ∀ b, A0 b → A b) (hH : Hp A w0.heap.size w []) (hl_0 : SlR strC A w vl_0 l_0) (hout_5 : OwnS strC 9 A w0.heap.size w vout_5 out_5) (dout_5 : Dj vout_5 []) :
    KE Tryd.prog 36 (Ret (fun v w' => ∃ x1, v = x1 ∧ SlR strC A0 w' x1 r ∧ Below w0.heap.size w0 w')) 48 [.code (sub (bodyOf Tryd.f36) [2, 2, 2, 1, 2, 2, 1, 2, 1, 2, 2]), .inBlock 1, .code (sub (bodyOf Tryd.f36) [2, 2, 2, 1, 2, 2, 1, 2, 2]), .inLoop (sub (bodyOf Tryd.f36) [2, 2, 2, 1, 2, 2, 1]), .inBlock 0, .code (sub (bodyOf Tryd.f36) [2, 2, 2, 2])] [(0, vl_0), (1, str s_1), (5, vout_5), (6, .bool done_6), (7, .int .i64 i_7)] w := by
  unfold ref06_Insert_B2 at hS
  refine ke_seq ?_
  refine ke_region ?_
  refine sr_ev (v := vl_0) (ev_move rfl) (by decide) ?_
  refine sr_ev (v := .int .i64 i_7) (ev_move rfl) (by decide) ?_
  obtain ⟨y38, hy39, hS⟩ := bind_some' hS
  refine sr_index hl_0 Tryd.underlying22 Tryd.info9 rfl rfl rfl hy39 (by decide) ?_
  intro b40 o41 cs43 he42
  obtain rfl : cs43 = [str y38] := he42.rd
  refine sr_ev (v := str y38) (ev_load Tryd.isAgg9 rfl (he42.cell 0 _ rfl)) (by decide) ?_
  refine sr_ev (v := str s_1) (ev_move rfl) (by decide) ?_
  refine sr_ev (v := .bool (!(y38 == s_1))) (ev_sne rfl rfl) (by decide) ?_
  refine sr_end (l' := [(0, vl_0), (1, str s_1), (5, vout_5), (6, .bool done_6), (7, .int .i64 i_7), (33, .bool (!(y38 == s_1)))]) (.cons rfl (.cons rfl (.cons rfl (.cons rfl (.cons rfl (.cons rfl (.nil _))))))) ?_
  refine ke_cond (t := !(y38 == s_1)) rfl (fun hc44 => ?_) (fun hc44 => ?_)
  · replace hS := ite_true' hS hc44
    refine ke_region ?_
    refine sr_ev (v := vout_5) (ev_move rfl) (by decide) ?_
    refine sr_ev (v := vl_0) (ev_move rfl) (by decide) ?_
    refine sr_ev (v := .int .i64 i_7) (ev_move rfl) (by decide) ?_
    obtain ⟨y45, hy46, hS⟩ := bind_some' hS
    refine sr_index hl_0 Tryd.underlying22 Tryd.info9 rfl rfl rfl hy46 (by decide) ?_
    intro b47 o48 cs50 he49
    obtain rfl : cs50 = [str y45] := he49.rd
    refine sr_ev (v := str y45) (ev_load Tryd.isAgg9 rfl (he49.cell 0 _ rfl)) (by decide) ?_
    refine sr_lit (c := strC) (A := A) (E := 9) (xs := [y45]) (vs := #[(0, str y45)]) (cs := #[str y45]) (css := [[str y45]]) rfl (fun _ => by kernel_rfl) rfl ⟨rfl, trivial⟩ rfl (by decide) hA (by decide) ?_
    intro v51 w53 h52 hbw54
    replace hb := hb.trans (hbw54.mono hb.size)
    replace hA := lt_mono hA hbw54.size
    replace hH := hH.below hbw54
    replace hl_0 := hl_0.below hbw54
    replace hout_5 := hout_5.below hbw54
    obtain ⟨hk55, hS⟩ := chk_some hS
    refine sr_append (c := strC) (A := A) (B := w0.heap.size) (E := 9) (xs := out_5) (ys := ([y45] : List Str)) hout_5 h52 Tryd.underlying22 Tryd.info9 rfl rfl rfl (by decide) (by decide) hA hb.size hk55 rfl rfl (by decide) ?_
    intro v56 A58 w59 h57 hst60 hbB61 hinc62 hA1 hoth63 hold
    have dj64 : Dj v56 [] := fun p hp e => by rcases hold _ e with h | h; exact dout_5 p hp h; have := hH.lt hp; omega
    replace hb := hb.trans hbB61
    replace hi := fun b hb => hinc62 b (hi b hb)
    replace hH := hH.keep hinc62 (fun p hp => hoth63 _ (hH.lt hp) (dout_5 p hp))
    replace hA := hA1
    clear hA1
    replace hl_0 := hl_0.step hst60
    refine sr_ev (v := v56) (ev_assign rfl) (by decide) ?_
    refine sr_end (l' := [(0, vl_0), (1, str s_1), (5, v56), (6, .bool done_6), (7, .int .i64 i_7)]) (.cons rfl (.cons rfl (.cons rfl (.cons rfl (.cons rfl (.nil _)))))) ?_
    have hK := ref06_Insert_B3_ok hg hA0 _ hr0 hS hb hA hi hH hl_0 h57 dj64
    exact ke_weaken (l' := [(0, vl_0), (1, str s_1), (5, v56), (6, .bool done_6), (7, .int .i64 i_7)]) (.cons rfl (.cons rfl (.cons rfl (.cons rfl (.cons rfl (.nil _)))))) hK
  · replace hS := ite_false' hS hc44
    refine ke_skip ?_
    have hK := ref06_Insert_B3_ok hg hA0 _ hr0 hS hb hA hi hH hl_0 hout_5 dout_5
    exact ke_weaken (l' := [(0, vl_0), (1, str s_1), (5, vout_5), (6, .bool done_6), (7, .int .i64 i_7)]) (.cons rfl (.cons rfl (.cons rfl (.cons rfl (.cons rfl (.nil _)))))) hK
theorem ref06_Insert_B4_ok {w0 : World} (hg : Gs w0) {A0 : Nat → Prop} (hA0 : ∀ b, A0 b → b < w0.heap.size) (r0 : List Str → Str → List Str → Bool → Int → Option (List Str))
    (hr0 : ∀ {r : List Str} {l_0 : List Str} {s_1 : Str} {out_5 : List Str} {done_6 : Bool} {i_7 : Int} {vl_0 : Value} {vout_5 : Value}, r0 l_0 s_1 out_5 done_6 i_7 = some r → ∀ {w : World} {A : Nat → Prop}, (Below w0.heap.size w0 w) → (∀ b, A b → b < w.heap.size) → (∀ b, A0 b → A b) → (Hp A w0.heap.size w []) → (SlR strC A w vl_0 l_0) → (OwnS strC 9 A w0.heap.size w vout_5 out_5) → (Dj vout_5 []) → KE Tryd.prog 36 (Ret (fun v w' => ∃ x1, v = x1 ∧ SlR strC A0 w' x1 r ∧ Below w0.heap.size w0 w')) 48 [.inLoop (sub (bodyOf Tryd.f36) [2, 2, 2, 1, 2, 2, 1]), .inBlock 0, .code (sub (bodyOf Tryd.f36) [2, 2, 2, 2])] [(0, vl_0), (1, str s_1), (5, vout_5), (6, .bool done_6), (7, .int .i64 i_7)] w) {r : List Str} {out_5 : List Str} {vout_5 : Value} (hS : ref06_Insert_B4 r0 out_5 = some r) {w : World} {A : Nat → Prop} (hb : Below w0.heap.size w0 w) (hA : ∀ b, A b → b < w.heap.size) (hi : ∀ b, A0 b → A b) (hH : Hp A w0.heap.size w []) (hout_5 : OwnS strC 9 A w0.heap.size w vout_5 out_5) (dout_5 : Dj vout_5 []) :
    KE Tryd.prog 36 (Ret (fun v w' => ∃ x1, v = x1 ∧ SlR strC A0 w' x1 r ∧ Below w0.heap.size w0 w')) 48 [.code (sub (bodyOf Tryd.f36) [2, 2, 2, 2, 2])] [(5, vout_5)] w := by
  unfold ref06_Insert_B4 at hS
  refine ke_seq ?_
  refine ke_region ?_
  refine sr_ev (v := vout_5) (ev_move rfl) (by decide) ?_
  refine sr_ev (v := vout_5) (ev_assign rfl) (by decide) ?_
  refine sr_end (l' := [(4, vout_5)]) (.cons rfl (.nil _)) ?_
  cases hS
  exact ke_ret1 Tryd.func36 rfl rfl ⟨_, rfl, _, rfl, hout_5.toSl (fun b hb => ⟨hi b hb, hA0 b hb⟩), hb⟩
theorem ref06_Insert_L1_ok {w0 : World} (hg : Gs w0) {A0 : Nat → Prop} (hA0 : ∀ b, A0 b → b < w0.heap.size) : ∀ (n : Nat), ∀ {r : List Str} {l_0 : List Str} {s_1 : Str} {out_5 : List Str} {done_6 : Bool} {i_7 : Int} {vl_0 : Value} {vout_5 : Value}, ref06_Insert_L1 n l_0 s_1 out_5 done_6 i_7 = some r → ∀ {w : World} {A : Nat → Prop}, (Below w0.heap.size w0 w) → (∀ b, A b → b < w.heap.size) → (∀ b, A0 b → A b) → (Hp A w0.heap.size w []) → (SlR strC A w vl_0 l_0) → (OwnS strC 9 A w0.heap.size w vout_5 out_5) → (Dj vout_5 []) → KE Tryd.prog 36 (Ret (fun v w' => ∃ x1, v = x1 ∧ SlR strC A0 w' x1 r ∧ Below w0.heap.size w0 w')) 48 [.code (sub (bodyOf Tryd.f36) [2, 2, 2, 1, 2, 2, 1]), .inLoop (sub (bodyOf Tryd.f36) [2, 2, 2, 1, 2, 2, 1]), .inBlock 0, .code (sub (bodyOf Tryd.f36) [2, 2, 2, 2])] [(0, vl_0), (1, str s_1), (5, vout_5), (6, .bool done_6), (7, .int .i64 i_7)] w := by
  intro n
  induction n with
  | zero => intro r l_0 s_1 out_5 done_6 i_7 vl_0 vout_5 hS; cases hS
  | succ n ih =>
    have hr0 : ∀ {r : List Str} {l_0 : List Str} {s_1 : Str} {out_5 : List Str} {done_6 : Bool} {i_7 : Int} {vl_0 : Value} {vout_5 : Value}, ref06_Insert_L1 n l_0 s_1 out_5 done_6 i_7 = some r → ∀ {w : World} {A : Nat → Prop}, (Below w0.heap.size w0 w) → (∀ b, A b → b < w.heap.size) → (∀ b, A0 b → A b) → (Hp A w0.heap.size w []) → (SlR strC A w vl_0 l_0) → (OwnS strC 9 A w0.heap.size w vout_5 out_5) → (Dj vout_5 []) → KE Tryd.prog 36 (Ret (fun v w' => ∃ x1, v = x1 ∧ SlR strC A0 w' x1 r ∧ Below w0.heap.size w0 w')) 48 [.inLoop (sub (bodyOf Tryd.f36) [2, 2, 2, 1, 2, 2, 1]), .inBlock 0, .code (sub (bodyOf Tryd.f36) [2, 2, 2, 2])] [(0, vl_0), (1, str s_1), (5, vout_5), (6, .bool done_6), (7, .int .i64 i_7)] w := fun {r} {l_0} {s_1} {out_5} {done_6} {i_7} {vl_0} {vout_5} hS {w} {A} hb hA hi hH hl_0 hout_5 dout_5 => ke_inLoop (ih hS hb hA hi hH hl_0 hout_5 dout_5)
    clear ih
    intro r l_0 s_1 out_5 done_6 i_7 vl_0 vout_5 hS w A hb hA hi hH hl_0 hout_5 dout_5
    unfold ref06_Insert_L1 at hS
    refine ke_seq ?_
    refine ke_seq ?_
    refine ke_region ?_
    refine sr_ev (v := .int .i64 i_7) (ev_move rfl) (by decide) ?_
    refine sr_ev (v := vl_0) (ev_move rfl) (by decide) ?_
    refine sr_ev (v := .int .i64 (l_0.length : Int)) (ev_sllen Tryd.underlying22 rfl hl_0) (by decide) ?_
    refine sr_ev (v := .bool (decide (i_7 < (l_0.length : Int)))) (ev_lt rfl rfl) (by decide) ?_
    refine sr_end (l' := [(0, vl_0), (1, str s_1), (5, vout_5), (6, .bool done_6), (7, .int .i64 i_7), (11, .bool (decide (i_7 < (l_0.length : Int))))]) (.cons rfl (.cons rfl (.cons rfl (.cons rfl (.cons rfl (.cons rfl (.nil _))))))) ?_
    refine ke_cond (t := decide (i_7 < (l_0.length : Int))) rfl (fun hc7 => ?_) (fun hc7 => ?_)
    · replace hS := ite_true' hS hc7
      refine ke_skip ?_
      refine ke_seq ?_
      refine ke_block ?_
      refine ke_seq ?_
      refine ke_seq ?_
      refine ke_region ?_
      refine sr_ev (v := .bool done_6) (ev_move rfl) (by decide) ?_
      refine sr_ev (v := .bool (!done_6)) (ev_not rfl) (by decide) ?_
      refine sr_ev (v := .bool (!done_6)) (ev_move rfl) (by decide) ?_
      obtain ⟨z10, hz12, hS⟩ := bind_some' hS
      refine sr_join (m := 7) (C := fun (x : Bool) w1 => z10 = x ∧ Below w.heap.size w w1) (l' := fun x => [(0, vl_0), (1, str s_1), (5, vout_5), (6, .bool done_6), (7, .int .i64 i_7), (23, .bool x)]) ?_ ?_
      · rintro _ w13 ⟨rfl, hbw14⟩
        replace hb := hb.trans (hbw14.mono hb.size)
        replace hA := lt_mono hA hbw14.size
        replace hH := hH.below hbw14
        replace hl_0 := hl_0.below hbw14
        replace hout_5 := hout_5.below hbw14
        refine sr_end (l' := [(0, vl_0), (1, str s_1), (5, vout_5), (6, .bool done_6), (7, .int .i64 i_7), (23, .bool z10)]) (.cons rfl (.cons rfl (.cons rfl (.cons rfl (.cons rfl (.cons rfl (.nil _))))))) ?_
        refine ke_cond (t := z10) rfl (fun hc21 => ?_) (fun hc21 => ?_)
        · replace hS := ite_true' hS hc21
          refine ke_seq ?_
          refine ke_region ?_
          refine sr_ev (v := vout_5) (ev_move rfl) (by decide) ?_
          refine sr_ev (v := str s_1) (ev_move rfl) (by decide) ?_
          refine sr_lit (c := strC) (A := A) (E := 9) (xs := [s_1]) (vs := #[(0, str s_1)]) (cs := #[str s_1]) (css := [[str s_1]]) rfl (fun _ => by kernel_rfl) rfl ⟨rfl, trivial⟩ rfl (by decide) hA (by decide) ?_
          intro v22 w24 h23 hbw25
          replace hb := hb.trans (hbw25.mono hb.size)
          replace hA := lt_mono hA hbw25.size
          replace hH := hH.below hbw25
          replace hl_0 := hl_0.below hbw25
          replace hout_5 := hout_5.below hbw25
          obtain ⟨hk26, hS⟩ := chk_some hS
          refine sr_append (c := strC) (A := A) (B := w0.heap.size) (E := 9) (xs := out_5) (ys := ([s_1] : List Str)) hout_5 h23 Tryd.underlying22 Tryd.info9 rfl rfl rfl (by decide) (by decide) hA hb.size hk26 rfl rfl (by decide) ?_
          intro v27 A29 w30 h28 hst31 hbB32 hinc33 hA1 hoth34 hold
          have dj35 : Dj v27 [] := fun p hp e => by rcases hold _ e with h | h; exact dout_5 p hp h; have := hH.lt hp; omega
          replace hb := hb.trans hbB32
          replace hi := fun b hb => hinc33 b (hi b hb)
          replace hH := hH.keep hinc33 (fun p hp => hoth34 _ (hH.lt hp) (dout_5 p hp))
          replace hA := hA1
          clear hA1
          replace hl_0 := hl_0.step hst31
          refine sr_ev (v := v27) (ev_assign rfl) (by decide) ?_
          refine sr_end (l' := [(0, vl_0), (1, str s_1), (5, v27), (7, .int .i64 i_7)]) (.cons rfl (.cons rfl (.cons rfl (.cons rfl (.nil _))))) ?_
          refine ke_region ?_
          refine sr_ev (v := .bool true) (ev_assign rfl) (by decide) ?_
          refine sr_end (l' := [(0, vl_0), (1, str s_1), (5, v27), (6, .bool true), (7, .int .i64 i_7)]) (.cons rfl (.cons rfl (.cons rfl (.cons rfl (.cons rfl (.nil _)))))) ?_
          have hK := ref06_Insert_B2_ok hg hA0 _ hr0 hS hb hA hi hH hl_0 h28 dj35
          exact ke_weaken (l' := [(0, vl_0), (1, str s_1), (5, v27), (6, .bool true), (7, .int .i64 i_7)]) (.cons rfl (.cons rfl (.cons rfl (.cons rfl (.cons rfl (.nil _)))))) hK
        · replace hS := ite_false' hS hc21
          refine ke_skip ?_
          have hK := ref06_Insert_B2_ok hg hA0 _ hr0 hS hb hA hi hH hl_0 hout_5 dout_5
          exact ke_weaken (l' := [(0, vl_0), (1, str s_1), (5, vout_5), (6, .bool done_6), (7, .int .i64 i_7)]) (.cons rfl (.cons rfl (.cons rfl (.cons rfl (.cons rfl (.nil _)))))) hK
      · intro K9
        clear hS
        have hj11 := Below.refl w.heap.size w
        rcases Bool.eq_false_or_eq_true (!done_6) with hg8 | hg8
        · have hS := ite_true' hz12 hg8
          refine sr_evg (b := true) (e := 16) rfl rfl hg8 (v := vl_0) (ev_move rfl) (by decide) ?_
          refine sr_evg (b := true) (e := 16) rfl rfl hg8 (v := .int .i64 i_7) (ev_move rfl) (by decide) ?_
          obtain ⟨y15, hy16, hS⟩ := bind_some' hS
          refine sr_unguard rfl rfl hg8 ?_
          refine sr_index hl_0 Tryd.underlying22 Tryd.info9 rfl rfl rfl hy16 (by decide) ?_
          intro b17 o18 cs20 he19
          obtain rfl : cs20 = [str y15] := he19.rd
          refine sr_evg (b := true) (e := 16) rfl rfl hg8 (v := str y15) (ev_load Tryd.isAgg9 rfl (he19.cell 0 _ rfl)) (by decide) ?_
          refine sr_evg (b := true) (e := 16) rfl rfl hg8 (v := str s_1) (ev_move rfl) (by decide) ?_
          refine sr_evg (b := true) (e := 16) rfl rfl hg8 (v := .bool (!sLt y15 s_1)) (ev_sge rfl rfl) (by decide) ?_
          refine sr_ev (v := .bool (!sLt y15 s_1)) (ev_pick_t rfl hg8 rfl) (by decide) ?_
          exact sr_weaken (l' := [(0, vl_0), (1, str s_1), (5, vout_5), (6, .bool done_6), (7, .int .i64 i_7), (23, .bool (!sLt y15 s_1))]) (.cons rfl (.cons rfl (.cons rfl (.cons rfl (.cons rfl (.cons rfl (.nil _))))))) (K9 (!sLt y15 s_1) _ ⟨(Option.some.inj hS).symm, hj11⟩)
        · have hS := ite_false' hz12 hg8
          refine sr_pass (e := 16) rfl rfl (by rw [hg8]; rfl) (by decide) ?_
          refine sr_pass (e := 16) rfl rfl (by rw [hg8]; rfl) (by decide) ?_
          refine sr_pass (e := 16) rfl rfl (by rw [hg8]; rfl) (by decide) ?_
          refine sr_pass (e := 16) rfl rfl (by rw [hg8]; rfl) (by decide) ?_
          refine sr_pass (e := 16) rfl rfl (by rw [hg8]; rfl) (by decide) ?_
          refine sr_pass (e := 16) rfl rfl (by rw [hg8]; rfl) (by decide) ?_
          refine sr_ev (v := .bool false) (ev_pick_f rfl hg8 rfl) (by decide) ?_
          exact sr_weaken (l' := [(0, vl_0), (1, str s_1), (5, vout_5), (6, .bool done_6), (7, .int .i64 i_7), (23, .bool false)]) (.cons rfl (.cons rfl (.cons rfl (.cons rfl (.cons rfl (.cons rfl (.nil _))))))) (K9 false _ ⟨(Option.some.inj hS).symm, hj11⟩)
    · replace hS := ite_false' hS hc7
      refine ke_exit (k' := _) rfl ?_
      refine ke_seq ?_
      refine ke_seq ?_
      refine ke_region ?_
      refine sr_ev (v := .bool done_6) (ev_move rfl) (by decide) ?_
      refine sr_ev (v := .bool (!done_6)) (ev_not rfl) (by decide) ?_
      refine sr_end (l' := [(1, str s_1), (5, vout_5), (42, .bool (!done_6))]) (.cons rfl (.cons rfl (.cons rfl (.nil _)))) ?_
      refine ke_cond (t := !done_6) rfl (fun hc67 => ?_) (fun hc67 => ?_)
      · replace hS := ite_true' hS hc67
        refine ke_region ?_
        refine sr_ev (v := vout_5) (ev_move rfl) (by decide) ?_
        refine sr_ev (v := str s_1) (ev_move rfl) (by decide) ?_
        refine sr_lit (c := strC) (A := A) (E := 9) (xs := [s_1]) (vs := #[(0, str s_1)]) (cs := #[str s_1]) (css := [[str s_1]]) rfl (fun _ => by kernel_rfl) rfl ⟨rfl, trivial⟩ rfl (by decide) hA (by decide) ?_
        intro v68 w70 h69 hbw71
        replace hb := hb.trans (hbw71.mono hb.size)
        replace hA := lt_mono hA hbw71.size
        replace hH := hH.below hbw71
        replace hout_5 := hout_5.below hbw71
        obtain ⟨hk72, hS⟩ := chk_some hS
        refine sr_append (c := strC) (A := A) (B := w0.heap.size) (E := 9) (xs := out_5) (ys := ([s_1] : List Str)) hout_5 h69 Tryd.underlying22 Tryd.info9 rfl rfl rfl (by decide) (by decide) hA hb.size hk72 rfl rfl (by decide) ?_
        intro v73 A75 w76 h74 hst77 hbB78 hinc79 hA1 hoth80 hold
        have dj81 : Dj v73 [] := fun p hp e => by rcases hold _ e with h | h; exact dout_5 p hp h; have := hH.lt hp; omega
        replace hb := hb.trans hbB78
        replace hi := fun b hb => hinc79 b (hi b hb)
        replace hH := hH.keep hinc79 (fun p hp => hoth80 _ (hH.lt hp) (dout_5 p hp))
        replace hA := hA1
        clear hA1
        refine sr_ev (v := v73) (ev_assign rfl) (by decide) ?_
        refine sr_end (l' := [(5, v73)]) (.cons rfl (.nil _)) ?_
        have hK := ref06_Insert_B4_ok hg hA0 _ hr0 hS hb hA hi hH h74 dj81
        exact ke_weaken (l' := [(5, v73)]) (.cons rfl (.nil _)) hK
      · replace hS := ite_false' hS hc67
        refine ke_skip ?_
        have hK := ref06_Insert_B4_ok hg hA0 _ hr0 hS hb hA hi hH hout_5 dout_5
        exact ke_weaken (l' := [(5, vout_5)]) (.cons rfl (.nil _)) hK
theorem ref06_Insert_ok {A0 : Nat → Prop} (w0 : World) (hg : Gs w0) {l_0 : List Str} {s_1 : Str} {v1 : Value} {r : List Str} (h2 : SlR strC A0 w0 v1 l_0) (hA0 : ∀ b, A0 b → b < w0.heap.size) (hS : ref06_Insert l_0 s_1 = some r) :
    Calls Tryd.prog 36 #[v1, str s_1] w0 (Ret (fun v w' => ∃ x1, v = x1 ∧ SlR strC A0 w' x1 r ∧ Below w0.heap.size w0 w')) := by
  unfold ref06_Insert at hS
  have hb := Below.refl w0.heap.size w0
  have hA := hA0
  have hi : ∀ b, A0 b → A0 b := fun _ h => h
  have hH := Hp.nil A0 w0.heap.size w0
  refine calls_of_ke Tryd.func36 rfl (n := 48) rfl rfl (l := [(0, v1), (1, str s_1)]) rfl ?_
  refine ke_seq ?_
  refine ke_region ?_
  refine sr_ev (v := .slice none 0 0) (ev_assign rfl) (by decide) ?_
  refine sr_end (l' := [(0, v1), (1, str s_1)]) (.cons rfl (.cons rfl (.nil _))) ?_
  refine ke_seq ?_
  refine ke_region ?_
  refine sr_ev (v := .slice none 0 0) (ev_assign rfl) (by decide) ?_
  refine sr_end (l' := [(0, v1), (1, str s_1), (5, .slice none 0 0)]) (.cons rfl (.cons rfl (.cons rfl (.nil _)))) ?_
  refine ke_seq ?_
  refine ke_region ?_
  refine sr_ev (v := .bool false) (ev_assign rfl) (by decide) ?_
  refine sr_end (l' := [(0, v1), (1, str s_1), (5, .slice none 0 0), (6, .bool false)]) (.cons rfl (.cons rfl (.cons rfl (.cons rfl (.nil _))))) ?_
  refine ke_seq ?_
  refine ke_seq ?_
  refine ke_region ?_
  refine sr_ev (v := .int .i64 0) (ev_assign rfl) (by decide) ?_
  refine sr_end (l' := [(0, v1), (1, str s_1), (5, .slice none 0 0), (6, .bool false), (7, .int .i64 0)]) (.cons rfl (.cons rfl (.cons rfl (.cons rfl (.cons rfl (.nil _)))))) ?_
  refine ke_block ?_
  have hK := ref06_Insert_L1_ok hg hA0 _ hS hb hA hi hH h2 OwnS.nil (Dj.nil _)
  exact ke_weaken (l' := [(0, v1), (1, str s_1), (5, (.slice none 0 0)), (6, .bool false), (7, .int .i64 0)]) (.cons rfl (.cons rfl (.cons rfl (.cons rfl (.cons rfl (.nil _)))))) (ke_loop hK)
theorem ref29_Sorted_B3_ok {w0 : World} (hg : Gs w0) {A0 : Nat → Prop} (hA0 : ∀ b, A0 b → b < w0.heap.size) (r0 : List Str → List Str → Int → Option (List Str)) (r1 : List Str → List Str → Int → Bool → Int → Option (List Str))
    (hr0 : ∀ {r : List Str} {l_0 : List Str} {out_3 : List Str} {i_4 : Int} {vl_0 : Value} {vout_3 : Value}, r0 l_0 out_3 i_4 = some r → ∀ {w : World} {A : Nat → Prop}, (Below w0.heap.size w0 w) → (∀ b, A b → b < w.heap.size) → (∀ b, A0 b → A b) → (Hp A w0.heap.size w []) → (SlR strC A w vl_0 l_0) → (SlR strC A w vout_3 out_3) → KE Tryd.prog 20 (Ret (fun v w' => ∃ x1, v = x1 ∧ SlR strC A0 w' x1 r ∧ Below w0.heap.size w0 w')) 56 [.inLoop (sub (bodyOf Tryd.f20) [2, 2, 1, 2, 2, 1]), .inBlock 0, .code (sub (bodyOf Tryd.f20) [2, 2, 2])] [(0, vl_0), (3, vout_3), (4, .int .i64 i_4)] w)
    (hr1 : ∀ {r : List Str} {l_0 : List Str} {out_3 : List Str} {i_4 : Int} {least_5 : Bool} {k_6 : Int} {vl_0 : Value} {vout_3 : Value}, r1 l_0 out_3 i_4 least_5 k_6 = some r → ∀ {w : World} {A : Nat → Prop}, (Below w0.heap.size w0 w) → (∀ b, A b → b < w.heap.size) → (∀ b, A0 b → A b) → (Hp A w0.heap.size w []) → (SlR strC A w vl_0 l_0) → (SlR strC A w vout_3 out_3) → KE Tryd.prog 20 (Ret (fun v w' => ∃ x1, v = x1 ∧ SlR strC A0 w' x1 r ∧ Below w0.heap.size w0 w')) 56 [.inLoop (sub (bodyOf Tryd.f20) [2, 2, 1, 2, 2, 1, 2, 1, 2, 2, 1, 2, 2, 1]), .inBlock 2, .code (sub (bodyOf Tryd.f20) [2, 2, 1, 2, 2, 1, 2, 1, 2, 2, 2]), .inBlock 1, .code (sub (bodyOf Tryd.f20) [2, 2, 1, 2, 2, 1, 2, 2]), .inLoop (sub (bodyOf Tryd.f20) [2, 2, 1, 2, 2, 1]), .inBlock 0, .code (sub (bodyOf Tryd.f20) [2, 2, 2])] [(0, vl_0), (3, vout_3), (4, .int .i64 i_4), (5, .bool least_5), (6, .int .i64 k_6)] w) {r : List Str} {l_0 : List Str} {out_3 : List Str} {i_4 : Int} {vl_0 : Value} {vout_3 : Value} (hS : ref29_Sorted_B3 r0 r1 l_0 out_3 i_4 = some r) {w : World} {A : Nat → Prop} (hb : Below w0.heap.size w0 w) (hA : ∀ b, A b → b < w.heap.size) (hi : ∀ b, A0 b → A b) (hH : Hp A w0.heap.size w []) (hl_0 : SlR strC A w vl_0 l_0) (hout_3 : SlR strC A w vout_3 out_3) :
    KE Tryd.prog 20 (Ret (fun v w' => ∃ x1, v = x1 ∧ SlR strC A0 w' x1 r ∧ Below w0.heap.size w0 w')) 56 [.inBlock 1, .code (sub (bodyOf Tryd.f20) [2, 2, 1, 2, 2, 1, 2, 2]), .inLoop (sub (bodyOf Tryd.f20) [2, 2, 1, 2, 2, 1]), .inBlock 0, .code (sub (bodyOf Tryd.f20) [2, 2, 2])] [(0, vl_0), (3, vout_3), (4, .int .i64 i_4)] w := by
  unfold ref29_Sorted_B3 at hS
  refine ke_inBlock ?_
  refine ke_region ?_
  refine sr_ev (v := .int .i64 i_4) (ev_move rfl) (by decide) ?_
  refine sr_ev (v := .int .i64 (IntKind.i64.wrap (i_4 + 1))) (ev_add rfl rfl) (by decide) ?_
  refine sr_ev (v := .int .i64 (IntKind.i64.wrap (i_4 + 1))) (ev_assign rfl) (by decide) ?_
  refine sr_end (l' := [(0, vl_0), (3, vout_3), (4, .int .i64 (IntKind.i64.wrap (i_4 + 1)))]) (.cons rfl (.cons rfl (.cons rfl (.nil _)))) ?_
  have hK := hr0 hS hb hA hi hH hl_0 hout_3
  exact ke_weaken (l' := [(0, vl_0), (3, vout_3), (4, .int .i64 (IntKind.i64.wrap (i_4 + 1)))]) (.cons rfl (.cons rfl (.cons rfl (.nil _)))) hK
theorem ref29_Sorted_L2_ok {w0 : World} (hg : Gs w0) {A0 : Nat → Prop} (hA0 : ∀ b, A0 b → b < w0.heap.size) (r0 : List Str → List Str → Int → Option (List Str))
    (hr0 : ∀ {r : List Str} {l_0 : List Str} {out_3 : List Str} {i_4 : Int} {vl_0 : Value} {vout_3 : Value}, r0 l_0 out_3 i_4 = some r → ∀ {w : World} {A : Nat → Prop}, (Below w0.heap.size w0 w) → (∀ b, A b → b < w.heap.size) → (∀ b, A0 b → A b) → (Hp A w0.heap.size w []) → (SlR strC A w vl_0 l_0) → (SlR strC A w vout_3 out_3) → KE Tryd.prog 20 (Ret (fun v w' => ∃ x1, v = x1 ∧ SlR strC A0 w' x1 r ∧ Below w0.heap.size w0 w')) 56 [.inLoop (sub (bodyOf Tryd.f20) [2, 2, 1, 2, 2, 1]), .inBlock 0, .code (sub (bodyOf Tryd.f20) [2, 2, 2])] [(0, vl_0), (3, vout_3), (4, .int .i64 i_4)] w) : ∀ (n : Nat), ∀ {r : List Str} {l_0 : List Str} {out_3 : List Str} {i_4 : Int} {least_5 : Bool} {k_6 : Int} {vl_0 : Value} {vout_3 : Value}, ref29_Sorted_L2 r0 n l_0 out_3 i_4 least_5 k_6 = some r → ∀ {w : World} {A : Nat → Prop}, (Below w0.heap.size w0 w) → (∀ b, A b → b < w.heap.size) → (∀ b, A0 b → A b) → (Hp A w0.heap.size w []) → (SlR strC A w vl_0 l_0) → (SlR strC A w vout_3 out_3) → KE Tryd.prog 20 (Ret (fun v w' => ∃ x1, v = x1 ∧ SlR strC A0 w' x1 r ∧ Below w0.heap.size w0 w')) 56 [.code (sub (bodyOf Tryd.f20) [2, 2, 1, 2, 2, 1, 2, 1, 2, 2, 1, 2, 2, 1]), .inLoop (sub (bodyOf Tryd.f20) [2, 2, 1, 2, 2, 1, 2, 1, 2, 2, 1, 2, 2, 1]), .inBlock 2, .code (sub (bodyOf Tryd.f20) [2, 2, 1, 2, 2, 1, 2, 1, 2, 2, 2]), .inBlock 1, .code (sub (bodyOf Tryd.f20) [2, 2, 1, 2, 2, 1, 2, 2]), .inLoop (sub (bodyOf Tryd.f20) [2, 2, 1, 2, 2, 1]), .inBlock 0, .code (sub (bodyOf Tryd.f20) [2, 2, 2])] [(0, vl_0), (3, vout_3), (4, .int .i64 i_4), (5, .bool least_5), (6, .int .i64 k_6)] w := by
  intro n
  induction n with
  | zero => intro r l_0 out_3 i_4 least_5 k_6 vl_0 vout_3 hS; cases hS
  | succ n ih =>
    have hr1 : ∀ {r : List Str} {l_0 : List Str} {out_3 : List Str} {i_4 : Int} {least_5 : Bool} {k_6 : Int} {vl_0 : Value} {vout_3 : Value}, ref29_Sorted_L2 r0 n l_0 out_3 i_4 least_5 k_6 = some r → ∀ {w : World} {A : Nat → Prop}, (Below w0.heap.size w0 w) → (∀ b, A b → b < w.heap.size) → (∀ b, A0 b → A b) → (Hp A w0.heap.size w []) → (SlR strC A w vl_0 l_0) → (SlR strC A w vout_3 out_3) → KE Tryd.prog 20 (Ret (fun v w' => ∃ x1, v = x1 ∧ SlR strC A0 w' x1 r ∧ Below w0.heap.size w0 w')) 56 [.inLoop (sub (bodyOf Tryd.f20) [2, 2, 1, 2, 2, 1, 2, 1, 2, 2, 1, 2, 2, 1]), .inBlock 2, .code (sub (bodyOf Tryd.f20) [2, 2, 1, 2, 2, 1, 2, 1, 2, 2, 2]), .inBlock 1, .code (sub (bodyOf Tryd.f20) [2, 2, 1, 2, 2, 1, 2, 2]), .inLoop (sub (bodyOf Tryd.f20) [2, 2, 1, 2, 2, 1]), .inBlock 0, .code (sub (bodyOf Tryd.f20) [2, 2, 2])] [(0, vl_0), (3, vout_3), (4, .int .i64 i_4), (5, .bool least_5), (6, .int .i64 k_6)] w := fun {r} {l_0} {out_3} {i_4} {least_5} {k_6} {vl_0} {vout_3} hS {w} {A} hb hA hi hH hl_0 hout_3 => ke_inLoop (ih hS hb hA hi hH hl_0 hout_3)
    clear ih
    intro r l_0 out_3 i_4 least_5 k_6 vl_0 vout_3 hS w A hb hA hi hH hl_0 hout_3
    unfold ref29_Sorted_L2 at hS
    refine ke_seq ?_
    refine ke_seq ?_
    refine ke_region ?_
    refine sr_ev (v := .int .i64 k_6) (ev_move rfl) (by decide) ?_
    refine sr_ev (v := vl_0) (ev_move rfl) (by decide) ?_
    refine sr_ev (v := .int .i64 (l_0.length : Int)) (ev_sllen Tryd.underlying22 rfl hl_0) (by decide) ?_
    refine sr_ev (v := .bool (decide (k_6 < (l_0.length : Int)))) (ev_lt rfl rfl) (by decide) ?_
    refine sr_end (l' := [(0, vl_0), (3, vout_3), (4, .int .i64 i_4), (5, .bool least_5), (6, .int .i64 k_6), (21, .bool (decide (k_6 < (l_0.length : Int))))]) (.cons rfl (.cons rfl (.cons rfl (.cons rfl (.cons rfl (.cons rfl (.nil _))))))) ?_
    refine ke_cond (t := decide (k_6 < (l_0.length : Int))) rfl (fun hc20 => ?_) (fun hc20 => ?_)
    · replace hS := ite_true' hS hc20
      refine ke_skip ?_
      refine ke_seq ?_
      refine ke_block ?_
      refine ke_region_q Tryd.mixed (by kernel_rfl) ?_
      refine sq_ev (v := .bool least_5) (fun w1 hw1 => ev_move rfl) (by decide) ?_
      refine sq_ev (v := .bool least_5) (fun w1 hw1 => ev_move rfl) (by decide) ?_
      obtain ⟨z25, hz27, hS⟩ := bind_some' hS
      refine sq_join (m := 22) (C := fun (x : Bool) => z25 = x) (l' := fun x => [(0, vl_0), (3, vout_3), (4, .int .i64 i_4), (6, .int .i64 k_6), (47, .bool x)]) ?_ ?_
      · rintro _ rfl
        refine sq_ev (v := .bool z25) (fun w1 hw1 => ev_assign rfl) (by decide) ?_
        refine sq_end (l' := [(0, vl_0), (3, vout_3), (4, .int .i64 i_4), (5, .bool z25), (6, .int .i64 k_6)]) (.cons rfl (.cons rfl (.cons rfl (.cons rfl (.cons rfl (.nil _)))))) (fun w22 hw21 => ?_)
        replace hb := hb.trans (hw21.mono hb.size)
        replace hA := lt_mono hA hw21.size
        replace hH := hH.below hw21
        replace hl_0 := hl_0.below hw21
        replace hout_3 := hout_3.below hw21
        refine ke_inBlock ?_
        refine ke_region ?_
        refine sr_ev (v := .int .i64 k_6) (ev_move rfl) (by decide) ?_
        refine sr_ev (v := .int .i64 (IntKind.i64.wrap (k_6 + 1))) (ev_add rfl rfl) (by decide) ?_
        refine sr_ev (v := .int .i64 (IntKind.i64.wrap (k_6 + 1))) (ev_assign rfl) (by decide) ?_
        refine sr_end (l' := [(0, vl_0), (3, vout_3), (4, .int .i64 i_4), (5, .bool z25), (6, .int .i64 (IntKind.i64.wrap (k_6 + 1)))]) (.cons rfl (.cons rfl (.cons rfl (.cons rfl (.cons rfl (.nil _)))))) ?_
        have hK := hr1 hS hb hA hi hH hl_0 hout_3
        exact ke_weaken (l' := [(0, vl_0), (3, vout_3), (4, .int .i64 i_4), (5, .bool z25), (6, .int .i64 (IntKind.i64.wrap (k_6 + 1)))]) (.cons rfl (.cons rfl (.cons rfl (.cons rfl (.cons rfl (.nil _)))))) hK
      · intro K24
        clear hS
        rcases Bool.eq_false_or_eq_true least_5 with hg23 | hg23
        · have hS := ite_true' hz27 hg23
          refine sq_evg (b := true) (e := 25) rfl rfl hg23 (v := vl_0) (fun w1 hw1 => ev_move rfl) (by decide) ?_
          refine sq_evg (b := true) (e := 25) rfl rfl hg23 (v := .int .i64 k_6) (fun w1 hw1 => ev_move rfl) (by decide) ?_
          obtain ⟨y30, hy31, hS⟩ := bind_some' hS
          obtain ⟨b32, o33, cs35, he34, hixhe34⟩ := hl_0.elem Tryd.underlying22 Tryd.info9 rfl (P := Tryd.prog) hy31
          obtain rfl : cs35 = [str y30] := he34.rd
          refine sq_evg (b := true) (e := 25) rfl rfl hg23 (v := .pointer (some ⟨b32, o33, none⟩)) (fun w1 hw1 => hixhe34 w1 hw1 rfl rfl) (by decide) ?_
          refine sq_evg (b := true) (e := 25) rfl rfl hg23 (v := str y30) (fun w1 hw1 => ev_load Tryd.isAgg9 rfl ((he34.step (.of_below hw1) (Nat.succ_pos _)).cell 0 _ rfl)) (by decide) ?_
          refine sq_evg (b := true) (e := 25) rfl rfl hg23 (v := vl_0) (fun w1 hw1 => ev_move rfl) (by decide) ?_
          refine sq_evg (b := true) (e := 25) rfl rfl hg23 (v := .int .i64 i_4) (fun w1 hw1 => ev_move rfl) (by decide) ?_
          obtain ⟨y36, hy37, hS⟩ := bind_some' hS
          obtain ⟨b38, o39, cs41, he40, hixhe40⟩ := hl_0.elem Tryd.underlying22 Tryd.info9 rfl (P := Tryd.prog) hy37
          obtain rfl : cs41 = [str y36] := he40.rd
          refine sq_evg (b := true) (e := 25) rfl rfl hg23 (v := .pointer (some ⟨b38, o39, none⟩)) (fun w1 hw1 => hixhe40 w1 hw1 rfl rfl) (by decide) ?_
          refine sq_evg (b := true) (e := 25) rfl rfl hg23 (v := str y36) (fun w1 hw1 => ev_load Tryd.isAgg9 rfl ((he40.step (.of_below hw1) (Nat.succ_pos _)).cell 0 _ rfl)) (by decide) ?_
          refine sq_evg (b := true) (e := 25) rfl rfl hg23 (v := .bool (y30 == y36)) (fun w1 hw1 => ev_seq rfl rfl) (by decide) ?_
          refine sq_evg (b := true) (e := 25) rfl rfl hg23 (v := .bool (y30 == y36)) (fun w1 hw1 => ev_move rfl) (by decide) ?_
          obtain ⟨z44, hz46, hS⟩ := bind_some' hS
          refine sq_join (m := 11) (C := fun (x : Bool) => z44 = x) (l' := fun x => [(0, vl_0), (3, vout_3), (4, .int .i64 i_4), (6, .int .i64 k_6), (25, .bool least_5), (46, .bool x)]) ?_ ?_
          · rintro _ rfl
            refine sq_ev (v := .bool z44) (fun w1 hw1 => ev_pick_t rfl hg23 rfl) (by decide) ?_
            exact sq_weaken (l' := [(0, vl_0), (3, vout_3), (4, .int .i64 i_4), (6, .int .i64 k_6), (47, .bool z44)]) (.cons rfl (.cons rfl (.cons rfl (.cons rfl (.cons rfl (.nil _)))))) (K24 z44 (Option.some.inj hS).symm)
          · intro K43
            clear hS
            rcases Bool.eq_false_or_eq_true (y30 == y36) with hg42 | hg42
            · have hS := ite_true' hz46 hg42
              refine sq_pass (e := 35) rfl rfl (by rw [hg42]; rfl) (by decide) ?_
              refine sq_pass (e := 35) rfl rfl (by rw [hg42]; rfl) (by decide) ?_
              refine sq_pass (e := 35) rfl rfl (by rw [hg42]; rfl) (by decide) ?_
              refine sq_pass (e := 35) rfl rfl (by rw [hg42]; rfl) (by decide) ?_
              refine sq_pass (e := 35) rfl rfl (by rw [hg42]; rfl) (by decide) ?_
              refine sq_pass (e := 35) rfl rfl (by rw [hg42]; rfl) (by decide) ?_
              refine sq_pass (e := 35) rfl rfl (by rw [hg42]; rfl) (by decide) ?_
              refine sq_pass (e := 35) rfl rfl (by rw [hg42]; rfl) (by decide) ?_
              refine sq_pass (e := 35) rfl rfl (by rw [hg42]; rfl) (by decide) ?_
              refine sq_pass (e := 35) rfl rfl (by rw [hg42]; rfl) (by decide) ?_
              refine sq_evg (b := true) (e := 25) rfl rfl hg23 (v := .bool true) (fun w1 hw1 => ev_pick_t rfl hg42 rfl) (by decide) ?_
              exact sq_weaken (l' := [(0, vl_0), (3, vout_3), (4, .int .i64 i_4), (6, .int .i64 k_6), (25, .bool least_5), (46, .bool true)]) (.cons rfl (.cons rfl (.cons rfl (.cons rfl (.cons rfl (.cons rfl (.nil _))))))) (K43 true (Option.some.inj hS).symm)
            · have hS := ite_false' hz46 hg42
              refine sq_evg (b := false) (e := 35) rfl rfl hg42 (v := vl_0) (fun w1 hw1 => ev_move rfl) (by decide) ?_
              refine sq_evg (b := false) (e := 35) rfl rfl hg42 (v := .int .i64 k_6) (fun w1 hw1 => ev_move rfl) (by decide) ?_
              obtain ⟨y49, hy50, hS⟩ := bind_some' hS
              obtain ⟨b51, o52, cs54, he53, hixhe53⟩ := hl_0.elem Tryd.underlying22 Tryd.info9 rfl (P := Tryd.prog) hy50
              obtain rfl : cs54 = [str y49] := he53.rd
              refine sq_evg (b := false) (e := 35) rfl rfl hg42 (v := .pointer (some ⟨b51, o52, none⟩)) (fun w1 hw1 => hixhe53 w1 hw1 rfl rfl) (by decide) ?_
              refine sq_evg (b := false) (e := 35) rfl rfl hg42 (v := str y49) (fun w1 hw1 => ev_load Tryd.isAgg9 rfl ((he53.step (.of_below hw1) (Nat.succ_pos _)).cell 0 _ rfl)) (by decide) ?_
              refine sq_evg (b := false) (e := 35) rfl rfl hg42 (v := vl_0) (fun w1 hw1 => ev_move rfl) (by decide) ?_
              refine sq_evg (b := false) (e := 35) rfl rfl hg42 (v := .int .i64 i_4) (fun w1 hw1 => ev_move rfl) (by decide) ?_
              obtain ⟨y55, hy56, hS⟩ := bind_some' hS
              obtain ⟨b57, o58, cs60, he59, hixhe59⟩ := hl_0.elem Tryd.underlying22 Tryd.info9 rfl (P := Tryd.prog) hy56
              obtain rfl : cs60 = [str y55] := he59.rd
              refine sq_evg (b := false) (e := 35) rfl rfl hg42 (v := .pointer (some ⟨b57, o58, none⟩)) (fun w1 hw1 => hixhe59 w1 hw1 rfl rfl) (by decide) ?_
              refine sq_evg (b := false) (e := 35) rfl rfl hg42 (v := str y55) (fun w1 hw1 => ev_load Tryd.isAgg9 rfl ((he59.step (.of_below hw1) (Nat.succ_pos _)).cell 0 _ rfl)) (by decide) ?_
              obtain ⟨y61, hy62, hS⟩ := bind_some' hS
              refine sq_callg (b := false) (e := 35) rfl rfl hg42 (v := .bool y61) (vs := [str y49, str y55]) rfl Tryd.call22 rfl (fun w1 hw1 => (ref29_Implies_ok _ (hg.below (hb.trans (hw1.mono hb.size))) hy62)) (by decide) ?_
              refine sq_evg (b := false) (e := 35) rfl rfl hg42 (v := .bool (!y61)) (fun w1 hw1 => ev_not rfl) (by decide) ?_
              refine sq_evg (b := true) (e := 25) rfl rfl hg23 (v := .bool (!y61)) (fun w1 hw1 => ev_pick_f rfl hg42 rfl) (by decide) ?_
              exact sq_weaken (l' := [(0, vl_0), (3, vout_3), (4, .int .i64 i_4), (6, .int .i64 k_6), (25, .bool least_5), (46, .bool (!y61))]) (.cons rfl (.cons rfl (.cons rfl (.cons rfl (.cons rfl (.cons rfl (.nil _))))))) (K43 (!y61) (Option.some.inj hS).symm)
        · have hS := ite_false' hz27 hg23
          refine sq_pass (e := 25) rfl rfl (by rw [hg23]; rfl) (by decide) ?_
          refine sq_pass (e := 25) rfl rfl (by rw [hg23]; rfl) (by decide) ?_
          refine sq_pass (e := 25) rfl rfl (by rw [hg23]; rfl) (by decide) ?_
          refine sq_pass (e := 25) rfl rfl (by rw [hg23]; rfl) (by decide) ?_
          refine sq_pass (e := 25) rfl rfl (by rw [hg23]; rfl) (by decide) ?_
          refine sq_pass (e := 25) rfl rfl (by rw [hg23]; rfl) (by decide) ?_
          refine sq_pass (e := 25) rfl rfl (by rw [hg23]; rfl) (by decide) ?_
          refine sq_pass (e := 25) rfl rfl (by rw [hg23]; rfl) (by decide) ?_
          refine sq_pass (e := 25) rfl rfl (by rw [hg23]; rfl) (by decide) ?_
          refine sq_pass (e := 25) rfl rfl (by rw [hg23]; rfl) (by decide) ?_
          refine sq_pass_undef (e := 35) rfl rfl (by decide) ?_
          refine sq_pass_undef (e := 35) rfl rfl (by decide) ?_
          refine sq_pass_undef (e := 35) rfl rfl (by decide) ?_
          refine sq_pass_undef (e := 35) rfl rfl (by decide) ?_
          refine sq_pass_undef (e := 35) rfl rfl (by decide) ?_
          refine sq_pass_undef (e := 35) rfl rfl (by decide) ?_
          refine sq_pass_undef (e := 35) rfl rfl (by decide) ?_
          refine sq_pass_undef (e := 35) rfl rfl (by decide) ?_
          refine sq_pass_undef (e := 35) rfl rfl (by decide) ?_
          refine sq_pass_undef (e := 35) rfl rfl (by decide) ?_
          refine sq_pass (e := 25) rfl rfl (by rw [hg23]; rfl) (by decide) ?_
          refine sq_ev (v := .bool false) (fun w1 hw1 => ev_pick_f rfl hg23 rfl) (by decide) ?_
          exact sq_weaken (l' := [(0, vl_0), (3, vout_3), (4, .int .i64 i_4), (6, .int .i64 k_6), (47, .bool false)]) (.cons rfl (.cons rfl (.cons rfl (.cons rfl (.cons rfl (.nil _)))))) (K24 false (Option.some.inj hS).symm)
    · replace hS := ite_false' hS hc20
      refine ke_exit (k' := _) rfl ?_
      refine ke_seq ?_
      refine ke_region ?_
      refine sr_ev (v := .bool least_5) (ev_move rfl) (by decide) ?_
      refine sr_end (l' := [(0, vl_0), (3, vout_3), (4, .int .i64 i_4), (48, .bool least_5)]) (.cons rfl (.cons rfl (.cons rfl (.cons rfl (.nil _))))) ?_
      refine ke_cond (t := least_5) rfl (fun hc65 => ?_) (fun hc65 => ?_)
      · replace hS := ite_true' hS hc65
        refine ke_region ?_
        refine sr_ev (v := vout_3) (ev_move rfl) (by decide) ?_
        refine sr_ev (v := vl_0) (ev_move rfl) (by decide) ?_
        refine sr_ev (v := .int .i64 i_4) (ev_move rfl) (by decide) ?_
        obtain ⟨y66, hy67, hS⟩ := bind_some' hS
        refine sr_index hl_0 Tryd.underlying22 Tryd.info9 rfl rfl rfl hy67 (by decide) ?_
        intro b68 o69 cs71 he70
        obtain rfl : cs71 = [str y66] := he70.rd
        refine sr_ev (v := str y66) (ev_load Tryd.isAgg9 rfl (he70.cell 0 _ rfl)) (by decide) ?_
        obtain ⟨y72, hy73, hS⟩ := bind_some' hS
        refine sr_call (vs := [vout_3, str y66]) rfl Tryd.call36 rfl (ref06_Insert_ok _ (hg.below hb) hout_3 hA hy73) (by decide) ?_
        rintro v76 w74 ⟨_, rfl, h77, hbw75⟩
        replace hb := hb.trans (hbw75.mono hb.size)
        replace hA := lt_mono hA hbw75.size
        replace hH := hH.below hbw75
        replace hl_0 := hl_0.below hbw75
        refine sr_ev (v := v76) (ev_assign rfl) (by decide) ?_
        refine sr_end (l' := [(0, vl_0), (3, v76), (4, .int .i64 i_4)]) (.cons rfl (.cons rfl (.cons rfl (.nil _)))) ?_
        have hK := ref29_Sorted_B3_ok hg hA0 _ _ hr0 hr1 hS hb hA hi hH hl_0 h77
        exact ke_weaken (l' := [(0, vl_0), (3, v76), (4, .int .i64 i_4)]) (.cons rfl (.cons rfl (.cons rfl (.nil _)))) hK
      · replace hS := ite_false' hS hc65
        refine ke_skip ?_
        have hK := ref29_Sorted_B3_ok hg hA0 _ _ hr0 hr1 hS hb hA hi hH hl_0 hout_3
        exact ke_weaken (l' := [(0, vl_0), (3, vout_3), (4, .int .i64 i_4)]) (.cons rfl (.cons rfl (.cons rfl (.nil _)))) hK
theorem ref29_Sorted_L1_ok {w0 : World} (hg : Gs w0) {A0 : Nat → Prop} (hA0 : ∀ b, A0 b → b < w0.heap.size) : ∀ (n : Nat), ∀ {r : List Str} {l_0 : List Str} {out_3 : List Str} {i_4 : Int} {vl_0 : Value} {vout_3 : Value}, ref29_Sorted_L1 n l_0 out_3 i_4 = some r → ∀ {w : World} {A : Nat → Prop}, (Below w0.heap.size w0 w) → (∀ b, A b → b < w.heap.size) → (∀ b, A0 b → A b) → (Hp A w0.heap.size w []) → (SlR strC A w vl_0 l_0) → (SlR strC A w vout_3 out_3) → KE Tryd.prog 20 (Ret (fun v w' => ∃ x1, v = x1 ∧ SlR strC A0 w' x1 r ∧ Below w0.heap.size w0 w')) 56 [.code (sub (bodyOf Tryd.f20) [2, 2, 1, 2, 2, 1]), .inLoop (sub (bodyOf Tryd.f20) [2, 2, 1, 2, 2, 1]), .inBlock 0, .code (sub (bodyOf Tryd.f20) [2, 2, 2])] [(0, vl_0), (3, vout_3), (4, .int .i64 i_4)] w := by
  intro n
  induction n with
  | zero => intro r l_0 out_3 i_4 vl_0 vout_3 hS; cases hS
  | succ n ih =>
    have hr0 : ∀ {r : List Str} {l_0 : List Str} {out_3 : List Str} {i_4 : Int} {vl_0 : Value} {vout_3 : Value}, ref29_Sorted_L1 n l_0 out_3 i_4 = some r → ∀ {w : World} {A : Nat → Prop}, (Below w0.heap.size w0 w) → (∀ b, A b → b < w.heap.size) → (∀ b, A0 b → A b) → (Hp A w0.heap.size w []) → (SlR strC A w vl_0 l_0) → (SlR strC A w vout_3 out_3) → KE Tryd.prog 20 (Ret (fun v w' => ∃ x1, v = x1 ∧ SlR strC A0 w' x1 r ∧ Below w0.heap.size w0 w')) 56 [.inLoop (sub (bodyOf Tryd.f20) [2, 2, 1, 2, 2, 1]), .inBlock 0, .code (sub (bodyOf Tryd.f20) [2, 2, 2])] [(0, vl_0), (3, vout_3), (4, .int .i64 i_4)] w := fun {r} {l_0} {out_3} {i_4} {vl_0} {vout_3} hS {w} {A} hb hA hi hH hl_0 hout_3 => ke_inLoop (ih hS hb hA hi hH hl_0 hout_3)
    clear ih
    intro r l_0 out_3 i_4 vl_0 vout_3 hS w A hb hA hi hH hl_0 hout_3
    unfold ref29_Sorted_L1 at hS
    refine ke_seq ?_
    refine ke_seq ?_
    refine ke_region ?_
    refine sr_ev (v := .int .i64 i_4) (ev_move rfl) (by decide) ?_
    refine sr_ev (v := vl_0) (ev_move rfl) (by decide) ?_
    refine sr_ev (v := .int .i64 (l_0.length : Int)) (ev_sllen Tryd.underlying22 rfl hl_0) (by decide) ?_
    refine sr_ev (v := .bool (decide (i_4 < (l_0.length : Int)))) (ev_lt rfl rfl) (by decide) ?_
    refine sr_end (l' := [(0, vl_0), (3, vout_3), (4, .int .i64 i_4), (10, .bool (decide (i_4 < (l_0.length : Int))))]) (.cons rfl (.cons rfl (.cons rfl (.cons rfl (.nil _))))) ?_
    refine ke_cond (t := decide (i_4 < (l_0.length : Int))) rfl (fun hc7 => ?_) (fun hc7 => ?_)
    · replace hS := ite_true' hS hc7
      refine ke_skip ?_
      refine ke_seq ?_
      refine ke_block ?_
      refine ke_seq ?_
      refine ke_region ?_
      refine sr_ev (v := vl_0) (ev_move rfl) (by decide) ?_
      refine sr_ev (v := .int .i64 i_4) (ev_move rfl) (by decide) ?_
      obtain ⟨y8, hy9, hS⟩ := bind_some' hS
      refine sr_index hl_0 Tryd.underlying22 Tryd.info9 rfl rfl rfl hy9 (by decide) ?_
      intro b10 o11 cs13 he12
      obtain rfl : cs13 = [str y8] := he12.rd
      refine sr_ev (v := str y8) (ev_load Tryd.isAgg9 rfl (he12.cell 0 _ rfl)) (by decide) ?_
      obtain ⟨y14, hy15, hS⟩ := bind_some' hS
      refine sr_call (vs := [str y8]) rfl Tryd.call34 rfl (ref29_Valid_ok _ (hg.below hb) hy15) (by decide) ?_
      rintro _ w16 ⟨rfl, hbw17⟩
      replace hb := hb.trans (hbw17.mono hb.size)
      replace hA := lt_mono hA hbw17.size
      replace hH := hH.below hbw17
      replace hl_0 := hl_0.below hbw17
      replace hout_3 := hout_3.below hbw17
      refine sr_ev (v := .bool y14) (ev_assign rfl) (by decide) ?_
      refine sr_end (l' := [(0, vl_0), (3, vout_3), (4, .int .i64 i_4), (5, .bool y14)]) (.cons rfl (.cons rfl (.cons rfl (.cons rfl (.nil _))))) ?_
      refine ke_seq ?_
      refine ke_seq ?_
      refine ke_region ?_
      refine sr_ev (v := .int .i64 0) (ev_assign rfl) (by decide) ?_
      refine sr_end (l' := [(0, vl_0), (3, vout_3), (4, .int .i64 i_4), (5, .bool y14), (6, .int .i64 0)]) (.cons rfl (.cons rfl (.cons rfl (.cons rfl (.cons rfl (.nil _)))))) ?_
      refine ke_block ?_
      have hK := ref29_Sorted_L2_ok hg hA0 _ hr0 _ hS hb hA hi hH hl_0 hout_3
      exact ke_weaken (l' := [(0, vl_0), (3, vout_3), (4, .int .i64 i_4), (5, .bool y14), (6, .int .i64 0)]) (.cons rfl (.cons rfl (.cons rfl (.cons rfl (.cons rfl (.nil _)))))) (ke_loop hK)
    · replace hS := ite_false' hS hc7
      refine ke_exit (k' := _) rfl ?_
      refine ke_seq ?_
      refine ke_region ?_
      refine sr_ev (v := vout_3) (ev_move rfl) (by decide) ?_
      refine sr_ev (v := vout_3) (ev_assign rfl) (by decide) ?_
      refine sr_end (l' := [(2, vout_3)]) (.cons rfl (.nil _)) ?_
      cases hS
      exact ke_ret1 Tryd.func20 rfl rfl ⟨_, rfl, _, rfl, hout_3.weak hi, hb⟩
theorem ref29_Sorted_ok {A0 : Nat → Prop} (w0 : World) (hg : Gs w0) {l_0 : List Str} {v1 : Value} {r : List Str} (h2 : SlR strC A0 w0 v1 l_0) (hA0 : ∀ b, A0 b → b < w0.heap.size) (hS : ref29_Sorted l_0 = some r) :
    Calls Tryd.prog 20 #[v1] w0 (Ret (fun v w' => ∃ x1, v = x1 ∧ SlR strC A0 w' x1 r ∧ Below w0.heap.size w0 w')) := by
  unfold ref29_Sorted at hS
  have hb := Below.refl w0.heap.size w0
  have hA := hA0
  have hi : ∀ b, A0 b → A0 b := fun _ h => h
  have hH := Hp.nil A0 w0.heap.size w0
  refine calls_of_ke Tryd.func20 rfl (n := 56) rfl rfl (l := [(0, v1)]) rfl ?_
  refine ke_seq ?_
  refine ke_region ?_
  refine sr_ev (v := .slice none 0 0) (ev_assign rfl) (by decide) ?_
  refine sr_end (l' := [(0, v1)]) (.cons rfl (.nil _)) ?_
  refine ke_seq ?_
  refine ke_region ?_
  refine sr_ev (v := .slice none 0 0) (ev_assign rfl) (by decide) ?_
  refine sr_end (l' := [(0, v1), (3, .slice none 0 0)]) (.cons rfl (.cons rfl (.nil _))) ?_
  refine ke_seq ?_
  refine ke_seq ?_
  refine ke_region ?_
  refine sr_ev (v := .int .i64 0) (ev_assign rfl) (by decide) ?_
  refine sr_end (l' := [(0, v1), (3, .slice none 0 0), (4, .int .i64 0)]) (.cons rfl (.cons rfl (.cons rfl (.nil _)))) ?_
  refine ke_block ?_
  have hK := ref29_Sorted_L1_ok hg hA0 _ hS hb hA hi hH h2 SlR.nil
  exact ke_weaken (l' := [(0, v1), (3, (.slice none 0 0)), (4, .int .i64 0)]) (.cons rfl (.cons rfl (.cons rfl (.nil _)))) (ke_loop hK)
theorem ref29_covers_L1_ok {w0 : World} (hg : Gs w0) {A0 : Nat → Prop} (hA0 : ∀ b, A0 b → b < w0.heap.size) : ∀ (n : Nat), ∀ {r : Bool} {l_0 : List Str} {s_1 : Str} {i_5 : Int} {vl_0 : Value}, ref29_covers_L1 n l_0 s_1 i_5 = some r → ∀ {w : World} {A : Nat → Prop}, (Below w0.heap.size w0 w) → (∀ b, A b → b < w.heap.size) → (∀ b, A0 b → A b) → (Hp A w0.heap.size w []) → (SlR strC A w vl_0 l_0) → KE Tryd.prog 39 (Ret (fun v w' => v = .bool r ∧ Below w0.heap.size w0 w')) 18 [.code (sub (bodyOf Tryd.f39) [2, 1, 2, 2, 1]), .inLoop (sub (bodyOf Tryd.f39) [2, 1, 2, 2, 1]), .inBlock 0, .code (sub (bodyOf Tryd.f39) [2, 2])] [(0, vl_0), (1, str s_1), (5, .int .i64 i_5)] w := by
  intro n
  induction n with
  | zero => intro r l_0 s_1 i_5 vl_0 hS; cases hS
  | succ n ih =>
    have hr0 : ∀ {r : Bool} {l_0 : List Str} {s_1 : Str} {i_5 : Int} {vl_0 : Value}, ref29_covers_L1 n l_0 s_1 i_5 = some r → ∀ {w : World} {A : Nat → Prop}, (Below w0.heap.size w0 w) → (∀ b, A b → b < w.heap.size) → (∀ b, A0 b → A b) → (Hp A w0.heap.size w []) → (SlR strC A w vl_0 l_0) → KE Tryd.prog 39 (Ret (fun v w' => v = .bool r ∧ Below w0.heap.size w0 w')) 18 [.inLoop (sub (bodyOf Tryd.f39) [2, 1, 2, 2, 1]), .inBlock 0, .code (sub (bodyOf Tryd.f39) [2, 2])] [(0, vl_0), (1, str s_1), (5, .int .i64 i_5)] w := fun {r} {l_0} {s_1} {i_5} {vl_0} hS {w} {A} hb hA hi hH hl_0 => ke_inLoop (ih hS hb hA hi hH hl_0)
    clear ih
    intro r l_0 s_1 i_5 vl_0 hS w A hb hA hi hH hl_0
    unfold ref29_covers_L1 at hS
    refine ke_seq ?_
    refine ke_seq ?_
    refine ke_region ?_
    refine sr_ev (v := .int .i64 i_5) (ev_move rfl) (by decide) ?_
    refine sr_ev (v := vl_0) (ev_move rfl) (by decide) ?_
    refine sr_ev (v := .int .i64 (l_0.length : Int)) (ev_sllen Tryd.underlying22 rfl hl_0) (by decide) ?_
    refine sr_ev (v := .bool (decide (i_5 < (l_0.length : Int)))) (ev_lt rfl rfl) (by decide) ?_
    refine sr_end (l' := [(0, vl_0), (1, str s_1), (5, .int .i64 i_5), (9, .bool (decide (i_5 < (l_0.length : Int))))]) (.cons rfl (.cons rfl (.cons rfl (.cons rfl (.nil _))))) ?_
    refine ke_cond (t := decide (i_5 < (l_0.length : Int))) rfl (fun hc3 => ?_) (fun hc3 => ?_)
    · replace hS := ite_true' hS hc3
      refine ke_skip ?_
      refine ke_seq ?_
      refine ke_block ?_
      refine ke_seq ?_
      refine ke_region ?_
      refine sr_ev (v := vl_0) (ev_move rfl) (by decide) ?_
      refine sr_ev (v := .int .i64 i_5) (ev_move rfl) (by decide) ?_
      obtain ⟨y4, hy5, hS⟩ := bind_some' hS
      refine sr_index hl_0 Tryd.underlying22 Tryd.info9 rfl rfl rfl hy5 (by decide) ?_
      intro b6 o7 cs9 he8
      obtain rfl : cs9 = [str y4] := he8.rd
      refine sr_ev (v := str y4) (ev_load Tryd.isAgg9 rfl (he8.cell 0 _ rfl)) (by decide) ?_
      refine sr_ev (v := str s_1) (ev_move rfl) (by decide) ?_
      obtain ⟨y10, hy11, hS⟩ := bind_some' hS
      refine sr_call (vs := [str y4, str s_1]) rfl Tryd.call22 rfl (ref29_Implies_ok _ (hg.below hb) hy11) (by decide) ?_
      rintro _ w12 ⟨rfl, hbw13⟩
      replace hb := hb.trans (hbw13.mono hb.size)
      replace hA := lt_mono hA hbw13.size
      replace hH := hH.below hbw13
      replace hl_0 := hl_0.below hbw13
      refine sr_end (l' := [(0, vl_0), (1, str s_1), (5, .int .i64 i_5), (17, .bool y10)]) (.cons rfl (.cons rfl (.cons rfl (.cons rfl (.nil _))))) ?_
      refine ke_cond (t := y10) rfl (fun hc14 => ?_) (fun hc14 => ?_)
      · replace hS := ite_true' hS hc14
        refine ke_seq ?_
        refine ke_region ?_
        refine sr_ev (v := .bool true) (ev_assign rfl) (by decide) ?_
        refine sr_end (l' := [(4, .bool true)]) (.cons rfl (.nil _)) ?_
        cases hS
        exact ke_ret1 Tryd.func39 rfl rfl ⟨_, rfl, rfl, hb⟩
      · replace hS := ite_false' hS hc14
        refine ke_skip ?_
        refine ke_inBlock ?_
        refine ke_region ?_
        refine sr_ev (v := .int .i64 i_5) (ev_move rfl) (by decide) ?_
        refine sr_ev (v := .int .i64 (IntKind.i64.wrap (i_5 + 1))) (ev_add rfl rfl) (by decide) ?_
        refine sr_ev (v := .int .i64 (IntKind.i64.wrap (i_5 + 1))) (ev_assign rfl) (by decide) ?_
        refine sr_end (l' := [(0, vl_0), (1, str s_1), (5, .int .i64 (IntKind.i64.wrap (i_5 + 1)))]) (.cons rfl (.cons rfl (.cons rfl (.nil _)))) ?_
        have hK := hr0 hS hb hA hi hH hl_0
        exact ke_weaken (l' := [(0, vl_0), (1, str s_1), (5, .int .i64 (IntKind.i64.wrap (i_5 + 1)))]) (.cons rfl (.cons rfl (.cons rfl (.nil _)))) hK
    · replace hS := ite_false' hS hc3
      refine ke_exit (k' := _) rfl ?_
      refine ke_seq ?_
      refine ke_region ?_
      refine sr_ev (v := .bool false) (ev_assign rfl) (by decide) ?_
      refine sr_end (l' := [(4, .bool false)]) (.cons rfl (.nil _)) ?_
      cases hS
      exact ke_ret1 Tryd.func39 rfl rfl ⟨_, rfl, rfl, hb⟩
theorem ref29_covers_ok {A0 : Nat → Prop} (w0 : World) (hg : Gs w0) {l_0 : List Str} {s_1 : Str} {v1 : Value} {r : Bool} (h2 : SlR strC A0 w0 v1 l_0) (hS : ref29_covers l_0 s_1 = some r) :
    Calls Tryd.prog 39 #[v1, str s_1] w0 (Ret (fun v w' => v = .bool r ∧ Below w0.heap.size w0 w')) := by
  unfold ref29_covers at hS
  have hb := Below.refl w0.heap.size w0
  replace h2 := h2.weak (A' := fun _ => False) (fun _ h => h.elim)
  obtain ⟨A0, hA0, hAe⟩ : ∃ A0 : Nat → Prop, (∀ b, A0 b → b < w0.heap.size) ∧ A0 = fun _ => False := ⟨_, fun _ h => h.elim, rfl⟩
  rw [← hAe] at h2
  clear hAe
  have hA := hA0
  have hi : ∀ b, A0 b → A0 b := fun _ h => h
  have hH := Hp.nil A0 w0.heap.size w0
  refine calls_of_ke Tryd.func39 rfl (n := 18) rfl rfl (l := [(0, v1), (1, str s_1)]) rfl ?_
  refine ke_seq ?_
  refine ke_region ?_
  refine sr_ev (v := .bool false) (ev_assign rfl) (by decide) ?_
  refine sr_end (l' := [(0, v1), (1, str s_1)]) (.cons rfl (.cons rfl (.nil _))) ?_
  refine ke_seq ?_
  refine ke_seq ?_
  refine ke_region ?_
  refine sr_ev (v := .int .i64 0) (ev_assign rfl) (by decide) ?_
  refine sr_end (l' := [(0, v1), (1, str s_1), (5, .int .i64 0)]) (.cons rfl (.cons rfl (.cons rfl (.nil _)))) ?_
  refine ke_block ?_
  have hK := ref29_covers_L1_ok hg hA0 _ hS hb hA hi hH h2
  exact ke_weaken (l' := [(0, v1), (1, str s_1), (5, .int .i64 0)]) (.cons rfl (.cons rfl (.cons rfl (.nil _)))) (ke_loop hK)
theorem ref29_Within_L1_ok {w0 : World} (hg : Gs w0) {A0 : Nat → Prop} (hA0 : ∀ b, A0 b → b < w0.heap.size) : ∀ (n : Nat), ∀ {r : Bool} {a_0 : List Str} {b_1 : List Str} {i_5 : Int} {va_0 : Value} {vb_1 : Value}, ref29_Within_L1 n a_0 b_1 i_5 = some r → ∀ {w : World} {A : Nat → Prop}, (Below w0.heap.size w0 w) → (∀ b, A b → b < w.heap.size) → (∀ b, A0 b → A b) → (Hp A w0.heap.size w []) → (SlR strC A w va_0 a_0) → (SlR strC A w vb_1 b_1) → KE Tryd.prog 24 (Ret (fun v w' => v = .bool r ∧ Below w0.heap.size w0 w')) 19 [.code (sub (bodyOf Tryd.f24) [2, 1, 2, 2, 1]), .inLoop (sub (bodyOf Tryd.f24) [2, 1, 2, 2, 1]), .inBlock 0, .code (sub (bodyOf Tryd.f24) [2, 2])] [(0, va_0), (1, vb_1), (5, .int .i64 i_5)] w := by
  intro n
  induction n with
  | zero => intro r a_0 b_1 i_5 va_0 vb_1 hS; cases hS
  | succ n ih =>
    have hr0 : ∀ {r : Bool} {a_0 : List Str} {b_1 : List Str} {i_5 : Int} {va_0 : Value} {vb_1 : Value}, ref29_Within_L1 n a_0 b_1 i_5 = some r → ∀ {w : World} {A : Nat → Prop}, (Below w0.heap.size w0 w) → (∀ b, A b → b < w.heap.size) → (∀ b, A0 b → A b) → (Hp A w0.heap.size w []) → (SlR strC A w va_0 a_0) → (SlR strC A w vb_1 b_1) → KE Tryd.prog 24 (Ret (fun v w' => v = .bool r ∧ Below w0.heap.size w0 w')) 19 [.inLoop (sub (bodyOf Tryd.f24) [2, 1, 2, 2, 1]), .inBlock 0, .code (sub (bodyOf Tryd.f24) [2, 2])] [(0, va_0), (1, vb_1), (5, .int .i64 i_5)] w := fun {r} {a_0} {b_1} {i_5} {va_0} {vb_1} hS {w} {A} hb hA hi hH ha_0 hb_1 => ke_inLoop (ih hS hb hA hi hH ha_0 hb_1)
    clear ih
    intro r a_0 b_1 i_5 va_0 vb_1 hS w A hb hA hi hH ha_0 hb_1
    unfold ref29_Within_L1 at hS
    refine ke_seq ?_
    refine ke_seq ?_
    refine ke_region ?_
    refine sr_ev (v := .int .i64 i_5) (ev_move rfl) (by decide) ?_
    refine sr_ev (v := va_0) (ev_move rfl) (by decide) ?_
    refine sr_ev (v := .int .i64 (a_0.length : Int)) (ev_sllen Tryd.underlying22 rfl ha_0) (by decide) ?_
    refine sr_ev (v := .bool (decide (i_5 < (a_0.length : Int)))) (ev_lt rfl rfl) (by decide) ?_
    refine sr_end (l' := [(0, va_0), (1, vb_1), (5, .int .i64 i_5), (9, .bool (decide (i_5 < (a_0.length : Int))))]) (.cons rfl (.cons rfl (.cons rfl (.cons rfl (.nil _))))) ?_
    refine ke_cond (t := decide (i_5 < (a_0.length : Int))) rfl (fun hc5 => ?_) (fun hc5 => ?_)
    · replace hS := ite_true' hS hc5
      refine ke_skip ?_
      refine ke_seq ?_
      refine ke_block ?_
      refine ke_seq ?_
      refine ke_region ?_
      refine sr_ev (v := vb_1) (ev_move rfl) (by decide) ?_
      refine sr_ev (v := va_0) (ev_move rfl) (by decide) ?_
      refine sr_ev (v := .int .i64 i_5) (ev_move rfl) (by decide) ?_
      obtain ⟨y6, hy7, hS⟩ := bind_some' hS
      refine sr_index ha_0 Tryd.underlying22 Tryd.info9 rfl rfl rfl hy7 (by decide) ?_
      intro b8 o9 cs11 he10
      obtain rfl : cs11 = [str y6] := he10.rd
      refine sr_ev (v := str y6) (ev_load Tryd.isAgg9 rfl (he10.cell 0 _ rfl)) (by decide) ?_
      obtain ⟨y12, hy13, hS⟩ := bind_some' hS
      refine sr_call (vs := [vb_1, str y6]) rfl Tryd.call39 rfl (ref29_covers_ok _ (hg.below hb) hb_1 hy13) (by decide) ?_
      rintro _ w14 ⟨rfl, hbw15⟩
      replace hb := hb.trans (hbw15.mono hb.size)
      replace hA := lt_mono hA hbw15.size
      replace hH := hH.below hbw15
      replace ha_0 := ha_0.below hbw15
      replace hb_1 := hb_1.below hbw15
      refine sr_ev (v := .bool (!y12)) (ev_not rfl) (by decide) ?_
      refine sr_end (l' := [(0, va_0), (1, vb_1), (5, .int .i64 i_5), (18, .bool (!y12))]) (.cons rfl (.cons rfl (.cons rfl (.cons rfl (.nil _))))) ?_
      refine ke_cond (t := !y12) rfl (fun hc16 => ?_) (fun hc16 => ?_)
      · replace hS := ite_true' hS hc16
        refine ke_seq ?_
        refine ke_region ?_
        refine sr_ev (v := .bool false) (ev_assign rfl) (by decide) ?_
        refine sr_end (l' := [(4, .bool false)]) (.cons rfl (.nil _)) ?_
        cases hS
        exact ke_ret1 Tryd.func24 rfl rfl ⟨_, rfl, rfl, hb⟩
      · replace hS := ite_false' hS hc16
        refine ke_skip ?_
        refine ke_inBlock ?_
        refine ke_region ?_
        refine sr_ev (v := .int .i64 i_5) (ev_move rfl) (by decide) ?_
        refine sr_ev (v := .int .i64 (IntKind.i64.wrap (i_5 + 1))) (ev_add rfl rfl) (by decide) ?_
        refine sr_ev (v := .int .i64 (IntKind.i64.wrap (i_5 + 1))) (ev_assign rfl) (by decide) ?_
        refine sr_end (l' := [(0, va_0), (1, vb_1), (5, .int .i64 (IntKind.i64.wrap (i_5 + 1)))]) (.cons rfl (.cons rfl (.cons rfl (.nil _)))) ?_
        have hK := hr0 hS hb hA hi hH ha_0 hb_1
        exact ke_weaken (l' := [(0, va_0), (1, vb_1), (5, .int .i64 (IntKind.i64.wrap (i_5 + 1)))]) (.cons rfl (.cons rfl (.cons rfl (.nil _)))) hK
    · replace hS := ite_false' hS hc5
      refine ke_exit (k' := _) rfl ?_
      refine ke_seq ?_
      refine ke_region ?_
      refine sr_ev (v := .bool true) (ev_assign rfl) (by decide) ?_
      refine sr_end (l' := [(4, .bool true)]) (.cons rfl (.nil _)) ?_
      cases hS
      exact ke_ret1 Tryd.func24 rfl rfl ⟨_, rfl, rfl, hb⟩
theorem ref29_Within_ok {A0 : Nat → Prop} (w0 : World) (hg : Gs w0) {a_0 : List Str} {b_1 : List Str} {v1 : Value} {v3 : Value} {r : Bool} (h2 : SlR strC A0 w0 v1 a_0) (h4 : SlR strC A0 w0 v3 b_1) (hS : ref29_Within a_0 b_1 = some r) :
    Calls Tryd.prog 24 #[v1, v3] w0 (Ret (fun v w' => v = .bool r ∧ Below w0.heap.size w0 w')) := by
  unfold ref29_Within at hS
  have hb := Below.refl w0.heap.size w0
  replace h2 := h2.weak (A' := fun _ => False) (fun _ h => h.elim)
  replace h4 := h4.weak (A' := fun _ => False) (fun _ h => h.elim)
  obtain ⟨A0, hA0, hAe⟩ : ∃ A0 : Nat → Prop, (∀ b, A0 b → b < w0.heap.size) ∧ A0 = fun _ => False := ⟨_, fun _ h => h.elim, rfl⟩
  rw [← hAe] at h2
  rw [← hAe] at h4
  clear hAe
  have hA := hA0
  have hi : ∀ b, A0 b → A0 b := fun _ h => h
  have hH := Hp.nil A0 w0.heap.size w0
  refine calls_of_ke Tryd.func24 rfl (n := 19) rfl rfl (l := [(0, v1), (1, v3)]) rfl ?_
  refine ke_seq ?_
  refine ke_region ?_
  refine sr_ev (v := .bool false) (ev_assign rfl) (by decide) ?_
  refine sr_end (l' := [(0, v1), (1, v3)]) (.cons rfl (.cons rfl (.nil _))) ?_
  refine ke_seq ?_
  refine ke_seq ?_
  refine ke_region ?_
  refine sr_ev (v := .int .i64 0) (ev_assign rfl) (by decide) ?_
  refine sr_end (l' := [(0, v1), (1, v3), (5, .int .i64 0)]) (.cons rfl (.cons rfl (.cons rfl (.nil _)))) ?_
  refine ke_block ?_
  have hK := ref29_Within_L1_ok hg hA0 _ hS hb hA hi hH h2 h4
  exact ke_weaken (l' := [(0, v1), (1, v3), (5, .int .i64 0)]) (.cons rfl (.cons rfl (.cons rfl (.nil _)))) (ke_loop hK)
theorem law29_ScopeSorts_ok {A0 : Nat → Prop} (w0 : World) (hg : Gs w0) {a_0 : List Str} {b_1 : List Str} {s_2 : Str} {t_3 : Str} {v1 : Value} {v3 : Value} {r : Bool} (h2 : SlR strC A0 w0 v1 a_0) (h4 : SlR strC A0 w0 v3 b_1) (hS : law29_ScopeSorts a_0 b_1 s_2 t_3 = some r) :
    Calls Tryd.prog 4 #[v1, v3, str s_2, str t_3] w0 (Ret (fun v w' => v = .bool r ∧ Below w0.heap.size w0 w')) := by
  unfold law29_ScopeSorts at hS
  have hb := Below.refl w0.heap.size w0
  replace h2 := h2.weak (A' := fun _ => False) (fun _ h => h.elim)
  replace h4 := h4.weak (A' := fun _ => False) (fun _ h => h.elim)
  obtain ⟨A0, hA0, hAe⟩ : ∃ A0 : Nat → Prop, (∀ b, A0 b → b < w0.heap.size) ∧ A0 = fun _ => False := ⟨_, fun _ h => h.elim, rfl⟩
  rw [← hAe] at h2
  rw [← hAe] at h4
  clear hAe
  have hA := hA0
  have hi : ∀ b, A0 b → A0 b := fun _ h => h
  have hH := Hp.nil A0 w0.heap.size w0
  refine calls_of_ke Tryd.func4 rfl (n := 54) rfl rfl (l := [(0, v1), (1, v3), (2, str s_2), (3, str t_3)]) rfl ?_
  refine ke_seq ?_
  refine ke_region ?_
  refine sr_ev (v := .bool false) (ev_assign rfl) (by decide) ?_
  refine sr_end (l' := [(0, v1), (1, v3), (2, str s_2), (3, str t_3)]) (.cons rfl (.cons rfl (.cons rfl (.cons rfl (.nil _))))) ?_
  refine ke_seq ?_
  refine ke_seq ?_
  refine ke_region ?_
  refine sr_ev (v := v1) (ev_move rfl) (by decide) ?_
  obtain ⟨y5, hy6, hS⟩ := bind_some' hS
  refine sr_call (vs := [v1]) rfl Tryd.call10 rfl (law29_few_ok _ (hg.below hb) h2 hy6) (by decide) ?_
  rintro _ w7 ⟨rfl, hbw8⟩
  replace hb := hb.trans (hbw8.mono hb.size)
  replace hA := lt_mono hA hbw8.size
  replace hH := hH.below hbw8
  replace h2 := h2.below hbw8
  replace h4 := h4.below hbw8
  refine sr_ev (v := .bool (!y5)) (ev_not rfl) (by decide) ?_
  refine sr_ev (v := .bool (!y5)) (ev_move rfl) (by decide) ?_
  obtain ⟨z11, hz13, hS⟩ := bind_some' hS
  refine sr_join (m := 4) (C := fun (x : Bool) w1 => z11 = x ∧ Below w7.heap.size w7 w1) (l' := fun x => [(0, v1), (1, v3), (2, str s_2), (3, str t_3), (16, .bool x)]) ?_ ?_
  · rintro _ w14 ⟨rfl, hbw15⟩
    replace hb := hb.trans (hbw15.mono hb.size)
    replace hA := lt_mono hA hbw15.size
    replace hH := hH.below hbw15
    replace h2 := h2.below hbw15
    replace h4 := h4.below hbw15
    refine sr_ev (v := .bool z11) (ev_move rfl) (by decide) ?_
    refine sr_join (m := 4) (C := fun (x : Bool) w1 => x = (z11 || (decide ((s_2.length : Int) > 200))) ∧ w14 = w1) (l' := fun x => [(0, v1), (1, v3), (2, str s_2), (3, str t_3), (21, .bool x)]) ?_ ?_
    · rintro _ _ ⟨rfl, rfl⟩
      refine sr_ev (v := .bool (z11 || (decide ((s_2.length : Int) > 200)))) (ev_move rfl) (by decide) ?_
      refine sr_join (m := 4) (C := fun (x : Bool) w1 => x = ((z11 || (decide ((s_2.length : Int) > 200))) || (decide ((t_3.length : Int) > 200))) ∧ w14 = w1) (l' := fun x => [(0, v1), (1, v3), (2, str s_2), (3, str t_3), (26, .bool x)]) ?_ ?_
      · rintro _ _ ⟨rfl, rfl⟩
        refine sr_end (l' := [(0, v1), (1, v3), (2, str s_2), (3, str t_3), (26, .bool ((z11 || (decide ((s_2.length : Int) > 200))) || (decide ((t_3.length : Int) > 200))))]) (.cons rfl (.cons rfl (.cons rfl (.cons rfl (.cons rfl (.nil _)))))) ?_
        refine ke_cond (t := (z11 || (decide ((s_2.length : Int) > 200))) || (decide ((t_3.length : Int) > 200))) rfl (fun hc34 => ?_) (fun hc34 => ?_)
        · replace hS := ite_true' hS hc34
          refine ke_seq ?_
          refine ke_region ?_
          obtain ⟨y35, hy36, hS⟩ := bind_some' hS
          refine sr_call (vs := []) rfl Tryd.call11 rfl (law29_awake_ok _ (hg.below hb) hy36) (by decide) ?_
          rintro _ w37 ⟨rfl, hbw38⟩
          replace hb := hb.trans (hbw38.mono hb.size)
          replace hA := lt_mono hA hbw38.size
          replace hH := hH.below hbw38
          refine sr_ev (v := .bool y35) (ev_assign rfl) (by decide) ?_
          refine sr_end (l' := [(8, .bool y35)]) (.cons rfl (.nil _)) ?_
          cases hS
          exact ke_ret1 Tryd.func4 rfl rfl ⟨_, rfl, rfl, hb⟩
        · replace hS := ite_false' hS hc34
          refine ke_skip ?_
          refine ke_seq ?_
          refine ke_region ?_
          refine sr_ev (v := v1) (ev_move rfl) (by decide) ?_
          obtain ⟨y39, hy40, hS⟩ := bind_some' hS
          refine sr_call (vs := [v1]) rfl Tryd.call19 rfl (scope_Sorted_ok _ (hg.below hb) h2 hA hy40) (by decide) ?_
          rintro v43 w41 ⟨_, rfl, h44, hbw42⟩
          replace hb := hb.trans (hbw42.mono hb.size)
          replace hA := lt_mono hA hbw42.size
          replace hH := hH.below hbw42
          replace h2 := h2.below hbw42
          replace h4 := h4.below hbw42
          refine sr_ev (v := v1) (ev_move rfl) (by decide) ?_
          obtain ⟨y45, hy46, hS⟩ := bind_some' hS
          refine sr_call (vs := [v1]) rfl Tryd.call20 rfl (ref29_Sorted_ok _ (hg.below hb) h2 hA hy46) (by decide) ?_
          rintro v49 w47 ⟨_, rfl, h50, hbw48⟩
          replace hb := hb.trans (hbw48.mono hb.size)
          replace hA := lt_mono hA hbw48.size
          replace hH := hH.below hbw48
          replace h2 := h2.below hbw48
          replace h4 := h4.below hbw48
          replace h44 := h44.below hbw48
          obtain ⟨y51, hy52, hS⟩ := bind_some' hS
          refine sr_call (vs := [v43, v49]) rfl Tryd.call18 rfl (ref03_Same_ok _ (hg.below hb) h44 h50 hy52) (by decide) ?_
          rintro _ w53 ⟨rfl, hbw54⟩
          replace hb := hb.trans (hbw54.mono hb.size)
          replace hA := lt_mono hA hbw54.size
          replace hH := hH.below hbw54
          replace h2 := h2.below hbw54
          replace h4 := h4.below hbw54
          refine sr_ev (v := .bool y51) (ev_move rfl) (by decide) ?_
          obtain ⟨z57, hz59, hS⟩ := bind_some' hS
          refine sr_join (m := 8) (C := fun (x : Bool) w1 => z57 = x ∧ Below w53.heap.size w53 w1) (l' := fun x => [(0, v1), (1, v3), (41, .bool x)]) ?_ ?_
          · rintro _ w60 ⟨rfl, hbw61⟩
            replace hb := hb.trans (hbw61.mono hb.size)
            replace hA := lt_mono hA hbw61.size
            replace hH := hH.below hbw61
            replace h2 := h2.below hbw61
            replace h4 := h4.below hbw61
            refine sr_ev (v := .bool z57) (ev_move rfl) (by decide) ?_
            obtain ⟨z72, hz74, hS⟩ := bind_some' hS
            refine sr_join (m := 8) (C := fun (x : Bool) w1 => z72 = x ∧ Below w60.heap.size w60 w1) (l' := fun x => [(50, .bool x)]) ?_ ?_
            · rintro _ w75 ⟨rfl, hbw76⟩
              replace hb := hb.trans (hbw76.mono hb.size)
              replace hA := lt_mono hA hbw76.size
              replace hH := hH.below hbw76
              refine sr_ev (v := .bool z72) (ev_move rfl) (by decide) ?_
              obtain ⟨z87, hz89, hS⟩ := bind_some' hS
              refine sr_join (m := 2) (C := fun (x : Bool) w1 => z87 = x ∧ Below w75.heap.size w75 w1) (l' := fun x => [(53, .bool x)]) ?_ ?_
              · rintro _ w90 ⟨rfl, hbw91⟩
                replace hb := hb.trans (hbw91.mono hb.size)
                replace hA := lt_mono hA hbw91.size
                replace hH := hH.below hbw91
                refine sr_ev (v := .bool z87) (ev_assign rfl) (by decide) ?_
                refine sr_end (l' := [(8, .bool z87)]) (.cons rfl (.nil _)) ?_
                cases hS
                exact ke_ret1 Tryd.func4 rfl rfl ⟨_, rfl, rfl, hb⟩
              · intro K86
                clear hS
                have hj88 := Below.refl w75.heap.size w75
                rcases Bool.eq_false_or_eq_true z72 with hg85 | hg85
                · have hS := ite_true' hz89 hg85
                  obtain ⟨y92, hy93, hS⟩ := bind_some' hS
                  refine sr_callg (b := true) (e := 51) rfl rfl hg85 (vs := []) rfl Tryd.call11 rfl (law29_awake_ok _ (hg.below hb) hy93) (by decide) ?_
                  rintro _ w94 ⟨rfl, hbw95⟩
                  replace hb := hb.trans (hbw95.mono hb.size)
                  replace hj88 := hj88.trans (hbw95.mono hj88.size)
                  replace hA := lt_mono hA hbw95.size
                  replace hH := hH.below hbw95
                  refine sr_ev (v := .bool y92) (ev_pick_t rfl hg85 rfl) (by decide) ?_
                  exact sr_weaken (l' := [(53, .bool y92)]) (.cons rfl (.nil _)) (K86 y92 _ ⟨(Option.some.inj hS).symm, hj88⟩)
                · have hS := ite_false' hz89 hg85
                  refine sr_pass (e := 51) rfl rfl (by rw [hg85]; rfl) (by decide) ?_
                  refine sr_ev (v := .bool false) (ev_pick_f rfl hg85 rfl) (by decide) ?_
                  exact sr_weaken (l' := [(53, .bool false)]) (.cons rfl (.nil _)) (K86 false _ ⟨(Option.some.inj hS).symm, hj88⟩)
            · intro K71
              clear hS
              have hj73 := Below.refl w60.heap.size w60
              rcases Bool.eq_false_or_eq_true z57 with hg70 | hg70
              · have hS := ite_true' hz74 hg70
                refine sr_evg (b := true) (e := 42) rfl rfl hg70 (v := v1) (ev_move rfl) (by decide) ?_
                refine sr_evg (b := true) (e := 42) rfl rfl hg70 (v := v3) (ev_move rfl) (by decide) ?_
                obtain ⟨y77, hy78, hS⟩ := bind_some' hS
                refine sr_callg (b := true) (e := 42) rfl rfl hg70 (vs := [v1, v3]) rfl Tryd.call23 rfl (scope_Within_ok _ (hg.below hb) h2 h4 hy78) (by decide) ?_
                rintro _ w79 ⟨rfl, hbw80⟩
                replace hb := hb.trans (hbw80.mono hb.size)
                replace hj73 := hj73.trans (hbw80.mono hj73.size)
                replace hA := lt_mono hA hbw80.size
                replace hH := hH.below hbw80
                replace h2 := h2.below hbw80
                replace h4 := h4.below hbw80
                refine sr_evg (b := true) (e := 42) rfl rfl hg70 (v := v1) (ev_move rfl) (by decide) ?_
                refine sr_evg (b := true) (e := 42) rfl rfl hg70 (v := v3) (ev_move rfl) (by decide) ?_
                obtain ⟨y81, hy82, hS⟩ := bind_some' hS
                refine sr_callg (b := true) (e := 42) rfl rfl hg70 (vs := [v1, v3]) rfl Tryd.call24 rfl (ref29_Within_ok _ (hg.below hb) h2 h4 hy82) (by decide) ?_
                rintro _ w83 ⟨rfl, hbw84⟩
                replace hb := hb.trans (hbw84.mono hb.size)
                replace hj73 := hj73.trans (hbw84.mono hj73.size)
                replace hA := lt_mono hA hbw84.size
                replace hH := hH.below hbw84
                refine sr_evg (b := true) (e := 42) rfl rfl hg70 (v := .bool (y77 == y81)) (ev_beq Tryd.underlying4 rfl rfl) (by decide) ?_
                refine sr_ev (v := .bool (y77 == y81)) (ev_pick_t rfl hg70 rfl) (by decide) ?_
                exact sr_weaken (l' := [(50, .bool (y77 == y81))]) (.cons rfl (.nil _)) (K71 (y77 == y81) _ ⟨(Option.some.inj hS).symm, hj73⟩)
              · have hS := ite_false' hz74 hg70
                refine sr_pass (e := 42) rfl rfl (by rw [hg70]; rfl) (by decide) ?_
                refine sr_pass (e := 42) rfl rfl (by rw [hg70]; rfl) (by decide) ?_
                refine sr_pass (e := 42) rfl rfl (by rw [hg70]; rfl) (by decide) ?_
                refine sr_pass (e := 42) rfl rfl (by rw [hg70]; rfl) (by decide) ?_
                refine sr_pass (e := 42) rfl rfl (by rw [hg70]; rfl) (by decide) ?_
                refine sr_pass (e := 42) rfl rfl (by rw [hg70]; rfl) (by decide) ?_
                refine sr_pass (e := 42) rfl rfl (by rw [hg70]; rfl) (by decide) ?_
                refine sr_ev (v := .bool false) (ev_pick_f rfl hg70 rfl) (by decide) ?_
                exact sr_weaken (l' := [(50, .bool false)]) (.cons rfl (.nil _)) (K71 false _ ⟨(Option.some.inj hS).symm, hj73⟩)
          · intro K56
            clear hS
            have hj58 := Below.refl w53.heap.size w53
            rcases Bool.eq_false_or_eq_true y51 with hg55 | hg55
            · have hS := ite_true' hz59 hg55
              refine sr_evg (b := true) (e := 33) rfl rfl hg55 (v := str s_2) (ev_move rfl) (by decide) ?_
              refine sr_evg (b := true) (e := 33) rfl rfl hg55 (v := str t_3) (ev_move rfl) (by decide) ?_
              obtain ⟨y62, hy63, hS⟩ := bind_some' hS
              refine sr_callg (b := true) (e := 33) rfl rfl hg55 (vs := [str s_2, str t_3]) rfl Tryd.call21 rfl (scope_Implies_ok _ (hg.below hb) hy63) (by decide) ?_
              rintro _ w64 ⟨rfl, hbw65⟩
              replace hb := hb.trans (hbw65.mono hb.size)
              replace hj58 := hj58.trans (hbw65.mono hj58.size)
              replace hA := lt_mono hA hbw65.size
              replace hH := hH.below hbw65
              replace h2 := h2.below hbw65
              replace h4 := h4.below hbw65
              refine sr_evg (b := true) (e := 33) rfl rfl hg55 (v := str s_2) (ev_move rfl) (by decide) ?_
              refine sr_evg (b := true) (e := 33) rfl rfl hg55 (v := str t_3) (ev_move rfl) (by decide) ?_
              obtain ⟨y66, hy67, hS⟩ := bind_some' hS
              refine sr_callg (b := true) (e := 33) rfl rfl hg55 (vs := [str s_2, str t_3]) rfl Tryd.call22 rfl (ref29_Implies_ok _ (hg.below hb) hy67) (by decide) ?_
              rintro _ w68 ⟨rfl, hbw69⟩
              replace hb := hb.trans (hbw69.mono hb.size)
              replace hj58 := hj58.trans (hbw69.mono hj58.size)
              replace hA := lt_mono hA hbw69.size
              replace hH := hH.below hbw69
              replace h2 := h2.below hbw69
              replace h4 := h4.below hbw69
              refine sr_evg (b := true) (e := 33) rfl rfl hg55 (v := .bool (y62 == y66)) (ev_beq Tryd.underlying4 rfl rfl) (by decide) ?_
              refine sr_ev (v := .bool (y62 == y66)) (ev_pick_t rfl hg55 rfl) (by decide) ?_
              exact sr_weaken (l' := [(0, v1), (1, v3), (41, .bool (y62 == y66))]) (.cons rfl (.cons rfl (.cons rfl (.nil _)))) (K56 (y62 == y66) _ ⟨(Option.some.inj hS).symm, hj58⟩)
            · have hS := ite_false' hz59 hg55
              refine sr_pass (e := 33) rfl rfl (by rw [hg55]; rfl) (by decide) ?_
              refine sr_pass (e := 33) rfl rfl (by rw [hg55]; rfl) (by decide) ?_
              refine sr_pass (e := 33) rfl rfl (by rw [hg55]; rfl) (by decide) ?_
              refine sr_pass (e := 33) rfl rfl (by rw [hg55]; rfl) (by decide) ?_
              refine sr_pass (e := 33) rfl rfl (by rw [hg55]; rfl) (by decide) ?_
              refine sr_pass (e := 33) rfl rfl (by rw [hg55]; rfl) (by decide) ?_
              refine sr_pass (e := 33) rfl rfl (by rw [hg55]; rfl) (by decide) ?_
              refine sr_ev (v := .bool false) (ev_pick_f rfl hg55 rfl) (by decide) ?_
              exact sr_weaken (l' := [(0, v1), (1, v3), (41, .bool false)]) (.cons rfl (.cons rfl (.cons rfl (.nil _)))) (K56 false _ ⟨(Option.some.inj hS).symm, hj58⟩)
      · intro K28
        rcases Bool.eq_false_or_eq_true (z11 || (decide ((s_2.length : Int) > 200))) with hg27 | hg27
        · refine sr_pass (e := 22) rfl rfl (by rw [hg27]; rfl) (by decide) ?_
          refine sr_pass (e := 22) rfl rfl (by rw [hg27]; rfl) (by decide) ?_
          refine sr_pass (e := 22) rfl rfl (by rw [hg27]; rfl) (by decide) ?_
          refine sr_ev (v := .bool true) (ev_pick_t rfl hg27 rfl) (by decide) ?_
          exact sr_weaken (l' := [(0, v1), (1, v3), (2, str s_2), (3, str t_3), (26, .bool true)]) (.cons rfl (.cons rfl (.cons rfl (.cons rfl (.cons rfl (.nil _)))))) (K28 true _ ⟨by rw [hg27]; rfl, rfl⟩)
        · refine sr_evg (b := false) (e := 22) rfl rfl hg27 (v := str t_3) (ev_move rfl) (by decide) ?_
          refine sr_evg (b := false) (e := 22) rfl rfl hg27 (v := .int .i64 (t_3.length : Int)) (ev_slen Tryd.underlying9 rfl) (by decide) ?_
          refine sr_evg (b := false) (e := 22) rfl rfl hg27 (v := .bool (decide ((t_3.length : Int) > 200))) (ev_gt rfl rfl) (by decide) ?_
          refine sr_ev (v := .bool (decide ((t_3.length : Int) > 200))) (ev_pick_f rfl hg27 rfl) (by decide) ?_
          exact sr_weaken (l' := [(0, v1), (1, v3), (2, str s_2), (3, str t_3), (26, .bool (decide ((t_3.length : Int) > 200)))]) (.cons rfl (.cons rfl (.cons rfl (.cons rfl (.cons rfl (.nil _)))))) (K28 (decide ((t_3.length : Int) > 200)) _ ⟨by rw [hg27]; rfl, rfl⟩)
    · intro K21
      rcases Bool.eq_false_or_eq_true z11 with hg20 | hg20
      · refine sr_pass (e := 17) rfl rfl (by rw [hg20]; rfl) (by decide) ?_
        refine sr_pass (e := 17) rfl rfl (by rw [hg20]; rfl) (by decide) ?_
        refine sr_pass (e := 17) rfl rfl (by rw [hg20]; rfl) (by decide) ?_
        refine sr_ev (v := .bool true) (ev_pick_t rfl hg20 rfl) (by decide) ?_
        exact sr_weaken (l' := [(0, v1), (1, v3), (2, str s_2), (3, str t_3), (21, .bool true)]) (.cons rfl (.cons rfl (.cons rfl (.cons rfl (.cons rfl (.nil _)))))) (K21 true _ ⟨by rw [hg20]; rfl, rfl⟩)
      · refine sr_evg (b := false) (e := 17) rfl rfl hg20 (v := str s_2) (ev_move rfl) (by decide) ?_
        refine sr_evg (b := false) (e := 17) rfl rfl hg20 (v := .int .i64 (s_2.length : Int)) (ev_slen Tryd.underlying9 rfl) (by decide) ?_
        refine sr_evg (b := false) (e := 17) rfl rfl hg20 (v := .bool (decide ((s_2.length : Int) > 200))) (ev_gt rfl rfl) (by decide) ?_
        refine sr_ev (v := .bool (decide ((s_2.length : Int) > 200))) (ev_pick_f rfl hg20 rfl) (by decide) ?_
        exact sr_weaken (l' := [(0, v1), (1, v3), (2, str s_2), (3, str t_3), (21, .bool (decide ((s_2.length : Int) > 200)))]) (.cons rfl (.cons rfl (.cons rfl (.cons rfl (.cons rfl (.nil _)))))) (K21 (decide ((s_2.length : Int) > 200)) _ ⟨by rw [hg20]; rfl, rfl⟩)
  · intro K10
    clear hS
    have hj12 := Below.refl w7.heap.size w7
    rcases Bool.eq_false_or_eq_true (!y5) with hg9 | hg9
    · have hS := ite_true' hz13 hg9
      refine sr_pass (e := 12) rfl rfl (by rw [hg9]; rfl) (by decide) ?_
      refine sr_pass (e := 12) rfl rfl (by rw [hg9]; rfl) (by decide) ?_
      refine sr_pass (e := 12) rfl rfl (by rw [hg9]; rfl) (by decide) ?_
      refine sr_ev (v := .bool true) (ev_pick_t rfl hg9 rfl) (by decide) ?_
      exact sr_weaken (l' := [(0, v1), (1, v3), (2, str s_2), (3, str t_3), (16, .bool true)]) (.cons rfl (.cons rfl (.cons rfl (.cons rfl (.cons rfl (.nil _)))))) (K10 true _ ⟨(Option.some.inj hS).symm, hj12⟩)
    · have hS := ite_false' hz13 hg9
      refine sr_evg (b := false) (e := 12) rfl rfl hg9 (v := v3) (ev_move rfl) (by decide) ?_
      obtain ⟨y16, hy17, hS⟩ := bind_some' hS
      refine sr_callg (b := false) (e := 12) rfl rfl hg9 (vs := [v3]) rfl Tryd.call10 rfl (law29_few_ok _ (hg.below hb) h4 hy17) (by decide) ?_
      rintro _ w18 ⟨rfl, hbw19⟩
      replace hb := hb.trans (hbw19.mono hb.size)
      replace hj12 := hj12.trans (hbw19.mono hj12.size)
      replace hA := lt_mono hA hbw19.size
      replace hH := hH.below hbw19
      replace h2 := h2.below hbw19
      replace h4 := h4.below hbw19
      refine sr_evg (b := false) (e := 12) rfl rfl hg9 (v := .bool (!y16)) (ev_not rfl) (by decide) ?_
      refine sr_ev (v := .bool (!y16)) (ev_pick_f rfl hg9 rfl) (by decide) ?_
      exact sr_weaken (l' := [(0, v1), (1, v3), (2, str s_2), (3, str t_3), (16, .bool (!y16))]) (.cons rfl (.cons rfl (.cons rfl (.cons rfl (.cons rfl (.nil _)))))) (K10 (!y16) _ ⟨(Option.some.inj hS).symm, hj12⟩)
theorem ref29_Common_B2_ok {w0 : World} (hg : Gs w0) {A0 : Nat → Prop} (hA0 : ∀ b, A0 b → b < w0.heap.size) (r0 : List Str → List Str → List Str → Int → Option (List Str))
    (hr0 : ∀ {r : List Str} {a_0 : List Str} {b_1 : List Str} {out_5 : List Str} {i_6 : Int} {va_0 : Value} {vb_1 : Value} {vout_5 : Value}, r0 a_0 b_1 out_5 i_6 = some r → ∀ {w : World} {A : Nat → Prop}, (Below w0.heap.size w0 w) → (∀ b, A b → b < w.heap.size) → (∀ b, A0 b → A b) → (Hp A w0.heap.size w []) → (SlR strC A w va_0 a_0) → (SlR strC A w vb_1 b_1) → (OwnS strC 9 A w0.heap.size w vout_5 out_5) → (Dj vout_5 []) → KE Tryd.prog 26 (Ret (fun v w' => ∃ x1, v = x1 ∧ SlR strC A0 w' x1 r ∧ Below w0.heap.size w0 w')) 48 [.inLoop (sub (bodyOf Tryd.f26) [2, 2, 1, 2, 2, 1]), .inBlock 0, .code (sub (bodyOf Tryd.f26) [2, 2, 2])] [(0, va_0), (1, vb_1), (5, vout_5), (6, .int .i64 i_6)] w) {r : List Str} {a_0 : List Str} {b_1 : List Str} {out_5 : List Str} {i_6 : Int} {va_0 : Value} {vb_1 : Value} {vout_5 : Value} (hS : ref29_Common_B2 r0 a_0 b_1 out_5 i_6 = some r) {w : World} {A : Nat → Prop} (hb : Below w0.heap.size w0 w) (hA : ∀ b, A b → b < w.heap.size) (hi : ∀ b, A0 b → A b) (hH : Hp A w0.heap.size w []) (ha_0 : SlR strC A w va_0 a_0) (hb_1 : SlR strC A w vb_1 b_1) (hout_5 : OwnS strC 9 A w0.heap.size w vout_5 out_5) (dout_5 : Dj vout_5 []) :
    KE Tryd.prog 26 (Ret (fun v w' => ∃ x1, v = x1 ∧ SlR strC A0 w' x1 r ∧ Below w0.heap.size w0 w')) 48 [.inBlock 1, .code (sub (bodyOf Tryd.f26) [2, 2, 1, 2, 2, 1, 2, 2]), .inLoop (sub (bodyOf Tryd.f26) [2, 2, 1, 2, 2, 1]), .inBlock 0, .code (sub (bodyOf Tryd.f26) [2, 2, 2])] [(0, va_0), (1, vb_1), (5, vout_5), (6, .int .i64 i_6)] w := by
  unfold ref29_Common_B2 at hS
  refine ke_inBlock ?_
  refine ke_region ?_
  refine sr_ev (v := .int .i64 i_6) (ev_move rfl) (by decide) ?_
  refine sr_ev (v := .int .i64 (IntKind.i64.wrap (i_6 + 1))) (ev_add rfl rfl) (by decide) ?_
  refine sr_ev (v := .int .i64 (IntKind.i64.wrap (i_6 + 1))) (ev_assign rfl) (by decide) ?_
  refine sr_end (l' := [(0, va_0), (1, vb_1), (5, vout_5), (6, .int .i64 (IntKind.i64.wrap (i_6 + 1)))]) (.cons rfl (.cons rfl (.cons rfl (.cons rfl (.nil _))))) ?_
  have hK := hr0 hS hb hA hi hH ha_0 hb_1 hout_5 dout_5
  exact ke_weaken (l' := [(0, va_0), (1, vb_1), (5, vout_5), (6, .int .i64 (IntKind.i64.wrap (i_6 + 1)))]) (.cons rfl (.cons rfl (.cons rfl (.cons rfl (.nil _))))) hK
theorem ref29_Common_B4_ok {w0 : World} (hg : Gs w0) {A0 : Nat → Prop} (hA0 : ∀ b, A0 b → b < w0.heap.size) (r0 : List Str → List Str → List Str → Int → Option (List Str)) (r1 : List Str → List Str → List Str → Int → Option (List Str))
    (hr0 : ∀ {r : List Str} {a_0 : List Str} {b_1 : List Str} {out_5 : List Str} {i_6 : Int} {va_0 : Value} {vb_1 : Value} {vout_5 : Value}, r0 a_0 b_1 out_5 i_6 = some r → ∀ {w : World} {A : Nat → Prop}, (Below w0.heap.size w0 w) → (∀ b, A b → b < w.heap.size) → (∀ b, A0 b → A b) → (Hp A w0.heap.size w []) → (SlR strC A w va_0 a_0) → (SlR strC A w vb_1 b_1) → (OwnS strC 9 A w0.heap.size w vout_5 out_5) → (Dj vout_5 []) → KE Tryd.prog 26 (Ret (fun v w' => ∃ x1, v = x1 ∧ SlR strC A0 w' x1 r ∧ Below w0.heap.size w0 w')) 48 [.inLoop (sub (bodyOf Tryd.f26) [2, 2, 1, 2, 2, 1]), .inBlock 0, .code (sub (bodyOf Tryd.f26) [2, 2, 2])] [(0, va_0), (1, vb_1), (5, vout_5), (6, .int .i64 i_6)] w)
    (hr1 : ∀ {r : List Str} {a_0 : List Str} {b_1 : List Str} {out_5 : List Str} {i_7 : Int} {va_0 : Value} {vb_1 : Value} {vout_5 : Value}, r1 a_0 b_1 out_5 i_7 = some r → ∀ {w : World} {A : Nat → Prop}, (Below w0.heap.size w0 w) → (∀ b, A b → b < w.heap.size) → (∀ b, A0 b → A b) → (Hp A w0.heap.size w []) → (SlR strC A w va_0 a_0) → (SlR strC A w vb_1 b_1) → (OwnS strC 9 A w0.heap.size w vout_5 out_5) → (Dj vout_5 []) → KE Tryd.prog 26 (Ret (fun v w' => ∃ x1, v = x1 ∧ SlR strC A0 w' x1 r ∧ Below w0.heap.size w0 w')) 48 [.inLoop (sub (bodyOf Tryd.f26) [2, 2, 2, 1, 2, 2, 1]), .inBlock 2, .code (sub (bodyOf Tryd.f26) [2, 2, 2, 2])] [(0, va_0), (1, vb_1), (5, vout_5), (7, .int .i64 i_7)] w) {r : List Str} {a_0 : List Str} {b_1 : List Str} {out_5 : List Str} {i_7 : Int} {va_0 : Value} {vb_1 : Value} {vout_5 : Value} (hS : ref29_Common_B4 r0 r1 a_0 b_1 out_5 i_7 = some r) {w : World} {A : Nat → Prop} (hb : Below w0.heap.size w0 w) (hA : ∀ b, A b → b < w.heap.size) (hi : ∀ b, A0 b → A b) (hH : Hp A w0.heap.size w []) (ha_0 : SlR strC A w va_0 a_0) (hb_1 : SlR strC A w vb_1 b_1) (hout_5 : OwnS strC 9 A w0.heap.size w vout_5 out_5) (dout_5 : Dj vout_5 []) :
    KE Tryd.prog 26 (Ret (fun v w' => ∃ x1, v = x1 ∧ SlR strC A0 w' x1 r ∧ Below w0.heap.size w0 w')) 48 [.inBlock 3, .code (sub (bodyOf Tryd.f26) [2, 2, 2, 1, 2, 2, 1, 2, 2]), .inLoop (sub (bodyOf Tryd.f26) [2, 2, 2, 1, 2, 2, 1]), .inBlock 2, .code (sub (bodyOf Tryd.f26) [2, 2, 2, 2])] [(0, va_0), (1, vb_1), (5, vout_5), (7, .int .i64 i_7)] w := by
  unfold ref29_Common_B4 at hS
  refine ke_inBlock ?_
  refine ke_region ?_
  refine sr_ev (v := .int .i64 i_7) (ev_move rfl) (by decide) ?_
  refine sr_ev (v := .int .i64 (IntKind.i64.wrap (i_7 + 1))) (ev_add rfl rfl) (by decide) ?_
  refine sr_ev (v := .int .i64 (IntKind.i64.wrap (i_7 + 1))) (ev_assign rfl) (by decide) ?_
  refine sr_end (l' := [(0, va_0), (1, vb_1), (5, vout_5), (7, .int .i64 (IntKind.i64.wrap (i_7 + 1)))]) (.cons rfl (.cons rfl (.cons rfl (.cons rfl (.nil _))))) ?_
  have hK := hr1 hS hb hA hi hH ha_0 hb_1 hout_5 dout_5
  exact ke_weaken (l' := [(0, va_0), (1, vb_1), (5, vout_5), (7, .int .i64 (IntKind.i64.wrap (i_7 + 1)))]) (.cons rfl (.cons rfl (.cons rfl (.cons rfl (.nil _))))) hK
theorem ref29_Common_L3_ok {w0 : World} (hg : Gs w0) {A0 : Nat → Prop} (hA0 : ∀ b, A0 b → b < w0.heap.size) (r0 : List Str → List Str → List Str → Int → Option (List Str))
    (hr0 : ∀ {r : List Str} {a_0 : List Str} {b_1 : List Str} {out_5 : List Str} {i_6 : Int} {va_0 : Value} {vb_1 : Value} {vout_5 : Value}, r0 a_0 b_1 out_5 i_6 = some r → ∀ {w : World} {A : Nat → Prop}, (Below w0.heap.size w0 w) → (∀ b, A b → b < w.heap.size) → (∀ b, A0 b → A b) → (Hp A w0.heap.size w []) → (SlR strC A w va_0 a_0) → (SlR strC A w vb_1 b_1) → (OwnS strC 9 A w0.heap.size w vout_5 out_5) → (Dj vout_5 []) → KE Tryd.prog 26 (Ret (fun v w' => ∃ x1, v = x1 ∧ SlR strC A0 w' x1 r ∧ Below w0.heap.size w0 w')) 48 [.inLoop (sub (bodyOf Tryd.f26) [2, 2, 1, 2, 2, 1]), .inBlock 0, .code (sub (bodyOf Tryd.f26) [2, 2, 2])] [(0, va_0), (1, vb_1), (5, vout_5), (6, .int .i64 i_6)] w) : ∀ (n : Nat), ∀ {r : List Str} {a_0 : List Str} {b_1 : List Str} {out_5 : List Str} {i_7 : Int} {va_0 : Value} {vb_1 : Value} {vout_5 : Value}, ref29_Common_L3 r0 n a_0 b_1 out_5 i_7 = some r → ∀ {w : World} {A : Nat → Prop}, (Below w0.heap.size w0 w) → (∀ b, A b → b < w.heap.size) → (∀ b, A0 b → A b) → (Hp A w0.heap.size w []) → (SlR strC A w va_0 a_0) → (SlR strC A w vb_1 b_1) → (OwnS strC 9 A w0.heap.size w vout_5 out_5) → (Dj vout_5 []) → KE Tryd.prog 26 (Ret (fun v w' => ∃ x1, v = x1 ∧ SlR strC A0 w' x1 r ∧ Below w0.heap.size w0 w')) 48 [.code (sub (bodyOf Tryd.f26) [2, 2, 2, 1, 2, 2, 1]), .inLoop (sub (bodyOf Tryd.f26) [2, 2, 2, 1, 2, 2, 1]), .inBlock 2, .code (sub (bodyOf Tryd.f26) [2, 2, 2, 2])] [(0, va_0), (1, vb_1), (5, vout_5), (7, .int .i64 i_7)] w := by
  intro n
  induction n with
  | zero => intro r a_0 b_1 out_5 i_7 va_0 vb_1 vout_5 hS; cases hS
  | succ n ih =>
    have hr1 : ∀ {r : List Str} {a_0 : List Str} {b_1 : List Str} {out_5 : List Str} {i_7 : Int} {va_0 : Value} {vb_1 : Value} {vout_5 : Value}, ref29_Common_L3 r0 n a_0 b_1 out_5 i_7 = some r → ∀ {w : World} {A : Nat → Prop}, (Below w0.heap.size w0 w) → (∀ b, A b → b < w.heap.size) → (∀ b, A0 b → A b) → (Hp A w0.heap.size w []) → (SlR strC A w va_0 a_0) → (SlR strC A w vb_1 b_1) → (OwnS strC 9 A w0.heap.size w vout_5 out_5) → (Dj vout_5 []) → KE Tryd.prog 26 (Ret (fun v w' => ∃ x1, v = x1 ∧ SlR strC A0 w' x1 r ∧ Below w0.heap.size w0 w')) 48 [.inLoop (sub (bodyOf Tryd.f26) [2, 2, 2, 1, 2, 2, 1]), .inBlock 2, .code (sub (bodyOf Tryd.f26) [2, 2, 2, 2])] [(0, va_0), (1, vb_1), (5, vout_5), (7, .int .i64 i_7)] w := fun {r} {a_0} {b_1} {out_5} {i_7} {va_0} {vb_1} {vout_5} hS {w} {A} hb hA hi hH ha_0 hb_1 hout_5 dout_5 => ke_inLoop (ih hS hb hA hi hH ha_0 hb_1 hout_5 dout_5)
    clear ih
    intro r a_0 b_1 out_5 i_7 va_0 vb_1 vout_5 hS w A hb hA hi hH ha_0 hb_1 hout_5 dout_5
    unfold ref29_Common_L3 at hS
    refine ke_seq ?_
    refine ke_seq ?_
    refine ke_region ?_
    refine sr_ev (v := .int .i64 i_7) (ev_move rfl) (by decide) ?_
    refine sr_ev (v := vb_1) (ev_move rfl) (by decide) ?_
    refine sr_ev (v := .int .i64 (b_1.length : Int)) (ev_sllen Tryd.underlying22 rfl hb_1) (by decide) ?_
    refine sr_ev (v := .bool (decide (i_7 < (b_1.length : Int)))) (ev_lt rfl rfl) (by decide) ?_
    refine sr_end (l' := [(0, va_0), (1, vb_1), (5, vout_5), (7, .int .i64 i_7), (30, .bool (decide (i_7 < (b_1.length : Int))))]) (.cons rfl (.cons rfl (.cons rfl (.cons rfl (.cons rfl (.nil _)))))) ?_
    refine ke_cond (t := decide (i_7 < (b_1.length : Int))) rfl (fun hc45 => ?_) (fun hc45 => ?_)
    · replace hS := ite_true' hS hc45
      refine ke_skip ?_
      refine ke_seq ?_
      refine ke_block ?_
      refine ke_seq ?_
      refine ke_region ?_
      refine sr_ev (v := va_0) (ev_move rfl) (by decide) ?_
      refine sr_ev (v := vb_1) (ev_move rfl) (by decide) ?_
      refine sr_ev (v := .int .i64 i_7) (ev_move rfl) (by decide) ?_
      obtain ⟨y46, hy47, hS⟩ := bind_some' hS
      refine sr_index hb_1 Tryd.underlying22 Tryd.info9 rfl rfl rfl hy47 (by decide) ?_
      intro b48 o49 cs51 he50
      obtain rfl : cs51 = [str y46] := he50.rd
      refine sr_ev (v := str y46) (ev_load Tryd.isAgg9 rfl (he50.cell 0 _ rfl)) (by decide) ?_
      obtain ⟨y52, hy53, hS⟩ := bind_some' hS
      refine sr_call (vs := [va_0, str y46]) rfl Tryd.call39 rfl (ref29_covers_ok _ (hg.below hb) ha_0 hy53) (by decide) ?_
      rintro _ w54 ⟨rfl, hbw55⟩
      replace hb := hb.trans (hbw55.mono hb.size)
      replace hA := lt_mono hA hbw55.size
      replace hH := hH.below hbw55
      replace ha_0 := ha_0.below hbw55
      replace hb_1 := hb_1.below hbw55
      replace hout_5 := hout_5.below hbw55
      refine sr_end (l' := [(0, va_0), (1, vb_1), (5, vout_5), (7, .int .i64 i_7), (38, .bool y52)]) (.cons rfl (.cons rfl (.cons rfl (.cons rfl (.cons rfl (.nil _)))))) ?_
      refine ke_cond (t := y52) rfl (fun hc56 => ?_) (fun hc56 => ?_)
      · replace hS := ite_true' hS hc56
        refine ke_region ?_
        refine sr_ev (v := vout_5) (ev_move rfl) (by decide) ?_
        refine sr_ev (v := vb_1) (ev_move rfl) (by decide) ?_
        refine sr_ev (v := .int .i64 i_7) (ev_move rfl) (by decide) ?_
        obtain ⟨y57, hy58, hS⟩ := bind_some' hS
        refine sr_index hb_1 Tryd.underlying22 Tryd.info9 rfl rfl rfl hy58 (by decide) ?_
        intro b59 o60 cs62 he61
        obtain rfl : cs62 = [str y57] := he61.rd
        refine sr_ev (v := str y57) (ev_load Tryd.isAgg9 rfl (he61.cell 0 _ rfl)) (by decide) ?_
        refine sr_lit (c := strC) (A := A) (E := 9) (xs := [y57]) (vs := #[(0, str y57)]) (cs := #[str y57]) (css := [[str y57]]) rfl (fun _ => by kernel_rfl) rfl ⟨rfl, trivial⟩ rfl (by decide) hA (by decide) ?_
        intro v63 w65 h64 hbw66
        replace hb := hb.trans (hbw66.mono hb.size)
        replace hA := lt_mono hA hbw66.size
        replace hH := hH.below hbw66
        replace ha_0 := ha_0.below hbw66
        replace hb_1 := hb_1.below hbw66
        replace hout_5 := hout_5.below hbw66
        obtain ⟨hk67, hS⟩ := chk_some hS
        refine sr_append (c := strC) (A := A) (B := w0.heap.size) (E := 9) (xs := out_5) (ys := ([y57] : List Str)) hout_5 h64 Tryd.underlying22 Tryd.info9 rfl rfl rfl (by decide) (by decide) hA hb.size hk67 rfl rfl (by decide) ?_
        intro v68 A70 w71 h69 hst72 hbB73 hinc74 hA1 hoth75 hold
        have dj76 : Dj v68 [] := fun p hp e => by rcases hold _ e with h | h; exact dout_5 p hp h; have := hH.lt hp; omega
        replace hb := hb.trans hbB73
        replace hi := fun b hb => hinc74 b (hi b hb)
        replace hH := hH.keep hinc74 (fun p hp => hoth75 _ (hH.lt hp) (dout_5 p hp))
        replace hA := hA1
        clear hA1
        replace ha_0 := ha_0.step hst72
        replace hb_1 := hb_1.step hst72
        refine sr_ev (v := v68) (ev_assign rfl) (by decide) ?_
        refine sr_end (l' := [(0, va_0), (1, vb_1), (5, v68), (7, .int .i64 i_7)]) (.cons rfl (.cons rfl (.cons rfl (.cons rfl (.nil _))))) ?_
        have hK := ref29_Common_B4_ok hg hA0 _ _ hr0 hr1 hS hb hA hi hH ha_0 hb_1 h69 dj76
        exact ke_weaken (l' := [(0, va_0), (1, vb_1), (5, v68), (7, .int .i64 i_7)]) (.cons rfl (.cons rfl (.cons rfl (.cons rfl (.nil _))))) hK
      · replace hS := ite_false' hS hc56
        refine ke_skip ?_
        have hK := ref29_Common_B4_ok hg hA0 _ _ hr0 hr1 hS hb hA hi hH ha_0 hb_1 hout_5 dout_5
        exact ke_weaken (l' := [(0, va_0), (1, vb_1), (5, vout_5), (7, .int .i64 i_7)]) (.cons rfl (.cons rfl (.cons rfl (.cons rfl (.nil _))))) hK
    · replace hS := ite_false' hS hc45
      refine ke_exit (k' := _) rfl ?_
      refine ke_seq ?_
      refine ke_region ?_
      refine sr_ev (v := vout_5) (ev_move rfl) (by decide) ?_
      replace hout_5 := hout_5.toSl (fun b hb => ⟨hi b hb, hA0 b hb⟩)
      replace hH := Hp.nil A0 w0.heap.size w
      replace hA := lt_mono hA0 hb.size
      replace hi : ∀ b, A0 b → A0 b := fun _ h => h
      obtain ⟨y79, hy80, hS⟩ := bind_some' hS
      refine sr_call (vs := [vout_5]) rfl Tryd.call20 rfl (ref29_Sorted_ok _ (hg.below hb) hout_5 hA hy80) (by decide) ?_
      rintro v83 w81 ⟨_, rfl, h84, hbw82⟩
      replace hb := hb.trans (hbw82.mono hb.size)
      replace hA := lt_mono hA hbw82.size
      replace hH := hH.below hbw82
      refine sr_ev (v := v83) (ev_assign rfl) (by decide) ?_
      refine sr_end (l' := [(4, v83)]) (.cons rfl (.nil _)) ?_
      cases hS
      exact ke_ret1 Tryd.func26 rfl rfl ⟨_, rfl, _, rfl, h84.weak hi, hb⟩
theorem ref29_Common_L1_ok {w0 : World} (hg : Gs w0) {A0 : Nat → Prop} (hA0 : ∀ b, A0 b → b < w0.heap.size) : ∀ (n : Nat), ∀ {r : List Str} {a_0 : List Str} {b_1 : List Str} {out_5 : List Str} {i_6 : Int} {va_0 : Value} {vb_1 : Value} {vout_5 : Value}, ref29_Common_L1 n a_0 b_1 out_5 i_6 = some r → ∀ {w : World} {A : Nat → Prop}, (Below w0.heap.size w0 w) → (∀ b, A b → b < w.heap.size) → (∀ b, A0 b → A b) → (Hp A w0.heap.size w []) → (SlR strC A w va_0 a_0) → (SlR strC A w vb_1 b_1) → (OwnS strC 9 A w0.heap.size w vout_5 out_5) → (Dj vout_5 []) → KE Tryd.prog 26 (Ret (fun v w' => ∃ x1, v = x1 ∧ SlR strC A0 w' x1 r ∧ Below w0.heap.size w0 w')) 48 [.code (sub (bodyOf Tryd.f26) [2, 2, 1, 2, 2, 1]), .inLoop (sub (bodyOf Tryd.f26) [2, 2, 1, 2, 2, 1]), .inBlock 0, .code (sub (bodyOf Tryd.f26) [2, 2, 2])] [(0, va_0), (1, vb_1), (5, vout_5), (6, .int .i64 i_6)] w := by
  intro n
  induction n with
  | zero => intro r a_0 b_1 out_5 i_6 va_0 vb_1 vout_5 hS; cases hS
  | succ n ih =>
    have hr0 : ∀ {r : List Str} {a_0 : List Str} {b_1 : List Str} {out_5 : List Str} {i_6 : Int} {va_0 : Value} {vb_1 : Value} {vout_5 : Value}, ref29_Common_L1 n a_0 b_1 out_5 i_6 = some r → ∀ {w : World} {A : Nat → Prop}, (Below w0.heap.size w0 w) → (∀ b, A b → b < w.heap.size) → (∀ b, A0 b → A b) → (Hp A w0.heap.size w []) → (SlR strC A w va_0 a_0) → (SlR strC A w vb_1 b_1) → (OwnS strC 9 A w0.heap.size w vout_5 out_5) → (Dj vout_5 []) → KE Tryd.prog 26 (Ret (fun v w' => ∃ x1, v = x1 ∧ SlR strC A0 w' x1 r ∧ Below w0.heap.size w0 w')) 48 [.inLoop (sub (bodyOf Tryd.f26) [2, 2, 1, 2, 2, 1]), .inBlock 0, .code (sub (bodyOf Tryd.f26) [2, 2, 2])] [(0, va_0), (1, vb_1), (5, vout_5), (6, .int .i64 i_6)] w := fun {r} {a_0} {b_1} {out_5} {i_6} {va_0} {vb_1} {vout_5} hS {w} {A} hb hA hi hH ha_0 hb_1 hout_5 dout_5 => ke_inLoop (ih hS hb hA hi hH ha_0 hb_1 hout_5 dout_5)
    clear ih
    intro r a_0 b_1 out_5 i_6 va_0 vb_1 vout_5 hS w A hb hA hi hH ha_0 hb_1 hout_5 dout_5
    unfold ref29_Common_L1 at hS
    refine ke_seq ?_
    refine ke_seq ?_
    refine ke_region ?_
    refine sr_ev (v := .int .i64 i_6) (ev_move rfl) (by decide) ?_
    refine sr_ev (v := va_0) (ev_move rfl) (by decide) ?_
    refine sr_ev (v := .int .i64 (a_0.length : Int)) (ev_sllen Tryd.underlying22 rfl ha_0) (by decide) ?_
    refine sr_ev (v := .bool (decide (i_6 < (a_0.length : Int)))) (ev_lt rfl rfl) (by decide) ?_
    refine sr_end (l' := [(0, va_0), (1, vb_1), (5, vout_5), (6, .int .i64 i_6), (11, .bool (decide (i_6 < (a_0.length : Int))))]) (.cons rfl (.cons rfl (.cons rfl (.cons rfl (.cons rfl (.nil _)))))) ?_
    refine ke_cond (t := decide (i_6 < (a_0.length : Int))) rfl (fun hc9 => ?_) (fun hc9 => ?_)
    · replace hS := ite_true' hS hc9
      refine ke_skip ?_
      refine ke_seq ?_
      refine ke_block ?_
      refine ke_seq ?_
      refine ke_region ?_
      refine sr_ev (v := vb_1) (ev_move rfl) (by decide) ?_
      refine sr_ev (v := va_0) (ev_move rfl) (by decide) ?_
      refine sr_ev (v := .int .i64 i_6) (ev_move rfl) (by decide) ?_
      obtain ⟨y10, hy11, hS⟩ := bind_some' hS
      refine sr_index ha_0 Tryd.underlying22 Tryd.info9 rfl rfl rfl hy11 (by decide) ?_
      intro b12 o13 cs15 he14
      obtain rfl : cs15 = [str y10] := he14.rd
      refine sr_ev (v := str y10) (ev_load Tryd.isAgg9 rfl (he14.cell 0 _ rfl)) (by decide) ?_
      obtain ⟨y16, hy17, hS⟩ := bind_some' hS
      refine sr_call (vs := [vb_1, str y10]) rfl Tryd.call39 rfl (ref29_covers_ok _ (hg.below hb) hb_1 hy17) (by decide) ?_
      rintro _ w18 ⟨rfl, hbw19⟩
      replace hb := hb.trans (hbw19.mono hb.size)
      replace hA := lt_mono hA hbw19.size
      replace hH := hH.below hbw19
      replace ha_0 := ha_0.below hbw19
      replace hb_1 := hb_1.below hbw19
      replace hout_5 := hout_5.below hbw19
      refine sr_end (l' := [(0, va_0), (1, vb_1), (5, vout_5), (6, .int .i64 i_6), (19, .bool y16)]) (.cons rfl (.cons rfl (.cons rfl (.cons rfl (.cons rfl (.nil _)))))) ?_
      refine ke_cond (t := y16) rfl (fun hc20 => ?_) (fun hc20 => ?_)
      · replace hS := ite_true' hS hc20
        refine ke_region ?_
        refine sr_ev (v := vout_5) (ev_move rfl) (by decide) ?_
        refine sr_ev (v := va_0) (ev_move rfl) (by decide) ?_
        refine sr_ev (v := .int .i64 i_6) (ev_move rfl) (by decide) ?_
        obtain ⟨y21, hy22, hS⟩ := bind_some' hS
        refine sr_index ha_0 Tryd.underlying22 Tryd.info9 rfl rfl rfl hy22 (by decide) ?_
        intro b23 o24 cs26 he25
        obtain rfl : cs26 = [str y21] := he25.rd
        refine sr_ev (v := str y21) (ev_load Tryd.isAgg9 rfl (he25.cell 0 _ rfl)) (by decide) ?_
        refine sr_lit (c := strC) (A := A) (E := 9) (xs := [y21]) (vs := #[(0, str y21)]) (cs := #[str y21]) (css := [[str y21]]) rfl (fun _ => by kernel_rfl) rfl ⟨rfl, trivial⟩ rfl (by decide) hA (by decide) ?_
        intro v27 w29 h28 hbw30
        replace hb := hb.trans (hbw30.mono hb.size)
        replace hA := lt_mono hA hbw30.size
        replace hH := hH.below hbw30
        replace ha_0 := ha_0.below hbw30
        replace hb_1 := hb_1.below hbw30
        replace hout_5 := hout_5.below hbw30
        obtain ⟨hk31, hS⟩ := chk_some hS
        refine sr_append (c := strC) (A := A) (B := w0.heap.size) (E := 9) (xs := out_5) (ys := ([y21] : List Str)) hout_5 h28 Tryd.underlying22 Tryd.info9 rfl rfl rfl (by decide) (by decide) hA hb.size hk31 rfl rfl (by decide) ?_
        intro v32 A34 w35 h33 hst36 hbB37 hinc38 hA1 hoth39 hold
        have dj40 : Dj v32 [] := fun p hp e => by rcases hold _ e with h | h; exact dout_5 p hp h; have := hH.lt hp; omega
        replace hb := hb.trans hbB37
        replace hi := fun b hb => hinc38 b (hi b hb)
        replace hH := hH.keep hinc38 (fun p hp => hoth39 _ (hH.lt hp) (dout_5 p hp))
        replace hA := hA1
        clear hA1
        replace ha_0 := ha_0.step hst36
        replace hb_1 := hb_1.step hst36
        refine sr_ev (v := v32) (ev_assign rfl) (by decide) ?_
        refine sr_end (l' := [(0, va_0), (1, vb_1), (5, v32), (6, .int .i64 i_6)]) (.cons rfl (.cons rfl (.cons rfl (.cons rfl (.nil _))))) ?_
        have hK := ref29_Common_B2_ok hg hA0 _ hr0 hS hb hA hi hH ha_0 hb_1 h33 dj40
        exact ke_weaken (l' := [(0, va_0), (1, vb_1), (5, v32), (6, .int .i64 i_6)]) (.cons rfl (.cons rfl (.cons rfl (.cons rfl (.nil _))))) hK
      · replace hS := ite_false' hS hc20
        refine ke_skip ?_
        have hK := ref29_Common_B2_ok hg hA0 _ hr0 hS hb hA hi hH ha_0 hb_1 hout_5 dout_5
        exact ke_weaken (l' := [(0, va_0), (1, vb_1), (5, vout_5), (6, .int .i64 i_6)]) (.cons rfl (.cons rfl (.cons rfl (.cons rfl (.nil _))))) hK
    · replace hS := ite_false' hS hc9
      refine ke_exit (k' := _) rfl ?_
      refine ke_seq ?_
      refine ke_seq ?_
      refine ke_region ?_
      refine sr_ev (v := .int .i64 0) (ev_assign rfl) (by decide) ?_
      refine sr_end (l' := [(0, va_0), (1, vb_1), (5, vout_5), (7, .int .i64 0)]) (.cons rfl (.cons rfl (.cons rfl (.cons rfl (.nil _))))) ?_
      refine ke_block ?_
      have hK := ref29_Common_L3_ok hg hA0 _ hr0 _ hS hb hA hi hH ha_0 hb_1 hout_5 dout_5
      exact ke_weaken (l' := [(0, va_0), (1, vb_1), (5, vout_5), (7, .int .i64 0)]) (.cons rfl (.cons rfl (.cons rfl (.cons rfl (.nil _))))) (ke_loop hK)
theorem ref29_Common_ok {A0 : Nat → Prop} (w0 : World) (hg : Gs w0) {a_0 : List Str} {b_1 : List Str} {v1 : Value} {v3 : Value} {r : List Str} (h2 : SlR strC A0 w0 v1 a_0) (h4 : SlR strC A0 w0 v3 b_1) (hA0 : ∀ b, A0 b → b < w0.heap.size) (hS : ref29_Common a_0 b_1 = some r) :
    Calls Tryd.prog 26 #[v1, v3] w0 (Ret (fun v w' => ∃ x1, v = x1 ∧ SlR strC A0 w' x1 r ∧ Below w0.heap.size w0 w')) := by
  unfold ref29_Common at hS
  have hb := Below.refl w0.heap.size w0
  have hA := hA0
  have hi : ∀ b, A0 b → A0 b := fun _ h => h
  have hH := Hp.nil A0 w0.heap.size w0
  refine calls_of_ke Tryd.func26 rfl (n := 48) rfl rfl (l := [(0, v1), (1, v3)]) rfl ?_
  refine ke_seq ?_
  refine ke_region ?_
  refine sr_ev (v := .slice none 0 0) (ev_assign rfl) (by decide) ?_
  refine sr_end (l' := [(0, v1), (1, v3)]) (.cons rfl (.cons rfl (.nil _))) ?_
  refine ke_seq ?_
  refine ke_region ?_
  refine sr_ev (v := .slice none 0 0) (ev_assign rfl) (by decide) ?_
  refine sr_end (l' := [(0, v1), (1, v3), (5, .slice none 0 0)]) (.cons rfl (.cons rfl (.cons rfl (.nil _)))) ?_
  refine ke_seq ?_
  refine ke_seq ?_
  refine ke_region ?_
  refine sr_ev (v := .int .i64 0) (ev_assign rfl) (by decide) ?_
  refine sr_end (l' := [(0, v1), (1, v3), (5, .slice none 0 0), (6, .int .i64 0)]) (.cons rfl (.cons rfl (.cons rfl (.cons rfl (.nil _))))) ?_
  refine ke_block ?_
  have hK := ref29_Common_L1_ok hg hA0 _ hS hb hA hi hH h2 h4 OwnS.nil (Dj.nil _)
  exact ke_weaken (l' := [(0, v1), (1, v3), (5, (.slice none 0 0)), (6, .int .i64 0)]) (.cons rfl (.cons rfl (.cons rfl (.cons rfl (.nil _))))) (ke_loop hK)
theorem ref29_Minus_B2_ok {w0 : World} (hg : Gs w0) {A0 : Nat → Prop} (hA0 : ∀ b, A0 b → b < w0.heap.size) (r0 : List Str → List Str → List Str → Int → Option (List Str))
    (hr0 : ∀ {r : List Str} {a_0 : List Str} {b_1 : List Str} {out_5 : List Str} {i_6 : Int} {va_0 : Value} {vb_1 : Value} {vout_5 : Value}, r0 a_0 b_1 out_5 i_6 = some r → ∀ {w : World} {A : Nat → Prop}, (Below w0.heap.size w0 w) → (∀ b, A b → b < w.heap.size) → (∀ b, A0 b → A b) → (Hp A w0.heap.size w []) → (SlR strC A w va_0 a_0) → (SlR strC A w vb_1 b_1) → (OwnS strC 9 A w0.heap.size w vout_5 out_5) → (Dj vout_5 []) → KE Tryd.prog 28 (Ret (fun v w' => ∃ x1, v = x1 ∧ SlR strC A0 w' x1 r ∧ Below w0.heap.size w0 w')) 29 [.inLoop (sub (bodyOf Tryd.f28) [2, 2, 1, 2, 2, 1]), .inBlock 0, .code (sub (bodyOf Tryd.f28) [2, 2, 2])] [(0, va_0), (1, vb_1), (5, vout_5), (6, .int .i64 i_6)] w) {r : List Str} {a_0 : List Str} {b_1 : List Str} {out_5 : List Str} {i_6 : Int} {va_0 : Value} {vb_1 : Value} {vout_5 : Value} (hS : ref29_Minus_B2 r0 a_0 b_1 out_5 i_6 = some r) {w : World} {A : Nat → Prop} (hb : Below w0.heap.size w0 w) (hA : ∀ b, A b → b < w.heap.size) (hi : ∀ b, A0 b → A b) (hH : Hp A w0.heap.size w []) (ha_0 : SlR strC A w va_0 a_0) (hb_1 : SlR strC A w vb_1 b_1) (hout_5 : OwnS strC 9 A w0.heap.size w vout_5 out_5) (dout_5 : Dj vout_5 []) :
    KE Tryd.prog 28 (Ret (fun v w' => ∃ x1, v = x1 ∧ SlR strC A0 w' x1 r ∧ Below w0.heap.size w0 w')) 29 [.inBlock 1, .code (sub (bodyOf Tryd.f28) [2, 2, 1, 2, 2, 1, 2, 2]), .inLoop (sub (bodyOf Tryd.f28) [2, 2, 1, 2, 2, 1]), .inBlock 0, .code (sub (bodyOf Tryd.f28) [2, 2, 2])] [(0, va_0), (1, vb_1), (5, vout_5), (6, .int .i64 i_6)] w := by
  unfold ref29_Minus_B2 at hS
  refine ke_inBlock ?_
  refine ke_region ?_
  refine sr_ev (v := .int .i64 i_6) (ev_move rfl) (by decide) ?_
  refine sr_ev (v := .int .i64 (IntKind.i64.wrap (i_6 + 1))) (ev_add rfl rfl) (by decide) ?_
  refine sr_ev (v := .int .i64 (IntKind.i64.wrap (i_6 + 1))) (ev_assign rfl) (by decide) ?_
  refine sr_end (l' := [(0, va_0), (1, vb_1), (5, vout_5), (6, .int .i64 (IntKind.i64.wrap (i_6 + 1)))]) (.cons rfl (.cons rfl (.cons rfl (.cons rfl (.nil _))))) ?_
  have hK := hr0 hS hb hA hi hH ha_0 hb_1 hout_5 dout_5
  exact ke_weaken (l' := [(0, va_0), (1, vb_1), (5, vout_5), (6, .int .i64 (IntKind.i64.wrap (i_6 + 1)))]) (.cons rfl (.cons rfl (.cons rfl (.cons rfl (.nil _))))) hK
theorem ref29_Minus_L1_ok {w0 : World} (hg : Gs w0) {A0 : Nat → Prop} (hA0 : ∀ b, A0 b → b < w0.heap.size) : ∀ (n : Nat), ∀ {r : List Str} {a_0 : List Str} {b_1 : List Str} {out_5 : List Str} {i_6 : Int} {va_0 : Value} {vb_1 : Value} {vout_5 : Value}, ref29_Minus_L1 n a_0 b_1 out_5 i_6 = some r → ∀ {w : World} {A : Nat → Prop}, (Below w0.heap.size w0 w) → (∀ b, A b → b < w.heap.size) → (∀ b, A0 b → A b) → (Hp A w0.heap.size w []) → (SlR strC A w va_0 a_0) → (SlR strC A w vb_1 b_1) → (OwnS strC 9 A w0.heap.size w vout_5 out_5) → (Dj vout_5 []) → KE Tryd.prog 28 (Ret (fun v w' => ∃ x1, v = x1 ∧ SlR strC A0 w' x1 r ∧ Below w0.heap.size w0 w')) 29 [.code (sub (bodyOf Tryd.f28) [2, 2, 1, 2, 2, 1]), .inLoop (sub (bodyOf Tryd.f28) [2, 2, 1, 2, 2, 1]), .inBlock 0, .code (sub (bodyOf Tryd.f28) [2, 2, 2])] [(0, va_0), (1, vb_1), (5, vout_5), (6, .int .i64 i_6)] w := by
  intro n
  induction n with
  | zero => intro r a_0 b_1 out_5 i_6 va_0 vb_1 vout_5 hS; cases hS
  | succ n ih =>
    have hr0 : ∀ {r : List Str} {a_0 : List Str} {b_1 : List Str} {out_5 : List Str} {i_6 : Int} {va_0 : Value} {vb_1 : Value} {vout_5 : Value}, ref29_Minus_L1 n a_0 b_1 out_5 i_6 = some r → ∀ {w : World} {A : Nat → Prop}, (Below w0.heap.size w0 w) → (∀ b, A b → b < w.heap.size) → (∀ b, A0 b → A b) → (Hp A w0.heap.size w []) → (SlR strC A w va_0 a_0) → (SlR strC A w vb_1 b_1) → (OwnS strC 9 A w0.heap.size w vout_5 out_5) → (Dj vout_5 []) → KE Tryd.prog 28 (Ret (fun v w' => ∃ x1, v = x1 ∧ SlR strC A0 w' x1 r ∧ Below w0.heap.size w0 w')) 29 [.inLoop (sub (bodyOf Tryd.f28) [2, 2, 1, 2, 2, 1]), .inBlock 0, .code (sub (bodyOf Tryd.f28) [2, 2, 2])] [(0, va_0), (1, vb_1), (5, vout_5), (6, .int .i64 i_6)] w := fun {r} {a_0} {b_1} {out_5} {i_6} {va_0} {vb_1} {vout_5} hS {w} {A} hb hA hi hH ha_0 hb_1 hout_5 dout_5 => ke_inLoop (ih hS hb hA hi hH ha_0 hb_1 hout_5 dout_5)
    clear ih
    intro r a_0 b_1 out_5 i_6 va_0 vb_1 vout_5 hS w A hb hA hi hH ha_0 hb_1 hout_5 dout_5
    unfold ref29_Minus_L1 at hS
    refine ke_seq ?_
    refine ke_seq ?_
    refine ke_region ?_
    refine sr_ev (v := .int .i64 i_6) (ev_move rfl) (by decide) ?_
    refine sr_ev (v := va_0) (ev_move rfl) (by decide) ?_
    refine sr_ev (v := .int .i64 (a_0.length : Int)) (ev_sllen Tryd.underlying22 rfl ha_0) (by decide) ?_
    refine sr_ev (v := .bool (decide (i_6 < (a_0.length : Int)))) (ev_lt rfl rfl) (by decide) ?_
    refine sr_end (l' := [(0, va_0), (1, vb_1), (5, vout_5), (6, .int .i64 i_6), (10, .bool (decide (i_6 < (a_0.length : Int))))]) (.cons rfl (.cons rfl (.cons rfl (.cons rfl (.cons rfl (.nil _)))))) ?_
    refine ke_cond (t := decide (i_6 < (a_0.length : Int))) rfl (fun hc9 => ?_) (fun hc9 => ?_)
    · replace hS := ite_true' hS hc9
      refine ke_skip ?_
      refine ke_seq ?_
      refine ke_block ?_
      refine ke_seq ?_
      refine ke_region ?_
      refine sr_ev (v := vb_1) (ev_move rfl) (by decide) ?_
      refine sr_ev (v := va_0) (ev_move rfl) (by decide) ?_
      refine sr_ev (v := .int .i64 i_6) (ev_move rfl) (by decide) ?_
      obtain ⟨y10, hy11, hS⟩ := bind_some' hS
      refine sr_index ha_0 Tryd.underlying22 Tryd.info9 rfl rfl rfl hy11 (by decide) ?_
      intro b12 o13 cs15 he14
      obtain rfl : cs15 = [str y10] := he14.rd
      refine sr_ev (v := str y10) (ev_load Tryd.isAgg9 rfl (he14.cell 0 _ rfl)) (by decide) ?_
      obtain ⟨y16, hy17, hS⟩ := bind_some' hS
      refine sr_call (vs := [vb_1, str y10]) rfl Tryd.call39 rfl (ref29_covers_ok _ (hg.below hb) hb_1 hy17) (by decide) ?_
      rintro _ w18 ⟨rfl, hbw19⟩
      replace hb := hb.trans (hbw19.mono hb.size)
      replace hA := lt_mono hA hbw19.size
      replace hH := hH.below hbw19
      replace ha_0 := ha_0.below hbw19
      replace hb_1 := hb_1.below hbw19
      replace hout_5 := hout_5.below hbw19
      refine sr_ev (v := .bool (!y16)) (ev_not rfl) (by decide) ?_
      refine sr_end (l' := [(0, va_0), (1, vb_1), (5, vout_5), (6, .int .i64 i_6), (19, .bool (!y16))]) (.cons rfl (.cons rfl (.cons rfl (.cons rfl (.cons rfl (.nil _)))))) ?_
      refine ke_cond (t := !y16) rfl (fun hc20 => ?_) (fun hc20 => ?_)
      · replace hS := ite_true' hS hc20
        refine ke_region ?_
        refine sr_ev (v := vout_5) (ev_move rfl) (by decide) ?_
        refine sr_ev (v := va_0) (ev_move rfl) (by decide) ?_
        refine sr_ev (v := .int .i64 i_6) (ev_move rfl) (by decide) ?_
        obtain ⟨y21, hy22, hS⟩ := bind_some' hS
        refine sr_index ha_0 Tryd.underlying22 Tryd.info9 rfl rfl rfl hy22 (by decide) ?_
        intro b23 o24 cs26 he25
        obtain rfl : cs26 = [str y21] := he25.rd
        refine sr_ev (v := str y21) (ev_load Tryd.isAgg9 rfl (he25.cell 0 _ rfl)) (by decide) ?_
        refine sr_lit (c := strC) (A := A) (E := 9) (xs := [y21]) (vs := #[(0, str y21)]) (cs := #[str y21]) (css := [[str y21]]) rfl (fun _ => by kernel_rfl) rfl ⟨rfl, trivial⟩ rfl (by decide) hA (by decide) ?_
        intro v27 w29 h28 hbw30
        replace hb := hb.trans (hbw30.mono hb.size)
        replace hA := lt_mono hA hbw30.size
        replace hH := hH.below hbw30
        replace ha_0 := ha_0.below hbw30
        replace hb_1 := hb_1.below hbw30
        replace hout_5 := hout_5.below hbw30
        obtain ⟨hk31, hS⟩ := chk_some hS
        refine sr_append (c := strC) (A := A) (B := w0.heap.size) (E := 9) (xs := out_5) (ys := ([y21] : List Str)) hout_5 h28 Tryd.underlying22 Tryd.info9 rfl rfl rfl (by decide) (by decide) hA hb.size hk31 rfl rfl (by decide) ?_
        intro v32 A34 w35 h33 hst36 hbB37 hinc38 hA1 hoth39 hold
        have dj40 : Dj v32 [] := fun p hp e => by rcases hold _ e with h | h; exact dout_5 p hp h; have := hH.lt hp; omega
        replace hb := hb.trans hbB37
        replace hi := fun b hb => hinc38 b (hi b hb)
        replace hH := hH.keep hinc38 (fun p hp => hoth39 _ (hH.lt hp) (dout_5 p hp))
        replace hA := hA1
        clear hA1
        replace ha_0 := ha_0.step hst36
        replace hb_1 := hb_1.step hst36
        refine sr_ev (v := v32) (ev_assign rfl) (by decide) ?_
        refine sr_end (l' := [(0, va_0), (1, vb_1), (5, v32), (6, .int .i64 i_6)]) (.cons rfl (.cons rfl (.cons rfl (.cons rfl (.nil _))))) ?_
        have hK := ref29_Minus_B2_ok hg hA0 _ hr0 hS hb hA hi hH ha_0 hb_1 h33 dj40
        exact ke_weaken (l' := [(0, va_0), (1, vb_1), (5, v32), (6, .int .i64 i_6)]) (.cons rfl (.cons rfl (.cons rfl (.cons rfl (.nil _))))) hK
      · replace hS := ite_false' hS hc20
        refine ke_skip ?_
        have hK := ref29_Minus_B2_ok hg hA0 _ hr0 hS hb hA hi hH ha_0 hb_1 hout_5 dout_5
        exact ke_weaken (l' := [(0, va_0), (1, vb_1), (5, vout_5), (6, .int .i64 i_6)]) (.cons rfl (.cons rfl (.cons rfl (.cons rfl (.nil _))))) hK
    · replace hS := ite_false' hS hc9
      refine ke_exit (k' := _) rfl ?_
      refine ke_seq ?_
      refine ke_region ?_
      refine sr_ev (v := vout_5) (ev_move rfl) (by decide) ?_
      replace hout_5 := hout_5.toSl (fun b hb => ⟨hi b hb, hA0 b hb⟩)
      replace hH := Hp.nil A0 w0.heap.size w
      replace hA := lt_mono hA0 hb.size
      replace hi : ∀ b, A0 b → A0 b := fun _ h => h
      obtain ⟨y43, hy44, hS⟩ := bind_some' hS
      refine sr_call (vs := [vout_5]) rfl Tryd.call20 rfl (ref29_Sorted_ok _ (hg.below hb) hout_5 hA hy44) (by decide) ?_
      rintro v47 w45 ⟨_, rfl, h48, hbw46⟩
      replace hb := hb.trans (hbw46.mono hb.size)
      replace hA := lt_mono hA hbw46.size
      replace hH := hH.below hbw46
      refine sr_ev (v := v47) (ev_assign rfl) (by decide) ?_
      refine sr_end (l' := [(4, v47)]) (.cons rfl (.nil _)) ?_
      cases hS
      exact ke_ret1 Tryd.func28 rfl rfl ⟨_, rfl, _, rfl, h48.weak hi, hb⟩
theorem ref29_Minus_ok {A0 : Nat → Prop} (w0 : World) (hg : Gs w0) {a_0 : List Str} {b_1 : List Str} {v1 : Value} {v3 : Value} {r : List Str} (h2 : SlR strC A0 w0 v1 a_0) (h4 : SlR strC A0 w0 v3 b_1) (hA0 : ∀ b, A0 b → b < w0.heap.size) (hS : ref29_Minus a_0 b_1 = some r) :
    Calls Tryd.prog 28 #[v1, v3] w0 (Ret (fun v w' => ∃ x1, v = x1 ∧ SlR strC A0 w' x1 r ∧ Below w0.heap.size w0 w')) := by
  unfold ref29_Minus at hS
  have hb := Below.refl w0.heap.size w0
  have hA := hA0
  have hi : ∀ b, A0 b → A0 b := fun _ h => h
  have hH := Hp.nil A0 w0.heap.size w0
  refine calls_of_ke Tryd.func28 rfl (n := 29) rfl rfl (l := [(0, v1), (1, v3)]) rfl ?_
  refine ke_seq ?_
  refine ke_region ?_
  refine sr_ev (v := .slice none 0 0) (ev_assign rfl) (by decide) ?_
  refine sr_end (l' := [(0, v1), (1, v3)]) (.cons rfl (.cons rfl (.nil _))) ?_
  refine ke_seq ?_
  refine ke_region ?_
  refine sr_ev (v := .slice none 0 0) (ev_assign rfl) (by decide) ?_
  refine sr_end (l' := [(0, v1), (1, v3), (5, .slice none 0 0)]) (.cons rfl (.cons rfl (.cons rfl (.nil _)))) ?_
  refine ke_seq ?_
  refine ke_seq ?_
  refine ke_region ?_
  refine sr_ev (v := .int .i64 0) (ev_assign rfl) (by decide) ?_
  refine sr_end (l' := [(0, v1), (1, v3), (5, .slice none 0 0), (6, .int .i64 0)]) (.cons rfl (.cons rfl (.cons rfl (.cons rfl (.nil _))))) ?_
  refine ke_block ?_
  have hK := ref29_Minus_L1_ok hg hA0 _ hS hb hA hi hH h2 h4 OwnS.nil (Dj.nil _)
  exact ke_weaken (l' := [(0, v1), (1, v3), (5, (.slice none 0 0)), (6, .int .i64 0)]) (.cons rfl (.cons rfl (.cons rfl (.cons rfl (.nil _))))) (ke_loop hK)
theorem law29_ScopeCombines_ok {A0 : Nat → Prop} (w0 : World) (hg : Gs w0) {a_0 : List Str} {b_1 : List Str} {v1 : Value} {v3 : Value} {r : Bool} (h2 : SlR strC A0 w0 v1 a_0) (h4 : SlR strC A0 w0 v3 b_1) (hS : law29_ScopeCombines a_0 b_1 = some r) :
    Calls Tryd.prog 5 #[v1, v3] w0 (Ret (fun v w' => v = .bool r ∧ Below w0.heap.size w0 w')) := by
  unfold law29_ScopeCombines at hS
  have hb := Below.refl w0.heap.size w0
  replace h2 := h2.weak (A' := fun _ => False) (fun _ h => h.elim)
  replace h4 := h4.weak (A' := fun _ => False) (fun _ h => h.elim)
  obtain ⟨A0, hA0, hAe⟩ : ∃ A0 : Nat → Prop, (∀ b, A0 b → b < w0.heap.size) ∧ A0 = fun _ => False := ⟨_, fun _ h => h.elim, rfl⟩
  rw [← hAe] at h2
  rw [← hAe] at h4
  clear hAe
  have hA := hA0
  have hi : ∀ b, A0 b → A0 b := fun _ h => h
  have hH := Hp.nil A0 w0.heap.size w0
  refine calls_of_ke Tryd.func5 rfl (n := 33) rfl rfl (l := [(0, v1), (1, v3)]) rfl ?_
  refine ke_seq ?_
  refine ke_region ?_
  refine sr_ev (v := .bool false) (ev_assign rfl) (by decide) ?_
  refine sr_end (l' := [(0, v1), (1, v3)]) (.cons rfl (.cons rfl (.nil _))) ?_
  refine ke_seq ?_
  refine ke_seq ?_
  refine ke_region ?_
  refine sr_ev (v := v1) (ev_move rfl) (by decide) ?_
  obtain ⟨y5, hy6, hS⟩ := bind_some' hS
  refine sr_call (vs := [v1]) rfl Tryd.call10 rfl (law29_few_ok _ (hg.below hb) h2 hy6) (by decide) ?_
  rintro _ w7 ⟨rfl, hbw8⟩
  replace hb := hb.trans (hbw8.mono hb.size)
  replace hA := lt_mono hA hbw8.size
  replace hH := hH.below hbw8
  replace h2 := h2.below hbw8
  replace h4 := h4.below hbw8
  refine sr_ev (v := .bool (!y5)) (ev_not rfl) (by decide) ?_
  refine sr_ev (v := .bool (!y5)) (ev_move rfl) (by decide) ?_
  obtain ⟨z11, hz13, hS⟩ := bind_some' hS
  refine sr_join (m := 4) (C := fun (x : Bool) w1 => z11 = x ∧ Below w7.heap.size w7 w1) (l' := fun x => [(0, v1), (1, v3), (12, .bool x)]) ?_ ?_
  · rintro _ w14 ⟨rfl, hbw15⟩
    replace hb := hb.trans (hbw15.mono hb.size)
    replace hA := lt_mono hA hbw15.size
    replace hH := hH.below hbw15
    replace h2 := h2.below hbw15
    replace h4 := h4.below hbw15
    refine sr_end (l' := [(0, v1), (1, v3), (12, .bool z11)]) (.cons rfl (.cons rfl (.cons rfl (.nil _)))) ?_
    refine ke_cond (t := z11) rfl (fun hc20 => ?_) (fun hc20 => ?_)
    · replace hS := ite_true' hS hc20
      refine ke_seq ?_
      refine ke_region ?_
      obtain ⟨y21, hy22, hS⟩ := bind_some' hS
      refine sr_call (vs := []) rfl Tryd.call11 rfl (law29_awake_ok _ (hg.below hb) hy22) (by decide) ?_
      rintro _ w23 ⟨rfl, hbw24⟩
      replace hb := hb.trans (hbw24.mono hb.size)
      replace hA := lt_mono hA hbw24.size
      replace hH := hH.below hbw24
      refine sr_ev (v := .bool y21) (ev_assign rfl) (by decide) ?_
      refine sr_end (l' := [(4, .bool y21)]) (.cons rfl (.nil _)) ?_
      cases hS
      exact ke_ret1 Tryd.func5 rfl rfl ⟨_, rfl, rfl, hb⟩
    · replace hS := ite_false' hS hc20
      refine ke_skip ?_
      refine ke_seq ?_
      refine ke_region ?_
      refine sr_ev (v := v1) (ev_move rfl) (by decide) ?_
      refine sr_ev (v := v3) (ev_move rfl) (by decide) ?_
      obtain ⟨y25, hy26, hS⟩ := bind_some' hS
      refine sr_call (vs := [v1, v3]) rfl Tryd.call25 rfl (scope_Common_ok _ (hg.below hb) h2 h4 hA hy26) (by decide) ?_
      rintro v29 w27 ⟨_, rfl, h30, hbw28⟩
      replace hb := hb.trans (hbw28.mono hb.size)
      replace hA := lt_mono hA hbw28.size
      replace hH := hH.below hbw28
      replace h2 := h2.below hbw28
      replace h4 := h4.below hbw28
      refine sr_ev (v := v1) (ev_move rfl) (by decide) ?_
      refine sr_ev (v := v3) (ev_move rfl) (by decide) ?_
      obtain ⟨y31, hy32, hS⟩ := bind_some' hS
      refine sr_call (vs := [v1, v3]) rfl Tryd.call26 rfl (ref29_Common_ok _ (hg.below hb) h2 h4 hA hy32) (by decide) ?_
      rintro v35 w33 ⟨_, rfl, h36, hbw34⟩
      replace hb := hb.trans (hbw34.mono hb.size)
      replace hA := lt_mono hA hbw34.size
      replace hH := hH.below hbw34
      replace h2 := h2.below hbw34
      replace h4 := h4.below hbw34
      replace h30 := h30.below hbw34
      obtain ⟨y37, hy38, hS⟩ := bind_some' hS
      refine sr_call (vs := [v29, v35]) rfl Tryd.call18 rfl (ref03_Same_ok _ (hg.below hb) h30 h36 hy38) (by decide) ?_
      rintro _ w39 ⟨rfl, hbw40⟩
      replace hb := hb.trans (hbw40.mono hb.size)
      replace hA := lt_mono hA hbw40.size
      replace hH := hH.below hbw40
      replace h2 := h2.below hbw40
      replace h4 := h4.below hbw40
      refine sr_ev (v := .bool y37) (ev_move rfl) (by decide) ?_
      obtain ⟨z43, hz45, hS⟩ := bind_some' hS
      refine sr_join (m := 8) (C := fun (x : Bool) w1 => z43 = x ∧ Below w39.heap.size w39 w1) (l' := fun x => [(29, .bool x)]) ?_ ?_
      · rintro _ w46 ⟨rfl, hbw47⟩
        replace hb := hb.trans (hbw47.mono hb.size)
        replace hA := lt_mono hA hbw47.size
        replace hH := hH.below hbw47
        refine sr_ev (v := .bool z43) (ev_move rfl) (by decide) ?_
        obtain ⟨z66, hz68, hS⟩ := bind_some' hS
        refine sr_join (m := 2) (C := fun (x : Bool) w1 => z66 = x ∧ Below w46.heap.size w46 w1) (l' := fun x => [(32, .bool x)]) ?_ ?_
        · rintro _ w69 ⟨rfl, hbw70⟩
          replace hb := hb.trans (hbw70.mono hb.size)
          replace hA := lt_mono hA hbw70.size
          replace hH := hH.below hbw70
          refine sr_ev (v := .bool z66) (ev_assign rfl) (by decide) ?_
          refine sr_end (l' := [(4, .bool z66)]) (.cons rfl (.nil _)) ?_
          cases hS
          exact ke_ret1 Tryd.func5 rfl rfl ⟨_, rfl, rfl, hb⟩
        · intro K65
          clear hS
          have hj67 := Below.refl w46.heap.size w46
          rcases Bool.eq_false_or_eq_true z43 with hg64 | hg64
          · have hS := ite_true' hz68 hg64
            obtain ⟨y71, hy72, hS⟩ := bind_some' hS
            refine sr_callg (b := true) (e := 30) rfl rfl hg64 (vs := []) rfl Tryd.call11 rfl (law29_awake_ok _ (hg.below hb) hy72) (by decide) ?_
            rintro _ w73 ⟨rfl, hbw74⟩
            replace hb := hb.trans (hbw74.mono hb.size)
            replace hj67 := hj67.trans (hbw74.mono hj67.size)
            replace hA := lt_mono hA hbw74.size
            replace hH := hH.below hbw74
            refine sr_ev (v := .bool y71) (ev_pick_t rfl hg64 rfl) (by decide) ?_
            exact sr_weaken (l' := [(32, .bool y71)]) (.cons rfl (.nil _)) (K65 y71 _ ⟨(Option.some.inj hS).symm, hj67⟩)
          · have hS := ite_false' hz68 hg64
            refine sr_pass (e := 30) rfl rfl (by rw [hg64]; rfl) (by decide) ?_
            refine sr_ev (v := .bool false) (ev_pick_f rfl hg64 rfl) (by decide) ?_
            exact sr_weaken (l' := [(32, .bool false)]) (.cons rfl (.nil _)) (K65 false _ ⟨(Option.some.inj hS).symm, hj67⟩)
      · intro K42
        clear hS
        have hj44 := Below.refl w39.heap.size w39
        rcases Bool.eq_false_or_eq_true y37 with hg41 | hg41
        · have hS := ite_true' hz45 hg41
          refine sr_evg (b := true) (e := 21) rfl rfl hg41 (v := v1) (ev_move rfl) (by decide) ?_
          refine sr_evg (b := true) (e := 21) rfl rfl hg41 (v := v3) (ev_move rfl) (by decide) ?_
          obtain ⟨y48, hy49, hS⟩ := bind_some' hS
          refine sr_callg (b := true) (e := 21) rfl rfl hg41 (vs := [v1, v3]) rfl Tryd.call27 rfl (scope_Minus_ok _ (hg.below hb) h2 h4 hA hy49) (by decide) ?_
          rintro v52 w50 ⟨_, rfl, h53, hbw51⟩
          replace hb := hb.trans (hbw51.mono hb.size)
          replace hj44 := hj44.trans (hbw51.mono hj44.size)
          replace hA := lt_mono hA hbw51.size
          replace hH := hH.below hbw51
          replace h2 := h2.below hbw51
          replace h4 := h4.below hbw51
          refine sr_evg (b := true) (e := 21) rfl rfl hg41 (v := v1) (ev_move rfl) (by decide) ?_
          refine sr_evg (b := true) (e := 21) rfl rfl hg41 (v := v3) (ev_move rfl) (by decide) ?_
          obtain ⟨y54, hy55, hS⟩ := bind_some' hS
          refine sr_callg (b := true) (e := 21) rfl rfl hg41 (vs := [v1, v3]) rfl Tryd.call28 rfl (ref29_Minus_ok _ (hg.below hb) h2 h4 hA hy55) (by decide) ?_
          rintro v58 w56 ⟨_, rfl, h59, hbw57⟩
          replace hb := hb.trans (hbw57.mono hb.size)
          replace hj44 := hj44.trans (hbw57.mono hj44.size)
          replace hA := lt_mono hA hbw57.size
          replace hH := hH.below hbw57
          replace h53 := h53.below hbw57
          obtain ⟨y60, hy61, hS⟩ := bind_some' hS
          refine sr_callg (b := true) (e := 21) rfl rfl hg41 (vs := [v52, v58]) rfl Tryd.call18 rfl (ref03_Same_ok _ (hg.below hb) h53 h59 hy61) (by decide) ?_
          rintro _ w62 ⟨rfl, hbw63⟩
          replace hb := hb.trans (hbw63.mono hb.size)
          replace hj44 := hj44.trans (hbw63.mono hj44.size)
          replace hA := lt_mono hA hbw63.size
          replace hH := hH.below hbw63
          refine sr_ev (v := .bool y60) (ev_pick_t rfl hg41 rfl) (by decide) ?_
          exact sr_weaken (l' := [(29, .bool y60)]) (.cons rfl (.nil _)) (K42 y60 _ ⟨(Option.some.inj hS).symm, hj44⟩)
        · have hS := ite_false' hz45 hg41
          refine sr_pass (e := 21) rfl rfl (by rw [hg41]; rfl) (by decide) ?_
          refine sr_pass (e := 21) rfl rfl (by rw [hg41]; rfl) (by decide) ?_
          refine sr_pass (e := 21) rfl rfl (by rw [hg41]; rfl) (by decide) ?_
          refine sr_pass (e := 21) rfl rfl (by rw [hg41]; rfl) (by decide) ?_
          refine sr_pass (e := 21) rfl rfl (by rw [hg41]; rfl) (by decide) ?_
          refine sr_pass (e := 21) rfl rfl (by rw [hg41]; rfl) (by decide) ?_
          refine sr_pass (e := 21) rfl rfl (by rw [hg41]; rfl) (by decide) ?_
          refine sr_ev (v := .bool false) (ev_pick_f rfl hg41 rfl) (by decide) ?_
          exact sr_weaken (l' := [(29, .bool false)]) (.cons rfl (.nil _)) (K42 false _ ⟨(Option.some.inj hS).symm, hj44⟩)
  · intro K10
    clear hS
    have hj12 := Below.refl w7.heap.size w7
    rcases Bool.eq_false_or_eq_true (!y5) with hg9 | hg9
    · have hS := ite_true' hz13 hg9
      refine sr_pass (e := 8) rfl rfl (by rw [hg9]; rfl) (by decide) ?_
      refine sr_pass (e := 8) rfl rfl (by rw [hg9]; rfl) (by decide) ?_
      refine sr_pass (e := 8) rfl rfl (by rw [hg9]; rfl) (by decide) ?_
      refine sr_ev (v := .bool true) (ev_pick_t rfl hg9 rfl) (by decide) ?_
      exact sr_weaken (l' := [(0, v1), (1, v3), (12, .bool true)]) (.cons rfl (.cons rfl (.cons rfl (.nil _)))) (K10 true _ ⟨(Option.some.inj hS).symm, hj12⟩)
    · have hS := ite_false' hz13 hg9
      refine sr_evg (b := false) (e := 8) rfl rfl hg9 (v := v3) (ev_move rfl) (by decide) ?_
      obtain ⟨y16, hy17, hS⟩ := bind_some' hS
      refine sr_callg (b := false) (e := 8) rfl rfl hg9 (vs := [v3]) rfl Tryd.call10 rfl (law29_few_ok _ (hg.below hb) h4 hy17) (by decide) ?_
      rintro _ w18 ⟨rfl, hbw19⟩
      replace hb := hb.trans (hbw19.mono hb.size)
      replace hj12 := hj12.trans (hbw19.mono hj12.size)
      replace hA := lt_mono hA hbw19.size
      replace hH := hH.below hbw19
      replace h2 := h2.below hbw19
      replace h4 := h4.below hbw19
      refine sr_evg (b := false) (e := 8) rfl rfl hg9 (v := .bool (!y16)) (ev_not rfl) (by decide) ?_
      refine sr_ev (v := .bool (!y16)) (ev_pick_f rfl hg9 rfl) (by decide) ?_
      exact sr_weaken (l' := [(0, v1), (1, v3), (12, .bool (!y16))]) (.cons rfl (.cons rfl (.cons rfl (.nil _)))) (K10 (!y16) _ ⟨(Option.some.inj hS).symm, hj12⟩)
theorem law29_ScopeBack_B2_ok {w0 : World} (hg : Gs w0) {A0 : Nat → Prop} (hA0 : ∀ b, A0 b → b < w0.heap.size) {r : Bool} (hS : law29_ScopeBack_B2 = some r) {w : World} {A : Nat → Prop} (hb : Below w0.heap.size w0 w) (hA : ∀ b, A b → b < w.heap.size) (hi : ∀ b, A0 b → A b) (hH : Hp A w0.heap.size w []) :
    KE Tryd.prog 6 (Ret (fun v w' => v = .bool r ∧ Below w0.heap.size w0 w')) 66 [.code (sub (bodyOf Tryd.f6) [2, 2, 2, 2, 2, 2])] [] w := by
  unfold law29_ScopeBack_B2 at hS
  refine ke_seq ?_
  refine ke_region ?_
  obtain ⟨y66, hy67, hS⟩ := bind_some' hS
  refine sr_call (vs := []) rfl Tryd.call11 rfl (law29_awake_ok _ (hg.below hb) hy67) (by decide) ?_
  rintro _ w68 ⟨rfl, hbw69⟩
  replace hb := hb.trans (hbw69.mono hb.size)
  replace hA := lt_mono hA hbw69.size
  replace hH := hH.below hbw69
  refine sr_ev (v := .bool y66) (ev_assign rfl) (by decide) ?_
  refine sr_end (l' := [(4, .bool y66)]) (.cons rfl (.nil _)) ?_
  cases hS
  exact ke_ret1 Tryd.func6 rfl rfl ⟨_, rfl, rfl, hb⟩
theorem law29_ScopeBack_B1_ok {w0 : World} (hg : Gs w0) {A0 : Nat → Prop} (hA0 : ∀ b, A0 b → b < w0.heap.size) {r : Bool} {s_1 : Str} (hS : law29_ScopeBack_B1 s_1 = some r) {w : World} {A : Nat → Prop} (hb : Below w0.heap.size w0 w) (hA : ∀ b, A b → b < w.heap.size) (hi : ∀ b, A0 b → A b) (hH : Hp A w0.heap.size w []) :
    KE Tryd.prog 6 (Ret (fun v w' => v = .bool r ∧ Below w0.heap.size w0 w')) 66 [.code (sub (bodyOf Tryd.f6) [2, 2, 2, 2, 2])] [(1, str s_1)] w := by
  unfold law29_ScopeBack_B1 at hS
  refine ke_seq ?_
  refine ke_seq ?_
  refine ke_region ?_
  refine sr_ev (v := str s_1) (ev_move rfl) (by decide) ?_
  obtain ⟨y47, hy48, hS⟩ := bind_some' hS
  refine sr_call (vs := [str s_1]) rfl Tryd.call14 rfl (scope_Parse_ok _ (hg.below hb) hA hy48) (by decide) ?_
  rintro _ w49 ⟨v51, rfl, h52, hbw50⟩
  replace hb := hb.trans (hbw50.mono hb.size)
  replace hA := lt_mono hA hbw50.size
  replace hH := hH.below hbw50
  refine sr_ev (v := .tuple #[v51, .int .i64 y47.2]) (ev_move rfl) (by decide) ?_
  refine sr_ev (v := v51) (ev_extract rfl rfl) (by decide) ?_
  refine sr_ev (v := .int .i64 y47.2) (ev_extract rfl rfl) (by decide) ?_
  refine sr_ev (v := v51) (ev_assign rfl) (by decide) ?_
  refine sr_ev (v := .int .i64 y47.2) (ev_assign rfl) (by decide) ?_
  refine sr_end (l' := [(1, str s_1), (9, v51), (10, .int .i64 y47.2)]) (.cons rfl (.cons rfl (.cons rfl (.nil _)))) ?_
  refine ke_seq ?_
  refine ke_region ?_
  refine sr_ev (v := .int .i64 y47.2) (ev_move rfl) (by decide) ?_
  refine sr_ev (v := .bool (y47.2 == 0)) (ev_eq rfl rfl) (by decide) ?_
  refine sr_end (l' := [(1, str s_1), (9, v51), (52, .bool (y47.2 == 0))]) (.cons rfl (.cons rfl (.cons rfl (.nil _)))) ?_
  refine ke_cond (t := y47.2 == 0) rfl (fun hc53 => ?_) (fun hc53 => ?_)
  · replace hS := ite_true' hS hc53
    refine ke_seq ?_
    refine ke_region ?_
    refine sr_ev (v := v51) (ev_move rfl) (by decide) ?_
    obtain ⟨y54, hy55, hS⟩ := bind_some' hS
    refine sr_call (vs := [v51]) rfl Tryd.call12 rfl (scope_Text_ok _ (hg.below hb) h52 hy55) (by decide) ?_
    rintro _ w56 ⟨rfl, hbw57⟩
    replace hb := hb.trans (hbw57.mono hb.size)
    replace hA := lt_mono hA hbw57.size
    replace hH := hH.below hbw57
    refine sr_ev (v := .tuple #[str y54.1, .int .i64 y54.2]) (ev_move rfl) (by decide) ?_
    refine sr_ev (v := str y54.1) (ev_extract rfl rfl) (by decide) ?_
    refine sr_ev (v := .int .i64 y54.2) (ev_extract rfl rfl) (by decide) ?_
    refine sr_ev (v := str y54.1) (ev_assign rfl) (by decide) ?_
    refine sr_ev (v := .int .i64 y54.2) (ev_assign rfl) (by decide) ?_
    refine sr_end (l' := [(1, str s_1), (11, str y54.1), (12, .int .i64 y54.2)]) (.cons rfl (.cons rfl (.cons rfl (.nil _)))) ?_
    refine ke_seq ?_
    refine ke_region ?_
    refine sr_ev (v := .int .i64 y54.2) (ev_move rfl) (by decide) ?_
    refine sr_ev (v := .bool (y54.2 != 0)) (ev_ne rfl rfl) (by decide) ?_
    refine sr_ev (v := .bool (y54.2 != 0)) (ev_move rfl) (by decide) ?_
    refine sr_join (m := 4) (C := fun (x : Bool) w1 => x = ((y54.2 != 0) || (!(y54.1 == s_1))) ∧ w56 = w1) (l' := fun x => [(64, .bool x)]) ?_ ?_
    · rintro _ _ ⟨rfl, rfl⟩
      refine sr_end (l' := [(64, .bool ((y54.2 != 0) || (!(y54.1 == s_1))))]) (.cons rfl (.nil _)) ?_
      refine ke_cond (t := (y54.2 != 0) || (!(y54.1 == s_1))) rfl (fun hc65 => ?_) (fun hc65 => ?_)
      · replace hS := ite_true' hS hc65
        refine ke_seq ?_
        refine ke_region ?_
        refine sr_ev (v := .bool false) (ev_assign rfl) (by decide) ?_
        refine sr_end (l' := [(4, .bool false)]) (.cons rfl (.nil _)) ?_
        cases hS
        exact ke_ret1 Tryd.func6 rfl rfl ⟨_, rfl, rfl, hb⟩
      · replace hS := ite_false' hS hc65
        refine ke_skip ?_
        have hK := law29_ScopeBack_B2_ok hg hA0 hS hb hA hi hH
        exact ke_weaken (l' := []) (.nil _) hK
    · intro K59
      rcases Bool.eq_false_or_eq_true (y54.2 != 0) with hg58 | hg58
      · refine sr_pass (e := 60) rfl rfl (by rw [hg58]; rfl) (by decide) ?_
        refine sr_pass (e := 60) rfl rfl (by rw [hg58]; rfl) (by decide) ?_
        refine sr_pass (e := 60) rfl rfl (by rw [hg58]; rfl) (by decide) ?_
        refine sr_ev (v := .bool true) (ev_pick_t rfl hg58 rfl) (by decide) ?_
        exact sr_weaken (l' := [(64, .bool true)]) (.cons rfl (.nil _)) (K59 true _ ⟨by rw [hg58]; rfl, rfl⟩)
      · refine sr_evg (b := false) (e := 60) rfl rfl hg58 (v := str y54.1) (ev_move rfl) (by decide) ?_
        refine sr_evg (b := false) (e := 60) rfl rfl hg58 (v := str s_1) (ev_move rfl) (by decide) ?_
        refine sr_evg (b := false) (e := 60) rfl rfl hg58 (v := .bool (!(y54.1 == s_1))) (ev_sne rfl rfl) (by decide) ?_
        refine sr_ev (v := .bool (!(y54.1 == s_1))) (ev_pick_f rfl hg58 rfl) (by decide) ?_
        exact sr_weaken (l' := [(64, .bool (!(y54.1 == s_1)))]) (.cons rfl (.nil _)) (K59 (!(y54.1 == s_1)) _ ⟨by rw [hg58]; rfl, rfl⟩)
  · replace hS := ite_false' hS hc53
    refine ke_skip ?_
    have hK := law29_ScopeBack_B2_ok hg hA0 hS hb hA hi hH
    exact ke_weaken (l' := []) (.nil _) hK
theorem law29_ScopeBack_ok {A0 : Nat → Prop} (w0 : World) (hg : Gs w0) {l_0 : List Str} {s_1 : Str} {v1 : Value} {r : Bool} (h2 : SlR strC A0 w0 v1 l_0) (hS : law29_ScopeBack l_0 s_1 = some r) :
    Calls Tryd.prog 6 #[v1, str s_1] w0 (Ret (fun v w' => v = .bool r ∧ Below w0.heap.size w0 w')) := by
  unfold law29_ScopeBack at hS
  have hb := Below.refl w0.heap.size w0
  replace h2 := h2.weak (A' := fun _ => False) (fun _ h => h.elim)
  obtain ⟨A0, hA0, hAe⟩ : ∃ A0 : Nat → Prop, (∀ b, A0 b → b < w0.heap.size) ∧ A0 = fun _ => False := ⟨_, fun _ h => h.elim, rfl⟩
  rw [← hAe] at h2
  clear hAe
  have hA := hA0
  have hi : ∀ b, A0 b → A0 b := fun _ h => h
  have hH := Hp.nil A0 w0.heap.size w0
  refine calls_of_ke Tryd.func6 rfl (n := 66) rfl rfl (l := [(0, v1), (1, str s_1)]) rfl ?_
  refine ke_seq ?_
  refine ke_region ?_
  refine sr_ev (v := .bool false) (ev_assign rfl) (by decide) ?_
  refine sr_end (l' := [(0, v1), (1, str s_1)]) (.cons rfl (.cons rfl (.nil _))) ?_
  refine ke_seq ?_
  refine ke_seq ?_
  refine ke_region ?_
  refine sr_ev (v := v1) (ev_move rfl) (by decide) ?_
  obtain ⟨y3, hy4, hS⟩ := bind_some' hS
  refine sr_call (vs := [v1]) rfl Tryd.call10 rfl (law29_few_ok _ (hg.below hb) h2 hy4) (by decide) ?_
  rintro _ w5 ⟨rfl, hbw6⟩
  replace hb := hb.trans (hbw6.mono hb.size)
  replace hA := lt_mono hA hbw6.size
  replace hH := hH.below hbw6
  replace h2 := h2.below hbw6
  refine sr_ev (v := .bool (!y3)) (ev_not rfl) (by decide) ?_
  refine sr_ev (v := .bool (!y3)) (ev_move rfl) (by decide) ?_
  refine sr_join (m := 4) (C := fun (x : Bool) w1 => x = ((!y3) || (decide ((s_1.length : Int) > 2000))) ∧ w5 = w1) (l' := fun x => [(0, v1), (1, str s_1), (20, .bool x)]) ?_ ?_
  · rintro _ _ ⟨rfl, rfl⟩
    refine sr_end (l' := [(0, v1), (1, str s_1), (20, .bool ((!y3) || (decide ((s_1.length : Int) > 2000))))]) (.cons rfl (.cons rfl (.cons rfl (.nil _)))) ?_
    refine ke_cond (t := (!y3) || (decide ((s_1.length : Int) > 2000))) rfl (fun hc14 => ?_) (fun hc14 => ?_)
    · replace hS := ite_true' hS hc14
      refine ke_seq ?_
      refine ke_region ?_
      obtain ⟨y15, hy16, hS⟩ := bind_some' hS
      refine sr_call (vs := []) rfl Tryd.call11 rfl (law29_awake_ok _ (hg.below hb) hy16) (by decide) ?_
      rintro _ w17 ⟨rfl, hbw18⟩
      replace hb := hb.trans (hbw18.mono hb.size)
      replace hA := lt_mono hA hbw18.size
      replace hH := hH.below hbw18
      refine sr_ev (v := .bool y15) (ev_assign rfl) (by decide) ?_
      refine sr_end (l' := [(4, .bool y15)]) (.cons rfl (.nil _)) ?_
      cases hS
      exact ke_ret1 Tryd.func6 rfl rfl ⟨_, rfl, rfl, hb⟩
    · replace hS := ite_false' hS hc14
      refine ke_skip ?_
      refine ke_seq ?_
      refine ke_region ?_
      refine sr_ev (v := v1) (ev_move rfl) (by decide) ?_
      obtain ⟨y19, hy20, hS⟩ := bind_some' hS
      refine sr_call (vs := [v1]) rfl Tryd.call12 rfl (scope_Text_ok _ (hg.below hb) h2 hy20) (by decide) ?_
      rintro _ w21 ⟨rfl, hbw22⟩
      replace hb := hb.trans (hbw22.mono hb.size)
      replace hA := lt_mono hA hbw22.size
      replace hH := hH.below hbw22
      replace h2 := h2.below hbw22
      refine sr_ev (v := .tuple #[str y19.1, .int .i64 y19.2]) (ev_move rfl) (by decide) ?_
      refine sr_ev (v := str y19.1) (ev_extract rfl rfl) (by decide) ?_
      refine sr_ev (v := .int .i64 y19.2) (ev_extract rfl rfl) (by decide) ?_
      refine sr_ev (v := str y19.1) (ev_assign rfl) (by decide) ?_
      refine sr_ev (v := .int .i64 y19.2) (ev_assign rfl) (by decide) ?_
      refine sr_end (l' := [(0, v1), (1, str s_1), (5, str y19.1), (6, .int .i64 y19.2)]) (.cons rfl (.cons rfl (.cons rfl (.cons rfl (.nil _))))) ?_
      refine ke_seq ?_
      refine ke_seq ?_
      refine ke_region ?_
      refine sr_ev (v := .int .i64 y19.2) (ev_move rfl) (by decide) ?_
      refine sr_ev (v := v1) (ev_move rfl) (by decide) ?_
      obtain ⟨y23, hy24, hS⟩ := bind_some' hS
      refine sr_call (vs := [v1]) rfl Tryd.call16 rfl (scope_Check_ok _ (hg.below hb) h2 hy24) (by decide) ?_
      rintro _ w25 ⟨rfl, hbw26⟩
      replace hb := hb.trans (hbw26.mono hb.size)
      replace hA := lt_mono hA hbw26.size
      replace hH := hH.below hbw26
      replace h2 := h2.below hbw26
      refine sr_ev (v := .bool (y19.2 != y23)) (ev_ne rfl rfl) (by decide) ?_
      refine sr_end (l' := [(0, v1), (1, str s_1), (5, str y19.1), (6, .int .i64 y19.2), (30, .bool (y19.2 != y23))]) (.cons rfl (.cons rfl (.cons rfl (.cons rfl (.cons rfl (.nil _)))))) ?_
      refine ke_cond (t := y19.2 != y23) rfl (fun hc27 => ?_) (fun hc27 => ?_)
      · replace hS := ite_true' hS hc27
        refine ke_seq ?_
        refine ke_region ?_
        refine sr_ev (v := .bool false) (ev_assign rfl) (by decide) ?_
        refine sr_end (l' := [(4, .bool false)]) (.cons rfl (.nil _)) ?_
        cases hS
        exact ke_ret1 Tryd.func6 rfl rfl ⟨_, rfl, rfl, hb⟩
      · replace hS := ite_false' hS hc27
        refine ke_skip ?_
        refine ke_seq ?_
        refine ke_seq ?_
        refine ke_region ?_
        refine sr_ev (v := .int .i64 y19.2) (ev_move rfl) (by decide) ?_
        refine sr_ev (v := .bool (y19.2 == 0)) (ev_eq rfl rfl) (by decide) ?_
        refine sr_end (l' := [(0, v1), (1, str s_1), (5, str y19.1), (32, .bool (y19.2 == 0))]) (.cons rfl (.cons rfl (.cons rfl (.cons rfl (.nil _))))) ?_
        refine ke_cond (t := y19.2 == 0) rfl (fun hc28 => ?_) (fun hc28 => ?_)
        · replace hS := ite_true' hS hc28
          refine ke_seq ?_
          refine ke_region ?_
          refine sr_ev (v := str y19.1) (ev_move rfl) (by decide) ?_
          obtain ⟨y29, hy30, hS⟩ := bind_some' hS
          refine sr_call (vs := [str y19.1]) rfl Tryd.call14 rfl (scope_Parse_ok _ (hg.below hb) hA hy30) (by decide) ?_
          rintro _ w31 ⟨v33, rfl, h34, hbw32⟩
          replace hb := hb.trans (hbw32.mono hb.size)
          replace hA := lt_mono hA hbw32.size
          replace hH := hH.below hbw32
          replace h2 := h2.below hbw32
          refine sr_ev (v := .tuple #[v33, .int .i64 y29.2]) (ev_move rfl) (by decide) ?_
          refine sr_ev (v := v33) (ev_extract rfl rfl) (by decide) ?_
          refine sr_ev (v := .int .i64 y29.2) (ev_extract rfl rfl) (by decide) ?_
          refine sr_ev (v := v33) (ev_assign rfl) (by decide) ?_
          refine sr_ev (v := .int .i64 y29.2) (ev_assign rfl) (by decide) ?_
          refine sr_end (l' := [(0, v1), (1, str s_1), (7, v33), (8, .int .i64 y29.2)]) (.cons rfl (.cons rfl (.cons rfl (.cons rfl (.nil _))))) ?_
          refine ke_seq ?_
          refine ke_region ?_
          refine sr_ev (v := .int .i64 y29.2) (ev_move rfl) (by decide) ?_
          refine sr_ev (v := .bool (y29.2 != 0)) (ev_ne rfl rfl) (by decide) ?_
          refine sr_ev (v := .bool (y29.2 != 0)) (ev_move rfl) (by decide) ?_
          obtain ⟨z37, hz39, hS⟩ := bind_some' hS
          refine sr_join (m := 5) (C := fun (x : Bool) w1 => z37 = x ∧ Below w31.heap.size w31 w1) (l' := fun x => [(1, str s_1), (45, .bool x)]) ?_ ?_
          · rintro _ w40 ⟨rfl, hbw41⟩
            replace hb := hb.trans (hbw41.mono hb.size)
            replace hA := lt_mono hA hbw41.size
            replace hH := hH.below hbw41
            refine sr_end (l' := [(1, str s_1), (45, .bool z37)]) (.cons rfl (.cons rfl (.nil _))) ?_
            refine ke_cond (t := z37) rfl (fun hc46 => ?_) (fun hc46 => ?_)
            · replace hS := ite_true' hS hc46
              refine ke_seq ?_
              refine ke_region ?_
              refine sr_ev (v := .bool false) (ev_assign rfl) (by decide) ?_
              refine sr_end (l' := [(4, .bool false)]) (.cons rfl (.nil _)) ?_
              cases hS
              exact ke_ret1 Tryd.func6 rfl rfl ⟨_, rfl, rfl, hb⟩
            · replace hS := ite_false' hS hc46
              refine ke_skip ?_
              have hK := law29_ScopeBack_B1_ok hg hA0 hS hb hA hi hH
              exact ke_weaken (l' := [(1, str s_1)]) (.cons rfl (.nil _)) hK
          · intro K36
            clear hS
            have hj38 := Below.refl w31.heap.size w31
            rcases Bool.eq_false_or_eq_true (y29.2 != 0) with hg35 | hg35
            · have hS := ite_true' hz39 hg35
              refine sr_pass (e := 40) rfl rfl (by rw [hg35]; rfl) (by decide) ?_
              refine sr_pass (e := 40) rfl rfl (by rw [hg35]; rfl) (by decide) ?_
              refine sr_pass (e := 40) rfl rfl (by rw [hg35]; rfl) (by decide) ?_
              refine sr_pass (e := 40) rfl rfl (by rw [hg35]; rfl) (by decide) ?_
              refine sr_ev (v := .bool true) (ev_pick_t rfl hg35 rfl) (by decide) ?_
              exact sr_weaken (l' := [(1, str s_1), (45, .bool true)]) (.cons rfl (.cons rfl (.nil _))) (K36 true _ ⟨(Option.some.inj hS).symm, hj38⟩)
            · have hS := ite_false' hz39 hg35
              refine sr_evg (b := false) (e := 40) rfl rfl hg35 (v := v33) (ev_move rfl) (by decide) ?_
              refine sr_evg (b := false) (e := 40) rfl rfl hg35 (v := v1) (ev_move rfl) (by decide) ?_
              obtain ⟨y42, hy43, hS⟩ := bind_some' hS
              refine sr_callg (b := false) (e := 40) rfl rfl hg35 (vs := [v33, v1]) rfl Tryd.call18 rfl (ref03_Same_ok _ (hg.below hb) h34 h2 hy43) (by decide) ?_
              rintro _ w44 ⟨rfl, hbw45⟩
              replace hb := hb.trans (hbw45.mono hb.size)
              replace hj38 := hj38.trans (hbw45.mono hj38.size)
              replace hA := lt_mono hA hbw45.size
              replace hH := hH.below hbw45
              refine sr_evg (b := false) (e := 40) rfl rfl hg35 (v := .bool (!y42)) (ev_not rfl) (by decide) ?_
              refine sr_ev (v := .bool (!y42)) (ev_pick_f rfl hg35 rfl) (by decide) ?_
              exact sr_weaken (l' := [(1, str s_1), (45, .bool (!y42))]) (.cons rfl (.cons rfl (.nil _))) (K36 (!y42) _ ⟨(Option.some.inj hS).symm, hj38⟩)
        · replace hS := ite_false' hS hc28
          refine ke_skip ?_
          have hK := law29_ScopeBack_B1_ok hg hA0 hS hb hA hi hH
          exact ke_weaken (l' := [(1, str s_1)]) (.cons rfl (.nil _)) hK
  · intro K8
    rcases Bool.eq_false_or_eq_true (!y3) with hg7 | hg7
    · refine sr_pass (e := 16) rfl rfl (by rw [hg7]; rfl) (by decide) ?_
      refine sr_pass (e := 16) rfl rfl (by rw [hg7]; rfl) (by decide) ?_
      refine sr_pass (e := 16) rfl rfl (by rw [hg7]; rfl) (by decide) ?_
      refine sr_ev (v := .bool true) (ev_pick_t rfl hg7 rfl) (by decide) ?_
      exact sr_weaken (l' := [(0, v1), (1, str s_1), (20, .bool true)]) (.cons rfl (.cons rfl (.cons rfl (.nil _)))) (K8 true _ ⟨by rw [hg7]; rfl, rfl⟩)
    · refine sr_evg (b := false) (e := 16) rfl rfl hg7 (v := str s_1) (ev_move rfl) (by decide) ?_
      refine sr_evg (b := false) (e := 16) rfl rfl hg7 (v := .int .i64 (s_1.length : Int)) (ev_slen Tryd.underlying9 rfl) (by decide) ?_
      refine sr_evg (b := false) (e := 16) rfl rfl hg7 (v := .bool (decide ((s_1.length : Int) > 2000))) (ev_gt rfl rfl) (by decide) ?_
      refine sr_ev (v := .bool (decide ((s_1.length : Int) > 2000))) (ev_pick_f rfl hg7 rfl) (by decide) ?_
      exact sr_weaken (l' := [(0, v1), (1, str s_1), (20, .bool (decide ((s_1.length : Int) > 2000)))]) (.cons rfl (.cons rfl (.cons rfl (.nil _)))) (K8 (decide ((s_1.length : Int) > 2000)) _ ⟨by rw [hg7]; rfl, rfl⟩)
theorem law29_ScopeOrder_ok (w0 : World) (hg : Gs w0) {a_0 : Str} {b_1 : Str} {c_2 : Str} {r : Bool} (hS : law29_ScopeOrder a_0 b_1 c_2 = some r) :
    Calls Tryd.prog 7 #[str a_0, str b_1, str c_2] w0 (Ret (fun v w' => v = .bool r ∧ Below w0.heap.size w0 w')) := by
  unfold law29_ScopeOrder at hS
  have hb := Below.refl w0.heap.size w0
  obtain ⟨A0, hA0, hAe⟩ : ∃ A0 : Nat → Prop, (∀ b, A0 b → b < w0.heap.size) ∧ A0 = fun _ => False := ⟨_, fun _ h => h.elim, rfl⟩
  clear hAe
  have hA := hA0
  have hi : ∀ b, A0 b → A0 b := fun _ h => h
  have hH := Hp.nil A0 w0.heap.size w0
  refine calls_of_ke Tryd.func7 rfl (n := 54) rfl rfl (l := [(0, str a_0), (1, str b_1), (2, str c_2)]) rfl ?_
  refine ke_seq ?_
  refine ke_region ?_
  refine sr_ev (v := .bool false) (ev_assign rfl) (by decide) ?_
  refine sr_end (l' := [(0, str a_0), (1, str b_1), (2, str c_2)]) (.cons rfl (.cons rfl (.cons rfl (.nil _)))) ?_
  refine ke_seq ?_
  refine ke_seq ?_
  refine ke_region ?_
  refine sr_ev (v := str a_0) (ev_move rfl) (by decide) ?_
  refine sr_ev (v := str b_1) (ev_move rfl) (by decide) ?_
  refine sr_ev (v := str c_2) (ev_move rfl) (by decide) ?_
  refine sr_lit (c := strC) (A := A0) (E := 9) (xs := [a_0, b_1, c_2]) (vs := #[(0, str a_0), (1, str b_1), (2, str c_2)]) (cs := #[str a_0, str b_1, str c_2]) (css := [[str a_0], [str b_1], [str c_2]]) rfl (fun _ => by kernel_rfl) rfl ⟨rfl, ⟨rfl, ⟨rfl, trivial⟩⟩⟩ rfl (by decide) hA (by decide) ?_
  intro v1 w3 h2 hbw4
  replace hb := hb.trans (hbw4.mono hb.size)
  replace hA := lt_mono hA hbw4.size
  replace hH := hH.below hbw4
  obtain ⟨y5, hy6, hS⟩ := bind_some' hS
  refine sr_call (vs := [v1]) rfl Tryd.call10 rfl (law29_few_ok _ (hg.below hb) h2 hy6) (by decide) ?_
  rintro _ w7 ⟨rfl, hbw8⟩
  replace hb := hb.trans (hbw8.mono hb.size)
  replace hA := lt_mono hA hbw8.size
  replace hH := hH.below hbw8
  refine sr_ev (v := .bool (!y5)) (ev_not rfl) (by decide) ?_
  refine sr_end (l' := [(0, str a_0), (1, str b_1), (2, str c_2), (12, .bool (!y5))]) (.cons rfl (.cons rfl (.cons rfl (.cons rfl (.nil _))))) ?_
  refine ke_cond (t := !y5) rfl (fun hc9 => ?_) (fun hc9 => ?_)
  · replace hS := ite_true' hS hc9
    refine ke_seq ?_
    refine ke_region ?_
    obtain ⟨y10, hy11, hS⟩ := bind_some' hS
    refine sr_call (vs := []) rfl Tryd.call11 rfl (law29_awake_ok _ (hg.below hb) hy11) (by decide) ?_
    rintro _ w12 ⟨rfl, hbw13⟩
    replace hb := hb.trans (hbw13.mono hb.size)
    replace hA := lt_mono hA hbw13.size
    replace hH := hH.below hbw13
    refine sr_ev (v := .bool y10) (ev_assign rfl) (by decide) ?_
    refine sr_end (l' := [(6, .bool y10)]) (.cons rfl (.nil _)) ?_
    cases hS
    exact ke_ret1 Tryd.func7 rfl rfl ⟨_, rfl, rfl, hb⟩
  · replace hS := ite_false' hS hc9
    refine ke_skip ?_
    refine ke_seq ?_
    refine ke_seq ?_
    refine ke_region ?_
    refine sr_ev (v := str a_0) (ev_move rfl) (by decide) ?_
    refine sr_ev (v := str b_1) (ev_move rfl) (by decide) ?_
    obtain ⟨y14, hy15, hS⟩ := bind_some' hS
    refine sr_call (vs := [str a_0, str b_1]) rfl Tryd.call21 rfl (scope_Implies_ok _ (hg.below hb) hy15) (by decide) ?_
    rintro _ w16 ⟨rfl, hbw17⟩
    replace hb := hb.trans (hbw17.mono hb.size)
    replace hA := lt_mono hA hbw17.size
    replace hH := hH.below hbw17
    refine sr_ev (v := .bool y14) (ev_move rfl) (by decide) ?_
    obtain ⟨z20, hz22, hS⟩ := bind_some' hS
    refine sr_join (m := 4) (C := fun (x : Bool) w1 => z20 = x ∧ Below w16.heap.size w16 w1) (l' := fun x => [(0, str a_0), (1, str b_1), (2, str c_2), (21, .bool x)]) ?_ ?_
    · rintro _ w23 ⟨rfl, hbw24⟩
      replace hb := hb.trans (hbw24.mono hb.size)
      replace hA := lt_mono hA hbw24.size
      replace hH := hH.below hbw24
      refine sr_ev (v := .bool z20) (ev_move rfl) (by decide) ?_
      obtain ⟨z31, hz33, hS⟩ := bind_some' hS
      refine sr_join (m := 5) (C := fun (x : Bool) w1 => z31 = x ∧ Below w23.heap.size w23 w1) (l' := fun x => [(0, str a_0), (1, str b_1), (27, .bool x)]) ?_ ?_
      · rintro _ w34 ⟨rfl, hbw35⟩
        replace hb := hb.trans (hbw35.mono hb.size)
        replace hA := lt_mono hA hbw35.size
        replace hH := hH.below hbw35
        refine sr_ev (v := .bool z31) (ev_move rfl) (by decide) ?_
        obtain ⟨z42, hz44, hS⟩ := bind_some' hS
        refine sr_join (m := 14) (C := fun (x : Bool) w1 => z42 = x ∧ Below w34.heap.size w34 w1) (l' := fun x => [(0, str a_0), (42, .bool x)]) ?_ ?_
        · rintro _ w45 ⟨rfl, hbw46⟩
          replace hb := hb.trans (hbw46.mono hb.size)
          replace hA := lt_mono hA hbw46.size
          replace hH := hH.below hbw46
          refine sr_end (l' := [(0, str a_0), (42, .bool z42)]) (.cons rfl (.cons rfl (.nil _))) ?_
          refine ke_cond (t := z42) rfl (fun hc69 => ?_) (fun hc69 => ?_)
          · replace hS := ite_true' hS hc69
            refine ke_seq ?_
            refine ke_region ?_
            refine sr_ev (v := .bool false) (ev_assign rfl) (by decide) ?_
            refine sr_end (l' := [(6, .bool false)]) (.cons rfl (.nil _)) ?_
            cases hS
            exact ke_ret1 Tryd.func7 rfl rfl ⟨_, rfl, rfl, hb⟩
          · replace hS := ite_false' hS hc69
            refine ke_skip ?_
            refine ke_seq ?_
            refine ke_region ?_
            refine sr_ev (v := str a_0) (ev_move rfl) (by decide) ?_
            refine sr_ev (v := str a_0) (ev_move rfl) (by decide) ?_
            obtain ⟨y70, hy71, hS⟩ := bind_some' hS
            refine sr_call (vs := [str a_0, str a_0]) rfl Tryd.call21 rfl (scope_Implies_ok _ (hg.below hb) hy71) (by decide) ?_
            rintro _ w72 ⟨rfl, hbw73⟩
            replace hb := hb.trans (hbw73.mono hb.size)
            replace hA := lt_mono hA hbw73.size
            replace hH := hH.below hbw73
            refine sr_ev (v := str a_0) (ev_move rfl) (by decide) ?_
            refine sr_lit (c := strC) (A := A0) (E := 9) (xs := [a_0]) (vs := #[(0, str a_0)]) (cs := #[str a_0]) (css := [[str a_0]]) rfl (fun _ => by kernel_rfl) rfl ⟨rfl, trivial⟩ rfl (by decide) hA (by decide) ?_
            intro v74 w76 h75 hbw77
            replace hb := hb.trans (hbw77.mono hb.size)
            replace hA := lt_mono hA hbw77.size
            replace hH := hH.below hbw77
            obtain ⟨y78, hy79, hS⟩ := bind_some' hS
            refine sr_call (vs := [v74]) rfl Tryd.call16 rfl (scope_Check_ok _ (hg.below hb) h75 hy79) (by decide) ?_
            rintro _ w80 ⟨rfl, hbw81⟩
            replace hb := hb.trans (hbw81.mono hb.size)
            replace hA := lt_mono hA hbw81.size
            replace hH := hH.below hbw81
            refine sr_ev (v := .bool (y78 == 0)) (ev_eq rfl rfl) (by decide) ?_
            refine sr_ev (v := .bool (y70 == (y78 == 0))) (ev_beq Tryd.underlying4 rfl rfl) (by decide) ?_
            refine sr_ev (v := .bool (y70 == (y78 == 0))) (ev_move rfl) (by decide) ?_
            obtain ⟨z84, hz86, hS⟩ := bind_some' hS
            refine sr_join (m := 2) (C := fun (x : Bool) w1 => z84 = x ∧ Below w80.heap.size w80 w1) (l' := fun x => [(53, .bool x)]) ?_ ?_
            · rintro _ w87 ⟨rfl, hbw88⟩
              replace hb := hb.trans (hbw88.mono hb.size)
              replace hA := lt_mono hA hbw88.size
              replace hH := hH.below hbw88
              refine sr_ev (v := .bool z84) (ev_assign rfl) (by decide) ?_
              refine sr_end (l' := [(6, .bool z84)]) (.cons rfl (.nil _)) ?_
              cases hS
              exact ke_ret1 Tryd.func7 rfl rfl ⟨_, rfl, rfl, hb⟩
            · intro K83
              clear hS
              have hj85 := Below.refl w80.heap.size w80
              rcases Bool.eq_false_or_eq_true (y70 == (y78 == 0)) with hg82 | hg82
              · have hS := ite_true' hz86 hg82
                obtain ⟨y89, hy90, hS⟩ := bind_some' hS
                refine sr_callg (b := true) (e := 51) rfl rfl hg82 (vs := []) rfl Tryd.call11 rfl (law29_awake_ok _ (hg.below hb) hy90) (by decide) ?_
                rintro _ w91 ⟨rfl, hbw92⟩
                replace hb := hb.trans (hbw92.mono hb.size)
                replace hj85 := hj85.trans (hbw92.mono hj85.size)
                replace hA := lt_mono hA hbw92.size
                replace hH := hH.below hbw92
                refine sr_ev (v := .bool y89) (ev_pick_t rfl hg82 rfl) (by decide) ?_
                exact sr_weaken (l' := [(53, .bool y89)]) (.cons rfl (.nil _)) (K83 y89 _ ⟨(Option.some.inj hS).symm, hj85⟩)
              · have hS := ite_false' hz86 hg82
                refine sr_pass (e := 51) rfl rfl (by rw [hg82]; rfl) (by decide) ?_
                refine sr_ev (v := .bool false) (ev_pick_f rfl hg82 rfl) (by decide) ?_
                exact sr_weaken (l' := [(53, .bool false)]) (.cons rfl (.nil _)) (K83 false _ ⟨(Option.some.inj hS).symm, hj85⟩)
        · intro K41
          clear hS
          have hj43 := Below.refl w34.heap.size w34
          rcases Bool.eq_false_or_eq_true z31 with hg40 | hg40
          · have hS := ite_true' hz44 hg40
            refine sr_pass (e := 28) rfl rfl (by rw [hg40]; rfl) (by decide) ?_
            refine sr_pass (e := 28) rfl rfl (by rw [hg40]; rfl) (by decide) ?_
            refine sr_pass (e := 28) rfl rfl (by rw [hg40]; rfl) (by decide) ?_
            refine sr_pass (e := 28) rfl rfl (by rw [hg40]; rfl) (by decide) ?_
            refine sr_pass_undef (e := 32) rfl rfl (by decide) ?_
            refine sr_pass_undef (e := 32) rfl rfl (by decide) ?_
            refine sr_pass_undef (e := 32) rfl rfl (by decide) ?_
            refine sr_pass (e := 28) rfl rfl (by rw [hg40]; rfl) (by decide) ?_
            refine sr_pass (e := 28) rfl rfl (by rw [hg40]; rfl) (by decide) ?_
            refine sr_pass_undef (e := 37) rfl rfl (by decide) ?_
            refine sr_pass_undef (e := 37) rfl rfl (by decide) ?_
            refine sr_pass_undef (e := 37) rfl rfl (by decide) ?_
            refine sr_pass (e := 28) rfl rfl (by rw [hg40]; rfl) (by decide) ?_
            refine sr_ev (v := .bool true) (ev_pick_t rfl hg40 rfl) (by decide) ?_
            exact sr_weaken (l' := [(0, str a_0), (42, .bool true)]) (.cons rfl (.cons rfl (.nil _))) (K41 true _ ⟨(Option.some.inj hS).symm, hj43⟩)
          · have hS := ite_false' hz44 hg40
            refine sr_evg (b := false) (e := 28) rfl rfl hg40 (v := str a_0) (ev_move rfl) (by decide) ?_
            refine sr_evg (b := false) (e := 28) rfl rfl hg40 (v := str b_1) (ev_move rfl) (by decide) ?_
            obtain ⟨y47, hy48, hS⟩ := bind_some' hS
            refine sr_callg (b := false) (e := 28) rfl rfl hg40 (vs := [str a_0, str b_1]) rfl Tryd.call21 rfl (scope_Implies_ok _ (hg.below hb) hy48) (by decide) ?_
            rintro _ w49 ⟨rfl, hbw50⟩
            replace hb := hb.trans (hbw50.mono hb.size)
            replace hj43 := hj43.trans (hbw50.mono hj43.size)
            replace hA := lt_mono hA hbw50.size
            replace hH := hH.below hbw50
            refine sr_evg (b := false) (e := 28) rfl rfl hg40 (v := .bool y47) (ev_move rfl) (by decide) ?_
            obtain ⟨z53, hz55, hS⟩ := bind_some' hS
            refine sr_join (m := 4) (C := fun (x : Bool) w1 => z53 = x ∧ Below w49.heap.size w49 w1) (l' := fun x => [(0, str a_0), (1, str b_1), (28, .bool z31), (36, .bool x)]) ?_ ?_
            · rintro _ w56 ⟨rfl, hbw57⟩
              replace hb := hb.trans (hbw57.mono hb.size)
              replace hj43 := hj43.trans (hbw57.mono hj43.size)
              replace hA := lt_mono hA hbw57.size
              replace hH := hH.below hbw57
              refine sr_evg (b := false) (e := 28) rfl rfl hg40 (v := .bool z53) (ev_move rfl) (by decide) ?_
              refine sr_join (m := 4) (C := fun (x : Bool) w1 => x = (z53 && (!(a_0 == b_1))) ∧ w56 = w1) (l' := fun x => [(0, str a_0), (28, .bool z31), (41, .bool x)]) ?_ ?_
              · rintro _ _ ⟨rfl, rfl⟩
                refine sr_ev (v := .bool (z53 && (!(a_0 == b_1)))) (ev_pick_f rfl hg40 rfl) (by decide) ?_
                exact sr_weaken (l' := [(0, str a_0), (42, .bool (z53 && (!(a_0 == b_1))))]) (.cons rfl (.cons rfl (.nil _))) (K41 (z53 && (!(a_0 == b_1))) _ ⟨(Option.some.inj hS).symm, hj43⟩)
              · intro K63
                rcases Bool.eq_false_or_eq_true z53 with hg62 | hg62
                · refine sr_evg (b := true) (e := 37) rfl rfl hg62 (v := str a_0) (ev_move rfl) (by decide) ?_
                  refine sr_evg (b := true) (e := 37) rfl rfl hg62 (v := str b_1) (ev_move rfl) (by decide) ?_
                  refine sr_evg (b := true) (e := 37) rfl rfl hg62 (v := .bool (!(a_0 == b_1))) (ev_sne rfl rfl) (by decide) ?_
                  refine sr_evg (b := false) (e := 28) rfl rfl hg40 (v := .bool (!(a_0 == b_1))) (ev_pick_t rfl hg62 rfl) (by decide) ?_
                  exact sr_weaken (l' := [(0, str a_0), (28, .bool z31), (41, .bool (!(a_0 == b_1)))]) (.cons rfl (.cons rfl (.cons rfl (.nil _)))) (K63 (!(a_0 == b_1)) _ ⟨by rw [hg62]; rfl, rfl⟩)
                · refine sr_pass (e := 37) rfl rfl (by rw [hg62]; rfl) (by decide) ?_
                  refine sr_pass (e := 37) rfl rfl (by rw [hg62]; rfl) (by decide) ?_
                  refine sr_pass (e := 37) rfl rfl (by rw [hg62]; rfl) (by decide) ?_
                  refine sr_evg (b := false) (e := 28) rfl rfl hg40 (v := .bool false) (ev_pick_f rfl hg62 rfl) (by decide) ?_
                  exact sr_weaken (l' := [(0, str a_0), (28, .bool z31), (41, .bool false)]) (.cons rfl (.cons rfl (.cons rfl (.nil _)))) (K63 false _ ⟨by rw [hg62]; rfl, rfl⟩)
            · intro K52
              clear hS
              have hj54 := Below.refl w49.heap.size w49
              rcases Bool.eq_false_or_eq_true y47 with hg51 | hg51
              · have hS := ite_true' hz55 hg51
                refine sr_evg (b := true) (e := 32) rfl rfl hg51 (v := str b_1) (ev_move rfl) (by decide) ?_
                refine sr_evg (b := true) (e := 32) rfl rfl hg51 (v := str a_0) (ev_move rfl) (by decide) ?_
                obtain ⟨y58, hy59, hS⟩ := bind_some' hS
                refine sr_callg (b := true) (e := 32) rfl rfl hg51 (vs := [str b_1, str a_0]) rfl Tryd.call21 rfl (scope_Implies_ok _ (hg.below hb) hy59) (by decide) ?_
                rintro _ w60 ⟨rfl, hbw61⟩
                replace hb := hb.trans (hbw61.mono hb.size)
                replace hj43 := hj43.trans (hbw61.mono hj43.size)
                replace hj54 := hj54.trans (hbw61.mono hj54.size)
                replace hA := lt_mono hA hbw61.size
                replace hH := hH.below hbw61
                refine sr_evg (b := false) (e := 28) rfl rfl hg40 (v := .bool y58) (ev_pick_t rfl hg51 rfl) (by decide) ?_
                exact sr_weaken (l' := [(0, str a_0), (1, str b_1), (28, .bool z31), (36, .bool y58)]) (.cons rfl (.cons rfl (.cons rfl (.cons rfl (.nil _))))) (K52 y58 _ ⟨(Option.some.inj hS).symm, hj54⟩)
              · have hS := ite_false' hz55 hg51
                refine sr_pass (e := 32) rfl rfl (by rw [hg51]; rfl) (by decide) ?_
                refine sr_pass (e := 32) rfl rfl (by rw [hg51]; rfl) (by decide) ?_
                refine sr_pass (e := 32) rfl rfl (by rw [hg51]; rfl) (by decide) ?_
                refine sr_evg (b := false) (e := 28) rfl rfl hg40 (v := .bool false) (ev_pick_f rfl hg51 rfl) (by decide) ?_
                exact sr_weaken (l' := [(0, str a_0), (1, str b_1), (28, .bool z31), (36, .bool false)]) (.cons rfl (.cons rfl (.cons rfl (.cons rfl (.nil _))))) (K52 false _ ⟨(Option.some.inj hS).symm, hj54⟩)
      · intro K30
        clear hS
        have hj32 := Below.refl w23.heap.size w23
        rcases Bool.eq_false_or_eq_true z20 with hg29 | hg29
        · have hS := ite_true' hz33 hg29
          refine sr_evg (b := true) (e := 22) rfl rfl hg29 (v := str a_0) (ev_move rfl) (by decide) ?_
          refine sr_evg (b := true) (e := 22) rfl rfl hg29 (v := str c_2) (ev_move rfl) (by decide) ?_
          obtain ⟨y36, hy37, hS⟩ := bind_some' hS
          refine sr_callg (b := true) (e := 22) rfl rfl hg29 (vs := [str a_0, str c_2]) rfl Tryd.call21 rfl (scope_Implies_ok _ (hg.below hb) hy37) (by decide) ?_
          rintro _ w38 ⟨rfl, hbw39⟩
          replace hb := hb.trans (hbw39.mono hb.size)
          replace hj32 := hj32.trans (hbw39.mono hj32.size)
          replace hA := lt_mono hA hbw39.size
          replace hH := hH.below hbw39
          refine sr_evg (b := true) (e := 22) rfl rfl hg29 (v := .bool (!y36)) (ev_not rfl) (by decide) ?_
          refine sr_ev (v := .bool (!y36)) (ev_pick_t rfl hg29 rfl) (by decide) ?_
          exact sr_weaken (l' := [(0, str a_0), (1, str b_1), (27, .bool (!y36))]) (.cons rfl (.cons rfl (.cons rfl (.nil _)))) (K30 (!y36) _ ⟨(Option.some.inj hS).symm, hj32⟩)
        · have hS := ite_false' hz33 hg29
          refine sr_pass (e := 22) rfl rfl (by rw [hg29]; rfl) (by decide) ?_
          refine sr_pass (e := 22) rfl rfl (by rw [hg29]; rfl) (by decide) ?_
          refine sr_pass (e := 22) rfl rfl (by rw [hg29]; rfl) (by decide) ?_
          refine sr_pass (e := 22) rfl rfl (by rw [hg29]; rfl) (by decide) ?_
          refine sr_ev (v := .bool false) (ev_pick_f rfl hg29 rfl) (by decide) ?_
          exact sr_weaken (l' := [(0, str a_0), (1, str b_1), (27, .bool false)]) (.cons rfl (.cons rfl (.cons rfl (.nil _)))) (K30 false _ ⟨(Option.some.inj hS).symm, hj32⟩)
    · intro K19
      clear hS
      have hj21 := Below.refl w16.heap.size w16
      rcases Bool.eq_false_or_eq_true y14 with hg18 | hg18
      · have hS := ite_true' hz22 hg18
        refine sr_evg (b := true) (e := 17) rfl rfl hg18 (v := str b_1) (ev_move rfl) (by decide) ?_
        refine sr_evg (b := true) (e := 17) rfl rfl hg18 (v := str c_2) (ev_move rfl) (by decide) ?_
        obtain ⟨y25, hy26, hS⟩ := bind_some' hS
        refine sr_callg (b := true) (e := 17) rfl rfl hg18 (vs := [str b_1, str c_2]) rfl Tryd.call21 rfl (scope_Implies_ok _ (hg.below hb) hy26) (by decide) ?_
        rintro _ w27 ⟨rfl, hbw28⟩
        replace hb := hb.trans (hbw28.mono hb.size)
        replace hj21 := hj21.trans (hbw28.mono hj21.size)
        replace hA := lt_mono hA hbw28.size
        replace hH := hH.below hbw28
        refine sr_ev (v := .bool y25) (ev_pick_t rfl hg18 rfl) (by decide) ?_
        exact sr_weaken (l' := [(0, str a_0), (1, str b_1), (2, str c_2), (21, .bool y25)]) (.cons rfl (.cons rfl (.cons rfl (.cons rfl (.nil _))))) (K19 y25 _ ⟨(Option.some.inj hS).symm, hj21⟩)
      · have hS := ite_false' hz22 hg18
        refine sr_pass (e := 17) rfl rfl (by rw [hg18]; rfl) (by decide) ?_
        refine sr_pass (e := 17) rfl rfl (by rw [hg18]; rfl) (by decide) ?_
        refine sr_pass (e := 17) rfl rfl (by rw [hg18]; rfl) (by decide) ?_
        refine sr_ev (v := .bool false) (ev_pick_f rfl hg18 rfl) (by decide) ?_
        exact sr_weaken (l' := [(0, str a_0), (1, str b_1), (2, str c_2), (21, .bool false)]) (.cons rfl (.cons rfl (.cons rfl (.cons rfl (.nil _))))) (K19 false _ ⟨(Option.some.inj hS).symm, hj21⟩)
theorem law29_covered_ok {A0 : Nat → Prop} (w0 : World) (hg : Gs w0) {l_0 : List Str} {s_1 : Str} {v1 : Value} {r : Bool} (h2 : SlR strC A0 w0 v1 l_0) (hS : law29_covered l_0 s_1 = some r) :
    Calls Tryd.prog 29 #[v1, str s_1] w0 (Ret (fun v w' => v = .bool r ∧ Below w0.heap.size w0 w')) := by
  unfold law29_covered at hS
  have hb := Below.refl w0.heap.size w0
  replace h2 := h2.weak (A' := fun _ => False) (fun _ h => h.elim)
  obtain ⟨A0, hA0, hAe⟩ : ∃ A0 : Nat → Prop, (∀ b, A0 b → b < w0.heap.size) ∧ A0 = fun _ => False := ⟨_, fun _ h => h.elim, rfl⟩
  rw [← hAe] at h2
  clear hAe
  have hA := hA0
  have hi : ∀ b, A0 b → A0 b := fun _ h => h
  have hH := Hp.nil A0 w0.heap.size w0
  refine calls_of_ke Tryd.func29 rfl (n := 9) rfl rfl (l := [(0, v1), (1, str s_1)]) rfl ?_
  refine ke_seq ?_
  refine ke_region ?_
  refine sr_ev (v := .bool false) (ev_assign rfl) (by decide) ?_
  refine sr_end (l' := [(0, v1), (1, str s_1)]) (.cons rfl (.cons rfl (.nil _))) ?_
  refine ke_seq ?_
  refine ke_region ?_
  refine sr_ev (v := str s_1) (ev_move rfl) (by decide) ?_
  refine sr_lit (c := strC) (A := A0) (E := 9) (xs := [s_1]) (vs := #[(0, str s_1)]) (cs := #[str s_1]) (css := [[str s_1]]) rfl (fun _ => by kernel_rfl) rfl ⟨rfl, trivial⟩ rfl (by decide) hA (by decide) ?_
  intro v3 w5 h4 hbw6
  replace hb := hb.trans (hbw6.mono hb.size)
  replace hA := lt_mono hA hbw6.size
  replace hH := hH.below hbw6
  replace h2 := h2.below hbw6
  refine sr_ev (v := v1) (ev_move rfl) (by decide) ?_
  obtain ⟨y7, hy8, hS⟩ := bind_some' hS
  refine sr_call (vs := [v3, v1]) rfl Tryd.call23 rfl (scope_Within_ok _ (hg.below hb) h4 h2 hy8) (by decide) ?_
  rintro _ w9 ⟨rfl, hbw10⟩
  replace hb := hb.trans (hbw10.mono hb.size)
  replace hA := lt_mono hA hbw10.size
  replace hH := hH.below hbw10
  refine sr_ev (v := .bool y7) (ev_assign rfl) (by decide) ?_
  refine sr_end (l' := [(4, .bool y7)]) (.cons rfl (.nil _)) ?_
  cases hS
  exact ke_ret1 Tryd.func29 rfl rfl ⟨_, rfl, rfl, hb⟩
theorem law29_ScopeCovered_L1_ok {w0 : World} (hg : Gs w0) {A0 : Nat → Prop} (hA0 : ∀ b, A0 b → b < w0.heap.size) : ∀ (n : Nat), ∀ {r : Bool} {a_0 : List Str} {b_1 : List Str} {s_2 : Str} {n_7 : List Str} {c_8 : List Str} {i_9 : Int} {va_0 : Value} {vb_1 : Value} {vn_7 : Value} {vc_8 : Value}, law29_ScopeCovered_L1 n a_0 b_1 s_2 n_7 c_8 i_9 = some r → ∀ {w : World} {A : Nat → Prop}, (Below w0.heap.size w0 w) → (∀ b, A b → b < w.heap.size) → (∀ b, A0 b → A b) → (Hp A w0.heap.size w []) → (SlR strC A w va_0 a_0) → (SlR strC A w vb_1 b_1) → (SlR strC A w vn_7 n_7) → (SlR strC A w vc_8 c_8) → KE Tryd.prog 8 (Ret (fun v w' => v = .bool r ∧ Below w0.heap.size w0 w')) 92 [.code (sub (bodyOf Tryd.f8) [2, 2, 2, 1, 2, 2, 1]), .inLoop (sub (bodyOf Tryd.f8) [2, 2, 2, 1, 2, 2, 1]), .inBlock 0, .code (sub (bodyOf Tryd.f8) [2, 2, 2, 2])] [(0, va_0), (1, vb_1), (2, str s_2), (7, vn_7), (8, vc_8), (9, .int .i64 i_9)] w := by
  intro n
  induction n with
  | zero => intro r a_0 b_1 s_2 n_7 c_8 i_9 va_0 vb_1 vn_7 vc_8 hS; cases hS
  | succ n ih =>
    have hr0 : ∀ {r : Bool} {a_0 : List Str} {b_1 : List Str} {s_2 : Str} {n_7 : List Str} {c_8 : List Str} {i_9 : Int} {va_0 : Value} {vb_1 : Value} {vn_7 : Value} {vc_8 : Value}, law29_ScopeCovered_L1 n a_0 b_1 s_2 n_7 c_8 i_9 = some r → ∀ {w : World} {A : Nat → Prop}, (Below w0.heap.size w0 w) → (∀ b, A b → b < w.heap.size) → (∀ b, A0 b → A b) → (Hp A w0.heap.size w []) → (SlR strC A w va_0 a_0) → (SlR strC A w vb_1 b_1) → (SlR strC A w vn_7 n_7) → (SlR strC A w vc_8 c_8) → KE Tryd.prog 8 (Ret (fun v w' => v = .bool r ∧ Below w0.heap.size w0 w')) 92 [.inLoop (sub (bodyOf Tryd.f8) [2, 2, 2, 1, 2, 2, 1]), .inBlock 0, .code (sub (bodyOf Tryd.f8) [2, 2, 2, 2])] [(0, va_0), (1, vb_1), (2, str s_2), (7, vn_7), (8, vc_8), (9, .int .i64 i_9)] w := fun {r} {a_0} {b_1} {s_2} {n_7} {c_8} {i_9} {va_0} {vb_1} {vn_7} {vc_8} hS {w} {A} hb hA hi hH ha_0 hb_1 hn_7 hc_8 => ke_inLoop (ih hS hb hA hi hH ha_0 hb_1 hn_7 hc_8)
    clear ih
    intro r a_0 b_1 s_2 n_7 c_8 i_9 va_0 vb_1 vn_7 vc_8 hS w A hb hA hi hH ha_0 hb_1 hn_7 hc_8
    unfold law29_ScopeCovered_L1 at hS
    refine ke_seq ?_
    refine ke_seq ?_
    refine ke_region ?_
    refine sr_ev (v := .int .i64 i_9) (ev_move rfl) (by decide) ?_
    refine sr_ev (v := vn_7) (ev_move rfl) (by decide) ?_
    refine sr_ev (v := .int .i64 (n_7.length : Int)) (ev_sllen Tryd.underlying22 rfl hn_7) (by decide) ?_
    refine sr_ev (v := .bool (decide (i_9 < (n_7.length : Int)))) (ev_lt rfl rfl) (by decide) ?_
    refine sr_end (l' := [(0, va_0), (1, vb_1), (2, str s_2), (7, vn_7), (8, vc_8), (9, .int .i64 i_9), (32, .bool (decide (i_9 < (n_7.length : Int))))]) (.cons rfl (.cons rfl (.cons rfl (.cons rfl (.cons rfl (.cons rfl (.cons rfl (.nil _)))))))) ?_
    refine ke_cond (t := decide (i_9 < (n_7.length : Int))) rfl (fun hc44 => ?_) (fun hc44 => ?_)
    · replace hS := ite_true' hS hc44
      refine ke_skip ?_
      refine ke_seq ?_
      refine ke_block ?_
      refine ke_seq ?_
      refine ke_region_q Tryd.mixed (by kernel_rfl) ?_
      refine sq_ev (v := vn_7) (fun w1 hw1 => ev_move rfl) (by decide) ?_
      refine sq_ev (v := .int .i64 i_9) (fun w1 hw1 => ev_move rfl) (by decide) ?_
      refine sq_ev (v := .int .i64 (IntKind.i64.wrap (i_9 - 1))) (fun w1 hw1 => ev_sub rfl rfl) (by decide) ?_
      obtain ⟨y47, hy48, hS⟩ := bind_some' hS
      obtain ⟨b49, o50, cs52, he51, hixhe51⟩ := hn_7.elem Tryd.underlying22 Tryd.info9 rfl (P := Tryd.prog) hy48
      obtain rfl : cs52 = [str y47] := he51.rd
      refine sq_ev (v := .pointer (some ⟨b49, o50, none⟩)) (fun w1 hw1 => hixhe51 w1 hw1 rfl rfl) (by decide) ?_
      refine sq_ev (v := str y47) (fun w1 hw1 => ev_load Tryd.isAgg9 rfl ((he51.step (.of_below hw1) (Nat.succ_pos _)).cell 0 _ rfl)) (by decide) ?_
      refine sq_ev (v := vn_7) (fun w1 hw1 => ev_move rfl) (by decide) ?_
      refine sq_ev (v := .int .i64 i_9) (fun w1 hw1 => ev_move rfl) (by decide) ?_
      obtain ⟨y53, hy54, hS⟩ := bind_some' hS
      obtain ⟨b55, o56, cs58, he57, hixhe57⟩ := hn_7.elem Tryd.underlying22 Tryd.info9 rfl (P := Tryd.prog) hy54
      obtain rfl : cs58 = [str y53] := he57.rd
      refine sq_ev (v := .pointer (some ⟨b55, o56, none⟩)) (fun w1 hw1 => hixhe57 w1 hw1 rfl rfl) (by decide) ?_
      refine sq_ev (v := str y53) (fun w1 hw1 => ev_load Tryd.isAgg9 rfl ((he57.step (.of_below hw1) (Nat.succ_pos _)).cell 0 _ rfl)) (by decide) ?_
      refine sq_ev (v := .bool (!sLt y47 y53)) (fun w1 hw1 => ev_sge rfl rfl) (by decide) ?_
      refine sq_end (l' := [(0, va_0), (1, vb_1), (2, str s_2), (7, vn_7), (8, vc_8), (9, .int .i64 i_9), (44, .bool (!sLt y47 y53))]) (.cons rfl (.cons rfl (.cons rfl (.cons rfl (.cons rfl (.cons rfl (.cons rfl (.nil _)))))))) (fun w46 hw45 => ?_)
      replace hb := hb.trans (hw45.mono hb.size)
      replace hA := lt_mono hA hw45.size
      replace hH := hH.below hw45
      replace ha_0 := ha_0.below hw45
      replace hb_1 := hb_1.below hw45
      replace hn_7 := hn_7.below hw45
      replace hc_8 := hc_8.below hw45
      refine ke_cond (t := !sLt y47 y53) rfl (fun hc59 => ?_) (fun hc59 => ?_)
      · replace hS := ite_true' hS hc59
        refine ke_seq ?_
        refine ke_region ?_
        refine sr_ev (v := .bool false) (ev_assign rfl) (by decide) ?_
        refine sr_end (l' := [(6, .bool false)]) (.cons rfl (.nil _)) ?_
        cases hS
        exact ke_ret1 Tryd.func8 rfl rfl ⟨_, rfl, rfl, hb⟩
      · replace hS := ite_false' hS hc59
        refine ke_skip ?_
        refine ke_inBlock ?_
        refine ke_region ?_
        refine sr_ev (v := .int .i64 i_9) (ev_move rfl) (by decide) ?_
        refine sr_ev (v := .int .i64 (IntKind.i64.wrap (i_9 + 1))) (ev_add rfl rfl) (by decide) ?_
        refine sr_ev (v := .int .i64 (IntKind.i64.wrap (i_9 + 1))) (ev_assign rfl) (by decide) ?_
        refine sr_end (l' := [(0, va_0), (1, vb_1), (2, str s_2), (7, vn_7), (8, vc_8), (9, .int .i64 (IntKind.i64.wrap (i_9 + 1)))]) (.cons rfl (.cons rfl (.cons rfl (.cons rfl (.cons rfl (.cons rfl (.nil _))))))) ?_
        have hK := hr0 hS hb hA hi hH ha_0 hb_1 hn_7 hc_8
        exact ke_weaken (l' := [(0, va_0), (1, vb_1), (2, str s_2), (7, vn_7), (8, vc_8), (9, .int .i64 (IntKind.i64.wrap (i_9 + 1)))]) (.cons rfl (.cons rfl (.cons rfl (.cons rfl (.cons rfl (.cons rfl (.nil _))))))) hK
    · replace hS := ite_false' hS hc44
      refine ke_exit (k' := _) rfl ?_
      refine ke_seq ?_
      refine ke_region ?_
      refine sr_ev (v := vn_7) (ev_move rfl) (by decide) ?_
      refine sr_ev (v := str s_2) (ev_move rfl) (by decide) ?_
      obtain ⟨y60, hy61, hS⟩ := bind_some' hS
      refine sr_call (vs := [vn_7, str s_2]) rfl Tryd.call29 rfl (law29_covered_ok _ (hg.below hb) hn_7 hy61) (by decide) ?_
      rintro _ w62 ⟨rfl, hbw63⟩
      replace hb := hb.trans (hbw63.mono hb.size)
      replace hA := lt_mono hA hbw63.size
      replace hH := hH.below hbw63
      replace ha_0 := ha_0.below hbw63
      replace hb_1 := hb_1.below hbw63
      replace hn_7 := hn_7.below hbw63
      replace hc_8 := hc_8.below hbw63
      refine sr_ev (v := va_0) (ev_move rfl) (by decide) ?_
      refine sr_ev (v := str s_2) (ev_move rfl) (by decide) ?_
      obtain ⟨y64, hy65, hS⟩ := bind_some' hS
      refine sr_call (vs := [va_0, str s_2]) rfl Tryd.call29 rfl (law29_covered_ok _ (hg.below hb) ha_0 hy65) (by decide) ?_
      rintro _ w66 ⟨rfl, hbw67⟩
      replace hb := hb.trans (hbw67.mono hb.size)
      replace hA := lt_mono hA hbw67.size
      replace hH := hH.below hbw67
      replace ha_0 := ha_0.below hbw67
      replace hb_1 := hb_1.below hbw67
      replace hn_7 := hn_7.below hbw67
      replace hc_8 := hc_8.below hbw67
      refine sr_ev (v := .bool (y60 == y64)) (ev_beq Tryd.underlying4 rfl rfl) (by decide) ?_
      refine sr_ev (v := .bool (y60 == y64)) (ev_move rfl) (by decide) ?_
      obtain ⟨z70, hz72, hS⟩ := bind_some' hS
      refine sr_join (m := 5) (C := fun (x : Bool) w1 => z70 = x ∧ Below w66.heap.size w66 w1) (l' := fun x => [(0, va_0), (1, vb_1), (2, str s_2), (8, vc_8), (57, .bool x)]) ?_ ?_
      · rintro _ w73 ⟨rfl, hbw74⟩
        replace hb := hb.trans (hbw74.mono hb.size)
        replace hA := lt_mono hA hbw74.size
        replace hH := hH.below hbw74
        replace ha_0 := ha_0.below hbw74
        replace hb_1 := hb_1.below hbw74
        replace hc_8 := hc_8.below hbw74
        refine sr_ev (v := .bool z70) (ev_move rfl) (by decide) ?_
        obtain ⟨z87, hz89, hS⟩ := bind_some' hS
        refine sr_join (m := 13) (C := fun (x : Bool) w1 => z87 = x ∧ Below w73.heap.size w73 w1) (l' := fun x => [(0, va_0), (1, vb_1), (8, vc_8), (71, .bool x)]) ?_ ?_
        · rintro _ w90 ⟨rfl, hbw91⟩
          replace hb := hb.trans (hbw91.mono hb.size)
          replace hA := lt_mono hA hbw91.size
          replace hH := hH.below hbw91
          replace ha_0 := ha_0.below hbw91
          replace hb_1 := hb_1.below hbw91
          replace hc_8 := hc_8.below hbw91
          refine sr_ev (v := .bool z87) (ev_move rfl) (by decide) ?_
          obtain ⟨z113, hz115, hS⟩ := bind_some' hS
          refine sr_join (m := 6) (C := fun (x : Bool) w1 => z113 = x ∧ Below w90.heap.size w90 w1) (l' := fun x => [(0, va_0), (1, vb_1), (8, vc_8), (78, .bool x)]) ?_ ?_
          · rintro _ w116 ⟨rfl, hbw117⟩
            replace hb := hb.trans (hbw117.mono hb.size)
            replace hA := lt_mono hA hbw117.size
            replace hH := hH.below hbw117
            replace ha_0 := ha_0.below hbw117
            replace hb_1 := hb_1.below hbw117
            replace hc_8 := hc_8.below hbw117
            refine sr_ev (v := .bool z113) (ev_move rfl) (by decide) ?_
            obtain ⟨z130, hz132, hS⟩ := bind_some' hS
            refine sr_join (m := 4) (C := fun (x : Bool) w1 => z130 = x ∧ Below w116.heap.size w116 w1) (l' := fun x => [(1, vb_1), (8, vc_8), (83, .bool x)]) ?_ ?_
            · rintro _ w133 ⟨rfl, hbw134⟩
              replace hb := hb.trans (hbw134.mono hb.size)
              replace hA := lt_mono hA hbw134.size
              replace hH := hH.below hbw134
              replace hb_1 := hb_1.below hbw134
              replace hc_8 := hc_8.below hbw134
              refine sr_ev (v := .bool z130) (ev_move rfl) (by decide) ?_
              obtain ⟨z141, hz143, hS⟩ := bind_some' hS
              refine sr_join (m := 4) (C := fun (x : Bool) w1 => z141 = x ∧ Below w133.heap.size w133 w1) (l' := fun x => [(88, .bool x)]) ?_ ?_
              · rintro _ w144 ⟨rfl, hbw145⟩
                replace hb := hb.trans (hbw145.mono hb.size)
                replace hA := lt_mono hA hbw145.size
                replace hH := hH.below hbw145
                refine sr_ev (v := .bool z141) (ev_move rfl) (by decide) ?_
                obtain ⟨z152, hz154, hS⟩ := bind_some' hS
                refine sr_join (m := 2) (C := fun (x : Bool) w1 => z152 = x ∧ Below w144.heap.size w144 w1) (l' := fun x => [(91, .bool x)]) ?_ ?_
                · rintro _ w155 ⟨rfl, hbw156⟩
                  replace hb := hb.trans (hbw156.mono hb.size)
                  replace hA := lt_mono hA hbw156.size
                  replace hH := hH.below hbw156
                  refine sr_ev (v := .bool z152) (ev_assign rfl) (by decide) ?_
                  refine sr_end (l' := [(6, .bool z152)]) (.cons rfl (.nil _)) ?_
                  cases hS
                  exact ke_ret1 Tryd.func8 rfl rfl ⟨_, rfl, rfl, hb⟩
                · intro K151
                  clear hS
                  have hj153 := Below.refl w144.heap.size w144
                  rcases Bool.eq_false_or_eq_true z141 with hg150 | hg150
                  · have hS := ite_true' hz154 hg150
                    obtain ⟨y157, hy158, hS⟩ := bind_some' hS
                    refine sr_callg (b := true) (e := 89) rfl rfl hg150 (vs := []) rfl Tryd.call11 rfl (law29_awake_ok _ (hg.below hb) hy158) (by decide) ?_
                    rintro _ w159 ⟨rfl, hbw160⟩
                    replace hb := hb.trans (hbw160.mono hb.size)
                    replace hj153 := hj153.trans (hbw160.mono hj153.size)
                    replace hA := lt_mono hA hbw160.size
                    replace hH := hH.below hbw160
                    refine sr_ev (v := .bool y157) (ev_pick_t rfl hg150 rfl) (by decide) ?_
                    exact sr_weaken (l' := [(91, .bool y157)]) (.cons rfl (.nil _)) (K151 y157 _ ⟨(Option.some.inj hS).symm, hj153⟩)
                  · have hS := ite_false' hz154 hg150
                    refine sr_pass (e := 89) rfl rfl (by rw [hg150]; rfl) (by decide) ?_
                    refine sr_ev (v := .bool false) (ev_pick_f rfl hg150 rfl) (by decide) ?_
                    exact sr_weaken (l' := [(91, .bool false)]) (.cons rfl (.nil _)) (K151 false _ ⟨(Option.some.inj hS).symm, hj153⟩)
              · intro K140
                clear hS
                have hj142 := Below.refl w133.heap.size w133
                rcases Bool.eq_false_or_eq_true z130 with hg139 | hg139
                · have hS := ite_true' hz143 hg139
                  refine sr_evg (b := true) (e := 84) rfl rfl hg139 (v := vc_8) (ev_move rfl) (by decide) ?_
                  refine sr_evg (b := true) (e := 84) rfl rfl hg139 (v := vb_1) (ev_move rfl) (by decide) ?_
                  obtain ⟨y146, hy147, hS⟩ := bind_some' hS
                  refine sr_callg (b := true) (e := 84) rfl rfl hg139 (vs := [vc_8, vb_1]) rfl Tryd.call23 rfl (scope_Within_ok _ (hg.below hb) hc_8 hb_1 hy147) (by decide) ?_
                  rintro _ w148 ⟨rfl, hbw149⟩
                  replace hb := hb.trans (hbw149.mono hb.size)
                  replace hj142 := hj142.trans (hbw149.mono hj142.size)
                  replace hA := lt_mono hA hbw149.size
                  replace hH := hH.below hbw149
                  refine sr_ev (v := .bool y146) (ev_pick_t rfl hg139 rfl) (by decide) ?_
                  exact sr_weaken (l' := [(88, .bool y146)]) (.cons rfl (.nil _)) (K140 y146 _ ⟨(Option.some.inj hS).symm, hj142⟩)
                · have hS := ite_false' hz143 hg139
                  refine sr_pass (e := 84) rfl rfl (by rw [hg139]; rfl) (by decide) ?_
                  refine sr_pass (e := 84) rfl rfl (by rw [hg139]; rfl) (by decide) ?_
                  refine sr_pass (e := 84) rfl rfl (by rw [hg139]; rfl) (by decide) ?_
                  refine sr_ev (v := .bool false) (ev_pick_f rfl hg139 rfl) (by decide) ?_
                  exact sr_weaken (l' := [(88, .bool false)]) (.cons rfl (.nil _)) (K140 false _ ⟨(Option.some.inj hS).symm, hj142⟩)
            · intro K129
              clear hS
              have hj131 := Below.refl w116.heap.size w116
              rcases Bool.eq_false_or_eq_true z113 with hg128 | hg128
              · have hS := ite_true' hz132 hg128
                refine sr_evg (b := true) (e := 79) rfl rfl hg128 (v := vc_8) (ev_move rfl) (by decide) ?_
                refine sr_evg (b := true) (e := 79) rfl rfl hg128 (v := va_0) (ev_move rfl) (by decide) ?_
                obtain ⟨y135, hy136, hS⟩ := bind_some' hS
                refine sr_callg (b := true) (e := 79) rfl rfl hg128 (vs := [vc_8, va_0]) rfl Tryd.call23 rfl (scope_Within_ok _ (hg.below hb) hc_8 ha_0 hy136) (by decide) ?_
                rintro _ w137 ⟨rfl, hbw138⟩
                replace hb := hb.trans (hbw138.mono hb.size)
                replace hj131 := hj131.trans (hbw138.mono hj131.size)
                replace hA := lt_mono hA hbw138.size
                replace hH := hH.below hbw138
                replace hb_1 := hb_1.below hbw138
                replace hc_8 := hc_8.below hbw138
                refine sr_ev (v := .bool y135) (ev_pick_t rfl hg128 rfl) (by decide) ?_
                exact sr_weaken (l' := [(1, vb_1), (8, vc_8), (83, .bool y135)]) (.cons rfl (.cons rfl (.cons rfl (.nil _)))) (K129 y135 _ ⟨(Option.some.inj hS).symm, hj131⟩)
              · have hS := ite_false' hz132 hg128
                refine sr_pass (e := 79) rfl rfl (by rw [hg128]; rfl) (by decide) ?_
                refine sr_pass (e := 79) rfl rfl (by rw [hg128]; rfl) (by decide) ?_
                refine sr_pass (e := 79) rfl rfl (by rw [hg128]; rfl) (by decide) ?_
                refine sr_ev (v := .bool false) (ev_pick_f rfl hg128 rfl) (by decide) ?_
                exact sr_weaken (l' := [(1, vb_1), (8, vc_8), (83, .bool false)]) (.cons rfl (.cons rfl (.cons rfl (.nil _)))) (K129 false _ ⟨(Option.some.inj hS).symm, hj131⟩)
          · intro K112
            clear hS
            have hj114 := Below.refl w90.heap.size w90
            rcases Bool.eq_false_or_eq_true z87 with hg111 | hg111
            · have hS := ite_true' hz115 hg111
              refine sr_evg (b := true) (e := 72) rfl rfl hg111 (v := vc_8) (ev_move rfl) (by decide) ?_
              refine sr_evg (b := true) (e := 72) rfl rfl hg111 (v := vb_1) (ev_move rfl) (by decide) ?_
              refine sr_evg (b := true) (e := 72) rfl rfl hg111 (v := va_0) (ev_move rfl) (by decide) ?_
              obtain ⟨y118, hy119, hS⟩ := bind_some' hS
              refine sr_callg (b := true) (e := 72) rfl rfl hg111 (vs := [vb_1, va_0]) rfl Tryd.call25 rfl (scope_Common_ok _ (hg.below hb) hb_1 ha_0 hA hy119) (by decide) ?_
              rintro v122 w120 ⟨_, rfl, h123, hbw121⟩
              replace hb := hb.trans (hbw121.mono hb.size)
              replace hj114 := hj114.trans (hbw121.mono hj114.size)
              replace hA := lt_mono hA hbw121.size
              replace hH := hH.below hbw121
              replace ha_0 := ha_0.below hbw121
              replace hb_1 := hb_1.below hbw121
              replace hc_8 := hc_8.below hbw121
              obtain ⟨y124, hy125, hS⟩ := bind_some' hS
              refine sr_callg (b := true) (e := 72) rfl rfl hg111 (vs := [vc_8, v122]) rfl Tryd.call18 rfl (ref03_Same_ok _ (hg.below hb) hc_8 h123 hy125) (by decide) ?_
              rintro _ w126 ⟨rfl, hbw127⟩
              replace hb := hb.trans (hbw127.mono hb.size)
              replace hj114 := hj114.trans (hbw127.mono hj114.size)
              replace hA := lt_mono hA hbw127.size
              replace hH := hH.below hbw127
              replace ha_0 := ha_0.below hbw127
              replace hb_1 := hb_1.below hbw127
              replace hc_8 := hc_8.below hbw127
              refine sr_ev (v := .bool y124) (ev_pick_t rfl hg111 rfl) (by decide) ?_
              exact sr_weaken (l' := [(0, va_0), (1, vb_1), (8, vc_8), (78, .bool y124)]) (.cons rfl (.cons rfl (.cons rfl (.cons rfl (.nil _))))) (K112 y124 _ ⟨(Option.some.inj hS).symm, hj114⟩)
            · have hS := ite_false' hz115 hg111
              refine sr_pass (e := 72) rfl rfl (by rw [hg111]; rfl) (by decide) ?_
              refine sr_pass (e := 72) rfl rfl (by rw [hg111]; rfl) (by decide) ?_
              refine sr_pass (e := 72) rfl rfl (by rw [hg111]; rfl) (by decide) ?_
              refine sr_pass (e := 72) rfl rfl (by rw [hg111]; rfl) (by decide) ?_
              refine sr_pass (e := 72) rfl rfl (by rw [hg111]; rfl) (by decide) ?_
              refine sr_ev (v := .bool false) (ev_pick_f rfl hg111 rfl) (by decide) ?_
              exact sr_weaken (l' := [(0, va_0), (1, vb_1), (8, vc_8), (78, .bool false)]) (.cons rfl (.cons rfl (.cons rfl (.cons rfl (.nil _))))) (K112 false _ ⟨(Option.some.inj hS).symm, hj114⟩)
        · intro K86
          clear hS
          have hj88 := Below.refl w73.heap.size w73
          rcases Bool.eq_false_or_eq_true z70 with hg85 | hg85
          · have hS := ite_true' hz89 hg85
            refine sr_evg (b := true) (e := 58) rfl rfl hg85 (v := vc_8) (ev_move rfl) (by decide) ?_
            refine sr_evg (b := true) (e := 58) rfl rfl hg85 (v := str s_2) (ev_move rfl) (by decide) ?_
            obtain ⟨y92, hy93, hS⟩ := bind_some' hS
            refine sr_callg (b := true) (e := 58) rfl rfl hg85 (vs := [vc_8, str s_2]) rfl Tryd.call29 rfl (law29_covered_ok _ (hg.below hb) hc_8 hy93) (by decide) ?_
            rintro _ w94 ⟨rfl, hbw95⟩
            replace hb := hb.trans (hbw95.mono hb.size)
            replace hj88 := hj88.trans (hbw95.mono hj88.size)
            replace hA := lt_mono hA hbw95.size
            replace hH := hH.below hbw95
            replace ha_0 := ha_0.below hbw95
            replace hb_1 := hb_1.below hbw95
            replace hc_8 := hc_8.below hbw95
            refine sr_evg (b := true) (e := 58) rfl rfl hg85 (v := va_0) (ev_move rfl) (by decide) ?_
            refine sr_evg (b := true) (e := 58) rfl rfl hg85 (v := str s_2) (ev_move rfl) (by decide) ?_
            obtain ⟨y96, hy97, hS⟩ := bind_some' hS
            refine sr_callg (b := true) (e := 58) rfl rfl hg85 (vs := [va_0, str s_2]) rfl Tryd.call29 rfl (law29_covered_ok _ (hg.below hb) ha_0 hy97) (by decide) ?_
            rintro _ w98 ⟨rfl, hbw99⟩
            replace hb := hb.trans (hbw99.mono hb.size)
            replace hj88 := hj88.trans (hbw99.mono hj88.size)
            replace hA := lt_mono hA hbw99.size
            replace hH := hH.below hbw99
            replace ha_0 := ha_0.below hbw99
            replace hb_1 := hb_1.below hbw99
            replace hc_8 := hc_8.below hbw99
            refine sr_evg (b := true) (e := 58) rfl rfl hg85 (v := .bool y96) (ev_move rfl) (by decide) ?_
            obtain ⟨z102, hz104, hS⟩ := bind_some' hS
            refine sr_join (m := 4) (C := fun (x : Bool) w1 => z102 = x ∧ Below w98.heap.size w98 w1) (l' := fun x => [(0, va_0), (1, vb_1), (8, vc_8), (58, .bool z70), (61, .bool y92), (69, .bool x)]) ?_ ?_
            · rintro _ w105 ⟨rfl, hbw106⟩
              replace hb := hb.trans (hbw106.mono hb.size)
              replace hj88 := hj88.trans (hbw106.mono hj88.size)
              replace hA := lt_mono hA hbw106.size
              replace hH := hH.below hbw106
              replace ha_0 := ha_0.below hbw106
              replace hb_1 := hb_1.below hbw106
              replace hc_8 := hc_8.below hbw106
              refine sr_evg (b := true) (e := 58) rfl rfl hg85 (v := .bool (y92 == z102)) (ev_beq Tryd.underlying4 rfl rfl) (by decide) ?_
              refine sr_ev (v := .bool (y92 == z102)) (ev_pick_t rfl hg85 rfl) (by decide) ?_
              exact sr_weaken (l' := [(0, va_0), (1, vb_1), (8, vc_8), (71, .bool (y92 == z102))]) (.cons rfl (.cons rfl (.cons rfl (.cons rfl (.nil _))))) (K86 (y92 == z102) _ ⟨(Option.some.inj hS).symm, hj88⟩)
            · intro K101
              clear hS
              have hj103 := Below.refl w98.heap.size w98
              rcases Bool.eq_false_or_eq_true y96 with hg100 | hg100
              · have hS := ite_true' hz104 hg100
                refine sr_evg (b := true) (e := 65) rfl rfl hg100 (v := vb_1) (ev_move rfl) (by decide) ?_
                refine sr_evg (b := true) (e := 65) rfl rfl hg100 (v := str s_2) (ev_move rfl) (by decide) ?_
                obtain ⟨y107, hy108, hS⟩ := bind_some' hS
                refine sr_callg (b := true) (e := 65) rfl rfl hg100 (vs := [vb_1, str s_2]) rfl Tryd.call29 rfl (law29_covered_ok _ (hg.below hb) hb_1 hy108) (by decide) ?_
                rintro _ w109 ⟨rfl, hbw110⟩
                replace hb := hb.trans (hbw110.mono hb.size)
                replace hj88 := hj88.trans (hbw110.mono hj88.size)
                replace hj103 := hj103.trans (hbw110.mono hj103.size)
                replace hA := lt_mono hA hbw110.size
                replace hH := hH.below hbw110
                replace ha_0 := ha_0.below hbw110
                replace hb_1 := hb_1.below hbw110
                replace hc_8 := hc_8.below hbw110
                refine sr_evg (b := true) (e := 58) rfl rfl hg85 (v := .bool y107) (ev_pick_t rfl hg100 rfl) (by decide) ?_
                exact sr_weaken (l' := [(0, va_0), (1, vb_1), (8, vc_8), (58, .bool z70), (61, .bool y92), (69, .bool y107)]) (.cons rfl (.cons rfl (.cons rfl (.cons rfl (.cons rfl (.cons rfl (.nil _))))))) (K101 y107 _ ⟨(Option.some.inj hS).symm, hj103⟩)
              · have hS := ite_false' hz104 hg100
                refine sr_pass (e := 65) rfl rfl (by rw [hg100]; rfl) (by decide) ?_
                refine sr_pass (e := 65) rfl rfl (by rw [hg100]; rfl) (by decide) ?_
                refine sr_pass (e := 65) rfl rfl (by rw [hg100]; rfl) (by decide) ?_
                refine sr_evg (b := true) (e := 58) rfl rfl hg85 (v := .bool false) (ev_pick_f rfl hg100 rfl) (by decide) ?_
                exact sr_weaken (l' := [(0, va_0), (1, vb_1), (8, vc_8), (58, .bool z70), (61, .bool y92), (69, .bool false)]) (.cons rfl (.cons rfl (.cons rfl (.cons rfl (.cons rfl (.cons rfl (.nil _))))))) (K101 false _ ⟨(Option.some.inj hS).symm, hj103⟩)
          · have hS := ite_false' hz89 hg85
            refine sr_pass (e := 58) rfl rfl (by rw [hg85]; rfl) (by decide) ?_
            refine sr_pass (e := 58) rfl rfl (by rw [hg85]; rfl) (by decide) ?_
            refine sr_pass (e := 58) rfl rfl (by rw [hg85]; rfl) (by decide) ?_
            refine sr_pass (e := 58) rfl rfl (by rw [hg85]; rfl) (by decide) ?_
            refine sr_pass (e := 58) rfl rfl (by rw [hg85]; rfl) (by decide) ?_
            refine sr_pass (e := 58) rfl rfl (by rw [hg85]; rfl) (by decide) ?_
            refine sr_pass (e := 58) rfl rfl (by rw [hg85]; rfl) (by decide) ?_
            refine sr_pass_undef (e := 65) rfl rfl (by decide) ?_
            refine sr_pass_undef (e := 65) rfl rfl (by decide) ?_
            refine sr_pass_undef (e := 65) rfl rfl (by decide) ?_
            refine sr_pass (e := 58) rfl rfl (by rw [hg85]; rfl) (by decide) ?_
            refine sr_pass (e := 58) rfl rfl (by rw [hg85]; rfl) (by decide) ?_
            refine sr_ev (v := .bool false) (ev_pick_f rfl hg85 rfl) (by decide) ?_
            exact sr_weaken (l' := [(0, va_0), (1, vb_1), (8, vc_8), (71, .bool false)]) (.cons rfl (.cons rfl (.cons rfl (.cons rfl (.nil _))))) (K86 false _ ⟨(Option.some.inj hS).symm, hj88⟩)
      · intro K69
        clear hS
        have hj71 := Below.refl w66.heap.size w66
        rcases Bool.eq_false_or_eq_true (y60 == y64) with hg68 | hg68
        · have hS := ite_true' hz72 hg68
          refine sr_evg (b := true) (e := 52) rfl rfl hg68 (v := vn_7) (ev_move rfl) (by decide) ?_
          obtain ⟨y75, hy76, hS⟩ := bind_some' hS
          refine sr_callg (b := true) (e := 52) rfl rfl hg68 (vs := [vn_7]) rfl Tryd.call19 rfl (scope_Sorted_ok _ (hg.below hb) hn_7 hA hy76) (by decide) ?_
          rintro v79 w77 ⟨_, rfl, h80, hbw78⟩
          replace hb := hb.trans (hbw78.mono hb.size)
          replace hj71 := hj71.trans (hbw78.mono hj71.size)
          replace hA := lt_mono hA hbw78.size
          replace hH := hH.below hbw78
          replace ha_0 := ha_0.below hbw78
          replace hb_1 := hb_1.below hbw78
          replace hn_7 := hn_7.below hbw78
          replace hc_8 := hc_8.below hbw78
          refine sr_evg (b := true) (e := 52) rfl rfl hg68 (v := vn_7) (ev_move rfl) (by decide) ?_
          obtain ⟨y81, hy82, hS⟩ := bind_some' hS
          refine sr_callg (b := true) (e := 52) rfl rfl hg68 (vs := [v79, vn_7]) rfl Tryd.call18 rfl (ref03_Same_ok _ (hg.below hb) h80 hn_7 hy82) (by decide) ?_
          rintro _ w83 ⟨rfl, hbw84⟩
          replace hb := hb.trans (hbw84.mono hb.size)
          replace hj71 := hj71.trans (hbw84.mono hj71.size)
          replace hA := lt_mono hA hbw84.size
          replace hH := hH.below hbw84
          replace ha_0 := ha_0.below hbw84
          replace hb_1 := hb_1.below hbw84
          replace hc_8 := hc_8.below hbw84
          refine sr_ev (v := .bool y81) (ev_pick_t rfl hg68 rfl) (by decide) ?_
          exact sr_weaken (l' := [(0, va_0), (1, vb_1), (2, str s_2), (8, vc_8), (57, .bool y81)]) (.cons rfl (.cons rfl (.cons rfl (.cons rfl (.cons rfl (.nil _)))))) (K69 y81 _ ⟨(Option.some.inj hS).symm, hj71⟩)
        · have hS := ite_false' hz72 hg68
          refine sr_pass (e := 52) rfl rfl (by rw [hg68]; rfl) (by decide) ?_
          refine sr_pass (e := 52) rfl rfl (by rw [hg68]; rfl) (by decide) ?_
          refine sr_pass (e := 52) rfl rfl (by rw [hg68]; rfl) (by decide) ?_
          refine sr_pass (e := 52) rfl rfl (by rw [hg68]; rfl) (by decide) ?_
          refine sr_ev (v := .bool false) (ev_pick_f rfl hg68 rfl) (by decide) ?_
          exact sr_weaken (l' := [(0, va_0), (1, vb_1), (2, str s_2), (8, vc_8), (57, .bool false)]) (.cons rfl (.cons rfl (.cons rfl (.cons rfl (.cons rfl (.nil _)))))) (K69 false _ ⟨(Option.some.inj hS).symm, hj71⟩)
theorem law29_ScopeCovered_ok {A0 : Nat → Prop} (w0 : World) (hg : Gs w0) {a_0 : List Str} {b_1 : List Str} {s_2 : Str} {v1 : Value} {v3 : Value} {r : Bool} (h2 : SlR strC A0 w0 v1 a_0) (h4 : SlR strC A0 w0 v3 b_1) (hS : law29_ScopeCovered a_0 b_1 s_2 = some r) :
    Calls Tryd.prog 8 #[v1, v3, str s_2] w0 (Ret (fun v w' => v = .bool r ∧ Below w0.heap.size w0 w')) := by
  unfold law29_ScopeCovered at hS
  have hb := Below.refl w0.heap.size w0
  replace h2 := h2.weak (A' := fun _ => False) (fun _ h => h.elim)
  replace h4 := h4.weak (A' := fun _ => False) (fun _ h => h.elim)
  obtain ⟨A0, hA0, hAe⟩ : ∃ A0 : Nat → Prop, (∀ b, A0 b → b < w0.heap.size) ∧ A0 = fun _ => False := ⟨_, fun _ h => h.elim, rfl⟩
  rw [← hAe] at h2
  rw [← hAe] at h4
  clear hAe
  have hA := hA0
  have hi : ∀ b, A0 b → A0 b := fun _ h => h
  have hH := Hp.nil A0 w0.heap.size w0
  refine calls_of_ke Tryd.func8 rfl (n := 92) rfl rfl (l := [(0, v1), (1, v3), (2, str s_2)]) rfl ?_
  refine ke_seq ?_
  refine ke_region ?_
  refine sr_ev (v := .bool false) (ev_assign rfl) (by decide) ?_
  refine sr_end (l' := [(0, v1), (1, v3), (2, str s_2)]) (.cons rfl (.cons rfl (.cons rfl (.nil _)))) ?_
  refine ke_seq ?_
  refine ke_seq ?_
  refine ke_region ?_
  refine sr_ev (v := v1) (ev_move rfl) (by decide) ?_
  obtain ⟨y5, hy6, hS⟩ := bind_some' hS
  refine sr_call (vs := [v1]) rfl Tryd.call10 rfl (law29_few_ok _ (hg.below hb) h2 hy6) (by decide) ?_
  rintro _ w7 ⟨rfl, hbw8⟩
  replace hb := hb.trans (hbw8.mono hb.size)
  replace hA := lt_mono hA hbw8.size
  replace hH := hH.below hbw8
  replace h2 := h2.below hbw8
  replace h4 := h4.below hbw8
  refine sr_ev (v := .bool (!y5)) (ev_not rfl) (by decide) ?_
  refine sr_ev (v := .bool (!y5)) (ev_move rfl) (by decide) ?_
  obtain ⟨z11, hz13, hS⟩ := bind_some' hS
  refine sr_join (m := 4) (C := fun (x : Bool) w1 => z11 = x ∧ Below w7.heap.size w7 w1) (l' := fun x => [(0, v1), (1, v3), (2, str s_2), (17, .bool x)]) ?_ ?_
  · rintro _ w14 ⟨rfl, hbw15⟩
    replace hb := hb.trans (hbw15.mono hb.size)
    replace hA := lt_mono hA hbw15.size
    replace hH := hH.below hbw15
    replace h2 := h2.below hbw15
    replace h4 := h4.below hbw15
    refine sr_ev (v := .bool z11) (ev_move rfl) (by decide) ?_
    refine sr_join (m := 4) (C := fun (x : Bool) w1 => x = (z11 || (decide ((s_2.length : Int) > 200))) ∧ w14 = w1) (l' := fun x => [(0, v1), (1, v3), (2, str s_2), (22, .bool x)]) ?_ ?_
    · rintro _ _ ⟨rfl, rfl⟩
      refine sr_end (l' := [(0, v1), (1, v3), (2, str s_2), (22, .bool (z11 || (decide ((s_2.length : Int) > 200))))]) (.cons rfl (.cons rfl (.cons rfl (.cons rfl (.nil _))))) ?_
      refine ke_cond (t := z11 || (decide ((s_2.length : Int) > 200))) rfl (fun hc27 => ?_) (fun hc27 => ?_)
      · replace hS := ite_true' hS hc27
        refine ke_seq ?_
        refine ke_region ?_
        obtain ⟨y28, hy29, hS⟩ := bind_some' hS
        refine sr_call (vs := []) rfl Tryd.call11 rfl (law29_awake_ok _ (hg.below hb) hy29) (by decide) ?_
        rintro _ w30 ⟨rfl, hbw31⟩
        replace hb := hb.trans (hbw31.mono hb.size)
        replace hA := lt_mono hA hbw31.size
        replace hH := hH.below hbw31
        refine sr_ev (v := .bool y28) (ev_assign rfl) (by decide) ?_
        refine sr_end (l' := [(6, .bool y28)]) (.cons rfl (.nil _)) ?_
        cases hS
        exact ke_ret1 Tryd.func8 rfl rfl ⟨_, rfl, rfl, hb⟩
      · replace hS := ite_false' hS hc27
        refine ke_skip ?_
        refine ke_seq ?_
        refine ke_region ?_
        refine sr_ev (v := v1) (ev_move rfl) (by decide) ?_
        obtain ⟨y32, hy33, hS⟩ := bind_some' hS
        refine sr_call (vs := [v1]) rfl Tryd.call19 rfl (scope_Sorted_ok _ (hg.below hb) h2 hA hy33) (by decide) ?_
        rintro v36 w34 ⟨_, rfl, h37, hbw35⟩
        replace hb := hb.trans (hbw35.mono hb.size)
        replace hA := lt_mono hA hbw35.size
        replace hH := hH.below hbw35
        replace h2 := h2.below hbw35
        replace h4 := h4.below hbw35
        refine sr_ev (v := v1) (ev_move rfl) (by decide) ?_
        refine sr_ev (v := v3) (ev_move rfl) (by decide) ?_
        obtain ⟨y38, hy39, hS⟩ := bind_some' hS
        refine sr_call (vs := [v1, v3]) rfl Tryd.call25 rfl (scope_Common_ok _ (hg.below hb) h2 h4 hA hy39) (by decide) ?_
        rintro v42 w40 ⟨_, rfl, h43, hbw41⟩
        replace hb := hb.trans (hbw41.mono hb.size)
        replace hA := lt_mono hA hbw41.size
        replace hH := hH.below hbw41
        replace h2 := h2.below hbw41
        replace h4 := h4.below hbw41
        replace h37 := h37.below hbw41
        refine sr_ev (v := v36) (ev_assign rfl) (by decide) ?_
        refine sr_ev (v := v42) (ev_assign rfl) (by decide) ?_
        refine sr_end (l' := [(0, v1), (1, v3), (2, str s_2), (7, v36), (8, v42)]) (.cons rfl (.cons rfl (.cons rfl (.cons rfl (.cons rfl (.nil _)))))) ?_
        refine ke_seq ?_
        refine ke_seq ?_
        refine ke_region ?_
        refine sr_ev (v := .int .i64 1) (ev_assign rfl) (by decide) ?_
        refine sr_end (l' := [(0, v1), (1, v3), (2, str s_2), (7, v36), (8, v42), (9, .int .i64 1)]) (.cons rfl (.cons rfl (.cons rfl (.cons rfl (.cons rfl (.cons rfl (.nil _))))))) ?_
        refine ke_block ?_
        have hK := law29_ScopeCovered_L1_ok hg hA0 _ hS hb hA hi hH h2 h4 h37 h43
        exact ke_weaken (l' := [(0, v1), (1, v3), (2, str s_2), (7, v36), (8, v42), (9, .int .i64 1)]) (.cons rfl (.cons rfl (.cons rfl (.cons rfl (.cons rfl (.cons rfl (.nil _))))))) (ke_loop hK)
    · intro K21
      rcases Bool.eq_false_or_eq_true z11 with hg20 | hg20
      · refine sr_pass (e := 18) rfl rfl (by rw [hg20]; rfl) (by decide) ?_
        refine sr_pass (e := 18) rfl rfl (by rw [hg20]; rfl) (by decide) ?_
        refine sr_pass (e := 18) rfl rfl (by rw [hg20]; rfl) (by decide) ?_
        refine sr_ev (v := .bool true) (ev_pick_t rfl hg20 rfl) (by decide) ?_
        exact sr_weaken (l' := [(0, v1), (1, v3), (2, str s_2), (22, .bool true)]) (.cons rfl (.cons rfl (.cons rfl (.cons rfl (.nil _))))) (K21 true _ ⟨by rw [hg20]; rfl, rfl⟩)
      · refine sr_evg (b := false) (e := 18) rfl rfl hg20 (v := str s_2) (ev_move rfl) (by decide) ?_
        refine sr_evg (b := false) (e := 18) rfl rfl hg20 (v := .int .i64 (s_2.length : Int)) (ev_slen Tryd.underlying9 rfl) (by decide) ?_
        refine sr_evg (b := false) (e := 18) rfl rfl hg20 (v := .bool (decide ((s_2.length : Int) > 200))) (ev_gt rfl rfl) (by decide) ?_
        refine sr_ev (v := .bool (decide ((s_2.length : Int) > 200))) (ev_pick_f rfl hg20 rfl) (by decide) ?_
        exact sr_weaken (l' := [(0, v1), (1, v3), (2, str s_2), (22, .bool (decide ((s_2.length : Int) > 200)))]) (.cons rfl (.cons rfl (.cons rfl (.cons rfl (.nil _))))) (K21 (decide ((s_2.length : Int) > 200)) _ ⟨by rw [hg20]; rfl, rfl⟩)
  · intro K10
    clear hS
    have hj12 := Below.refl w7.heap.size w7
    rcases Bool.eq_false_or_eq_true (!y5) with hg9 | hg9
    · have hS := ite_true' hz13 hg9
      refine sr_pass (e := 13) rfl rfl (by rw [hg9]; rfl) (by decide) ?_
      refine sr_pass (e := 13) rfl rfl (by rw [hg9]; rfl) (by decide) ?_
      refine sr_pass (e := 13) rfl rfl (by rw [hg9]; rfl) (by decide) ?_
      refine sr_ev (v := .bool true) (ev_pick_t rfl hg9 rfl) (by decide) ?_
      exact sr_weaken (l' := [(0, v1), (1, v3), (2, str s_2), (17, .bool true)]) (.cons rfl (.cons rfl (.cons rfl (.cons rfl (.nil _))))) (K10 true _ ⟨(Option.some.inj hS).symm, hj12⟩)
    · have hS := ite_false' hz13 hg9
      refine sr_evg (b := false) (e := 13) rfl rfl hg9 (v := v3) (ev_move rfl) (by decide) ?_
      obtain ⟨y16, hy17, hS⟩ := bind_some' hS
      refine sr_callg (b := false) (e := 13) rfl rfl hg9 (vs := [v3]) rfl Tryd.call10 rfl (law29_few_ok _ (hg.below hb) h4 hy17) (by decide) ?_
      rintro _ w18 ⟨rfl, hbw19⟩
      replace hb := hb.trans (hbw19.mono hb.size)
      replace hj12 := hj12.trans (hbw19.mono hj12.size)
      replace hA := lt_mono hA hbw19.size
      replace hH := hH.below hbw19
      replace h2 := h2.below hbw19
      replace h4 := h4.below hbw19
      refine sr_evg (b := false) (e := 13) rfl rfl hg9 (v := .bool (!y16)) (ev_not rfl) (by decide) ?_
      refine sr_ev (v := .bool (!y16)) (ev_pick_f rfl hg9 rfl) (by decide) ?_
      exact sr_weaken (l' := [(0, v1), (1, v3), (2, str s_2), (17, .bool (!y16))]) (.cons rfl (.cons rfl (.cons rfl (.cons rfl (.nil _))))) (K10 (!y16) _ ⟨(Option.some.inj hS).symm, hj12⟩)
theorem law29_ScopeParts_L2_ok {w0 : World} (hg : Gs w0) {A0 : Nat → Prop} (hA0 : ∀ b, A0 b → b < w0.heap.size) (r0 : List Str → List Str → List Str → Int → Option (Bool))
    (hr0 : ∀ {r : Bool} {a_0 : List Str} {b_1 : List Str} {m_5 : List Str} {i_6 : Int} {va_0 : Value} {vb_1 : Value} {vm_5 : Value}, r0 a_0 b_1 m_5 i_6 = some r → ∀ {w : World} {A : Nat → Prop}, (Below w0.heap.size w0 w) → (∀ b, A b → b < w.heap.size) → (∀ b, A0 b → A b) → (Hp A w0.heap.size w []) → (SlR strC A w va_0 a_0) → (SlR strC A w vb_1 b_1) → (SlR strC A w vm_5 m_5) → KE Tryd.prog 9 (Ret (fun v w' => v = .bool r ∧ Below w0.heap.size w0 w')) 82 [.inLoop (sub (bodyOf Tryd.f9) [2, 2, 2, 1, 2, 2, 1]), .inBlock 0, .code (sub (bodyOf Tryd.f9) [2, 2, 2, 2])] [(0, va_0), (1, vb_1), (5, vm_5), (6, .int .i64 i_6)] w) : ∀ (n : Nat), ∀ {r : Bool} {a_0 : List Str} {b_1 : List Str} {m_5 : List Str} {i_7 : Int} {va_0 : Value} {vb_1 : Value} {vm_5 : Value}, law29_ScopeParts_L2 r0 n a_0 b_1 m_5 i_7 = some r → ∀ {w : World} {A : Nat → Prop}, (Below w0.heap.size w0 w) → (∀ b, A b → b < w.heap.size) → (∀ b, A0 b → A b) → (Hp A w0.heap.size w []) → (SlR strC A w va_0 a_0) → (SlR strC A w vb_1 b_1) → (SlR strC A w vm_5 m_5) → KE Tryd.prog 9 (Ret (fun v w' => v = .bool r ∧ Below w0.heap.size w0 w')) 82 [.code (sub (bodyOf Tryd.f9) [2, 2, 2, 2, 1, 2, 2, 1]), .inLoop (sub (bodyOf Tryd.f9) [2, 2, 2, 2, 1, 2, 2, 1]), .inBlock 2, .code (sub (bodyOf Tryd.f9) [2, 2, 2, 2, 2])] [(0, va_0), (1, vb_1), (5, vm_5), (7, .int .i64 i_7)] w := by
  intro n
  induction n with
  | zero => intro r a_0 b_1 m_5 i_7 va_0 vb_1 vm_5 hS; cases hS
  | succ n ih =>
    have hr1 : ∀ {r : Bool} {a_0 : List Str} {b_1 : List Str} {m_5 : List Str} {i_7 : Int} {va_0 : Value} {vb_1 : Value} {vm_5 : Value}, law29_ScopeParts_L2 r0 n a_0 b_1 m_5 i_7 = some r → ∀ {w : World} {A : Nat → Prop}, (Below w0.heap.size w0 w) → (∀ b, A b → b < w.heap.size) → (∀ b, A0 b → A b) → (Hp A w0.heap.size w []) → (SlR strC A w va_0 a_0) → (SlR strC A w vb_1 b_1) → (SlR strC A w vm_5 m_5) → KE Tryd.prog 9 (Ret (fun v w' => v = .bool r ∧ Below w0.heap.size w0 w')) 82 [.inLoop (sub (bodyOf Tryd.f9) [2, 2, 2, 2, 1, 2, 2, 1]), .inBlock 2, .code (sub (bodyOf Tryd.f9) [2, 2, 2, 2, 2])] [(0, va_0), (1, vb_1), (5, vm_5), (7, .int .i64 i_7)] w := fun {r} {a_0} {b_1} {m_5} {i_7} {va_0} {vb_1} {vm_5} hS {w} {A} hb hA hi hH ha_0 hb_1 hm_5 => ke_inLoop (ih hS hb hA hi hH ha_0 hb_1 hm_5)
    clear ih
    intro r a_0 b_1 m_5 i_7 va_0 vb_1 vm_5 hS w A hb hA hi hH ha_0 hb_1 hm_5
    unfold law29_ScopeParts_L2 at hS
    refine ke_seq ?_
    refine ke_seq ?_
    refine ke_region ?_
    refine sr_ev (v := .int .i64 i_7) (ev_move rfl) (by decide) ?_
    refine sr_ev (v := vm_5) (ev_move rfl) (by decide) ?_
    refine sr_ev (v := .int .i64 (m_5.length : Int)) (ev_sllen Tryd.underlying22 rfl hm_5) (by decide) ?_
    refine sr_ev (v := .bool (decide (i_7 < (m_5.length : Int)))) (ev_lt rfl rfl) (by decide) ?_
    refine sr_end (l' := [(0, va_0), (1, vb_1), (5, vm_5), (7, .int .i64 i_7), (56, .bool (decide (i_7 < (m_5.length : Int))))]) (.cons rfl (.cons rfl (.cons rfl (.cons rfl (.cons rfl (.nil _)))))) ?_
    refine ke_cond (t := decide (i_7 < (m_5.length : Int))) rfl (fun hc85 => ?_) (fun hc85 => ?_)
    · replace hS := ite_true' hS hc85
      refine ke_skip ?_
      refine ke_seq ?_
      refine ke_block ?_
      refine ke_seq ?_
      refine ke_region ?_
      refine sr_ev (v := vb_1) (ev_move rfl) (by decide) ?_
      refine sr_ev (v := vm_5) (ev_move rfl) (by decide) ?_
      refine sr_ev (v := .int .i64 i_7) (ev_move rfl) (by decide) ?_
      obtain ⟨y86, hy87, hS⟩ := bind_some' hS
      refine sr_index hm_5 Tryd.underlying22 Tryd.info9 rfl rfl rfl hy87 (by decide) ?_
      intro b88 o89 cs91 he90
      obtain rfl : cs91 = [str y86] := he90.rd
      refine sr_ev (v := str y86) (ev_load Tryd.isAgg9 rfl (he90.cell 0 _ rfl)) (by decide) ?_
      obtain ⟨y92, hy93, hS⟩ := bind_some' hS
      refine sr_call (vs := [vb_1, str y86]) rfl Tryd.call29 rfl (law29_covered_ok _ (hg.below hb) hb_1 hy93) (by decide) ?_
      rintro _ w94 ⟨rfl, hbw95⟩
      replace hb := hb.trans (hbw95.mono hb.size)
      replace hA := lt_mono hA hbw95.size
      replace hH := hH.below hbw95
      replace ha_0 := ha_0.below hbw95
      replace hb_1 := hb_1.below hbw95
      replace hm_5 := hm_5.below hbw95
      refine sr_ev (v := .bool y92) (ev_move rfl) (by decide) ?_
      obtain ⟨z98, hz100, hS⟩ := bind_some' hS
      refine sr_join (m := 8) (C := fun (x : Bool) w1 => z98 = x ∧ Below w94.heap.size w94 w1) (l' := fun x => [(0, va_0), (1, vb_1), (5, vm_5), (7, .int .i64 i_7), (73, .bool x)]) ?_ ?_
      · rintro _ w101 ⟨rfl, hbw102⟩
        replace hb := hb.trans (hbw102.mono hb.size)
        replace hA := lt_mono hA hbw102.size
        replace hH := hH.below hbw102
        replace ha_0 := ha_0.below hbw102
        replace hb_1 := hb_1.below hbw102
        replace hm_5 := hm_5.below hbw102
        refine sr_end (l' := [(0, va_0), (1, vb_1), (5, vm_5), (7, .int .i64 i_7), (73, .bool z98)]) (.cons rfl (.cons rfl (.cons rfl (.cons rfl (.cons rfl (.nil _)))))) ?_
        refine ke_cond (t := z98) rfl (fun hc113 => ?_) (fun hc113 => ?_)
        · replace hS := ite_true' hS hc113
          refine ke_seq ?_
          refine ke_region ?_
          refine sr_ev (v := .bool false) (ev_assign rfl) (by decide) ?_
          refine sr_end (l' := [(4, .bool false)]) (.cons rfl (.nil _)) ?_
          cases hS
          exact ke_ret1 Tryd.func9 rfl rfl ⟨_, rfl, rfl, hb⟩
        · replace hS := ite_false' hS hc113
          refine ke_skip ?_
          refine ke_inBlock ?_
          refine ke_region ?_
          refine sr_ev (v := .int .i64 i_7) (ev_move rfl) (by decide) ?_
          refine sr_ev (v := .int .i64 (IntKind.i64.wrap (i_7 + 1))) (ev_add rfl rfl) (by decide) ?_
          refine sr_ev (v := .int .i64 (IntKind.i64.wrap (i_7 + 1))) (ev_assign rfl) (by decide) ?_
          refine sr_end (l' := [(0, va_0), (1, vb_1), (5, vm_5), (7, .int .i64 (IntKind.i64.wrap (i_7 + 1)))]) (.cons rfl (.cons rfl (.cons rfl (.cons rfl (.nil _))))) ?_
          have hK := hr1 hS hb hA hi hH ha_0 hb_1 hm_5
          exact ke_weaken (l' := [(0, va_0), (1, vb_1), (5, vm_5), (7, .int .i64 (IntKind.i64.wrap (i_7 + 1)))]) (.cons rfl (.cons rfl (.cons rfl (.cons rfl (.nil _))))) hK
      · intro K97
        clear hS
        have hj99 := Below.refl w94.heap.size w94
        rcases Bool.eq_false_or_eq_true y92 with hg96 | hg96
        · have hS := ite_true' hz100 hg96
          refine sr_pass (e := 65) rfl rfl (by rw [hg96]; rfl) (by decide) ?_
          refine sr_pass (e := 65) rfl rfl (by rw [hg96]; rfl) (by decide) ?_
          refine sr_pass (e := 65) rfl rfl (by rw [hg96]; rfl) (by decide) ?_
          refine sr_pass (e := 65) rfl rfl (by rw [hg96]; rfl) (by decide) ?_
          refine sr_pass (e := 65) rfl rfl (by rw [hg96]; rfl) (by decide) ?_
          refine sr_pass (e := 65) rfl rfl (by rw [hg96]; rfl) (by decide) ?_
          refine sr_pass (e := 65) rfl rfl (by rw [hg96]; rfl) (by decide) ?_
          refine sr_ev (v := .bool true) (ev_pick_t rfl hg96 rfl) (by decide) ?_
          exact sr_weaken (l' := [(0, va_0), (1, vb_1), (5, vm_5), (7, .int .i64 i_7), (73, .bool true)]) (.cons rfl (.cons rfl (.cons rfl (.cons rfl (.cons rfl (.nil _)))))) (K97 true _ ⟨(Option.some.inj hS).symm, hj99⟩)
        · have hS := ite_false' hz100 hg96
          refine sr_evg (b := false) (e := 65) rfl rfl hg96 (v := va_0) (ev_move rfl) (by decide) ?_
          refine sr_evg (b := false) (e := 65) rfl rfl hg96 (v := vm_5) (ev_move rfl) (by decide) ?_
          refine sr_evg (b := false) (e := 65) rfl rfl hg96 (v := .int .i64 i_7) (ev_move rfl) (by decide) ?_
          obtain ⟨y103, hy104, hS⟩ := bind_some' hS
          refine sr_unguard rfl rfl hg96 ?_
          refine sr_index hm_5 Tryd.underlying22 Tryd.info9 rfl rfl rfl hy104 (by decide) ?_
          intro b105 o106 cs108 he107
          obtain rfl : cs108 = [str y103] := he107.rd
          refine sr_evg (b := false) (e := 65) rfl rfl hg96 (v := str y103) (ev_load Tryd.isAgg9 rfl (he107.cell 0 _ rfl)) (by decide) ?_
          obtain ⟨y109, hy110, hS⟩ := bind_some' hS
          refine sr_callg (b := false) (e := 65) rfl rfl hg96 (vs := [va_0, str y103]) rfl Tryd.call29 rfl (law29_covered_ok _ (hg.below hb) ha_0 hy110) (by decide) ?_
          rintro _ w111 ⟨rfl, hbw112⟩
          replace hb := hb.trans (hbw112.mono hb.size)
          replace hj99 := hj99.trans (hbw112.mono hj99.size)
          replace hA := lt_mono hA hbw112.size
          replace hH := hH.below hbw112
          replace ha_0 := ha_0.below hbw112
          replace hb_1 := hb_1.below hbw112
          replace hm_5 := hm_5.below hbw112
          refine sr_evg (b := false) (e := 65) rfl rfl hg96 (v := .bool (!y109)) (ev_not rfl) (by decide) ?_
          refine sr_ev (v := .bool (!y109)) (ev_pick_f rfl hg96 rfl) (by decide) ?_
          exact sr_weaken (l' := [(0, va_0), (1, vb_1), (5, vm_5), (7, .int .i64 i_7), (73, .bool (!y109))]) (.cons rfl (.cons rfl (.cons rfl (.cons rfl (.cons rfl (.nil _)))))) (K97 (!y109) _ ⟨(Option.some.inj hS).symm, hj99⟩)
    · replace hS := ite_false' hS hc85
      refine ke_exit (k' := _) rfl ?_
      refine ke_seq ?_
      refine ke_region ?_
      refine sr_ev (v := va_0) (ev_move rfl) (by decide) ?_
      refine sr_ev (v := va_0) (ev_move rfl) (by decide) ?_
      obtain ⟨y114, hy115, hS⟩ := bind_some' hS
      refine sr_call (vs := [va_0, va_0]) rfl Tryd.call27 rfl (scope_Minus_ok _ (hg.below hb) ha_0 ha_0 hA hy115) (by decide) ?_
      rintro v118 w116 ⟨_, rfl, h119, hbw117⟩
      replace hb := hb.trans (hbw117.mono hb.size)
      replace hA := lt_mono hA hbw117.size
      replace hH := hH.below hbw117
      refine sr_ev (v := .int .i64 (y114.length : Int)) (ev_sllen Tryd.underlying22 rfl h119) (by decide) ?_
      refine sr_ev (v := .bool ((y114.length : Int) == 0)) (ev_eq rfl rfl) (by decide) ?_
      refine sr_ev (v := .bool ((y114.length : Int) == 0)) (ev_move rfl) (by decide) ?_
      obtain ⟨z122, hz124, hS⟩ := bind_some' hS
      refine sr_join (m := 2) (C := fun (x : Bool) w1 => z122 = x ∧ Below w116.heap.size w116 w1) (l' := fun x => [(81, .bool x)]) ?_ ?_
      · rintro _ w125 ⟨rfl, hbw126⟩
        replace hb := hb.trans (hbw126.mono hb.size)
        replace hA := lt_mono hA hbw126.size
        replace hH := hH.below hbw126
        refine sr_ev (v := .bool z122) (ev_assign rfl) (by decide) ?_
        refine sr_end (l' := [(4, .bool z122)]) (.cons rfl (.nil _)) ?_
        cases hS
        exact ke_ret1 Tryd.func9 rfl rfl ⟨_, rfl, rfl, hb⟩
      · intro K121
        clear hS
        have hj123 := Below.refl w116.heap.size w116
        rcases Bool.eq_false_or_eq_true ((y114.length : Int) == 0) with hg120 | hg120
        · have hS := ite_true' hz124 hg120
          obtain ⟨y127, hy128, hS⟩ := bind_some' hS
          refine sr_callg (b := true) (e := 79) rfl rfl hg120 (vs := []) rfl Tryd.call11 rfl (law29_awake_ok _ (hg.below hb) hy128) (by decide) ?_
          rintro _ w129 ⟨rfl, hbw130⟩
          replace hb := hb.trans (hbw130.mono hb.size)
          replace hj123 := hj123.trans (hbw130.mono hj123.size)
          replace hA := lt_mono hA hbw130.size
          replace hH := hH.below hbw130
          refine sr_ev (v := .bool y127) (ev_pick_t rfl hg120 rfl) (by decide) ?_
          exact sr_weaken (l' := [(81, .bool y127)]) (.cons rfl (.nil _)) (K121 y127 _ ⟨(Option.some.inj hS).symm, hj123⟩)
        · have hS := ite_false' hz124 hg120
          refine sr_pass (e := 79) rfl rfl (by rw [hg120]; rfl) (by decide) ?_
          refine sr_ev (v := .bool false) (ev_pick_f rfl hg120 rfl) (by decide) ?_
          exact sr_weaken (l' := [(81, .bool false)]) (.cons rfl (.nil _)) (K121 false _ ⟨(Option.some.inj hS).symm, hj123⟩)
theorem law29_ScopeParts_L1_ok {w0 : World} (hg : Gs w0) {A0 : Nat → Prop} (hA0 : ∀ b, A0 b → b < w0.heap.size) : ∀ (n : Nat), ∀ {r : Bool} {a_0 : List Str} {b_1 : List Str} {m_5 : List Str} {i_6 : Int} {va_0 : Value} {vb_1 : Value} {vm_5 : Value}, law29_ScopeParts_L1 n a_0 b_1 m_5 i_6 = some r → ∀ {w : World} {A : Nat → Prop}, (Below w0.heap.size w0 w) → (∀ b, A b → b < w.heap.size) → (∀ b, A0 b → A b) → (Hp A w0.heap.size w []) → (SlR strC A w va_0 a_0) → (SlR strC A w vb_1 b_1) → (SlR strC A w vm_5 m_5) → KE Tryd.prog 9 (Ret (fun v w' => v = .bool r ∧ Below w0.heap.size w0 w')) 82 [.code (sub (bodyOf Tryd.f9) [2, 2, 2, 1, 2, 2, 1]), .inLoop (sub (bodyOf Tryd.f9) [2, 2, 2, 1, 2, 2, 1]), .inBlock 0, .code (sub (bodyOf Tryd.f9) [2, 2, 2, 2])] [(0, va_0), (1, vb_1), (5, vm_5), (6, .int .i64 i_6)] w := by
  intro n
  induction n with
  | zero => intro r a_0 b_1 m_5 i_6 va_0 vb_1 vm_5 hS; cases hS
  | succ n ih =>
    have hr0 : ∀ {r : Bool} {a_0 : List Str} {b_1 : List Str} {m_5 : List Str} {i_6 : Int} {va_0 : Value} {vb_1 : Value} {vm_5 : Value}, law29_ScopeParts_L1 n a_0 b_1 m_5 i_6 = some r → ∀ {w : World} {A : Nat → Prop}, (Below w0.heap.size w0 w) → (∀ b, A b → b < w.heap.size) → (∀ b, A0 b → A b) → (Hp A w0.heap.size w []) → (SlR strC A w va_0 a_0) → (SlR strC A w vb_1 b_1) → (SlR strC A w vm_5 m_5) → KE Tryd.prog 9 (Ret (fun v w' => v = .bool r ∧ Below w0.heap.size w0 w')) 82 [.inLoop (sub (bodyOf Tryd.f9) [2, 2, 2, 1, 2, 2, 1]), .inBlock 0, .code (sub (bodyOf Tryd.f9) [2, 2, 2, 2])] [(0, va_0), (1, vb_1), (5, vm_5), (6, .int .i64 i_6)] w := fun {r} {a_0} {b_1} {m_5} {i_6} {va_0} {vb_1} {vm_5} hS {w} {A} hb hA hi hH ha_0 hb_1 hm_5 => ke_inLoop (ih hS hb hA hi hH ha_0 hb_1 hm_5)
    clear ih
    intro r a_0 b_1 m_5 i_6 va_0 vb_1 vm_5 hS w A hb hA hi hH ha_0 hb_1 hm_5
    unfold law29_ScopeParts_L1 at hS
    refine ke_seq ?_
    refine ke_seq ?_
    refine ke_region ?_
    refine sr_ev (v := .int .i64 i_6) (ev_move rfl) (by decide) ?_
    refine sr_ev (v := va_0) (ev_move rfl) (by decide) ?_
    refine sr_ev (v := .int .i64 (a_0.length : Int)) (ev_sllen Tryd.underlying22 rfl ha_0) (by decide) ?_
    refine sr_ev (v := .bool (decide (i_6 < (a_0.length : Int)))) (ev_lt rfl rfl) (by decide) ?_
    refine sr_end (l' := [(0, va_0), (1, vb_1), (5, vm_5), (6, .int .i64 i_6), (23, .bool (decide (i_6 < (a_0.length : Int))))]) (.cons rfl (.cons rfl (.cons rfl (.cons rfl (.cons rfl (.nil _)))))) ?_
    refine ke_cond (t := decide (i_6 < (a_0.length : Int))) rfl (fun hc31 => ?_) (fun hc31 => ?_)
    · replace hS := ite_true' hS hc31
      refine ke_skip ?_
      refine ke_seq ?_
      refine ke_block ?_
      refine ke_seq ?_
      refine ke_region_q Tryd.mixed (by kernel_rfl) ?_
      refine sq_ev (v := va_0) (fun w1 hw1 => ev_move rfl) (by decide) ?_
      refine sq_ev (v := .int .i64 i_6) (fun w1 hw1 => ev_move rfl) (by decide) ?_
      obtain ⟨y34, hy35, hS⟩ := bind_some' hS
      obtain ⟨b36, o37, cs39, he38, hixhe38⟩ := ha_0.elem Tryd.underlying22 Tryd.info9 rfl (P := Tryd.prog) hy35
      obtain rfl : cs39 = [str y34] := he38.rd
      refine sq_ev (v := .pointer (some ⟨b36, o37, none⟩)) (fun w1 hw1 => hixhe38 w1 hw1 rfl rfl) (by decide) ?_
      refine sq_ev (v := str y34) (fun w1 hw1 => ev_load Tryd.isAgg9 rfl ((he38.step (.of_below hw1) (Nat.succ_pos _)).cell 0 _ rfl)) (by decide) ?_
      refine sq_ev (v := va_0) (fun w1 hw1 => ev_move rfl) (by decide) ?_
      refine sq_ev (v := .int .i64 i_6) (fun w1 hw1 => ev_move rfl) (by decide) ?_
      obtain ⟨y40, hy41, hS⟩ := bind_some' hS
      obtain ⟨b42, o43, cs45, he44, hixhe44⟩ := ha_0.elem Tryd.underlying22 Tryd.info9 rfl (P := Tryd.prog) hy41
      obtain rfl : cs45 = [str y40] := he44.rd
      refine sq_ev (v := .pointer (some ⟨b42, o43, none⟩)) (fun w1 hw1 => hixhe44 w1 hw1 rfl rfl) (by decide) ?_
      refine sq_ev (v := str y40) (fun w1 hw1 => ev_load Tryd.isAgg9 rfl ((he44.step (.of_below hw1) (Nat.succ_pos _)).cell 0 _ rfl)) (by decide) ?_
      obtain ⟨y46, hy47, hS⟩ := bind_some' hS
      refine sq_call (v := .bool y46) (vs := [str y34, str y40]) rfl Tryd.call21 rfl (fun w1 hw1 => (scope_Implies_ok _ (hg.below (hb.trans (hw1.mono hb.size))) hy47)) (by decide) ?_
      refine sq_ev (v := .bool y46) (fun w1 hw1 => ev_move rfl) (by decide) ?_
      obtain ⟨z52, hz54, hS⟩ := bind_some' hS
      refine sq_join (m := 8) (C := fun (x : Bool) => z52 = x) (l' := fun x => [(0, va_0), (1, vb_1), (5, vm_5), (6, .int .i64 i_6), (43, .bool x)]) ?_ ?_
      · rintro _ rfl
        refine sq_ev (v := .bool z52) (fun w1 hw1 => ev_move rfl) (by decide) ?_
        obtain ⟨z69, hz71, hS⟩ := bind_some' hS
        refine sq_join (m := 8) (C := fun (x : Bool) => z69 = x) (l' := fun x => [(0, va_0), (1, vb_1), (5, vm_5), (6, .int .i64 i_6), (52, .bool x)]) ?_ ?_
        · rintro _ rfl
          refine sq_end (l' := [(0, va_0), (1, vb_1), (5, vm_5), (6, .int .i64 i_6), (52, .bool z69)]) (.cons rfl (.cons rfl (.cons rfl (.cons rfl (.cons rfl (.nil _)))))) (fun w33 hw32 => ?_)
          replace hb := hb.trans (hw32.mono hb.size)
          replace hA := lt_mono hA hw32.size
          replace hH := hH.below hw32
          replace ha_0 := ha_0.below hw32
          replace hb_1 := hb_1.below hw32
          replace hm_5 := hm_5.below hw32
          refine ke_cond (t := z69) rfl (fun hc84 => ?_) (fun hc84 => ?_)
          · replace hS := ite_true' hS hc84
            refine ke_seq ?_
            refine ke_region ?_
            refine sr_ev (v := .bool false) (ev_assign rfl) (by decide) ?_
            refine sr_end (l' := [(4, .bool false)]) (.cons rfl (.nil _)) ?_
            cases hS
            exact ke_ret1 Tryd.func9 rfl rfl ⟨_, rfl, rfl, hb⟩
          · replace hS := ite_false' hS hc84
            refine ke_skip ?_
            refine ke_inBlock ?_
            refine ke_region ?_
            refine sr_ev (v := .int .i64 i_6) (ev_move rfl) (by decide) ?_
            refine sr_ev (v := .int .i64 (IntKind.i64.wrap (i_6 + 1))) (ev_add rfl rfl) (by decide) ?_
            refine sr_ev (v := .int .i64 (IntKind.i64.wrap (i_6 + 1))) (ev_assign rfl) (by decide) ?_
            refine sr_end (l' := [(0, va_0), (1, vb_1), (5, vm_5), (6, .int .i64 (IntKind.i64.wrap (i_6 + 1)))]) (.cons rfl (.cons rfl (.cons rfl (.cons rfl (.nil _))))) ?_
            have hK := hr0 hS hb hA hi hH ha_0 hb_1 hm_5
            exact ke_weaken (l' := [(0, va_0), (1, vb_1), (5, vm_5), (6, .int .i64 (IntKind.i64.wrap (i_6 + 1)))]) (.cons rfl (.cons rfl (.cons rfl (.cons rfl (.nil _))))) hK
        · intro K68
          clear hS
          rcases Bool.eq_false_or_eq_true z52 with hg67 | hg67
          · have hS := ite_true' hz71 hg67
            refine sq_evg (b := true) (e := 44) rfl rfl hg67 (v := vm_5) (fun w1 hw1 => ev_move rfl) (by decide) ?_
            refine sq_evg (b := true) (e := 44) rfl rfl hg67 (v := va_0) (fun w1 hw1 => ev_move rfl) (by decide) ?_
            refine sq_evg (b := true) (e := 44) rfl rfl hg67 (v := .int .i64 i_6) (fun w1 hw1 => ev_move rfl) (by decide) ?_
            obtain ⟨y74, hy75, hS⟩ := bind_some' hS
            obtain ⟨b76, o77, cs79, he78, hixhe78⟩ := ha_0.elem Tryd.underlying22 Tryd.info9 rfl (P := Tryd.prog) hy75
            obtain rfl : cs79 = [str y74] := he78.rd
            refine sq_evg (b := true) (e := 44) rfl rfl hg67 (v := .pointer (some ⟨b76, o77, none⟩)) (fun w1 hw1 => hixhe78 w1 hw1 rfl rfl) (by decide) ?_
            refine sq_evg (b := true) (e := 44) rfl rfl hg67 (v := str y74) (fun w1 hw1 => ev_load Tryd.isAgg9 rfl ((he78.step (.of_below hw1) (Nat.succ_pos _)).cell 0 _ rfl)) (by decide) ?_
            obtain ⟨y80, hy81, hS⟩ := bind_some' hS
            refine sq_callg (b := true) (e := 44) rfl rfl hg67 (v := .bool y80) (vs := [vm_5, str y74]) rfl Tryd.call29 rfl (fun w1 hw1 => (law29_covered_ok _ (hg.below (hb.trans (hw1.mono hb.size))) (hm_5.below hw1) hy81)) (by decide) ?_
            refine sq_evg (b := true) (e := 44) rfl rfl hg67 (v := .bool (!y80)) (fun w1 hw1 => ev_not rfl) (by decide) ?_
            refine sq_ev (v := .bool (!y80)) (fun w1 hw1 => ev_pick_t rfl hg67 rfl) (by decide) ?_
            exact sq_weaken (l' := [(0, va_0), (1, vb_1), (5, vm_5), (6, .int .i64 i_6), (52, .bool (!y80))]) (.cons rfl (.cons rfl (.cons rfl (.cons rfl (.cons rfl (.nil _)))))) (K68 (!y80) (Option.some.inj hS).symm)
          · have hS := ite_false' hz71 hg67
            refine sq_pass (e := 44) rfl rfl (by rw [hg67]; rfl) (by decide) ?_
            refine sq_pass (e := 44) rfl rfl (by rw [hg67]; rfl) (by decide) ?_
            refine sq_pass (e := 44) rfl rfl (by rw [hg67]; rfl) (by decide) ?_
            refine sq_pass (e := 44) rfl rfl (by rw [hg67]; rfl) (by decide) ?_
            refine sq_pass (e := 44) rfl rfl (by rw [hg67]; rfl) (by decide) ?_
            refine sq_pass (e := 44) rfl rfl (by rw [hg67]; rfl) (by decide) ?_
            refine sq_pass (e := 44) rfl rfl (by rw [hg67]; rfl) (by decide) ?_
            refine sq_ev (v := .bool false) (fun w1 hw1 => ev_pick_f rfl hg67 rfl) (by decide) ?_
            exact sq_weaken (l' := [(0, va_0), (1, vb_1), (5, vm_5), (6, .int .i64 i_6), (52, .bool false)]) (.cons rfl (.cons rfl (.cons rfl (.cons rfl (.cons rfl (.nil _)))))) (K68 false (Option.some.inj hS).symm)
      · intro K51
        clear hS
        rcases Bool.eq_false_or_eq_true y46 with hg50 | hg50
        · have hS := ite_true' hz54 hg50
          refine sq_evg (b := true) (e := 35) rfl rfl hg50 (v := vb_1) (fun w1 hw1 => ev_move rfl) (by decide) ?_
          refine sq_evg (b := true) (e := 35) rfl rfl hg50 (v := va_0) (fun w1 hw1 => ev_move rfl) (by decide) ?_
          refine sq_evg (b := true) (e := 35) rfl rfl hg50 (v := .int .i64 i_6) (fun w1 hw1 => ev_move rfl) (by decide) ?_
          obtain ⟨y57, hy58, hS⟩ := bind_some' hS
          obtain ⟨b59, o60, cs62, he61, hixhe61⟩ := ha_0.elem Tryd.underlying22 Tryd.info9 rfl (P := Tryd.prog) hy58
          obtain rfl : cs62 = [str y57] := he61.rd
          refine sq_evg (b := true) (e := 35) rfl rfl hg50 (v := .pointer (some ⟨b59, o60, none⟩)) (fun w1 hw1 => hixhe61 w1 hw1 rfl rfl) (by decide) ?_
          refine sq_evg (b := true) (e := 35) rfl rfl hg50 (v := str y57) (fun w1 hw1 => ev_load Tryd.isAgg9 rfl ((he61.step (.of_below hw1) (Nat.succ_pos _)).cell 0 _ rfl)) (by decide) ?_
          obtain ⟨y63, hy64, hS⟩ := bind_some' hS
          refine sq_callg (b := true) (e := 35) rfl rfl hg50 (v := .bool y63) (vs := [vb_1, str y57]) rfl Tryd.call29 rfl (fun w1 hw1 => (law29_covered_ok _ (hg.below (hb.trans (hw1.mono hb.size))) (hb_1.below hw1) hy64)) (by decide) ?_
          refine sq_evg (b := true) (e := 35) rfl rfl hg50 (v := .bool (!y63)) (fun w1 hw1 => ev_not rfl) (by decide) ?_
          refine sq_ev (v := .bool (!y63)) (fun w1 hw1 => ev_pick_t rfl hg50 rfl) (by decide) ?_
          exact sq_weaken (l' := [(0, va_0), (1, vb_1), (5, vm_5), (6, .int .i64 i_6), (43, .bool (!y63))]) (.cons rfl (.cons rfl (.cons rfl (.cons rfl (.cons rfl (.nil _)))))) (K51 (!y63) (Option.some.inj hS).symm)
        · have hS := ite_false' hz54 hg50
          refine sq_pass (e := 35) rfl rfl (by rw [hg50]; rfl) (by decide) ?_
          refine sq_pass (e := 35) rfl rfl (by rw [hg50]; rfl) (by decide) ?_
          refine sq_pass (e := 35) rfl rfl (by rw [hg50]; rfl) (by decide) ?_
          refine sq_pass (e := 35) rfl rfl (by rw [hg50]; rfl) (by decide) ?_
          refine sq_pass (e := 35) rfl rfl (by rw [hg50]; rfl) (by decide) ?_
          refine sq_pass (e := 35) rfl rfl (by rw [hg50]; rfl) (by decide) ?_
          refine sq_pass (e := 35) rfl rfl (by rw [hg50]; rfl) (by decide) ?_
          refine sq_ev (v := .bool false) (fun w1 hw1 => ev_pick_f rfl hg50 rfl) (by decide) ?_
          exact sq_weaken (l' := [(0, va_0), (1, vb_1), (5, vm_5), (6, .int .i64 i_6), (43, .bool false)]) (.cons rfl (.cons rfl (.cons rfl (.cons rfl (.cons rfl (.nil _)))))) (K51 false (Option.some.inj hS).symm)
    · replace hS := ite_false' hS hc31
      refine ke_exit (k' := _) rfl ?_
      refine ke_seq ?_
      refine ke_seq ?_
      refine ke_region ?_
      refine sr_ev (v := .int .i64 0) (ev_assign rfl) (by decide) ?_
      refine sr_end (l' := [(0, va_0), (1, vb_1), (5, vm_5), (7, .int .i64 0)]) (.cons rfl (.cons rfl (.cons rfl (.cons rfl (.nil _))))) ?_
      refine ke_block ?_
      have hK := law29_ScopeParts_L2_ok hg hA0 _ hr0 _ hS hb hA hi hH ha_0 hb_1 hm_5
      exact ke_weaken (l' := [(0, va_0), (1, vb_1), (5, vm_5), (7, .int .i64 0)]) (.cons rfl (.cons rfl (.cons rfl (.cons rfl (.nil _))))) (ke_loop hK)
theorem law29_ScopeParts_ok {A0 : Nat → Prop} (w0 : World) (hg : Gs w0) {a_0 : List Str} {b_1 : List Str} {v1 : Value} {v3 : Value} {r : Bool} (h2 : SlR strC A0 w0 v1 a_0) (h4 : SlR strC A0 w0 v3 b_1) (hS : law29_ScopeParts a_0 b_1 = some r) :
    Calls Tryd.prog 9 #[v1, v3] w0 (Ret (fun v w' => v = .bool r ∧ Below w0.heap.size w0 w')) := by
  unfold law29_ScopeParts at hS
  have hb := Below.refl w0.heap.size w0
  replace h2 := h2.weak (A' := fun _ => False) (fun _ h => h.elim)
  replace h4 := h4.weak (A' := fun _ => False) (fun _ h => h.elim)
  obtain ⟨A0, hA0, hAe⟩ : ∃ A0 : Nat → Prop, (∀ b, A0 b → b < w0.heap.size) ∧ A0 = fun _ => False := ⟨_, fun _ h => h.elim, rfl⟩
  rw [← hAe] at h2
  rw [← hAe] at h4
  clear hAe
  have hA := hA0
  have hi : ∀ b, A0 b → A0 b := fun _ h => h
  have hH := Hp.nil A0 w0.heap.size w0
  refine calls_of_ke Tryd.func9 rfl (n := 82) rfl rfl (l := [(0, v1), (1, v3)]) rfl ?_
  refine ke_seq ?_
  refine ke_region ?_
  refine sr_ev (v := .bool false) (ev_assign rfl) (by decide) ?_
  refine sr_end (l' := [(0, v1), (1, v3)]) (.cons rfl (.cons rfl (.nil _))) ?_
  refine ke_seq ?_
  refine ke_seq ?_
  refine ke_region ?_
  refine sr_ev (v := v1) (ev_move rfl) (by decide) ?_
  obtain ⟨y5, hy6, hS⟩ := bind_some' hS
  refine sr_call (vs := [v1]) rfl Tryd.call10 rfl (law29_few_ok _ (hg.below hb) h2 hy6) (by decide) ?_
  rintro _ w7 ⟨rfl, hbw8⟩
  replace hb := hb.trans (hbw8.mono hb.size)
  replace hA := lt_mono hA hbw8.size
  replace hH := hH.below hbw8
  replace h2 := h2.below hbw8
  replace h4 := h4.below hbw8
  refine sr_ev (v := .bool (!y5)) (ev_not rfl) (by decide) ?_
  refine sr_ev (v := .bool (!y5)) (ev_move rfl) (by decide) ?_
  obtain ⟨z11, hz13, hS⟩ := bind_some' hS
  refine sr_join (m := 4) (C := fun (x : Bool) w1 => z11 = x ∧ Below w7.heap.size w7 w1) (l' := fun x => [(0, v1), (1, v3), (15, .bool x)]) ?_ ?_
  · rintro _ w14 ⟨rfl, hbw15⟩
    replace hb := hb.trans (hbw15.mono hb.size)
    replace hA := lt_mono hA hbw15.size
    replace hH := hH.below hbw15
    replace h2 := h2.below hbw15
    replace h4 := h4.below hbw15
    refine sr_end (l' := [(0, v1), (1, v3), (15, .bool z11)]) (.cons rfl (.cons rfl (.cons rfl (.nil _)))) ?_
    refine ke_cond (t := z11) rfl (fun hc20 => ?_) (fun hc20 => ?_)
    · replace hS := ite_true' hS hc20
      refine ke_seq ?_
      refine ke_region ?_
      obtain ⟨y21, hy22, hS⟩ := bind_some' hS
      refine sr_call (vs := []) rfl Tryd.call11 rfl (law29_awake_ok _ (hg.below hb) hy22) (by decide) ?_
      rintro _ w23 ⟨rfl, hbw24⟩
      replace hb := hb.trans (hbw24.mono hb.size)
      replace hA := lt_mono hA hbw24.size
      replace hH := hH.below hbw24
      refine sr_ev (v := .bool y21) (ev_assign rfl) (by decide) ?_
      refine sr_end (l' := [(4, .bool y21)]) (.cons rfl (.nil _)) ?_
      cases hS
      exact ke_ret1 Tryd.func9 rfl rfl ⟨_, rfl, rfl, hb⟩
    · replace hS := ite_false' hS hc20
      refine ke_skip ?_
      refine ke_seq ?_
      refine ke_region ?_
      refine sr_ev (v := v1) (ev_move rfl) (by decide) ?_
      refine sr_ev (v := v3) (ev_move rfl) (by decide) ?_
      obtain ⟨y25, hy26, hS⟩ := bind_some' hS
      refine sr_call (vs := [v1, v3]) rfl Tryd.call27 rfl (scope_Minus_ok _ (hg.below hb) h2 h4 hA hy26) (by decide) ?_
      rintro v29 w27 ⟨_, rfl, h30, hbw28⟩
      replace hb := hb.trans (hbw28.mono hb.size)
      replace hA := lt_mono hA hbw28.size
      replace hH := hH.below hbw28
      replace h2 := h2.below hbw28
      replace h4 := h4.below hbw28
      refine sr_ev (v := v29) (ev_assign rfl) (by decide) ?_
      refine sr_end (l' := [(0, v1), (1, v3), (5, v29)]) (.cons rfl (.cons rfl (.cons rfl (.nil _)))) ?_
      refine ke_seq ?_
      refine ke_seq ?_
      refine ke_region ?_
      refine sr_ev (v := .int .i64 0) (ev_assign rfl) (by decide) ?_
      refine sr_end (l' := [(0, v1), (1, v3), (5, v29), (6, .int .i64 0)]) (.cons rfl (.cons rfl (.cons rfl (.cons rfl (.nil _))))) ?_
      refine ke_block ?_
      have hK := law29_ScopeParts_L1_ok hg hA0 _ hS hb hA hi hH h2 h4 h30
      exact ke_weaken (l' := [(0, v1), (1, v3), (5, v29), (6, .int .i64 0)]) (.cons rfl (.cons rfl (.cons rfl (.cons rfl (.nil _))))) (ke_loop hK)
  · intro K10
    clear hS
    have hj12 := Below.refl w7.heap.size w7
    rcases Bool.eq_false_or_eq_true (!y5) with hg9 | hg9
    · have hS := ite_true' hz13 hg9
      refine sr_pass (e := 11) rfl rfl (by rw [hg9]; rfl) (by decide) ?_
      refine sr_pass (e := 11) rfl rfl (by rw [hg9]; rfl) (by decide) ?_
      refine sr_pass (e := 11) rfl rfl (by rw [hg9]; rfl) (by decide) ?_
      refine sr_ev (v := .bool true) (ev_pick_t rfl hg9 rfl) (by decide) ?_
      exact sr_weaken (l' := [(0, v1), (1, v3), (15, .bool true)]) (.cons rfl (.cons rfl (.cons rfl (.nil _)))) (K10 true _ ⟨(Option.some.inj hS).symm, hj12⟩)
    · have hS := ite_false' hz13 hg9
      refine sr_evg (b := false) (e := 11) rfl rfl hg9 (v := v3) (ev_move rfl) (by decide) ?_
      obtain ⟨y16, hy17, hS⟩ := bind_some' hS
      refine sr_callg (b := false) (e := 11) rfl rfl hg9 (vs := [v3]) rfl Tryd.call10 rfl (law29_few_ok _ (hg.below hb) h4 hy17) (by decide) ?_
      rintro _ w18 ⟨rfl, hbw19⟩
      replace hb := hb.trans (hbw19.mono hb.size)
      replace hj12 := hj12.trans (hbw19.mono hj12.size)
      replace hA := lt_mono hA hbw19.size
      replace hH := hH.below hbw19
      replace h2 := h2.below hbw19
      replace h4 := h4.below hbw19
      refine sr_evg (b := false) (e := 11) rfl rfl hg9 (v := .bool (!y16)) (ev_not rfl) (by decide) ?_
      refine sr_ev (v := .bool (!y16)) (ev_pick_f rfl hg9 rfl) (by decide) ?_
      exact sr_weaken (l' := [(0, v1), (1, v3), (15, .bool (!y16))]) (.cons rfl (.cons rfl (.cons rfl (.nil _)))) (K10 (!y16) _ ⟨(Option.some.inj hS).symm, hj12⟩)
end YtlmnhekpgjgndaaDoor
end Go.Proofs
