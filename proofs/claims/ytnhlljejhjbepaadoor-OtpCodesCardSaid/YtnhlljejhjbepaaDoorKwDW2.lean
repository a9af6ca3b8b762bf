/- Own work: a part of the proofs of this seat. -/
import Derived.Test.YtnhlljejhjbepaaDoorProg
import Derived.Test.YtnhlljejhjbepaaDoorShelf
import Derived.Test.YtnhlljejhjbepaaDoorKwDS
import Derived.KernelRfl
import Derived.Test.YtnhlljejhjbepaaDoorKwDW1
set_option linter.unusedVariables false
set_option maxHeartbeats 8000000
namespace Go.Proofs
namespace YtnhlljejhjbepaaDoor
open Go Go.KW Go.KW.S Go.RowKit
theorem law23_fits_ok (w0 : World) (hg : Gs w0) {x_0 : law23_Try} {r : Bool} (hS : law23_fits x_0 = some r) :
    Calls Tryd.prog 14 #[.agg #[str x_0.Secret, str x_0.Code, .int .i64 x_0.Last, .int .i64 x_0.Look, .int .i64 x_0.Now, .int .i64 x_0.K, .bool x_0.Near]] w0 (Ret (fun v w' => v = .bool r ∧ Below w0.heap.size w0 w')) := by
  unfold law23_fits at hS
  have hb := Below.refl w0.heap.size w0
  obtain ⟨A0, hA0, hAe⟩ : ∃ A0 : Nat → Prop, (∀ b, A0 b → b < w0.heap.size) ∧ A0 = fun _ => False := ⟨_, fun _ h => h.elim, rfl⟩
  clear hAe
  have hA := hA0
  have hi : ∀ b, A0 b → A0 b := fun _ h => h
  have hH := Hp.nil A0 w0.heap.size w0
  refine calls_of_ke Tryd.func14 rfl (n := 13) rfl rfl (l := [(0, .agg #[str x_0.Secret, str x_0.Code, .int .i64 x_0.Last, .int .i64 x_0.Look, .int .i64 x_0.Now, .int .i64 x_0.K, .bool x_0.Near])]) rfl ?_
  refine ke_seq ?_
  refine ke_region ?_
  refine sr_box hH hb.size hA rfl (by decide) ?_
  intro g1 A2 w3 hH1 hst4 hbw5 hinc6 hA1 hge7
  replace hb := hb.trans (hbw5.mono hb.size)
  replace hi := fun b hb => hinc6 b (hi b hb)
  replace hH : Hp A2 w0.heap.size w3 [(g1, .cells #[str x_0.Secret, str x_0.Code, .int .i64 x_0.Last, .int .i64 x_0.Look, .int .i64 x_0.Now, .int .i64 x_0.K, .bool x_0.Near] 29 (0, 0))] := hH1
  replace hA := hA1
  clear hH1 hA1
  refine sr_ev (v := .bool false) (ev_assign rfl) (by decide) ?_
  refine sr_end (l' := [(1, .pointer (some ⟨g1, 0, none⟩))]) (.cons rfl (.nil _)) ?_
  refine ke_seq ?_
  refine ke_region ?_
  refine sr_ev (v := .pointer (some ⟨g1, 0, none⟩)) (ev_fieldAddr (i := 0) Tryd.underlying29 rfl Tryd.info9 rfl rfl) (by decide) ?_
  refine sr_ev (v := str x_0.Secret) (ev_load Tryd.isAgg9 rfl (hH.cell (i := 0) rfl rfl)) (by decide) ?_
  refine sr_ev (v := .int .i64 (x_0.Secret.length : Int)) (ev_slen Tryd.underlying9 rfl) (by decide) ?_
  refine sr_ev (v := .bool (decide ((x_0.Secret.length : Int) ≤ 300))) (ev_le rfl rfl) (by decide) ?_
  refine sr_ev (v := .bool (decide ((x_0.Secret.length : Int) ≤ 300))) (ev_move rfl) (by decide) ?_
  refine sr_join (m := 5) (C := fun (x : Bool) w1 => x = ((decide ((x_0.Secret.length : Int) ≤ 300)) && (decide ((x_0.Code.length : Int) ≤ 300))) ∧ w3 = w1) (l' := fun x => [(12, .bool x)]) ?_ ?_
  · rintro _ _ ⟨rfl, rfl⟩
    refine sr_ev (v := .bool ((decide ((x_0.Secret.length : Int) ≤ 300)) && (decide ((x_0.Code.length : Int) ≤ 300)))) (ev_assign rfl) (by decide) ?_
    refine sr_end (l' := [(2, .bool ((decide ((x_0.Secret.length : Int) ≤ 300)) && (decide ((x_0.Code.length : Int) ≤ 300))))]) (.cons rfl (.nil _)) ?_
    cases hS
    exact ke_ret1 Tryd.func14 rfl rfl ⟨_, rfl, rfl, hb⟩
  · intro K9
    rcases Bool.eq_false_or_eq_true (decide ((x_0.Secret.length : Int) ≤ 300)) with hg8 | hg8
    · refine sr_evg (b := true) (e := 7) rfl rfl hg8 (v := .pointer (some ⟨g1, 1, none⟩)) (ev_fieldAddr (i := 1) Tryd.underlying29 rfl Tryd.info9 rfl rfl) (by decide) ?_
      refine sr_evg (b := true) (e := 7) rfl rfl hg8 (v := str x_0.Code) (ev_load Tryd.isAgg9 rfl (hH.cell (i := 0) rfl rfl)) (by decide) ?_
      refine sr_evg (b := true) (e := 7) rfl rfl hg8 (v := .int .i64 (x_0.Code.length : Int)) (ev_slen Tryd.underlying9 rfl) (by decide) ?_
      refine sr_evg (b := true) (e := 7) rfl rfl hg8 (v := .bool (decide ((x_0.Code.length : Int) ≤ 300))) (ev_le rfl rfl) (by decide) ?_
      refine sr_ev (v := .bool (decide ((x_0.Code.length : Int) ≤ 300))) (ev_pick_t rfl hg8 rfl) (by decide) ?_
      exact sr_weaken (l' := [(12, .bool (decide ((x_0.Code.length : Int) ≤ 300)))]) (.cons rfl (.nil _)) (K9 (decide ((x_0.Code.length : Int) ≤ 300)) _ ⟨by rw [hg8]; rfl, rfl⟩)
    · refine sr_pass (e := 7) rfl rfl (by rw [hg8]; rfl) (by decide) ?_
      refine sr_pass (e := 7) rfl rfl (by rw [hg8]; rfl) (by decide) ?_
      refine sr_pass (e := 7) rfl rfl (by rw [hg8]; rfl) (by decide) ?_
      refine sr_pass (e := 7) rfl rfl (by rw [hg8]; rfl) (by decide) ?_
      refine sr_ev (v := .bool false) (ev_pick_f rfl hg8 rfl) (by decide) ?_
      exact sr_weaken (l' := [(12, .bool false)]) (.cons rfl (.nil _)) (K9 false _ ⟨by rw [hg8]; rfl, rfl⟩)
theorem law23_typed_ok (w0 : World) (hg : Gs w0) {x_0 : law23_Try} {r : Str} (hS : law23_typed x_0 = some r) :
    Calls Tryd.prog 15 #[.agg #[str x_0.Secret, str x_0.Code, .int .i64 x_0.Last, .int .i64 x_0.Look, .int .i64 x_0.Now, .int .i64 x_0.K, .bool x_0.Near]] w0 (Ret (fun v w' => v = str r ∧ Below w0.heap.size w0 w')) := by
  unfold law23_typed at hS
  have hb := Below.refl w0.heap.size w0
  obtain ⟨A0, hA0, hAe⟩ : ∃ A0 : Nat → Prop, (∀ b, A0 b → b < w0.heap.size) ∧ A0 = fun _ => False := ⟨_, fun _ h => h.elim, rfl⟩
  clear hAe
  have hA := hA0
  have hi : ∀ b, A0 b → A0 b := fun _ h => h
  have hH := Hp.nil A0 w0.heap.size w0
  refine calls_of_ke Tryd.func15 rfl (n := 24) rfl rfl (l := [(0, .agg #[str x_0.Secret, str x_0.Code, .int .i64 x_0.Last, .int .i64 x_0.Look, .int .i64 x_0.Now, .int .i64 x_0.K, .bool x_0.Near])]) rfl ?_
  refine ke_seq ?_
  refine ke_region ?_
  refine sr_box hH hb.size hA rfl (by decide) ?_
  intro g1 A2 w3 hH1 hst4 hbw5 hinc6 hA1 hge7
  replace hb := hb.trans (hbw5.mono hb.size)
  replace hi := fun b hb => hinc6 b (hi b hb)
  replace hH : Hp A2 w0.heap.size w3 [(g1, .cells #[str x_0.Secret, str x_0.Code, .int .i64 x_0.Last, .int .i64 x_0.Look, .int .i64 x_0.Now, .int .i64 x_0.K, .bool x_0.Near] 29 (0, 0))] := hH1
  replace hA := hA1
  clear hH1 hA1
  refine sr_ev (v := str ([])) (ev_assign rfl) (by decide) ?_
  refine sr_end (l' := [(1, .pointer (some ⟨g1, 0, none⟩))]) (.cons rfl (.nil _)) ?_
  refine ke_seq ?_
  refine ke_seq ?_
  refine ke_region ?_
  refine sr_ev (v := .pointer (some ⟨g1, 6, none⟩)) (ev_fieldAddr (i := 6) Tryd.underlying29 rfl Tryd.info4 rfl rfl) (by decide) ?_
  refine sr_ev (v := .bool x_0.Near) (ev_load Tryd.isAgg4 rfl (hH.cell (i := 0) rfl rfl)) (by decide) ?_
  refine sr_end (l' := [(1, .pointer (some ⟨g1, 0, none⟩)), (6, .bool x_0.Near)]) (.cons rfl (.cons rfl (.nil _))) ?_
  refine ke_cond (t := x_0.Near) rfl (fun hc8 => ?_) (fun hc8 => ?_)
  · replace hS := ite_true' hS hc8
    refine ke_seq ?_
    refine ke_region ?_
    refine sr_ev (v := .pointer (some ⟨g1, 0, none⟩)) (ev_fieldAddr (i := 0) Tryd.underlying29 rfl Tryd.info9 rfl rfl) (by decide) ?_
    refine sr_ev (v := str x_0.Secret) (ev_load Tryd.isAgg9 rfl (hH.cell (i := 0) rfl rfl)) (by decide) ?_
    refine sr_ev (v := .pointer (some ⟨g1, 2, none⟩)) (ev_fieldAddr (i := 2) Tryd.underlying29 rfl Tryd.info3 rfl rfl) (by decide) ?_
    refine sr_ev (v := .int .i64 x_0.Last) (ev_load Tryd.isAgg3 rfl (hH.cell (i := 0) rfl rfl)) (by decide) ?_
    refine sr_ev (v := .int .i64 (gmin x_0.Last 1099511627776)) (ev_min rfl rfl) (by decide) ?_
    refine sr_ev (v := .int .i64 (gmax 0 (gmin x_0.Last 1099511627776))) (ev_max rfl rfl) (by decide) ?_
    refine sr_ev (v := .pointer (some ⟨g1, 5, none⟩)) (ev_fieldAddr (i := 5) Tryd.underlying29 rfl Tryd.info3 rfl rfl) (by decide) ?_
    refine sr_ev (v := .int .i64 x_0.K) (ev_load Tryd.isAgg3 rfl (hH.cell (i := 0) rfl rfl)) (by decide) ?_
    refine sr_ev (v := .int .i64 (Int.tmod x_0.K 20)) (ev_rem rfl rfl (by decide)) (by decide) ?_
    refine sr_ev (v := .int .i64 (IntKind.i64.wrap ((gmax 0 (gmin x_0.Last 1099511627776)) + (Int.tmod x_0.K 20)))) (ev_add rfl rfl) (by decide) ?_
    obtain ⟨y9, hy10, hS⟩ := bind_some' hS
    refine sr_call (vs := [str x_0.Secret, .int .i64 (IntKind.i64.wrap ((gmax 0 (gmin x_0.Last 1099511627776)) + (Int.tmod x_0.K 20)))]) rfl Tryd.call11 rfl (ref23_Code_ok _ (hg.below hb) hy10) (by decide) ?_
    rintro _ w11 ⟨rfl, hbw12⟩
    replace hb := hb.trans (hbw12.mono hb.size)
    replace hA := lt_mono hA hbw12.size
    replace hH := hH.below hbw12
    refine sr_ev (v := .tuple #[str y9.1, .int .i64 y9.2]) (ev_move rfl) (by decide) ?_
    refine sr_ev (v := str y9.1) (ev_extract rfl rfl) (by decide) ?_
    refine sr_ev (v := .int .i64 y9.2) (ev_extract rfl rfl) (by decide) ?_
    refine sr_ev (v := str y9.1) (ev_assign rfl) (by decide) ?_
    refine sr_ev (v := .int .i64 y9.2) (ev_assign rfl) (by decide) ?_
    refine sr_end (l' := [(3, str y9.1)]) (.cons rfl (.nil _)) ?_
    refine ke_seq ?_
    refine ke_region ?_
    refine sr_ev (v := str y9.1) (ev_move rfl) (by decide) ?_
    refine sr_ev (v := str y9.1) (ev_assign rfl) (by decide) ?_
    refine sr_end (l' := [(2, str y9.1)]) (.cons rfl (.nil _)) ?_
    cases hS
    exact ke_ret1 Tryd.func15 rfl rfl ⟨_, rfl, rfl, hb⟩
  · replace hS := ite_false' hS hc8
    refine ke_skip ?_
    refine ke_seq ?_
    refine ke_region ?_
    refine sr_ev (v := .pointer (some ⟨g1, 1, none⟩)) (ev_fieldAddr (i := 1) Tryd.underlying29 rfl Tryd.info9 rfl rfl) (by decide) ?_
    refine sr_ev (v := str x_0.Code) (ev_load Tryd.isAgg9 rfl (hH.cell (i := 0) rfl rfl)) (by decide) ?_
    refine sr_ev (v := str x_0.Code) (ev_assign rfl) (by decide) ?_
    refine sr_end (l' := [(2, str x_0.Code)]) (.cons rfl (.nil _)) ?_
    cases hS
    exact ke_ret1 Tryd.func15 rfl rfl ⟨_, rfl, rfl, hb⟩
theorem ref23_possible_L1_ok {w0 : World} (hg : Gs w0) : ∀ (n : Nat), ∀ {r : Bool} {code_0 : Str} {i_3 : Int}, ref23_possible_L1 n code_0 i_3 = some r → ∀ {w : World}, (Below w0.heap.size w0 w) → KE Tryd.prog 40 (Ret (fun v w' => v = .bool r ∧ Below w0.heap.size w0 w')) 23 [.code (sub (bodyOf Tryd.f40) [2, 1, 2, 2, 1]), .inLoop (sub (bodyOf Tryd.f40) [2, 1, 2, 2, 1]), .inBlock 0, .code (sub (bodyOf Tryd.f40) [2, 2])] [(0, str code_0), (3, .int .i64 i_3)] w := by
  intro n
  induction n with
  | zero => intro r code_0 i_3 hS; cases hS
  | succ n ih =>
    have hr0 : ∀ {r : Bool} {code_0 : Str} {i_3 : Int}, ref23_possible_L1 n code_0 i_3 = some r → ∀ {w : World}, (Below w0.heap.size w0 w) → KE Tryd.prog 40 (Ret (fun v w' => v = .bool r ∧ Below w0.heap.size w0 w')) 23 [.inLoop (sub (bodyOf Tryd.f40) [2, 1, 2, 2, 1]), .inBlock 0, .code (sub (bodyOf Tryd.f40) [2, 2])] [(0, str code_0), (3, .int .i64 i_3)] w := fun {r} {code_0} {i_3} hS {w} hb => ke_inLoop (ih hS hb)
    clear ih
    intro r code_0 i_3 hS w hb
    unfold ref23_possible_L1 at hS
    refine ke_seq ?_
    refine ke_seq ?_
    refine ke_region ?_
    refine sr_ev (v := .int .i64 i_3) (ev_move rfl) (by decide) ?_
    refine sr_ev (v := str code_0) (ev_move rfl) (by decide) ?_
    refine sr_ev (v := .int .i64 (code_0.length : Int)) (ev_slen Tryd.underlying9 rfl) (by decide) ?_
    refine sr_ev (v := .bool (decide (i_3 < (code_0.length : Int)))) (ev_lt rfl rfl) (by decide) ?_
    refine sr_end (l' := [(0, str code_0), (3, .int .i64 i_3), (7, .bool (decide (i_3 < (code_0.length : Int))))]) (.cons rfl (.cons rfl (.cons rfl (.nil _)))) ?_
    refine ke_cond (t := decide (i_3 < (code_0.length : Int))) rfl (fun hc1 => ?_) (fun hc1 => ?_)
    · replace hS := ite_true' hS hc1
      refine ke_skip ?_
      refine ke_seq ?_
      refine ke_block ?_
      refine ke_seq ?_
      refine ke_region ?_
      refine sr_ev (v := str code_0) (ev_move rfl) (by decide) ?_
      refine sr_ev (v := .int .i64 i_3) (ev_move rfl) (by decide) ?_
      obtain ⟨hk2, hS⟩ := chk_some hS
      refine sr_ev (v := .int .u8 (byteAt code_0 i_3)) (ev_sindex Tryd.underlying9 rfl rfl hk2) (by decide) ?_
      refine sr_ev (v := .bool (decide ((byteAt code_0 i_3) < 48))) (ev_lt rfl rfl) (by decide) ?_
      refine sr_ev (v := .bool (decide ((byteAt code_0 i_3) < 48))) (ev_move rfl) (by decide) ?_
      obtain ⟨z5, hz7, hS⟩ := bind_some' hS
      refine sr_join (m := 5) (C := fun (x : Bool) w1 => z5 = x ∧ Below w.heap.size w w1) (l' := fun x => [(0, str code_0), (3, .int .i64 i_3), (19, .bool x)]) ?_ ?_
      · rintro _ w8 ⟨rfl, hbw9⟩
        replace hb := hb.trans (hbw9.mono hb.size)
        refine sr_end (l' := [(0, str code_0), (3, .int .i64 i_3), (19, .bool z5)]) (.cons rfl (.cons rfl (.cons rfl (.nil _)))) ?_
        refine ke_cond (t := z5) rfl (fun hc11 => ?_) (fun hc11 => ?_)
        · replace hS := ite_true' hS hc11
          refine ke_seq ?_
          refine ke_region ?_
          refine sr_ev (v := .bool false) (ev_assign rfl) (by decide) ?_
          refine sr_end (l' := [(2, .bool false)]) (.cons rfl (.nil _)) ?_
          cases hS
          exact ke_ret1 Tryd.func40 rfl rfl ⟨_, rfl, rfl, hb⟩
        · replace hS := ite_false' hS hc11
          refine ke_skip ?_
          refine ke_inBlock ?_
          refine ke_region ?_
          refine sr_ev (v := .int .i64 i_3) (ev_move rfl) (by decide) ?_
          refine sr_ev (v := .int .i64 (IntKind.i64.wrap (i_3 + 1))) (ev_add rfl rfl) (by decide) ?_
          refine sr_ev (v := .int .i64 (IntKind.i64.wrap (i_3 + 1))) (ev_assign rfl) (by decide) ?_
          refine sr_end (l' := [(0, str code_0), (3, .int .i64 (IntKind.i64.wrap (i_3 + 1)))]) (.cons rfl (.cons rfl (.nil _))) ?_
          have hK := hr0 hS hb
          exact ke_weaken (l' := [(0, str code_0), (3, .int .i64 (IntKind.i64.wrap (i_3 + 1)))]) (.cons rfl (.cons rfl (.nil _))) hK
      · intro K4
        clear hS
        have hj6 := Below.refl w.heap.size w
        rcases Bool.eq_false_or_eq_true (decide ((byteAt code_0 i_3) < 48)) with hg3 | hg3
        · have hS := ite_true' hz7 hg3
          refine sr_pass (e := 14) rfl rfl (by rw [hg3]; rfl) (by decide) ?_
          refine sr_pass (e := 14) rfl rfl (by rw [hg3]; rfl) (by decide) ?_
          refine sr_pass (e := 14) rfl rfl (by rw [hg3]; rfl) (by decide) ?_
          refine sr_pass (e := 14) rfl rfl (by rw [hg3]; rfl) (by decide) ?_
          refine sr_ev (v := .bool true) (ev_pick_t rfl hg3 rfl) (by decide) ?_
          exact sr_weaken (l' := [(0, str code_0), (3, .int .i64 i_3), (19, .bool true)]) (.cons rfl (.cons rfl (.cons rfl (.nil _)))) (K4 true _ ⟨(Option.some.inj hS).symm, hj6⟩)
        · have hS := ite_false' hz7 hg3
          refine sr_evg (b := false) (e := 14) rfl rfl hg3 (v := str code_0) (ev_move rfl) (by decide) ?_
          refine sr_evg (b := false) (e := 14) rfl rfl hg3 (v := .int .i64 i_3) (ev_move rfl) (by decide) ?_
          obtain ⟨hk10, hS⟩ := chk_some hS
          refine sr_evg (b := false) (e := 14) rfl rfl hg3 (v := .int .u8 (byteAt code_0 i_3)) (ev_sindex Tryd.underlying9 rfl rfl hk10) (by decide) ?_
          refine sr_evg (b := false) (e := 14) rfl rfl hg3 (v := .bool (decide ((byteAt code_0 i_3) > 57))) (ev_gt rfl rfl) (by decide) ?_
          refine sr_ev (v := .bool (decide ((byteAt code_0 i_3) > 57))) (ev_pick_f rfl hg3 rfl) (by decide) ?_
          exact sr_weaken (l' := [(0, str code_0), (3, .int .i64 i_3), (19, .bool (decide ((byteAt code_0 i_3) > 57)))]) (.cons rfl (.cons rfl (.cons rfl (.nil _)))) (K4 (decide ((byteAt code_0 i_3) > 57)) _ ⟨(Option.some.inj hS).symm, hj6⟩)
    · replace hS := ite_false' hS hc1
      refine ke_exit (k' := _) rfl ?_
      refine ke_seq ?_
      refine ke_region ?_
      refine sr_ev (v := str code_0) (ev_move rfl) (by decide) ?_
      refine sr_ev (v := .int .i64 (code_0.length : Int)) (ev_slen Tryd.underlying9 rfl) (by decide) ?_
      refine sr_ev (v := .bool ((code_0.length : Int) == 6)) (ev_eq rfl rfl) (by decide) ?_
      refine sr_ev (v := .bool ((code_0.length : Int) == 6)) (ev_assign rfl) (by decide) ?_
      refine sr_end (l' := [(2, .bool ((code_0.length : Int) == 6))]) (.cons rfl (.nil _)) ?_
      cases hS
      exact ke_ret1 Tryd.func40 rfl rfl ⟨_, rfl, rfl, hb⟩
theorem ref23_possible_ok (w0 : World) (hg : Gs w0) {code_0 : Str} {r : Bool} (hS : ref23_possible code_0 = some r) :
    Calls Tryd.prog 40 #[str code_0] w0 (Ret (fun v w' => v = .bool r ∧ Below w0.heap.size w0 w')) := by
  unfold ref23_possible at hS
  have hb := Below.refl w0.heap.size w0
  refine calls_of_ke Tryd.func40 rfl (n := 23) rfl rfl (l := [(0, str code_0)]) rfl ?_
  refine ke_seq ?_
  refine ke_region ?_
  refine sr_ev (v := .bool false) (ev_assign rfl) (by decide) ?_
  refine sr_end (l' := [(0, str code_0)]) (.cons rfl (.nil _)) ?_
  refine ke_seq ?_
  refine ke_seq ?_
  refine ke_region ?_
  refine sr_ev (v := .int .i64 0) (ev_assign rfl) (by decide) ?_
  refine sr_end (l' := [(0, str code_0), (3, .int .i64 0)]) (.cons rfl (.cons rfl (.nil _))) ?_
  refine ke_block ?_
  have hK := ref23_possible_L1_ok hg _ hS hb
  exact ke_weaken (l' := [(0, str code_0), (3, .int .i64 0)]) (.cons rfl (.cons rfl (.nil _))) (ke_loop hK)
theorem ref23_first_L1_ok {w0 : World} (hg : Gs w0) : ∀ (n : Nat), ∀ {r : Int × Int} {secret_0 : Str} {to_2 : Int} {code_3 : Str} {c_10 : Int}, ref23_first_L1 n secret_0 to_2 code_3 c_10 = some r → ∀ {w : World}, (Below w0.heap.size w0 w) → KE Tryd.prog 41 (Ret (fun v w' => v = .tuple #[.int .i64 r.1, .int .i64 r.2] ∧ Below w0.heap.size w0 w')) 33 [.code (sub (bodyOf Tryd.f41) [2, 1, 2, 2, 1]), .inLoop (sub (bodyOf Tryd.f41) [2, 1, 2, 2, 1]), .inBlock 0, .code (sub (bodyOf Tryd.f41) [2, 2])] [(0, str secret_0), (2, .int .i64 to_2), (3, str code_3), (10, .int .i64 c_10)] w := by
  intro n
  induction n with
  | zero => intro r secret_0 to_2 code_3 c_10 hS; cases hS
  | succ n ih =>
    have hr0 : ∀ {r : Int × Int} {secret_0 : Str} {to_2 : Int} {code_3 : Str} {c_10 : Int}, ref23_first_L1 n secret_0 to_2 code_3 c_10 = some r → ∀ {w : World}, (Below w0.heap.size w0 w) → KE Tryd.prog 41 (Ret (fun v w' => v = .tuple #[.int .i64 r.1, .int .i64 r.2] ∧ Below w0.heap.size w0 w')) 33 [.inLoop (sub (bodyOf Tryd.f41) [2, 1, 2, 2, 1]), .inBlock 0, .code (sub (bodyOf Tryd.f41) [2, 2])] [(0, str secret_0), (2, .int .i64 to_2), (3, str code_3), (10, .int .i64 c_10)] w := fun {r} {secret_0} {to_2} {code_3} {c_10} hS {w} hb => ke_inLoop (ih hS hb)
    clear ih
    intro r secret_0 to_2 code_3 c_10 hS w hb
    unfold ref23_first_L1 at hS
    refine ke_seq ?_
    refine ke_seq ?_
    refine ke_region ?_
    refine sr_ev (v := .int .i64 c_10) (ev_move rfl) (by decide) ?_
    refine sr_ev (v := .int .i64 to_2) (ev_move rfl) (by decide) ?_
    refine sr_ev (v := .bool (decide (c_10 ≤ to_2))) (ev_le rfl rfl) (by decide) ?_
    refine sr_end (l' := [(0, str secret_0), (2, .int .i64 to_2), (3, str code_3), (10, .int .i64 c_10), (16, .bool (decide (c_10 ≤ to_2)))]) (.cons rfl (.cons rfl (.cons rfl (.cons rfl (.cons rfl (.nil _)))))) ?_
    refine ke_cond (t := decide (c_10 ≤ to_2)) rfl (fun hc1 => ?_) (fun hc1 => ?_)
    · replace hS := ite_true' hS hc1
      refine ke_skip ?_
      refine ke_seq ?_
      refine ke_block ?_
      refine ke_seq ?_
      refine ke_region ?_
      refine sr_ev (v := str secret_0) (ev_move rfl) (by decide) ?_
      refine sr_ev (v := .int .i64 c_10) (ev_move rfl) (by decide) ?_
      obtain ⟨y2, hy3, hS⟩ := bind_some' hS
      refine sr_call (vs := [str secret_0, .int .i64 c_10]) rfl Tryd.call11 rfl (ref23_Code_ok _ (hg.below hb) hy3) (by decide) ?_
      rintro _ w4 ⟨rfl, hbw5⟩
      replace hb := hb.trans (hbw5.mono hb.size)
      refine sr_ev (v := .tuple #[str y2.1, .int .i64 y2.2]) (ev_move rfl) (by decide) ?_
      refine sr_ev (v := str y2.1) (ev_extract rfl rfl) (by decide) ?_
      refine sr_ev (v := .int .i64 y2.2) (ev_extract rfl rfl) (by decide) ?_
      refine sr_ev (v := str y2.1) (ev_assign rfl) (by decide) ?_
      refine sr_ev (v := .int .i64 y2.2) (ev_assign rfl) (by decide) ?_
      refine sr_end (l' := [(0, str secret_0), (2, .int .i64 to_2), (3, str code_3), (10, .int .i64 c_10), (11, str y2.1), (12, .int .i64 y2.2)]) (.cons rfl (.cons rfl (.cons rfl (.cons rfl (.cons rfl (.cons rfl (.nil _))))))) ?_
      refine ke_seq ?_
      refine ke_region ?_
      refine sr_ev (v := .int .i64 y2.2) (ev_move rfl) (by decide) ?_
      refine sr_ev (v := .bool (y2.2 == 0)) (ev_eq rfl rfl) (by decide) ?_
      refine sr_ev (v := .bool (y2.2 == 0)) (ev_move rfl) (by decide) ?_
      refine sr_join (m := 4) (C := fun (x : Bool) w1 => x = ((y2.2 == 0) && (y2.1 == code_3)) ∧ w4 = w1) (l' := fun x => [(0, str secret_0), (2, .int .i64 to_2), (3, str code_3), (10, .int .i64 c_10), (31, .bool x)]) ?_ ?_
      · rintro _ _ ⟨rfl, rfl⟩
        refine sr_end (l' := [(0, str secret_0), (2, .int .i64 to_2), (3, str code_3), (10, .int .i64 c_10), (31, .bool ((y2.2 == 0) && (y2.1 == code_3)))]) (.cons rfl (.cons rfl (.cons rfl (.cons rfl (.cons rfl (.nil _)))))) ?_
        refine ke_cond (t := (y2.2 == 0) && (y2.1 == code_3)) rfl (fun hc13 => ?_) (fun hc13 => ?_)
        · replace hS := ite_true' hS hc13
          refine ke_seq ?_
          refine ke_region ?_
          refine sr_ev (v := .int .i64 c_10) (ev_move rfl) (by decide) ?_
          refine sr_ev (v := .int .i64 c_10) (ev_assign rfl) (by decide) ?_
          refine sr_ev (v := .int .i64 0) (ev_assign rfl) (by decide) ?_
          refine sr_end (l' := [(8, .int .i64 c_10), (9, .int .i64 0)]) (.cons rfl (.cons rfl (.nil _))) ?_
          cases hS
          exact ke_ret2 Tryd.func41 rfl rfl rfl ⟨_, rfl, rfl, hb⟩
        · replace hS := ite_false' hS hc13
          refine ke_skip ?_
          refine ke_inBlock ?_
          refine ke_region ?_
          refine sr_ev (v := .int .i64 c_10) (ev_move rfl) (by decide) ?_
          refine sr_ev (v := .int .i64 (IntKind.i64.wrap (c_10 + 1))) (ev_add rfl rfl) (by decide) ?_
          refine sr_ev (v := .int .i64 (IntKind.i64.wrap (c_10 + 1))) (ev_assign rfl) (by decide) ?_
          refine sr_end (l' := [(0, str secret_0), (2, .int .i64 to_2), (3, str code_3), (10, .int .i64 (IntKind.i64.wrap (c_10 + 1)))]) (.cons rfl (.cons rfl (.cons rfl (.cons rfl (.nil _))))) ?_
          have hK := hr0 hS hb
          exact ke_weaken (l' := [(0, str secret_0), (2, .int .i64 to_2), (3, str code_3), (10, .int .i64 (IntKind.i64.wrap (c_10 + 1)))]) (.cons rfl (.cons rfl (.cons rfl (.cons rfl (.nil _))))) hK
      · intro K7
        rcases Bool.eq_false_or_eq_true (y2.2 == 0) with hg6 | hg6
        · refine sr_evg (b := true) (e := 27) rfl rfl hg6 (v := str y2.1) (ev_move rfl) (by decide) ?_
          refine sr_evg (b := true) (e := 27) rfl rfl hg6 (v := str code_3) (ev_move rfl) (by decide) ?_
          refine sr_evg (b := true) (e := 27) rfl rfl hg6 (v := .bool (y2.1 == code_3)) (ev_seq rfl rfl) (by decide) ?_
          refine sr_ev (v := .bool (y2.1 == code_3)) (ev_pick_t rfl hg6 rfl) (by decide) ?_
          exact sr_weaken (l' := [(0, str secret_0), (2, .int .i64 to_2), (3, str code_3), (10, .int .i64 c_10), (31, .bool (y2.1 == code_3))]) (.cons rfl (.cons rfl (.cons rfl (.cons rfl (.cons rfl (.nil _)))))) (K7 (y2.1 == code_3) _ ⟨by rw [hg6]; rfl, rfl⟩)
        · refine sr_pass (e := 27) rfl rfl (by rw [hg6]; rfl) (by decide) ?_
          refine sr_pass (e := 27) rfl rfl (by rw [hg6]; rfl) (by decide) ?_
          refine sr_pass (e := 27) rfl rfl (by rw [hg6]; rfl) (by decide) ?_
          refine sr_ev (v := .bool false) (ev_pick_f rfl hg6 rfl) (by decide) ?_
          exact sr_weaken (l' := [(0, str secret_0), (2, .int .i64 to_2), (3, str code_3), (10, .int .i64 c_10), (31, .bool false)]) (.cons rfl (.cons rfl (.cons rfl (.cons rfl (.cons rfl (.nil _)))))) (K7 false _ ⟨by rw [hg6]; rfl, rfl⟩)
    · replace hS := ite_false' hS hc1
      refine ke_exit (k' := _) rfl ?_
      refine ke_seq ?_
      refine ke_region ?_
      refine sr_ev (v := .int .i64 0) (ev_assign rfl) (by decide) ?_
      refine sr_ev (v := .int .i64 11) (ev_assign rfl) (by decide) ?_
      refine sr_end (l' := [(8, .int .i64 0), (9, .int .i64 11)]) (.cons rfl (.cons rfl (.nil _))) ?_
      cases hS
      exact ke_ret2 Tryd.func41 rfl rfl rfl ⟨_, rfl, rfl, hb⟩
theorem ref23_first_ok (w0 : World) (hg : Gs w0) {secret_0 : Str} {from_1 : Int} {to_2 : Int} {code_3 : Str} {r : Int × Int} (hS : ref23_first secret_0 from_1 to_2 code_3 = some r) :
    Calls Tryd.prog 41 #[str secret_0, .int .i64 from_1, .int .i64 to_2, str code_3] w0 (Ret (fun v w' => v = .tuple #[.int .i64 r.1, .int .i64 r.2] ∧ Below w0.heap.size w0 w')) := by
  unfold ref23_first at hS
  have hb := Below.refl w0.heap.size w0
  refine calls_of_ke Tryd.func41 rfl (n := 33) rfl rfl (l := [(0, str secret_0), (1, .int .i64 from_1), (2, .int .i64 to_2), (3, str code_3)]) rfl ?_
  refine ke_seq ?_
  refine ke_region ?_
  refine sr_ev (v := .int .i64 0) (ev_assign rfl) (by decide) ?_
  refine sr_ev (v := .int .i64 0) (ev_assign rfl) (by decide) ?_
  refine sr_end (l' := [(0, str secret_0), (1, .int .i64 from_1), (2, .int .i64 to_2), (3, str code_3)]) (.cons rfl (.cons rfl (.cons rfl (.cons rfl (.nil _))))) ?_
  refine ke_seq ?_
  refine ke_seq ?_
  refine ke_region ?_
  refine sr_ev (v := .int .i64 from_1) (ev_move rfl) (by decide) ?_
  refine sr_ev (v := .int .i64 from_1) (ev_assign rfl) (by decide) ?_
  refine sr_end (l' := [(0, str secret_0), (2, .int .i64 to_2), (3, str code_3), (10, .int .i64 from_1)]) (.cons rfl (.cons rfl (.cons rfl (.cons rfl (.nil _))))) ?_
  refine ke_block ?_
  have hK := ref23_first_L1_ok hg _ hS hb
  exact ke_weaken (l' := [(0, str secret_0), (2, .int .i64 to_2), (3, str code_3), (10, .int .i64 from_1)]) (.cons rfl (.cons rfl (.cons rfl (.cons rfl (.nil _))))) (ke_loop hK)
theorem ref23_Verify_ok (w0 : World) (hg : Gs w0) {secret_0 : Str} {last_1 : Int} {look_2 : Int} {code_3 : Str} {r : Int × Int} (hS : ref23_Verify secret_0 last_1 look_2 code_3 = some r) :
    Calls Tryd.prog 17 #[str secret_0, .int .i64 last_1, .int .i64 look_2, str code_3] w0 (Ret (fun v w' => v = .tuple #[.int .i64 r.1, .int .i64 r.2] ∧ Below w0.heap.size w0 w')) := by
  unfold ref23_Verify at hS
  have hb := Below.refl w0.heap.size w0
  refine calls_of_ke Tryd.func17 rfl (n := 43) rfl rfl (l := [(0, str secret_0), (1, .int .i64 last_1), (2, .int .i64 look_2), (3, str code_3)]) rfl ?_
  refine ke_seq ?_
  refine ke_region ?_
  refine sr_ev (v := .int .i64 0) (ev_assign rfl) (by decide) ?_
  refine sr_ev (v := .int .i64 0) (ev_assign rfl) (by decide) ?_
  refine sr_end (l' := [(0, str secret_0), (1, .int .i64 last_1), (2, .int .i64 look_2), (3, str code_3)]) (.cons rfl (.cons rfl (.cons rfl (.cons rfl (.nil _))))) ?_
  refine ke_seq ?_
  refine ke_seq ?_
  refine ke_region ?_
  refine sr_ev (v := str secret_0) (ev_move rfl) (by decide) ?_
  obtain ⟨y1, hy2, hS⟩ := bind_some' hS
  refine sr_call (vs := [str secret_0]) rfl Tryd.call31 rfl (ref01_Clean_ok _ (hg.below hb) hy2) (by decide) ?_
  rintro _ w3 ⟨rfl, hbw4⟩
  replace hb := hb.trans (hbw4.mono hb.size)
  refine sr_ev (v := .bool (!y1)) (ev_not rfl) (by decide) ?_
  refine sr_ev (v := .bool (!y1)) (ev_move rfl) (by decide) ?_
  obtain ⟨z7, hz9, hS⟩ := bind_some' hS
  refine sr_join (m := 4) (C := fun (x : Bool) w1 => z7 = x ∧ Below w3.heap.size w3 w1) (l' := fun x => [(0, str secret_0), (1, .int .i64 last_1), (2, .int .i64 look_2), (3, str code_3), (17, .bool x)]) ?_ ?_
  · rintro _ w10 ⟨rfl, hbw11⟩
    replace hb := hb.trans (hbw11.mono hb.size)
    refine sr_end (l' := [(0, str secret_0), (1, .int .i64 last_1), (2, .int .i64 look_2), (3, str code_3), (17, .bool z7)]) (.cons rfl (.cons rfl (.cons rfl (.cons rfl (.cons rfl (.nil _)))))) ?_
    refine ke_cond (t := z7) rfl (fun hc16 => ?_) (fun hc16 => ?_)
    · replace hS := ite_true' hS hc16
      refine ke_seq ?_
      refine ke_region ?_
      refine sr_ev (v := .int .i64 0) (ev_assign rfl) (by decide) ?_
      refine sr_ev (v := .int .i64 4) (ev_assign rfl) (by decide) ?_
      refine sr_end (l' := [(8, .int .i64 0), (9, .int .i64 4)]) (.cons rfl (.cons rfl (.nil _))) ?_
      cases hS
      exact ke_ret2 Tryd.func17 rfl rfl rfl ⟨_, rfl, rfl, hb⟩
    · replace hS := ite_false' hS hc16
      refine ke_skip ?_
      refine ke_seq ?_
      refine ke_seq ?_
      refine ke_region ?_
      refine sr_ev (v := .int .i64 last_1) (ev_move rfl) (by decide) ?_
      refine sr_ev (v := .bool (decide (last_1 < (-1)))) (ev_lt rfl rfl) (by decide) ?_
      refine sr_ev (v := .bool (decide (last_1 < (-1)))) (ev_move rfl) (by decide) ?_
      refine sr_join (m := 3) (C := fun (x : Bool) w1 => x = ((decide (last_1 < (-1))) || (decide (last_1 > 36650387592))) ∧ w10 = w1) (l' := fun x => [(0, str secret_0), (1, .int .i64 last_1), (2, .int .i64 look_2), (3, str code_3), (23, .bool x)]) ?_ ?_
      · rintro _ _ ⟨rfl, rfl⟩
        refine sr_ev (v := .bool ((decide (last_1 < (-1))) || (decide (last_1 > 36650387592)))) (ev_move rfl) (by decide) ?_
        refine sr_join (m := 3) (C := fun (x : Bool) w1 => x = (((decide (last_1 < (-1))) || (decide (last_1 > 36650387592))) || (decide (look_2 < 0))) ∧ w10 = w1) (l' := fun x => [(0, str secret_0), (1, .int .i64 last_1), (2, .int .i64 look_2), (3, str code_3), (27, .bool x)]) ?_ ?_
        · rintro _ _ ⟨rfl, rfl⟩
          refine sr_ev (v := .bool (((decide (last_1 < (-1))) || (decide (last_1 > 36650387592))) || (decide (look_2 < 0)))) (ev_move rfl) (by decide) ?_
          refine sr_join (m := 3) (C := fun (x : Bool) w1 => x = ((((decide (last_1 < (-1))) || (decide (last_1 > 36650387592))) || (decide (look_2 < 0))) || (decide (look_2 > 16))) ∧ w10 = w1) (l' := fun x => [(0, str secret_0), (1, .int .i64 last_1), (2, .int .i64 look_2), (3, str code_3), (31, .bool x)]) ?_ ?_
          · rintro _ _ ⟨rfl, rfl⟩
            refine sr_end (l' := [(0, str secret_0), (1, .int .i64 last_1), (2, .int .i64 look_2), (3, str code_3), (31, .bool ((((decide (last_1 < (-1))) || (decide (last_1 > 36650387592))) || (decide (look_2 < 0))) || (decide (look_2 > 16))))]) (.cons rfl (.cons rfl (.cons rfl (.cons rfl (.cons rfl (.nil _)))))) ?_
            refine ke_cond (t := (((decide (last_1 < (-1))) || (decide (last_1 > 36650387592))) || (decide (look_2 < 0))) || (decide (look_2 > 16))) rfl (fun hc38 => ?_) (fun hc38 => ?_)
            · replace hS := ite_true' hS hc38
              refine ke_seq ?_
              refine ke_region ?_
              refine sr_ev (v := .int .i64 0) (ev_assign rfl) (by decide) ?_
              refine sr_ev (v := .int .i64 27) (ev_assign rfl) (by decide) ?_
              refine sr_end (l' := [(8, .int .i64 0), (9, .int .i64 27)]) (.cons rfl (.cons rfl (.nil _))) ?_
              cases hS
              exact ke_ret2 Tryd.func17 rfl rfl rfl ⟨_, rfl, rfl, hb⟩
            · replace hS := ite_false' hS hc38
              refine ke_skip ?_
              refine ke_seq ?_
              refine ke_region ?_
              refine sr_ev (v := str secret_0) (ev_move rfl) (by decide) ?_
              refine sr_ev (v := .int .i64 last_1) (ev_move rfl) (by decide) ?_
              refine sr_ev (v := .int .i64 (IntKind.i64.wrap (last_1 + 1))) (ev_add rfl rfl) (by decide) ?_
              refine sr_ev (v := .int .i64 last_1) (ev_move rfl) (by decide) ?_
              refine sr_ev (v := .int .i64 look_2) (ev_move rfl) (by decide) ?_
              refine sr_ev (v := .int .i64 (IntKind.i64.wrap (last_1 + look_2))) (ev_add rfl rfl) (by decide) ?_
              refine sr_ev (v := .int .i64 (gmin (IntKind.i64.wrap (last_1 + look_2)) 36650387592)) (ev_min rfl rfl) (by decide) ?_
              refine sr_ev (v := str code_3) (ev_move rfl) (by decide) ?_
              obtain ⟨y39, hy40, hS⟩ := bind_some' hS
              refine sr_call (vs := [str secret_0, .int .i64 (IntKind.i64.wrap (last_1 + 1)), .int .i64 (gmin (IntKind.i64.wrap (last_1 + look_2)) 36650387592), str code_3]) rfl Tryd.call41 rfl (ref23_first_ok _ (hg.below hb) hy40) (by decide) ?_
              rintro _ w41 ⟨rfl, hbw42⟩
              replace hb := hb.trans (hbw42.mono hb.size)
              refine sr_ev (v := .int .i64 y39.1) (ev_extract rfl rfl) (by decide) ?_
              refine sr_ev (v := .int .i64 y39.2) (ev_extract rfl rfl) (by decide) ?_
              refine sr_ev (v := .int .i64 y39.1) (ev_assign rfl) (by decide) ?_
              refine sr_ev (v := .int .i64 y39.2) (ev_assign rfl) (by decide) ?_
              refine sr_end (l' := [(8, .int .i64 y39.1), (9, .int .i64 y39.2)]) (.cons rfl (.cons rfl (.nil _))) ?_
              cases hS
              exact ke_ret2 Tryd.func17 rfl rfl rfl ⟨_, rfl, rfl, hb⟩
          · intro K32
            rcases Bool.eq_false_or_eq_true (((decide (last_1 < (-1))) || (decide (last_1 > 36650387592))) || (decide (look_2 < 0))) with hg31 | hg31
            · refine sr_pass (e := 28) rfl rfl (by rw [hg31]; rfl) (by decide) ?_
              refine sr_pass (e := 28) rfl rfl (by rw [hg31]; rfl) (by decide) ?_
              refine sr_ev (v := .bool true) (ev_pick_t rfl hg31 rfl) (by decide) ?_
              exact sr_weaken (l' := [(0, str secret_0), (1, .int .i64 last_1), (2, .int .i64 look_2), (3, str code_3), (31, .bool true)]) (.cons rfl (.cons rfl (.cons rfl (.cons rfl (.cons rfl (.nil _)))))) (K32 true _ ⟨by rw [hg31]; rfl, rfl⟩)
            · refine sr_evg (b := false) (e := 28) rfl rfl hg31 (v := .int .i64 look_2) (ev_move rfl) (by decide) ?_
              refine sr_evg (b := false) (e := 28) rfl rfl hg31 (v := .bool (decide (look_2 > 16))) (ev_gt rfl rfl) (by decide) ?_
              refine sr_ev (v := .bool (decide (look_2 > 16))) (ev_pick_f rfl hg31 rfl) (by decide) ?_
              exact sr_weaken (l' := [(0, str secret_0), (1, .int .i64 last_1), (2, .int .i64 look_2), (3, str code_3), (31, .bool (decide (look_2 > 16)))]) (.cons rfl (.cons rfl (.cons rfl (.cons rfl (.cons rfl (.nil _)))))) (K32 (decide (look_2 > 16)) _ ⟨by rw [hg31]; rfl, rfl⟩)
        · intro K25
          rcases Bool.eq_false_or_eq_true ((decide (last_1 < (-1))) || (decide (last_1 > 36650387592))) with hg24 | hg24
          · refine sr_pass (e := 24) rfl rfl (by rw [hg24]; rfl) (by decide) ?_
            refine sr_pass (e := 24) rfl rfl (by rw [hg24]; rfl) (by decide) ?_
            refine sr_ev (v := .bool true) (ev_pick_t rfl hg24 rfl) (by decide) ?_
            exact sr_weaken (l' := [(0, str secret_0), (1, .int .i64 last_1), (2, .int .i64 look_2), (3, str code_3), (27, .bool true)]) (.cons rfl (.cons rfl (.cons rfl (.cons rfl (.cons rfl (.nil _)))))) (K25 true _ ⟨by rw [hg24]; rfl, rfl⟩)
          · refine sr_evg (b := false) (e := 24) rfl rfl hg24 (v := .int .i64 look_2) (ev_move rfl) (by decide) ?_
            refine sr_evg (b := false) (e := 24) rfl rfl hg24 (v := .bool (decide (look_2 < 0))) (ev_lt rfl rfl) (by decide) ?_
            refine sr_ev (v := .bool (decide (look_2 < 0))) (ev_pick_f rfl hg24 rfl) (by decide) ?_
            exact sr_weaken (l' := [(0, str secret_0), (1, .int .i64 last_1), (2, .int .i64 look_2), (3, str code_3), (27, .bool (decide (look_2 < 0)))]) (.cons rfl (.cons rfl (.cons rfl (.cons rfl (.cons rfl (.nil _)))))) (K25 (decide (look_2 < 0)) _ ⟨by rw [hg24]; rfl, rfl⟩)
      · intro K18
        rcases Bool.eq_false_or_eq_true (decide (last_1 < (-1))) with hg17 | hg17
        · refine sr_pass (e := 20) rfl rfl (by rw [hg17]; rfl) (by decide) ?_
          refine sr_pass (e := 20) rfl rfl (by rw [hg17]; rfl) (by decide) ?_
          refine sr_ev (v := .bool true) (ev_pick_t rfl hg17 rfl) (by decide) ?_
          exact sr_weaken (l' := [(0, str secret_0), (1, .int .i64 last_1), (2, .int .i64 look_2), (3, str code_3), (23, .bool true)]) (.cons rfl (.cons rfl (.cons rfl (.cons rfl (.cons rfl (.nil _)))))) (K18 true _ ⟨by rw [hg17]; rfl, rfl⟩)
        · refine sr_evg (b := false) (e := 20) rfl rfl hg17 (v := .int .i64 last_1) (ev_move rfl) (by decide) ?_
          refine sr_evg (b := false) (e := 20) rfl rfl hg17 (v := .bool (decide (last_1 > 36650387592))) (ev_gt rfl rfl) (by decide) ?_
          refine sr_ev (v := .bool (decide (last_1 > 36650387592))) (ev_pick_f rfl hg17 rfl) (by decide) ?_
          exact sr_weaken (l' := [(0, str secret_0), (1, .int .i64 last_1), (2, .int .i64 look_2), (3, str code_3), (23, .bool (decide (last_1 > 36650387592)))]) (.cons rfl (.cons rfl (.cons rfl (.cons rfl (.cons rfl (.nil _)))))) (K18 (decide (last_1 > 36650387592)) _ ⟨by rw [hg17]; rfl, rfl⟩)
  · intro K6
    clear hS
    have hj8 := Below.refl w3.heap.size w3
    rcases Bool.eq_false_or_eq_true (!y1) with hg5 | hg5
    · have hS := ite_true' hz9 hg5
      refine sr_pass (e := 13) rfl rfl (by rw [hg5]; rfl) (by decide) ?_
      refine sr_pass (e := 13) rfl rfl (by rw [hg5]; rfl) (by decide) ?_
      refine sr_pass (e := 13) rfl rfl (by rw [hg5]; rfl) (by decide) ?_
      refine sr_ev (v := .bool true) (ev_pick_t rfl hg5 rfl) (by decide) ?_
      exact sr_weaken (l' := [(0, str secret_0), (1, .int .i64 last_1), (2, .int .i64 look_2), (3, str code_3), (17, .bool true)]) (.cons rfl (.cons rfl (.cons rfl (.cons rfl (.cons rfl (.nil _)))))) (K6 true _ ⟨(Option.some.inj hS).symm, hj8⟩)
    · have hS := ite_false' hz9 hg5
      refine sr_evg (b := false) (e := 13) rfl rfl hg5 (v := str code_3) (ev_move rfl) (by decide) ?_
      obtain ⟨y12, hy13, hS⟩ := bind_some' hS
      refine sr_callg (b := false) (e := 13) rfl rfl hg5 (vs := [str code_3]) rfl Tryd.call40 rfl (ref23_possible_ok _ (hg.below hb) hy13) (by decide) ?_
      rintro _ w14 ⟨rfl, hbw15⟩
      replace hb := hb.trans (hbw15.mono hb.size)
      replace hj8 := hj8.trans (hbw15.mono hj8.size)
      refine sr_evg (b := false) (e := 13) rfl rfl hg5 (v := .bool (!y12)) (ev_not rfl) (by decide) ?_
      refine sr_ev (v := .bool (!y12)) (ev_pick_f rfl hg5 rfl) (by decide) ?_
      exact sr_weaken (l' := [(0, str secret_0), (1, .int .i64 last_1), (2, .int .i64 look_2), (3, str code_3), (17, .bool (!y12))]) (.cons rfl (.cons rfl (.cons rfl (.cons rfl (.cons rfl (.nil _)))))) (K6 (!y12) _ ⟨(Option.some.inj hS).symm, hj8⟩)
theorem ref23_VerifyAt_ok (w0 : World) (hg : Gs w0) {secret_0 : Str} {last_1 : Int} {now_2 : Int} {skew_3 : Int} {code_4 : Str} {r : Int × Int} (hS : ref23_VerifyAt secret_0 last_1 now_2 skew_3 code_4 = some r) :
    Calls Tryd.prog 19 #[str secret_0, .int .i64 last_1, .int .i64 now_2, .int .i64 skew_3, str code_4] w0 (Ret (fun v w' => v = .tuple #[.int .i64 r.1, .int .i64 r.2] ∧ Below w0.heap.size w0 w')) := by
  unfold ref23_VerifyAt at hS
  have hb := Below.refl w0.heap.size w0
  refine calls_of_ke Tryd.func19 rfl (n := 48) rfl rfl (l := [(0, str secret_0), (1, .int .i64 last_1), (2, .int .i64 now_2), (3, .int .i64 skew_3), (4, str code_4)]) rfl ?_
  refine ke_seq ?_
  refine ke_region ?_
  refine sr_ev (v := .int .i64 0) (ev_assign rfl) (by decide) ?_
  refine sr_ev (v := .int .i64 0) (ev_assign rfl) (by decide) ?_
  refine sr_end (l' := [(0, str secret_0), (1, .int .i64 last_1), (2, .int .i64 now_2), (3, .int .i64 skew_3), (4, str code_4)]) (.cons rfl (.cons rfl (.cons rfl (.cons rfl (.cons rfl (.nil _)))))) ?_
  refine ke_seq ?_
  refine ke_seq ?_
  refine ke_region ?_
  refine sr_ev (v := str secret_0) (ev_move rfl) (by decide) ?_
  obtain ⟨y1, hy2, hS⟩ := bind_some' hS
  refine sr_call (vs := [str secret_0]) rfl Tryd.call31 rfl (ref01_Clean_ok _ (hg.below hb) hy2) (by decide) ?_
  rintro _ w3 ⟨rfl, hbw4⟩
  replace hb := hb.trans (hbw4.mono hb.size)
  refine sr_ev (v := .bool (!y1)) (ev_not rfl) (by decide) ?_
  refine sr_ev (v := .bool (!y1)) (ev_move rfl) (by decide) ?_
  obtain ⟨z7, hz9, hS⟩ := bind_some' hS
  refine sr_join (m := 4) (C := fun (x : Bool) w1 => z7 = x ∧ Below w3.heap.size w3 w1) (l' := fun x => [(0, str secret_0), (1, .int .i64 last_1), (2, .int .i64 now_2), (3, .int .i64 skew_3), (4, str code_4), (20, .bool x)]) ?_ ?_
  · rintro _ w10 ⟨rfl, hbw11⟩
    replace hb := hb.trans (hbw11.mono hb.size)
    refine sr_end (l' := [(0, str secret_0), (1, .int .i64 last_1), (2, .int .i64 now_2), (3, .int .i64 skew_3), (4, str code_4), (20, .bool z7)]) (.cons rfl (.cons rfl (.cons rfl (.cons rfl (.cons rfl (.cons rfl (.nil _))))))) ?_
    refine ke_cond (t := z7) rfl (fun hc16 => ?_) (fun hc16 => ?_)
    · replace hS := ite_true' hS hc16
      refine ke_seq ?_
      refine ke_region ?_
      refine sr_ev (v := .int .i64 0) (ev_assign rfl) (by decide) ?_
      refine sr_ev (v := .int .i64 4) (ev_assign rfl) (by decide) ?_
      refine sr_end (l' := [(10, .int .i64 0), (11, .int .i64 4)]) (.cons rfl (.cons rfl (.nil _))) ?_
      cases hS
      exact ke_ret2 Tryd.func19 rfl rfl rfl ⟨_, rfl, rfl, hb⟩
    · replace hS := ite_false' hS hc16
      refine ke_skip ?_
      refine ke_seq ?_
      refine ke_seq ?_
      refine ke_region ?_
      refine sr_ev (v := .int .i64 last_1) (ev_move rfl) (by decide) ?_
      refine sr_ev (v := .bool (decide (last_1 < (-1)))) (ev_lt rfl rfl) (by decide) ?_
      refine sr_ev (v := .bool (decide (last_1 < (-1)))) (ev_move rfl) (by decide) ?_
      refine sr_join (m := 3) (C := fun (x : Bool) w1 => x = ((decide (last_1 < (-1))) || (decide (last_1 > 36650387592))) ∧ w10 = w1) (l' := fun x => [(0, str secret_0), (1, .int .i64 last_1), (2, .int .i64 now_2), (3, .int .i64 skew_3), (4, str code_4), (26, .bool x)]) ?_ ?_
      · rintro _ _ ⟨rfl, rfl⟩
        refine sr_end (l' := [(0, str secret_0), (1, .int .i64 last_1), (2, .int .i64 now_2), (3, .int .i64 skew_3), (4, str code_4), (26, .bool ((decide (last_1 < (-1))) || (decide (last_1 > 36650387592))))]) (.cons rfl (.cons rfl (.cons rfl (.cons rfl (.cons rfl (.cons rfl (.nil _))))))) ?_
        refine ke_cond (t := (decide (last_1 < (-1))) || (decide (last_1 > 36650387592))) rfl (fun hc24 => ?_) (fun hc24 => ?_)
        · replace hS := ite_true' hS hc24
          refine ke_seq ?_
          refine ke_region ?_
          refine sr_ev (v := .int .i64 0) (ev_assign rfl) (by decide) ?_
          refine sr_ev (v := .int .i64 27) (ev_assign rfl) (by decide) ?_
          refine sr_end (l' := [(10, .int .i64 0), (11, .int .i64 27)]) (.cons rfl (.cons rfl (.nil _))) ?_
          cases hS
          exact ke_ret2 Tryd.func19 rfl rfl rfl ⟨_, rfl, rfl, hb⟩
        · replace hS := ite_false' hS hc24
          refine ke_skip ?_
          refine ke_seq ?_
          refine ke_region ?_
          refine sr_ev (v := .int .i64 skew_3) (ev_move rfl) (by decide) ?_
          refine sr_ev (v := .int .i64 (gmin skew_3 600)) (ev_min rfl rfl) (by decide) ?_
          refine sr_ev (v := .int .i64 (gmax 0 (gmin skew_3 600))) (ev_max rfl rfl) (by decide) ?_
          refine sr_ev (v := .int .i64 (IntKind.i64.wrap ((gmax 0 (gmin skew_3 600)).tdiv 30))) (ev_quo rfl rfl (by decide)) (by decide) ?_
          refine sr_ev (v := .int .i64 (IntKind.i64.wrap ((gmax 0 (gmin skew_3 600)).tdiv 30))) (ev_assign rfl) (by decide) ?_
          refine sr_end (l' := [(0, str secret_0), (1, .int .i64 last_1), (2, .int .i64 now_2), (4, str code_4), (12, .int .i64 (IntKind.i64.wrap ((gmax 0 (gmin skew_3 600)).tdiv 30)))]) (.cons rfl (.cons rfl (.cons rfl (.cons rfl (.cons rfl (.nil _)))))) ?_
          refine ke_seq ?_
          refine ke_region ?_
          refine sr_ev (v := str secret_0) (ev_move rfl) (by decide) ?_
          refine sr_ev (v := .int .i64 last_1) (ev_move rfl) (by decide) ?_
          refine sr_ev (v := .int .i64 (IntKind.i64.wrap (last_1 + 1))) (ev_add rfl rfl) (by decide) ?_
          refine sr_ev (v := .int .i64 now_2) (ev_move rfl) (by decide) ?_
          obtain ⟨y25, hy26, hS⟩ := bind_some' hS
          refine sr_call (vs := [.int .i64 now_2]) rfl Tryd.call13 rfl (ref23_Counter_ok _ (hg.below hb) hy26) (by decide) ?_
          rintro _ w27 ⟨rfl, hbw28⟩
          replace hb := hb.trans (hbw28.mono hb.size)
          refine sr_ev (v := .int .i64 (IntKind.i64.wrap ((gmax 0 (gmin skew_3 600)).tdiv 30))) (ev_move rfl) (by decide) ?_
          refine sr_ev (v := .int .i64 (IntKind.i64.wrap (y25 - (IntKind.i64.wrap ((gmax 0 (gmin skew_3 600)).tdiv 30))))) (ev_sub rfl rfl) (by decide) ?_
          refine sr_ev (v := .int .i64 (gmax (IntKind.i64.wrap (last_1 + 1)) (IntKind.i64.wrap (y25 - (IntKind.i64.wrap ((gmax 0 (gmin skew_3 600)).tdiv 30)))))) (ev_max rfl rfl) (by decide) ?_
          refine sr_ev (v := .int .i64 now_2) (ev_move rfl) (by decide) ?_
          obtain ⟨y29, hy30, hS⟩ := bind_some' hS
          refine sr_call (vs := [.int .i64 now_2]) rfl Tryd.call13 rfl (ref23_Counter_ok _ (hg.below hb) hy30) (by decide) ?_
          rintro _ w31 ⟨rfl, hbw32⟩
          replace hb := hb.trans (hbw32.mono hb.size)
          refine sr_ev (v := .int .i64 (IntKind.i64.wrap ((gmax 0 (gmin skew_3 600)).tdiv 30))) (ev_move rfl) (by decide) ?_
          refine sr_ev (v := .int .i64 (IntKind.i64.wrap (y29 + (IntKind.i64.wrap ((gmax 0 (gmin skew_3 600)).tdiv 30))))) (ev_add rfl rfl) (by decide) ?_
          refine sr_ev (v := .int .i64 (gmin (IntKind.i64.wrap (y29 + (IntKind.i64.wrap ((gmax 0 (gmin skew_3 600)).tdiv 30)))) 36650387592)) (ev_min rfl rfl) (by decide) ?_
          refine sr_ev (v := str code_4) (ev_move rfl) (by decide) ?_
          obtain ⟨y33, hy34, hS⟩ := bind_some' hS
          refine sr_call (vs := [str secret_0, .int .i64 (gmax (IntKind.i64.wrap (last_1 + 1)) (IntKind.i64.wrap (y25 - (IntKind.i64.wrap ((gmax 0 (gmin skew_3 600)).tdiv 30))))), .int .i64 (gmin (IntKind.i64.wrap (y29 + (IntKind.i64.wrap ((gmax 0 (gmin skew_3 600)).tdiv 30)))) 36650387592), str code_4]) rfl Tryd.call41 rfl (ref23_first_ok _ (hg.below hb) hy34) (by decide) ?_
          rintro _ w35 ⟨rfl, hbw36⟩
          replace hb := hb.trans (hbw36.mono hb.size)
          refine sr_ev (v := .int .i64 y33.1) (ev_extract rfl rfl) (by decide) ?_
          refine sr_ev (v := .int .i64 y33.2) (ev_extract rfl rfl) (by decide) ?_
          refine sr_ev (v := .int .i64 y33.1) (ev_assign rfl) (by decide) ?_
          refine sr_ev (v := .int .i64 y33.2) (ev_assign rfl) (by decide) ?_
          refine sr_end (l' := [(10, .int .i64 y33.1), (11, .int .i64 y33.2)]) (.cons rfl (.cons rfl (.nil _))) ?_
          cases hS
          exact ke_ret2 Tryd.func19 rfl rfl rfl ⟨_, rfl, rfl, hb⟩
      · intro K18
        rcases Bool.eq_false_or_eq_true (decide (last_1 < (-1))) with hg17 | hg17
        · refine sr_pass (e := 23) rfl rfl (by rw [hg17]; rfl) (by decide) ?_
          refine sr_pass (e := 23) rfl rfl (by rw [hg17]; rfl) (by decide) ?_
          refine sr_ev (v := .bool true) (ev_pick_t rfl hg17 rfl) (by decide) ?_
          exact sr_weaken (l' := [(0, str secret_0), (1, .int .i64 last_1), (2, .int .i64 now_2), (3, .int .i64 skew_3), (4, str code_4), (26, .bool true)]) (.cons rfl (.cons rfl (.cons rfl (.cons rfl (.cons rfl (.cons rfl (.nil _))))))) (K18 true _ ⟨by rw [hg17]; rfl, rfl⟩)
        · refine sr_evg (b := false) (e := 23) rfl rfl hg17 (v := .int .i64 last_1) (ev_move rfl) (by decide) ?_
          refine sr_evg (b := false) (e := 23) rfl rfl hg17 (v := .bool (decide (last_1 > 36650387592))) (ev_gt rfl rfl) (by decide) ?_
          refine sr_ev (v := .bool (decide (last_1 > 36650387592))) (ev_pick_f rfl hg17 rfl) (by decide) ?_
          exact sr_weaken (l' := [(0, str secret_0), (1, .int .i64 last_1), (2, .int .i64 now_2), (3, .int .i64 skew_3), (4, str code_4), (26, .bool (decide (last_1 > 36650387592)))]) (.cons rfl (.cons rfl (.cons rfl (.cons rfl (.cons rfl (.cons rfl (.nil _))))))) (K18 (decide (last_1 > 36650387592)) _ ⟨by rw [hg17]; rfl, rfl⟩)
  · intro K6
    clear hS
    have hj8 := Below.refl w3.heap.size w3
    rcases Bool.eq_false_or_eq_true (!y1) with hg5 | hg5
    · have hS := ite_true' hz9 hg5
      refine sr_pass (e := 16) rfl rfl (by rw [hg5]; rfl) (by decide) ?_
      refine sr_pass (e := 16) rfl rfl (by rw [hg5]; rfl) (by decide) ?_
      refine sr_pass (e := 16) rfl rfl (by rw [hg5]; rfl) (by decide) ?_
      refine sr_ev (v := .bool true) (ev_pick_t rfl hg5 rfl) (by decide) ?_
      exact sr_weaken (l' := [(0, str secret_0), (1, .int .i64 last_1), (2, .int .i64 now_2), (3, .int .i64 skew_3), (4, str code_4), (20, .bool true)]) (.cons rfl (.cons rfl (.cons rfl (.cons rfl (.cons rfl (.cons rfl (.nil _))))))) (K6 true _ ⟨(Option.some.inj hS).symm, hj8⟩)
    · have hS := ite_false' hz9 hg5
      refine sr_evg (b := false) (e := 16) rfl rfl hg5 (v := str code_4) (ev_move rfl) (by decide) ?_
      obtain ⟨y12, hy13, hS⟩ := bind_some' hS
      refine sr_callg (b := false) (e := 16) rfl rfl hg5 (vs := [str code_4]) rfl Tryd.call40 rfl (ref23_possible_ok _ (hg.below hb) hy13) (by decide) ?_
      rintro _ w14 ⟨rfl, hbw15⟩
      replace hb := hb.trans (hbw15.mono hb.size)
      replace hj8 := hj8.trans (hbw15.mono hj8.size)
      refine sr_evg (b := false) (e := 16) rfl rfl hg5 (v := .bool (!y12)) (ev_not rfl) (by decide) ?_
      refine sr_ev (v := .bool (!y12)) (ev_pick_f rfl hg5 rfl) (by decide) ?_
      exact sr_weaken (l' := [(0, str secret_0), (1, .int .i64 last_1), (2, .int .i64 now_2), (3, .int .i64 skew_3), (4, str code_4), (20, .bool (!y12))]) (.cons rfl (.cons rfl (.cons rfl (.cons rfl (.cons rfl (.cons rfl (.nil _))))))) (K6 (!y12) _ ⟨(Option.some.inj hS).symm, hj8⟩)
theorem law23_OtpVerifies_ok (w0 : World) (hg : Gs w0) {x_0 : law23_Try} {r : Bool} (hS : law23_OtpVerifies x_0 = some r) :
    Calls Tryd.prog 4 #[.agg #[str x_0.Secret, str x_0.Code, .int .i64 x_0.Last, .int .i64 x_0.Look, .int .i64 x_0.Now, .int .i64 x_0.K, .bool x_0.Near]] w0 (Ret (fun v w' => v = .bool r ∧ Below w0.heap.size w0 w')) := by
  unfold law23_OtpVerifies at hS
  have hb := Below.refl w0.heap.size w0
  obtain ⟨A0, hA0, hAe⟩ : ∃ A0 : Nat → Prop, (∀ b, A0 b → b < w0.heap.size) ∧ A0 = fun _ => False := ⟨_, fun _ h => h.elim, rfl⟩
  clear hAe
  have hA := hA0
  have hi : ∀ b, A0 b → A0 b := fun _ h => h
  have hH := Hp.nil A0 w0.heap.size w0
  refine calls_of_ke Tryd.func4 rfl (n := 87) rfl rfl (l := [(0, .agg #[str x_0.Secret, str x_0.Code, .int .i64 x_0.Last, .int .i64 x_0.Look, .int .i64 x_0.Now, .int .i64 x_0.K, .bool x_0.Near])]) rfl ?_
  refine ke_seq ?_
  refine ke_region ?_
  refine sr_box hH hb.size hA rfl (by decide) ?_
  intro g1 A2 w3 hH1 hst4 hbw5 hinc6 hA1 hge7
  replace hb := hb.trans (hbw5.mono hb.size)
  replace hi := fun b hb => hinc6 b (hi b hb)
  replace hH : Hp A2 w0.heap.size w3 [(g1, .cells #[str x_0.Secret, str x_0.Code, .int .i64 x_0.Last, .int .i64 x_0.Look, .int .i64 x_0.Now, .int .i64 x_0.K, .bool x_0.Near] 29 (0, 0))] := hH1
  replace hA := hA1
  clear hH1 hA1
  refine sr_ev (v := .bool false) (ev_assign rfl) (by decide) ?_
  refine sr_end (l' := [(1, .pointer (some ⟨g1, 0, none⟩))]) (.cons rfl (.nil _)) ?_
  refine ke_seq ?_
  refine ke_seq ?_
  refine ke_region ?_
  refine sr_ev (v := .agg #[str x_0.Secret, str x_0.Code, .int .i64 x_0.Last, .int .i64 x_0.Look, .int .i64 x_0.Now, .int .i64 x_0.K, .bool x_0.Near]) (ev_loads Tryd.isAgg29 Tryd.sizeOf29 rfl (hH.cells (i := 0) (vs := [str x_0.Secret, str x_0.Code, .int .i64 x_0.Last, .int .i64 x_0.Look, .int .i64 x_0.Now, .int .i64 x_0.K, .bool x_0.Near]) rfl rfl)) (by decide) ?_
  obtain ⟨y8, hy9, hS⟩ := bind_some' hS
  refine sr_call (vs := [.agg #[str x_0.Secret, str x_0.Code, .int .i64 x_0.Last, .int .i64 x_0.Look, .int .i64 x_0.Now, .int .i64 x_0.K, .bool x_0.Near]]) rfl Tryd.call14 rfl (law23_fits_ok _ (hg.below hb) hy9) (by decide) ?_
  rintro _ w10 ⟨rfl, hbw11⟩
  replace hb := hb.trans (hbw11.mono hb.size)
  replace hA := lt_mono hA hbw11.size
  replace hH := hH.below hbw11
  refine sr_ev (v := .bool (!y8)) (ev_not rfl) (by decide) ?_
  refine sr_end (l' := [(1, .pointer (some ⟨g1, 0, none⟩)), (14, .bool (!y8))]) (.cons rfl (.cons rfl (.nil _))) ?_
  refine ke_cond (t := !y8) rfl (fun hc12 => ?_) (fun hc12 => ?_)
  · replace hS := ite_true' hS hc12
    refine ke_seq ?_
    refine ke_region ?_
    obtain ⟨y13, hy14, hS⟩ := bind_some' hS
    refine sr_call (vs := []) rfl Tryd.call9 rfl (law23_alive_ok _ (hg.below hb) hy14) (by decide) ?_
    rintro _ w15 ⟨rfl, hbw16⟩
    replace hb := hb.trans (hbw16.mono hb.size)
    replace hA := lt_mono hA hbw16.size
    replace hH := hH.below hbw16
    refine sr_ev (v := .bool y13) (ev_assign rfl) (by decide) ?_
    refine sr_end (l' := [(2, .bool y13)]) (.cons rfl (.nil _)) ?_
    cases hS
    exact ke_ret1 Tryd.func4 rfl rfl ⟨_, rfl, rfl, hb⟩
  · replace hS := ite_false' hS hc12
    refine ke_skip ?_
    refine ke_seq ?_
    refine ke_region ?_
    refine sr_ev (v := .agg #[str x_0.Secret, str x_0.Code, .int .i64 x_0.Last, .int .i64 x_0.Look, .int .i64 x_0.Now, .int .i64 x_0.K, .bool x_0.Near]) (ev_loads Tryd.isAgg29 Tryd.sizeOf29 rfl (hH.cells (i := 0) (vs := [str x_0.Secret, str x_0.Code, .int .i64 x_0.Last, .int .i64 x_0.Look, .int .i64 x_0.Now, .int .i64 x_0.K, .bool x_0.Near]) rfl rfl)) (by decide) ?_
    obtain ⟨y17, hy18, hS⟩ := bind_some' hS
    refine sr_call (vs := [.agg #[str x_0.Secret, str x_0.Code, .int .i64 x_0.Last, .int .i64 x_0.Look, .int .i64 x_0.Now, .int .i64 x_0.K, .bool x_0.Near]]) rfl Tryd.call15 rfl (law23_typed_ok _ (hg.below hb) hy18) (by decide) ?_
    rintro _ w19 ⟨rfl, hbw20⟩
    replace hb := hb.trans (hbw20.mono hb.size)
    replace hA := lt_mono hA hbw20.size
    replace hH := hH.below hbw20
    refine sr_ev (v := str y17) (ev_assign rfl) (by decide) ?_
    refine sr_end (l' := [(1, .pointer (some ⟨g1, 0, none⟩)), (3, str y17)]) (.cons rfl (.cons rfl (.nil _))) ?_
    refine ke_seq ?_
    refine ke_region ?_
    refine sr_ev (v := .pointer (some ⟨g1, 0, none⟩)) (ev_fieldAddr (i := 0) Tryd.underlying29 rfl Tryd.info9 rfl rfl) (by decide) ?_
    refine sr_ev (v := str x_0.Secret) (ev_load Tryd.isAgg9 rfl (hH.cell (i := 0) rfl rfl)) (by decide) ?_
    refine sr_ev (v := .pointer (some ⟨g1, 2, none⟩)) (ev_fieldAddr (i := 2) Tryd.underlying29 rfl Tryd.info3 rfl rfl) (by decide) ?_
    refine sr_ev (v := .int .i64 x_0.Last) (ev_load Tryd.isAgg3 rfl (hH.cell (i := 0) rfl rfl)) (by decide) ?_
    refine sr_ev (v := .pointer (some ⟨g1, 3, none⟩)) (ev_fieldAddr (i := 3) Tryd.underlying29 rfl Tryd.info3 rfl rfl) (by decide) ?_
    refine sr_ev (v := .int .i64 x_0.Look) (ev_load Tryd.isAgg3 rfl (hH.cell (i := 0) rfl rfl)) (by decide) ?_
    refine sr_ev (v := str y17) (ev_move rfl) (by decide) ?_
    obtain ⟨y21, hy22, hS⟩ := bind_some' hS
    refine sr_call (vs := [str x_0.Secret, .int .i64 x_0.Last, .int .i64 x_0.Look, str y17]) rfl Tryd.call16 rfl (otp_Verify_ok _ (hg.below hb) hy22) (by decide) ?_
    rintro _ w23 ⟨rfl, hbw24⟩
    replace hb := hb.trans (hbw24.mono hb.size)
    replace hA := lt_mono hA hbw24.size
    replace hH := hH.below hbw24
    refine sr_ev (v := .tuple #[.int .i64 y21.1, .int .i64 y21.2]) (ev_move rfl) (by decide) ?_
    refine sr_ev (v := .int .i64 y21.1) (ev_extract rfl rfl) (by decide) ?_
    refine sr_ev (v := .int .i64 y21.2) (ev_extract rfl rfl) (by decide) ?_
    refine sr_ev (v := .int .i64 y21.1) (ev_assign rfl) (by decide) ?_
    refine sr_ev (v := .int .i64 y21.2) (ev_assign rfl) (by decide) ?_
    refine sr_end (l' := [(1, .pointer (some ⟨g1, 0, none⟩)), (3, str y17), (4, .int .i64 y21.1), (5, .int .i64 y21.2)]) (.cons rfl (.cons rfl (.cons rfl (.cons rfl (.nil _))))) ?_
    refine ke_seq ?_
    refine ke_region ?_
    refine sr_ev (v := .pointer (some ⟨g1, 0, none⟩)) (ev_fieldAddr (i := 0) Tryd.underlying29 rfl Tryd.info9 rfl rfl) (by decide) ?_
    refine sr_ev (v := str x_0.Secret) (ev_load Tryd.isAgg9 rfl (hH.cell (i := 0) rfl rfl)) (by decide) ?_
    refine sr_ev (v := .pointer (some ⟨g1, 2, none⟩)) (ev_fieldAddr (i := 2) Tryd.underlying29 rfl Tryd.info3 rfl rfl) (by decide) ?_
    refine sr_ev (v := .int .i64 x_0.Last) (ev_load Tryd.isAgg3 rfl (hH.cell (i := 0) rfl rfl)) (by decide) ?_
    refine sr_ev (v := .pointer (some ⟨g1, 3, none⟩)) (ev_fieldAddr (i := 3) Tryd.underlying29 rfl Tryd.info3 rfl rfl) (by decide) ?_
    refine sr_ev (v := .int .i64 x_0.Look) (ev_load Tryd.isAgg3 rfl (hH.cell (i := 0) rfl rfl)) (by decide) ?_
    refine sr_ev (v := str y17) (ev_move rfl) (by decide) ?_
    obtain ⟨y25, hy26, hS⟩ := bind_some' hS
    refine sr_call (vs := [str x_0.Secret, .int .i64 x_0.Last, .int .i64 x_0.Look, str y17]) rfl Tryd.call17 rfl (ref23_Verify_ok _ (hg.below hb) hy26) (by decide) ?_
    rintro _ w27 ⟨rfl, hbw28⟩
    replace hb := hb.trans (hbw28.mono hb.size)
    replace hA := lt_mono hA hbw28.size
    replace hH := hH.below hbw28
    refine sr_ev (v := .tuple #[.int .i64 y25.1, .int .i64 y25.2]) (ev_move rfl) (by decide) ?_
    refine sr_ev (v := .int .i64 y25.1) (ev_extract rfl rfl) (by decide) ?_
    refine sr_ev (v := .int .i64 y25.2) (ev_extract rfl rfl) (by decide) ?_
    refine sr_ev (v := .int .i64 y25.1) (ev_assign rfl) (by decide) ?_
    refine sr_ev (v := .int .i64 y25.2) (ev_assign rfl) (by decide) ?_
    refine sr_end (l' := [(1, .pointer (some ⟨g1, 0, none⟩)), (3, str y17), (4, .int .i64 y21.1), (5, .int .i64 y21.2), (6, .int .i64 y25.1), (7, .int .i64 y25.2)]) (.cons rfl (.cons rfl (.cons rfl (.cons rfl (.cons rfl (.cons rfl (.nil _))))))) ?_
    refine ke_seq ?_
    refine ke_region ?_
    refine sr_ev (v := .pointer (some ⟨g1, 0, none⟩)) (ev_fieldAddr (i := 0) Tryd.underlying29 rfl Tryd.info9 rfl rfl) (by decide) ?_
    refine sr_ev (v := str x_0.Secret) (ev_load Tryd.isAgg9 rfl (hH.cell (i := 0) rfl rfl)) (by decide) ?_
    refine sr_ev (v := .pointer (some ⟨g1, 2, none⟩)) (ev_fieldAddr (i := 2) Tryd.underlying29 rfl Tryd.info3 rfl rfl) (by decide) ?_
    refine sr_ev (v := .int .i64 x_0.Last) (ev_load Tryd.isAgg3 rfl (hH.cell (i := 0) rfl rfl)) (by decide) ?_
    refine sr_ev (v := .pointer (some ⟨g1, 4, none⟩)) (ev_fieldAddr (i := 4) Tryd.underlying29 rfl Tryd.info3 rfl rfl) (by decide) ?_
    refine sr_ev (v := .int .i64 x_0.Now) (ev_load Tryd.isAgg3 rfl (hH.cell (i := 0) rfl rfl)) (by decide) ?_
    refine sr_ev (v := .pointer (some ⟨g1, 3, none⟩)) (ev_fieldAddr (i := 3) Tryd.underlying29 rfl Tryd.info3 rfl rfl) (by decide) ?_
    refine sr_ev (v := .int .i64 x_0.Look) (ev_load Tryd.isAgg3 rfl (hH.cell (i := 0) rfl rfl)) (by decide) ?_
    refine sr_ev (v := str y17) (ev_move rfl) (by decide) ?_
    obtain ⟨y29, hy30, hS⟩ := bind_some' hS
    refine sr_call (vs := [str x_0.Secret, .int .i64 x_0.Last, .int .i64 x_0.Now, .int .i64 x_0.Look, str y17]) rfl Tryd.call18 rfl (otp_VerifyAt_ok _ (hg.below hb) hy30) (by decide) ?_
    rintro _ w31 ⟨rfl, hbw32⟩
    replace hb := hb.trans (hbw32.mono hb.size)
    replace hA := lt_mono hA hbw32.size
    replace hH := hH.below hbw32
    refine sr_ev (v := .tuple #[.int .i64 y29.1, .int .i64 y29.2]) (ev_move rfl) (by decide) ?_
    refine sr_ev (v := .int .i64 y29.1) (ev_extract rfl rfl) (by decide) ?_
    refine sr_ev (v := .int .i64 y29.2) (ev_extract rfl rfl) (by decide) ?_
    refine sr_ev (v := .int .i64 y29.1) (ev_assign rfl) (by decide) ?_
    refine sr_ev (v := .int .i64 y29.2) (ev_assign rfl) (by decide) ?_
    refine sr_end (l' := [(1, .pointer (some ⟨g1, 0, none⟩)), (3, str y17), (4, .int .i64 y21.1), (5, .int .i64 y21.2), (6, .int .i64 y25.1), (7, .int .i64 y25.2), (8, .int .i64 y29.1), (9, .int .i64 y29.2)]) (.cons rfl (.cons rfl (.cons rfl (.cons rfl (.cons rfl (.cons rfl (.cons rfl (.cons rfl (.nil _))))))))) ?_
    refine ke_seq ?_
    refine ke_region ?_
    refine sr_ev (v := .pointer (some ⟨g1, 0, none⟩)) (ev_fieldAddr (i := 0) Tryd.underlying29 rfl Tryd.info9 rfl rfl) (by decide) ?_
    refine sr_ev (v := str x_0.Secret) (ev_load Tryd.isAgg9 rfl (hH.cell (i := 0) rfl rfl)) (by decide) ?_
    refine sr_ev (v := .pointer (some ⟨g1, 2, none⟩)) (ev_fieldAddr (i := 2) Tryd.underlying29 rfl Tryd.info3 rfl rfl) (by decide) ?_
    refine sr_ev (v := .int .i64 x_0.Last) (ev_load Tryd.isAgg3 rfl (hH.cell (i := 0) rfl rfl)) (by decide) ?_
    refine sr_ev (v := .pointer (some ⟨g1, 4, none⟩)) (ev_fieldAddr (i := 4) Tryd.underlying29 rfl Tryd.info3 rfl rfl) (by decide) ?_
    refine sr_ev (v := .int .i64 x_0.Now) (ev_load Tryd.isAgg3 rfl (hH.cell (i := 0) rfl rfl)) (by decide) ?_
    refine sr_ev (v := .pointer (some ⟨g1, 3, none⟩)) (ev_fieldAddr (i := 3) Tryd.underlying29 rfl Tryd.info3 rfl rfl) (by decide) ?_
    refine sr_ev (v := .int .i64 x_0.Look) (ev_load Tryd.isAgg3 rfl (hH.cell (i := 0) rfl rfl)) (by decide) ?_
    refine sr_ev (v := str y17) (ev_move rfl) (by decide) ?_
    obtain ⟨y33, hy34, hS⟩ := bind_some' hS
    refine sr_call (vs := [str x_0.Secret, .int .i64 x_0.Last, .int .i64 x_0.Now, .int .i64 x_0.Look, str y17]) rfl Tryd.call19 rfl (ref23_VerifyAt_ok _ (hg.below hb) hy34) (by decide) ?_
    rintro _ w35 ⟨rfl, hbw36⟩
    replace hb := hb.trans (hbw36.mono hb.size)
    replace hA := lt_mono hA hbw36.size
    replace hH := hH.below hbw36
    refine sr_ev (v := .tuple #[.int .i64 y33.1, .int .i64 y33.2]) (ev_move rfl) (by decide) ?_
    refine sr_ev (v := .int .i64 y33.1) (ev_extract rfl rfl) (by decide) ?_
    refine sr_ev (v := .int .i64 y33.2) (ev_extract rfl rfl) (by decide) ?_
    refine sr_ev (v := .int .i64 y33.1) (ev_assign rfl) (by decide) ?_
    refine sr_ev (v := .int .i64 y33.2) (ev_assign rfl) (by decide) ?_
    refine sr_end (l' := [(4, .int .i64 y21.1), (5, .int .i64 y21.2), (6, .int .i64 y25.1), (7, .int .i64 y25.2), (8, .int .i64 y29.1), (9, .int .i64 y29.2), (10, .int .i64 y33.1), (11, .int .i64 y33.2)]) (.cons rfl (.cons rfl (.cons rfl (.cons rfl (.cons rfl (.cons rfl (.cons rfl (.cons rfl (.nil _))))))))) ?_
    refine ke_seq ?_
    refine ke_region ?_
    refine sr_ev (v := .int .i64 y21.1) (ev_move rfl) (by decide) ?_
    refine sr_ev (v := .int .i64 y25.1) (ev_move rfl) (by decide) ?_
    refine sr_ev (v := .bool (y21.1 == y25.1)) (ev_eq rfl rfl) (by decide) ?_
    refine sr_ev (v := .bool (y21.1 == y25.1)) (ev_move rfl) (by decide) ?_
    refine sr_join (m := 4) (C := fun (x : Bool) w1 => x = ((y21.1 == y25.1) && (y21.2 == y25.2)) ∧ w35 = w1) (l' := fun x => [(8, .int .i64 y29.1), (9, .int .i64 y29.2), (10, .int .i64 y33.1), (11, .int .i64 y33.2), (73, .bool x)]) ?_ ?_
    · rintro _ _ ⟨rfl, rfl⟩
      refine sr_ev (v := .bool ((y21.1 == y25.1) && (y21.2 == y25.2))) (ev_move rfl) (by decide) ?_
      refine sr_join (m := 4) (C := fun (x : Bool) w1 => x = (((y21.1 == y25.1) && (y21.2 == y25.2)) && (y29.1 == y33.1)) ∧ w35 = w1) (l' := fun x => [(9, .int .i64 y29.2), (11, .int .i64 y33.2), (78, .bool x)]) ?_ ?_
      · rintro _ _ ⟨rfl, rfl⟩
        refine sr_ev (v := .bool (((y21.1 == y25.1) && (y21.2 == y25.2)) && (y29.1 == y33.1))) (ev_move rfl) (by decide) ?_
        refine sr_join (m := 4) (C := fun (x : Bool) w1 => x = ((((y21.1 == y25.1) && (y21.2 == y25.2)) && (y29.1 == y33.1)) && (y29.2 == y33.2)) ∧ w35 = w1) (l' := fun x => [(83, .bool x)]) ?_ ?_
        · rintro _ _ ⟨rfl, rfl⟩
          refine sr_ev (v := .bool ((((y21.1 == y25.1) && (y21.2 == y25.2)) && (y29.1 == y33.1)) && (y29.2 == y33.2))) (ev_move rfl) (by decide) ?_
          obtain ⟨z60, hz62, hS⟩ := bind_some' hS
          refine sr_join (m := 2) (C := fun (x : Bool) w1 => z60 = x ∧ Below w35.heap.size w35 w1) (l' := fun x => [(86, .bool x)]) ?_ ?_
          · rintro _ w63 ⟨rfl, hbw64⟩
            replace hb := hb.trans (hbw64.mono hb.size)
            replace hA := lt_mono hA hbw64.size
            replace hH := hH.below hbw64
            refine sr_ev (v := .bool z60) (ev_assign rfl) (by decide) ?_
            refine sr_end (l' := [(2, .bool z60)]) (.cons rfl (.nil _)) ?_
            cases hS
            exact ke_ret1 Tryd.func4 rfl rfl ⟨_, rfl, rfl, hb⟩
          · intro K59
            clear hS
            have hj61 := Below.refl w35.heap.size w35
            rcases Bool.eq_false_or_eq_true ((((y21.1 == y25.1) && (y21.2 == y25.2)) && (y29.1 == y33.1)) && (y29.2 == y33.2)) with hg58 | hg58
            · have hS := ite_true' hz62 hg58
              obtain ⟨y65, hy66, hS⟩ := bind_some' hS
              refine sr_callg (b := true) (e := 84) rfl rfl hg58 (vs := []) rfl Tryd.call9 rfl (law23_alive_ok _ (hg.below hb) hy66) (by decide) ?_
              rintro _ w67 ⟨rfl, hbw68⟩
              replace hb := hb.trans (hbw68.mono hb.size)
              replace hj61 := hj61.trans (hbw68.mono hj61.size)
              replace hA := lt_mono hA hbw68.size
              replace hH := hH.below hbw68
              refine sr_ev (v := .bool y65) (ev_pick_t rfl hg58 rfl) (by decide) ?_
              exact sr_weaken (l' := [(86, .bool y65)]) (.cons rfl (.nil _)) (K59 y65 _ ⟨(Option.some.inj hS).symm, hj61⟩)
            · have hS := ite_false' hz62 hg58
              refine sr_pass (e := 84) rfl rfl (by rw [hg58]; rfl) (by decide) ?_
              refine sr_ev (v := .bool false) (ev_pick_f rfl hg58 rfl) (by decide) ?_
              exact sr_weaken (l' := [(86, .bool false)]) (.cons rfl (.nil _)) (K59 false _ ⟨(Option.some.inj hS).symm, hj61⟩)
        · intro K52
          rcases Bool.eq_false_or_eq_true (((y21.1 == y25.1) && (y21.2 == y25.2)) && (y29.1 == y33.1)) with hg51 | hg51
          · refine sr_evg (b := true) (e := 79) rfl rfl hg51 (v := .int .i64 y29.2) (ev_move rfl) (by decide) ?_
            refine sr_evg (b := true) (e := 79) rfl rfl hg51 (v := .int .i64 y33.2) (ev_move rfl) (by decide) ?_
            refine sr_evg (b := true) (e := 79) rfl rfl hg51 (v := .bool (y29.2 == y33.2)) (ev_eq rfl rfl) (by decide) ?_
            refine sr_ev (v := .bool (y29.2 == y33.2)) (ev_pick_t rfl hg51 rfl) (by decide) ?_
            exact sr_weaken (l' := [(83, .bool (y29.2 == y33.2))]) (.cons rfl (.nil _)) (K52 (y29.2 == y33.2) _ ⟨by rw [hg51]; rfl, rfl⟩)
          · refine sr_pass (e := 79) rfl rfl (by rw [hg51]; rfl) (by decide) ?_
            refine sr_pass (e := 79) rfl rfl (by rw [hg51]; rfl) (by decide) ?_
            refine sr_pass (e := 79) rfl rfl (by rw [hg51]; rfl) (by decide) ?_
            refine sr_ev (v := .bool false) (ev_pick_f rfl hg51 rfl) (by decide) ?_
            exact sr_weaken (l' := [(83, .bool false)]) (.cons rfl (.nil _)) (K52 false _ ⟨by rw [hg51]; rfl, rfl⟩)
      · intro K45
        rcases Bool.eq_false_or_eq_true ((y21.1 == y25.1) && (y21.2 == y25.2)) with hg44 | hg44
        · refine sr_evg (b := true) (e := 74) rfl rfl hg44 (v := .int .i64 y29.1) (ev_move rfl) (by decide) ?_
          refine sr_evg (b := true) (e := 74) rfl rfl hg44 (v := .int .i64 y33.1) (ev_move rfl) (by decide) ?_
          refine sr_evg (b := true) (e := 74) rfl rfl hg44 (v := .bool (y29.1 == y33.1)) (ev_eq rfl rfl) (by decide) ?_
          refine sr_ev (v := .bool (y29.1 == y33.1)) (ev_pick_t rfl hg44 rfl) (by decide) ?_
          exact sr_weaken (l' := [(9, .int .i64 y29.2), (11, .int .i64 y33.2), (78, .bool (y29.1 == y33.1))]) (.cons rfl (.cons rfl (.cons rfl (.nil _)))) (K45 (y29.1 == y33.1) _ ⟨by rw [hg44]; rfl, rfl⟩)
        · refine sr_pass (e := 74) rfl rfl (by rw [hg44]; rfl) (by decide) ?_
          refine sr_pass (e := 74) rfl rfl (by rw [hg44]; rfl) (by decide) ?_
          refine sr_pass (e := 74) rfl rfl (by rw [hg44]; rfl) (by decide) ?_
          refine sr_ev (v := .bool false) (ev_pick_f rfl hg44 rfl) (by decide) ?_
          exact sr_weaken (l' := [(9, .int .i64 y29.2), (11, .int .i64 y33.2), (78, .bool false)]) (.cons rfl (.cons rfl (.cons rfl (.nil _)))) (K45 false _ ⟨by rw [hg44]; rfl, rfl⟩)
    · intro K38
      rcases Bool.eq_false_or_eq_true (y21.1 == y25.1) with hg37 | hg37
      · refine sr_evg (b := true) (e := 69) rfl rfl hg37 (v := .int .i64 y21.2) (ev_move rfl) (by decide) ?_
        refine sr_evg (b := true) (e := 69) rfl rfl hg37 (v := .int .i64 y25.2) (ev_move rfl) (by decide) ?_
        refine sr_evg (b := true) (e := 69) rfl rfl hg37 (v := .bool (y21.2 == y25.2)) (ev_eq rfl rfl) (by decide) ?_
        refine sr_ev (v := .bool (y21.2 == y25.2)) (ev_pick_t rfl hg37 rfl) (by decide) ?_
        exact sr_weaken (l' := [(8, .int .i64 y29.1), (9, .int .i64 y29.2), (10, .int .i64 y33.1), (11, .int .i64 y33.2), (73, .bool (y21.2 == y25.2))]) (.cons rfl (.cons rfl (.cons rfl (.cons rfl (.cons rfl (.nil _)))))) (K38 (y21.2 == y25.2) _ ⟨by rw [hg37]; rfl, rfl⟩)
      · refine sr_pass (e := 69) rfl rfl (by rw [hg37]; rfl) (by decide) ?_
        refine sr_pass (e := 69) rfl rfl (by rw [hg37]; rfl) (by decide) ?_
        refine sr_pass (e := 69) rfl rfl (by rw [hg37]; rfl) (by decide) ?_
        refine sr_ev (v := .bool false) (ev_pick_f rfl hg37 rfl) (by decide) ?_
        exact sr_weaken (l' := [(8, .int .i64 y29.1), (9, .int .i64 y29.2), (10, .int .i64 y33.1), (11, .int .i64 y33.2), (73, .bool false)]) (.cons rfl (.cons rfl (.cons rfl (.cons rfl (.cons rfl (.nil _)))))) (K38 false _ ⟨by rw [hg37]; rfl, rfl⟩)
theorem law23_short_L1_ok {w0 : World} (hg : Gs w0) {A0 : Nat → Prop} (hA0 : ∀ b, A0 b → b < w0.heap.size) : ∀ (n : Nat), ∀ {r : Bool} {l_0 : List Str} {i_3 : Int} {vl_0 : Value}, law23_short_L1 n l_0 i_3 = some r → ∀ {w : World} {A : Nat → Prop}, (Below w0.heap.size w0 w) → (∀ b, A b → b < w.heap.size) → (∀ b, A0 b → A b) → (Hp A w0.heap.size w []) → (SlR strC A w vl_0 l_0) → KE Tryd.prog 20 (Ret (fun v w' => v = .bool r ∧ Below w0.heap.size w0 w')) 19 [.code (sub (bodyOf Tryd.f20) [2, 1, 2, 2, 1]), .inLoop (sub (bodyOf Tryd.f20) [2, 1, 2, 2, 1]), .inBlock 0, .code (sub (bodyOf Tryd.f20) [2, 2])] [(0, vl_0), (3, .int .i64 i_3)] w := by
  intro n
  induction n with
  | zero => intro r l_0 i_3 vl_0 hS; cases hS
  | succ n ih =>
    have hr0 : ∀ {r : Bool} {l_0 : List Str} {i_3 : Int} {vl_0 : Value}, law23_short_L1 n l_0 i_3 = some r → ∀ {w : World} {A : Nat → Prop}, (Below w0.heap.size w0 w) → (∀ b, A b → b < w.heap.size) → (∀ b, A0 b → A b) → (Hp A w0.heap.size w []) → (SlR strC A w vl_0 l_0) → KE Tryd.prog 20 (Ret (fun v w' => v = .bool r ∧ Below w0.heap.size w0 w')) 19 [.inLoop (sub (bodyOf Tryd.f20) [2, 1, 2, 2, 1]), .inBlock 0, .code (sub (bodyOf Tryd.f20) [2, 2])] [(0, vl_0), (3, .int .i64 i_3)] w := fun {r} {l_0} {i_3} {vl_0} hS {w} {A} hb hA hi hH hl_0 => ke_inLoop (ih hS hb hA hi hH hl_0)
    clear ih
    intro r l_0 i_3 vl_0 hS w A hb hA hi hH hl_0
    unfold law23_short_L1 at hS
    refine ke_seq ?_
    refine ke_seq ?_
    refine ke_region ?_
    refine sr_ev (v := .int .i64 i_3) (ev_move rfl) (by decide) ?_
    refine sr_ev (v := vl_0) (ev_move rfl) (by decide) ?_
    refine sr_ev (v := .int .i64 (l_0.length : Int)) (ev_sllen Tryd.underlying35 rfl hl_0) (by decide) ?_
    refine sr_ev (v := .bool (decide (i_3 < (l_0.length : Int)))) (ev_lt rfl rfl) (by decide) ?_
    refine sr_end (l' := [(0, vl_0), (3, .int .i64 i_3), (7, .bool (decide (i_3 < (l_0.length : Int))))]) (.cons rfl (.cons rfl (.cons rfl (.nil _)))) ?_
    refine ke_cond (t := decide (i_3 < (l_0.length : Int))) rfl (fun hc3 => ?_) (fun hc3 => ?_)
    · replace hS := ite_true' hS hc3
      refine ke_skip ?_
      refine ke_seq ?_
      refine ke_block ?_
      refine ke_seq ?_
      refine ke_region ?_
      refine sr_ev (v := vl_0) (ev_move rfl) (by decide) ?_
      refine sr_ev (v := .int .i64 i_3) (ev_move rfl) (by decide) ?_
      obtain ⟨y4, hy5, hS⟩ := bind_some' hS
      refine sr_index hl_0 Tryd.underlying35 Tryd.info9 rfl rfl rfl hy5 (by decide) ?_
      intro b6 o7 cs9 he8
      obtain rfl : cs9 = [str y4] := he8.rd
      refine sr_ev (v := str y4) (ev_load Tryd.isAgg9 rfl (he8.cell 0 _ rfl)) (by decide) ?_
      refine sr_ev (v := .int .i64 (y4.length : Int)) (ev_slen Tryd.underlying9 rfl) (by decide) ?_
      refine sr_ev (v := .bool (decide ((y4.length : Int) > 100))) (ev_gt rfl rfl) (by decide) ?_
      refine sr_end (l' := [(0, vl_0), (3, .int .i64 i_3), (15, .bool (decide ((y4.length : Int) > 100)))]) (.cons rfl (.cons rfl (.cons rfl (.nil _)))) ?_
      refine ke_cond (t := decide ((y4.length : Int) > 100)) rfl (fun hc10 => ?_) (fun hc10 => ?_)
      · replace hS := ite_true' hS hc10
        refine ke_seq ?_
        refine ke_region ?_
        refine sr_ev (v := .bool false) (ev_assign rfl) (by decide) ?_
        refine sr_end (l' := [(2, .bool false)]) (.cons rfl (.nil _)) ?_
        cases hS
        exact ke_ret1 Tryd.func20 rfl rfl ⟨_, rfl, rfl, hb⟩
      · replace hS := ite_false' hS hc10
        refine ke_skip ?_
        refine ke_inBlock ?_
        refine ke_region ?_
        refine sr_ev (v := .int .i64 i_3) (ev_move rfl) (by decide) ?_
        refine sr_ev (v := .int .i64 (IntKind.i64.wrap (i_3 + 1))) (ev_add rfl rfl) (by decide) ?_
        refine sr_ev (v := .int .i64 (IntKind.i64.wrap (i_3 + 1))) (ev_assign rfl) (by decide) ?_
        refine sr_end (l' := [(0, vl_0), (3, .int .i64 (IntKind.i64.wrap (i_3 + 1)))]) (.cons rfl (.cons rfl (.nil _))) ?_
        have hK := hr0 hS hb hA hi hH hl_0
        exact ke_weaken (l' := [(0, vl_0), (3, .int .i64 (IntKind.i64.wrap (i_3 + 1)))]) (.cons rfl (.cons rfl (.nil _))) hK
    · replace hS := ite_false' hS hc3
      refine ke_exit (k' := _) rfl ?_
      refine ke_seq ?_
      refine ke_region ?_
      refine sr_ev (v := vl_0) (ev_move rfl) (by decide) ?_
      refine sr_ev (v := .int .i64 (l_0.length : Int)) (ev_sllen Tryd.underlying35 rfl hl_0) (by decide) ?_
      refine sr_ev (v := .bool (decide ((l_0.length : Int) ≤ 20))) (ev_le rfl rfl) (by decide) ?_
      refine sr_ev (v := .bool (decide ((l_0.length : Int) ≤ 20))) (ev_assign rfl) (by decide) ?_
      refine sr_end (l' := [(2, .bool (decide ((l_0.length : Int) ≤ 20)))]) (.cons rfl (.nil _)) ?_
      cases hS
      exact ke_ret1 Tryd.func20 rfl rfl ⟨_, rfl, rfl, hb⟩
theorem law23_short_ok {A0 : Nat → Prop} (w0 : World) (hg : Gs w0) {l_0 : List Str} {v1 : Value} {r : Bool} (h2 : SlR strC A0 w0 v1 l_0) (hS : law23_short l_0 = some r) :
    Calls Tryd.prog 20 #[v1] w0 (Ret (fun v w' => v = .bool r ∧ Below w0.heap.size w0 w')) := by
  unfold law23_short at hS
  have hb := Below.refl w0.heap.size w0
  replace h2 := h2.weak (A' := fun _ => False) (fun _ h => h.elim)
  obtain ⟨A0, hA0, hAe⟩ : ∃ A0 : Nat → Prop, (∀ b, A0 b → b < w0.heap.size) ∧ A0 = fun _ => False := ⟨_, fun _ h => h.elim, rfl⟩
  rw [← hAe] at h2
  clear hAe
  have hA := hA0
  have hi : ∀ b, A0 b → A0 b := fun _ h => h
  have hH := Hp.nil A0 w0.heap.size w0
  refine calls_of_ke Tryd.func20 rfl (n := 19) rfl rfl (l := [(0, v1)]) rfl ?_
  refine ke_seq ?_
  refine ke_region ?_
  refine sr_ev (v := .bool false) (ev_assign rfl) (by decide) ?_
  refine sr_end (l' := [(0, v1)]) (.cons rfl (.nil _)) ?_
  refine ke_seq ?_
  refine ke_seq ?_
  refine ke_region ?_
  refine sr_ev (v := .int .i64 0) (ev_assign rfl) (by decide) ?_
  refine sr_end (l' := [(0, v1), (3, .int .i64 0)]) (.cons rfl (.cons rfl (.nil _))) ?_
  refine ke_block ?_
  have hK := law23_short_L1_ok hg hA0 _ hS hb hA hi hH h2
  exact ke_weaken (l' := [(0, v1), (3, .int .i64 0)]) (.cons rfl (.cons rfl (.nil _))) (ke_loop hK)
theorem ref23_Recovery_L1_ok {w0 : World} (hg : Gs w0) {A0 : Nat → Prop} (hA0 : ∀ b, A0 b → b < w0.heap.size) : ∀ (n : Nat), ∀ {r : (List Str) × Int} {secret_0 : Str} {n_1 : Int} {out_6 : List Str} {i_7 : Int} {vout_6 : Value}, ref23_Recovery_L1 n secret_0 n_1 out_6 i_7 = some r → ∀ {w : World} {A : Nat → Prop}, (Below w0.heap.size w0 w) → (∀ b, A b → b < w.heap.size) → (∀ b, A0 b → A b) → (Hp A w0.heap.size w []) → (OwnS strC 9 A w0.heap.size w vout_6 out_6) → (Dj vout_6 []) → KE Tryd.prog 22 (Ret (fun v w' => ∃ x1, v = .tuple #[x1, .int .i64 r.2] ∧ SlR strC A0 w' x1 r.1 ∧ Below w0.heap.size w0 w')) 37 [.code (sub (bodyOf Tryd.f22) [2, 2, 2, 2, 1, 2, 2, 1]), .inLoop (sub (bodyOf Tryd.f22) [2, 2, 2, 2, 1, 2, 2, 1]), .inBlock 0, .code (sub (bodyOf Tryd.f22) [2, 2, 2, 2, 2])] [(0, str secret_0), (1, .int .i64 n_1), (6, vout_6), (7, .int .i64 i_7)] w := by
  intro n
  induction n with
  | zero => intro r secret_0 n_1 out_6 i_7 vout_6 hS; cases hS
  | succ n ih =>
    have hr0 : ∀ {r : (List Str) × Int} {secret_0 : Str} {n_1 : Int} {out_6 : List Str} {i_7 : Int} {vout_6 : Value}, ref23_Recovery_L1 n secret_0 n_1 out_6 i_7 = some r → ∀ {w : World} {A : Nat → Prop}, (Below w0.heap.size w0 w) → (∀ b, A b → b < w.heap.size) → (∀ b, A0 b → A b) → (Hp A w0.heap.size w []) → (OwnS strC 9 A w0.heap.size w vout_6 out_6) → (Dj vout_6 []) → KE Tryd.prog 22 (Ret (fun v w' => ∃ x1, v = .tuple #[x1, .int .i64 r.2] ∧ SlR strC A0 w' x1 r.1 ∧ Below w0.heap.size w0 w')) 37 [.inLoop (sub (bodyOf Tryd.f22) [2, 2, 2, 2, 1, 2, 2, 1]), .inBlock 0, .code (sub (bodyOf Tryd.f22) [2, 2, 2, 2, 2])] [(0, str secret_0), (1, .int .i64 n_1), (6, vout_6), (7, .int .i64 i_7)] w := fun {r} {secret_0} {n_1} {out_6} {i_7} {vout_6} hS {w} {A} hb hA hi hH hout_6 dout_6 => ke_inLoop (ih hS hb hA hi hH hout_6 dout_6)
    clear ih
    intro r secret_0 n_1 out_6 i_7 vout_6 hS w A hb hA hi hH hout_6 dout_6
    unfold ref23_Recovery_L1 at hS
    refine ke_seq ?_
    refine ke_seq ?_
    refine ke_region ?_
    refine sr_ev (v := .int .i64 i_7) (ev_move rfl) (by decide) ?_
    refine sr_ev (v := .int .i64 n_1) (ev_move rfl) (by decide) ?_
    refine sr_ev (v := .bool (decide (i_7 < n_1))) (ev_lt rfl rfl) (by decide) ?_
    refine sr_end (l' := [(0, str secret_0), (1, .int .i64 n_1), (6, vout_6), (7, .int .i64 i_7), (20, .bool (decide (i_7 < n_1)))]) (.cons rfl (.cons rfl (.cons rfl (.cons rfl (.cons rfl (.nil _)))))) ?_
    refine ke_cond (t := decide (i_7 < n_1)) rfl (fun hc18 => ?_) (fun hc18 => ?_)
    · replace hS := ite_true' hS hc18
      refine ke_skip ?_
      refine ke_seq ?_
      refine ke_block ?_
      refine ke_seq ?_
      refine ke_region ?_
      refine sr_ev (v := str secret_0) (ev_move rfl) (by decide) ?_
      refine sr_ev (v := .int .i64 i_7) (ev_move rfl) (by decide) ?_
      obtain ⟨y19, hy20, hS⟩ := bind_some' hS
      refine sr_call (vs := [.int .i64 i_7]) rfl Tryd.call35 rfl (ref02_Int_ok _ (hg.below hb) hy20) (by decide) ?_
      rintro _ w21 ⟨rfl, hbw22⟩
      replace hb := hb.trans (hbw22.mono hb.size)
      replace hA := lt_mono hA hbw22.size
      replace hH := hH.below hbw22
      replace hout_6 := hout_6.below hbw22
      obtain ⟨hk23, hS⟩ := chk_some hS
      refine sr_ev (v := str (([114, 101, 99, 111, 118, 101, 114, 121]) ++ y19)) (ev_cat rfl rfl hk23) (by decide) ?_
      obtain ⟨y24, hy25, hS⟩ := bind_some' hS
      refine sr_call (vs := [str secret_0, str (([114, 101, 99, 111, 118, 101, 114, 121]) ++ y19)]) rfl Tryd.call34 rfl (ref03_Mac_ok _ (hg.below hb) hy25) (by decide) ?_
      rintro _ w26 ⟨rfl, hbw27⟩
      replace hb := hb.trans (hbw27.mono hb.size)
      replace hA := lt_mono hA hbw27.size
      replace hH := hH.below hbw27
      replace hout_6 := hout_6.below hbw27
      refine sr_ev (v := str y24) (ev_assign rfl) (by decide) ?_
      refine sr_end (l' := [(0, str secret_0), (1, .int .i64 n_1), (6, vout_6), (7, .int .i64 i_7), (8, str y24)]) (.cons rfl (.cons rfl (.cons rfl (.cons rfl (.cons rfl (.nil _)))))) ?_
      refine ke_region ?_
      refine sr_ev (v := vout_6) (ev_move rfl) (by decide) ?_
      refine sr_ev (v := str y24) (ev_move rfl) (by decide) ?_
      refine sr_ev (v := str y24) (ev_move rfl) (by decide) ?_
      refine sr_ev (v := .int .i64 (y24.length : Int)) (ev_slen Tryd.underlying9 rfl) (by decide) ?_
      refine sr_ev (v := .int .i64 (gmin (y24.length : Int) 10)) (ev_min rfl rfl) (by decide) ?_
      obtain ⟨hk28, hS⟩ := chk_some hS
      refine sr_ev (v := str (cut y24 0 (gmin (y24.length : Int) 10))) (ev_sslice_to Tryd.underlying9 rfl rfl hk28) (by decide) ?_
      refine sr_lit (c := strC) (A := A) (E := 9) (xs := [cut y24 0 (gmin (y24.length : Int) 10)]) (vs := #[(0, str (cut y24 0 (gmin (y24.length : Int) 10)))]) (cs := #[str (cut y24 0 (gmin (y24.length : Int) 10))]) (css := [[str (cut y24 0 (gmin (y24.length : Int) 10))]]) rfl (fun _ => by kernel_rfl) rfl ⟨rfl, trivial⟩ rfl (by decide) hA (by decide) ?_
      intro v29 w31 h30 hbw32
      replace hb := hb.trans (hbw32.mono hb.size)
      replace hA := lt_mono hA hbw32.size
      replace hH := hH.below hbw32
      replace hout_6 := hout_6.below hbw32
      obtain ⟨hk33, hS⟩ := chk_some hS
      refine sr_append (c := strC) (A := A) (B := w0.heap.size) (E := 9) (xs := out_6) (ys := ([cut y24 0 (gmin (y24.length : Int) 10)] : List Str)) hout_6 h30 Tryd.underlying35 Tryd.info9 rfl rfl rfl (by decide) (by decide) hA hb.size hk33 rfl rfl (by decide) ?_
      intro v34 A36 w37 h35 hst38 hbB39 hinc40 hA1 hoth41 hold
      have dj42 : Dj v34 [] := fun p hp e => by rcases hold _ e with h | h; exact dout_6 p hp h; have := hH.lt hp; omega
      replace hb := hb.trans hbB39
      replace hi := fun b hb => hinc40 b (hi b hb)
      replace hH := hH.keep hinc40 (fun p hp => hoth41 _ (hH.lt hp) (dout_6 p hp))
      replace hA := hA1
      clear hA1
      refine sr_ev (v := v34) (ev_assign rfl) (by decide) ?_
      refine sr_end (l' := [(0, str secret_0), (1, .int .i64 n_1), (6, v34), (7, .int .i64 i_7)]) (.cons rfl (.cons rfl (.cons rfl (.cons rfl (.nil _))))) ?_
      refine ke_inBlock ?_
      refine ke_region ?_
      refine sr_ev (v := .int .i64 i_7) (ev_move rfl) (by decide) ?_
      refine sr_ev (v := .int .i64 (IntKind.i64.wrap (i_7 + 1))) (ev_add rfl rfl) (by decide) ?_
      refine sr_ev (v := .int .i64 (IntKind.i64.wrap (i_7 + 1))) (ev_assign rfl) (by decide) ?_
      refine sr_end (l' := [(0, str secret_0), (1, .int .i64 n_1), (6, v34), (7, .int .i64 (IntKind.i64.wrap (i_7 + 1)))]) (.cons rfl (.cons rfl (.cons rfl (.cons rfl (.nil _))))) ?_
      have hK := hr0 hS hb hA hi hH h35 dj42
      exact ke_weaken (l' := [(0, str secret_0), (1, .int .i64 n_1), (6, v34), (7, .int .i64 (IntKind.i64.wrap (i_7 + 1)))]) (.cons rfl (.cons rfl (.cons rfl (.cons rfl (.nil _))))) hK
    · replace hS := ite_false' hS hc18
      refine ke_exit (k' := _) rfl ?_
      refine ke_seq ?_
      refine ke_region ?_
      refine sr_ev (v := vout_6) (ev_move rfl) (by decide) ?_
      refine sr_ev (v := vout_6) (ev_assign rfl) (by decide) ?_
      refine sr_ev (v := .int .i64 0) (ev_assign rfl) (by decide) ?_
      refine sr_end (l' := [(4, vout_6), (5, .int .i64 0)]) (.cons rfl (.cons rfl (.nil _))) ?_
      cases hS
      exact ke_ret2 Tryd.func22 rfl rfl rfl ⟨_, rfl, _, rfl, hout_6.toSl (fun b hb => ⟨hi b hb, hA0 b hb⟩), hb⟩
theorem ref23_Recovery_ok {A0 : Nat → Prop} (w0 : World) (hg : Gs w0) {secret_0 : Str} {n_1 : Int} {r : (List Str) × Int} (hA0 : ∀ b, A0 b → b < w0.heap.size) (hS : ref23_Recovery secret_0 n_1 = some r) :
    Calls Tryd.prog 22 #[str secret_0, .int .i64 n_1] w0 (Ret (fun v w' => ∃ x1, v = .tuple #[x1, .int .i64 r.2] ∧ SlR strC A0 w' x1 r.1 ∧ Below w0.heap.size w0 w')) := by
  unfold ref23_Recovery at hS
  have hb := Below.refl w0.heap.size w0
  have hA := hA0
  have hi : ∀ b, A0 b → A0 b := fun _ h => h
  have hH := Hp.nil A0 w0.heap.size w0
  refine calls_of_ke Tryd.func22 rfl (n := 37) rfl rfl (l := [(0, str secret_0), (1, .int .i64 n_1)]) rfl ?_
  refine ke_seq ?_
  refine ke_region ?_
  refine sr_ev (v := .slice none 0 0) (ev_assign rfl) (by decide) ?_
  refine sr_ev (v := .int .i64 0) (ev_assign rfl) (by decide) ?_
  refine sr_end (l' := [(0, str secret_0), (1, .int .i64 n_1)]) (.cons rfl (.cons rfl (.nil _))) ?_
  refine ke_seq ?_
  refine ke_seq ?_
  refine ke_region ?_
  refine sr_ev (v := str secret_0) (ev_move rfl) (by decide) ?_
  obtain ⟨y3, hy4, hS⟩ := bind_some' hS
  refine sr_call (vs := [str secret_0]) rfl Tryd.call31 rfl (ref01_Clean_ok _ (hg.below hb) hy4) (by decide) ?_
  rintro _ w5 ⟨rfl, hbw6⟩
  replace hb := hb.trans (hbw6.mono hb.size)
  replace hA := lt_mono hA hbw6.size
  replace hH := hH.below hbw6
  refine sr_ev (v := .bool (!y3)) (ev_not rfl) (by decide) ?_
  refine sr_end (l' := [(0, str secret_0), (1, .int .i64 n_1), (11, .bool (!y3))]) (.cons rfl (.cons rfl (.cons rfl (.nil _)))) ?_
  refine ke_cond (t := !y3) rfl (fun hc7 => ?_) (fun hc7 => ?_)
  · replace hS := ite_true' hS hc7
    refine ke_seq ?_
    refine ke_region ?_
    refine sr_ev (v := .slice none 0 0) (ev_assign rfl) (by decide) ?_
    refine sr_ev (v := .int .i64 4) (ev_assign rfl) (by decide) ?_
    refine sr_end (l' := [(4, .slice none 0 0), (5, .int .i64 4)]) (.cons rfl (.cons rfl (.nil _))) ?_
    cases hS
    exact ke_ret2 Tryd.func22 rfl rfl rfl ⟨_, rfl, _, rfl, SlR.nil, hb⟩
  · replace hS := ite_false' hS hc7
    refine ke_skip ?_
    refine ke_seq ?_
    refine ke_seq ?_
    refine ke_region ?_
    refine sr_ev (v := .int .i64 n_1) (ev_move rfl) (by decide) ?_
    refine sr_ev (v := .bool (decide (n_1 < 1))) (ev_lt rfl rfl) (by decide) ?_
    refine sr_ev (v := .bool (decide (n_1 < 1))) (ev_move rfl) (by decide) ?_
    refine sr_join (m := 3) (C := fun (x : Bool) w1 => x = ((decide (n_1 < 1)) || (decide (n_1 > 16))) ∧ w5 = w1) (l' := fun x => [(0, str secret_0), (1, .int .i64 n_1), (17, .bool x)]) ?_ ?_
    · rintro _ _ ⟨rfl, rfl⟩
      refine sr_end (l' := [(0, str secret_0), (1, .int .i64 n_1), (17, .bool ((decide (n_1 < 1)) || (decide (n_1 > 16))))]) (.cons rfl (.cons rfl (.cons rfl (.nil _)))) ?_
      refine ke_cond (t := (decide (n_1 < 1)) || (decide (n_1 > 16))) rfl (fun hc15 => ?_) (fun hc15 => ?_)
      · replace hS := ite_true' hS hc15
        refine ke_seq ?_
        refine ke_region ?_
        refine sr_ev (v := .slice none 0 0) (ev_assign rfl) (by decide) ?_
        refine sr_ev (v := .int .i64 27) (ev_assign rfl) (by decide) ?_
        refine sr_end (l' := [(4, .slice none 0 0), (5, .int .i64 27)]) (.cons rfl (.cons rfl (.nil _))) ?_
        cases hS
        exact ke_ret2 Tryd.func22 rfl rfl rfl ⟨_, rfl, _, rfl, SlR.nil, hb⟩
      · replace hS := ite_false' hS hc15
        refine ke_skip ?_
        refine ke_seq ?_
        refine ke_region ?_
        refine sr_ev (v := .slice none 0 0) (ev_assign rfl) (by decide) ?_
        refine sr_end (l' := [(0, str secret_0), (1, .int .i64 n_1), (6, .slice none 0 0)]) (.cons rfl (.cons rfl (.cons rfl (.nil _)))) ?_
        refine ke_seq ?_
        refine ke_seq ?_
        refine ke_region ?_
        refine sr_ev (v := .int .i64 0) (ev_assign rfl) (by decide) ?_
        refine sr_end (l' := [(0, str secret_0), (1, .int .i64 n_1), (6, .slice none 0 0), (7, .int .i64 0)]) (.cons rfl (.cons rfl (.cons rfl (.cons rfl (.nil _))))) ?_
        refine ke_block ?_
        have hK := ref23_Recovery_L1_ok hg hA0 _ hS hb hA hi hH OwnS.nil (Dj.nil _)
        exact ke_weaken (l' := [(0, str secret_0), (1, .int .i64 n_1), (6, (.slice none 0 0)), (7, .int .i64 0)]) (.cons rfl (.cons rfl (.cons rfl (.cons rfl (.nil _))))) (ke_loop hK)
    · intro K9
      rcases Bool.eq_false_or_eq_true (decide (n_1 < 1)) with hg8 | hg8
      · refine sr_pass (e := 14) rfl rfl (by rw [hg8]; rfl) (by decide) ?_
        refine sr_pass (e := 14) rfl rfl (by rw [hg8]; rfl) (by decide) ?_
        refine sr_ev (v := .bool true) (ev_pick_t rfl hg8 rfl) (by decide) ?_
        exact sr_weaken (l' := [(0, str secret_0), (1, .int .i64 n_1), (17, .bool true)]) (.cons rfl (.cons rfl (.cons rfl (.nil _)))) (K9 true _ ⟨by rw [hg8]; rfl, rfl⟩)
      · refine sr_evg (b := false) (e := 14) rfl rfl hg8 (v := .int .i64 n_1) (ev_move rfl) (by decide) ?_
        refine sr_evg (b := false) (e := 14) rfl rfl hg8 (v := .bool (decide (n_1 > 16))) (ev_gt rfl rfl) (by decide) ?_
        refine sr_ev (v := .bool (decide (n_1 > 16))) (ev_pick_f rfl hg8 rfl) (by decide) ?_
        exact sr_weaken (l' := [(0, str secret_0), (1, .int .i64 n_1), (17, .bool (decide (n_1 > 16)))]) (.cons rfl (.cons rfl (.cons rfl (.nil _)))) (K9 (decide (n_1 > 16)) _ ⟨by rw [hg8]; rfl, rfl⟩)
theorem ref23_Redeem_L1_ok {w0 : World} (hg : Gs w0) {A0 : Nat → Prop} (hA0 : ∀ b, A0 b → b < w0.heap.size) : ∀ (n : Nat), ∀ {r : (List Str) × Int} {codes_0 : List Str} {code_1 : Str} {i_6 : Int} {vcodes_0 : Value}, ref23_Redeem_L1 n codes_0 code_1 i_6 = some r → ∀ {w : World} {A : Nat → Prop}, (Below w0.heap.size w0 w) → (∀ b, A b → b < w.heap.size) → (∀ b, A0 b → A b) → (Hp A w0.heap.size w []) → (SlR strC A w vcodes_0 codes_0) → KE Tryd.prog 24 (Ret (fun v w' => ∃ x1, v = .tuple #[x1, .int .i64 r.2] ∧ SlR strC A0 w' x1 r.1 ∧ Below w0.heap.size w0 w')) 31 [.code (sub (bodyOf Tryd.f24) [2, 1, 2, 2, 1]), .inLoop (sub (bodyOf Tryd.f24) [2, 1, 2, 2, 1]), .inBlock 0, .code (sub (bodyOf Tryd.f24) [2, 2])] [(0, vcodes_0), (1, str code_1), (6, .int .i64 i_6)] w := by
  intro n
  induction n with
  | zero => intro r codes_0 code_1 i_6 vcodes_0 hS; cases hS
  | succ n ih =>
    have hr0 : ∀ {r : (List Str) × Int} {codes_0 : List Str} {code_1 : Str} {i_6 : Int} {vcodes_0 : Value}, ref23_Redeem_L1 n codes_0 code_1 i_6 = some r → ∀ {w : World} {A : Nat → Prop}, (Below w0.heap.size w0 w) → (∀ b, A b → b < w.heap.size) → (∀ b, A0 b → A b) → (Hp A w0.heap.size w []) → (SlR strC A w vcodes_0 codes_0) → KE Tryd.prog 24 (Ret (fun v w' => ∃ x1, v = .tuple #[x1, .int .i64 r.2] ∧ SlR strC A0 w' x1 r.1 ∧ Below w0.heap.size w0 w')) 31 [.inLoop (sub (bodyOf Tryd.f24) [2, 1, 2, 2, 1]), .inBlock 0, .code (sub (bodyOf Tryd.f24) [2, 2])] [(0, vcodes_0), (1, str code_1), (6, .int .i64 i_6)] w := fun {r} {codes_0} {code_1} {i_6} {vcodes_0} hS {w} {A} hb hA hi hH hcodes_0 => ke_inLoop (ih hS hb hA hi hH hcodes_0)
    clear ih
    intro r codes_0 code_1 i_6 vcodes_0 hS w A hb hA hi hH hcodes_0
    unfold ref23_Redeem_L1 at hS
    refine ke_seq ?_
    refine ke_seq ?_
    refine ke_region ?_
    refine sr_ev (v := .int .i64 i_6) (ev_move rfl) (by decide) ?_
    refine sr_ev (v := vcodes_0) (ev_move rfl) (by decide) ?_
    refine sr_ev (v := .int .i64 (codes_0.length : Int)) (ev_sllen Tryd.underlying35 rfl hcodes_0) (by decide) ?_
    refine sr_ev (v := .bool (decide (i_6 < (codes_0.length : Int)))) (ev_lt rfl rfl) (by decide) ?_
    refine sr_end (l' := [(0, vcodes_0), (1, str code_1), (6, .int .i64 i_6), (11, .bool (decide (i_6 < (codes_0.length : Int))))]) (.cons rfl (.cons rfl (.cons rfl (.cons rfl (.nil _))))) ?_
    refine ke_cond (t := decide (i_6 < (codes_0.length : Int))) rfl (fun hc7 => ?_) (fun hc7 => ?_)
    · replace hS := ite_true' hS hc7
      refine ke_skip ?_
      refine ke_seq ?_
      refine ke_block ?_
      refine ke_seq ?_
      refine ke_region ?_
      refine sr_ev (v := vcodes_0) (ev_move rfl) (by decide) ?_
      refine sr_ev (v := .int .i64 i_6) (ev_move rfl) (by decide) ?_
      obtain ⟨y8, hy9, hS⟩ := bind_some' hS
      refine sr_index hcodes_0 Tryd.underlying35 Tryd.info9 rfl rfl rfl hy9 (by decide) ?_
      intro b10 o11 cs13 he12
      obtain rfl : cs13 = [str y8] := he12.rd
      refine sr_ev (v := str y8) (ev_load Tryd.isAgg9 rfl (he12.cell 0 _ rfl)) (by decide) ?_
      refine sr_ev (v := str code_1) (ev_move rfl) (by decide) ?_
      refine sr_ev (v := .bool (y8 == code_1)) (ev_seq rfl rfl) (by decide) ?_
      refine sr_end (l' := [(0, vcodes_0), (1, str code_1), (6, .int .i64 i_6), (19, .bool (y8 == code_1))]) (.cons rfl (.cons rfl (.cons rfl (.cons rfl (.nil _))))) ?_
      refine ke_cond (t := y8 == code_1) rfl (fun hc14 => ?_) (fun hc14 => ?_)
      · replace hS := ite_true' hS hc14
        refine ke_seq ?_
        refine ke_region ?_
        refine sr_ev (v := .slice none 0 0) (ev_assign rfl) (by decide) ?_
        refine sr_end (l' := [(0, vcodes_0), (6, .int .i64 i_6), (7, .slice none 0 0)]) (.cons rfl (.cons rfl (.cons rfl (.nil _)))) ?_
        refine ke_seq ?_
        refine ke_region ?_
        refine sr_ev (v := .slice none 0 0) (ev_move rfl) (by decide) ?_
        refine sr_ev (v := vcodes_0) (ev_move rfl) (by decide) ?_
        refine sr_ev (v := .int .i64 i_6) (ev_move rfl) (by decide) ?_
        obtain ⟨hk15, hS⟩ := chk_some hS
        refine sr_slice_h hcodes_0 Tryd.underlying35 Tryd.info9 rfl rfl rfl  hk15 (by decide) ?_
        intro v16 h17
        obtain ⟨hk18, hS⟩ := chk_some hS
        refine sr_append (c := strC) (A := A) (B := w0.heap.size) (E := 9) (xs := ([] : List Str)) (ys := cut codes_0 0 i_6) OwnS.nil h17 Tryd.underlying35 Tryd.info9 rfl rfl rfl (by decide) (by decide) hA hb.size hk18 rfl rfl (by decide) ?_
        intro v19 A21 w22 h20 hst23 hbB24 hinc25 hA1 hoth26 hold
        have dj27 : Dj v19 [] := fun p hp e => by rcases hold _ e with h | h; exact Dj.nil _ p hp h; have := hH.lt hp; omega
        replace hb := hb.trans hbB24
        replace hi := fun b hb => hinc25 b (hi b hb)
        replace hH := hH.keep hinc25 (fun p hp => hoth26 _ (hH.lt hp) ((Dj.nil []) p hp))
        replace hA := hA1
        clear hA1
        replace hcodes_0 := hcodes_0.step hst23
        refine sr_ev (v := v19) (ev_assign rfl) (by decide) ?_
        refine sr_end (l' := [(0, vcodes_0), (6, .int .i64 i_6), (7, v19)]) (.cons rfl (.cons rfl (.cons rfl (.nil _)))) ?_
        refine ke_seq ?_
        refine ke_region ?_
        refine sr_ev (v := v19) (ev_move rfl) (by decide) ?_
        refine sr_ev (v := vcodes_0) (ev_move rfl) (by decide) ?_
        refine sr_ev (v := .int .i64 i_6) (ev_move rfl) (by decide) ?_
        refine sr_ev (v := .int .i64 (IntKind.i64.wrap (i_6 + 1))) (ev_add rfl rfl) (by decide) ?_
        obtain ⟨hk28, hS⟩ := chk_some hS
        refine sr_slice_l hcodes_0 Tryd.underlying35 Tryd.info9 rfl rfl rfl  hk28 (by decide) ?_
        intro v29 h30
        obtain ⟨hk31, hS⟩ := chk_some hS
        refine sr_append (c := strC) (A := A21) (B := w0.heap.size) (E := 9) (xs := ([] : List Str) ++ (cut codes_0 0 i_6)) (ys := cut codes_0 (IntKind.i64.wrap (i_6 + 1)) codes_0.length) h20 h30 Tryd.underlying35 Tryd.info9 rfl rfl rfl (by decide) (by decide) hA hb.size hk31 rfl rfl (by decide) ?_
        intro v32 A34 w35 h33 hst36 hbB37 hinc38 hA1 hoth39 hold
        have dj40 : Dj v32 [] := fun p hp e => by rcases hold _ e with h | h; exact dj27 p hp h; have := hH.lt hp; omega
        replace hb := hb.trans hbB37
        replace hi := fun b hb => hinc38 b (hi b hb)
        replace hH := hH.keep hinc38 (fun p hp => hoth39 _ (hH.lt hp) (dj27 p hp))
        replace hA := hA1
        clear hA1
        refine sr_ev (v := v32) (ev_assign rfl) (by decide) ?_
        refine sr_ev (v := .int .i64 0) (ev_assign rfl) (by decide) ?_
        refine sr_end (l' := [(4, v32), (5, .int .i64 0)]) (.cons rfl (.cons rfl (.nil _))) ?_
        cases hS
        exact ke_ret2 Tryd.func24 rfl rfl rfl ⟨_, rfl, _, rfl, h33.toSl (fun b hb => ⟨hi b hb, hA0 b hb⟩), hb⟩
      · replace hS := ite_false' hS hc14
        refine ke_skip ?_
        refine ke_inBlock ?_
        refine ke_region ?_
        refine sr_ev (v := .int .i64 i_6) (ev_move rfl) (by decide) ?_
        refine sr_ev (v := .int .i64 (IntKind.i64.wrap (i_6 + 1))) (ev_add rfl rfl) (by decide) ?_
        refine sr_ev (v := .int .i64 (IntKind.i64.wrap (i_6 + 1))) (ev_assign rfl) (by decide) ?_
        refine sr_end (l' := [(0, vcodes_0), (1, str code_1), (6, .int .i64 (IntKind.i64.wrap (i_6 + 1)))]) (.cons rfl (.cons rfl (.cons rfl (.nil _)))) ?_
        have hK := hr0 hS hb hA hi hH hcodes_0
        exact ke_weaken (l' := [(0, vcodes_0), (1, str code_1), (6, .int .i64 (IntKind.i64.wrap (i_6 + 1)))]) (.cons rfl (.cons rfl (.cons rfl (.nil _)))) hK
    · replace hS := ite_false' hS hc7
      refine ke_exit (k' := _) rfl ?_
      refine ke_seq ?_
      refine ke_region ?_
      refine sr_ev (v := .slice none 0 0) (ev_assign rfl) (by decide) ?_
      refine sr_ev (v := .int .i64 6) (ev_assign rfl) (by decide) ?_
      refine sr_end (l' := [(4, .slice none 0 0), (5, .int .i64 6)]) (.cons rfl (.cons rfl (.nil _))) ?_
      cases hS
      exact ke_ret2 Tryd.func24 rfl rfl rfl ⟨_, rfl, _, rfl, SlR.nil, hb⟩
theorem ref23_Redeem_ok {A0 : Nat → Prop} (w0 : World) (hg : Gs w0) {codes_0 : List Str} {code_1 : Str} {v1 : Value} {r : (List Str) × Int} (h2 : SlR strC A0 w0 v1 codes_0) (hA0 : ∀ b, A0 b → b < w0.heap.size) (hS : ref23_Redeem codes_0 code_1 = some r) :
    Calls Tryd.prog 24 #[v1, str code_1] w0 (Ret (fun v w' => ∃ x1, v = .tuple #[x1, .int .i64 r.2] ∧ SlR strC A0 w' x1 r.1 ∧ Below w0.heap.size w0 w')) := by
  unfold ref23_Redeem at hS
  have hb := Below.refl w0.heap.size w0
  have hA := hA0
  have hi : ∀ b, A0 b → A0 b := fun _ h => h
  have hH := Hp.nil A0 w0.heap.size w0
  refine calls_of_ke Tryd.func24 rfl (n := 31) rfl rfl (l := [(0, v1), (1, str code_1)]) rfl ?_
  refine ke_seq ?_
  refine ke_region ?_
  refine sr_ev (v := .slice none 0 0) (ev_assign rfl) (by decide) ?_
  refine sr_ev (v := .int .i64 0) (ev_assign rfl) (by decide) ?_
  refine sr_end (l' := [(0, v1), (1, str code_1)]) (.cons rfl (.cons rfl (.nil _))) ?_
  refine ke_seq ?_
  refine ke_seq ?_
  refine ke_region ?_
  refine sr_ev (v := .int .i64 0) (ev_assign rfl) (by decide) ?_
  refine sr_end (l' := [(0, v1), (1, str code_1), (6, .int .i64 0)]) (.cons rfl (.cons rfl (.cons rfl (.nil _)))) ?_
  refine ke_block ?_
  have hK := ref23_Redeem_L1_ok hg hA0 _ hS hb hA hi hH h2
  exact ke_weaken (l' := [(0, v1), (1, str code_1), (6, .int .i64 0)]) (.cons rfl (.cons rfl (.cons rfl (.nil _)))) (ke_loop hK)
theorem law23_OtpRecovers_B1_ok {w0 : World} (hg : Gs w0) {A0 : Nat → Prop} (hA0 : ∀ b, A0 b → b < w0.heap.size) {r : Bool} {codes_2 : List Str} {a_7 : List Str} {e_8 : Int} {b_9 : List Str} {f_10 : Int} {code_11 : Str} {vcodes_2 : Value} {va_7 : Value} {vb_9 : Value} (hS : law23_OtpRecovers_B1 codes_2 a_7 e_8 b_9 f_10 code_11 = some r) {w : World} {A : Nat → Prop} (hb : Below w0.heap.size w0 w) (hA : ∀ b, A b → b < w.heap.size) (hi : ∀ b, A0 b → A b) (hH : Hp A w0.heap.size w []) (hcodes_2 : SlR strC A w vcodes_2 codes_2) (ha_7 : SlR strC A w va_7 a_7) (hb_9 : SlR strC A w vb_9 b_9) :
    KE Tryd.prog 5 (Ret (fun v w' => v = .bool r ∧ Below w0.heap.size w0 w')) 79 [.code (sub (bodyOf Tryd.f5) [2, 2, 2, 2, 2, 2])] [(2, vcodes_2), (7, va_7), (8, .int .i64 e_8), (9, vb_9), (10, .int .i64 f_10), (11, str code_11)] w := by
  unfold law23_OtpRecovers_B1 at hS
  refine ke_seq ?_
  refine ke_region ?_
  refine sr_ev (v := vcodes_2) (ev_move rfl) (by decide) ?_
  refine sr_ev (v := str code_11) (ev_move rfl) (by decide) ?_
  obtain ⟨y38, hy39, hS⟩ := bind_some' hS
  refine sr_call (vs := [vcodes_2, str code_11]) rfl Tryd.call23 rfl (otp_Redeem_ok _ (hg.below hb) hcodes_2 hA hy39) (by decide) ?_
  rintro _ w40 ⟨v42, rfl, h43, hbw41⟩
  replace hb := hb.trans (hbw41.mono hb.size)
  replace hA := lt_mono hA hbw41.size
  replace hH := hH.below hbw41
  replace hcodes_2 := hcodes_2.below hbw41
  replace ha_7 := ha_7.below hbw41
  replace hb_9 := hb_9.below hbw41
  refine sr_ev (v := .tuple #[v42, .int .i64 y38.2]) (ev_move rfl) (by decide) ?_
  refine sr_ev (v := v42) (ev_extract rfl rfl) (by decide) ?_
  refine sr_ev (v := .int .i64 y38.2) (ev_extract rfl rfl) (by decide) ?_
  refine sr_ev (v := v42) (ev_assign rfl) (by decide) ?_
  refine sr_ev (v := .int .i64 y38.2) (ev_assign rfl) (by decide) ?_
  refine sr_end (l' := [(2, vcodes_2), (7, va_7), (8, .int .i64 e_8), (9, vb_9), (10, .int .i64 f_10), (11, str code_11), (12, v42), (13, .int .i64 y38.2)]) (.cons rfl (.cons rfl (.cons rfl (.cons rfl (.cons rfl (.cons rfl (.cons rfl (.cons rfl (.nil _))))))))) ?_
  refine ke_seq ?_
  refine ke_region ?_
  refine sr_ev (v := vcodes_2) (ev_move rfl) (by decide) ?_
  refine sr_ev (v := str code_11) (ev_move rfl) (by decide) ?_
  obtain ⟨y44, hy45, hS⟩ := bind_some' hS
  refine sr_call (vs := [vcodes_2, str code_11]) rfl Tryd.call24 rfl (ref23_Redeem_ok _ (hg.below hb) hcodes_2 hA hy45) (by decide) ?_
  rintro _ w46 ⟨v48, rfl, h49, hbw47⟩
  replace hb := hb.trans (hbw47.mono hb.size)
  replace hA := lt_mono hA hbw47.size
  replace hH := hH.below hbw47
  replace ha_7 := ha_7.below hbw47
  replace hb_9 := hb_9.below hbw47
  replace h43 := h43.below hbw47
  refine sr_ev (v := .tuple #[v48, .int .i64 y44.2]) (ev_move rfl) (by decide) ?_
  refine sr_ev (v := v48) (ev_extract rfl rfl) (by decide) ?_
  refine sr_ev (v := .int .i64 y44.2) (ev_extract rfl rfl) (by decide) ?_
  refine sr_ev (v := v48) (ev_assign rfl) (by decide) ?_
  refine sr_ev (v := .int .i64 y44.2) (ev_assign rfl) (by decide) ?_
  refine sr_end (l' := [(7, va_7), (8, .int .i64 e_8), (9, vb_9), (10, .int .i64 f_10), (12, v42), (13, .int .i64 y38.2), (14, v48), (15, .int .i64 y44.2)]) (.cons rfl (.cons rfl (.cons rfl (.cons rfl (.cons rfl (.cons rfl (.cons rfl (.cons rfl (.nil _))))))))) ?_
  refine ke_seq ?_
  refine ke_region ?_
  refine sr_ev (v := va_7) (ev_move rfl) (by decide) ?_
  refine sr_ev (v := vb_9) (ev_move rfl) (by decide) ?_
  obtain ⟨y50, hy51, hS⟩ := bind_some' hS
  refine sr_call (vs := [va_7, vb_9]) rfl Tryd.call25 rfl (ref07_Lists_ok _ (hg.below hb) ha_7 hb_9 hy51) (by decide) ?_
  rintro _ w52 ⟨rfl, hbw53⟩
  replace hb := hb.trans (hbw53.mono hb.size)
  replace hA := lt_mono hA hbw53.size
  replace hH := hH.below hbw53
  replace h43 := h43.below hbw53
  replace h49 := h49.below hbw53
  refine sr_ev (v := .bool y50) (ev_move rfl) (by decide) ?_
  refine sr_join (m := 4) (C := fun (x : Bool) w1 => x = (y50 && (e_8 == f_10)) ∧ w52 = w1) (l' := fun x => [(12, v42), (13, .int .i64 y38.2), (14, v48), (15, .int .i64 y44.2), (65, .bool x)]) ?_ ?_
  · rintro _ _ ⟨rfl, rfl⟩
    refine sr_ev (v := .bool (y50 && (e_8 == f_10))) (ev_move rfl) (by decide) ?_
    obtain ⟨z63, hz65, hS⟩ := bind_some' hS
    refine sr_join (m := 4) (C := fun (x : Bool) w1 => z63 = x ∧ Below w52.heap.size w52 w1) (l' := fun x => [(13, .int .i64 y38.2), (15, .int .i64 y44.2), (70, .bool x)]) ?_ ?_
    · rintro _ w66 ⟨rfl, hbw67⟩
      replace hb := hb.trans (hbw67.mono hb.size)
      replace hA := lt_mono hA hbw67.size
      replace hH := hH.below hbw67
      refine sr_ev (v := .bool z63) (ev_move rfl) (by decide) ?_
      refine sr_join (m := 4) (C := fun (x : Bool) w1 => x = (z63 && (y38.2 == y44.2)) ∧ w66 = w1) (l' := fun x => [(75, .bool x)]) ?_ ?_
      · rintro _ _ ⟨rfl, rfl⟩
        refine sr_ev (v := .bool (z63 && (y38.2 == y44.2))) (ev_move rfl) (by decide) ?_
        obtain ⟨z81, hz83, hS⟩ := bind_some' hS
        refine sr_join (m := 2) (C := fun (x : Bool) w1 => z81 = x ∧ Below w66.heap.size w66 w1) (l' := fun x => [(78, .bool x)]) ?_ ?_
        · rintro _ w84 ⟨rfl, hbw85⟩
          replace hb := hb.trans (hbw85.mono hb.size)
          replace hA := lt_mono hA hbw85.size
          replace hH := hH.below hbw85
          refine sr_ev (v := .bool z81) (ev_assign rfl) (by decide) ?_
          refine sr_end (l' := [(6, .bool z81)]) (.cons rfl (.nil _)) ?_
          cases hS
          exact ke_ret1 Tryd.func5 rfl rfl ⟨_, rfl, rfl, hb⟩
        · intro K80
          clear hS
          have hj82 := Below.refl w66.heap.size w66
          rcases Bool.eq_false_or_eq_true (z63 && (y38.2 == y44.2)) with hg79 | hg79
          · have hS := ite_true' hz83 hg79
            obtain ⟨y86, hy87, hS⟩ := bind_some' hS
            refine sr_callg (b := true) (e := 76) rfl rfl hg79 (vs := []) rfl Tryd.call9 rfl (law23_alive_ok _ (hg.below hb) hy87) (by decide) ?_
            rintro _ w88 ⟨rfl, hbw89⟩
            replace hb := hb.trans (hbw89.mono hb.size)
            replace hj82 := hj82.trans (hbw89.mono hj82.size)
            replace hA := lt_mono hA hbw89.size
            replace hH := hH.below hbw89
            refine sr_ev (v := .bool y86) (ev_pick_t rfl hg79 rfl) (by decide) ?_
            exact sr_weaken (l' := [(78, .bool y86)]) (.cons rfl (.nil _)) (K80 y86 _ ⟨(Option.some.inj hS).symm, hj82⟩)
          · have hS := ite_false' hz83 hg79
            refine sr_pass (e := 76) rfl rfl (by rw [hg79]; rfl) (by decide) ?_
            refine sr_ev (v := .bool false) (ev_pick_f rfl hg79 rfl) (by decide) ?_
            exact sr_weaken (l' := [(78, .bool false)]) (.cons rfl (.nil _)) (K80 false _ ⟨(Option.some.inj hS).symm, hj82⟩)
      · intro K73
        rcases Bool.eq_false_or_eq_true z63 with hg72 | hg72
        · refine sr_evg (b := true) (e := 71) rfl rfl hg72 (v := .int .i64 y38.2) (ev_move rfl) (by decide) ?_
          refine sr_evg (b := true) (e := 71) rfl rfl hg72 (v := .int .i64 y44.2) (ev_move rfl) (by decide) ?_
          refine sr_evg (b := true) (e := 71) rfl rfl hg72 (v := .bool (y38.2 == y44.2)) (ev_eq rfl rfl) (by decide) ?_
          refine sr_ev (v := .bool (y38.2 == y44.2)) (ev_pick_t rfl hg72 rfl) (by decide) ?_
          exact sr_weaken (l' := [(75, .bool (y38.2 == y44.2))]) (.cons rfl (.nil _)) (K73 (y38.2 == y44.2) _ ⟨by rw [hg72]; rfl, rfl⟩)
        · refine sr_pass (e := 71) rfl rfl (by rw [hg72]; rfl) (by decide) ?_
          refine sr_pass (e := 71) rfl rfl (by rw [hg72]; rfl) (by decide) ?_
          refine sr_pass (e := 71) rfl rfl (by rw [hg72]; rfl) (by decide) ?_
          refine sr_ev (v := .bool false) (ev_pick_f rfl hg72 rfl) (by decide) ?_
          exact sr_weaken (l' := [(75, .bool false)]) (.cons rfl (.nil _)) (K73 false _ ⟨by rw [hg72]; rfl, rfl⟩)
    · intro K62
      clear hS
      have hj64 := Below.refl w52.heap.size w52
      rcases Bool.eq_false_or_eq_true (y50 && (e_8 == f_10)) with hg61 | hg61
      · have hS := ite_true' hz65 hg61
        refine sr_evg (b := true) (e := 66) rfl rfl hg61 (v := v42) (ev_move rfl) (by decide) ?_
        refine sr_evg (b := true) (e := 66) rfl rfl hg61 (v := v48) (ev_move rfl) (by decide) ?_
        obtain ⟨y68, hy69, hS⟩ := bind_some' hS
        refine sr_callg (b := true) (e := 66) rfl rfl hg61 (vs := [v42, v48]) rfl Tryd.call25 rfl (ref07_Lists_ok _ (hg.below hb) h43 h49 hy69) (by decide) ?_
        rintro _ w70 ⟨rfl, hbw71⟩
        replace hb := hb.trans (hbw71.mono hb.size)
        replace hj64 := hj64.trans (hbw71.mono hj64.size)
        replace hA := lt_mono hA hbw71.size
        replace hH := hH.below hbw71
        refine sr_ev (v := .bool y68) (ev_pick_t rfl hg61 rfl) (by decide) ?_
        exact sr_weaken (l' := [(13, .int .i64 y38.2), (15, .int .i64 y44.2), (70, .bool y68)]) (.cons rfl (.cons rfl (.cons rfl (.nil _)))) (K62 y68 _ ⟨(Option.some.inj hS).symm, hj64⟩)
      · have hS := ite_false' hz65 hg61
        refine sr_pass (e := 66) rfl rfl (by rw [hg61]; rfl) (by decide) ?_
        refine sr_pass (e := 66) rfl rfl (by rw [hg61]; rfl) (by decide) ?_
        refine sr_pass (e := 66) rfl rfl (by rw [hg61]; rfl) (by decide) ?_
        refine sr_ev (v := .bool false) (ev_pick_f rfl hg61 rfl) (by decide) ?_
        exact sr_weaken (l' := [(13, .int .i64 y38.2), (15, .int .i64 y44.2), (70, .bool false)]) (.cons rfl (.cons rfl (.cons rfl (.nil _)))) (K62 false _ ⟨(Option.some.inj hS).symm, hj64⟩)
  · intro K55
    rcases Bool.eq_false_or_eq_true y50 with hg54 | hg54
    · refine sr_evg (b := true) (e := 61) rfl rfl hg54 (v := .int .i64 e_8) (ev_move rfl) (by decide) ?_
      refine sr_evg (b := true) (e := 61) rfl rfl hg54 (v := .int .i64 f_10) (ev_move rfl) (by decide) ?_
      refine sr_evg (b := true) (e := 61) rfl rfl hg54 (v := .bool (e_8 == f_10)) (ev_eq rfl rfl) (by decide) ?_
      refine sr_ev (v := .bool (e_8 == f_10)) (ev_pick_t rfl hg54 rfl) (by decide) ?_
      exact sr_weaken (l' := [(12, v42), (13, .int .i64 y38.2), (14, v48), (15, .int .i64 y44.2), (65, .bool (e_8 == f_10))]) (.cons rfl (.cons rfl (.cons rfl (.cons rfl (.cons rfl (.nil _)))))) (K55 (e_8 == f_10) _ ⟨by rw [hg54]; rfl, rfl⟩)
    · refine sr_pass (e := 61) rfl rfl (by rw [hg54]; rfl) (by decide) ?_
      refine sr_pass (e := 61) rfl rfl (by rw [hg54]; rfl) (by decide) ?_
      refine sr_pass (e := 61) rfl rfl (by rw [hg54]; rfl) (by decide) ?_
      refine sr_ev (v := .bool false) (ev_pick_f rfl hg54 rfl) (by decide) ?_
      exact sr_weaken (l' := [(12, v42), (13, .int .i64 y38.2), (14, v48), (15, .int .i64 y44.2), (65, .bool false)]) (.cons rfl (.cons rfl (.cons rfl (.cons rfl (.cons rfl (.nil _)))))) (K55 false _ ⟨by rw [hg54]; rfl, rfl⟩)
theorem law23_OtpRecovers_ok {A0 : Nat → Prop} (w0 : World) (hg : Gs w0) {secret_0 : Str} {n_1 : Int} {codes_2 : List Str} {v1 : Value} {r : Bool} (h2 : SlR strC A0 w0 v1 codes_2) (hS : law23_OtpRecovers secret_0 n_1 codes_2 = some r) :
    Calls Tryd.prog 5 #[str secret_0, .int .i64 n_1, v1] w0 (Ret (fun v w' => v = .bool r ∧ Below w0.heap.size w0 w')) := by
  unfold law23_OtpRecovers at hS
  have hb := Below.refl w0.heap.size w0
  replace h2 := h2.weak (A' := fun _ => False) (fun _ h => h.elim)
  obtain ⟨A0, hA0, hAe⟩ : ∃ A0 : Nat → Prop, (∀ b, A0 b → b < w0.heap.size) ∧ A0 = fun _ => False := ⟨_, fun _ h => h.elim, rfl⟩
  rw [← hAe] at h2
  clear hAe
  have hA := hA0
  have hi : ∀ b, A0 b → A0 b := fun _ h => h
  have hH := Hp.nil A0 w0.heap.size w0
  refine calls_of_ke Tryd.func5 rfl (n := 79) rfl rfl (l := [(0, str secret_0), (1, .int .i64 n_1), (2, v1)]) rfl ?_
  refine ke_seq ?_
  refine ke_region ?_
  refine sr_ev (v := .bool false) (ev_assign rfl) (by decide) ?_
  refine sr_end (l' := [(0, str secret_0), (1, .int .i64 n_1), (2, v1)]) (.cons rfl (.cons rfl (.cons rfl (.nil _)))) ?_
  refine ke_seq ?_
  refine ke_seq ?_
  refine ke_region ?_
  refine sr_ev (v := str secret_0) (ev_move rfl) (by decide) ?_
  refine sr_ev (v := .int .i64 (secret_0.length : Int)) (ev_slen Tryd.underlying9 rfl) (by decide) ?_
  refine sr_ev (v := .bool (decide ((secret_0.length : Int) > 300))) (ev_gt rfl rfl) (by decide) ?_
  refine sr_ev (v := .bool (decide ((secret_0.length : Int) > 300))) (ev_move rfl) (by decide) ?_
  obtain ⟨z5, hz7, hS⟩ := bind_some' hS
  refine sr_join (m := 4) (C := fun (x : Bool) w1 => z5 = x ∧ Below w0.heap.size w0 w1) (l' := fun x => [(0, str secret_0), (1, .int .i64 n_1), (2, v1), (23, .bool x)]) ?_ ?_
  · rintro _ w8 ⟨rfl, hbw9⟩
    replace hb := hb.trans (hbw9.mono hb.size)
    replace hA := lt_mono hA hbw9.size
    replace hH := hH.below hbw9
    replace h2 := h2.below hbw9
    refine sr_end (l' := [(0, str secret_0), (1, .int .i64 n_1), (2, v1), (23, .bool z5)]) (.cons rfl (.cons rfl (.cons rfl (.cons rfl (.nil _))))) ?_
    refine ke_cond (t := z5) rfl (fun hc14 => ?_) (fun hc14 => ?_)
    · replace hS := ite_true' hS hc14
      refine ke_seq ?_
      refine ke_region ?_
      obtain ⟨y15, hy16, hS⟩ := bind_some' hS
      refine sr_call (vs := []) rfl Tryd.call9 rfl (law23_alive_ok _ (hg.below hb) hy16) (by decide) ?_
      rintro _ w17 ⟨rfl, hbw18⟩
      replace hb := hb.trans (hbw18.mono hb.size)
      replace hA := lt_mono hA hbw18.size
      replace hH := hH.below hbw18
      refine sr_ev (v := .bool y15) (ev_assign rfl) (by decide) ?_
      refine sr_end (l' := [(6, .bool y15)]) (.cons rfl (.nil _)) ?_
      cases hS
      exact ke_ret1 Tryd.func5 rfl rfl ⟨_, rfl, rfl, hb⟩
    · replace hS := ite_false' hS hc14
      refine ke_skip ?_
      refine ke_seq ?_
      refine ke_region ?_
      refine sr_ev (v := str secret_0) (ev_move rfl) (by decide) ?_
      refine sr_ev (v := .int .i64 n_1) (ev_move rfl) (by decide) ?_
      obtain ⟨y19, hy20, hS⟩ := bind_some' hS
      refine sr_call (vs := [str secret_0, .int .i64 n_1]) rfl Tryd.call21 rfl (otp_Recovery_ok _ (hg.below hb) hA hy20) (by decide) ?_
      rintro _ w21 ⟨v23, rfl, h24, hbw22⟩
      replace hb := hb.trans (hbw22.mono hb.size)
      replace hA := lt_mono hA hbw22.size
      replace hH := hH.below hbw22
      replace h2 := h2.below hbw22
      refine sr_ev (v := .tuple #[v23, .int .i64 y19.2]) (ev_move rfl) (by decide) ?_
      refine sr_ev (v := v23) (ev_extract rfl rfl) (by decide) ?_
      refine sr_ev (v := .int .i64 y19.2) (ev_extract rfl rfl) (by decide) ?_
      refine sr_ev (v := v23) (ev_assign rfl) (by decide) ?_
      refine sr_ev (v := .int .i64 y19.2) (ev_assign rfl) (by decide) ?_
      refine sr_end (l' := [(0, str secret_0), (1, .int .i64 n_1), (2, v1), (7, v23), (8, .int .i64 y19.2)]) (.cons rfl (.cons rfl (.cons rfl (.cons rfl (.cons rfl (.nil _)))))) ?_
      refine ke_seq ?_
      refine ke_region ?_
      refine sr_ev (v := str secret_0) (ev_move rfl) (by decide) ?_
      refine sr_ev (v := .int .i64 n_1) (ev_move rfl) (by decide) ?_
      obtain ⟨y25, hy26, hS⟩ := bind_some' hS
      refine sr_call (vs := [str secret_0, .int .i64 n_1]) rfl Tryd.call22 rfl (ref23_Recovery_ok _ (hg.below hb) hA hy26) (by decide) ?_
      rintro _ w27 ⟨v29, rfl, h30, hbw28⟩
      replace hb := hb.trans (hbw28.mono hb.size)
      replace hA := lt_mono hA hbw28.size
      replace hH := hH.below hbw28
      replace h2 := h2.below hbw28
      replace h24 := h24.below hbw28
      refine sr_ev (v := .tuple #[v29, .int .i64 y25.2]) (ev_move rfl) (by decide) ?_
      refine sr_ev (v := v29) (ev_extract rfl rfl) (by decide) ?_
      refine sr_ev (v := .int .i64 y25.2) (ev_extract rfl rfl) (by decide) ?_
      refine sr_ev (v := v29) (ev_assign rfl) (by decide) ?_
      refine sr_ev (v := .int .i64 y25.2) (ev_assign rfl) (by decide) ?_
      refine sr_end (l' := [(2, v1), (7, v23), (8, .int .i64 y19.2), (9, v29), (10, .int .i64 y25.2)]) (.cons rfl (.cons rfl (.cons rfl (.cons rfl (.cons rfl (.nil _)))))) ?_
      refine ke_seq ?_
      refine ke_region ?_
      refine sr_ev (v := str ([])) (ev_assign rfl) (by decide) ?_
      refine sr_end (l' := [(2, v1), (7, v23), (8, .int .i64 y19.2), (9, v29), (10, .int .i64 y25.2), (11, str ([]))]) (.cons rfl (.cons rfl (.cons rfl (.cons rfl (.cons rfl (.cons rfl (.nil _))))))) ?_
      refine ke_seq ?_
      refine ke_seq ?_
      refine ke_region ?_
      refine sr_ev (v := v1) (ev_move rfl) (by decide) ?_
      refine sr_ev (v := .int .i64 (codes_2.length : Int)) (ev_sllen Tryd.underlying35 rfl h2) (by decide) ?_
      refine sr_ev (v := .bool (decide ((codes_2.length : Int) > 0))) (ev_gt rfl rfl) (by decide) ?_
      refine sr_end (l' := [(2, v1), (7, v23), (8, .int .i64 y19.2), (9, v29), (10, .int .i64 y25.2), (11, str ([])), (39, .bool (decide ((codes_2.length : Int) > 0)))]) (.cons rfl (.cons rfl (.cons rfl (.cons rfl (.cons rfl (.cons rfl (.cons rfl (.nil _)))))))) ?_
      refine ke_cond (t := decide ((codes_2.length : Int) > 0)) rfl (fun hc31 => ?_) (fun hc31 => ?_)
      · replace hS := ite_true' hS hc31
        refine ke_region ?_
        refine sr_ev (v := v1) (ev_move rfl) (by decide) ?_
        refine sr_ev (v := v1) (ev_move rfl) (by decide) ?_
        refine sr_ev (v := .int .i64 (codes_2.length : Int)) (ev_sllen Tryd.underlying35 rfl h2) (by decide) ?_
        refine sr_ev (v := .int .i64 (IntKind.i64.wrap ((codes_2.length : Int) - 1))) (ev_sub rfl rfl) (by decide) ?_
        obtain ⟨y32, hy33, hS⟩ := bind_some' hS
        refine sr_index h2 Tryd.underlying35 Tryd.info9 rfl rfl rfl hy33 (by decide) ?_
        intro b34 o35 cs37 he36
        obtain rfl : cs37 = [str y32] := he36.rd
        refine sr_ev (v := str y32) (ev_load Tryd.isAgg9 rfl (he36.cell 0 _ rfl)) (by decide) ?_
        refine sr_ev (v := str y32) (ev_assign rfl) (by decide) ?_
        refine sr_end (l' := [(2, v1), (7, v23), (8, .int .i64 y19.2), (9, v29), (10, .int .i64 y25.2), (11, str y32)]) (.cons rfl (.cons rfl (.cons rfl (.cons rfl (.cons rfl (.cons rfl (.nil _))))))) ?_
        have hK := law23_OtpRecovers_B1_ok hg hA0 hS hb hA hi hH h2 h24 h30
        exact ke_weaken (l' := [(2, v1), (7, v23), (8, .int .i64 y19.2), (9, v29), (10, .int .i64 y25.2), (11, str y32)]) (.cons rfl (.cons rfl (.cons rfl (.cons rfl (.cons rfl (.cons rfl (.nil _))))))) hK
      · replace hS := ite_false' hS hc31
        refine ke_skip ?_
        have hK := law23_OtpRecovers_B1_ok hg hA0 hS hb hA hi hH h2 h24 h30
        exact ke_weaken (l' := [(2, v1), (7, v23), (8, .int .i64 y19.2), (9, v29), (10, .int .i64 y25.2), (11, str ([]))]) (.cons rfl (.cons rfl (.cons rfl (.cons rfl (.cons rfl (.cons rfl (.nil _))))))) hK
  · intro K4
    clear hS
    have hj6 := Below.refl w0.heap.size w0
    rcases Bool.eq_false_or_eq_true (decide ((secret_0.length : Int) > 300)) with hg3 | hg3
    · have hS := ite_true' hz7 hg3
      refine sr_pass (e := 19) rfl rfl (by rw [hg3]; rfl) (by decide) ?_
      refine sr_pass (e := 19) rfl rfl (by rw [hg3]; rfl) (by decide) ?_
      refine sr_pass (e := 19) rfl rfl (by rw [hg3]; rfl) (by decide) ?_
      refine sr_ev (v := .bool true) (ev_pick_t rfl hg3 rfl) (by decide) ?_
      exact sr_weaken (l' := [(0, str secret_0), (1, .int .i64 n_1), (2, v1), (23, .bool true)]) (.cons rfl (.cons rfl (.cons rfl (.cons rfl (.nil _))))) (K4 true _ ⟨(Option.some.inj hS).symm, hj6⟩)
    · have hS := ite_false' hz7 hg3
      refine sr_evg (b := false) (e := 19) rfl rfl hg3 (v := v1) (ev_move rfl) (by decide) ?_
      obtain ⟨y10, hy11, hS⟩ := bind_some' hS
      refine sr_callg (b := false) (e := 19) rfl rfl hg3 (vs := [v1]) rfl Tryd.call20 rfl (law23_short_ok _ (hg.below hb) h2 hy11) (by decide) ?_
      rintro _ w12 ⟨rfl, hbw13⟩
      replace hb := hb.trans (hbw13.mono hb.size)
      replace hj6 := hj6.trans (hbw13.mono hj6.size)
      replace hA := lt_mono hA hbw13.size
      replace hH := hH.below hbw13
      replace h2 := h2.below hbw13
      refine sr_evg (b := false) (e := 19) rfl rfl hg3 (v := .bool (!y10)) (ev_not rfl) (by decide) ?_
      refine sr_ev (v := .bool (!y10)) (ev_pick_f rfl hg3 rfl) (by decide) ?_
      exact sr_weaken (l' := [(0, str secret_0), (1, .int .i64 n_1), (2, v1), (23, .bool (!y10))]) (.cons rfl (.cons rfl (.cons rfl (.cons rfl (.nil _))))) (K4 (!y10) _ ⟨(Option.some.inj hS).symm, hj6⟩)
theorem law23_OtpOnce_B2_ok {w0 : World} (hg : Gs w0) {A0 : Nat → Prop} (hA0 : ∀ b, A0 b → b < w0.heap.size) {r : Bool} (hS : law23_OtpOnce_B2 = some r) {w : World} {A : Nat → Prop} (hb : Below w0.heap.size w0 w) (hA : ∀ b, A b → b < w.heap.size) (hi : ∀ b, A0 b → A b) (hH : Hp A w0.heap.size w []) :
    KE Tryd.prog 6 (Ret (fun v w' => v = .bool r ∧ Below w0.heap.size w0 w')) 153 [.code (sub (bodyOf Tryd.f6) [2, 2, 2, 2, 2, 2, 2])] [] w := by
  unfold law23_OtpOnce_B2 at hS
  refine ke_seq ?_
  refine ke_region ?_
  obtain ⟨y130, hy131, hS⟩ := bind_some' hS
  refine sr_call (vs := []) rfl Tryd.call9 rfl (law23_alive_ok _ (hg.below hb) hy131) (by decide) ?_
  rintro _ w132 ⟨rfl, hbw133⟩
  replace hb := hb.trans (hbw133.mono hb.size)
  replace hA := lt_mono hA hbw133.size
  replace hH := hH.below hbw133
  refine sr_ev (v := .bool y130) (ev_assign rfl) (by decide) ?_
  refine sr_end (l' := [(2, .bool y130)]) (.cons rfl (.nil _)) ?_
  cases hS
  exact ke_ret1 Tryd.func6 rfl rfl ⟨_, rfl, rfl, hb⟩
theorem law23_OtpOnce_B1_ok {w0 : World} (hg : Gs w0) {A0 : Nat → Prop} (hA0 : ∀ b, A0 b → b < w0.heap.size) {r : Bool} {x_1_0 : Str} {x_1_1 : Str} {x_1_2 : Int} {x_1_3 : Int} {x_1_4 : Int} {x_1_5 : Int} {x_1_6 : Bool} {s_3 : Str} {gx_1 : Nat} (hS : law23_OtpOnce_B1 x_1_0 x_1_1 x_1_2 x_1_3 x_1_4 x_1_5 x_1_6 s_3 = some r) {w : World} {A : Nat → Prop} (hb : Below w0.heap.size w0 w) (hA : ∀ b, A b → b < w.heap.size) (hi : ∀ b, A0 b → A b) (hH : Hp A w0.heap.size w [(gx_1, .cells #[str x_1_0, str x_1_1, .int .i64 x_1_2, .int .i64 x_1_3, .int .i64 x_1_4, .int .i64 x_1_5, .bool x_1_6] 29 (0, 0))]) :
    KE Tryd.prog 6 (Ret (fun v w' => v = .bool r ∧ Below w0.heap.size w0 w')) 153 [.code (sub (bodyOf Tryd.f6) [2, 2, 2, 2, 2])] [(1, .pointer (some ⟨gx_1, 0, none⟩)), (3, str s_3)] w := by
  unfold law23_OtpOnce_B1 at hS
  refine ke_seq ?_
  refine ke_region ?_
  refine sr_ev (v := .pointer (some ⟨gx_1, 0, none⟩)) (ev_fieldAddr (i := 0) Tryd.underlying29 rfl Tryd.info9 rfl rfl) (by decide) ?_
  refine sr_ev (v := str x_1_0) (ev_load Tryd.isAgg9 rfl (hH.cell (i := 0) rfl rfl)) (by decide) ?_
  refine sr_ev (v := .pointer (some ⟨gx_1, 2, none⟩)) (ev_fieldAddr (i := 2) Tryd.underlying29 rfl Tryd.info3 rfl rfl) (by decide) ?_
  refine sr_ev (v := .int .i64 x_1_2) (ev_load Tryd.isAgg3 rfl (hH.cell (i := 0) rfl rfl)) (by decide) ?_
  refine sr_ev (v := .pointer (some ⟨gx_1, 4, none⟩)) (ev_fieldAddr (i := 4) Tryd.underlying29 rfl Tryd.info3 rfl rfl) (by decide) ?_
  refine sr_ev (v := .int .i64 x_1_4) (ev_load Tryd.isAgg3 rfl (hH.cell (i := 0) rfl rfl)) (by decide) ?_
  refine sr_ev (v := .pointer (some ⟨gx_1, 3, none⟩)) (ev_fieldAddr (i := 3) Tryd.underlying29 rfl Tryd.info3 rfl rfl) (by decide) ?_
  refine sr_ev (v := .int .i64 x_1_3) (ev_load Tryd.isAgg3 rfl (hH.cell (i := 0) rfl rfl)) (by decide) ?_
  refine sr_ev (v := str s_3) (ev_move rfl) (by decide) ?_
  obtain ⟨y70, hy71, hS⟩ := bind_some' hS
  refine sr_call (vs := [str x_1_0, .int .i64 x_1_2, .int .i64 x_1_4, .int .i64 x_1_3, str s_3]) rfl Tryd.call18 rfl (otp_VerifyAt_ok _ (hg.below hb) hy71) (by decide) ?_
  rintro _ w72 ⟨rfl, hbw73⟩
  replace hb := hb.trans (hbw73.mono hb.size)
  replace hA := lt_mono hA hbw73.size
  replace hH := hH.below hbw73
  refine sr_ev (v := .tuple #[.int .i64 y70.1, .int .i64 y70.2]) (ev_move rfl) (by decide) ?_
  refine sr_ev (v := .int .i64 y70.1) (ev_extract rfl rfl) (by decide) ?_
  refine sr_ev (v := .int .i64 y70.2) (ev_extract rfl rfl) (by decide) ?_
  refine sr_ev (v := .int .i64 y70.1) (ev_assign rfl) (by decide) ?_
  refine sr_ev (v := .int .i64 y70.2) (ev_assign rfl) (by decide) ?_
  refine sr_end (l' := [(1, .pointer (some ⟨gx_1, 0, none⟩)), (3, str s_3), (5, .int .i64 y70.2), (10, .int .i64 y70.1)]) (.cons rfl (.cons rfl (.cons rfl (.cons rfl (.nil _))))) ?_
  refine ke_seq ?_
  refine ke_seq ?_
  refine ke_region ?_
  refine sr_ev (v := .int .i64 y70.2) (ev_move rfl) (by decide) ?_
  refine sr_ev (v := .bool (y70.2 == 0)) (ev_eq rfl rfl) (by decide) ?_
  refine sr_end (l' := [(1, .pointer (some ⟨gx_1, 0, none⟩)), (3, str s_3), (10, .int .i64 y70.1), (97, .bool (y70.2 == 0))]) (.cons rfl (.cons rfl (.cons rfl (.cons rfl (.nil _))))) ?_
  refine ke_cond (t := y70.2 == 0) rfl (fun hc74 => ?_) (fun hc74 => ?_)
  · replace hS := ite_true' hS hc74
    refine ke_seq ?_
    refine ke_region ?_
    refine sr_ev (v := .pointer (some ⟨gx_1, 0, none⟩)) (ev_fieldAddr (i := 0) Tryd.underlying29 rfl Tryd.info9 rfl rfl) (by decide) ?_
    refine sr_ev (v := str x_1_0) (ev_load Tryd.isAgg9 rfl (hH.cell (i := 0) rfl rfl)) (by decide) ?_
    refine sr_ev (v := .int .i64 y70.1) (ev_move rfl) (by decide) ?_
    obtain ⟨y75, hy76, hS⟩ := bind_some' hS
    refine sr_call (vs := [str x_1_0, .int .i64 y70.1]) rfl Tryd.call10 rfl (otp_Code_ok _ (hg.below hb) hy76) (by decide) ?_
    rintro _ w77 ⟨rfl, hbw78⟩
    replace hb := hb.trans (hbw78.mono hb.size)
    replace hA := lt_mono hA hbw78.size
    replace hH := hH.below hbw78
    refine sr_ev (v := .tuple #[str y75.1, .int .i64 y75.2]) (ev_move rfl) (by decide) ?_
    refine sr_ev (v := str y75.1) (ev_extract rfl rfl) (by decide) ?_
    refine sr_ev (v := .int .i64 y75.2) (ev_extract rfl rfl) (by decide) ?_
    refine sr_ev (v := str y75.1) (ev_assign rfl) (by decide) ?_
    refine sr_ev (v := .int .i64 y75.2) (ev_assign rfl) (by decide) ?_
    refine sr_end (l' := [(1, .pointer (some ⟨gx_1, 0, none⟩)), (3, str s_3), (10, .int .i64 y70.1), (11, str y75.1), (12, .int .i64 y75.2)]) (.cons rfl (.cons rfl (.cons rfl (.cons rfl (.cons rfl (.nil _)))))) ?_
    refine ke_seq ?_
    refine ke_region ?_
    refine sr_ev (v := .pointer (some ⟨gx_1, 0, none⟩)) (ev_fieldAddr (i := 0) Tryd.underlying29 rfl Tryd.info9 rfl rfl) (by decide) ?_
    refine sr_ev (v := str x_1_0) (ev_load Tryd.isAgg9 rfl (hH.cell (i := 0) rfl rfl)) (by decide) ?_
    refine sr_ev (v := .int .i64 y70.1) (ev_move rfl) (by decide) ?_
    refine sr_ev (v := .pointer (some ⟨gx_1, 4, none⟩)) (ev_fieldAddr (i := 4) Tryd.underlying29 rfl Tryd.info3 rfl rfl) (by decide) ?_
    refine sr_ev (v := .int .i64 x_1_4) (ev_load Tryd.isAgg3 rfl (hH.cell (i := 0) rfl rfl)) (by decide) ?_
    refine sr_ev (v := .pointer (some ⟨gx_1, 3, none⟩)) (ev_fieldAddr (i := 3) Tryd.underlying29 rfl Tryd.info3 rfl rfl) (by decide) ?_
    refine sr_ev (v := .int .i64 x_1_3) (ev_load Tryd.isAgg3 rfl (hH.cell (i := 0) rfl rfl)) (by decide) ?_
    refine sr_ev (v := str s_3) (ev_move rfl) (by decide) ?_
    obtain ⟨y79, hy80, hS⟩ := bind_some' hS
    refine sr_call (vs := [str x_1_0, .int .i64 y70.1, .int .i64 x_1_4, .int .i64 x_1_3, str s_3]) rfl Tryd.call18 rfl (otp_VerifyAt_ok _ (hg.below hb) hy80) (by decide) ?_
    rintro _ w81 ⟨rfl, hbw82⟩
    replace hb := hb.trans (hbw82.mono hb.size)
    replace hA := lt_mono hA hbw82.size
    replace hH := hH.below hbw82
    refine sr_ev (v := .tuple #[.int .i64 y79.1, .int .i64 y79.2]) (ev_move rfl) (by decide) ?_
    refine sr_ev (v := .int .i64 y79.1) (ev_extract rfl rfl) (by decide) ?_
    refine sr_ev (v := .int .i64 y79.2) (ev_extract rfl rfl) (by decide) ?_
    refine sr_ev (v := .int .i64 y79.1) (ev_assign rfl) (by decide) ?_
    refine sr_ev (v := .int .i64 y79.2) (ev_assign rfl) (by decide) ?_
    refine sr_end (l' := [(1, .pointer (some ⟨gx_1, 0, none⟩)), (3, str s_3), (10, .int .i64 y70.1), (11, str y75.1), (12, .int .i64 y75.2), (13, .int .i64 y79.1), (14, .int .i64 y79.2)]) (.cons rfl (.cons rfl (.cons rfl (.cons rfl (.cons rfl (.cons rfl (.cons rfl (.nil _)))))))) ?_
    refine ke_seq ?_
    refine ke_region ?_
    refine sr_ev (v := .int .i64 y70.1) (ev_move rfl) (by decide) ?_
    refine sr_ev (v := .pointer (some ⟨gx_1, 4, none⟩)) (ev_fieldAddr (i := 4) Tryd.underlying29 rfl Tryd.info3 rfl rfl) (by decide) ?_
    refine sr_ev (v := .int .i64 x_1_4) (ev_load Tryd.isAgg3 rfl (hH.cell (i := 0) rfl rfl)) (by decide) ?_
    obtain ⟨y83, hy84, hS⟩ := bind_some' hS
    refine sr_call (vs := [.int .i64 x_1_4]) rfl Tryd.call12 rfl (otp_Counter_ok _ (hg.below hb) hy84) (by decide) ?_
    rintro _ w85 ⟨rfl, hbw86⟩
    replace hb := hb.trans (hbw86.mono hb.size)
    replace hA := lt_mono hA hbw86.size
    replace hH := hH.below hbw86
    refine sr_ev (v := .int .i64 (IntKind.i64.wrap (y70.1 - y83))) (ev_sub rfl rfl) (by decide) ?_
    refine sr_ev (v := .int .i64 (IntKind.i64.wrap (y70.1 - y83))) (ev_assign rfl) (by decide) ?_
    refine sr_end (l' := [(1, .pointer (some ⟨gx_1, 0, none⟩)), (3, str s_3), (10, .int .i64 y70.1), (11, str y75.1), (12, .int .i64 y75.2), (13, .int .i64 y79.1), (14, .int .i64 y79.2), (15, .int .i64 (IntKind.i64.wrap (y70.1 - y83)))]) (.cons rfl (.cons rfl (.cons rfl (.cons rfl (.cons rfl (.cons rfl (.cons rfl (.cons rfl (.nil _))))))))) ?_
    refine ke_seq ?_
    refine ke_region ?_
    refine sr_ev (v := .int .i64 y75.2) (ev_move rfl) (by decide) ?_
    refine sr_ev (v := .bool (y75.2 != 0)) (ev_ne rfl rfl) (by decide) ?_
    refine sr_ev (v := .bool (y75.2 != 0)) (ev_move rfl) (by decide) ?_
    refine sr_join (m := 4) (C := fun (x : Bool) w1 => x = ((y75.2 != 0) || (!(y75.1 == s_3))) ∧ w85 = w1) (l' := fun x => [(1, .pointer (some ⟨gx_1, 0, none⟩)), (10, .int .i64 y70.1), (13, .int .i64 y79.1), (14, .int .i64 y79.2), (15, .int .i64 (IntKind.i64.wrap (y70.1 - y83))), (128, .bool x)]) ?_ ?_
    · rintro _ _ ⟨rfl, rfl⟩
      refine sr_ev (v := .bool ((y75.2 != 0) || (!(y75.1 == s_3)))) (ev_move rfl) (by decide) ?_
      refine sr_join (m := 5) (C := fun (x : Bool) w1 => x = (((y75.2 != 0) || (!(y75.1 == s_3))) || (decide (y70.1 ≤ x_1_2))) ∧ w85 = w1) (l' := fun x => [(10, .int .i64 y70.1), (13, .int .i64 y79.1), (14, .int .i64 y79.2), (15, .int .i64 (IntKind.i64.wrap (y70.1 - y83))), (134, .bool x)]) ?_ ?_
      · rintro _ _ ⟨rfl, rfl⟩
        refine sr_ev (v := .bool (((y75.2 != 0) || (!(y75.1 == s_3))) || (decide (y70.1 ≤ x_1_2)))) (ev_move rfl) (by decide) ?_
        refine sr_join (m := 3) (C := fun (x : Bool) w1 => x = ((((y75.2 != 0) || (!(y75.1 == s_3))) || (decide (y70.1 ≤ x_1_2))) || (decide ((IntKind.i64.wrap (y70.1 - y83)) > 20))) ∧ w85 = w1) (l' := fun x => [(10, .int .i64 y70.1), (13, .int .i64 y79.1), (14, .int .i64 y79.2), (15, .int .i64 (IntKind.i64.wrap (y70.1 - y83))), (138, .bool x)]) ?_ ?_
        · rintro _ _ ⟨rfl, rfl⟩
          refine sr_ev (v := .bool ((((y75.2 != 0) || (!(y75.1 == s_3))) || (decide (y70.1 ≤ x_1_2))) || (decide ((IntKind.i64.wrap (y70.1 - y83)) > 20)))) (ev_move rfl) (by decide) ?_
          refine sr_join (m := 3) (C := fun (x : Bool) w1 => x = (((((y75.2 != 0) || (!(y75.1 == s_3))) || (decide (y70.1 ≤ x_1_2))) || (decide ((IntKind.i64.wrap (y70.1 - y83)) > 20))) || (decide ((IntKind.i64.wrap (y70.1 - y83)) < (-20)))) ∧ w85 = w1) (l' := fun x => [(10, .int .i64 y70.1), (13, .int .i64 y79.1), (14, .int .i64 y79.2), (142, .bool x)]) ?_ ?_
          · rintro _ _ ⟨rfl, rfl⟩
            refine sr_ev (v := .bool (((((y75.2 != 0) || (!(y75.1 == s_3))) || (decide (y70.1 ≤ x_1_2))) || (decide ((IntKind.i64.wrap (y70.1 - y83)) > 20))) || (decide ((IntKind.i64.wrap (y70.1 - y83)) < (-20))))) (ev_move rfl) (by decide) ?_
            refine sr_join (m := 8) (C := fun (x : Bool) w1 => x = ((((((y75.2 != 0) || (!(y75.1 == s_3))) || (decide (y70.1 ≤ x_1_2))) || (decide ((IntKind.i64.wrap (y70.1 - y83)) > 20))) || (decide ((IntKind.i64.wrap (y70.1 - y83)) < (-20)))) || ((y79.2 == 0) && (decide (y79.1 ≤ y70.1)))) ∧ w85 = w1) (l' := fun x => [(151, .bool x)]) ?_ ?_
            · rintro _ _ ⟨rfl, rfl⟩
              refine sr_end (l' := [(151, .bool ((((((y75.2 != 0) || (!(y75.1 == s_3))) || (decide (y70.1 ≤ x_1_2))) || (decide ((IntKind.i64.wrap (y70.1 - y83)) > 20))) || (decide ((IntKind.i64.wrap (y70.1 - y83)) < (-20)))) || ((y79.2 == 0) && (decide (y79.1 ≤ y70.1)))))]) (.cons rfl (.nil _)) ?_
              refine ke_cond (t := (((((y75.2 != 0) || (!(y75.1 == s_3))) || (decide (y70.1 ≤ x_1_2))) || (decide ((IntKind.i64.wrap (y70.1 - y83)) > 20))) || (decide ((IntKind.i64.wrap (y70.1 - y83)) < (-20)))) || ((y79.2 == 0) && (decide (y79.1 ≤ y70.1)))) rfl (fun hc129 => ?_) (fun hc129 => ?_)
              · replace hS := ite_true' hS hc129
                refine ke_seq ?_
                refine ke_region ?_
                refine sr_ev (v := .bool false) (ev_assign rfl) (by decide) ?_
                refine sr_end (l' := [(2, .bool false)]) (.cons rfl (.nil _)) ?_
                cases hS
                exact ke_ret1 Tryd.func6 rfl rfl ⟨_, rfl, rfl, hb⟩
              · replace hS := ite_false' hS hc129
                refine ke_skip ?_
                have hK := law23_OtpOnce_B2_ok hg hA0 hS hb hA hi (hH.sub (.cons _ .slnil))
                exact ke_weaken (l' := []) (.nil _) hK
            · intro K116
              rcases Bool.eq_false_or_eq_true (((((y75.2 != 0) || (!(y75.1 == s_3))) || (decide (y70.1 ≤ x_1_2))) || (decide ((IntKind.i64.wrap (y70.1 - y83)) > 20))) || (decide ((IntKind.i64.wrap (y70.1 - y83)) < (-20)))) with hg115 | hg115
              · refine sr_pass (e := 143) rfl rfl (by rw [hg115]; rfl) (by decide) ?_
                refine sr_pass (e := 143) rfl rfl (by rw [hg115]; rfl) (by decide) ?_
                refine sr_pass (e := 143) rfl rfl (by rw [hg115]; rfl) (by decide) ?_
                refine sr_pass_undef (e := 146) rfl rfl (by decide) ?_
                refine sr_pass_undef (e := 146) rfl rfl (by decide) ?_
                refine sr_pass_undef (e := 146) rfl rfl (by decide) ?_
                refine sr_pass (e := 143) rfl rfl (by rw [hg115]; rfl) (by decide) ?_
                refine sr_ev (v := .bool true) (ev_pick_t rfl hg115 rfl) (by decide) ?_
                exact sr_weaken (l' := [(151, .bool true)]) (.cons rfl (.nil _)) (K116 true _ ⟨by rw [hg115]; rfl, rfl⟩)
              · refine sr_evg (b := false) (e := 143) rfl rfl hg115 (v := .int .i64 y79.2) (ev_move rfl) (by decide) ?_
                refine sr_evg (b := false) (e := 143) rfl rfl hg115 (v := .bool (y79.2 == 0)) (ev_eq rfl rfl) (by decide) ?_
                refine sr_evg (b := false) (e := 143) rfl rfl hg115 (v := .bool (y79.2 == 0)) (ev_move rfl) (by decide) ?_
                refine sr_join (m := 4) (C := fun (x : Bool) w1 => x = ((y79.2 == 0) && (decide (y79.1 ≤ y70.1))) ∧ w85 = w1) (l' := fun x => [(143, .bool (((((y75.2 != 0) || (!(y75.1 == s_3))) || (decide (y70.1 ≤ x_1_2))) || (decide ((IntKind.i64.wrap (y70.1 - y83)) > 20))) || (decide ((IntKind.i64.wrap (y70.1 - y83)) < (-20))))), (150, .bool x)]) ?_ ?_
                · rintro _ _ ⟨rfl, rfl⟩
                  refine sr_ev (v := .bool ((y79.2 == 0) && (decide (y79.1 ≤ y70.1)))) (ev_pick_f rfl hg115 rfl) (by decide) ?_
                  exact sr_weaken (l' := [(151, .bool ((y79.2 == 0) && (decide (y79.1 ≤ y70.1))))]) (.cons rfl (.nil _)) (K116 ((y79.2 == 0) && (decide (y79.1 ≤ y70.1))) _ ⟨by rw [hg115]; rfl, rfl⟩)
                · intro K123
                  rcases Bool.eq_false_or_eq_true (y79.2 == 0) with hg122 | hg122
                  · refine sr_evg (b := true) (e := 146) rfl rfl hg122 (v := .int .i64 y79.1) (ev_move rfl) (by decide) ?_
                    refine sr_evg (b := true) (e := 146) rfl rfl hg122 (v := .int .i64 y70.1) (ev_move rfl) (by decide) ?_
                    refine sr_evg (b := true) (e := 146) rfl rfl hg122 (v := .bool (decide (y79.1 ≤ y70.1))) (ev_le rfl rfl) (by decide) ?_
                    refine sr_evg (b := false) (e := 143) rfl rfl hg115 (v := .bool (decide (y79.1 ≤ y70.1))) (ev_pick_t rfl hg122 rfl) (by decide) ?_
                    exact sr_weaken (l' := [(143, .bool (((((y75.2 != 0) || (!(y75.1 == s_3))) || (decide (y70.1 ≤ x_1_2))) || (decide ((IntKind.i64.wrap (y70.1 - y83)) > 20))) || (decide ((IntKind.i64.wrap (y70.1 - y83)) < (-20))))), (150, .bool (decide (y79.1 ≤ y70.1)))]) (.cons rfl (.cons rfl (.nil _))) (K123 (decide (y79.1 ≤ y70.1)) _ ⟨by rw [hg122]; rfl, rfl⟩)
                  · refine sr_pass (e := 146) rfl rfl (by rw [hg122]; rfl) (by decide) ?_
                    refine sr_pass (e := 146) rfl rfl (by rw [hg122]; rfl) (by decide) ?_
                    refine sr_pass (e := 146) rfl rfl (by rw [hg122]; rfl) (by decide) ?_
                    refine sr_evg (b := false) (e := 143) rfl rfl hg115 (v := .bool false) (ev_pick_f rfl hg122 rfl) (by decide) ?_
                    exact sr_weaken (l' := [(143, .bool (((((y75.2 != 0) || (!(y75.1 == s_3))) || (decide (y70.1 ≤ x_1_2))) || (decide ((IntKind.i64.wrap (y70.1 - y83)) > 20))) || (decide ((IntKind.i64.wrap (y70.1 - y83)) < (-20))))), (150, .bool false)]) (.cons rfl (.cons rfl (.nil _))) (K123 false _ ⟨by rw [hg122]; rfl, rfl⟩)
          · intro K109
            rcases Bool.eq_false_or_eq_true ((((y75.2 != 0) || (!(y75.1 == s_3))) || (decide (y70.1 ≤ x_1_2))) || (decide ((IntKind.i64.wrap (y70.1 - y83)) > 20))) with hg108 | hg108
            · refine sr_pass (e := 139) rfl rfl (by rw [hg108]; rfl) (by decide) ?_
              refine sr_pass (e := 139) rfl rfl (by rw [hg108]; rfl) (by decide) ?_
              refine sr_ev (v := .bool true) (ev_pick_t rfl hg108 rfl) (by decide) ?_
              exact sr_weaken (l' := [(10, .int .i64 y70.1), (13, .int .i64 y79.1), (14, .int .i64 y79.2), (142, .bool true)]) (.cons rfl (.cons rfl (.cons rfl (.cons rfl (.nil _))))) (K109 true _ ⟨by rw [hg108]; rfl, rfl⟩)
            · refine sr_evg (b := false) (e := 139) rfl rfl hg108 (v := .int .i64 (IntKind.i64.wrap (y70.1 - y83))) (ev_move rfl) (by decide) ?_
              refine sr_evg (b := false) (e := 139) rfl rfl hg108 (v := .bool (decide ((IntKind.i64.wrap (y70.1 - y83)) < (-20)))) (ev_lt rfl rfl) (by decide) ?_
              refine sr_ev (v := .bool (decide ((IntKind.i64.wrap (y70.1 - y83)) < (-20)))) (ev_pick_f rfl hg108 rfl) (by decide) ?_
              exact sr_weaken (l' := [(10, .int .i64 y70.1), (13, .int .i64 y79.1), (14, .int .i64 y79.2), (142, .bool (decide ((IntKind.i64.wrap (y70.1 - y83)) < (-20))))]) (.cons rfl (.cons rfl (.cons rfl (.cons rfl (.nil _))))) (K109 (decide ((IntKind.i64.wrap (y70.1 - y83)) < (-20))) _ ⟨by rw [hg108]; rfl, rfl⟩)
        · intro K102
          rcases Bool.eq_false_or_eq_true (((y75.2 != 0) || (!(y75.1 == s_3))) || (decide (y70.1 ≤ x_1_2))) with hg101 | hg101
          · refine sr_pass (e := 135) rfl rfl (by rw [hg101]; rfl) (by decide) ?_
            refine sr_pass (e := 135) rfl rfl (by rw [hg101]; rfl) (by decide) ?_
            refine sr_ev (v := .bool true) (ev_pick_t rfl hg101 rfl) (by decide) ?_
            exact sr_weaken (l' := [(10, .int .i64 y70.1), (13, .int .i64 y79.1), (14, .int .i64 y79.2), (15, .int .i64 (IntKind.i64.wrap (y70.1 - y83))), (138, .bool true)]) (.cons rfl (.cons rfl (.cons rfl (.cons rfl (.cons rfl (.nil _)))))) (K102 true _ ⟨by rw [hg101]; rfl, rfl⟩)
          · refine sr_evg (b := false) (e := 135) rfl rfl hg101 (v := .int .i64 (IntKind.i64.wrap (y70.1 - y83))) (ev_move rfl) (by decide) ?_
            refine sr_evg (b := false) (e := 135) rfl rfl hg101 (v := .bool (decide ((IntKind.i64.wrap (y70.1 - y83)) > 20))) (ev_gt rfl rfl) (by decide) ?_
            refine sr_ev (v := .bool (decide ((IntKind.i64.wrap (y70.1 - y83)) > 20))) (ev_pick_f rfl hg101 rfl) (by decide) ?_
            exact sr_weaken (l' := [(10, .int .i64 y70.1), (13, .int .i64 y79.1), (14, .int .i64 y79.2), (15, .int .i64 (IntKind.i64.wrap (y70.1 - y83))), (138, .bool (decide ((IntKind.i64.wrap (y70.1 - y83)) > 20)))]) (.cons rfl (.cons rfl (.cons rfl (.cons rfl (.cons rfl (.nil _)))))) (K102 (decide ((IntKind.i64.wrap (y70.1 - y83)) > 20)) _ ⟨by rw [hg101]; rfl, rfl⟩)
      · intro K95
        rcases Bool.eq_false_or_eq_true ((y75.2 != 0) || (!(y75.1 == s_3))) with hg94 | hg94
        · refine sr_pass (e := 129) rfl rfl (by rw [hg94]; rfl) (by decide) ?_
          refine sr_pass (e := 129) rfl rfl (by rw [hg94]; rfl) (by decide) ?_
          refine sr_pass (e := 129) rfl rfl (by rw [hg94]; rfl) (by decide) ?_
          refine sr_pass (e := 129) rfl rfl (by rw [hg94]; rfl) (by decide) ?_
          refine sr_ev (v := .bool true) (ev_pick_t rfl hg94 rfl) (by decide) ?_
          exact sr_weaken (l' := [(10, .int .i64 y70.1), (13, .int .i64 y79.1), (14, .int .i64 y79.2), (15, .int .i64 (IntKind.i64.wrap (y70.1 - y83))), (134, .bool true)]) (.cons rfl (.cons rfl (.cons rfl (.cons rfl (.cons rfl (.nil _)))))) (K95 true _ ⟨by rw [hg94]; rfl, rfl⟩)
        · refine sr_evg (b := false) (e := 129) rfl rfl hg94 (v := .int .i64 y70.1) (ev_move rfl) (by decide) ?_
          refine sr_evg (b := false) (e := 129) rfl rfl hg94 (v := .pointer (some ⟨gx_1, 2, none⟩)) (ev_fieldAddr (i := 2) Tryd.underlying29 rfl Tryd.info3 rfl rfl) (by decide) ?_
          refine sr_evg (b := false) (e := 129) rfl rfl hg94 (v := .int .i64 x_1_2) (ev_load Tryd.isAgg3 rfl (hH.cell (i := 0) rfl rfl)) (by decide) ?_
          refine sr_evg (b := false) (e := 129) rfl rfl hg94 (v := .bool (decide (y70.1 ≤ x_1_2))) (ev_le rfl rfl) (by decide) ?_
          refine sr_ev (v := .bool (decide (y70.1 ≤ x_1_2))) (ev_pick_f rfl hg94 rfl) (by decide) ?_
          exact sr_weaken (l' := [(10, .int .i64 y70.1), (13, .int .i64 y79.1), (14, .int .i64 y79.2), (15, .int .i64 (IntKind.i64.wrap (y70.1 - y83))), (134, .bool (decide (y70.1 ≤ x_1_2)))]) (.cons rfl (.cons rfl (.cons rfl (.cons rfl (.cons rfl (.nil _)))))) (K95 (decide (y70.1 ≤ x_1_2)) _ ⟨by rw [hg94]; rfl, rfl⟩)
    · intro K88
      rcases Bool.eq_false_or_eq_true (y75.2 != 0) with hg87 | hg87
      · refine sr_pass (e := 124) rfl rfl (by rw [hg87]; rfl) (by decide) ?_
        refine sr_pass (e := 124) rfl rfl (by rw [hg87]; rfl) (by decide) ?_
        refine sr_pass (e := 124) rfl rfl (by rw [hg87]; rfl) (by decide) ?_
        refine sr_ev (v := .bool true) (ev_pick_t rfl hg87 rfl) (by decide) ?_
        exact sr_weaken (l' := [(1, .pointer (some ⟨gx_1, 0, none⟩)), (10, .int .i64 y70.1), (13, .int .i64 y79.1), (14, .int .i64 y79.2), (15, .int .i64 (IntKind.i64.wrap (y70.1 - y83))), (128, .bool true)]) (.cons rfl (.cons rfl (.cons rfl (.cons rfl (.cons rfl (.cons rfl (.nil _))))))) (K88 true _ ⟨by rw [hg87]; rfl, rfl⟩)
      · refine sr_evg (b := false) (e := 124) rfl rfl hg87 (v := str y75.1) (ev_move rfl) (by decide) ?_
        refine sr_evg (b := false) (e := 124) rfl rfl hg87 (v := str s_3) (ev_move rfl) (by decide) ?_
        refine sr_evg (b := false) (e := 124) rfl rfl hg87 (v := .bool (!(y75.1 == s_3))) (ev_sne rfl rfl) (by decide) ?_
        refine sr_ev (v := .bool (!(y75.1 == s_3))) (ev_pick_f rfl hg87 rfl) (by decide) ?_
        exact sr_weaken (l' := [(1, .pointer (some ⟨gx_1, 0, none⟩)), (10, .int .i64 y70.1), (13, .int .i64 y79.1), (14, .int .i64 y79.2), (15, .int .i64 (IntKind.i64.wrap (y70.1 - y83))), (128, .bool (!(y75.1 == s_3)))]) (.cons rfl (.cons rfl (.cons rfl (.cons rfl (.cons rfl (.cons rfl (.nil _))))))) (K88 (!(y75.1 == s_3)) _ ⟨by rw [hg87]; rfl, rfl⟩)
  · replace hS := ite_false' hS hc74
    refine ke_skip ?_
    have hK := law23_OtpOnce_B2_ok hg hA0 hS hb hA hi (hH.sub (.cons _ .slnil))
    exact ke_weaken (l' := []) (.nil _) hK
theorem law23_OtpOnce_ok (w0 : World) (hg : Gs w0) {x_0 : law23_Try} {r : Bool} (hS : law23_OtpOnce x_0 = some r) :
    Calls Tryd.prog 6 #[.agg #[str x_0.Secret, str x_0.Code, .int .i64 x_0.Last, .int .i64 x_0.Look, .int .i64 x_0.Now, .int .i64 x_0.K, .bool x_0.Near]] w0 (Ret (fun v w' => v = .bool r ∧ Below w0.heap.size w0 w')) := by
  unfold law23_OtpOnce at hS
  have hb := Below.refl w0.heap.size w0
  obtain ⟨A0, hA0, hAe⟩ : ∃ A0 : Nat → Prop, (∀ b, A0 b → b < w0.heap.size) ∧ A0 = fun _ => False := ⟨_, fun _ h => h.elim, rfl⟩
  clear hAe
  have hA := hA0
  have hi : ∀ b, A0 b → A0 b := fun _ h => h
  have hH := Hp.nil A0 w0.heap.size w0
  refine calls_of_ke Tryd.func6 rfl (n := 153) rfl rfl (l := [(0, .agg #[str x_0.Secret, str x_0.Code, .int .i64 x_0.Last, .int .i64 x_0.Look, .int .i64 x_0.Now, .int .i64 x_0.K, .bool x_0.Near])]) rfl ?_
  refine ke_seq ?_
  refine ke_region ?_
  refine sr_box hH hb.size hA rfl (by decide) ?_
  intro g1 A2 w3 hH1 hst4 hbw5 hinc6 hA1 hge7
  replace hb := hb.trans (hbw5.mono hb.size)
  replace hi := fun b hb => hinc6 b (hi b hb)
  replace hH : Hp A2 w0.heap.size w3 [(g1, .cells #[str x_0.Secret, str x_0.Code, .int .i64 x_0.Last, .int .i64 x_0.Look, .int .i64 x_0.Now, .int .i64 x_0.K, .bool x_0.Near] 29 (0, 0))] := hH1
  replace hA := hA1
  clear hH1 hA1
  refine sr_ev (v := .bool false) (ev_assign rfl) (by decide) ?_
  refine sr_end (l' := [(1, .pointer (some ⟨g1, 0, none⟩))]) (.cons rfl (.nil _)) ?_
  refine ke_seq ?_
  refine ke_seq ?_
  refine ke_region ?_
  refine sr_ev (v := .agg #[str x_0.Secret, str x_0.Code, .int .i64 x_0.Last, .int .i64 x_0.Look, .int .i64 x_0.Now, .int .i64 x_0.K, .bool x_0.Near]) (ev_loads Tryd.isAgg29 Tryd.sizeOf29 rfl (hH.cells (i := 0) (vs := [str x_0.Secret, str x_0.Code, .int .i64 x_0.Last, .int .i64 x_0.Look, .int .i64 x_0.Now, .int .i64 x_0.K, .bool x_0.Near]) rfl rfl)) (by decide) ?_
  obtain ⟨y8, hy9, hS⟩ := bind_some' hS
  refine sr_call (vs := [.agg #[str x_0.Secret, str x_0.Code, .int .i64 x_0.Last, .int .i64 x_0.Look, .int .i64 x_0.Now, .int .i64 x_0.K, .bool x_0.Near]]) rfl Tryd.call14 rfl (law23_fits_ok _ (hg.below hb) hy9) (by decide) ?_
  rintro _ w10 ⟨rfl, hbw11⟩
  replace hb := hb.trans (hbw11.mono hb.size)
  replace hA := lt_mono hA hbw11.size
  replace hH := hH.below hbw11
  refine sr_ev (v := .bool (!y8)) (ev_not rfl) (by decide) ?_
  refine sr_end (l' := [(1, .pointer (some ⟨g1, 0, none⟩)), (18, .bool (!y8))]) (.cons rfl (.cons rfl (.nil _))) ?_
  refine ke_cond (t := !y8) rfl (fun hc12 => ?_) (fun hc12 => ?_)
  · replace hS := ite_true' hS hc12
    refine ke_seq ?_
    refine ke_region ?_
    obtain ⟨y13, hy14, hS⟩ := bind_some' hS
    refine sr_call (vs := []) rfl Tryd.call9 rfl (law23_alive_ok _ (hg.below hb) hy14) (by decide) ?_
    rintro _ w15 ⟨rfl, hbw16⟩
    replace hb := hb.trans (hbw16.mono hb.size)
    replace hA := lt_mono hA hbw16.size
    replace hH := hH.below hbw16
    refine sr_ev (v := .bool y13) (ev_assign rfl) (by decide) ?_
    refine sr_end (l' := [(2, .bool y13)]) (.cons rfl (.nil _)) ?_
    cases hS
    exact ke_ret1 Tryd.func6 rfl rfl ⟨_, rfl, rfl, hb⟩
  · replace hS := ite_false' hS hc12
    refine ke_skip ?_
    refine ke_seq ?_
    refine ke_region ?_
    refine sr_ev (v := .agg #[str x_0.Secret, str x_0.Code, .int .i64 x_0.Last, .int .i64 x_0.Look, .int .i64 x_0.Now, .int .i64 x_0.K, .bool x_0.Near]) (ev_loads Tryd.isAgg29 Tryd.sizeOf29 rfl (hH.cells (i := 0) (vs := [str x_0.Secret, str x_0.Code, .int .i64 x_0.Last, .int .i64 x_0.Look, .int .i64 x_0.Now, .int .i64 x_0.K, .bool x_0.Near]) rfl rfl)) (by decide) ?_
    obtain ⟨y17, hy18, hS⟩ := bind_some' hS
    refine sr_call (vs := [.agg #[str x_0.Secret, str x_0.Code, .int .i64 x_0.Last, .int .i64 x_0.Look, .int .i64 x_0.Now, .int .i64 x_0.K, .bool x_0.Near]]) rfl Tryd.call15 rfl (law23_typed_ok _ (hg.below hb) hy18) (by decide) ?_
    rintro _ w19 ⟨rfl, hbw20⟩
    replace hb := hb.trans (hbw20.mono hb.size)
    replace hA := lt_mono hA hbw20.size
    replace hH := hH.below hbw20
    refine sr_ev (v := str y17) (ev_assign rfl) (by decide) ?_
    refine sr_end (l' := [(1, .pointer (some ⟨g1, 0, none⟩)), (3, str y17)]) (.cons rfl (.cons rfl (.nil _))) ?_
    refine ke_seq ?_
    refine ke_region ?_
    refine sr_ev (v := .pointer (some ⟨g1, 0, none⟩)) (ev_fieldAddr (i := 0) Tryd.underlying29 rfl Tryd.info9 rfl rfl) (by decide) ?_
    refine sr_ev (v := str x_0.Secret) (ev_load Tryd.isAgg9 rfl (hH.cell (i := 0) rfl rfl)) (by decide) ?_
    refine sr_ev (v := .pointer (some ⟨g1, 2, none⟩)) (ev_fieldAddr (i := 2) Tryd.underlying29 rfl Tryd.info3 rfl rfl) (by decide) ?_
    refine sr_ev (v := .int .i64 x_0.Last) (ev_load Tryd.isAgg3 rfl (hH.cell (i := 0) rfl rfl)) (by decide) ?_
    refine sr_ev (v := .pointer (some ⟨g1, 3, none⟩)) (ev_fieldAddr (i := 3) Tryd.underlying29 rfl Tryd.info3 rfl rfl) (by decide) ?_
    refine sr_ev (v := .int .i64 x_0.Look) (ev_load Tryd.isAgg3 rfl (hH.cell (i := 0) rfl rfl)) (by decide) ?_
    refine sr_ev (v := str y17) (ev_move rfl) (by decide) ?_
    obtain ⟨y21, hy22, hS⟩ := bind_some' hS
    refine sr_call (vs := [str x_0.Secret, .int .i64 x_0.Last, .int .i64 x_0.Look, str y17]) rfl Tryd.call16 rfl (otp_Verify_ok _ (hg.below hb) hy22) (by decide) ?_
    rintro _ w23 ⟨rfl, hbw24⟩
    replace hb := hb.trans (hbw24.mono hb.size)
    replace hA := lt_mono hA hbw24.size
    replace hH := hH.below hbw24
    refine sr_ev (v := .tuple #[.int .i64 y21.1, .int .i64 y21.2]) (ev_move rfl) (by decide) ?_
    refine sr_ev (v := .int .i64 y21.1) (ev_extract rfl rfl) (by decide) ?_
    refine sr_ev (v := .int .i64 y21.2) (ev_extract rfl rfl) (by decide) ?_
    refine sr_ev (v := .int .i64 y21.1) (ev_assign rfl) (by decide) ?_
    refine sr_ev (v := .int .i64 y21.2) (ev_assign rfl) (by decide) ?_
    refine sr_end (l' := [(1, .pointer (some ⟨g1, 0, none⟩)), (3, str y17), (4, .int .i64 y21.1), (5, .int .i64 y21.2)]) (.cons rfl (.cons rfl (.cons rfl (.cons rfl (.nil _))))) ?_
    refine ke_seq ?_
    refine ke_seq ?_
    refine ke_region ?_
    refine sr_ev (v := .int .i64 y21.2) (ev_move rfl) (by decide) ?_
    refine sr_ev (v := .bool (y21.2 == 0)) (ev_eq rfl rfl) (by decide) ?_
    refine sr_end (l' := [(1, .pointer (some ⟨g1, 0, none⟩)), (3, str y17), (4, .int .i64 y21.1), (34, .bool (y21.2 == 0))]) (.cons rfl (.cons rfl (.cons rfl (.cons rfl (.nil _))))) ?_
    refine ke_cond (t := y21.2 == 0) rfl (fun hc25 => ?_) (fun hc25 => ?_)
    · replace hS := ite_true' hS hc25
      refine ke_seq ?_
      refine ke_region ?_
      refine sr_ev (v := .pointer (some ⟨g1, 0, none⟩)) (ev_fieldAddr (i := 0) Tryd.underlying29 rfl Tryd.info9 rfl rfl) (by decide) ?_
      refine sr_ev (v := str x_0.Secret) (ev_load Tryd.isAgg9 rfl (hH.cell (i := 0) rfl rfl)) (by decide) ?_
      refine sr_ev (v := .int .i64 y21.1) (ev_move rfl) (by decide) ?_
      obtain ⟨y26, hy27, hS⟩ := bind_some' hS
      refine sr_call (vs := [str x_0.Secret, .int .i64 y21.1]) rfl Tryd.call10 rfl (otp_Code_ok _ (hg.below hb) hy27) (by decide) ?_
      rintro _ w28 ⟨rfl, hbw29⟩
      replace hb := hb.trans (hbw29.mono hb.size)
      replace hA := lt_mono hA hbw29.size
      replace hH := hH.below hbw29
      refine sr_ev (v := .tuple #[str y26.1, .int .i64 y26.2]) (ev_move rfl) (by decide) ?_
      refine sr_ev (v := str y26.1) (ev_extract rfl rfl) (by decide) ?_
      refine sr_ev (v := .int .i64 y26.2) (ev_extract rfl rfl) (by decide) ?_
      refine sr_ev (v := str y26.1) (ev_assign rfl) (by decide) ?_
      refine sr_ev (v := .int .i64 y26.2) (ev_assign rfl) (by decide) ?_
      refine sr_end (l' := [(1, .pointer (some ⟨g1, 0, none⟩)), (3, str y17), (4, .int .i64 y21.1), (6, str y26.1), (7, .int .i64 y26.2)]) (.cons rfl (.cons rfl (.cons rfl (.cons rfl (.cons rfl (.nil _)))))) ?_
      refine ke_seq ?_
      refine ke_region ?_
      refine sr_ev (v := .pointer (some ⟨g1, 0, none⟩)) (ev_fieldAddr (i := 0) Tryd.underlying29 rfl Tryd.info9 rfl rfl) (by decide) ?_
      refine sr_ev (v := str x_0.Secret) (ev_load Tryd.isAgg9 rfl (hH.cell (i := 0) rfl rfl)) (by decide) ?_
      refine sr_ev (v := .int .i64 y21.1) (ev_move rfl) (by decide) ?_
      refine sr_ev (v := .pointer (some ⟨g1, 3, none⟩)) (ev_fieldAddr (i := 3) Tryd.underlying29 rfl Tryd.info3 rfl rfl) (by decide) ?_
      refine sr_ev (v := .int .i64 x_0.Look) (ev_load Tryd.isAgg3 rfl (hH.cell (i := 0) rfl rfl)) (by decide) ?_
      refine sr_ev (v := str y17) (ev_move rfl) (by decide) ?_
      obtain ⟨y30, hy31, hS⟩ := bind_some' hS
      refine sr_call (vs := [str x_0.Secret, .int .i64 y21.1, .int .i64 x_0.Look, str y17]) rfl Tryd.call16 rfl (otp_Verify_ok _ (hg.below hb) hy31) (by decide) ?_
      rintro _ w32 ⟨rfl, hbw33⟩
      replace hb := hb.trans (hbw33.mono hb.size)
      replace hA := lt_mono hA hbw33.size
      replace hH := hH.below hbw33
      refine sr_ev (v := .tuple #[.int .i64 y30.1, .int .i64 y30.2]) (ev_move rfl) (by decide) ?_
      refine sr_ev (v := .int .i64 y30.1) (ev_extract rfl rfl) (by decide) ?_
      refine sr_ev (v := .int .i64 y30.2) (ev_extract rfl rfl) (by decide) ?_
      refine sr_ev (v := .int .i64 y30.1) (ev_assign rfl) (by decide) ?_
      refine sr_ev (v := .int .i64 y30.2) (ev_assign rfl) (by decide) ?_
      refine sr_end (l' := [(1, .pointer (some ⟨g1, 0, none⟩)), (3, str y17), (4, .int .i64 y21.1), (6, str y26.1), (7, .int .i64 y26.2), (8, .int .i64 y30.1), (9, .int .i64 y30.2)]) (.cons rfl (.cons rfl (.cons rfl (.cons rfl (.cons rfl (.cons rfl (.cons rfl (.nil _)))))))) ?_
      refine ke_seq ?_
      refine ke_region ?_
      refine sr_ev (v := .int .i64 y26.2) (ev_move rfl) (by decide) ?_
      refine sr_ev (v := .bool (y26.2 != 0)) (ev_ne rfl rfl) (by decide) ?_
      refine sr_ev (v := .bool (y26.2 != 0)) (ev_move rfl) (by decide) ?_
      refine sr_join (m := 4) (C := fun (x : Bool) w1 => x = ((y26.2 != 0) || (!(y26.1 == y17))) ∧ w32 = w1) (l' := fun x => [(1, .pointer (some ⟨g1, 0, none⟩)), (3, str y17), (4, .int .i64 y21.1), (8, .int .i64 y30.1), (9, .int .i64 y30.2), (58, .bool x)]) ?_ ?_
      · rintro _ _ ⟨rfl, rfl⟩
        refine sr_ev (v := .bool ((y26.2 != 0) || (!(y26.1 == y17)))) (ev_move rfl) (by decide) ?_
        refine sr_join (m := 5) (C := fun (x : Bool) w1 => x = (((y26.2 != 0) || (!(y26.1 == y17))) || (decide (y21.1 ≤ x_0.Last))) ∧ w32 = w1) (l' := fun x => [(1, .pointer (some ⟨g1, 0, none⟩)), (3, str y17), (4, .int .i64 y21.1), (8, .int .i64 y30.1), (9, .int .i64 y30.2), (64, .bool x)]) ?_ ?_
        · rintro _ _ ⟨rfl, rfl⟩
          refine sr_ev (v := .bool (((y26.2 != 0) || (!(y26.1 == y17))) || (decide (y21.1 ≤ x_0.Last)))) (ev_move rfl) (by decide) ?_
          refine sr_join (m := 8) (C := fun (x : Bool) w1 => x = ((((y26.2 != 0) || (!(y26.1 == y17))) || (decide (y21.1 ≤ x_0.Last))) || (decide (y21.1 > (IntKind.i64.wrap (x_0.Last + x_0.Look))))) ∧ w32 = w1) (l' := fun x => [(1, .pointer (some ⟨g1, 0, none⟩)), (3, str y17), (4, .int .i64 y21.1), (8, .int .i64 y30.1), (9, .int .i64 y30.2), (73, .bool x)]) ?_ ?_
          · rintro _ _ ⟨rfl, rfl⟩
            refine sr_ev (v := .bool ((((y26.2 != 0) || (!(y26.1 == y17))) || (decide (y21.1 ≤ x_0.Last))) || (decide (y21.1 > (IntKind.i64.wrap (x_0.Last + x_0.Look)))))) (ev_move rfl) (by decide) ?_
            refine sr_join (m := 8) (C := fun (x : Bool) w1 => x = (((((y26.2 != 0) || (!(y26.1 == y17))) || (decide (y21.1 ≤ x_0.Last))) || (decide (y21.1 > (IntKind.i64.wrap (x_0.Last + x_0.Look))))) || ((y30.2 == 0) && (decide (y30.1 ≤ y21.1)))) ∧ w32 = w1) (l' := fun x => [(1, .pointer (some ⟨g1, 0, none⟩)), (3, str y17), (82, .bool x)]) ?_ ?_
            · rintro _ _ ⟨rfl, rfl⟩
              refine sr_end (l' := [(1, .pointer (some ⟨g1, 0, none⟩)), (3, str y17), (82, .bool (((((y26.2 != 0) || (!(y26.1 == y17))) || (decide (y21.1 ≤ x_0.Last))) || (decide (y21.1 > (IntKind.i64.wrap (x_0.Last + x_0.Look))))) || ((y30.2 == 0) && (decide (y30.1 ≤ y21.1)))))]) (.cons rfl (.cons rfl (.cons rfl (.nil _)))) ?_
              refine ke_cond (t := ((((y26.2 != 0) || (!(y26.1 == y17))) || (decide (y21.1 ≤ x_0.Last))) || (decide (y21.1 > (IntKind.i64.wrap (x_0.Last + x_0.Look))))) || ((y30.2 == 0) && (decide (y30.1 ≤ y21.1)))) rfl (fun hc69 => ?_) (fun hc69 => ?_)
              · replace hS := ite_true' hS hc69
                refine ke_seq ?_
                refine ke_region ?_
                refine sr_ev (v := .bool false) (ev_assign rfl) (by decide) ?_
                refine sr_end (l' := [(2, .bool false)]) (.cons rfl (.nil _)) ?_
                cases hS
                exact ke_ret1 Tryd.func6 rfl rfl ⟨_, rfl, rfl, hb⟩
              · replace hS := ite_false' hS hc69
                refine ke_skip ?_
                have hK := law23_OtpOnce_B1_ok hg hA0 hS hb hA hi hH
                exact ke_weaken (l' := [(1, .pointer (some ⟨g1, 0, none⟩)), (3, str y17)]) (.cons rfl (.cons rfl (.nil _))) hK
            · intro K56
              rcases Bool.eq_false_or_eq_true ((((y26.2 != 0) || (!(y26.1 == y17))) || (decide (y21.1 ≤ x_0.Last))) || (decide (y21.1 > (IntKind.i64.wrap (x_0.Last + x_0.Look))))) with hg55 | hg55
              · refine sr_pass (e := 74) rfl rfl (by rw [hg55]; rfl) (by decide) ?_
                refine sr_pass (e := 74) rfl rfl (by rw [hg55]; rfl) (by decide) ?_
                refine sr_pass (e := 74) rfl rfl (by rw [hg55]; rfl) (by decide) ?_
                refine sr_pass_undef (e := 77) rfl rfl (by decide) ?_
                refine sr_pass_undef (e := 77) rfl rfl (by decide) ?_
                refine sr_pass_undef (e := 77) rfl rfl (by decide) ?_
                refine sr_pass (e := 74) rfl rfl (by rw [hg55]; rfl) (by decide) ?_
                refine sr_ev (v := .bool true) (ev_pick_t rfl hg55 rfl) (by decide) ?_
                exact sr_weaken (l' := [(1, .pointer (some ⟨g1, 0, none⟩)), (3, str y17), (82, .bool true)]) (.cons rfl (.cons rfl (.cons rfl (.nil _)))) (K56 true _ ⟨by rw [hg55]; rfl, rfl⟩)
              · refine sr_evg (b := false) (e := 74) rfl rfl hg55 (v := .int .i64 y30.2) (ev_move rfl) (by decide) ?_
                refine sr_evg (b := false) (e := 74) rfl rfl hg55 (v := .bool (y30.2 == 0)) (ev_eq rfl rfl) (by decide) ?_
                refine sr_evg (b := false) (e := 74) rfl rfl hg55 (v := .bool (y30.2 == 0)) (ev_move rfl) (by decide) ?_
                refine sr_join (m := 4) (C := fun (x : Bool) w1 => x = ((y30.2 == 0) && (decide (y30.1 ≤ y21.1))) ∧ w32 = w1) (l' := fun x => [(1, .pointer (some ⟨g1, 0, none⟩)), (3, str y17), (74, .bool ((((y26.2 != 0) || (!(y26.1 == y17))) || (decide (y21.1 ≤ x_0.Last))) || (decide (y21.1 > (IntKind.i64.wrap (x_0.Last + x_0.Look)))))), (81, .bool x)]) ?_ ?_
                · rintro _ _ ⟨rfl, rfl⟩
                  refine sr_ev (v := .bool ((y30.2 == 0) && (decide (y30.1 ≤ y21.1)))) (ev_pick_f rfl hg55 rfl) (by decide) ?_
                  exact sr_weaken (l' := [(1, .pointer (some ⟨g1, 0, none⟩)), (3, str y17), (82, .bool ((y30.2 == 0) && (decide (y30.1 ≤ y21.1))))]) (.cons rfl (.cons rfl (.cons rfl (.nil _)))) (K56 ((y30.2 == 0) && (decide (y30.1 ≤ y21.1))) _ ⟨by rw [hg55]; rfl, rfl⟩)
                · intro K63
                  rcases Bool.eq_false_or_eq_true (y30.2 == 0) with hg62 | hg62
                  · refine sr_evg (b := true) (e := 77) rfl rfl hg62 (v := .int .i64 y30.1) (ev_move rfl) (by decide) ?_
                    refine sr_evg (b := true) (e := 77) rfl rfl hg62 (v := .int .i64 y21.1) (ev_move rfl) (by decide) ?_
                    refine sr_evg (b := true) (e := 77) rfl rfl hg62 (v := .bool (decide (y30.1 ≤ y21.1))) (ev_le rfl rfl) (by decide) ?_
                    refine sr_evg (b := false) (e := 74) rfl rfl hg55 (v := .bool (decide (y30.1 ≤ y21.1))) (ev_pick_t rfl hg62 rfl) (by decide) ?_
                    exact sr_weaken (l' := [(1, .pointer (some ⟨g1, 0, none⟩)), (3, str y17), (74, .bool ((((y26.2 != 0) || (!(y26.1 == y17))) || (decide (y21.1 ≤ x_0.Last))) || (decide (y21.1 > (IntKind.i64.wrap (x_0.Last + x_0.Look)))))), (81, .bool (decide (y30.1 ≤ y21.1)))]) (.cons rfl (.cons rfl (.cons rfl (.cons rfl (.nil _))))) (K63 (decide (y30.1 ≤ y21.1)) _ ⟨by rw [hg62]; rfl, rfl⟩)
                  · refine sr_pass (e := 77) rfl rfl (by rw [hg62]; rfl) (by decide) ?_
                    refine sr_pass (e := 77) rfl rfl (by rw [hg62]; rfl) (by decide) ?_
                    refine sr_pass (e := 77) rfl rfl (by rw [hg62]; rfl) (by decide) ?_
                    refine sr_evg (b := false) (e := 74) rfl rfl hg55 (v := .bool false) (ev_pick_f rfl hg62 rfl) (by decide) ?_
                    exact sr_weaken (l' := [(1, .pointer (some ⟨g1, 0, none⟩)), (3, str y17), (74, .bool ((((y26.2 != 0) || (!(y26.1 == y17))) || (decide (y21.1 ≤ x_0.Last))) || (decide (y21.1 > (IntKind.i64.wrap (x_0.Last + x_0.Look)))))), (81, .bool false)]) (.cons rfl (.cons rfl (.cons rfl (.cons rfl (.nil _))))) (K63 false _ ⟨by rw [hg62]; rfl, rfl⟩)
          · intro K49
            rcases Bool.eq_false_or_eq_true (((y26.2 != 0) || (!(y26.1 == y17))) || (decide (y21.1 ≤ x_0.Last))) with hg48 | hg48
            · refine sr_pass (e := 65) rfl rfl (by rw [hg48]; rfl) (by decide) ?_
              refine sr_pass (e := 65) rfl rfl (by rw [hg48]; rfl) (by decide) ?_
              refine sr_pass (e := 65) rfl rfl (by rw [hg48]; rfl) (by decide) ?_
              refine sr_pass (e := 65) rfl rfl (by rw [hg48]; rfl) (by decide) ?_
              refine sr_pass (e := 65) rfl rfl (by rw [hg48]; rfl) (by decide) ?_
              refine sr_pass (e := 65) rfl rfl (by rw [hg48]; rfl) (by decide) ?_
              refine sr_pass (e := 65) rfl rfl (by rw [hg48]; rfl) (by decide) ?_
              refine sr_ev (v := .bool true) (ev_pick_t rfl hg48 rfl) (by decide) ?_
              exact sr_weaken (l' := [(1, .pointer (some ⟨g1, 0, none⟩)), (3, str y17), (4, .int .i64 y21.1), (8, .int .i64 y30.1), (9, .int .i64 y30.2), (73, .bool true)]) (.cons rfl (.cons rfl (.cons rfl (.cons rfl (.cons rfl (.cons rfl (.nil _))))))) (K49 true _ ⟨by rw [hg48]; rfl, rfl⟩)
            · refine sr_evg (b := false) (e := 65) rfl rfl hg48 (v := .int .i64 y21.1) (ev_move rfl) (by decide) ?_
              refine sr_evg (b := false) (e := 65) rfl rfl hg48 (v := .pointer (some ⟨g1, 2, none⟩)) (ev_fieldAddr (i := 2) Tryd.underlying29 rfl Tryd.info3 rfl rfl) (by decide) ?_
              refine sr_evg (b := false) (e := 65) rfl rfl hg48 (v := .int .i64 x_0.Last) (ev_load Tryd.isAgg3 rfl (hH.cell (i := 0) rfl rfl)) (by decide) ?_
              refine sr_evg (b := false) (e := 65) rfl rfl hg48 (v := .pointer (some ⟨g1, 3, none⟩)) (ev_fieldAddr (i := 3) Tryd.underlying29 rfl Tryd.info3 rfl rfl) (by decide) ?_
              refine sr_evg (b := false) (e := 65) rfl rfl hg48 (v := .int .i64 x_0.Look) (ev_load Tryd.isAgg3 rfl (hH.cell (i := 0) rfl rfl)) (by decide) ?_
              refine sr_evg (b := false) (e := 65) rfl rfl hg48 (v := .int .i64 (IntKind.i64.wrap (x_0.Last + x_0.Look))) (ev_add rfl rfl) (by decide) ?_
              refine sr_evg (b := false) (e := 65) rfl rfl hg48 (v := .bool (decide (y21.1 > (IntKind.i64.wrap (x_0.Last + x_0.Look))))) (ev_gt rfl rfl) (by decide) ?_
              refine sr_ev (v := .bool (decide (y21.1 > (IntKind.i64.wrap (x_0.Last + x_0.Look))))) (ev_pick_f rfl hg48 rfl) (by decide) ?_
              exact sr_weaken (l' := [(1, .pointer (some ⟨g1, 0, none⟩)), (3, str y17), (4, .int .i64 y21.1), (8, .int .i64 y30.1), (9, .int .i64 y30.2), (73, .bool (decide (y21.1 > (IntKind.i64.wrap (x_0.Last + x_0.Look)))))]) (.cons rfl (.cons rfl (.cons rfl (.cons rfl (.cons rfl (.cons rfl (.nil _))))))) (K49 (decide (y21.1 > (IntKind.i64.wrap (x_0.Last + x_0.Look)))) _ ⟨by rw [hg48]; rfl, rfl⟩)
        · intro K42
          rcases Bool.eq_false_or_eq_true ((y26.2 != 0) || (!(y26.1 == y17))) with hg41 | hg41
          · refine sr_pass (e := 59) rfl rfl (by rw [hg41]; rfl) (by decide) ?_
            refine sr_pass (e := 59) rfl rfl (by rw [hg41]; rfl) (by decide) ?_
            refine sr_pass (e := 59) rfl rfl (by rw [hg41]; rfl) (by decide) ?_
            refine sr_pass (e := 59) rfl rfl (by rw [hg41]; rfl) (by decide) ?_
            refine sr_ev (v := .bool true) (ev_pick_t rfl hg41 rfl) (by decide) ?_
            exact sr_weaken (l' := [(1, .pointer (some ⟨g1, 0, none⟩)), (3, str y17), (4, .int .i64 y21.1), (8, .int .i64 y30.1), (9, .int .i64 y30.2), (64, .bool true)]) (.cons rfl (.cons rfl (.cons rfl (.cons rfl (.cons rfl (.cons rfl (.nil _))))))) (K42 true _ ⟨by rw [hg41]; rfl, rfl⟩)
          · refine sr_evg (b := false) (e := 59) rfl rfl hg41 (v := .int .i64 y21.1) (ev_move rfl) (by decide) ?_
            refine sr_evg (b := false) (e := 59) rfl rfl hg41 (v := .pointer (some ⟨g1, 2, none⟩)) (ev_fieldAddr (i := 2) Tryd.underlying29 rfl Tryd.info3 rfl rfl) (by decide) ?_
            refine sr_evg (b := false) (e := 59) rfl rfl hg41 (v := .int .i64 x_0.Last) (ev_load Tryd.isAgg3 rfl (hH.cell (i := 0) rfl rfl)) (by decide) ?_
            refine sr_evg (b := false) (e := 59) rfl rfl hg41 (v := .bool (decide (y21.1 ≤ x_0.Last))) (ev_le rfl rfl) (by decide) ?_
            refine sr_ev (v := .bool (decide (y21.1 ≤ x_0.Last))) (ev_pick_f rfl hg41 rfl) (by decide) ?_
            exact sr_weaken (l' := [(1, .pointer (some ⟨g1, 0, none⟩)), (3, str y17), (4, .int .i64 y21.1), (8, .int .i64 y30.1), (9, .int .i64 y30.2), (64, .bool (decide (y21.1 ≤ x_0.Last)))]) (.cons rfl (.cons rfl (.cons rfl (.cons rfl (.cons rfl (.cons rfl (.nil _))))))) (K42 (decide (y21.1 ≤ x_0.Last)) _ ⟨by rw [hg41]; rfl, rfl⟩)
      · intro K35
        rcases Bool.eq_false_or_eq_true (y26.2 != 0) with hg34 | hg34
        · refine sr_pass (e := 54) rfl rfl (by rw [hg34]; rfl) (by decide) ?_
          refine sr_pass (e := 54) rfl rfl (by rw [hg34]; rfl) (by decide) ?_
          refine sr_pass (e := 54) rfl rfl (by rw [hg34]; rfl) (by decide) ?_
          refine sr_ev (v := .bool true) (ev_pick_t rfl hg34 rfl) (by decide) ?_
          exact sr_weaken (l' := [(1, .pointer (some ⟨g1, 0, none⟩)), (3, str y17), (4, .int .i64 y21.1), (8, .int .i64 y30.1), (9, .int .i64 y30.2), (58, .bool true)]) (.cons rfl (.cons rfl (.cons rfl (.cons rfl (.cons rfl (.cons rfl (.nil _))))))) (K35 true _ ⟨by rw [hg34]; rfl, rfl⟩)
        · refine sr_evg (b := false) (e := 54) rfl rfl hg34 (v := str y26.1) (ev_move rfl) (by decide) ?_
          refine sr_evg (b := false) (e := 54) rfl rfl hg34 (v := str y17) (ev_move rfl) (by decide) ?_
          refine sr_evg (b := false) (e := 54) rfl rfl hg34 (v := .bool (!(y26.1 == y17))) (ev_sne rfl rfl) (by decide) ?_
          refine sr_ev (v := .bool (!(y26.1 == y17))) (ev_pick_f rfl hg34 rfl) (by decide) ?_
          exact sr_weaken (l' := [(1, .pointer (some ⟨g1, 0, none⟩)), (3, str y17), (4, .int .i64 y21.1), (8, .int .i64 y30.1), (9, .int .i64 y30.2), (58, .bool (!(y26.1 == y17)))]) (.cons rfl (.cons rfl (.cons rfl (.cons rfl (.cons rfl (.cons rfl (.nil _))))))) (K35 (!(y26.1 == y17)) _ ⟨by rw [hg34]; rfl, rfl⟩)
    · replace hS := ite_false' hS hc25
      refine ke_skip ?_
      have hK := law23_OtpOnce_B1_ok hg hA0 hS hb hA hi hH
      exact ke_weaken (l' := [(1, .pointer (some ⟨g1, 0, none⟩)), (3, str y17)]) (.cons rfl (.cons rfl (.nil _))) hK
theorem law23_OtpWindows_ok (w0 : World) (hg : Gs w0) {x_0 : law23_Try} {r : Bool} (hS : law23_OtpWindows x_0 = some r) :
    Calls Tryd.prog 7 #[.agg #[str x_0.Secret, str x_0.Code, .int .i64 x_0.Last, .int .i64 x_0.Look, .int .i64 x_0.Now, .int .i64 x_0.K, .bool x_0.Near]] w0 (Ret (fun v w' => v = .bool r ∧ Below w0.heap.size w0 w')) := by
  unfold law23_OtpWindows at hS
  have hb := Below.refl w0.heap.size w0
  obtain ⟨A0, hA0, hAe⟩ : ∃ A0 : Nat → Prop, (∀ b, A0 b → b < w0.heap.size) ∧ A0 = fun _ => False := ⟨_, fun _ h => h.elim, rfl⟩
  clear hAe
  have hA := hA0
  have hi : ∀ b, A0 b → A0 b := fun _ h => h
  have hH := Hp.nil A0 w0.heap.size w0
  refine calls_of_ke Tryd.func7 rfl (n := 163) rfl rfl (l := [(0, .agg #[str x_0.Secret, str x_0.Code, .int .i64 x_0.Last, .int .i64 x_0.Look, .int .i64 x_0.Now, .int .i64 x_0.K, .bool x_0.Near])]) rfl ?_
  refine ke_seq ?_
  refine ke_region ?_
  refine sr_box hH hb.size hA rfl (by decide) ?_
  intro g1 A2 w3 hH1 hst4 hbw5 hinc6 hA1 hge7
  replace hb := hb.trans (hbw5.mono hb.size)
  replace hi := fun b hb => hinc6 b (hi b hb)
  replace hH : Hp A2 w0.heap.size w3 [(g1, .cells #[str x_0.Secret, str x_0.Code, .int .i64 x_0.Last, .int .i64 x_0.Look, .int .i64 x_0.Now, .int .i64 x_0.K, .bool x_0.Near] 29 (0, 0))] := hH1
  replace hA := hA1
  clear hH1 hA1
  refine sr_ev (v := .bool false) (ev_assign rfl) (by decide) ?_
  refine sr_end (l' := [(1, .pointer (some ⟨g1, 0, none⟩))]) (.cons rfl (.nil _)) ?_
  refine ke_seq ?_
  refine ke_seq ?_
  refine ke_region ?_
  refine sr_ev (v := .agg #[str x_0.Secret, str x_0.Code, .int .i64 x_0.Last, .int .i64 x_0.Look, .int .i64 x_0.Now, .int .i64 x_0.K, .bool x_0.Near]) (ev_loads Tryd.isAgg29 Tryd.sizeOf29 rfl (hH.cells (i := 0) (vs := [str x_0.Secret, str x_0.Code, .int .i64 x_0.Last, .int .i64 x_0.Look, .int .i64 x_0.Now, .int .i64 x_0.K, .bool x_0.Near]) rfl rfl)) (by decide) ?_
  obtain ⟨y8, hy9, hS⟩ := bind_some' hS
  refine sr_call (vs := [.agg #[str x_0.Secret, str x_0.Code, .int .i64 x_0.Last, .int .i64 x_0.Look, .int .i64 x_0.Now, .int .i64 x_0.K, .bool x_0.Near]]) rfl Tryd.call14 rfl (law23_fits_ok _ (hg.below hb) hy9) (by decide) ?_
  rintro _ w10 ⟨rfl, hbw11⟩
  replace hb := hb.trans (hbw11.mono hb.size)
  replace hA := lt_mono hA hbw11.size
  replace hH := hH.below hbw11
  refine sr_ev (v := .bool (!y8)) (ev_not rfl) (by decide) ?_
  refine sr_ev (v := .bool (!y8)) (ev_move rfl) (by decide) ?_
  refine sr_join (m := 4) (C := fun (x : Bool) w1 => x = ((!y8) || (decide (x_0.Look < 0))) ∧ w10 = w1) (l' := fun x => [(1, .pointer (some ⟨g1, 0, none⟩)), (24, .bool x)]) ?_ ?_
  · rintro _ _ ⟨rfl, rfl⟩
    refine sr_ev (v := .bool ((!y8) || (decide (x_0.Look < 0)))) (ev_move rfl) (by decide) ?_
    refine sr_join (m := 4) (C := fun (x : Bool) w1 => x = (((!y8) || (decide (x_0.Look < 0))) || (decide (x_0.Look > 15))) ∧ w10 = w1) (l' := fun x => [(1, .pointer (some ⟨g1, 0, none⟩)), (29, .bool x)]) ?_ ?_
    · rintro _ _ ⟨rfl, rfl⟩
      refine sr_end (l' := [(1, .pointer (some ⟨g1, 0, none⟩)), (29, .bool (((!y8) || (decide (x_0.Look < 0))) || (decide (x_0.Look > 15))))]) (.cons rfl (.cons rfl (.nil _))) ?_
      refine ke_cond (t := ((!y8) || (decide (x_0.Look < 0))) || (decide (x_0.Look > 15))) rfl (fun hc26 => ?_) (fun hc26 => ?_)
      · replace hS := ite_true' hS hc26
        refine ke_seq ?_
        refine ke_region ?_
        obtain ⟨y27, hy28, hS⟩ := bind_some' hS
        refine sr_call (vs := []) rfl Tryd.call9 rfl (law23_alive_ok _ (hg.below hb) hy28) (by decide) ?_
        rintro _ w29 ⟨rfl, hbw30⟩
        replace hb := hb.trans (hbw30.mono hb.size)
        replace hA := lt_mono hA hbw30.size
        replace hH := hH.below hbw30
        refine sr_ev (v := .bool y27) (ev_assign rfl) (by decide) ?_
        refine sr_end (l' := [(2, .bool y27)]) (.cons rfl (.nil _)) ?_
        cases hS
        exact ke_ret1 Tryd.func7 rfl rfl ⟨_, rfl, rfl, hb⟩
      · replace hS := ite_false' hS hc26
        refine ke_skip ?_
        refine ke_seq ?_
        refine ke_region ?_
        refine sr_ev (v := .agg #[str x_0.Secret, str x_0.Code, .int .i64 x_0.Last, .int .i64 x_0.Look, .int .i64 x_0.Now, .int .i64 x_0.K, .bool x_0.Near]) (ev_loads Tryd.isAgg29 Tryd.sizeOf29 rfl (hH.cells (i := 0) (vs := [str x_0.Secret, str x_0.Code, .int .i64 x_0.Last, .int .i64 x_0.Look, .int .i64 x_0.Now, .int .i64 x_0.K, .bool x_0.Near]) rfl rfl)) (by decide) ?_
        obtain ⟨y31, hy32, hS⟩ := bind_some' hS
        refine sr_call (vs := [.agg #[str x_0.Secret, str x_0.Code, .int .i64 x_0.Last, .int .i64 x_0.Look, .int .i64 x_0.Now, .int .i64 x_0.K, .bool x_0.Near]]) rfl Tryd.call15 rfl (law23_typed_ok _ (hg.below hb) hy32) (by decide) ?_
        rintro _ w33 ⟨rfl, hbw34⟩
        replace hb := hb.trans (hbw34.mono hb.size)
        replace hA := lt_mono hA hbw34.size
        replace hH := hH.below hbw34
        refine sr_ev (v := str y31) (ev_assign rfl) (by decide) ?_
        refine sr_end (l' := [(1, .pointer (some ⟨g1, 0, none⟩)), (3, str y31)]) (.cons rfl (.cons rfl (.nil _))) ?_
        refine ke_seq ?_
        refine ke_region ?_
        refine sr_ev (v := .pointer (some ⟨g1, 0, none⟩)) (ev_fieldAddr (i := 0) Tryd.underlying29 rfl Tryd.info9 rfl rfl) (by decide) ?_
        refine sr_ev (v := str x_0.Secret) (ev_load Tryd.isAgg9 rfl (hH.cell (i := 0) rfl rfl)) (by decide) ?_
        refine sr_ev (v := .pointer (some ⟨g1, 2, none⟩)) (ev_fieldAddr (i := 2) Tryd.underlying29 rfl Tryd.info3 rfl rfl) (by decide) ?_
        refine sr_ev (v := .int .i64 x_0.Last) (ev_load Tryd.isAgg3 rfl (hH.cell (i := 0) rfl rfl)) (by decide) ?_
        refine sr_ev (v := .pointer (some ⟨g1, 3, none⟩)) (ev_fieldAddr (i := 3) Tryd.underlying29 rfl Tryd.info3 rfl rfl) (by decide) ?_
        refine sr_ev (v := .int .i64 x_0.Look) (ev_load Tryd.isAgg3 rfl (hH.cell (i := 0) rfl rfl)) (by decide) ?_
        refine sr_ev (v := str y31) (ev_move rfl) (by decide) ?_
        obtain ⟨y35, hy36, hS⟩ := bind_some' hS
        refine sr_call (vs := [str x_0.Secret, .int .i64 x_0.Last, .int .i64 x_0.Look, str y31]) rfl Tryd.call16 rfl (otp_Verify_ok _ (hg.below hb) hy36) (by decide) ?_
        rintro _ w37 ⟨rfl, hbw38⟩
        replace hb := hb.trans (hbw38.mono hb.size)
        replace hA := lt_mono hA hbw38.size
        replace hH := hH.below hbw38
        refine sr_ev (v := .tuple #[.int .i64 y35.1, .int .i64 y35.2]) (ev_move rfl) (by decide) ?_
        refine sr_ev (v := .int .i64 y35.1) (ev_extract rfl rfl) (by decide) ?_
        refine sr_ev (v := .int .i64 y35.2) (ev_extract rfl rfl) (by decide) ?_
        refine sr_ev (v := .int .i64 y35.1) (ev_assign rfl) (by decide) ?_
        refine sr_ev (v := .int .i64 y35.2) (ev_assign rfl) (by decide) ?_
        refine sr_end (l' := [(1, .pointer (some ⟨g1, 0, none⟩)), (3, str y31), (4, .int .i64 y35.1), (5, .int .i64 y35.2)]) (.cons rfl (.cons rfl (.cons rfl (.cons rfl (.nil _))))) ?_
        refine ke_seq ?_
        refine ke_region ?_
        refine sr_ev (v := .pointer (some ⟨g1, 0, none⟩)) (ev_fieldAddr (i := 0) Tryd.underlying29 rfl Tryd.info9 rfl rfl) (by decide) ?_
        refine sr_ev (v := str x_0.Secret) (ev_load Tryd.isAgg9 rfl (hH.cell (i := 0) rfl rfl)) (by decide) ?_
        refine sr_ev (v := .pointer (some ⟨g1, 2, none⟩)) (ev_fieldAddr (i := 2) Tryd.underlying29 rfl Tryd.info3 rfl rfl) (by decide) ?_
        refine sr_ev (v := .int .i64 x_0.Last) (ev_load Tryd.isAgg3 rfl (hH.cell (i := 0) rfl rfl)) (by decide) ?_
        refine sr_ev (v := .pointer (some ⟨g1, 3, none⟩)) (ev_fieldAddr (i := 3) Tryd.underlying29 rfl Tryd.info3 rfl rfl) (by decide) ?_
        refine sr_ev (v := .int .i64 x_0.Look) (ev_load Tryd.isAgg3 rfl (hH.cell (i := 0) rfl rfl)) (by decide) ?_
        refine sr_ev (v := .int .i64 (IntKind.i64.wrap (x_0.Look + 1))) (ev_add rfl rfl) (by decide) ?_
        refine sr_ev (v := str y31) (ev_move rfl) (by decide) ?_
        obtain ⟨y39, hy40, hS⟩ := bind_some' hS
        refine sr_call (vs := [str x_0.Secret, .int .i64 x_0.Last, .int .i64 (IntKind.i64.wrap (x_0.Look + 1)), str y31]) rfl Tryd.call16 rfl (otp_Verify_ok _ (hg.below hb) hy40) (by decide) ?_
        rintro _ w41 ⟨rfl, hbw42⟩
        replace hb := hb.trans (hbw42.mono hb.size)
        replace hA := lt_mono hA hbw42.size
        replace hH := hH.below hbw42
        refine sr_ev (v := .tuple #[.int .i64 y39.1, .int .i64 y39.2]) (ev_move rfl) (by decide) ?_
        refine sr_ev (v := .int .i64 y39.1) (ev_extract rfl rfl) (by decide) ?_
        refine sr_ev (v := .int .i64 y39.2) (ev_extract rfl rfl) (by decide) ?_
        refine sr_ev (v := .int .i64 y39.1) (ev_assign rfl) (by decide) ?_
        refine sr_ev (v := .int .i64 y39.2) (ev_assign rfl) (by decide) ?_
        refine sr_end (l' := [(1, .pointer (some ⟨g1, 0, none⟩)), (3, str y31), (4, .int .i64 y35.1), (5, .int .i64 y35.2), (6, .int .i64 y39.1), (7, .int .i64 y39.2)]) (.cons rfl (.cons rfl (.cons rfl (.cons rfl (.cons rfl (.cons rfl (.nil _))))))) ?_
        refine ke_seq ?_
        refine ke_seq ?_
        refine ke_region ?_
        refine sr_ev (v := .int .i64 y35.2) (ev_move rfl) (by decide) ?_
        refine sr_ev (v := .bool (y35.2 == 0)) (ev_eq rfl rfl) (by decide) ?_
        refine sr_ev (v := .bool (y35.2 == 0)) (ev_move rfl) (by decide) ?_
        refine sr_join (m := 8) (C := fun (x : Bool) w1 => x = ((y35.2 == 0) && ((y39.2 != 0) || (y35.1 != y39.1))) ∧ w41 = w1) (l' := fun x => [(1, .pointer (some ⟨g1, 0, none⟩)), (3, str y31), (66, .bool x)]) ?_ ?_
        · rintro _ _ ⟨rfl, rfl⟩
          refine sr_end (l' := [(1, .pointer (some ⟨g1, 0, none⟩)), (3, str y31), (66, .bool ((y35.2 == 0) && ((y39.2 != 0) || (y35.1 != y39.1))))]) (.cons rfl (.cons rfl (.cons rfl (.nil _)))) ?_
          refine ke_cond (t := (y35.2 == 0) && ((y39.2 != 0) || (y35.1 != y39.1))) rfl (fun hc57 => ?_) (fun hc57 => ?_)
          · replace hS := ite_true' hS hc57
            refine ke_seq ?_
            refine ke_region ?_
            refine sr_ev (v := .bool false) (ev_assign rfl) (by decide) ?_
            refine sr_end (l' := [(2, .bool false)]) (.cons rfl (.nil _)) ?_
            cases hS
            exact ke_ret1 Tryd.func7 rfl rfl ⟨_, rfl, rfl, hb⟩
          · replace hS := ite_false' hS hc57
            refine ke_skip ?_
            refine ke_seq ?_
            refine ke_region ?_
            refine sr_ev (v := .pointer (some ⟨g1, 0, none⟩)) (ev_fieldAddr (i := 0) Tryd.underlying29 rfl Tryd.info9 rfl rfl) (by decide) ?_
            refine sr_ev (v := str x_0.Secret) (ev_load Tryd.isAgg9 rfl (hH.cell (i := 0) rfl rfl)) (by decide) ?_
            refine sr_ev (v := .pointer (some ⟨g1, 2, none⟩)) (ev_fieldAddr (i := 2) Tryd.underlying29 rfl Tryd.info3 rfl rfl) (by decide) ?_
            refine sr_ev (v := .int .i64 x_0.Last) (ev_load Tryd.isAgg3 rfl (hH.cell (i := 0) rfl rfl)) (by decide) ?_
            refine sr_ev (v := .pointer (some ⟨g1, 4, none⟩)) (ev_fieldAddr (i := 4) Tryd.underlying29 rfl Tryd.info3 rfl rfl) (by decide) ?_
            refine sr_ev (v := .int .i64 x_0.Now) (ev_load Tryd.isAgg3 rfl (hH.cell (i := 0) rfl rfl)) (by decide) ?_
            refine sr_ev (v := .pointer (some ⟨g1, 3, none⟩)) (ev_fieldAddr (i := 3) Tryd.underlying29 rfl Tryd.info3 rfl rfl) (by decide) ?_
            refine sr_ev (v := .int .i64 x_0.Look) (ev_load Tryd.isAgg3 rfl (hH.cell (i := 0) rfl rfl)) (by decide) ?_
            refine sr_ev (v := .int .i64 (IntKind.i64.wrap (30 * x_0.Look))) (ev_mul rfl rfl) (by decide) ?_
            refine sr_ev (v := str y31) (ev_move rfl) (by decide) ?_
            obtain ⟨y58, hy59, hS⟩ := bind_some' hS
            refine sr_call (vs := [str x_0.Secret, .int .i64 x_0.Last, .int .i64 x_0.Now, .int .i64 (IntKind.i64.wrap (30 * x_0.Look)), str y31]) rfl Tryd.call18 rfl (otp_VerifyAt_ok _ (hg.below hb) hy59) (by decide) ?_
            rintro _ w60 ⟨rfl, hbw61⟩
            replace hb := hb.trans (hbw61.mono hb.size)
            replace hA := lt_mono hA hbw61.size
            replace hH := hH.below hbw61
            refine sr_ev (v := .tuple #[.int .i64 y58.1, .int .i64 y58.2]) (ev_move rfl) (by decide) ?_
            refine sr_ev (v := .int .i64 y58.1) (ev_extract rfl rfl) (by decide) ?_
            refine sr_ev (v := .int .i64 y58.2) (ev_extract rfl rfl) (by decide) ?_
            refine sr_ev (v := .int .i64 y58.1) (ev_assign rfl) (by decide) ?_
            refine sr_ev (v := .int .i64 y58.2) (ev_assign rfl) (by decide) ?_
            refine sr_end (l' := [(1, .pointer (some ⟨g1, 0, none⟩)), (3, str y31), (9, .int .i64 y58.2)]) (.cons rfl (.cons rfl (.cons rfl (.nil _)))) ?_
            refine ke_seq ?_
            refine ke_region ?_
            refine sr_ev (v := .pointer (some ⟨g1, 0, none⟩)) (ev_fieldAddr (i := 0) Tryd.underlying29 rfl Tryd.info9 rfl rfl) (by decide) ?_
            refine sr_ev (v := str x_0.Secret) (ev_load Tryd.isAgg9 rfl (hH.cell (i := 0) rfl rfl)) (by decide) ?_
            refine sr_ev (v := .pointer (some ⟨g1, 2, none⟩)) (ev_fieldAddr (i := 2) Tryd.underlying29 rfl Tryd.info3 rfl rfl) (by decide) ?_
            refine sr_ev (v := .int .i64 x_0.Last) (ev_load Tryd.isAgg3 rfl (hH.cell (i := 0) rfl rfl)) (by decide) ?_
            refine sr_ev (v := .pointer (some ⟨g1, 4, none⟩)) (ev_fieldAddr (i := 4) Tryd.underlying29 rfl Tryd.info3 rfl rfl) (by decide) ?_
            refine sr_ev (v := .int .i64 x_0.Now) (ev_load Tryd.isAgg3 rfl (hH.cell (i := 0) rfl rfl)) (by decide) ?_
            refine sr_ev (v := .pointer (some ⟨g1, 3, none⟩)) (ev_fieldAddr (i := 3) Tryd.underlying29 rfl Tryd.info3 rfl rfl) (by decide) ?_
            refine sr_ev (v := .int .i64 x_0.Look) (ev_load Tryd.isAgg3 rfl (hH.cell (i := 0) rfl rfl)) (by decide) ?_
            refine sr_ev (v := .int .i64 (IntKind.i64.wrap (30 * x_0.Look))) (ev_mul rfl rfl) (by decide) ?_
            refine sr_ev (v := .int .i64 (IntKind.i64.wrap ((IntKind.i64.wrap (30 * x_0.Look)) + 30))) (ev_add rfl rfl) (by decide) ?_
            refine sr_ev (v := str y31) (ev_move rfl) (by decide) ?_
            obtain ⟨y62, hy63, hS⟩ := bind_some' hS
            refine sr_call (vs := [str x_0.Secret, .int .i64 x_0.Last, .int .i64 x_0.Now, .int .i64 (IntKind.i64.wrap ((IntKind.i64.wrap (30 * x_0.Look)) + 30)), str y31]) rfl Tryd.call18 rfl (otp_VerifyAt_ok _ (hg.below hb) hy63) (by decide) ?_
            rintro _ w64 ⟨rfl, hbw65⟩
            replace hb := hb.trans (hbw65.mono hb.size)
            replace hA := lt_mono hA hbw65.size
            replace hH := hH.below hbw65
            refine sr_ev (v := .tuple #[.int .i64 y62.1, .int .i64 y62.2]) (ev_move rfl) (by decide) ?_
            refine sr_ev (v := .int .i64 y62.1) (ev_extract rfl rfl) (by decide) ?_
            refine sr_ev (v := .int .i64 y62.2) (ev_extract rfl rfl) (by decide) ?_
            refine sr_ev (v := .int .i64 y62.1) (ev_assign rfl) (by decide) ?_
            refine sr_ev (v := .int .i64 y62.2) (ev_assign rfl) (by decide) ?_
            refine sr_end (l' := [(1, .pointer (some ⟨g1, 0, none⟩)), (9, .int .i64 y58.2), (11, .int .i64 y62.2)]) (.cons rfl (.cons rfl (.cons rfl (.nil _)))) ?_
            refine ke_seq ?_
            refine ke_seq ?_
            refine ke_region ?_
            refine sr_ev (v := .int .i64 y58.2) (ev_move rfl) (by decide) ?_
            refine sr_ev (v := .bool (y58.2 == 0)) (ev_eq rfl rfl) (by decide) ?_
            refine sr_ev (v := .bool (y58.2 == 0)) (ev_move rfl) (by decide) ?_
            refine sr_join (m := 3) (C := fun (x : Bool) w1 => x = ((y58.2 == 0) && (y62.2 != 0)) ∧ w64 = w1) (l' := fun x => [(1, .pointer (some ⟨g1, 0, none⟩)), (101, .bool x)]) ?_ ?_
            · rintro _ _ ⟨rfl, rfl⟩
              refine sr_end (l' := [(1, .pointer (some ⟨g1, 0, none⟩)), (101, .bool ((y58.2 == 0) && (y62.2 != 0)))]) (.cons rfl (.cons rfl (.nil _))) ?_
              refine ke_cond (t := (y58.2 == 0) && (y62.2 != 0)) rfl (fun hc73 => ?_) (fun hc73 => ?_)
              · replace hS := ite_true' hS hc73
                refine ke_seq ?_
                refine ke_region ?_
                refine sr_ev (v := .bool false) (ev_assign rfl) (by decide) ?_
                refine sr_end (l' := [(2, .bool false)]) (.cons rfl (.nil _)) ?_
                cases hS
                exact ke_ret1 Tryd.func7 rfl rfl ⟨_, rfl, rfl, hb⟩
              · replace hS := ite_false' hS hc73
                refine ke_skip ?_
                refine ke_seq ?_
                refine ke_region_q Tryd.mixed (by kernel_rfl) ?_
                refine sq_ev (v := .pointer (some ⟨g1, 0, none⟩)) (fun w1 hw1 => ev_fieldAddr (i := 0) Tryd.underlying29 rfl Tryd.info9 rfl rfl) (by decide) ?_
                refine sq_ev (v := str x_0.Secret) (fun w1 hw1 => ev_load Tryd.isAgg9 rfl ((hH.below hw1).cell (i := 0) rfl rfl)) (by decide) ?_
                refine sq_ev (v := .pointer (some ⟨g1, 4, none⟩)) (fun w1 hw1 => ev_fieldAddr (i := 4) Tryd.underlying29 rfl Tryd.info3 rfl rfl) (by decide) ?_
                refine sq_ev (v := .int .i64 x_0.Now) (fun w1 hw1 => ev_load Tryd.isAgg3 rfl ((hH.below hw1).cell (i := 0) rfl rfl)) (by decide) ?_
                obtain ⟨y76, hy77, hS⟩ := bind_some' hS
                refine sq_call (v := .int .i64 y76) (vs := [.int .i64 x_0.Now]) rfl Tryd.call12 rfl (fun w1 hw1 => (otp_Counter_ok _ (hg.below (hb.trans (hw1.mono hb.size))) hy77)) (by decide) ?_
                obtain ⟨y80, hy81, hS⟩ := bind_some' hS
                refine sq_call (v := .tuple #[str y80.1, .int .i64 y80.2]) (vs := [str x_0.Secret, .int .i64 y76]) rfl Tryd.call10 rfl (fun w1 hw1 => (otp_Code_ok _ (hg.below (hb.trans (hw1.mono hb.size))) hy81)) (by decide) ?_
                refine sq_ev (v := .tuple #[str y80.1, .int .i64 y80.2]) (fun w1 hw1 => ev_move rfl) (by decide) ?_
                refine sq_ev (v := str y80.1) (fun w1 hw1 => ev_extract rfl rfl) (by decide) ?_
                refine sq_ev (v := .int .i64 y80.2) (fun w1 hw1 => ev_extract rfl rfl) (by decide) ?_
                refine sq_ev (v := str y80.1) (fun w1 hw1 => ev_assign rfl) (by decide) ?_
                refine sq_ev (v := .int .i64 y80.2) (fun w1 hw1 => ev_assign rfl) (by decide) ?_
                refine sq_end (l' := [(1, .pointer (some ⟨g1, 0, none⟩)), (12, str y80.1), (13, .int .i64 y80.2)]) (.cons rfl (.cons rfl (.cons rfl (.nil _)))) (fun w75 hw74 => ?_)
                replace hb := hb.trans (hw74.mono hb.size)
                replace hA := lt_mono hA hw74.size
                replace hH := hH.below hw74
                refine ke_seq ?_
                refine ke_seq ?_
                refine ke_region_q Tryd.mixed (by kernel_rfl) ?_
                refine sq_ev (v := .int .i64 y80.2) (fun w1 hw1 => ev_move rfl) (by decide) ?_
                refine sq_ev (v := .bool (y80.2 != 0)) (fun w1 hw1 => ev_ne rfl rfl) (by decide) ?_
                refine sq_ev (v := .bool (y80.2 != 0)) (fun w1 hw1 => ev_move rfl) (by decide) ?_
                refine sq_join (m := 4) (C := fun (x : Bool) => x = ((y80.2 != 0) || (decide (x_0.Last < (-1))))) (l' := fun x => [(1, .pointer (some ⟨g1, 0, none⟩)), (12, str y80.1), (117, .bool x)]) ?_ ?_
                · rintro _ rfl
                  refine sq_ev (v := .bool ((y80.2 != 0) || (decide (x_0.Last < (-1))))) (fun w1 hw1 => ev_move rfl) (by decide) ?_
                  obtain ⟨z95, hz97, hS⟩ := bind_some' hS
                  refine sq_join (m := 7) (C := fun (x : Bool) => z95 = x) (l' := fun x => [(1, .pointer (some ⟨g1, 0, none⟩)), (12, str y80.1), (125, .bool x)]) ?_ ?_
                  · rintro _ rfl
                    refine sq_end (l' := [(1, .pointer (some ⟨g1, 0, none⟩)), (12, str y80.1), (125, .bool z95)]) (.cons rfl (.cons rfl (.cons rfl (.nil _)))) (fun w85 hw84 => ?_)
                    replace hb := hb.trans (hw84.mono hb.size)
                    replace hA := lt_mono hA hw84.size
                    replace hH := hH.below hw84
                    refine ke_cond (t := z95) rfl (fun hc104 => ?_) (fun hc104 => ?_)
                    · replace hS := ite_true' hS hc104
                      refine ke_seq ?_
                      refine ke_region ?_
                      obtain ⟨y105, hy106, hS⟩ := bind_some' hS
                      refine sr_call (vs := []) rfl Tryd.call9 rfl (law23_alive_ok _ (hg.below hb) hy106) (by decide) ?_
                      rintro _ w107 ⟨rfl, hbw108⟩
                      replace hb := hb.trans (hbw108.mono hb.size)
                      replace hA := lt_mono hA hbw108.size
                      replace hH := hH.below hbw108
                      refine sr_ev (v := .bool y105) (ev_assign rfl) (by decide) ?_
                      refine sr_end (l' := [(2, .bool y105)]) (.cons rfl (.nil _)) ?_
                      cases hS
                      exact ke_ret1 Tryd.func7 rfl rfl ⟨_, rfl, rfl, hb⟩
                    · replace hS := ite_false' hS hc104
                      refine ke_skip ?_
                      refine ke_seq ?_
                      refine ke_region ?_
                      refine sr_ev (v := .pointer (some ⟨g1, 0, none⟩)) (ev_fieldAddr (i := 0) Tryd.underlying29 rfl Tryd.info9 rfl rfl) (by decide) ?_
                      refine sr_ev (v := str x_0.Secret) (ev_load Tryd.isAgg9 rfl (hH.cell (i := 0) rfl rfl)) (by decide) ?_
                      refine sr_ev (v := .pointer (some ⟨g1, 2, none⟩)) (ev_fieldAddr (i := 2) Tryd.underlying29 rfl Tryd.info3 rfl rfl) (by decide) ?_
                      refine sr_ev (v := .int .i64 x_0.Last) (ev_load Tryd.isAgg3 rfl (hH.cell (i := 0) rfl rfl)) (by decide) ?_
                      refine sr_ev (v := .pointer (some ⟨g1, 4, none⟩)) (ev_fieldAddr (i := 4) Tryd.underlying29 rfl Tryd.info3 rfl rfl) (by decide) ?_
                      refine sr_ev (v := .int .i64 x_0.Now) (ev_load Tryd.isAgg3 rfl (hH.cell (i := 0) rfl rfl)) (by decide) ?_
                      refine sr_ev (v := str y80.1) (ev_move rfl) (by decide) ?_
                      obtain ⟨y109, hy110, hS⟩ := bind_some' hS
                      refine sr_call (vs := [str x_0.Secret, .int .i64 x_0.Last, .int .i64 x_0.Now, .int .i64 0, str y80.1]) rfl Tryd.call18 rfl (otp_VerifyAt_ok _ (hg.below hb) hy110) (by decide) ?_
                      rintro _ w111 ⟨rfl, hbw112⟩
                      replace hb := hb.trans (hbw112.mono hb.size)
                      replace hA := lt_mono hA hbw112.size
                      replace hH := hH.below hbw112
                      refine sr_ev (v := .tuple #[.int .i64 y109.1, .int .i64 y109.2]) (ev_move rfl) (by decide) ?_
                      refine sr_ev (v := .int .i64 y109.1) (ev_extract rfl rfl) (by decide) ?_
                      refine sr_ev (v := .int .i64 y109.2) (ev_extract rfl rfl) (by decide) ?_
                      refine sr_ev (v := .int .i64 y109.1) (ev_assign rfl) (by decide) ?_
                      refine sr_ev (v := .int .i64 y109.2) (ev_assign rfl) (by decide) ?_
                      refine sr_end (l' := [(1, .pointer (some ⟨g1, 0, none⟩)), (15, .int .i64 y109.2)]) (.cons rfl (.cons rfl (.nil _))) ?_
                      refine ke_seq ?_
                      refine ke_region ?_
                      refine sr_ev (v := .pointer (some ⟨g1, 4, none⟩)) (ev_fieldAddr (i := 4) Tryd.underlying29 rfl Tryd.info3 rfl rfl) (by decide) ?_
                      refine sr_ev (v := .int .i64 x_0.Now) (ev_load Tryd.isAgg3 rfl (hH.cell (i := 0) rfl rfl)) (by decide) ?_
                      obtain ⟨y113, hy114, hS⟩ := bind_some' hS
                      refine sr_call (vs := [.int .i64 x_0.Now, .int .i64 30]) rfl Tryd.call26 rfl (clock_Add_ok _ (hg.below hb) hy114) (by decide) ?_
                      rintro _ w115 ⟨rfl, hbw116⟩
                      replace hb := hb.trans (hbw116.mono hb.size)
                      replace hA := lt_mono hA hbw116.size
                      replace hH := hH.below hbw116
                      refine sr_ev (v := .int .i64 y113) (ev_assign rfl) (by decide) ?_
                      refine sr_end (l' := [(1, .pointer (some ⟨g1, 0, none⟩)), (15, .int .i64 y109.2), (16, .int .i64 y113)]) (.cons rfl (.cons rfl (.cons rfl (.nil _)))) ?_
                      refine ke_seq ?_
                      refine ke_region_q Tryd.mixed (by kernel_rfl) ?_
                      refine sq_ev (v := .int .i64 y109.2) (fun w1 hw1 => ev_move rfl) (by decide) ?_
                      refine sq_ev (v := .bool (y109.2 == 0)) (fun w1 hw1 => ev_eq rfl rfl) (by decide) ?_
                      refine sq_ev (v := .bool (y109.2 == 0)) (fun w1 hw1 => ev_move rfl) (by decide) ?_
                      obtain ⟨z121, hz123, hS⟩ := bind_some' hS
                      refine sq_join (m := 16) (C := fun (x : Bool) => z121 = x) (l' := fun x => [(159, .bool x)]) ?_ ?_
                      · rintro _ rfl
                        refine sq_ev (v := .bool z121) (fun w1 hw1 => ev_move rfl) (by decide) ?_
                        obtain ⟨z147, hz149, hS⟩ := bind_some' hS
                        refine sq_join (m := 2) (C := fun (x : Bool) => z147 = x) (l' := fun x => [(162, .bool x)]) ?_ ?_
                        · rintro _ rfl
                          refine sq_ev (v := .bool z147) (fun w1 hw1 => ev_assign rfl) (by decide) ?_
                          refine sq_end (l' := [(2, .bool z147)]) (.cons rfl (.nil _)) (fun w118 hw117 => ?_)
                          replace hb := hb.trans (hw117.mono hb.size)
                          replace hA := lt_mono hA hw117.size
                          replace hH := hH.below hw117
                          cases hS
                          exact ke_ret1 Tryd.func7 rfl rfl ⟨_, rfl, rfl, hb⟩
                        · intro K146
                          clear hS
                          rcases Bool.eq_false_or_eq_true z121 with hg145 | hg145
                          · have hS := ite_true' hz149 hg145
                            obtain ⟨y152, hy153, hS⟩ := bind_some' hS
                            refine sq_callg (b := true) (e := 160) rfl rfl hg145 (v := .bool y152) (vs := []) rfl Tryd.call9 rfl (fun w1 hw1 => (law23_alive_ok _ (hg.below (hb.trans (hw1.mono hb.size))) hy153)) (by decide) ?_
                            refine sq_ev (v := .bool y152) (fun w1 hw1 => ev_pick_t rfl hg145 rfl) (by decide) ?_
                            exact sq_weaken (l' := [(162, .bool y152)]) (.cons rfl (.nil _)) (K146 y152 (Option.some.inj hS).symm)
                          · have hS := ite_false' hz149 hg145
                            refine sq_pass (e := 160) rfl rfl (by rw [hg145]; rfl) (by decide) ?_
                            refine sq_ev (v := .bool false) (fun w1 hw1 => ev_pick_f rfl hg145 rfl) (by decide) ?_
                            exact sq_weaken (l' := [(162, .bool false)]) (.cons rfl (.nil _)) (K146 false (Option.some.inj hS).symm)
                      · intro K120
                        clear hS
                        rcases Bool.eq_false_or_eq_true (y109.2 == 0) with hg119 | hg119
                        · have hS := ite_true' hz123 hg119
                          refine sq_evg (b := true) (e := 143) rfl rfl hg119 (v := .int .i64 y113) (fun w1 hw1 => ev_move rfl) (by decide) ?_
                          refine sq_evg (b := true) (e := 143) rfl rfl hg119 (v := .pointer (some ⟨g1, 4, none⟩)) (fun w1 hw1 => ev_fieldAddr (i := 4) Tryd.underlying29 rfl Tryd.info3 rfl rfl) (by decide) ?_
                          refine sq_evg (b := true) (e := 143) rfl rfl hg119 (v := .int .i64 x_0.Now) (fun w1 hw1 => ev_load Tryd.isAgg3 rfl ((hH.below hw1).cell (i := 0) rfl rfl)) (by decide) ?_
                          obtain ⟨y126, hy127, hS⟩ := bind_some' hS
                          refine sq_callg (b := true) (e := 143) rfl rfl hg119 (v := .int .i64 y126) (vs := [.int .i64 x_0.Now, .int .i64 0]) rfl Tryd.call26 rfl (fun w1 hw1 => (clock_Add_ok _ (hg.below (hb.trans (hw1.mono hb.size))) hy127)) (by decide) ?_
                          refine sq_evg (b := true) (e := 143) rfl rfl hg119 (v := .int .i64 (IntKind.i64.wrap (y113 - y126))) (fun w1 hw1 => ev_sub rfl rfl) (by decide) ?_
                          refine sq_evg (b := true) (e := 143) rfl rfl hg119 (v := .bool (decide ((IntKind.i64.wrap (y113 - y126)) < 30))) (fun w1 hw1 => ev_lt rfl rfl) (by decide) ?_
                          refine sq_evg (b := true) (e := 143) rfl rfl hg119 (v := .bool (decide ((IntKind.i64.wrap (y113 - y126)) < 30))) (fun w1 hw1 => ev_move rfl) (by decide) ?_
                          obtain ⟨z132, hz134, hS⟩ := bind_some' hS
                          refine sq_join (m := 8) (C := fun (x : Bool) => z132 = x) (l' := fun x => [(143, .bool (y109.2 == 0)), (158, .bool x)]) ?_ ?_
                          · rintro _ rfl
                            refine sq_ev (v := .bool z132) (fun w1 hw1 => ev_pick_t rfl hg119 rfl) (by decide) ?_
                            exact sq_weaken (l' := [(159, .bool z132)]) (.cons rfl (.nil _)) (K120 z132 (Option.some.inj hS).symm)
                          · intro K131
                            clear hS
                            rcases Bool.eq_false_or_eq_true (decide ((IntKind.i64.wrap (y113 - y126)) < 30)) with hg130 | hg130
                            · have hS := ite_true' hz134 hg130
                              refine sq_pass (e := 150) rfl rfl (by rw [hg130]; rfl) (by decide) ?_
                              refine sq_pass (e := 150) rfl rfl (by rw [hg130]; rfl) (by decide) ?_
                              refine sq_pass (e := 150) rfl rfl (by rw [hg130]; rfl) (by decide) ?_
                              refine sq_pass (e := 150) rfl rfl (by rw [hg130]; rfl) (by decide) ?_
                              refine sq_pass (e := 150) rfl rfl (by rw [hg130]; rfl) (by decide) ?_
                              refine sq_pass (e := 150) rfl rfl (by rw [hg130]; rfl) (by decide) ?_
                              refine sq_pass (e := 150) rfl rfl (by rw [hg130]; rfl) (by decide) ?_
                              refine sq_evg (b := true) (e := 143) rfl rfl hg119 (v := .bool true) (fun w1 hw1 => ev_pick_t rfl hg130 rfl) (by decide) ?_
                              exact sq_weaken (l' := [(143, .bool (y109.2 == 0)), (158, .bool true)]) (.cons rfl (.cons rfl (.nil _))) (K131 true (Option.some.inj hS).symm)
                            · have hS := ite_false' hz134 hg130
                              refine sq_evg (b := false) (e := 150) rfl rfl hg130 (v := .int .i64 y113) (fun w1 hw1 => ev_move rfl) (by decide) ?_
                              obtain ⟨y137, hy138, hS⟩ := bind_some' hS
                              refine sq_callg (b := false) (e := 150) rfl rfl hg130 (v := .int .i64 y137) (vs := [.int .i64 y113]) rfl Tryd.call12 rfl (fun w1 hw1 => (otp_Counter_ok _ (hg.below (hb.trans (hw1.mono hb.size))) hy138)) (by decide) ?_
                              refine sq_evg (b := false) (e := 150) rfl rfl hg130 (v := .pointer (some ⟨g1, 4, none⟩)) (fun w1 hw1 => ev_fieldAddr (i := 4) Tryd.underlying29 rfl Tryd.info3 rfl rfl) (by decide) ?_
                              refine sq_evg (b := false) (e := 150) rfl rfl hg130 (v := .int .i64 x_0.Now) (fun w1 hw1 => ev_load Tryd.isAgg3 rfl ((hH.below hw1).cell (i := 0) rfl rfl)) (by decide) ?_
                              obtain ⟨y141, hy142, hS⟩ := bind_some' hS
                              refine sq_callg (b := false) (e := 150) rfl rfl hg130 (v := .int .i64 y141) (vs := [.int .i64 x_0.Now]) rfl Tryd.call12 rfl (fun w1 hw1 => (otp_Counter_ok _ (hg.below (hb.trans (hw1.mono hb.size))) hy142)) (by decide) ?_
                              refine sq_evg (b := false) (e := 150) rfl rfl hg130 (v := .int .i64 (IntKind.i64.wrap (y141 + 1))) (fun w1 hw1 => ev_add rfl rfl) (by decide) ?_
                              refine sq_evg (b := false) (e := 150) rfl rfl hg130 (v := .bool (y137 == (IntKind.i64.wrap (y141 + 1)))) (fun w1 hw1 => ev_eq rfl rfl) (by decide) ?_
                              refine sq_evg (b := true) (e := 143) rfl rfl hg119 (v := .bool (y137 == (IntKind.i64.wrap (y141 + 1)))) (fun w1 hw1 => ev_pick_f rfl hg130 rfl) (by decide) ?_
                              exact sq_weaken (l' := [(143, .bool (y109.2 == 0)), (158, .bool (y137 == (IntKind.i64.wrap (y141 + 1))))]) (.cons rfl (.cons rfl (.nil _))) (K131 (y137 == (IntKind.i64.wrap (y141 + 1))) (Option.some.inj hS).symm)
                        · have hS := ite_false' hz123 hg119
                          refine sq_pass (e := 143) rfl rfl (by rw [hg119]; rfl) (by decide) ?_
                          refine sq_pass (e := 143) rfl rfl (by rw [hg119]; rfl) (by decide) ?_
                          refine sq_pass (e := 143) rfl rfl (by rw [hg119]; rfl) (by decide) ?_
                          refine sq_pass (e := 143) rfl rfl (by rw [hg119]; rfl) (by decide) ?_
                          refine sq_pass (e := 143) rfl rfl (by rw [hg119]; rfl) (by decide) ?_
                          refine sq_pass (e := 143) rfl rfl (by rw [hg119]; rfl) (by decide) ?_
                          refine sq_pass (e := 143) rfl rfl (by rw [hg119]; rfl) (by decide) ?_
                          refine sq_pass_undef (e := 150) rfl rfl (by decide) ?_
                          refine sq_pass_undef (e := 150) rfl rfl (by decide) ?_
                          refine sq_pass_undef (e := 150) rfl rfl (by decide) ?_
                          refine sq_pass_undef (e := 150) rfl rfl (by decide) ?_
                          refine sq_pass_undef (e := 150) rfl rfl (by decide) ?_
                          refine sq_pass_undef (e := 150) rfl rfl (by decide) ?_
                          refine sq_pass_undef (e := 150) rfl rfl (by decide) ?_
                          refine sq_pass (e := 143) rfl rfl (by rw [hg119]; rfl) (by decide) ?_
                          refine sq_ev (v := .bool false) (fun w1 hw1 => ev_pick_f rfl hg119 rfl) (by decide) ?_
                          exact sq_weaken (l' := [(159, .bool false)]) (.cons rfl (.nil _)) (K120 false (Option.some.inj hS).symm)
                  · intro K94
                    clear hS
                    rcases Bool.eq_false_or_eq_true ((y80.2 != 0) || (decide (x_0.Last < (-1)))) with hg93 | hg93
                    · have hS := ite_true' hz97 hg93
                      refine sq_pass (e := 118) rfl rfl (by rw [hg93]; rfl) (by decide) ?_
                      refine sq_pass (e := 118) rfl rfl (by rw [hg93]; rfl) (by decide) ?_
                      refine sq_pass (e := 118) rfl rfl (by rw [hg93]; rfl) (by decide) ?_
                      refine sq_pass (e := 118) rfl rfl (by rw [hg93]; rfl) (by decide) ?_
                      refine sq_pass (e := 118) rfl rfl (by rw [hg93]; rfl) (by decide) ?_
                      refine sq_pass (e := 118) rfl rfl (by rw [hg93]; rfl) (by decide) ?_
                      refine sq_ev (v := .bool true) (fun w1 hw1 => ev_pick_t rfl hg93 rfl) (by decide) ?_
                      exact sq_weaken (l' := [(1, .pointer (some ⟨g1, 0, none⟩)), (12, str y80.1), (125, .bool true)]) (.cons rfl (.cons rfl (.cons rfl (.nil _)))) (K94 true (Option.some.inj hS).symm)
                    · have hS := ite_false' hz97 hg93
                      refine sq_evg (b := false) (e := 118) rfl rfl hg93 (v := .pointer (some ⟨g1, 2, none⟩)) (fun w1 hw1 => ev_fieldAddr (i := 2) Tryd.underlying29 rfl Tryd.info3 rfl rfl) (by decide) ?_
                      refine sq_evg (b := false) (e := 118) rfl rfl hg93 (v := .int .i64 x_0.Last) (fun w1 hw1 => ev_load Tryd.isAgg3 rfl ((hH.below hw1).cell (i := 0) rfl rfl)) (by decide) ?_
                      refine sq_evg (b := false) (e := 118) rfl rfl hg93 (v := .pointer (some ⟨g1, 4, none⟩)) (fun w1 hw1 => ev_fieldAddr (i := 4) Tryd.underlying29 rfl Tryd.info3 rfl rfl) (by decide) ?_
                      refine sq_evg (b := false) (e := 118) rfl rfl hg93 (v := .int .i64 x_0.Now) (fun w1 hw1 => ev_load Tryd.isAgg3 rfl ((hH.below hw1).cell (i := 0) rfl rfl)) (by decide) ?_
                      obtain ⟨y100, hy101, hS⟩ := bind_some' hS
                      refine sq_callg (b := false) (e := 118) rfl rfl hg93 (v := .int .i64 y100) (vs := [.int .i64 x_0.Now]) rfl Tryd.call12 rfl (fun w1 hw1 => (otp_Counter_ok _ (hg.below (hb.trans (hw1.mono hb.size))) hy101)) (by decide) ?_
                      refine sq_evg (b := false) (e := 118) rfl rfl hg93 (v := .bool (decide (x_0.Last ≥ y100))) (fun w1 hw1 => ev_ge rfl rfl) (by decide) ?_
                      refine sq_ev (v := .bool (decide (x_0.Last ≥ y100))) (fun w1 hw1 => ev_pick_f rfl hg93 rfl) (by decide) ?_
                      exact sq_weaken (l' := [(1, .pointer (some ⟨g1, 0, none⟩)), (12, str y80.1), (125, .bool (decide (x_0.Last ≥ y100)))]) (.cons rfl (.cons rfl (.cons rfl (.nil _)))) (K94 (decide (x_0.Last ≥ y100)) (Option.some.inj hS).symm)
                · intro K87
                  rcases Bool.eq_false_or_eq_true (y80.2 != 0) with hg86 | hg86
                  · refine sq_pass (e := 113) rfl rfl (by rw [hg86]; rfl) (by decide) ?_
                    refine sq_pass (e := 113) rfl rfl (by rw [hg86]; rfl) (by decide) ?_
                    refine sq_pass (e := 113) rfl rfl (by rw [hg86]; rfl) (by decide) ?_
                    refine sq_ev (v := .bool true) (fun w1 hw1 => ev_pick_t rfl hg86 rfl) (by decide) ?_
                    exact sq_weaken (l' := [(1, .pointer (some ⟨g1, 0, none⟩)), (12, str y80.1), (117, .bool true)]) (.cons rfl (.cons rfl (.cons rfl (.nil _)))) (K87 true (by rw [hg86]; rfl))
                  · refine sq_evg (b := false) (e := 113) rfl rfl hg86 (v := .pointer (some ⟨g1, 2, none⟩)) (fun w1 hw1 => ev_fieldAddr (i := 2) Tryd.underlying29 rfl Tryd.info3 rfl rfl) (by decide) ?_
                    refine sq_evg (b := false) (e := 113) rfl rfl hg86 (v := .int .i64 x_0.Last) (fun w1 hw1 => ev_load Tryd.isAgg3 rfl ((hH.below hw1).cell (i := 0) rfl rfl)) (by decide) ?_
                    refine sq_evg (b := false) (e := 113) rfl rfl hg86 (v := .bool (decide (x_0.Last < (-1)))) (fun w1 hw1 => ev_lt rfl rfl) (by decide) ?_
                    refine sq_ev (v := .bool (decide (x_0.Last < (-1)))) (fun w1 hw1 => ev_pick_f rfl hg86 rfl) (by decide) ?_
                    exact sq_weaken (l' := [(1, .pointer (some ⟨g1, 0, none⟩)), (12, str y80.1), (117, .bool (decide (x_0.Last < (-1))))]) (.cons rfl (.cons rfl (.cons rfl (.nil _)))) (K87 (decide (x_0.Last < (-1))) (by rw [hg86]; rfl))
            · intro K67
              rcases Bool.eq_false_or_eq_true (y58.2 == 0) with hg66 | hg66
              · refine sr_evg (b := true) (e := 98) rfl rfl hg66 (v := .int .i64 y62.2) (ev_move rfl) (by decide) ?_
                refine sr_evg (b := true) (e := 98) rfl rfl hg66 (v := .bool (y62.2 != 0)) (ev_ne rfl rfl) (by decide) ?_
                refine sr_ev (v := .bool (y62.2 != 0)) (ev_pick_t rfl hg66 rfl) (by decide) ?_
                exact sr_weaken (l' := [(1, .pointer (some ⟨g1, 0, none⟩)), (101, .bool (y62.2 != 0))]) (.cons rfl (.cons rfl (.nil _))) (K67 (y62.2 != 0) _ ⟨by rw [hg66]; rfl, rfl⟩)
              · refine sr_pass (e := 98) rfl rfl (by rw [hg66]; rfl) (by decide) ?_
                refine sr_pass (e := 98) rfl rfl (by rw [hg66]; rfl) (by decide) ?_
                refine sr_ev (v := .bool false) (ev_pick_f rfl hg66 rfl) (by decide) ?_
                exact sr_weaken (l' := [(1, .pointer (some ⟨g1, 0, none⟩)), (101, .bool false)]) (.cons rfl (.cons rfl (.nil _))) (K67 false _ ⟨by rw [hg66]; rfl, rfl⟩)
        · intro K44
          rcases Bool.eq_false_or_eq_true (y35.2 == 0) with hg43 | hg43
          · refine sr_evg (b := true) (e := 58) rfl rfl hg43 (v := .int .i64 y39.2) (ev_move rfl) (by decide) ?_
            refine sr_evg (b := true) (e := 58) rfl rfl hg43 (v := .bool (y39.2 != 0)) (ev_ne rfl rfl) (by decide) ?_
            refine sr_evg (b := true) (e := 58) rfl rfl hg43 (v := .bool (y39.2 != 0)) (ev_move rfl) (by decide) ?_
            refine sr_join (m := 4) (C := fun (x : Bool) w1 => x = ((y39.2 != 0) || (y35.1 != y39.1)) ∧ w41 = w1) (l' := fun x => [(1, .pointer (some ⟨g1, 0, none⟩)), (3, str y31), (58, .bool (y35.2 == 0)), (65, .bool x)]) ?_ ?_
            · rintro _ _ ⟨rfl, rfl⟩
              refine sr_ev (v := .bool ((y39.2 != 0) || (y35.1 != y39.1))) (ev_pick_t rfl hg43 rfl) (by decide) ?_
              exact sr_weaken (l' := [(1, .pointer (some ⟨g1, 0, none⟩)), (3, str y31), (66, .bool ((y39.2 != 0) || (y35.1 != y39.1)))]) (.cons rfl (.cons rfl (.cons rfl (.nil _)))) (K44 ((y39.2 != 0) || (y35.1 != y39.1)) _ ⟨by rw [hg43]; rfl, rfl⟩)
            · intro K51
              rcases Bool.eq_false_or_eq_true (y39.2 != 0) with hg50 | hg50
              · refine sr_pass (e := 61) rfl rfl (by rw [hg50]; rfl) (by decide) ?_
                refine sr_pass (e := 61) rfl rfl (by rw [hg50]; rfl) (by decide) ?_
                refine sr_pass (e := 61) rfl rfl (by rw [hg50]; rfl) (by decide) ?_
                refine sr_evg (b := true) (e := 58) rfl rfl hg43 (v := .bool true) (ev_pick_t rfl hg50 rfl) (by decide) ?_
                exact sr_weaken (l' := [(1, .pointer (some ⟨g1, 0, none⟩)), (3, str y31), (58, .bool (y35.2 == 0)), (65, .bool true)]) (.cons rfl (.cons rfl (.cons rfl (.cons rfl (.nil _))))) (K51 true _ ⟨by rw [hg50]; rfl, rfl⟩)
              · refine sr_evg (b := false) (e := 61) rfl rfl hg50 (v := .int .i64 y35.1) (ev_move rfl) (by decide) ?_
                refine sr_evg (b := false) (e := 61) rfl rfl hg50 (v := .int .i64 y39.1) (ev_move rfl) (by decide) ?_
                refine sr_evg (b := false) (e := 61) rfl rfl hg50 (v := .bool (y35.1 != y39.1)) (ev_ne rfl rfl) (by decide) ?_
                refine sr_evg (b := true) (e := 58) rfl rfl hg43 (v := .bool (y35.1 != y39.1)) (ev_pick_f rfl hg50 rfl) (by decide) ?_
                exact sr_weaken (l' := [(1, .pointer (some ⟨g1, 0, none⟩)), (3, str y31), (58, .bool (y35.2 == 0)), (65, .bool (y35.1 != y39.1))]) (.cons rfl (.cons rfl (.cons rfl (.cons rfl (.nil _))))) (K51 (y35.1 != y39.1) _ ⟨by rw [hg50]; rfl, rfl⟩)
          · refine sr_pass (e := 58) rfl rfl (by rw [hg43]; rfl) (by decide) ?_
            refine sr_pass (e := 58) rfl rfl (by rw [hg43]; rfl) (by decide) ?_
            refine sr_pass (e := 58) rfl rfl (by rw [hg43]; rfl) (by decide) ?_
            refine sr_pass_undef (e := 61) rfl rfl (by decide) ?_
            refine sr_pass_undef (e := 61) rfl rfl (by decide) ?_
            refine sr_pass_undef (e := 61) rfl rfl (by decide) ?_
            refine sr_pass (e := 58) rfl rfl (by rw [hg43]; rfl) (by decide) ?_
            refine sr_ev (v := .bool false) (ev_pick_f rfl hg43 rfl) (by decide) ?_
            exact sr_weaken (l' := [(1, .pointer (some ⟨g1, 0, none⟩)), (3, str y31), (66, .bool false)]) (.cons rfl (.cons rfl (.cons rfl (.nil _)))) (K44 false _ ⟨by rw [hg43]; rfl, rfl⟩)
    · intro K20
      rcases Bool.eq_false_or_eq_true ((!y8) || (decide (x_0.Look < 0))) with hg19 | hg19
      · refine sr_pass (e := 25) rfl rfl (by rw [hg19]; rfl) (by decide) ?_
        refine sr_pass (e := 25) rfl rfl (by rw [hg19]; rfl) (by decide) ?_
        refine sr_pass (e := 25) rfl rfl (by rw [hg19]; rfl) (by decide) ?_
        refine sr_ev (v := .bool true) (ev_pick_t rfl hg19 rfl) (by decide) ?_
        exact sr_weaken (l' := [(1, .pointer (some ⟨g1, 0, none⟩)), (29, .bool true)]) (.cons rfl (.cons rfl (.nil _))) (K20 true _ ⟨by rw [hg19]; rfl, rfl⟩)
      · refine sr_evg (b := false) (e := 25) rfl rfl hg19 (v := .pointer (some ⟨g1, 3, none⟩)) (ev_fieldAddr (i := 3) Tryd.underlying29 rfl Tryd.info3 rfl rfl) (by decide) ?_
        refine sr_evg (b := false) (e := 25) rfl rfl hg19 (v := .int .i64 x_0.Look) (ev_load Tryd.isAgg3 rfl (hH.cell (i := 0) rfl rfl)) (by decide) ?_
        refine sr_evg (b := false) (e := 25) rfl rfl hg19 (v := .bool (decide (x_0.Look > 15))) (ev_gt rfl rfl) (by decide) ?_
        refine sr_ev (v := .bool (decide (x_0.Look > 15))) (ev_pick_f rfl hg19 rfl) (by decide) ?_
        exact sr_weaken (l' := [(1, .pointer (some ⟨g1, 0, none⟩)), (29, .bool (decide (x_0.Look > 15)))]) (.cons rfl (.cons rfl (.nil _))) (K20 (decide (x_0.Look > 15)) _ ⟨by rw [hg19]; rfl, rfl⟩)
  · intro K13
    rcases Bool.eq_false_or_eq_true (!y8) with hg12 | hg12
    · refine sr_pass (e := 20) rfl rfl (by rw [hg12]; rfl) (by decide) ?_
      refine sr_pass (e := 20) rfl rfl (by rw [hg12]; rfl) (by decide) ?_
      refine sr_pass (e := 20) rfl rfl (by rw [hg12]; rfl) (by decide) ?_
      refine sr_ev (v := .bool true) (ev_pick_t rfl hg12 rfl) (by decide) ?_
      exact sr_weaken (l' := [(1, .pointer (some ⟨g1, 0, none⟩)), (24, .bool true)]) (.cons rfl (.cons rfl (.nil _))) (K13 true _ ⟨by rw [hg12]; rfl, rfl⟩)
    · refine sr_evg (b := false) (e := 20) rfl rfl hg12 (v := .pointer (some ⟨g1, 3, none⟩)) (ev_fieldAddr (i := 3) Tryd.underlying29 rfl Tryd.info3 rfl rfl) (by decide) ?_
      refine sr_evg (b := false) (e := 20) rfl rfl hg12 (v := .int .i64 x_0.Look) (ev_load Tryd.isAgg3 rfl (hH.cell (i := 0) rfl rfl)) (by decide) ?_
      refine sr_evg (b := false) (e := 20) rfl rfl hg12 (v := .bool (decide (x_0.Look < 0))) (ev_lt rfl rfl) (by decide) ?_
      refine sr_ev (v := .bool (decide (x_0.Look < 0))) (ev_pick_f rfl hg12 rfl) (by decide) ?_
      exact sr_weaken (l' := [(1, .pointer (some ⟨g1, 0, none⟩)), (24, .bool (decide (x_0.Look < 0)))]) (.cons rfl (.cons rfl (.nil _))) (K13 (decide (x_0.Look < 0)) _ ⟨by rw [hg12]; rfl, rfl⟩)
theorem law23_count_B2_ok {w0 : World} (hg : Gs w0) {A0 : Nat → Prop} (hA0 : ∀ b, A0 b → b < w0.heap.size) (r0 : List Str → Str → Int → Int → Option (Int))
    (hr0 : ∀ {r : Int} {l_0 : List Str} {s_1 : Str} {n_5 : Int} {i_6 : Int} {vl_0 : Value}, r0 l_0 s_1 n_5 i_6 = some r → ∀ {w : World} {A : Nat → Prop}, (Below w0.heap.size w0 w) → (∀ b, A b → b < w.heap.size) → (∀ b, A0 b → A b) → (Hp A w0.heap.size w []) → (SlR strC A w vl_0 l_0) → KE Tryd.prog 28 (Ret (fun v w' => v = .int .i64 r ∧ Below w0.heap.size w0 w')) 22 [.inLoop (sub (bodyOf Tryd.f28) [2, 2, 1, 2, 2, 1]), .inBlock 0, .code (sub (bodyOf Tryd.f28) [2, 2, 2])] [(0, vl_0), (1, str s_1), (5, .int .i64 n_5), (6, .int .i64 i_6)] w) {r : Int} {l_0 : List Str} {s_1 : Str} {n_5 : Int} {i_6 : Int} {vl_0 : Value} (hS : law23_count_B2 r0 l_0 s_1 n_5 i_6 = some r) {w : World} {A : Nat → Prop} (hb : Below w0.heap.size w0 w) (hA : ∀ b, A b → b < w.heap.size) (hi : ∀ b, A0 b → A b) (hH : Hp A w0.heap.size w []) (hl_0 : SlR strC A w vl_0 l_0) :
    KE Tryd.prog 28 (Ret (fun v w' => v = .int .i64 r ∧ Below w0.heap.size w0 w')) 22 [.inBlock 1, .code (sub (bodyOf Tryd.f28) [2, 2, 1, 2, 2, 1, 2, 2]), .inLoop (sub (bodyOf Tryd.f28) [2, 2, 1, 2, 2, 1]), .inBlock 0, .code (sub (bodyOf Tryd.f28) [2, 2, 2])] [(0, vl_0), (1, str s_1), (5, .int .i64 n_5), (6, .int .i64 i_6)] w := by
  unfold law23_count_B2 at hS
  refine ke_inBlock ?_
  refine ke_region ?_
  refine sr_ev (v := .int .i64 i_6) (ev_move rfl) (by decide) ?_
  refine sr_ev (v := .int .i64 (IntKind.i64.wrap (i_6 + 1))) (ev_add rfl rfl) (by decide) ?_
  refine sr_ev (v := .int .i64 (IntKind.i64.wrap (i_6 + 1))) (ev_assign rfl) (by decide) ?_
  refine sr_end (l' := [(0, vl_0), (1, str s_1), (5, .int .i64 n_5), (6, .int .i64 (IntKind.i64.wrap (i_6 + 1)))]) (.cons rfl (.cons rfl (.cons rfl (.cons rfl (.nil _))))) ?_
  have hK := hr0 hS hb hA hi hH hl_0
  exact ke_weaken (l' := [(0, vl_0), (1, str s_1), (5, .int .i64 n_5), (6, .int .i64 (IntKind.i64.wrap (i_6 + 1)))]) (.cons rfl (.cons rfl (.cons rfl (.cons rfl (.nil _))))) hK
theorem law23_count_L1_ok {w0 : World} (hg : Gs w0) {A0 : Nat → Prop} (hA0 : ∀ b, A0 b → b < w0.heap.size) : ∀ (n : Nat), ∀ {r : Int} {l_0 : List Str} {s_1 : Str} {n_5 : Int} {i_6 : Int} {vl_0 : Value}, law23_count_L1 n l_0 s_1 n_5 i_6 = some r → ∀ {w : World} {A : Nat → Prop}, (Below w0.heap.size w0 w) → (∀ b, A b → b < w.heap.size) → (∀ b, A0 b → A b) → (Hp A w0.heap.size w []) → (SlR strC A w vl_0 l_0) → KE Tryd.prog 28 (Ret (fun v w' => v = .int .i64 r ∧ Below w0.heap.size w0 w')) 22 [.code (sub (bodyOf Tryd.f28) [2, 2, 1, 2, 2, 1]), .inLoop (sub (bodyOf Tryd.f28) [2, 2, 1, 2, 2, 1]), .inBlock 0, .code (sub (bodyOf Tryd.f28) [2, 2, 2])] [(0, vl_0), (1, str s_1), (5, .int .i64 n_5), (6, .int .i64 i_6)] w := by
  intro n
  induction n with
  | zero => intro r l_0 s_1 n_5 i_6 vl_0 hS; cases hS
  | succ n ih =>
    have hr0 : ∀ {r : Int} {l_0 : List Str} {s_1 : Str} {n_5 : Int} {i_6 : Int} {vl_0 : Value}, law23_count_L1 n l_0 s_1 n_5 i_6 = some r → ∀ {w : World} {A : Nat → Prop}, (Below w0.heap.size w0 w) → (∀ b, A b → b < w.heap.size) → (∀ b, A0 b → A b) → (Hp A w0.heap.size w []) → (SlR strC A w vl_0 l_0) → KE Tryd.prog 28 (Ret (fun v w' => v = .int .i64 r ∧ Below w0.heap.size w0 w')) 22 [.inLoop (sub (bodyOf Tryd.f28) [2, 2, 1, 2, 2, 1]), .inBlock 0, .code (sub (bodyOf Tryd.f28) [2, 2, 2])] [(0, vl_0), (1, str s_1), (5, .int .i64 n_5), (6, .int .i64 i_6)] w := fun {r} {l_0} {s_1} {n_5} {i_6} {vl_0} hS {w} {A} hb hA hi hH hl_0 => ke_inLoop (ih hS hb hA hi hH hl_0)
    clear ih
    intro r l_0 s_1 n_5 i_6 vl_0 hS w A hb hA hi hH hl_0
    unfold law23_count_L1 at hS
    refine ke_seq ?_
    refine ke_seq ?_
    refine ke_region ?_
    refine sr_ev (v := .int .i64 i_6) (ev_move rfl) (by decide) ?_
    refine sr_ev (v := vl_0) (ev_move rfl) (by decide) ?_
    refine sr_ev (v := .int .i64 (l_0.length : Int)) (ev_sllen Tryd.underlying35 rfl hl_0) (by decide) ?_
    refine sr_ev (v := .bool (decide (i_6 < (l_0.length : Int)))) (ev_lt rfl rfl) (by decide) ?_
    refine sr_end (l' := [(0, vl_0), (1, str s_1), (5, .int .i64 n_5), (6, .int .i64 i_6), (10, .bool (decide (i_6 < (l_0.length : Int))))]) (.cons rfl (.cons rfl (.cons rfl (.cons rfl (.cons rfl (.nil _)))))) ?_
    refine ke_cond (t := decide (i_6 < (l_0.length : Int))) rfl (fun hc3 => ?_) (fun hc3 => ?_)
    · replace hS := ite_true' hS hc3
      refine ke_skip ?_
      refine ke_seq ?_
      refine ke_block ?_
      refine ke_seq ?_
      refine ke_region ?_
      refine sr_ev (v := vl_0) (ev_move rfl) (by decide) ?_
      refine sr_ev (v := .int .i64 i_6) (ev_move rfl) (by decide) ?_
      obtain ⟨y4, hy5, hS⟩ := bind_some' hS
      refine sr_index hl_0 Tryd.underlying35 Tryd.info9 rfl rfl rfl hy5 (by decide) ?_
      intro b6 o7 cs9 he8
      obtain rfl : cs9 = [str y4] := he8.rd
      refine sr_ev (v := str y4) (ev_load Tryd.isAgg9 rfl (he8.cell 0 _ rfl)) (by decide) ?_
      refine sr_ev (v := str s_1) (ev_move rfl) (by decide) ?_
      refine sr_ev (v := .bool (y4 == s_1)) (ev_seq rfl rfl) (by decide) ?_
      refine sr_end (l' := [(0, vl_0), (1, str s_1), (5, .int .i64 n_5), (6, .int .i64 i_6), (18, .bool (y4 == s_1))]) (.cons rfl (.cons rfl (.cons rfl (.cons rfl (.cons rfl (.nil _)))))) ?_
      refine ke_cond (t := y4 == s_1) rfl (fun hc10 => ?_) (fun hc10 => ?_)
      · replace hS := ite_true' hS hc10
        refine ke_region ?_
        refine sr_ev (v := .int .i64 n_5) (ev_move rfl) (by decide) ?_
        refine sr_ev (v := .int .i64 (IntKind.i64.wrap (n_5 + 1))) (ev_add rfl rfl) (by decide) ?_
        refine sr_ev (v := .int .i64 (IntKind.i64.wrap (n_5 + 1))) (ev_assign rfl) (by decide) ?_
        refine sr_end (l' := [(0, vl_0), (1, str s_1), (5, .int .i64 (IntKind.i64.wrap (n_5 + 1))), (6, .int .i64 i_6)]) (.cons rfl (.cons rfl (.cons rfl (.cons rfl (.nil _))))) ?_
        have hK := law23_count_B2_ok hg hA0 _ hr0 hS hb hA hi hH hl_0
        exact ke_weaken (l' := [(0, vl_0), (1, str s_1), (5, .int .i64 (IntKind.i64.wrap (n_5 + 1))), (6, .int .i64 i_6)]) (.cons rfl (.cons rfl (.cons rfl (.cons rfl (.nil _))))) hK
      · replace hS := ite_false' hS hc10
        refine ke_skip ?_
        have hK := law23_count_B2_ok hg hA0 _ hr0 hS hb hA hi hH hl_0
        exact ke_weaken (l' := [(0, vl_0), (1, str s_1), (5, .int .i64 n_5), (6, .int .i64 i_6)]) (.cons rfl (.cons rfl (.cons rfl (.cons rfl (.nil _))))) hK
    · replace hS := ite_false' hS hc3
      refine ke_exit (k' := _) rfl ?_
      refine ke_seq ?_
      refine ke_region ?_
      refine sr_ev (v := .int .i64 n_5) (ev_move rfl) (by decide) ?_
      refine sr_ev (v := .int .i64 n_5) (ev_assign rfl) (by decide) ?_
      refine sr_end (l' := [(4, .int .i64 n_5)]) (.cons rfl (.nil _)) ?_
      cases hS
      exact ke_ret1 Tryd.func28 rfl rfl ⟨_, rfl, rfl, hb⟩
theorem law23_count_ok {A0 : Nat → Prop} (w0 : World) (hg : Gs w0) {l_0 : List Str} {s_1 : Str} {v1 : Value} {r : Int} (h2 : SlR strC A0 w0 v1 l_0) (hS : law23_count l_0 s_1 = some r) :
    Calls Tryd.prog 28 #[v1, str s_1] w0 (Ret (fun v w' => v = .int .i64 r ∧ Below w0.heap.size w0 w')) := by
  unfold law23_count at hS
  have hb := Below.refl w0.heap.size w0
  replace h2 := h2.weak (A' := fun _ => False) (fun _ h => h.elim)
  obtain ⟨A0, hA0, hAe⟩ : ∃ A0 : Nat → Prop, (∀ b, A0 b → b < w0.heap.size) ∧ A0 = fun _ => False := ⟨_, fun _ h => h.elim, rfl⟩
  rw [← hAe] at h2
  clear hAe
  have hA := hA0
  have hi : ∀ b, A0 b → A0 b := fun _ h => h
  have hH := Hp.nil A0 w0.heap.size w0
  refine calls_of_ke Tryd.func28 rfl (n := 22) rfl rfl (l := [(0, v1), (1, str s_1)]) rfl ?_
  refine ke_seq ?_
  refine ke_region ?_
  refine sr_ev (v := .int .i64 0) (ev_assign rfl) (by decide) ?_
  refine sr_end (l' := [(0, v1), (1, str s_1)]) (.cons rfl (.cons rfl (.nil _))) ?_
  refine ke_seq ?_
  refine ke_region ?_
  refine sr_ev (v := .int .i64 0) (ev_assign rfl) (by decide) ?_
  refine sr_end (l' := [(0, v1), (1, str s_1), (5, .int .i64 0)]) (.cons rfl (.cons rfl (.cons rfl (.nil _)))) ?_
  refine ke_seq ?_
  refine ke_seq ?_
  refine ke_region ?_
  refine sr_ev (v := .int .i64 0) (ev_assign rfl) (by decide) ?_
  refine sr_end (l' := [(0, v1), (1, str s_1), (5, .int .i64 0), (6, .int .i64 0)]) (.cons rfl (.cons rfl (.cons rfl (.cons rfl (.nil _))))) ?_
  refine ke_block ?_
  have hK := law23_count_L1_ok hg hA0 _ hS hb hA hi hH h2
  exact ke_weaken (l' := [(0, v1), (1, str s_1), (5, .int .i64 0), (6, .int .i64 0)]) (.cons rfl (.cons rfl (.cons rfl (.cons rfl (.nil _))))) (ke_loop hK)
theorem law23_OtpRedeems_B4_ok {w0 : World} (hg : Gs w0) {A0 : Nat → Prop} (hA0 : ∀ b, A0 b → b < w0.heap.size) (r0 : List Str → Int → Option (Bool)) (r1 : List Str → Int → List Str → Int → Option (Bool))
    (hr0 : ∀ {r : Bool} {codes_2 : List Str} {i_12 : Int} {vcodes_2 : Value}, r0 codes_2 i_12 = some r → ∀ {w : World} {A : Nat → Prop}, (Below w0.heap.size w0 w) → (∀ b, A b → b < w.heap.size) → (∀ b, A0 b → A b) → (Hp A w0.heap.size w []) → (SlR strC A w vcodes_2 codes_2) → KE Tryd.prog 8 (Ret (fun v w' => v = .bool r ∧ Below w0.heap.size w0 w')) 144 [.inLoop (sub (bodyOf Tryd.f8) [2, 2, 2, 1, 2, 2, 1]), .inBlock 0, .code (sub (bodyOf Tryd.f8) [2, 2, 2, 2])] [(2, vcodes_2), (12, .int .i64 i_12)] w)
    (hr1 : ∀ {r : Bool} {codes_2 : List Str} {i_12 : Int} {l_13 : List Str} {k_15 : Int} {vcodes_2 : Value} {vl_13 : Value}, r1 codes_2 i_12 l_13 k_15 = some r → ∀ {w : World} {A : Nat → Prop}, (Below w0.heap.size w0 w) → (∀ b, A b → b < w.heap.size) → (∀ b, A0 b → A b) → (Hp A w0.heap.size w []) → (SlR strC A w vcodes_2 codes_2) → (SlR strC A w vl_13 l_13) → KE Tryd.prog 8 (Ret (fun v w' => v = .bool r ∧ Below w0.heap.size w0 w')) 144 [.inLoop (sub (bodyOf Tryd.f8) [2, 2, 2, 1, 2, 2, 1, 2, 1, 2, 2, 2, 2, 2, 1]), .inBlock 2, .inBlock 1, .code (sub (bodyOf Tryd.f8) [2, 2, 2, 1, 2, 2, 1, 2, 2]), .inLoop (sub (bodyOf Tryd.f8) [2, 2, 2, 1, 2, 2, 1]), .inBlock 0, .code (sub (bodyOf Tryd.f8) [2, 2, 2, 2])] [(2, vcodes_2), (12, .int .i64 i_12), (13, vl_13), (15, .int .i64 k_15)] w) {r : Bool} {codes_2 : List Str} {i_12 : Int} {l_13 : List Str} {k_15 : Int} {less_16 : Int} {vcodes_2 : Value} {vl_13 : Value} (hS : law23_OtpRedeems_B4 r0 r1 codes_2 i_12 l_13 k_15 less_16 = some r) {w : World} {A : Nat → Prop} (hb : Below w0.heap.size w0 w) (hA : ∀ b, A b → b < w.heap.size) (hi : ∀ b, A0 b → A b) (hH : Hp A w0.heap.size w []) (hcodes_2 : SlR strC A w vcodes_2 codes_2) (hl_13 : SlR strC A w vl_13 l_13) :
    KE Tryd.prog 8 (Ret (fun v w' => v = .bool r ∧ Below w0.heap.size w0 w')) 144 [.code (sub (bodyOf Tryd.f8) [2, 2, 2, 1, 2, 2, 1, 2, 1, 2, 2, 2, 2, 2, 1, 2, 1, 2, 2, 2]), .inBlock 3, .code (sub (bodyOf Tryd.f8) [2, 2, 2, 1, 2, 2, 1, 2, 1, 2, 2, 2, 2, 2, 1, 2, 2]), .inLoop (sub (bodyOf Tryd.f8) [2, 2, 2, 1, 2, 2, 1, 2, 1, 2, 2, 2, 2, 2, 1]), .inBlock 2, .inBlock 1, .code (sub (bodyOf Tryd.f8) [2, 2, 2, 1, 2, 2, 1, 2, 2]), .inLoop (sub (bodyOf Tryd.f8) [2, 2, 2, 1, 2, 2, 1]), .inBlock 0, .code (sub (bodyOf Tryd.f8) [2, 2, 2, 2])] [(2, vcodes_2), (12, .int .i64 i_12), (13, vl_13), (15, .int .i64 k_15), (16, .int .i64 less_16)] w := by
  unfold law23_OtpRedeems_B4 at hS
  refine ke_seq ?_
  refine ke_region_q Tryd.mixed (by kernel_rfl) ?_
  refine sq_ev (v := vl_13) (fun w1 hw1 => ev_move rfl) (by decide) ?_
  refine sq_ev (v := vcodes_2) (fun w1 hw1 => ev_move rfl) (by decide) ?_
  refine sq_ev (v := .int .i64 k_15) (fun w1 hw1 => ev_move rfl) (by decide) ?_
  obtain ⟨y142, hy143, hS⟩ := bind_some' hS
  obtain ⟨b144, o145, cs147, he146, hixhe146⟩ := hcodes_2.elem Tryd.underlying35 Tryd.info9 rfl (P := Tryd.prog) hy143
  obtain rfl : cs147 = [str y142] := he146.rd
  refine sq_ev (v := .pointer (some ⟨b144, o145, none⟩)) (fun w1 hw1 => hixhe146 w1 hw1 rfl rfl) (by decide) ?_
  refine sq_ev (v := str y142) (fun w1 hw1 => ev_load Tryd.isAgg9 rfl ((he146.step (.of_below hw1) (Nat.succ_pos _)).cell 0 _ rfl)) (by decide) ?_
  obtain ⟨y148, hy149, hS⟩ := bind_some' hS
  refine sq_call (v := .int .i64 y148) (vs := [vl_13, str y142]) rfl Tryd.call28 rfl (fun w1 hw1 => (law23_count_ok _ (hg.below (hb.trans (hw1.mono hb.size))) (hl_13.below hw1) hy149)) (by decide) ?_
  refine sq_ev (v := vcodes_2) (fun w1 hw1 => ev_move rfl) (by decide) ?_
  refine sq_ev (v := vcodes_2) (fun w1 hw1 => ev_move rfl) (by decide) ?_
  refine sq_ev (v := .int .i64 k_15) (fun w1 hw1 => ev_move rfl) (by decide) ?_
  obtain ⟨y152, hy153, hS⟩ := bind_some' hS
  obtain ⟨b154, o155, cs157, he156, hixhe156⟩ := hcodes_2.elem Tryd.underlying35 Tryd.info9 rfl (P := Tryd.prog) hy153
  obtain rfl : cs157 = [str y152] := he156.rd
  refine sq_ev (v := .pointer (some ⟨b154, o155, none⟩)) (fun w1 hw1 => hixhe156 w1 hw1 rfl rfl) (by decide) ?_
  refine sq_ev (v := str y152) (fun w1 hw1 => ev_load Tryd.isAgg9 rfl ((he156.step (.of_below hw1) (Nat.succ_pos _)).cell 0 _ rfl)) (by decide) ?_
  obtain ⟨y158, hy159, hS⟩ := bind_some' hS
  refine sq_call (v := .int .i64 y158) (vs := [vcodes_2, str y152]) rfl Tryd.call28 rfl (fun w1 hw1 => (law23_count_ok _ (hg.below (hb.trans (hw1.mono hb.size))) (hcodes_2.below hw1) hy159)) (by decide) ?_
  refine sq_ev (v := .int .i64 less_16) (fun w1 hw1 => ev_move rfl) (by decide) ?_
  refine sq_ev (v := .int .i64 (IntKind.i64.wrap (y158 - less_16))) (fun w1 hw1 => ev_sub rfl rfl) (by decide) ?_
  refine sq_ev (v := .bool (y148 != (IntKind.i64.wrap (y158 - less_16)))) (fun w1 hw1 => ev_ne rfl rfl) (by decide) ?_
  refine sq_end (l' := [(2, vcodes_2), (12, .int .i64 i_12), (13, vl_13), (15, .int .i64 k_15), (142, .bool (y148 != (IntKind.i64.wrap (y158 - less_16))))]) (.cons rfl (.cons rfl (.cons rfl (.cons rfl (.cons rfl (.nil _)))))) (fun w141 hw140 => ?_)
  replace hb := hb.trans (hw140.mono hb.size)
  replace hA := lt_mono hA hw140.size
  replace hH := hH.below hw140
  replace hcodes_2 := hcodes_2.below hw140
  replace hl_13 := hl_13.below hw140
  refine ke_cond (t := y148 != (IntKind.i64.wrap (y158 - less_16))) rfl (fun hc162 => ?_) (fun hc162 => ?_)
  · replace hS := ite_true' hS hc162
    refine ke_seq ?_
    refine ke_region ?_
    refine sr_ev (v := .bool false) (ev_assign rfl) (by decide) ?_
    refine sr_end (l' := [(6, .bool false)]) (.cons rfl (.nil _)) ?_
    cases hS
    exact ke_ret1 Tryd.func8 rfl rfl ⟨_, rfl, rfl, hb⟩
  · replace hS := ite_false' hS hc162
    refine ke_skip ?_
    refine ke_inBlock ?_
    refine ke_region ?_
    refine sr_ev (v := .int .i64 k_15) (ev_move rfl) (by decide) ?_
    refine sr_ev (v := .int .i64 (IntKind.i64.wrap (k_15 + 1))) (ev_add rfl rfl) (by decide) ?_
    refine sr_ev (v := .int .i64 (IntKind.i64.wrap (k_15 + 1))) (ev_assign rfl) (by decide) ?_
    refine sr_end (l' := [(2, vcodes_2), (12, .int .i64 i_12), (13, vl_13), (15, .int .i64 (IntKind.i64.wrap (k_15 + 1)))]) (.cons rfl (.cons rfl (.cons rfl (.cons rfl (.nil _))))) ?_
    have hK := hr1 hS hb hA hi hH hcodes_2 hl_13
    exact ke_weaken (l' := [(2, vcodes_2), (12, .int .i64 i_12), (13, vl_13), (15, .int .i64 (IntKind.i64.wrap (k_15 + 1)))]) (.cons rfl (.cons rfl (.cons rfl (.cons rfl (.nil _))))) hK
theorem law23_OtpRedeems_L3_ok {w0 : World} (hg : Gs w0) {A0 : Nat → Prop} (hA0 : ∀ b, A0 b → b < w0.heap.size) (r0 : List Str → Int → Option (Bool))
    (hr0 : ∀ {r : Bool} {codes_2 : List Str} {i_12 : Int} {vcodes_2 : Value}, r0 codes_2 i_12 = some r → ∀ {w : World} {A : Nat → Prop}, (Below w0.heap.size w0 w) → (∀ b, A b → b < w.heap.size) → (∀ b, A0 b → A b) → (Hp A w0.heap.size w []) → (SlR strC A w vcodes_2 codes_2) → KE Tryd.prog 8 (Ret (fun v w' => v = .bool r ∧ Below w0.heap.size w0 w')) 144 [.inLoop (sub (bodyOf Tryd.f8) [2, 2, 2, 1, 2, 2, 1]), .inBlock 0, .code (sub (bodyOf Tryd.f8) [2, 2, 2, 2])] [(2, vcodes_2), (12, .int .i64 i_12)] w) : ∀ (n : Nat), ∀ {r : Bool} {codes_2 : List Str} {i_12 : Int} {l_13 : List Str} {k_15 : Int} {vcodes_2 : Value} {vl_13 : Value}, law23_OtpRedeems_L3 r0 n codes_2 i_12 l_13 k_15 = some r → ∀ {w : World} {A : Nat → Prop}, (Below w0.heap.size w0 w) → (∀ b, A b → b < w.heap.size) → (∀ b, A0 b → A b) → (Hp A w0.heap.size w []) → (SlR strC A w vcodes_2 codes_2) → (SlR strC A w vl_13 l_13) → KE Tryd.prog 8 (Ret (fun v w' => v = .bool r ∧ Below w0.heap.size w0 w')) 144 [.code (sub (bodyOf Tryd.f8) [2, 2, 2, 1, 2, 2, 1, 2, 1, 2, 2, 2, 2, 2, 1]), .inLoop (sub (bodyOf Tryd.f8) [2, 2, 2, 1, 2, 2, 1, 2, 1, 2, 2, 2, 2, 2, 1]), .inBlock 2, .inBlock 1, .code (sub (bodyOf Tryd.f8) [2, 2, 2, 1, 2, 2, 1, 2, 2]), .inLoop (sub (bodyOf Tryd.f8) [2, 2, 2, 1, 2, 2, 1]), .inBlock 0, .code (sub (bodyOf Tryd.f8) [2, 2, 2, 2])] [(2, vcodes_2), (12, .int .i64 i_12), (13, vl_13), (15, .int .i64 k_15)] w := by
  intro n
  induction n with
  | zero => intro r codes_2 i_12 l_13 k_15 vcodes_2 vl_13 hS; cases hS
  | succ n ih =>
    have hr1 : ∀ {r : Bool} {codes_2 : List Str} {i_12 : Int} {l_13 : List Str} {k_15 : Int} {vcodes_2 : Value} {vl_13 : Value}, law23_OtpRedeems_L3 r0 n codes_2 i_12 l_13 k_15 = some r → ∀ {w : World} {A : Nat → Prop}, (Below w0.heap.size w0 w) → (∀ b, A b → b < w.heap.size) → (∀ b, A0 b → A b) → (Hp A w0.heap.size w []) → (SlR strC A w vcodes_2 codes_2) → (SlR strC A w vl_13 l_13) → KE Tryd.prog 8 (Ret (fun v w' => v = .bool r ∧ Below w0.heap.size w0 w')) 144 [.inLoop (sub (bodyOf Tryd.f8) [2, 2, 2, 1, 2, 2, 1, 2, 1, 2, 2, 2, 2, 2, 1]), .inBlock 2, .inBlock 1, .code (sub (bodyOf Tryd.f8) [2, 2, 2, 1, 2, 2, 1, 2, 2]), .inLoop (sub (bodyOf Tryd.f8) [2, 2, 2, 1, 2, 2, 1]), .inBlock 0, .code (sub (bodyOf Tryd.f8) [2, 2, 2, 2])] [(2, vcodes_2), (12, .int .i64 i_12), (13, vl_13), (15, .int .i64 k_15)] w := fun {r} {codes_2} {i_12} {l_13} {k_15} {vcodes_2} {vl_13} hS {w} {A} hb hA hi hH hcodes_2 hl_13 => ke_inLoop (ih hS hb hA hi hH hcodes_2 hl_13)
    clear ih
    intro r codes_2 i_12 l_13 k_15 vcodes_2 vl_13 hS w A hb hA hi hH hcodes_2 hl_13
    unfold law23_OtpRedeems_L3 at hS
    refine ke_seq ?_
    refine ke_seq ?_
    refine ke_region ?_
    refine sr_ev (v := .int .i64 k_15) (ev_move rfl) (by decide) ?_
    refine sr_ev (v := vcodes_2) (ev_move rfl) (by decide) ?_
    refine sr_ev (v := .int .i64 (codes_2.length : Int)) (ev_sllen Tryd.underlying35 rfl hcodes_2) (by decide) ?_
    refine sr_ev (v := .bool (decide (k_15 < (codes_2.length : Int)))) (ev_lt rfl rfl) (by decide) ?_
    refine sr_end (l' := [(2, vcodes_2), (12, .int .i64 i_12), (13, vl_13), (15, .int .i64 k_15), (116, .bool (decide (k_15 < (codes_2.length : Int))))]) (.cons rfl (.cons rfl (.cons rfl (.cons rfl (.cons rfl (.nil _)))))) ?_
    refine ke_cond (t := decide (k_15 < (codes_2.length : Int))) rfl (fun hc124 => ?_) (fun hc124 => ?_)
    · replace hS := ite_true' hS hc124
      refine ke_skip ?_
      refine ke_seq ?_
      refine ke_block ?_
      refine ke_seq ?_
      refine ke_region ?_
      refine sr_ev (v := .int .i64 0) (ev_assign rfl) (by decide) ?_
      refine sr_end (l' := [(2, vcodes_2), (12, .int .i64 i_12), (13, vl_13), (15, .int .i64 k_15), (16, .int .i64 0)]) (.cons rfl (.cons rfl (.cons rfl (.cons rfl (.cons rfl (.nil _)))))) ?_
      refine ke_seq ?_
      refine ke_seq ?_
      refine ke_region_q Tryd.mixed (by kernel_rfl) ?_
      refine sq_ev (v := vcodes_2) (fun w1 hw1 => ev_move rfl) (by decide) ?_
      refine sq_ev (v := .int .i64 k_15) (fun w1 hw1 => ev_move rfl) (by decide) ?_
      obtain ⟨y127, hy128, hS⟩ := bind_some' hS
      obtain ⟨b129, o130, cs132, he131, hixhe131⟩ := hcodes_2.elem Tryd.underlying35 Tryd.info9 rfl (P := Tryd.prog) hy128
      obtain rfl : cs132 = [str y127] := he131.rd
      refine sq_ev (v := .pointer (some ⟨b129, o130, none⟩)) (fun w1 hw1 => hixhe131 w1 hw1 rfl rfl) (by decide) ?_
      refine sq_ev (v := str y127) (fun w1 hw1 => ev_load Tryd.isAgg9 rfl ((he131.step (.of_below hw1) (Nat.succ_pos _)).cell 0 _ rfl)) (by decide) ?_
      refine sq_ev (v := vcodes_2) (fun w1 hw1 => ev_move rfl) (by decide) ?_
      refine sq_ev (v := .int .i64 i_12) (fun w1 hw1 => ev_move rfl) (by decide) ?_
      obtain ⟨y133, hy134, hS⟩ := bind_some' hS
      obtain ⟨b135, o136, cs138, he137, hixhe137⟩ := hcodes_2.elem Tryd.underlying35 Tryd.info9 rfl (P := Tryd.prog) hy134
      obtain rfl : cs138 = [str y133] := he137.rd
      refine sq_ev (v := .pointer (some ⟨b135, o136, none⟩)) (fun w1 hw1 => hixhe137 w1 hw1 rfl rfl) (by decide) ?_
      refine sq_ev (v := str y133) (fun w1 hw1 => ev_load Tryd.isAgg9 rfl ((he137.step (.of_below hw1) (Nat.succ_pos _)).cell 0 _ rfl)) (by decide) ?_
      refine sq_ev (v := .bool (y127 == y133)) (fun w1 hw1 => ev_seq rfl rfl) (by decide) ?_
      refine sq_end (l' := [(2, vcodes_2), (12, .int .i64 i_12), (13, vl_13), (15, .int .i64 k_15), (16, .int .i64 0), (127, .bool (y127 == y133))]) (.cons rfl (.cons rfl (.cons rfl (.cons rfl (.cons rfl (.cons rfl (.nil _))))))) (fun w126 hw125 => ?_)
      replace hb := hb.trans (hw125.mono hb.size)
      replace hA := lt_mono hA hw125.size
      replace hH := hH.below hw125
      replace hcodes_2 := hcodes_2.below hw125
      replace hl_13 := hl_13.below hw125
      refine ke_cond (t := y127 == y133) rfl (fun hc139 => ?_) (fun hc139 => ?_)
      · replace hS := ite_true' hS hc139
        refine ke_region ?_
        refine sr_ev (v := .int .i64 1) (ev_assign rfl) (by decide) ?_
        refine sr_end (l' := [(2, vcodes_2), (12, .int .i64 i_12), (13, vl_13), (15, .int .i64 k_15), (16, .int .i64 1)]) (.cons rfl (.cons rfl (.cons rfl (.cons rfl (.cons rfl (.nil _)))))) ?_
        have hK := law23_OtpRedeems_B4_ok hg hA0 _ _ hr0 hr1 hS hb hA hi hH hcodes_2 hl_13
        exact ke_weaken (l' := [(2, vcodes_2), (12, .int .i64 i_12), (13, vl_13), (15, .int .i64 k_15), (16, .int .i64 1)]) (.cons rfl (.cons rfl (.cons rfl (.cons rfl (.cons rfl (.nil _)))))) hK
      · replace hS := ite_false' hS hc139
        refine ke_skip ?_
        have hK := law23_OtpRedeems_B4_ok hg hA0 _ _ hr0 hr1 hS hb hA hi hH hcodes_2 hl_13
        exact ke_weaken (l' := [(2, vcodes_2), (12, .int .i64 i_12), (13, vl_13), (15, .int .i64 k_15), (16, .int .i64 0)]) (.cons rfl (.cons rfl (.cons rfl (.cons rfl (.cons rfl (.nil _)))))) hK
    · replace hS := ite_false' hS hc124
      refine ke_exit (k' := _) rfl ?_
      refine ke_inBlock ?_
      refine ke_region ?_
      refine sr_ev (v := .int .i64 i_12) (ev_move rfl) (by decide) ?_
      refine sr_ev (v := .int .i64 (IntKind.i64.wrap (i_12 + 1))) (ev_add rfl rfl) (by decide) ?_
      refine sr_ev (v := .int .i64 (IntKind.i64.wrap (i_12 + 1))) (ev_assign rfl) (by decide) ?_
      refine sr_end (l' := [(2, vcodes_2), (12, .int .i64 (IntKind.i64.wrap (i_12 + 1)))]) (.cons rfl (.cons rfl (.nil _))) ?_
      have hK := hr0 hS hb hA hi hH hcodes_2
      exact ke_weaken (l' := [(2, vcodes_2), (12, .int .i64 (IntKind.i64.wrap (i_12 + 1)))]) (.cons rfl (.cons rfl (.nil _))) hK
theorem law23_OtpRedeems_L2_ok {w0 : World} (hg : Gs w0) {A0 : Nat → Prop} (hA0 : ∀ b, A0 b → b < w0.heap.size) : ∀ (n : Nat), ∀ {r : Bool} {codes_2 : List Str} {i_12 : Int} {vcodes_2 : Value}, law23_OtpRedeems_L2 n codes_2 i_12 = some r → ∀ {w : World} {A : Nat → Prop}, (Below w0.heap.size w0 w) → (∀ b, A b → b < w.heap.size) → (∀ b, A0 b → A b) → (Hp A w0.heap.size w []) → (SlR strC A w vcodes_2 codes_2) → KE Tryd.prog 8 (Ret (fun v w' => v = .bool r ∧ Below w0.heap.size w0 w')) 144 [.code (sub (bodyOf Tryd.f8) [2, 2, 2, 1, 2, 2, 1]), .inLoop (sub (bodyOf Tryd.f8) [2, 2, 2, 1, 2, 2, 1]), .inBlock 0, .code (sub (bodyOf Tryd.f8) [2, 2, 2, 2])] [(2, vcodes_2), (12, .int .i64 i_12)] w := by
  intro n
  induction n with
  | zero => intro r codes_2 i_12 vcodes_2 hS; cases hS
  | succ n ih =>
    have hr0 : ∀ {r : Bool} {codes_2 : List Str} {i_12 : Int} {vcodes_2 : Value}, law23_OtpRedeems_L2 n codes_2 i_12 = some r → ∀ {w : World} {A : Nat → Prop}, (Below w0.heap.size w0 w) → (∀ b, A b → b < w.heap.size) → (∀ b, A0 b → A b) → (Hp A w0.heap.size w []) → (SlR strC A w vcodes_2 codes_2) → KE Tryd.prog 8 (Ret (fun v w' => v = .bool r ∧ Below w0.heap.size w0 w')) 144 [.inLoop (sub (bodyOf Tryd.f8) [2, 2, 2, 1, 2, 2, 1]), .inBlock 0, .code (sub (bodyOf Tryd.f8) [2, 2, 2, 2])] [(2, vcodes_2), (12, .int .i64 i_12)] w := fun {r} {codes_2} {i_12} {vcodes_2} hS {w} {A} hb hA hi hH hcodes_2 => ke_inLoop (ih hS hb hA hi hH hcodes_2)
    clear ih
    intro r codes_2 i_12 vcodes_2 hS w A hb hA hi hH hcodes_2
    unfold law23_OtpRedeems_L2 at hS
    refine ke_seq ?_
    refine ke_seq ?_
    refine ke_region ?_
    refine sr_ev (v := .int .i64 i_12) (ev_move rfl) (by decide) ?_
    refine sr_ev (v := vcodes_2) (ev_move rfl) (by decide) ?_
    refine sr_ev (v := .int .i64 (codes_2.length : Int)) (ev_sllen Tryd.underlying35 rfl hcodes_2) (by decide) ?_
    refine sr_ev (v := .bool (decide (i_12 < (codes_2.length : Int)))) (ev_lt rfl rfl) (by decide) ?_
    refine sr_end (l' := [(2, vcodes_2), (12, .int .i64 i_12), (91, .bool (decide (i_12 < (codes_2.length : Int))))]) (.cons rfl (.cons rfl (.cons rfl (.nil _)))) ?_
    refine ke_cond (t := decide (i_12 < (codes_2.length : Int))) rfl (fun hc103 => ?_) (fun hc103 => ?_)
    · replace hS := ite_true' hS hc103
      refine ke_skip ?_
      refine ke_seq ?_
      refine ke_block ?_
      refine ke_seq ?_
      refine ke_region ?_
      refine sr_ev (v := vcodes_2) (ev_move rfl) (by decide) ?_
      refine sr_ev (v := vcodes_2) (ev_move rfl) (by decide) ?_
      refine sr_ev (v := .int .i64 i_12) (ev_move rfl) (by decide) ?_
      obtain ⟨y104, hy105, hS⟩ := bind_some' hS
      refine sr_index hcodes_2 Tryd.underlying35 Tryd.info9 rfl rfl rfl hy105 (by decide) ?_
      intro b106 o107 cs109 he108
      obtain rfl : cs109 = [str y104] := he108.rd
      refine sr_ev (v := str y104) (ev_load Tryd.isAgg9 rfl (he108.cell 0 _ rfl)) (by decide) ?_
      obtain ⟨y110, hy111, hS⟩ := bind_some' hS
      refine sr_call (vs := [vcodes_2, str y104]) rfl Tryd.call23 rfl (otp_Redeem_ok _ (hg.below hb) hcodes_2 hA hy111) (by decide) ?_
      rintro _ w112 ⟨v114, rfl, h115, hbw113⟩
      replace hb := hb.trans (hbw113.mono hb.size)
      replace hA := lt_mono hA hbw113.size
      replace hH := hH.below hbw113
      replace hcodes_2 := hcodes_2.below hbw113
      refine sr_ev (v := .tuple #[v114, .int .i64 y110.2]) (ev_move rfl) (by decide) ?_
      refine sr_ev (v := v114) (ev_extract rfl rfl) (by decide) ?_
      refine sr_ev (v := .int .i64 y110.2) (ev_extract rfl rfl) (by decide) ?_
      refine sr_ev (v := v114) (ev_assign rfl) (by decide) ?_
      refine sr_ev (v := .int .i64 y110.2) (ev_assign rfl) (by decide) ?_
      refine sr_end (l' := [(2, vcodes_2), (12, .int .i64 i_12), (13, v114), (14, .int .i64 y110.2)]) (.cons rfl (.cons rfl (.cons rfl (.cons rfl (.nil _))))) ?_
      refine ke_seq ?_
      refine ke_seq ?_
      refine ke_region ?_
      refine sr_ev (v := .int .i64 y110.2) (ev_move rfl) (by decide) ?_
      refine sr_ev (v := .bool (y110.2 != 0)) (ev_ne rfl rfl) (by decide) ?_
      refine sr_ev (v := .bool (y110.2 != 0)) (ev_move rfl) (by decide) ?_
      refine sr_join (m := 7) (C := fun (x : Bool) w1 => x = ((y110.2 != 0) || ((y110.1.length : Int) != (IntKind.i64.wrap ((codes_2.length : Int) - 1)))) ∧ w112 = w1) (l' := fun x => [(2, vcodes_2), (12, .int .i64 i_12), (13, v114), (112, .bool x)]) ?_ ?_
      · rintro _ _ ⟨rfl, rfl⟩
        refine sr_end (l' := [(2, vcodes_2), (12, .int .i64 i_12), (13, v114), (112, .bool ((y110.2 != 0) || ((y110.1.length : Int) != (IntKind.i64.wrap ((codes_2.length : Int) - 1)))))]) (.cons rfl (.cons rfl (.cons rfl (.cons rfl (.nil _))))) ?_
        refine ke_cond (t := (y110.2 != 0) || ((y110.1.length : Int) != (IntKind.i64.wrap ((codes_2.length : Int) - 1)))) rfl (fun hc123 => ?_) (fun hc123 => ?_)
        · replace hS := ite_true' hS hc123
          refine ke_seq ?_
          refine ke_region ?_
          refine sr_ev (v := .bool false) (ev_assign rfl) (by decide) ?_
          refine sr_end (l' := [(6, .bool false)]) (.cons rfl (.nil _)) ?_
          cases hS
          exact ke_ret1 Tryd.func8 rfl rfl ⟨_, rfl, rfl, hb⟩
        · replace hS := ite_false' hS hc123
          refine ke_skip ?_
          refine ke_seq ?_
          refine ke_region ?_
          refine sr_ev (v := .int .i64 0) (ev_assign rfl) (by decide) ?_
          refine sr_end (l' := [(2, vcodes_2), (12, .int .i64 i_12), (13, v114), (15, .int .i64 0)]) (.cons rfl (.cons rfl (.cons rfl (.cons rfl (.nil _))))) ?_
          refine ke_block ?_
          have hK := law23_OtpRedeems_L3_ok hg hA0 _ hr0 _ hS hb hA hi hH hcodes_2 h115
          exact ke_weaken (l' := [(2, vcodes_2), (12, .int .i64 i_12), (13, v114), (15, .int .i64 0)]) (.cons rfl (.cons rfl (.cons rfl (.cons rfl (.nil _))))) (ke_loop hK)
      · intro K117
        rcases Bool.eq_false_or_eq_true (y110.2 != 0) with hg116 | hg116
        · refine sr_pass (e := 105) rfl rfl (by rw [hg116]; rfl) (by decide) ?_
          refine sr_pass (e := 105) rfl rfl (by rw [hg116]; rfl) (by decide) ?_
          refine sr_pass (e := 105) rfl rfl (by rw [hg116]; rfl) (by decide) ?_
          refine sr_pass (e := 105) rfl rfl (by rw [hg116]; rfl) (by decide) ?_
          refine sr_pass (e := 105) rfl rfl (by rw [hg116]; rfl) (by decide) ?_
          refine sr_pass (e := 105) rfl rfl (by rw [hg116]; rfl) (by decide) ?_
          refine sr_ev (v := .bool true) (ev_pick_t rfl hg116 rfl) (by decide) ?_
          exact sr_weaken (l' := [(2, vcodes_2), (12, .int .i64 i_12), (13, v114), (112, .bool true)]) (.cons rfl (.cons rfl (.cons rfl (.cons rfl (.nil _))))) (K117 true _ ⟨by rw [hg116]; rfl, rfl⟩)
        · refine sr_evg (b := false) (e := 105) rfl rfl hg116 (v := v114) (ev_move rfl) (by decide) ?_
          refine sr_evg (b := false) (e := 105) rfl rfl hg116 (v := .int .i64 (y110.1.length : Int)) (ev_sllen Tryd.underlying35 rfl h115) (by decide) ?_
          refine sr_evg (b := false) (e := 105) rfl rfl hg116 (v := vcodes_2) (ev_move rfl) (by decide) ?_
          refine sr_evg (b := false) (e := 105) rfl rfl hg116 (v := .int .i64 (codes_2.length : Int)) (ev_sllen Tryd.underlying35 rfl hcodes_2) (by decide) ?_
          refine sr_evg (b := false) (e := 105) rfl rfl hg116 (v := .int .i64 (IntKind.i64.wrap ((codes_2.length : Int) - 1))) (ev_sub rfl rfl) (by decide) ?_
          refine sr_evg (b := false) (e := 105) rfl rfl hg116 (v := .bool ((y110.1.length : Int) != (IntKind.i64.wrap ((codes_2.length : Int) - 1)))) (ev_ne rfl rfl) (by decide) ?_
          refine sr_ev (v := .bool ((y110.1.length : Int) != (IntKind.i64.wrap ((codes_2.length : Int) - 1)))) (ev_pick_f rfl hg116 rfl) (by decide) ?_
          exact sr_weaken (l' := [(2, vcodes_2), (12, .int .i64 i_12), (13, v114), (112, .bool ((y110.1.length : Int) != (IntKind.i64.wrap ((codes_2.length : Int) - 1))))]) (.cons rfl (.cons rfl (.cons rfl (.cons rfl (.nil _))))) (K117 ((y110.1.length : Int) != (IntKind.i64.wrap ((codes_2.length : Int) - 1))) _ ⟨by rw [hg116]; rfl, rfl⟩)
    · replace hS := ite_false' hS hc103
      refine ke_exit (k' := _) rfl ?_
      refine ke_seq ?_
      refine ke_region ?_
      obtain ⟨y163, hy164, hS⟩ := bind_some' hS
      refine sr_call (vs := []) rfl Tryd.call9 rfl (law23_alive_ok _ (hg.below hb) hy164) (by decide) ?_
      rintro _ w165 ⟨rfl, hbw166⟩
      replace hb := hb.trans (hbw166.mono hb.size)
      replace hA := lt_mono hA hbw166.size
      replace hH := hH.below hbw166
      refine sr_ev (v := .bool y163) (ev_assign rfl) (by decide) ?_
      refine sr_end (l' := [(6, .bool y163)]) (.cons rfl (.nil _)) ?_
      cases hS
      exact ke_ret1 Tryd.func8 rfl rfl ⟨_, rfl, rfl, hb⟩
theorem law23_OtpRedeems_B1_ok {w0 : World} (hg : Gs w0) {A0 : Nat → Prop} (hA0 : ∀ b, A0 b → b < w0.heap.size) {r : Bool} {codes_2 : List Str} {vcodes_2 : Value} (hS : law23_OtpRedeems_B1 codes_2 = some r) {w : World} {A : Nat → Prop} (hb : Below w0.heap.size w0 w) (hA : ∀ b, A b → b < w.heap.size) (hi : ∀ b, A0 b → A b) (hH : Hp A w0.heap.size w []) (hcodes_2 : SlR strC A w vcodes_2 codes_2) :
    KE Tryd.prog 8 (Ret (fun v w' => v = .bool r ∧ Below w0.heap.size w0 w')) 144 [.code (sub (bodyOf Tryd.f8) [2, 2, 2])] [(2, vcodes_2)] w := by
  unfold law23_OtpRedeems_B1 at hS
  refine ke_seq ?_
  refine ke_seq ?_
  refine ke_region ?_
  refine sr_ev (v := .int .i64 0) (ev_assign rfl) (by decide) ?_
  refine sr_end (l' := [(2, vcodes_2), (12, .int .i64 0)]) (.cons rfl (.cons rfl (.nil _))) ?_
  refine ke_block ?_
  have hK := law23_OtpRedeems_L2_ok hg hA0 _ hS hb hA hi hH hcodes_2
  exact ke_weaken (l' := [(2, vcodes_2), (12, .int .i64 0)]) (.cons rfl (.cons rfl (.nil _))) (ke_loop hK)
theorem law23_OtpRedeems_ok {A0 : Nat → Prop} (w0 : World) (hg : Gs w0) {secret_0 : Str} {n_1 : Int} {codes_2 : List Str} {v1 : Value} {r : Bool} (h2 : SlR strC A0 w0 v1 codes_2) (hS : law23_OtpRedeems secret_0 n_1 codes_2 = some r) :
    Calls Tryd.prog 8 #[str secret_0, .int .i64 n_1, v1] w0 (Ret (fun v w' => v = .bool r ∧ Below w0.heap.size w0 w')) := by
  unfold law23_OtpRedeems at hS
  have hb := Below.refl w0.heap.size w0
  replace h2 := h2.weak (A' := fun _ => False) (fun _ h => h.elim)
  obtain ⟨A0, hA0, hAe⟩ : ∃ A0 : Nat → Prop, (∀ b, A0 b → b < w0.heap.size) ∧ A0 = fun _ => False := ⟨_, fun _ h => h.elim, rfl⟩
  rw [← hAe] at h2
  clear hAe
  have hA := hA0
  have hi : ∀ b, A0 b → A0 b := fun _ h => h
  have hH := Hp.nil A0 w0.heap.size w0
  refine calls_of_ke Tryd.func8 rfl (n := 144) rfl rfl (l := [(0, str secret_0), (1, .int .i64 n_1), (2, v1)]) rfl ?_
  refine ke_seq ?_
  refine ke_region ?_
  refine sr_ev (v := .bool false) (ev_assign rfl) (by decide) ?_
  refine sr_end (l' := [(0, str secret_0), (1, .int .i64 n_1), (2, v1)]) (.cons rfl (.cons rfl (.cons rfl (.nil _)))) ?_
  refine ke_seq ?_
  refine ke_seq ?_
  refine ke_region ?_
  refine sr_ev (v := str secret_0) (ev_move rfl) (by decide) ?_
  refine sr_ev (v := .int .i64 (secret_0.length : Int)) (ev_slen Tryd.underlying9 rfl) (by decide) ?_
  refine sr_ev (v := .bool (decide ((secret_0.length : Int) > 300))) (ev_gt rfl rfl) (by decide) ?_
  refine sr_ev (v := .bool (decide ((secret_0.length : Int) > 300))) (ev_move rfl) (by decide) ?_
  obtain ⟨z5, hz7, hS⟩ := bind_some' hS
  refine sr_join (m := 4) (C := fun (x : Bool) w1 => z5 = x ∧ Below w0.heap.size w0 w1) (l' := fun x => [(0, str secret_0), (1, .int .i64 n_1), (2, v1), (24, .bool x)]) ?_ ?_
  · rintro _ w8 ⟨rfl, hbw9⟩
    replace hb := hb.trans (hbw9.mono hb.size)
    replace hA := lt_mono hA hbw9.size
    replace hH := hH.below hbw9
    replace h2 := h2.below hbw9
    refine sr_end (l' := [(0, str secret_0), (1, .int .i64 n_1), (2, v1), (24, .bool z5)]) (.cons rfl (.cons rfl (.cons rfl (.cons rfl (.nil _))))) ?_
    refine ke_cond (t := z5) rfl (fun hc14 => ?_) (fun hc14 => ?_)
    · replace hS := ite_true' hS hc14
      refine ke_seq ?_
      refine ke_region ?_
      obtain ⟨y15, hy16, hS⟩ := bind_some' hS
      refine sr_call (vs := []) rfl Tryd.call9 rfl (law23_alive_ok _ (hg.below hb) hy16) (by decide) ?_
      rintro _ w17 ⟨rfl, hbw18⟩
      replace hb := hb.trans (hbw18.mono hb.size)
      replace hA := lt_mono hA hbw18.size
      replace hH := hH.below hbw18
      refine sr_ev (v := .bool y15) (ev_assign rfl) (by decide) ?_
      refine sr_end (l' := [(6, .bool y15)]) (.cons rfl (.nil _)) ?_
      cases hS
      exact ke_ret1 Tryd.func8 rfl rfl ⟨_, rfl, rfl, hb⟩
    · replace hS := ite_false' hS hc14
      refine ke_skip ?_
      refine ke_seq ?_
      refine ke_seq ?_
      refine ke_region ?_
      refine sr_ev (v := .int .i64 n_1) (ev_move rfl) (by decide) ?_
      refine sr_ev (v := .bool (decide (n_1 ≥ 1))) (ev_ge rfl rfl) (by decide) ?_
      refine sr_ev (v := .bool (decide (n_1 ≥ 1))) (ev_move rfl) (by decide) ?_
      refine sr_join (m := 3) (C := fun (x : Bool) w1 => x = ((decide (n_1 ≥ 1)) && (decide (n_1 < 16))) ∧ w8 = w1) (l' := fun x => [(0, str secret_0), (1, .int .i64 n_1), (2, v1), (31, .bool x)]) ?_ ?_
      · rintro _ _ ⟨rfl, rfl⟩
        refine sr_end (l' := [(0, str secret_0), (1, .int .i64 n_1), (2, v1), (31, .bool ((decide (n_1 ≥ 1)) && (decide (n_1 < 16))))]) (.cons rfl (.cons rfl (.cons rfl (.cons rfl (.nil _))))) ?_
        refine ke_cond (t := (decide (n_1 ≥ 1)) && (decide (n_1 < 16))) rfl (fun hc26 => ?_) (fun hc26 => ?_)
        · replace hS := ite_true' hS hc26
          refine ke_seq ?_
          refine ke_region ?_
          refine sr_ev (v := str secret_0) (ev_move rfl) (by decide) ?_
          refine sr_ev (v := .int .i64 n_1) (ev_move rfl) (by decide) ?_
          obtain ⟨y27, hy28, hS⟩ := bind_some' hS
          refine sr_call (vs := [str secret_0, .int .i64 n_1]) rfl Tryd.call21 rfl (otp_Recovery_ok _ (hg.below hb) hA hy28) (by decide) ?_
          rintro _ w29 ⟨v31, rfl, h32, hbw30⟩
          replace hb := hb.trans (hbw30.mono hb.size)
          replace hA := lt_mono hA hbw30.size
          replace hH := hH.below hbw30
          replace h2 := h2.below hbw30
          refine sr_ev (v := .tuple #[v31, .int .i64 y27.2]) (ev_move rfl) (by decide) ?_
          refine sr_ev (v := v31) (ev_extract rfl rfl) (by decide) ?_
          refine sr_ev (v := .int .i64 y27.2) (ev_extract rfl rfl) (by decide) ?_
          refine sr_ev (v := v31) (ev_assign rfl) (by decide) ?_
          refine sr_ev (v := .int .i64 y27.2) (ev_assign rfl) (by decide) ?_
          refine sr_end (l' := [(0, str secret_0), (1, .int .i64 n_1), (2, v1), (7, v31), (8, .int .i64 y27.2)]) (.cons rfl (.cons rfl (.cons rfl (.cons rfl (.cons rfl (.nil _)))))) ?_
          refine ke_seq ?_
          refine ke_region ?_
          refine sr_ev (v := str secret_0) (ev_move rfl) (by decide) ?_
          refine sr_ev (v := .int .i64 n_1) (ev_move rfl) (by decide) ?_
          refine sr_ev (v := .int .i64 (IntKind.i64.wrap (n_1 + 1))) (ev_add rfl rfl) (by decide) ?_
          obtain ⟨y33, hy34, hS⟩ := bind_some' hS
          refine sr_call (vs := [str secret_0, .int .i64 (IntKind.i64.wrap (n_1 + 1))]) rfl Tryd.call21 rfl (otp_Recovery_ok _ (hg.below hb) hA hy34) (by decide) ?_
          rintro _ w35 ⟨v37, rfl, h38, hbw36⟩
          replace hb := hb.trans (hbw36.mono hb.size)
          replace hA := lt_mono hA hbw36.size
          replace hH := hH.below hbw36
          replace h2 := h2.below hbw36
          replace h32 := h32.below hbw36
          refine sr_ev (v := .tuple #[v37, .int .i64 y33.2]) (ev_move rfl) (by decide) ?_
          refine sr_ev (v := v37) (ev_extract rfl rfl) (by decide) ?_
          refine sr_ev (v := .int .i64 y33.2) (ev_extract rfl rfl) (by decide) ?_
          refine sr_ev (v := v37) (ev_assign rfl) (by decide) ?_
          refine sr_ev (v := .int .i64 y33.2) (ev_assign rfl) (by decide) ?_
          refine sr_end (l' := [(0, str secret_0), (1, .int .i64 n_1), (2, v1), (7, v31), (8, .int .i64 y27.2), (9, v37), (10, .int .i64 y33.2)]) (.cons rfl (.cons rfl (.cons rfl (.cons rfl (.cons rfl (.cons rfl (.cons rfl (.nil _)))))))) ?_
          refine ke_seq ?_
          refine ke_region ?_
          refine sr_ev (v := str secret_0) (ev_move rfl) (by decide) ?_
          obtain ⟨y39, hy40, hS⟩ := bind_some' hS
          refine sr_call (vs := [str secret_0, str ([114, 101, 99, 111, 118, 101, 114, 121, 48])]) rfl Tryd.call27 rfl (digest_Mac_ok _ (hg.below hb) hy40) (by decide) ?_
          rintro _ w41 ⟨rfl, hbw42⟩
          replace hb := hb.trans (hbw42.mono hb.size)
          replace hA := lt_mono hA hbw42.size
          replace hH := hH.below hbw42
          replace h2 := h2.below hbw42
          replace h32 := h32.below hbw42
          replace h38 := h38.below hbw42
          refine sr_ev (v := str y39) (ev_assign rfl) (by decide) ?_
          refine sr_end (l' := [(1, .int .i64 n_1), (2, v1), (7, v31), (8, .int .i64 y27.2), (9, v37), (10, .int .i64 y33.2), (11, str y39)]) (.cons rfl (.cons rfl (.cons rfl (.cons rfl (.cons rfl (.cons rfl (.cons rfl (.nil _)))))))) ?_
          refine ke_seq ?_
          refine ke_region_q Tryd.mixed (by kernel_rfl) ?_
          refine sq_ev (v := .int .i64 y27.2) (fun w1 hw1 => ev_move rfl) (by decide) ?_
          refine sq_ev (v := .int .i64 y33.2) (fun w1 hw1 => ev_move rfl) (by decide) ?_
          refine sq_ev (v := .bool (y27.2 != y33.2)) (fun w1 hw1 => ev_ne rfl rfl) (by decide) ?_
          refine sq_ev (v := .bool (y27.2 != y33.2)) (fun w1 hw1 => ev_move rfl) (by decide) ?_
          obtain ⟨z47, hz49, hS⟩ := bind_some' hS
          refine sq_join (m := 37) (C := fun (x : Bool) => z47 = x) (l' := fun x => [(2, v1), (87, .bool x)]) ?_ ?_
          · rintro _ rfl
            refine sq_end (l' := [(2, v1), (87, .bool z47)]) (.cons rfl (.cons rfl (.nil _))) (fun w44 hw43 => ?_)
            replace hb := hb.trans (hw43.mono hb.size)
            replace hA := lt_mono hA hw43.size
            replace hH := hH.below hw43
            replace h2 := h2.below hw43
            refine ke_cond (t := z47) rfl (fun hc102 => ?_) (fun hc102 => ?_)
            · replace hS := ite_true' hS hc102
              refine ke_seq ?_
              refine ke_region ?_
              refine sr_ev (v := .bool false) (ev_assign rfl) (by decide) ?_
              refine sr_end (l' := [(6, .bool false)]) (.cons rfl (.nil _)) ?_
              cases hS
              exact ke_ret1 Tryd.func8 rfl rfl ⟨_, rfl, rfl, hb⟩
            · replace hS := ite_false' hS hc102
              refine ke_skip ?_
              have hK := law23_OtpRedeems_B1_ok hg hA0 hS hb hA hi hH h2
              exact ke_weaken (l' := [(2, v1)]) (.cons rfl (.nil _)) hK
          · intro K46
            clear hS
            rcases Bool.eq_false_or_eq_true (y27.2 != y33.2) with hg45 | hg45
            · have hS := ite_true' hz49 hg45
              refine sq_pass (e := 50) rfl rfl (by rw [hg45]; rfl) (by decide) ?_
              refine sq_pass (e := 50) rfl rfl (by rw [hg45]; rfl) (by decide) ?_
              refine sq_pass (e := 50) rfl rfl (by rw [hg45]; rfl) (by decide) ?_
              refine sq_pass_undef (e := 53) rfl rfl (by decide) ?_
              refine sq_pass_undef (e := 53) rfl rfl (by decide) ?_
              refine sq_pass_undef (e := 53) rfl rfl (by decide) ?_
              refine sq_pass_undef (e := 53) rfl rfl (by decide) ?_
              refine sq_pass_undef (e := 53) rfl rfl (by decide) ?_
              refine sq_pass_undef (e := 58) rfl rfl (by decide) ?_
              refine sq_pass_undef (e := 58) rfl rfl (by decide) ?_
              refine sq_pass_undef (e := 58) rfl rfl (by decide) ?_
              refine sq_pass_undef (e := 58) rfl rfl (by decide) ?_
              refine sq_pass_undef (e := 58) rfl rfl (by decide) ?_
              refine sq_pass_undef (e := 53) rfl rfl (by decide) ?_
              refine sq_pass_undef (e := 53) rfl rfl (by decide) ?_
              refine sq_pass_undef (e := 65) rfl rfl (by decide) ?_
              refine sq_pass_undef (e := 65) rfl rfl (by decide) ?_
              refine sq_pass_undef (e := 65) rfl rfl (by decide) ?_
              refine sq_pass_undef (e := 65) rfl rfl (by decide) ?_
              refine sq_pass_undef (e := 65) rfl rfl (by decide) ?_
              refine sq_pass_undef (e := 65) rfl rfl (by decide) ?_
              refine sq_pass_undef (e := 53) rfl rfl (by decide) ?_
              refine sq_pass_undef (e := 53) rfl rfl (by decide) ?_
              refine sq_pass_undef (e := 73) rfl rfl (by decide) ?_
              refine sq_pass_undef (e := 73) rfl rfl (by decide) ?_
              refine sq_pass_undef (e := 73) rfl rfl (by decide) ?_
              refine sq_pass_undef (e := 53) rfl rfl (by decide) ?_
              refine sq_pass_undef (e := 53) rfl rfl (by decide) ?_
              refine sq_pass_undef (e := 78) rfl rfl (by decide) ?_
              refine sq_pass_undef (e := 78) rfl rfl (by decide) ?_
              refine sq_pass_undef (e := 78) rfl rfl (by decide) ?_
              refine sq_pass_undef (e := 78) rfl rfl (by decide) ?_
              refine sq_pass_undef (e := 78) rfl rfl (by decide) ?_
              refine sq_pass_undef (e := 78) rfl rfl (by decide) ?_
              refine sq_pass_undef (e := 53) rfl rfl (by decide) ?_
              refine sq_pass (e := 50) rfl rfl (by rw [hg45]; rfl) (by decide) ?_
              refine sq_ev (v := .bool true) (fun w1 hw1 => ev_pick_t rfl hg45 rfl) (by decide) ?_
              exact sq_weaken (l' := [(2, v1), (87, .bool true)]) (.cons rfl (.cons rfl (.nil _))) (K46 true (Option.some.inj hS).symm)
            · have hS := ite_false' hz49 hg45
              refine sq_evg (b := false) (e := 50) rfl rfl hg45 (v := .int .i64 y27.2) (fun w1 hw1 => ev_move rfl) (by decide) ?_
              refine sq_evg (b := false) (e := 50) rfl rfl hg45 (v := .bool (y27.2 == 0)) (fun w1 hw1 => ev_eq rfl rfl) (by decide) ?_
              refine sq_evg (b := false) (e := 50) rfl rfl hg45 (v := .bool (y27.2 == 0)) (fun w1 hw1 => ev_move rfl) (by decide) ?_
              obtain ⟨z54, hz56, hS⟩ := bind_some' hS
              refine sq_join (m := 33) (C := fun (x : Bool) => z54 = x) (l' := fun x => [(2, v1), (50, .bool (y27.2 != y33.2)), (86, .bool x)]) ?_ ?_
              · rintro _ rfl
                refine sq_ev (v := .bool z54) (fun w1 hw1 => ev_pick_f rfl hg45 rfl) (by decide) ?_
                exact sq_weaken (l' := [(2, v1), (87, .bool z54)]) (.cons rfl (.cons rfl (.nil _))) (K46 z54 (Option.some.inj hS).symm)
              · intro K53
                clear hS
                rcases Bool.eq_false_or_eq_true (y27.2 == 0) with hg52 | hg52
                · have hS := ite_true' hz56 hg52
                  refine sq_evg (b := true) (e := 53) rfl rfl hg52 (v := v31) (fun w1 hw1 => ev_move rfl) (by decide) ?_
                  refine sq_evg (b := true) (e := 53) rfl rfl hg52 (v := .int .i64 (y27.1.length : Int)) (fun w1 hw1 => ev_sllen Tryd.underlying35 rfl (h32.below hw1)) (by decide) ?_
                  refine sq_evg (b := true) (e := 53) rfl rfl hg52 (v := .int .i64 n_1) (fun w1 hw1 => ev_move rfl) (by decide) ?_
                  refine sq_evg (b := true) (e := 53) rfl rfl hg52 (v := .bool ((y27.1.length : Int) != n_1)) (fun w1 hw1 => ev_ne rfl rfl) (by decide) ?_
                  refine sq_evg (b := true) (e := 53) rfl rfl hg52 (v := .bool ((y27.1.length : Int) != n_1)) (fun w1 hw1 => ev_move rfl) (by decide) ?_
                  refine sq_join (m := 6) (C := fun (x : Bool) => x = (((y27.1.length : Int) != n_1) || ((y33.1.length : Int) != (IntKind.i64.wrap (n_1 + 1))))) (l' := fun x => [(1, .int .i64 n_1), (2, v1), (7, v31), (9, v37), (11, str y39), (50, .bool (y27.2 != y33.2)), (53, .bool (y27.2 == 0)), (64, .bool x)]) ?_ ?_
                  · rintro _ rfl
                    refine sq_evg (b := true) (e := 53) rfl rfl hg52 (v := .bool (((y27.1.length : Int) != n_1) || ((y33.1.length : Int) != (IntKind.i64.wrap (n_1 + 1))))) (fun w1 hw1 => ev_move rfl) (by decide) ?_
                    obtain ⟨z68, hz70, hS⟩ := bind_some' hS
                    refine sq_join (m := 7) (C := fun (x : Bool) => z68 = x) (l' := fun x => [(2, v1), (7, v31), (11, str y39), (50, .bool (y27.2 != y33.2)), (53, .bool (y27.2 == 0)), (72, .bool x)]) ?_ ?_
                    · rintro _ rfl
                      refine sq_evg (b := true) (e := 53) rfl rfl hg52 (v := .bool z68) (fun w1 hw1 => ev_move rfl) (by decide) ?_
                      refine sq_join (m := 4) (C := fun (x : Bool) => x = (z68 || (decide ((y39.length : Int) < 10)))) (l' := fun x => [(2, v1), (7, v31), (11, str y39), (50, .bool (y27.2 != y33.2)), (53, .bool (y27.2 == 0)), (77, .bool x)]) ?_ ?_
                      · rintro _ rfl
                        refine sq_evg (b := true) (e := 53) rfl rfl hg52 (v := .bool (z68 || (decide ((y39.length : Int) < 10)))) (fun w1 hw1 => ev_move rfl) (by decide) ?_
                        obtain ⟨z90, hz92, hS⟩ := bind_some' hS
                        refine sq_join (m := 7) (C := fun (x : Bool) => z90 = x) (l' := fun x => [(2, v1), (50, .bool (y27.2 != y33.2)), (53, .bool (y27.2 == 0)), (85, .bool x)]) ?_ ?_
                        · rintro _ rfl
                          refine sq_evg (b := false) (e := 50) rfl rfl hg45 (v := .bool z90) (fun w1 hw1 => ev_pick_t rfl hg52 rfl) (by decide) ?_
                          exact sq_weaken (l' := [(2, v1), (50, .bool (y27.2 != y33.2)), (86, .bool z90)]) (.cons rfl (.cons rfl (.cons rfl (.nil _)))) (K53 z90 (Option.some.inj hS).symm)
                        · intro K89
                          clear hS
                          rcases Bool.eq_false_or_eq_true (z68 || (decide ((y39.length : Int) < 10))) with hg88 | hg88
                          · have hS := ite_true' hz92 hg88
                            refine sq_pass (e := 78) rfl rfl (by rw [hg88]; rfl) (by decide) ?_
                            refine sq_pass (e := 78) rfl rfl (by rw [hg88]; rfl) (by decide) ?_
                            refine sq_pass (e := 78) rfl rfl (by rw [hg88]; rfl) (by decide) ?_
                            refine sq_pass (e := 78) rfl rfl (by rw [hg88]; rfl) (by decide) ?_
                            refine sq_pass (e := 78) rfl rfl (by rw [hg88]; rfl) (by decide) ?_
                            refine sq_pass (e := 78) rfl rfl (by rw [hg88]; rfl) (by decide) ?_
                            refine sq_evg (b := true) (e := 53) rfl rfl hg52 (v := .bool true) (fun w1 hw1 => ev_pick_t rfl hg88 rfl) (by decide) ?_
                            exact sq_weaken (l' := [(2, v1), (50, .bool (y27.2 != y33.2)), (53, .bool (y27.2 == 0)), (85, .bool true)]) (.cons rfl (.cons rfl (.cons rfl (.cons rfl (.nil _))))) (K89 true (Option.some.inj hS).symm)
                          · have hS := ite_false' hz92 hg88
                            refine sq_evg (b := false) (e := 78) rfl rfl hg88 (v := v31) (fun w1 hw1 => ev_move rfl) (by decide) ?_
                            obtain ⟨y95, hy96, hS⟩ := bind_some' hS
                            obtain ⟨b97, o98, cs100, he99, hixhe99⟩ := h32.elem Tryd.underlying35 Tryd.info9 rfl (P := Tryd.prog) hy96
                            obtain rfl : cs100 = [str y95] := he99.rd
                            refine sq_evg (b := false) (e := 78) rfl rfl hg88 (v := .pointer (some ⟨b97, o98, none⟩)) (fun w1 hw1 => hixhe99 w1 hw1 rfl rfl) (by decide) ?_
                            refine sq_evg (b := false) (e := 78) rfl rfl hg88 (v := str y95) (fun w1 hw1 => ev_load Tryd.isAgg9 rfl ((he99.step (.of_below hw1) (Nat.succ_pos _)).cell 0 _ rfl)) (by decide) ?_
                            refine sq_evg (b := false) (e := 78) rfl rfl hg88 (v := str y39) (fun w1 hw1 => ev_move rfl) (by decide) ?_
                            obtain ⟨hk101, hS⟩ := chk_some hS
                            refine sq_evg (b := false) (e := 78) rfl rfl hg88 (v := str (cut y39 0 10)) (fun w1 hw1 => ev_sslice_to Tryd.underlying9 rfl rfl hk101) (by decide) ?_
                            refine sq_evg (b := false) (e := 78) rfl rfl hg88 (v := .bool (!(y95 == (cut y39 0 10)))) (fun w1 hw1 => ev_sne rfl rfl) (by decide) ?_
                            refine sq_evg (b := true) (e := 53) rfl rfl hg52 (v := .bool (!(y95 == (cut y39 0 10)))) (fun w1 hw1 => ev_pick_f rfl hg88 rfl) (by decide) ?_
                            exact sq_weaken (l' := [(2, v1), (50, .bool (y27.2 != y33.2)), (53, .bool (y27.2 == 0)), (85, .bool (!(y95 == (cut y39 0 10))))]) (.cons rfl (.cons rfl (.cons rfl (.cons rfl (.nil _))))) (K89 (!(y95 == (cut y39 0 10))) (Option.some.inj hS).symm)
                      · intro K82
                        rcases Bool.eq_false_or_eq_true z68 with hg81 | hg81
                        · refine sq_pass (e := 73) rfl rfl (by rw [hg81]; rfl) (by decide) ?_
                          refine sq_pass (e := 73) rfl rfl (by rw [hg81]; rfl) (by decide) ?_
                          refine sq_pass (e := 73) rfl rfl (by rw [hg81]; rfl) (by decide) ?_
                          refine sq_evg (b := true) (e := 53) rfl rfl hg52 (v := .bool true) (fun w1 hw1 => ev_pick_t rfl hg81 rfl) (by decide) ?_
                          exact sq_weaken (l' := [(2, v1), (7, v31), (11, str y39), (50, .bool (y27.2 != y33.2)), (53, .bool (y27.2 == 0)), (77, .bool true)]) (.cons rfl (.cons rfl (.cons rfl (.cons rfl (.cons rfl (.cons rfl (.nil _))))))) (K82 true (by rw [hg81]; rfl))
                        · refine sq_evg (b := false) (e := 73) rfl rfl hg81 (v := str y39) (fun w1 hw1 => ev_move rfl) (by decide) ?_
                          refine sq_evg (b := false) (e := 73) rfl rfl hg81 (v := .int .i64 (y39.length : Int)) (fun w1 hw1 => ev_slen Tryd.underlying9 rfl) (by decide) ?_
                          refine sq_evg (b := false) (e := 73) rfl rfl hg81 (v := .bool (decide ((y39.length : Int) < 10))) (fun w1 hw1 => ev_lt rfl rfl) (by decide) ?_
                          refine sq_evg (b := true) (e := 53) rfl rfl hg52 (v := .bool (decide ((y39.length : Int) < 10))) (fun w1 hw1 => ev_pick_f rfl hg81 rfl) (by decide) ?_
                          exact sq_weaken (l' := [(2, v1), (7, v31), (11, str y39), (50, .bool (y27.2 != y33.2)), (53, .bool (y27.2 == 0)), (77, .bool (decide ((y39.length : Int) < 10)))]) (.cons rfl (.cons rfl (.cons rfl (.cons rfl (.cons rfl (.cons rfl (.nil _))))))) (K82 (decide ((y39.length : Int) < 10)) (by rw [hg81]; rfl))
                    · intro K67
                      clear hS
                      rcases Bool.eq_false_or_eq_true (((y27.1.length : Int) != n_1) || ((y33.1.length : Int) != (IntKind.i64.wrap (n_1 + 1)))) with hg66 | hg66
                      · have hS := ite_true' hz70 hg66
                        refine sq_pass (e := 65) rfl rfl (by rw [hg66]; rfl) (by decide) ?_
                        refine sq_pass (e := 65) rfl rfl (by rw [hg66]; rfl) (by decide) ?_
                        refine sq_pass (e := 65) rfl rfl (by rw [hg66]; rfl) (by decide) ?_
                        refine sq_pass (e := 65) rfl rfl (by rw [hg66]; rfl) (by decide) ?_
                        refine sq_pass (e := 65) rfl rfl (by rw [hg66]; rfl) (by decide) ?_
                        refine sq_pass (e := 65) rfl rfl (by rw [hg66]; rfl) (by decide) ?_
                        refine sq_evg (b := true) (e := 53) rfl rfl hg52 (v := .bool true) (fun w1 hw1 => ev_pick_t rfl hg66 rfl) (by decide) ?_
                        exact sq_weaken (l' := [(2, v1), (7, v31), (11, str y39), (50, .bool (y27.2 != y33.2)), (53, .bool (y27.2 == 0)), (72, .bool true)]) (.cons rfl (.cons rfl (.cons rfl (.cons rfl (.cons rfl (.cons rfl (.nil _))))))) (K67 true (Option.some.inj hS).symm)
                      · have hS := ite_false' hz70 hg66
                        refine sq_evg (b := false) (e := 65) rfl rfl hg66 (v := v31) (fun w1 hw1 => ev_move rfl) (by decide) ?_
                        refine sq_evg (b := false) (e := 65) rfl rfl hg66 (v := v37) (fun w1 hw1 => ev_move rfl) (by decide) ?_
                        refine sq_evg (b := false) (e := 65) rfl rfl hg66 (v := .int .i64 n_1) (fun w1 hw1 => ev_move rfl) (by decide) ?_
                        obtain ⟨hk73, hS⟩ := chk_some hS
                        obtain ⟨v74, h75, hq76⟩ := h38.cutQ_h (P := Tryd.prog) Tryd.underlying35 Tryd.info9 rfl hk73
                        refine sq_evg (b := false) (e := 65) rfl rfl hg66 (v := v74) (fun w1 hw1 => hq76 w1 rfl rfl) (by decide) ?_
                        obtain ⟨y77, hy78, hS⟩ := bind_some' hS
                        refine sq_callg (b := false) (e := 65) rfl rfl hg66 (v := .bool y77) (vs := [v31, v74]) rfl Tryd.call25 rfl (fun w1 hw1 => (ref07_Lists_ok _ (hg.below (hb.trans (hw1.mono hb.size))) (h32.below hw1) (h75.below hw1) hy78)) (by decide) ?_
                        refine sq_evg (b := false) (e := 65) rfl rfl hg66 (v := .bool (!y77)) (fun w1 hw1 => ev_not rfl) (by decide) ?_
                        refine sq_evg (b := true) (e := 53) rfl rfl hg52 (v := .bool (!y77)) (fun w1 hw1 => ev_pick_f rfl hg66 rfl) (by decide) ?_
                        exact sq_weaken (l' := [(2, v1), (7, v31), (11, str y39), (50, .bool (y27.2 != y33.2)), (53, .bool (y27.2 == 0)), (72, .bool (!y77))]) (.cons rfl (.cons rfl (.cons rfl (.cons rfl (.cons rfl (.cons rfl (.nil _))))))) (K67 (!y77) (Option.some.inj hS).symm)
                  · intro K60
                    rcases Bool.eq_false_or_eq_true ((y27.1.length : Int) != n_1) with hg59 | hg59
                    · refine sq_pass (e := 58) rfl rfl (by rw [hg59]; rfl) (by decide) ?_
                      refine sq_pass (e := 58) rfl rfl (by rw [hg59]; rfl) (by decide) ?_
                      refine sq_pass (e := 58) rfl rfl (by rw [hg59]; rfl) (by decide) ?_
                      refine sq_pass (e := 58) rfl rfl (by rw [hg59]; rfl) (by decide) ?_
                      refine sq_pass (e := 58) rfl rfl (by rw [hg59]; rfl) (by decide) ?_
                      refine sq_evg (b := true) (e := 53) rfl rfl hg52 (v := .bool true) (fun w1 hw1 => ev_pick_t rfl hg59 rfl) (by decide) ?_
                      exact sq_weaken (l' := [(1, .int .i64 n_1), (2, v1), (7, v31), (9, v37), (11, str y39), (50, .bool (y27.2 != y33.2)), (53, .bool (y27.2 == 0)), (64, .bool true)]) (.cons rfl (.cons rfl (.cons rfl (.cons rfl (.cons rfl (.cons rfl (.cons rfl (.cons rfl (.nil _))))))))) (K60 true (by rw [hg59]; rfl))
                    · refine sq_evg (b := false) (e := 58) rfl rfl hg59 (v := v37) (fun w1 hw1 => ev_move rfl) (by decide) ?_
                      refine sq_evg (b := false) (e := 58) rfl rfl hg59 (v := .int .i64 (y33.1.length : Int)) (fun w1 hw1 => ev_sllen Tryd.underlying35 rfl (h38.below hw1)) (by decide) ?_
                      refine sq_evg (b := false) (e := 58) rfl rfl hg59 (v := .int .i64 n_1) (fun w1 hw1 => ev_move rfl) (by decide) ?_
                      refine sq_evg (b := false) (e := 58) rfl rfl hg59 (v := .int .i64 (IntKind.i64.wrap (n_1 + 1))) (fun w1 hw1 => ev_add rfl rfl) (by decide) ?_
                      refine sq_evg (b := false) (e := 58) rfl rfl hg59 (v := .bool ((y33.1.length : Int) != (IntKind.i64.wrap (n_1 + 1)))) (fun w1 hw1 => ev_ne rfl rfl) (by decide) ?_
                      refine sq_evg (b := true) (e := 53) rfl rfl hg52 (v := .bool ((y33.1.length : Int) != (IntKind.i64.wrap (n_1 + 1)))) (fun w1 hw1 => ev_pick_f rfl hg59 rfl) (by decide) ?_
                      exact sq_weaken (l' := [(1, .int .i64 n_1), (2, v1), (7, v31), (9, v37), (11, str y39), (50, .bool (y27.2 != y33.2)), (53, .bool (y27.2 == 0)), (64, .bool ((y33.1.length : Int) != (IntKind.i64.wrap (n_1 + 1))))]) (.cons rfl (.cons rfl (.cons rfl (.cons rfl (.cons rfl (.cons rfl (.cons rfl (.cons rfl (.nil _))))))))) (K60 ((y33.1.length : Int) != (IntKind.i64.wrap (n_1 + 1))) (by rw [hg59]; rfl))
                · have hS := ite_false' hz56 hg52
                  refine sq_pass (e := 53) rfl rfl (by rw [hg52]; rfl) (by decide) ?_
                  refine sq_pass (e := 53) rfl rfl (by rw [hg52]; rfl) (by decide) ?_
                  refine sq_pass (e := 53) rfl rfl (by rw [hg52]; rfl) (by decide) ?_
                  refine sq_pass (e := 53) rfl rfl (by rw [hg52]; rfl) (by decide) ?_
                  refine sq_pass (e := 53) rfl rfl (by rw [hg52]; rfl) (by decide) ?_
                  refine sq_pass_undef (e := 58) rfl rfl (by decide) ?_
                  refine sq_pass_undef (e := 58) rfl rfl (by decide) ?_
                  refine sq_pass_undef (e := 58) rfl rfl (by decide) ?_
                  refine sq_pass_undef (e := 58) rfl rfl (by decide) ?_
                  refine sq_pass_undef (e := 58) rfl rfl (by decide) ?_
                  refine sq_pass (e := 53) rfl rfl (by rw [hg52]; rfl) (by decide) ?_
                  refine sq_pass (e := 53) rfl rfl (by rw [hg52]; rfl) (by decide) ?_
                  refine sq_pass_undef (e := 65) rfl rfl (by decide) ?_
                  refine sq_pass_undef (e := 65) rfl rfl (by decide) ?_
                  refine sq_pass_undef (e := 65) rfl rfl (by decide) ?_
                  refine sq_pass_undef (e := 65) rfl rfl (by decide) ?_
                  refine sq_pass_undef (e := 65) rfl rfl (by decide) ?_
                  refine sq_pass_undef (e := 65) rfl rfl (by decide) ?_
                  refine sq_pass (e := 53) rfl rfl (by rw [hg52]; rfl) (by decide) ?_
                  refine sq_pass (e := 53) rfl rfl (by rw [hg52]; rfl) (by decide) ?_
                  refine sq_pass_undef (e := 73) rfl rfl (by decide) ?_
                  refine sq_pass_undef (e := 73) rfl rfl (by decide) ?_
                  refine sq_pass_undef (e := 73) rfl rfl (by decide) ?_
                  refine sq_pass (e := 53) rfl rfl (by rw [hg52]; rfl) (by decide) ?_
                  refine sq_pass (e := 53) rfl rfl (by rw [hg52]; rfl) (by decide) ?_
                  refine sq_pass_undef (e := 78) rfl rfl (by decide) ?_
                  refine sq_pass_undef (e := 78) rfl rfl (by decide) ?_
                  refine sq_pass_undef (e := 78) rfl rfl (by decide) ?_
                  refine sq_pass_undef (e := 78) rfl rfl (by decide) ?_
                  refine sq_pass_undef (e := 78) rfl rfl (by decide) ?_
                  refine sq_pass_undef (e := 78) rfl rfl (by decide) ?_
                  refine sq_pass (e := 53) rfl rfl (by rw [hg52]; rfl) (by decide) ?_
                  refine sq_evg (b := false) (e := 50) rfl rfl hg45 (v := .bool false) (fun w1 hw1 => ev_pick_f rfl hg52 rfl) (by decide) ?_
                  exact sq_weaken (l' := [(2, v1), (50, .bool (y27.2 != y33.2)), (86, .bool false)]) (.cons rfl (.cons rfl (.cons rfl (.nil _)))) (K53 false (Option.some.inj hS).symm)
        · replace hS := ite_false' hS hc26
          refine ke_skip ?_
          have hK := law23_OtpRedeems_B1_ok hg hA0 hS hb hA hi hH h2
          exact ke_weaken (l' := [(2, v1)]) (.cons rfl (.nil _)) hK
      · intro K20
        rcases Bool.eq_false_or_eq_true (decide (n_1 ≥ 1)) with hg19 | hg19
        · refine sr_evg (b := true) (e := 28) rfl rfl hg19 (v := .int .i64 n_1) (ev_move rfl) (by decide) ?_
          refine sr_evg (b := true) (e := 28) rfl rfl hg19 (v := .bool (decide (n_1 < 16))) (ev_lt rfl rfl) (by decide) ?_
          refine sr_ev (v := .bool (decide (n_1 < 16))) (ev_pick_t rfl hg19 rfl) (by decide) ?_
          exact sr_weaken (l' := [(0, str secret_0), (1, .int .i64 n_1), (2, v1), (31, .bool (decide (n_1 < 16)))]) (.cons rfl (.cons rfl (.cons rfl (.cons rfl (.nil _))))) (K20 (decide (n_1 < 16)) _ ⟨by rw [hg19]; rfl, rfl⟩)
        · refine sr_pass (e := 28) rfl rfl (by rw [hg19]; rfl) (by decide) ?_
          refine sr_pass (e := 28) rfl rfl (by rw [hg19]; rfl) (by decide) ?_
          refine sr_ev (v := .bool false) (ev_pick_f rfl hg19 rfl) (by decide) ?_
          exact sr_weaken (l' := [(0, str secret_0), (1, .int .i64 n_1), (2, v1), (31, .bool false)]) (.cons rfl (.cons rfl (.cons rfl (.cons rfl (.nil _))))) (K20 false _ ⟨by rw [hg19]; rfl, rfl⟩)
  · intro K4
    clear hS
    have hj6 := Below.refl w0.heap.size w0
    rcases Bool.eq_false_or_eq_true (decide ((secret_0.length : Int) > 300)) with hg3 | hg3
    · have hS := ite_true' hz7 hg3
      refine sr_pass (e := 20) rfl rfl (by rw [hg3]; rfl) (by decide) ?_
      refine sr_pass (e := 20) rfl rfl (by rw [hg3]; rfl) (by decide) ?_
      refine sr_pass (e := 20) rfl rfl (by rw [hg3]; rfl) (by decide) ?_
      refine sr_ev (v := .bool true) (ev_pick_t rfl hg3 rfl) (by decide) ?_
      exact sr_weaken (l' := [(0, str secret_0), (1, .int .i64 n_1), (2, v1), (24, .bool true)]) (.cons rfl (.cons rfl (.cons rfl (.cons rfl (.nil _))))) (K4 true _ ⟨(Option.some.inj hS).symm, hj6⟩)
    · have hS := ite_false' hz7 hg3
      refine sr_evg (b := false) (e := 20) rfl rfl hg3 (v := v1) (ev_move rfl) (by decide) ?_
      obtain ⟨y10, hy11, hS⟩ := bind_some' hS
      refine sr_callg (b := false) (e := 20) rfl rfl hg3 (vs := [v1]) rfl Tryd.call20 rfl (law23_short_ok _ (hg.below hb) h2 hy11) (by decide) ?_
      rintro _ w12 ⟨rfl, hbw13⟩
      replace hb := hb.trans (hbw13.mono hb.size)
      replace hj6 := hj6.trans (hbw13.mono hj6.size)
      replace hA := lt_mono hA hbw13.size
      replace hH := hH.below hbw13
      replace h2 := h2.below hbw13
      refine sr_evg (b := false) (e := 20) rfl rfl hg3 (v := .bool (!y10)) (ev_not rfl) (by decide) ?_
      refine sr_ev (v := .bool (!y10)) (ev_pick_f rfl hg3 rfl) (by decide) ?_
      exact sr_weaken (l' := [(0, str secret_0), (1, .int .i64 n_1), (2, v1), (24, .bool (!y10))]) (.cons rfl (.cons rfl (.cons rfl (.cons rfl (.nil _))))) (K4 (!y10) _ ⟨(Option.some.inj hS).symm, hj6⟩)
end YtnhlljejhjbepaaDoor
end Go.Proofs
