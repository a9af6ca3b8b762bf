/- Own work: a part of the proofs of this seat. -/
import Derived.Test.YtibmfjehbmdbkaaProg
import Derived.Test.YtibmfjehbmdbkaaShelf
import Derived.Test.YtibmfjehbmdbkaaIter
import Derived.Test.YtibmfjehbmdbkaaKwHS
import Derived.KernelRfl
import Derived.Test.YtibmfjehbmdbkaaKwHDelegateOnlyW1
set_option linter.unusedVariables false
set_option linter.unusedSimpArgs false
set_option linter.unusedSectionVars false
set_option maxHeartbeats 8000000
set_option maxRecDepth 8000
namespace Go.Proofs
namespace Ytibmfjehbmdbkaa
open Go Go.KW Go.KW.S Go.RowKit
theorem delegate_Delegations_Scopes_ok (w0 : World) (hg : Gs w0) {ρA : Tags} (hbd : ∀ b, ρA b ≠ 0 → b < w0.heap.size) (hz : Gz ρA) {τ0 : Nat → Nat} (hτ0 : ∀ p, 1 ≤ τ0 p) {d_0 : delegate_Delegations} {from_1 : Str} {to_2 : Str} {now_3 : Int} {gd_0 : Nat} {r : List Str} (ho0 : delegate_Delegations.O τ0 ρA w0 gd_0 d_0) (hS : delegate_Delegations_Scopes d_0 from_1 to_2 now_3 = some r) :
  Calls Try.prog 16 #[.pointer (some ⟨gd_0, 0, none⟩), str from_1, str to_2, .int .i64 now_3] w0 (Ret (fun v w' => ∃ x1, v = x1 ∧ SlR strC (Wb ρA) w' x1 r ∧ Below w0.heap.size w0 w')) := by
 unfold delegate_Delegations_Scopes at hS
 have hb := flat1_fr (ρ := ρA) (w := w0) hbd
 have hz := hz.flat1
 obtain ⟨v1, hB3, h2⟩ := ho0
 replace hB3 := hB3.mv (flat1_mv (hτ0 0))
 replace h2 := h2.mv (flat1_mv (hτ0 1))
 replace hB3 : Blk (flat1 ρA) 1 w0 gd_0 (.cells #[v1] 54 (0, 0)) := hB3
 replace h2 : MapT delegate_way.ek delegate_delegation.c true (flat1 ρA) 1 w0 v1 d_0.ways := h2
 refine calls_of_ke Try.func16 rfl (n := 25) rfl rfl (l := [(0, .pointer (some ⟨gd_0, 0, none⟩)), (1, str from_1), (2, str to_2), (3, .int .i64 now_3)]) rfl ?_
 refine ke_seq ?_
 refine ke_region ?_
 refine sr_ev (v := .slice none 0 0) (ev_assign rfl) (by decide) ?_
 refine sr_end (l' := [(0, .pointer (some ⟨gd_0, 0, none⟩)), (1, str from_1), (2, str to_2), (3, .int .i64 now_3)]) (.cons rfl (.cons rfl (.cons rfl (.cons rfl (.nil _))))) ?_
 refine ke_seq ?_
 refine ke_seq ?_
 refine ke_region ?_
 refine sr_ev (v := .pointer (some ⟨gd_0, 0, none⟩)) (ev_move rfl) (by decide) ?_
 refine sr_ev (v := str from_1) (ev_move rfl) (by decide) ?_
 refine sr_ev (v := str to_2) (ev_move rfl) (by decide) ?_
 refine sr_ev (v := .int .i64 now_3) (ev_move rfl) (by decide) ?_
 obtain ⟨y6, hy7, hS⟩ := bind_some' hS
 refine sr_call (vs := [.pointer (some ⟨gd_0, 0, none⟩), str from_1, str to_2, (.slice none 0 0), .int .i64 now_3]) rfl Try.call26 rfl (delegate_Delegations_May_ok _ (hg.fr hz hb) (ρA := (flat1 ρA)) hb.bd (hz.fr hg hb) (τ0 := (fun _ => 1)) (fun _ => Nat.le_refl 1) (SlR.nil (A := Wb (flat1 ρA))) (⟨_, hB3, h2⟩ : delegate_Delegations.O (fun _ => 1) (flat1 ρA) w0 gd_0 d_0) hy7) (by decide) ?_
 rintro _ w8 ⟨rfl, hbw9⟩
 have htr10 := Tr.of_below hbw9 hb.bd
 replace hB3 := hB3.mv (htr10.mv (i := 1) rfl)
 replace h2 := h2.mv (htr10.mv (i := 1) rfl)
 replace hb := hb.trans htr10
 refine sr_ev (v := .bool (y6 != 0)) (ev_ne rfl rfl) (by decide) ?_
 refine sr_end (l' := [(0, .pointer (some ⟨gd_0, 0, none⟩)), (1, str from_1), (2, str to_2), (14, .bool (y6 != 0))]) (.cons rfl (.cons rfl (.cons rfl (.cons rfl (.nil _))))) ?_
 refine ke_cond (t := y6 != 0) rfl (fun hc11 => ?_) (fun hc11 => ?_)
 ·replace hS := ite_true' hS hc11
  refine ke_seq ?_
  refine ke_region ?_
  refine sr_ev (v := .slice none 0 0) (ev_assign rfl) (by decide) ?_
  refine sr_end (l' := [(8, .slice none 0 0)]) (.cons rfl (.nil _)) ?_
  cases hS
  exact ke_ret1 Try.func16 rfl rfl ⟨_, rfl, _, rfl, SlR.nil, (hb.below (flat1_le _))⟩
 ·replace hS := ite_false' hS hc11
  refine ke_skip ?_
  refine ke_seq ?_
  refine ke_region ?_
  refine sr_ev (v := .pointer (some ⟨gd_0, 0, none⟩)) (ev_move rfl) (by decide) ?_
  refine sr_ev (v := .pointer (some ⟨gd_0, 0, none⟩)) (ev_nilCheck rfl) (by decide) ?_
  refine sr_ev (v := .pointer (some ⟨gd_0, 0, none⟩)) (ev_fieldAddr (i := 0) Try.underlying54 rfl Try.info52 rfl rfl) (by decide) ?_
  refine sr_ev (v := v1) (ev_load Try.isAgg52 rfl (hB3.cell rfl)) (by decide) ?_
  refine sr_ev (v := str from_1) (ev_move rfl) (by decide) ?_
  refine sr_ev (v := str to_2) (ev_move rfl) (by decide) ?_
  refine sr_ev (v := .agg #[str from_1, str to_2]) (ev_build (vs := #[(0, str from_1), (1, str to_2)]) rfl (fun _ => by kernel_rfl)) (by decide) ?_
  obtain ⟨y16, hy17, hS⟩ := bind_some' hS
  replace hy17 := Option.some.inj hy17
  obtain ⟨cs12, hrd13, hl14, hl15⟩ := h2.look (zcs := [(.slice none 0 0), .int .i64 0, .int .i64 0]) (z := (delegate_delegation.mk ([] : List Str) (api_Window.mk 0 0))) Try.keyB63 Try.underlying52 Try.zeroValue61 ⟨_, rfl, SlR.nil⟩ (delegate_way.mk from_1 to_2)
  rw [hy17] at hrd13
  obtain ⟨v18, hcshrd13, h19⟩ := hrd13
  obtain rfl : cs12 = [v18, .int .i64 y16.window.From, .int .i64 y16.window.Until] := hcshrd13
  refine sr_ev (v := .agg #[v18, .int .i64 y16.window.From, .int .i64 y16.window.Until]) (hl14 w8 _ _ (Mv.of_below (i := 1) (ρ := (flat1 ρA)) (Below.refl _ _)) rfl rfl) (by decide) ?_
  refine sr_ev (v := v18) (ev_field rfl (fun _ => by kernel_rfl)) (by decide) ?_
  obtain ⟨y20, hy21, hS⟩ := bind_some' hS
  refine sr_call (vs := [v18]) rfl Try.call34 rfl (scope_Sorted_ok (A0 := Wb (flat1 ρA)) _ (hg.fr hz hb) h19 hb.bd hy21) (by decide) ?_
  rintro v25 w22 ⟨_, rfl, h26, hbw23⟩
  have htr24 := Tr.of_below hbw23 hb.bd
  replace hb := hb.trans htr24
  refine sr_ev (v := v25) (ev_assign rfl) (by decide) ?_
  refine sr_end (l' := [(8, v25)]) (.cons rfl (.nil _)) ?_
  cases hS
  exact ke_ret1 Try.func16 rfl rfl ⟨_, rfl, _, rfl, (SlR.mv h26 (flat1_back hb hbd)), (hb.below (flat1_le _))⟩
theorem ref03_Same_L1_ok {w0 : World} (hg : Gs w0) {A0 : Nat → Prop} (hA0 : ∀ b, A0 b → b < w0.heap.size) : ∀ (n : Nat), ∀ {r : Bool} {a_0 : List Str} {b_1 : List Str} {i_5 : Int} {va_0 : Value} {vb_1 : Value}, ref03_Same_L1 n a_0 b_1 i_5 = some r → ∀ {w : World} {A : Nat → Prop}, (Below w0.heap.size w0 w) → (∀ b, A b → b < w.heap.size) → (∀ b, A0 b → A b) → (Hp A w0.heap.size w []) → (SlR strC A w va_0 a_0) → (SlR strC A w vb_1 b_1) → KE Try.prog 15 (Ret (fun v w' => v = .bool r ∧ Below w0.heap.size w0 w')) 26 [.code (sub (bodyOf Try.f15) [2, 2, 1, 2, 2, 1]), .inLoop (sub (bodyOf Try.f15) [2, 2, 1, 2, 2, 1]), .inBlock 0, .code (sub (bodyOf Try.f15) [2, 2, 2])] [(0, va_0), (1, vb_1), (5, .int .i64 i_5)] w := by
 intro n
 induction n with
 | zero => intro r a_0 b_1 i_5 va_0 vb_1 hS; cases hS
 | succ n ih =>
  have hr0 : ∀ {r : Bool} {a_0 : List Str} {b_1 : List Str} {i_5 : Int} {va_0 : Value} {vb_1 : Value}, ref03_Same_L1 n a_0 b_1 i_5 = some r → ∀ {w : World} {A : Nat → Prop}, (Below w0.heap.size w0 w) → (∀ b, A b → b < w.heap.size) → (∀ b, A0 b → A b) → (Hp A w0.heap.size w []) → (SlR strC A w va_0 a_0) → (SlR strC A w vb_1 b_1) → KE Try.prog 15 (Ret (fun v w' => v = .bool r ∧ Below w0.heap.size w0 w')) 26 [.inLoop (sub (bodyOf Try.f15) [2, 2, 1, 2, 2, 1]), .inBlock 0, .code (sub (bodyOf Try.f15) [2, 2, 2])] [(0, va_0), (1, vb_1), (5, .int .i64 i_5)] w := fun {r} {a_0} {b_1} {i_5} {va_0} {vb_1} hS {w} {A} hb hA hi hH ha_0 hb_1 => ke_inLoop (ih hS hb hA hi hH ha_0 hb_1)
  clear ih
  intro r a_0 b_1 i_5 va_0 vb_1 hS w A hb hA hi hH ha_0 hb_1
  unfold ref03_Same_L1 at hS
  refine ke_seq ?_
  refine ke_seq ?_
  refine ke_region ?_
  refine sr_ev (v := .int .i64 i_5) (ev_move rfl) (by decide) ?_
  refine sr_ev (v := va_0) (ev_move rfl) (by decide) ?_
  refine sr_ev (v := .int .i64 (a_0.length : Int)) (ev_sllen Try.underlying23 rfl ha_0) (by decide) ?_
  refine sr_ev (v := .bool (decide (i_5 < (a_0.length : Int)))) (ev_lt rfl rfl) (by decide) ?_
  refine sr_end (l' := [(0, va_0), (1, vb_1), (5, .int .i64 i_5), (14, .bool (decide (i_5 < (a_0.length : Int))))]) (.cons rfl (.cons rfl (.cons rfl (.cons rfl (.nil _))))) ?_
  refine ke_cond (t := decide (i_5 < (a_0.length : Int))) rfl (fun hc6 => ?_) (fun hc6 => ?_)
  ·replace hS := ite_true' hS hc6
   refine ke_skip ?_
   refine ke_seq ?_
   refine ke_block ?_
   refine ke_seq ?_
   refine ke_region_q Try.mixed (by kernel_rfl) ?_
   refine sq_ev (v := va_0) (fun w1 hw1 => ev_move rfl) (by decide) ?_
   refine sq_ev (v := .int .i64 i_5) (fun w1 hw1 => ev_move rfl) (by decide) ?_
   obtain ⟨y9, hy10, hS⟩ := bind_some' hS
   obtain ⟨b11, o12, cs14, he13, hixhe13⟩ := ha_0.elem Try.underlying23 Try.info9 rfl (P := Try.prog) hy10
   obtain rfl : cs14 = [str y9] := he13.rd
   refine sq_ev (v := .pointer (some ⟨b11, o12, none⟩)) (fun w1 hw1 => hixhe13 w1 hw1 rfl rfl) (by decide) ?_
   refine sq_ev (v := str y9) (fun w1 hw1 => ev_load Try.isAgg9 rfl ((he13.step (.of_below hw1) (Nat.succ_pos _)).cell 0 _ rfl)) (by decide) ?_
   refine sq_ev (v := vb_1) (fun w1 hw1 => ev_move rfl) (by decide) ?_
   refine sq_ev (v := .int .i64 i_5) (fun w1 hw1 => ev_move rfl) (by decide) ?_
   obtain ⟨y15, hy16, hS⟩ := bind_some' hS
   obtain ⟨b17, o18, cs20, he19, hixhe19⟩ := hb_1.elem Try.underlying23 Try.info9 rfl (P := Try.prog) hy16
   obtain rfl : cs20 = [str y15] := he19.rd
   refine sq_ev (v := .pointer (some ⟨b17, o18, none⟩)) (fun w1 hw1 => hixhe19 w1 hw1 rfl rfl) (by decide) ?_
   refine sq_ev (v := str y15) (fun w1 hw1 => ev_load Try.isAgg9 rfl ((he19.step (.of_below hw1) (Nat.succ_pos _)).cell 0 _ rfl)) (by decide) ?_
   refine sq_ev (v := .bool (!(y9 == y15))) (fun w1 hw1 => ev_sne rfl rfl) (by decide) ?_
   refine sq_end (l' := [(0, va_0), (1, vb_1), (5, .int .i64 i_5), (25, .bool (!(y9 == y15)))]) (.cons rfl (.cons rfl (.cons rfl (.cons rfl (.nil _))))) (fun w8 hw7 => ?_)
   replace hb := hb.trans (hw7.mono hb.size)
   replace hA := lt_mono hA hw7.size
   replace hH := hH.below hw7
   replace ha_0 := ha_0.below hw7
   replace hb_1 := hb_1.below hw7
   refine ke_cond (t := !(y9 == y15)) rfl (fun hc21 => ?_) (fun hc21 => ?_)
   ·replace hS := ite_true' hS hc21
    refine ke_seq ?_
    refine ke_region ?_
    refine sr_ev (v := .bool false) (ev_assign rfl) (by decide) ?_
    refine sr_end (l' := [(4, .bool false)]) (.cons rfl (.nil _)) ?_
    cases hS
    exact ke_ret1 Try.func15 rfl rfl ⟨_, rfl, rfl, hb⟩
   ·replace hS := ite_false' hS hc21
    refine ke_skip ?_
    refine ke_inBlock ?_
    refine ke_region ?_
    refine sr_ev (v := .int .i64 i_5) (ev_move rfl) (by decide) ?_
    refine sr_ev (v := .int .i64 (IntKind.i64.wrap (i_5 + 1))) (ev_add rfl rfl) (by decide) ?_
    refine sr_ev (v := .int .i64 (IntKind.i64.wrap (i_5 + 1))) (ev_assign rfl) (by decide) ?_
    refine sr_end (l' := [(0, va_0), (1, vb_1), (5, .int .i64 (IntKind.i64.wrap (i_5 + 1)))]) (.cons rfl (.cons rfl (.cons rfl (.nil _)))) ?_
    have hK := hr0 hS hb hA hi hH ha_0 hb_1
    exact ke_weaken (l' := [(0, va_0), (1, vb_1), (5, .int .i64 (IntKind.i64.wrap (i_5 + 1)))]) (.cons rfl (.cons rfl (.cons rfl (.nil _)))) hK
  ·replace hS := ite_false' hS hc6
   refine ke_exit (k' := _) rfl ?_
   refine ke_seq ?_
   refine ke_region ?_
   refine sr_ev (v := .bool true) (ev_assign rfl) (by decide) ?_
   refine sr_end (l' := [(4, .bool true)]) (.cons rfl (.nil _)) ?_
   cases hS
   exact ke_ret1 Try.func15 rfl rfl ⟨_, rfl, rfl, hb⟩
theorem ref03_Same_ok {A0 : Nat → Prop} (w0 : World) (hg : Gs w0) {a_0 : List Str} {b_1 : List Str} {v1 : Value} {v3 : Value} {r : Bool} (h2 : SlR strC A0 w0 v1 a_0) (h4 : SlR strC A0 w0 v3 b_1) (hS : ref03_Same a_0 b_1 = some r) :
  Calls Try.prog 15 #[v1, v3] w0 (Ret (fun v w' => v = .bool r ∧ Below w0.heap.size w0 w')) := by
 unfold ref03_Same at hS
 have hb := Below.refl w0.heap.size w0
 replace h2 := h2.weak (A' := fun _ => False) (fun _ h => h.elim)
 replace h4 := h4.weak (A' := fun _ => False) (fun _ h => h.elim)
 obtain ⟨A0, hA0, hAe⟩ : ∃ A0 : Nat → Prop, (∀ b, A0 b → b < w0.heap.size) ∧ A0 = fun _ => False := ⟨_, fun _ h => h.elim, rfl⟩
 rw [← hAe] at h2
 rw [← hAe] at h4
 clear hAe
 have hA := hA0
 have hi : ∀ b, A0 b → A0 b := fun _ h => h
 have hH := Hp.nil A0 w0.heap.size w0
 refine calls_of_ke Try.func15 rfl (n := 26) rfl rfl (l := [(0, v1), (1, v3)]) rfl ?_
 refine ke_seq ?_
 refine ke_region ?_
 refine sr_ev (v := .bool false) (ev_assign rfl) (by decide) ?_
 refine sr_end (l' := [(0, v1), (1, v3)]) (.cons rfl (.cons rfl (.nil _))) ?_
 refine ke_seq ?_
 refine ke_seq ?_
 refine ke_region ?_
 refine sr_ev (v := v1) (ev_move rfl) (by decide) ?_
 refine sr_ev (v := .int .i64 (a_0.length : Int)) (ev_sllen Try.underlying23 rfl h2) (by decide) ?_
 refine sr_ev (v := v3) (ev_move rfl) (by decide) ?_
 refine sr_ev (v := .int .i64 (b_1.length : Int)) (ev_sllen Try.underlying23 rfl h4) (by decide) ?_
 refine sr_ev (v := .bool ((a_0.length : Int) != (b_1.length : Int))) (ev_ne rfl rfl) (by decide) ?_
 refine sr_end (l' := [(0, v1), (1, v3), (10, .bool ((a_0.length : Int) != (b_1.length : Int)))]) (.cons rfl (.cons rfl (.cons rfl (.nil _)))) ?_
 refine ke_cond (t := (a_0.length : Int) != (b_1.length : Int)) rfl (fun hc5 => ?_) (fun hc5 => ?_)
 ·replace hS := ite_true' hS hc5
  refine ke_seq ?_
  refine ke_region ?_
  refine sr_ev (v := .bool false) (ev_assign rfl) (by decide) ?_
  refine sr_end (l' := [(4, .bool false)]) (.cons rfl (.nil _)) ?_
  cases hS
  exact ke_ret1 Try.func15 rfl rfl ⟨_, rfl, rfl, hb⟩
 ·replace hS := ite_false' hS hc5
  refine ke_skip ?_
  refine ke_seq ?_
  refine ke_seq ?_
  refine ke_region ?_
  refine sr_ev (v := .int .i64 0) (ev_assign rfl) (by decide) ?_
  refine sr_end (l' := [(0, v1), (1, v3), (5, .int .i64 0)]) (.cons rfl (.cons rfl (.cons rfl (.nil _)))) ?_
  refine ke_block ?_
  have hK := ref03_Same_L1_ok hg hA0 _ hS hb hA hi hH h2 h4
  exact ke_weaken (l' := [(0, v1), (1, v3), (5, .int .i64 0)]) (.cons rfl (.cons rfl (.cons rfl (.nil _)))) (ke_loop hK)
theorem delegate_Delegations_Revoke_ok (w0 : World) (hg : Gs w0) {ρA : Tags} (hbd : ∀ b, ρA b ≠ 0 → b < w0.heap.size) (hz : Gz ρA) {o : Nat} (ho2 : 2 ≤ o) {d_0 : delegate_Delegations} {from_1 : Str} {to_2 : Str} {gd_0 : Nat} {r : Bool × delegate_Delegations} (ho0 : delegate_Delegations.O (fun p => o + p) ρA w0 gd_0 d_0) (hS : delegate_Delegations_Revoke d_0 from_1 to_2 = some r) :
  Calls Try.prog 28 #[.pointer (some ⟨gd_0, 0, none⟩), str from_1, str to_2] w0 (Ret (fun v w' => ∃ ρ', v = .bool r.1 ∧ delegate_Delegations.O (fun p => o + p) ρ' w' gd_0 r.2 ∧ Tr ρA w0 (rng o 2) ρ' w')) := by
 unfold delegate_Delegations_Revoke at hS
 have hb := enter_fr (ρ := ρA) (w := w0) (n := 2) ho2 hbd
 have hz := hz.enter (n := 2) ho2
 obtain ⟨v1, hB3, h2⟩ := ho0
 replace hB3 := hB3.mv (enter_mv (p := 0) (n := 2) (by decide) ho2)
 replace h2 := h2.mv (enter_mv (p := 1) (n := 2) (by decide) ho2)
 replace hB3 : Blk (enter ρA o 2) 100 w0 gd_0 (.cells #[v1] 54 (0, 0)) := hB3
 replace h2 : MapT delegate_way.ek delegate_delegation.c true (enter ρA o 2) 101 w0 v1 d_0.ways := h2
 refine calls_of_ke Try.func28 rfl (n := 31) rfl rfl (l := [(0, .pointer (some ⟨gd_0, 0, none⟩)), (1, str from_1), (2, str to_2)]) rfl ?_
 refine ke_seq ?_
 refine ke_region ?_
 refine sr_ev (v := .bool false) (ev_assign rfl) (by decide) ?_
 refine sr_end (l' := [(0, .pointer (some ⟨gd_0, 0, none⟩)), (1, str from_1), (2, str to_2)]) (.cons rfl (.cons rfl (.cons rfl (.nil _)))) ?_
 refine ke_seq ?_
 refine ke_seq ?_
 refine ke_region ?_
 refine sr_ev (v := .pointer (some ⟨gd_0, 0, none⟩)) (ev_move rfl) (by decide) ?_
 obtain ⟨y4, hy5, hS⟩ := bind_some' hS
 refine sr_call (vs := [.pointer (some ⟨gd_0, 0, none⟩)]) rfl Try.call38 rfl (delegate_Delegations_made_ok _ (hg.fr hz hb) (ρA := (enter ρA o 2)) hb.bd (hz.fr hg hb) (τ0 := (fun p => 100 + p)) (fun p => Nat.le_add_right_of_le (by decide)) (⟨_, hB3, h2⟩ : delegate_Delegations.O (fun p => 100 + p) (enter ρA o 2) w0 gd_0 d_0) hy5) (by decide) ?_
 rintro _ w6 ⟨rfl, hbw7⟩
 have htr8 := Tr.of_below hbw7 hb.bd
 replace hB3 := hB3.mv (htr8.mv (i := 100) rfl)
 replace h2 := h2.mv (htr8.mv (i := 101) rfl)
 replace hb := hb.trans htr8
 refine sr_ev (v := .bool (!y4)) (ev_not rfl) (by decide) ?_
 refine sr_end (l' := [(0, .pointer (some ⟨gd_0, 0, none⟩)), (1, str from_1), (2, str to_2), (11, .bool (!y4))]) (.cons rfl (.cons rfl (.cons rfl (.cons rfl (.nil _))))) ?_
 refine ke_cond (t := !y4) rfl (fun hc9 => ?_) (fun hc9 => ?_)
 ·replace hS := ite_true' hS hc9
  refine ke_seq ?_
  refine ke_region ?_
  refine sr_ev (v := .bool false) (ev_assign rfl) (by decide) ?_
  refine sr_end (l' := [(6, .bool false)]) (.cons rfl (.nil _)) ?_
  cases hS
  exact ke_ret1 Try.func28 rfl rfl ⟨_, rfl, leave ρA w0 o 2 (enter ρA o 2), rfl, ⟨_, (hB3.mv (leave_mv (p := 0) (by decide) hb)), (h2.mv (leave_mv (p := 1) (by decide) hb))⟩, (leave_tr ho2 hb)⟩
 ·replace hS := ite_false' hS hc9
  refine ke_skip ?_
  refine ke_seq ?_
  refine ke_region ?_
  refine sr_ev (v := .pointer (some ⟨gd_0, 0, none⟩)) (ev_move rfl) (by decide) ?_
  refine sr_ev (v := .pointer (some ⟨gd_0, 0, none⟩)) (ev_nilCheck rfl) (by decide) ?_
  refine sr_ev (v := .pointer (some ⟨gd_0, 0, none⟩)) (ev_fieldAddr (i := 0) Try.underlying54 rfl Try.info52 rfl rfl) (by decide) ?_
  refine sr_ev (v := v1) (ev_load Try.isAgg52 rfl (hB3.cell rfl)) (by decide) ?_
  refine sr_ev (v := str from_1) (ev_move rfl) (by decide) ?_
  refine sr_ev (v := str to_2) (ev_move rfl) (by decide) ?_
  refine sr_ev (v := .agg #[str from_1, str to_2]) (ev_build (vs := #[(0, str from_1), (1, str to_2)]) rfl (fun _ => by kernel_rfl)) (by decide) ?_
  obtain ⟨y14, hy15, hS⟩ := bind_some' hS
  replace hy15 := Option.some.inj hy15
  obtain ⟨cs10, hrd11, hl12, hl13⟩ := h2.look (zcs := [(.slice none 0 0), .int .i64 0, .int .i64 0]) (z := (delegate_delegation.mk ([] : List Str) (api_Window.mk 0 0))) Try.keyB63 Try.underlying52 Try.zeroValue61 ⟨_, rfl, SlR.nil⟩ (delegate_way.mk from_1 to_2)
  rw [hy15] at hrd11
  obtain ⟨v16, hcshrd11, h17⟩ := hrd11
  obtain rfl : cs10 = [v16, .int .i64 y14.window.From, .int .i64 y14.window.Until] := hcshrd11
  refine sr_ev (v := .tuple #[.agg #[v16, .int .i64 y14.window.From, .int .i64 y14.window.Until], .bool (mhas d_0.ways (delegate_way.mk from_1 to_2))]) (hl13 w6 _ _ (Mv.of_below (i := 101) (ρ := (enter ρA o 2)) (Below.refl _ _)) rfl rfl) (by decide) ?_
  refine sr_ev (v := .tuple #[.agg #[v16, .int .i64 y14.window.From, .int .i64 y14.window.Until], .bool (mhas d_0.ways (delegate_way.mk from_1 to_2))]) (ev_move rfl) (by decide) ?_
  refine sr_ev (v := .agg #[v16, .int .i64 y14.window.From, .int .i64 y14.window.Until]) (ev_extract rfl rfl) (by decide) ?_
  refine sr_ev (v := .bool (mhas d_0.ways (delegate_way.mk from_1 to_2))) (ev_extract rfl rfl) (by decide) ?_
  refine sr_allocT 9 (by decide) hb.bd Try.zeroValue61 (by decide) ?_
  intro g18 ρ19 w20 hB22 htr21
  replace h17 := h17.mv htr21.rd
  replace hB3 := hB3.mv (htr21.mv (i := 100) rfl)
  replace h2 := h2.mv (htr21.mv (i := 101) rfl)
  replace hb := hb.trans htr21
  replace hB22 : Blk ρ19 9 w20 g18 (.cells #[(.slice none 0 0), .int .i64 0, .int .i64 0] 61 (0, 0)) := hB22
  refine sr_storeT (v := .agg #[v16, .int .i64 y14.window.From, .int .i64 y14.window.Until]) (vs := [v16, .int .i64 y14.window.From, .int .i64 y14.window.Until]) (cs' := #[v16, .int .i64 y14.window.From, .int .i64 y14.window.Until]) hB22 (by decide) hb.bd rfl rfl rfl Try.sizeOf61 rfl (by first | rfl | (simp only [List.all_cons, List.all_nil, SlR.oneCell h17]; done) | (simp only [List.all_cons, List.all_nil, SlR.oneCell h17]; rfl)) rfl ?_
  intro w23 hB221 htr24
  replace h17 := h17.mv htr24.rd
  replace hB3 := hB3.mv (htr24.mv (i := 100) rfl)
  replace h2 := h2.mv (htr24.mv (i := 101) rfl)
  replace hb := hb.trans htr24
  replace hB22 : Blk ρ19 9 w23 g18 (.cells #[v16, .int .i64 y14.window.From, .int .i64 y14.window.Until] 61 (0, 0)) := hB221
  clear hB221
  refine sr_ev (v := .bool (mhas d_0.ways (delegate_way.mk from_1 to_2))) (ev_assign rfl) (by decide) ?_
  refine sr_end (l' := [(0, .pointer (some ⟨gd_0, 0, none⟩)), (1, str from_1), (2, str to_2), (8, .bool (mhas d_0.ways (delegate_way.mk from_1 to_2)))]) (.cons rfl (.cons rfl (.cons rfl (.cons rfl (.nil _))))) ?_
  refine ke_seq ?_
  refine ke_region ?_
  refine sr_ev (v := .pointer (some ⟨gd_0, 0, none⟩)) (ev_move rfl) (by decide) ?_
  refine sr_ev (v := .pointer (some ⟨gd_0, 0, none⟩)) (ev_nilCheck rfl) (by decide) ?_
  refine sr_ev (v := .pointer (some ⟨gd_0, 0, none⟩)) (ev_fieldAddr (i := 0) Try.underlying54 rfl Try.info52 rfl rfl) (by decide) ?_
  refine sr_ev (v := v1) (ev_load Try.isAgg52 rfl (hB3.cell rfl)) (by decide) ?_
  refine sr_ev (v := str from_1) (ev_move rfl) (by decide) ?_
  refine sr_ev (v := str to_2) (ev_move rfl) (by decide) ?_
  refine sr_ev (v := .agg #[str from_1, str to_2]) (ev_build (vs := #[(0, str from_1), (1, str to_2)]) rfl (fun _ => by kernel_rfl)) (by decide) ?_
  refine sr_mapDel0 (k := (delegate_way.mk from_1 to_2)) h2 Try.keyB63 Try.underlying52 (by decide) hb.bd rfl rfl ?_
  intro w25 h21 htr26
  replace hB3 := hB3.mv (htr26.mv (i := 100) rfl)
  replace hb := hb.trans htr26
  replace h2 := h21
  clear h21
  refine sr_end (l' := [(8, .bool (mhas d_0.ways (delegate_way.mk from_1 to_2)))]) (.cons rfl (.nil _)) ?_
  refine ke_seq ?_
  refine ke_region ?_
  refine sr_ev (v := .bool (mhas d_0.ways (delegate_way.mk from_1 to_2))) (ev_move rfl) (by decide) ?_
  refine sr_ev (v := .bool (mhas d_0.ways (delegate_way.mk from_1 to_2))) (ev_assign rfl) (by decide) ?_
  refine sr_end (l' := [(6, .bool (mhas d_0.ways (delegate_way.mk from_1 to_2)))]) (.cons rfl (.nil _)) ?_
  cases hS
  exact ke_ret1 Try.func28 rfl rfl ⟨_, rfl, leave ρA w0 o 2 ρ19, rfl, ⟨_, (hB3.mv (leave_mv (p := 0) (by decide) hb)), (h2.mv (leave_mv (p := 1) (by decide) hb))⟩, (leave_tr ho2 hb)⟩
theorem delegate_Delegations_Drop_1_ok (w0 : World) (hg : Gs w0) {ρA : Tags} (hbd : ∀ b, ρA b ≠ 0 → b < w0.heap.size) (hz : Gz ρA) {k_0 : delegate_way} {__1 : delegate_delegation} {c2 : Str} {v1 : Value} {b3 : Nat} {r : Bool} (h2 : SlR strC (Wb ρA) w0 v1 __1.scopes) (he4 : ElT strC ρA 0 w0 b3 0 [str c2] c2) (hS : delegate_Delegations_Drop_1 k_0 __1 c2 = some r) :
  Calls Try.prog 49 #[.agg #[str k_0.from_, str k_0.to_], .agg #[v1, .int .i64 __1.window.From, .int .i64 __1.window.Until], .pointer (some ⟨b3, 0, none⟩)] w0 (Ret (fun v w' => v = .bool r ∧ Below w0.heap.size w0 w')) := by
 unfold delegate_Delegations_Drop_1 at hS
 have hb := flat1_fr (ρ := ρA) (w := w0) hbd
 have hz := hz.flat1
 replace h2 := SlR.mv h2 flat1_rd
 replace he4 := he4.mv flat1_rd (Nat.succ_pos _)
 refine calls_of_ke Try.func49 rfl (n := 16) rfl rfl (l := [(0, .agg #[str k_0.from_, str k_0.to_]), (1, .agg #[v1, .int .i64 __1.window.From, .int .i64 __1.window.Until]), (2, .pointer (some ⟨b3, 0, none⟩))]) rfl ?_
 refine ke_seq ?_
 refine ke_region ?_
 refine sr_boxT 5 (by decide) hb.bd rfl (by decide) ?_
 intro g5 ρ6 w7 hB9 htr8
 replace h2 := h2.mv htr8.rd
 replace he4 := he4.mv (htr8.mv (i := 0) rfl) (Nat.succ_pos _)
 replace hb := hb.trans htr8
 replace hB9 : Blk ρ6 5 w7 g5 (.cells #[str k_0.from_, str k_0.to_] 63 (0, 0)) := hB9
 refine sr_boxT 6 (by decide) hb.bd rfl (by decide) ?_
 intro g10 ρ11 w12 hB14 htr13
 replace he4 := he4.mv (htr13.mv (i := 0) rfl) (Nat.succ_pos _)
 replace hB9 := hB9.mv (htr13.mv (i := 5) rfl)
 replace hb := hb.trans htr13
 replace hB14 : Blk ρ11 6 w12 g10 (.cells #[v1, .int .i64 __1.window.From, .int .i64 __1.window.Until] 61 (0, 0)) := hB14
 refine sr_ev (v := .bool false) (ev_assign rfl) (by decide) ?_
 refine sr_end (l' := [(2, .pointer (some ⟨b3, 0, none⟩)), (3, .pointer (some ⟨g5, 0, none⟩))]) (.cons rfl (.cons rfl (.nil _))) ?_
 refine ke_seq ?_
 refine ke_region ?_
 refine sr_ev (v := .pointer (some ⟨g5, 0, none⟩)) (ev_fieldAddr (i := 0) Try.underlying63 rfl Try.info9 rfl rfl) (by decide) ?_
 refine sr_ev (v := str k_0.from_) (ev_load Try.isAgg9 rfl (hB9.cell rfl)) (by decide) ?_
 refine sr_ev (v := str c2) (ev_load Try.isAgg9 rfl (he4.cell 0 _ rfl)) (by decide) ?_
 refine sr_ev (v := .bool (k_0.from_ == c2)) (ev_seq rfl rfl) (by decide) ?_
 refine sr_ev (v := .bool (k_0.from_ == c2)) (ev_move rfl) (by decide) ?_
 refine sr_join (m := 5) (C := fun (x : Bool) w1 => x = ((k_0.from_ == c2) || (k_0.to_ == c2)) ∧ w12 = w1) (l' := fun x => [(15, .bool x)]) ?_ ?_
 ·rintro _ _ ⟨rfl, rfl⟩
  refine sr_ev (v := .bool ((k_0.from_ == c2) || (k_0.to_ == c2))) (ev_assign rfl) (by decide) ?_
  refine sr_end (l' := [(5, .bool ((k_0.from_ == c2) || (k_0.to_ == c2)))]) (.cons rfl (.nil _)) ?_
  cases hS
  exact ke_ret1 Try.func49 rfl rfl ⟨_, rfl, rfl, (hb.below (flat1_le _))⟩
 ·intro K16
  rcases Bool.eq_false_or_eq_true (k_0.from_ == c2) with hg15 | hg15
  all_goals try have hj18 : Tr ρ11 w12 (fun _ => false) ρ11 w12 := Tr.refl hb.bd
  ·refine sr_pass (e := 10) rfl rfl (by rw [hg15]; rfl) (by decide) ?_
   refine sr_pass (e := 10) rfl rfl (by rw [hg15]; rfl) (by decide) ?_
   refine sr_pass (e := 10) rfl rfl (by rw [hg15]; rfl) (by decide) ?_
   refine sr_pass (e := 10) rfl rfl (by rw [hg15]; rfl) (by decide) ?_
   refine sr_ev (v := .bool true) (ev_pick_t rfl hg15 rfl) (by decide) ?_
   exact sr_weaken (l' := [(15, .bool true)]) (.cons rfl (.nil _)) (K16 true _ ⟨by rw [hg15]; rfl, rfl⟩)
  ·refine sr_evg (b := false) (e := 10) rfl rfl hg15 (v := .pointer (some ⟨g5, 1, none⟩)) (ev_fieldAddr (i := 1) Try.underlying63 rfl Try.info9 rfl rfl) (by decide) ?_
   refine sr_evg (b := false) (e := 10) rfl rfl hg15 (v := str k_0.to_) (ev_load Try.isAgg9 rfl (hB9.cell rfl)) (by decide) ?_
   refine sr_evg (b := false) (e := 10) rfl rfl hg15 (v := str c2) (ev_load Try.isAgg9 rfl (he4.cell 0 _ rfl)) (by decide) ?_
   refine sr_evg (b := false) (e := 10) rfl rfl hg15 (v := .bool (k_0.to_ == c2)) (ev_seq rfl rfl) (by decide) ?_
   refine sr_ev (v := .bool (k_0.to_ == c2)) (ev_pick_f rfl hg15 rfl) (by decide) ?_
   exact sr_weaken (l' := [(15, .bool (k_0.to_ == c2))]) (.cons rfl (.nil _)) (K16 (k_0.to_ == c2) _ ⟨by rw [hg15]; rfl, rfl⟩)
theorem maps_DeleteFunc_map_delegate_way_delegate_delegation_delegate_way_delegate_delegation__Delegations_Drop_1_B2_ok {w0 : World} (hg : Gs w0) {ρA : Tags} (hbd : ∀ b, ρA b ≠ 0 → b < w0.heap.size) {o : Nat} (ho2 : 2 ≤ o) {v1 : Value} (hz : Gz (enter ρA o 1)) (r0 : GMap delegate_way delegate_delegation → Str → List delegate_way → Option (GMap delegate_way delegate_delegation))
  (hr0 : ∀ {r : GMap delegate_way delegate_delegation} {m_0 : GMap delegate_way delegate_delegation} {del_1_c0 : Str} {t_7 : List delegate_way} {bdel_1_c0 : Nat} {rt_7 : Nat}, r0 m_0 del_1_c0 t_7 = some r → ∀ {ρ : Tags} {w : World}, (Fr (enter ρA o 1) w0 ρ w) → (MapT delegate_way.ek delegate_delegation.c true ρ 100 w v1 m_0) → (ElT strC ρ 0 w bdel_1_c0 0 [str del_1_c0] del_1_c0) → (IterT delegate_way.ek delegate_delegation.c true ρ 100 9 w rt_7 v1 m_0 t_7) → KE Try.prog 48 (Ret (fun v w' => ∃ ρ', v = .tuple #[] ∧ MapT delegate_way.ek delegate_delegation.c true ρ' o w' v1 r ∧ Tr ρA w0 (rng o 1) ρ' w')) 19 [.inLoop (sub (bodyOf Try.f48) [2, 2, 1]), .inBlock 0] [(0, v1), (1, .func (.func 49) #[] #[.pointer (some ⟨bdel_1_c0, 0, none⟩)]), (7, .pointer (some ⟨rt_7, 0, none⟩))] w) {r : GMap delegate_way delegate_delegation} {m_0 : GMap delegate_way delegate_delegation} {del_1_c0 : Str} {t_7 : List delegate_way} {bdel_1_c0 : Nat} {rt_7 : Nat} (hS : maps_DeleteFunc_map_delegate_way_delegate_delegation_delegate_way_delegate_delegation__Delegations_Drop_1_B2 r0 m_0 del_1_c0 t_7 = some r) {ρ : Tags} {w : World} (hb : Fr (enter ρA o 1) w0 ρ w) (hm_0 : MapT delegate_way.ek delegate_delegation.c true ρ 100 w v1 m_0) (hedel_1_c0 : ElT strC ρ 0 w bdel_1_c0 0 [str del_1_c0] del_1_c0) (ht_7 : IterT delegate_way.ek delegate_delegation.c true ρ 100 9 w rt_7 v1 m_0 t_7) :
  KE Try.prog 48 (Ret (fun v w' => ∃ ρ', v = .tuple #[] ∧ MapT delegate_way.ek delegate_delegation.c true ρ' o w' v1 r ∧ Tr ρA w0 (rng o 1) ρ' w')) 19 [.inBlock 1, .inLoop (sub (bodyOf Try.f48) [2, 2, 1]), .inBlock 0] [(0, v1), (1, .func (.func 49) #[] #[.pointer (some ⟨bdel_1_c0, 0, none⟩)]), (7, .pointer (some ⟨rt_7, 0, none⟩))] w := by
 unfold maps_DeleteFunc_map_delegate_way_delegate_delegation_delegate_way_delegate_delegation__Delegations_Drop_1_B2 at hS
 refine ke_inBlock ?_
 have hK := hr0 hS hb hm_0 hedel_1_c0 ht_7
 exact ke_weaken (l' := [(0, v1), (1, .func (.func 49) #[] #[.pointer (some ⟨bdel_1_c0, 0, none⟩)]), (7, .pointer (some ⟨rt_7, 0, none⟩))]) (.cons rfl (.cons rfl (.cons rfl (.nil _)))) hK
theorem maps_DeleteFunc_map_delegate_way_delegate_delegation_delegate_way_delegate_delegation__Delegations_Drop_1_L1_ok {w0 : World} (hg : Gs w0) {ρA : Tags} (hbd : ∀ b, ρA b ≠ 0 → b < w0.heap.size) {o : Nat} (ho2 : 2 ≤ o) {v1 : Value} (hz : Gz (enter ρA o 1)) : ∀ (n : Nat), ∀ {r : GMap delegate_way delegate_delegation} {m_0 : GMap delegate_way delegate_delegation} {del_1_c0 : Str} {t_7 : List delegate_way} {bdel_1_c0 : Nat} {rt_7 : Nat}, maps_DeleteFunc_map_delegate_way_delegate_delegation_delegate_way_delegate_delegation__Delegations_Drop_1_L1 n m_0 del_1_c0 t_7 = some r → ∀ {ρ : Tags} {w : World}, (Fr (enter ρA o 1) w0 ρ w) → (MapT delegate_way.ek delegate_delegation.c true ρ 100 w v1 m_0) → (ElT strC ρ 0 w bdel_1_c0 0 [str del_1_c0] del_1_c0) → (IterT delegate_way.ek delegate_delegation.c true ρ 100 9 w rt_7 v1 m_0 t_7) → KE Try.prog 48 (Ret (fun v w' => ∃ ρ', v = .tuple #[] ∧ MapT delegate_way.ek delegate_delegation.c true ρ' o w' v1 r ∧ Tr ρA w0 (rng o 1) ρ' w')) 19 [.code (sub (bodyOf Try.f48) [2, 2, 1]), .inLoop (sub (bodyOf Try.f48) [2, 2, 1]), .inBlock 0] [(0, v1), (1, .func (.func 49) #[] #[.pointer (some ⟨bdel_1_c0, 0, none⟩)]), (7, .pointer (some ⟨rt_7, 0, none⟩))] w := by
 intro n
 induction n with
 | zero => intro r m_0 del_1_c0 t_7 bdel_1_c0 rt_7 hS; cases hS
 | succ n ih =>
  have hr0 : ∀ {r : GMap delegate_way delegate_delegation} {m_0 : GMap delegate_way delegate_delegation} {del_1_c0 : Str} {t_7 : List delegate_way} {bdel_1_c0 : Nat} {rt_7 : Nat}, maps_DeleteFunc_map_delegate_way_delegate_delegation_delegate_way_delegate_delegation__Delegations_Drop_1_L1 n m_0 del_1_c0 t_7 = some r → ∀ {ρ : Tags} {w : World}, (Fr (enter ρA o 1) w0 ρ w) → (MapT delegate_way.ek delegate_delegation.c true ρ 100 w v1 m_0) → (ElT strC ρ 0 w bdel_1_c0 0 [str del_1_c0] del_1_c0) → (IterT delegate_way.ek delegate_delegation.c true ρ 100 9 w rt_7 v1 m_0 t_7) → KE Try.prog 48 (Ret (fun v w' => ∃ ρ', v = .tuple #[] ∧ MapT delegate_way.ek delegate_delegation.c true ρ' o w' v1 r ∧ Tr ρA w0 (rng o 1) ρ' w')) 19 [.inLoop (sub (bodyOf Try.f48) [2, 2, 1]), .inBlock 0] [(0, v1), (1, .func (.func 49) #[] #[.pointer (some ⟨bdel_1_c0, 0, none⟩)]), (7, .pointer (some ⟨rt_7, 0, none⟩))] w := fun {r} {m_0} {del_1_c0} {t_7} {bdel_1_c0} {rt_7} hS {ρ} {w} hb hm_0 hedel_1_c0 ht_7 => ke_inLoop (ih hS hb hm_0 hedel_1_c0 ht_7)
  clear ih
  intro r m_0 del_1_c0 t_7 bdel_1_c0 rt_7 hS ρ w hb hm_0 hedel_1_c0 ht_7
  unfold maps_DeleteFunc_map_delegate_way_delegate_delegation_delegate_way_delegate_delegation__Delegations_Drop_1_L1 at hS
  refine ke_seq ?_
  refine ke_region ?_
  refine sr_nextM ht_7 rfl (by decide) hb.bd hS rfl (by decide) (fun hS => ?_) (fun e10 cs11 w12 hS hrd14 ht_71 htr13 hent15 => ?_)
  ·refine sr_ev (v := .bool false) (ev_extract rfl rfl) (by decide) ?_
   refine sr_end (l' := [(0, v1), (1, .func (.func 49) #[] #[.pointer (some ⟨bdel_1_c0, 0, none⟩)]), (7, .pointer (some ⟨rt_7, 0, none⟩)), (9, .bool false)]) (.cons rfl (.cons rfl (.cons rfl (.cons rfl (.nil _))))) ?_
   refine ke_seq ?_
   refine ke_cond (t := false) rfl (fun h => by cases h) (fun _ => ?_)
   refine ke_exit (k' := _) rfl ?_
   cases hS
   exact ke_end0 Try.func48 rfl ⟨_, rfl, leave ρA w0 o 1 ρ, rfl, (hm_0.mv (leave_mv (p := 0) (by decide) hb)), (leave_tr ho2 hb)⟩
  ·skip
   replace hm_0 := hm_0.mv (htr13.mv (i := 100) rfl)
   replace hedel_1_c0 := hedel_1_c0.mv (htr13.mv (i := 0) rfl) (Nat.succ_pos _)
   replace hb := hb.trans htr13
   replace ht_7 := ht_71
   clear ht_71
   obtain ⟨v16, hcshrd14, h17⟩ := hrd14
   obtain rfl : cs11 = [v16, .int .i64 e10.2.window.From, .int .i64 e10.2.window.Until] := hcshrd14
   refine sr_ev (v := .bool true) (ev_extract rfl rfl) (by decide) ?_
   refine sr_end (l' := [(0, v1), (1, .func (.func 49) #[] #[.pointer (some ⟨bdel_1_c0, 0, none⟩)]), (7, .pointer (some ⟨rt_7, 0, none⟩)), (9, .bool true)]) (.cons rfl (.cons rfl (.cons rfl (.cons rfl (.nil _))))) ?_
   refine ke_seq ?_
   refine ke_cond (t := true) rfl (fun _ => ?_) (fun h => by cases h)
   refine ke_skip ?_
   refine ke_block ?_
   refine ke_seq ?_
   refine ke_region ?_
   refine sr_ev (v := .tuple #[.agg #[str e10.1.from_, str e10.1.to_], .agg #[v16, .int .i64 e10.2.window.From, .int .i64 e10.2.window.Until]]) (hent15 rfl) (by decide) ?_
   refine sr_ev (v := .agg #[str e10.1.from_, str e10.1.to_]) (ev_extract rfl rfl) (by decide) ?_
   refine sr_ev (v := .agg #[v16, .int .i64 e10.2.window.From, .int .i64 e10.2.window.Until]) (ev_extract rfl rfl) (by decide) ?_
   refine sr_allocT 6 (by decide) hb.bd Try.zeroValue63 (by decide) ?_
   intro g18 ρ19 w20 hB22 htr21
   replace hm_0 := hm_0.mv (htr21.mv (i := 100) rfl)
   replace hedel_1_c0 := hedel_1_c0.mv (htr21.mv (i := 0) rfl) (Nat.succ_pos _)
   replace ht_7 := ht_7.mv (htr21.mv (i := 100) rfl) (htr21.mv (i := 9) rfl)
   replace h17 := h17.mv htr21.rd
   replace hb := hb.trans htr21
   replace hB22 : Blk ρ19 6 w20 g18 (.cells #[str ([]), str ([])] 63 (0, 0)) := hB22
   refine sr_allocT 7 (by decide) hb.bd Try.zeroValue61 (by decide) ?_
   intro g23 ρ24 w25 hB27 htr26
   replace hm_0 := hm_0.mv (htr26.mv (i := 100) rfl)
   replace hedel_1_c0 := hedel_1_c0.mv (htr26.mv (i := 0) rfl) (Nat.succ_pos _)
   replace ht_7 := ht_7.mv (htr26.mv (i := 100) rfl) (htr26.mv (i := 9) rfl)
   replace h17 := h17.mv htr26.rd
   replace hB22 := hB22.mv (htr26.mv (i := 6) rfl)
   replace hb := hb.trans htr26
   replace hB27 : Blk ρ24 7 w25 g23 (.cells #[(.slice none 0 0), .int .i64 0, .int .i64 0] 61 (0, 0)) := hB27
   refine sr_storeT (v := .agg #[str e10.1.from_, str e10.1.to_]) (vs := [str e10.1.from_, str e10.1.to_]) (cs' := #[str e10.1.from_, str e10.1.to_]) hB22 (by decide) hb.bd rfl rfl rfl Try.sizeOf63 rfl rfl rfl ?_
   intro w28 hB221 htr29
   replace hm_0 := hm_0.mv (htr29.mv (i := 100) rfl)
   replace hedel_1_c0 := hedel_1_c0.mv (htr29.mv (i := 0) rfl) (Nat.succ_pos _)
   replace ht_7 := ht_7.mv (htr29.mv (i := 100) rfl) (htr29.mv (i := 9) rfl)
   replace h17 := h17.mv htr29.rd
   replace hB27 := hB27.mv (htr29.mv (i := 7) rfl)
   replace hb := hb.trans htr29
   replace hB22 : Blk ρ24 6 w28 g18 (.cells #[str e10.1.from_, str e10.1.to_] 63 (0, 0)) := hB221
   clear hB221
   refine sr_storeT (v := .agg #[v16, .int .i64 e10.2.window.From, .int .i64 e10.2.window.Until]) (vs := [v16, .int .i64 e10.2.window.From, .int .i64 e10.2.window.Until]) (cs' := #[v16, .int .i64 e10.2.window.From, .int .i64 e10.2.window.Until]) hB27 (by decide) hb.bd rfl rfl rfl Try.sizeOf61 rfl (by first | rfl | (simp only [List.all_cons, List.all_nil, SlR.oneCell h17]; done) | (simp only [List.all_cons, List.all_nil, SlR.oneCell h17]; rfl)) rfl ?_
   intro w30 hB271 htr31
   replace hm_0 := hm_0.mv (htr31.mv (i := 100) rfl)
   replace hedel_1_c0 := hedel_1_c0.mv (htr31.mv (i := 0) rfl) (Nat.succ_pos _)
   replace ht_7 := ht_7.mv (htr31.mv (i := 100) rfl) (htr31.mv (i := 9) rfl)
   replace h17 := h17.mv htr31.rd
   replace hB22 := hB22.mv (htr31.mv (i := 6) rfl)
   replace hb := hb.trans htr31
   replace hB27 : Blk ρ24 7 w30 g23 (.cells #[v16, .int .i64 e10.2.window.From, .int .i64 e10.2.window.Until] 61 (0, 0)) := hB271
   clear hB271
   refine sr_end (l' := [(0, v1), (1, .func (.func 49) #[] #[.pointer (some ⟨bdel_1_c0, 0, none⟩)]), (4, .pointer (some ⟨g18, 0, none⟩)), (5, .pointer (some ⟨g23, 0, none⟩)), (7, .pointer (some ⟨rt_7, 0, none⟩))]) (.cons rfl (.cons rfl (.cons rfl (.cons rfl (.cons rfl (.nil _)))))) ?_
   refine ke_seq ?_
   refine ke_region ?_
   refine sr_ev (v := .func (.func 49) #[] #[.pointer (some ⟨bdel_1_c0, 0, none⟩)]) (ev_move rfl) (by decide) ?_
   refine sr_ev (v := .agg #[str e10.1.from_, str e10.1.to_]) (ev_loads (cs := [str e10.1.from_, str e10.1.to_]) Try.isAgg63 Try.sizeOf63 rfl (hB22.cells (vs := [str e10.1.from_, str e10.1.to_]) rfl)) (by decide) ?_
   refine sr_ev (v := .agg #[v16, .int .i64 e10.2.window.From, .int .i64 e10.2.window.Until]) (ev_loads (cs := [v16, .int .i64 e10.2.window.From, .int .i64 e10.2.window.Until]) Try.isAgg61 Try.sizeOf61 rfl (hB27.cells (vs := [v16, .int .i64 e10.2.window.From, .int .i64 e10.2.window.Until]) rfl)) (by decide) ?_
   obtain ⟨y32, hy33, hS⟩ := bind_some' hS
   refine sr_callc (vs := [.agg #[str e10.1.from_, str e10.1.to_], .agg #[v16, .int .i64 e10.2.window.From, .int .i64 e10.2.window.Until]]) rfl Try.call49 rfl (delegate_Delegations_Drop_1_ok _ (hg.fr hz hb) (ρA := ρ24) hb.bd (hz.fr hg hb) h17 hedel_1_c0 hy33) (by decide) ?_
   rintro _ w34 ⟨rfl, hbw35⟩
   have htr36 := Tr.of_below hbw35 hb.bd
   replace hm_0 := hm_0.mv (htr36.mv (i := 100) rfl)
   replace hedel_1_c0 := hedel_1_c0.mv (htr36.mv (i := 0) rfl) (Nat.succ_pos _)
   replace ht_7 := ht_7.mv (htr36.mv (i := 100) rfl) (htr36.mv (i := 9) rfl)
   replace hB22 := hB22.mv (htr36.mv (i := 6) rfl)
   replace hb := hb.trans htr36
   refine sr_end (l' := [(0, v1), (1, .func (.func 49) #[] #[.pointer (some ⟨bdel_1_c0, 0, none⟩)]), (4, .pointer (some ⟨g18, 0, none⟩)), (7, .pointer (some ⟨rt_7, 0, none⟩)), (16, .bool y32)]) (.cons rfl (.cons rfl (.cons rfl (.cons rfl (.cons rfl (.nil _)))))) ?_
   refine ke_cond (t := y32) rfl (fun hc37 => ?_) (fun hc37 => ?_)
   ·replace hS := ite_true' hS hc37
    refine ke_region ?_
    refine sr_ev (v := v1) (ev_move rfl) (by decide) ?_
    refine sr_ev (v := .agg #[str e10.1.from_, str e10.1.to_]) (ev_loads (cs := [str e10.1.from_, str e10.1.to_]) Try.isAgg63 Try.sizeOf63 rfl (hB22.cells (vs := [str e10.1.from_, str e10.1.to_]) rfl)) (by decide) ?_
    obtain ⟨w38, hrunw38, ht_71, htr39⟩ := sr_mapDelIt (n := 19) (l := [(0, v1), (1, .func (.func 49) #[] #[.pointer (some ⟨bdel_1_c0, 0, none⟩)]), (4, .pointer (some ⟨g18, 0, none⟩)), (7, .pointer (some ⟨rt_7, 0, none⟩)), (16, .bool y32), (17, v1), (18, .agg #[str e10.1.from_, str e10.1.to_])]) (d := none) (x := _) (y := _) (pos := _) (after := _) (t := _) (k := e10.1) ht_7 rfl Try.keyB63 Try.underlying52 (by decide) hb.bd
    refine sr_run0 (fun a ha => hrunw38 (ha.weaken (.cons rfl (.cons rfl (.cons rfl (.cons rfl (.cons rfl (.cons rfl (.cons rfl (.nil _))))))))) rfl rfl) ?_
    replace hedel_1_c0 := hedel_1_c0.mv (htr39.mv (i := 0) rfl) (Nat.succ_pos _)
    replace hb := hb.trans htr39
    replace ht_7 := ht_71
    clear ht_71
    replace hm_0 := ht_7.map
    refine sr_end (l' := [(0, v1), (1, .func (.func 49) #[] #[.pointer (some ⟨bdel_1_c0, 0, none⟩)]), (7, .pointer (some ⟨rt_7, 0, none⟩))]) (.cons rfl (.cons rfl (.cons rfl (.nil _)))) ?_
    have hK := maps_DeleteFunc_map_delegate_way_delegate_delegation_delegate_way_delegate_delegation__Delegations_Drop_1_B2_ok hg hbd ho2 hz _ hr0 hS hb hm_0 hedel_1_c0 ht_7
    exact ke_weaken (l' := [(0, v1), (1, .func (.func 49) #[] #[.pointer (some ⟨bdel_1_c0, 0, none⟩)]), (7, .pointer (some ⟨rt_7, 0, none⟩))]) (.cons rfl (.cons rfl (.cons rfl (.nil _)))) hK
   ·replace hS := ite_false' hS hc37
    refine ke_skip ?_
    have hK := maps_DeleteFunc_map_delegate_way_delegate_delegation_delegate_way_delegate_delegation__Delegations_Drop_1_B2_ok hg hbd ho2 hz _ hr0 hS hb hm_0 hedel_1_c0 ht_7
    exact ke_weaken (l' := [(0, v1), (1, .func (.func 49) #[] #[.pointer (some ⟨bdel_1_c0, 0, none⟩)]), (7, .pointer (some ⟨rt_7, 0, none⟩))]) (.cons rfl (.cons rfl (.cons rfl (.nil _)))) hK
theorem maps_DeleteFunc_map_delegate_way_delegate_delegation_delegate_way_delegate_delegation__Delegations_Drop_1_ok (w0 : World) (hg : Gs w0) {ρA : Tags} (hbd : ∀ b, ρA b ≠ 0 → b < w0.heap.size) (hz : Gz ρA) {o : Nat} (ho2 : 2 ≤ o) {m_0 : GMap delegate_way delegate_delegation} {c1_0 : Str} {v1 : Value} {b3 : Nat} {r : GMap delegate_way delegate_delegation} (h2 : MapT delegate_way.ek delegate_delegation.c true ρA o w0 v1 m_0) (he4 : ElT strC ρA 0 w0 b3 0 [str c1_0] c1_0) (hS : maps_DeleteFunc_map_delegate_way_delegate_delegation_delegate_way_delegate_delegation__Delegations_Drop_1 m_0 c1_0 = some r) :
  Calls Try.prog 48 #[v1, .func (.func 49) #[] #[.pointer (some ⟨b3, 0, none⟩)]] w0 (Ret (fun v w' => ∃ ρ', v = .tuple #[] ∧ MapT delegate_way.ek delegate_delegation.c true ρ' o w' v1 r ∧ Tr ρA w0 (rng o 1) ρ' w')) := by
 unfold maps_DeleteFunc_map_delegate_way_delegate_delegation_delegate_way_delegate_delegation__Delegations_Drop_1 at hS
 have hb := enter_fr (ρ := ρA) (w := w0) (n := 1) ho2 hbd
 have hz := hz.enter (n := 1) ho2
 replace he4 := he4.mv (enter_rd (n := 1) ho2) (Nat.succ_pos _)
 replace h2 := h2.mv (enter_mv (p := 0) (n := 1) (by decide) ho2)
 replace h2 : MapT delegate_way.ek delegate_delegation.c true (enter ρA o 1) 100 w0 v1 m_0 := h2
 refine calls_of_ke Try.func48 rfl (n := 19) rfl rfl (l := [(0, v1), (1, .func (.func 49) #[] #[.pointer (some ⟨b3, 0, none⟩)])]) rfl ?_
 refine ke_seq ?_
 refine ke_region ?_
 refine sr_ev (v := v1) (ev_move rfl) (by decide) ?_
 refine sr_rangeM 9 (by decide) h2 rfl Try.underlying52 hb.bd rfl (by decide) ?_
 intro r5 ρ6 w7 h8 htr9
 replace h2 := h2.mv (htr9.mv (i := 100) rfl)
 replace he4 := he4.mv (htr9.mv (i := 0) rfl) (Nat.succ_pos _)
 replace hb := hb.trans htr9
 refine sr_end (l' := [(0, v1), (1, .func (.func 49) #[] #[.pointer (some ⟨b3, 0, none⟩)]), (7, .pointer (some ⟨r5, 0, none⟩))]) (.cons rfl (.cons rfl (.cons rfl (.nil _)))) ?_
 refine ke_block ?_
 have hK := maps_DeleteFunc_map_delegate_way_delegate_delegation_delegate_way_delegate_delegation__Delegations_Drop_1_L1_ok hg hbd ho2 hz _ hS hb h2 he4 h8
 exact ke_weaken (l' := [(0, v1), (1, .func (.func 49) #[] #[.pointer (some ⟨b3, 0, none⟩)]), (7, .pointer (some ⟨r5, 0, none⟩))]) (.cons rfl (.cons rfl (.cons rfl (.nil _)))) (ke_loop hK)
theorem delegate_Delegations_Drop_ok (w0 : World) (hg : Gs w0) {ρA : Tags} (hbd : ∀ b, ρA b ≠ 0 → b < w0.heap.size) (hz : Gz ρA) {o : Nat} (ho2 : 2 ≤ o) {d_0 : delegate_Delegations} {user_1 : Str} {gd_0 : Nat} {r : Int × delegate_Delegations} (ho0 : delegate_Delegations.O (fun p => o + p) ρA w0 gd_0 d_0) (hS : delegate_Delegations_Drop d_0 user_1 = some r) :
  Calls Try.prog 24 #[.pointer (some ⟨gd_0, 0, none⟩), str user_1] w0 (Ret (fun v w' => ∃ ρ', v = .int .i64 r.1 ∧ delegate_Delegations.O (fun p => o + p) ρ' w' gd_0 r.2 ∧ Tr ρA w0 (rng o 2) ρ' w')) := by
 unfold delegate_Delegations_Drop at hS
 have hb := enter_fr (ρ := ρA) (w := w0) (n := 2) ho2 hbd
 have hz := hz.enter (n := 2) ho2
 obtain ⟨v1, hB3, h2⟩ := ho0
 replace hB3 := hB3.mv (enter_mv (p := 0) (n := 2) (by decide) ho2)
 replace h2 := h2.mv (enter_mv (p := 1) (n := 2) (by decide) ho2)
 replace hB3 : Blk (enter ρA o 2) 100 w0 gd_0 (.cells #[v1] 54 (0, 0)) := hB3
 replace h2 : MapT delegate_way.ek delegate_delegation.c true (enter ρA o 2) 101 w0 v1 d_0.ways := h2
 refine calls_of_ke Try.func24 rfl (n := 27) rfl rfl (l := [(0, .pointer (some ⟨gd_0, 0, none⟩)), (1, str user_1)]) rfl ?_
 refine ke_seq ?_
 refine ke_region ?_
 refine sr_boxT 5 (by decide) hb.bd rfl (by decide) ?_
 intro g4 ρ5 w6 hB8 htr7
 replace hB3 := hB3.mv (htr7.mv (i := 100) rfl)
 replace h2 := h2.mv (htr7.mv (i := 101) rfl)
 replace hb := hb.trans htr7
 replace hB8 : Blk ρ5 5 w6 g4 (.cells #[str user_1] 9 (0, 0)) := hB8
 refine sr_ev (v := .int .i64 0) (ev_assign rfl) (by decide) ?_
 refine sr_end (l' := [(0, .pointer (some ⟨gd_0, 0, none⟩)), (3, .pointer (some ⟨g4, 0, none⟩))]) (.cons rfl (.cons rfl (.nil _))) ?_
 refine ke_seq ?_
 refine ke_seq ?_
 refine ke_region ?_
 refine sr_ev (v := .pointer (some ⟨gd_0, 0, none⟩)) (ev_move rfl) (by decide) ?_
 obtain ⟨y9, hy10, hS⟩ := bind_some' hS
 refine sr_call (vs := [.pointer (some ⟨gd_0, 0, none⟩)]) rfl Try.call38 rfl (delegate_Delegations_made_ok _ (hg.fr hz hb) (ρA := ρ5) hb.bd (hz.fr hg hb) (τ0 := (fun p => 100 + p)) (fun p => Nat.le_add_right_of_le (by decide)) (⟨_, hB3, h2⟩ : delegate_Delegations.O (fun p => 100 + p) ρ5 w6 gd_0 d_0) hy10) (by decide) ?_
 rintro _ w11 ⟨rfl, hbw12⟩
 have htr13 := Tr.of_below hbw12 hb.bd
 replace hB8 := hB8.mv (htr13.mv (i := 5) rfl)
 replace hB3 := hB3.mv (htr13.mv (i := 100) rfl)
 replace h2 := h2.mv (htr13.mv (i := 101) rfl)
 replace hb := hb.trans htr13
 refine sr_ev (v := .bool (!y9)) (ev_not rfl) (by decide) ?_
 refine sr_end (l' := [(0, .pointer (some ⟨gd_0, 0, none⟩)), (3, .pointer (some ⟨g4, 0, none⟩)), (8, .bool (!y9))]) (.cons rfl (.cons rfl (.cons rfl (.nil _)))) ?_
 refine ke_cond (t := !y9) rfl (fun hc14 => ?_) (fun hc14 => ?_)
 ·replace hS := ite_true' hS hc14
  refine ke_seq ?_
  refine ke_region ?_
  refine sr_ev (v := .int .i64 0) (ev_assign rfl) (by decide) ?_
  refine sr_end (l' := [(4, .int .i64 0)]) (.cons rfl (.nil _)) ?_
  cases hS
  exact ke_ret1 Try.func24 rfl rfl ⟨_, rfl, leave ρA w0 o 2 ρ5, rfl, ⟨_, (hB3.mv (leave_mv (p := 0) (by decide) hb)), (h2.mv (leave_mv (p := 1) (by decide) hb))⟩, (leave_tr ho2 hb)⟩
 ·replace hS := ite_false' hS hc14
  refine ke_skip ?_
  refine ke_seq ?_
  refine ke_region ?_
  refine sr_ev (v := .pointer (some ⟨gd_0, 0, none⟩)) (ev_move rfl) (by decide) ?_
  refine sr_ev (v := .pointer (some ⟨gd_0, 0, none⟩)) (ev_nilCheck rfl) (by decide) ?_
  refine sr_ev (v := .pointer (some ⟨gd_0, 0, none⟩)) (ev_fieldAddr (i := 0) Try.underlying54 rfl Try.info52 rfl rfl) (by decide) ?_
  refine sr_ev (v := v1) (ev_load Try.isAgg52 rfl (hB3.cell rfl)) (by decide) ?_
  refine sr_ev (v := .int .i64 (mlen d_0.ways)) (ev_mapLen h2 Try.underlying52 (Mv.of_below (i := 101) (ρ := ρ5) (Below.refl _ _)) rfl) (by decide) ?_
  refine sr_ev (v := .int .i64 (mlen d_0.ways)) (ev_assign rfl) (by decide) ?_
  refine sr_end (l' := [(0, .pointer (some ⟨gd_0, 0, none⟩)), (3, .pointer (some ⟨g4, 0, none⟩)), (5, .int .i64 (mlen d_0.ways))]) (.cons rfl (.cons rfl (.cons rfl (.nil _)))) ?_
  refine ke_seq ?_
  refine ke_region ?_
  refine sr_ev (v := .pointer (some ⟨gd_0, 0, none⟩)) (ev_move rfl) (by decide) ?_
  refine sr_ev (v := .pointer (some ⟨gd_0, 0, none⟩)) (ev_nilCheck rfl) (by decide) ?_
  refine sr_ev (v := .pointer (some ⟨gd_0, 0, none⟩)) (ev_fieldAddr (i := 0) Try.underlying54 rfl Try.info52 rfl rfl) (by decide) ?_
  refine sr_ev (v := v1) (ev_load Try.isAgg52 rfl (hB3.cell rfl)) (by decide) ?_
  have htr15 := frz_tr (ρ := ρ5) (w := w11) (i := 5) (by decide) hb.bd
  have he16 : ElT strC (frz ρ5 5) 0 w11 g4 0 [str user_1] user_1 := Blk.frzEl hB8 rfl rfl
  replace h2 := h2.mv (htr15.mv (i := 101) rfl)
  replace hB3 := hB3.mv (htr15.mv (i := 100) rfl)
  replace hb := hb.trans htr15
  refine sr_ev (v := .func (.func 49) #[] #[.pointer (some ⟨g4, 0, none⟩)]) (ev_makeFunc rfl) (by decide) ?_
  obtain ⟨y17, hy18, hS⟩ := bind_some' hS
  refine sr_call (vs := [v1, .func (.func 49) #[] #[.pointer (some ⟨g4, 0, none⟩)]]) rfl Try.call48 rfl (maps_DeleteFunc_map_delegate_way_delegate_delegation_delegate_way_delegate_delegation__Delegations_Drop_1_ok _ (hg.fr hz hb) (ρA := (frz ρ5 5)) hb.bd (hz.fr hg hb) (o := 101) (by decide) h2 he16 hy18) (by decide) ?_
  rintro _ w19 ⟨ρ22, rfl, h21, htr21⟩
  replace hB3 := hB3.mv (htr21.mv (i := 100) rfl)
  replace hb := hb.trans htr21
  replace h2 := h21
  clear h21
  refine sr_end (l' := [(0, .pointer (some ⟨gd_0, 0, none⟩)), (5, .int .i64 (mlen d_0.ways))]) (.cons rfl (.cons rfl (.nil _))) ?_
  refine ke_seq ?_
  refine ke_region ?_
  refine sr_ev (v := .int .i64 (mlen d_0.ways)) (ev_move rfl) (by decide) ?_
  refine sr_ev (v := .pointer (some ⟨gd_0, 0, none⟩)) (ev_move rfl) (by decide) ?_
  refine sr_ev (v := .pointer (some ⟨gd_0, 0, none⟩)) (ev_nilCheck rfl) (by decide) ?_
  refine sr_ev (v := .pointer (some ⟨gd_0, 0, none⟩)) (ev_fieldAddr (i := 0) Try.underlying54 rfl Try.info52 rfl rfl) (by decide) ?_
  refine sr_ev (v := v1) (ev_load Try.isAgg52 rfl (hB3.cell rfl)) (by decide) ?_
  refine sr_ev (v := .int .i64 (mlen y17)) (ev_mapLen h2 Try.underlying52 (Mv.of_below (i := 101) (ρ := ρ22) (Below.refl _ _)) rfl) (by decide) ?_
  refine sr_ev (v := .int .i64 (IntKind.i64.wrap ((mlen d_0.ways) - (mlen y17)))) (ev_sub rfl rfl) (by decide) ?_
  refine sr_ev (v := .int .i64 (IntKind.i64.wrap ((mlen d_0.ways) - (mlen y17)))) (ev_assign rfl) (by decide) ?_
  refine sr_end (l' := [(4, .int .i64 (IntKind.i64.wrap ((mlen d_0.ways) - (mlen y17))))]) (.cons rfl (.nil _)) ?_
  cases hS
  exact ke_ret1 Try.func24 rfl rfl ⟨_, rfl, leave ρA w0 o 2 ρ22, rfl, ⟨_, (hB3.mv (leave_mv (p := 0) (by decide) hb)), (h2.mv (leave_mv (p := 1) (by decide) hb))⟩, (leave_tr ho2 hb)⟩
theorem delegate_Delegations_made__nil_ok (w0 : World) (hg : Gs w0) {ρA : Tags} (hbd : ∀ b, ρA b ≠ 0 → b < w0.heap.size) (hz : Gz ρA) {r : Bool} (hS : delegate_Delegations_made__nil = some r) :
  Calls Try.prog 38 #[.pointer none] w0 (Ret (fun v w' => v = .bool r ∧ Below w0.heap.size w0 w')) := by
 unfold delegate_Delegations_made__nil at hS
 have hb := flat1_fr (ρ := ρA) (w := w0) hbd
 have hz := hz.flat1
 refine calls_of_ke Try.func38 rfl (n := 12) rfl rfl (l := [(0, .pointer none)]) rfl ?_
 refine ke_seq ?_
 refine ke_region ?_
 refine sr_ev (v := .bool false) (ev_assign rfl) (by decide) ?_
 refine sr_end (l' := [(0, .pointer none)]) (.cons rfl (.nil _)) ?_
 refine ke_seq ?_
 refine ke_region ?_
 refine sr_ev (v := .pointer none) (ev_move rfl) (by decide) ?_
 refine sr_ev (v := .bool false) (ev_pneT_nil Try.underlying27 rfl rfl) (by decide) ?_
 refine sr_ev (v := .bool false) (ev_move rfl) (by decide) ?_
 refine sr_pass (e := 5) rfl rfl rfl (by decide) ?_
 refine sr_pass (e := 5) rfl rfl rfl (by decide) ?_
 refine sr_pass (e := 5) rfl rfl rfl (by decide) ?_
 refine sr_pass (e := 5) rfl rfl rfl (by decide) ?_
 refine sr_pass (e := 5) rfl rfl rfl (by decide) ?_
 refine sr_ev (v := .bool false) (ev_pick_f rfl rfl rfl) (by decide) ?_
 refine sr_ev (v := .bool false) (ev_assign rfl) (by decide) ?_
 refine sr_end (l' := [(2, .bool false)]) (.cons rfl (.nil _)) ?_
 cases hS
 exact ke_ret1 Try.func38 rfl rfl ⟨_, rfl, rfl, (hb.below (flat1_le _))⟩
theorem delegate_Delegations_May__nil_ok (w0 : World) (hg : Gs w0) {ρA : Tags} (hbd : ∀ b, ρA b ≠ 0 → b < w0.heap.size) (hz : Gz ρA) {from_1 : Str} {to_2 : Str} {scopes_3 : List Str} {now_4 : Int} {v1 : Value} {r : Int} (h2 : SlR strC (Wb ρA) w0 v1 scopes_3) (hS : delegate_Delegations_May__nil from_1 to_2 scopes_3 now_4 = some r) :
  Calls Try.prog 26 #[.pointer none, str from_1, str to_2, v1, .int .i64 now_4] w0 (Ret (fun v w' => v = .int .i64 r ∧ Below w0.heap.size w0 w')) := by
 unfold delegate_Delegations_May__nil at hS
 have hb := flat1_fr (ρ := ρA) (w := w0) hbd
 have hz := hz.flat1
 replace h2 := SlR.mv h2 flat1_rd
 refine calls_of_ke Try.func26 rfl (n := 42) rfl rfl (l := [(0, .pointer none), (1, str from_1), (2, str to_2), (3, v1), (4, .int .i64 now_4)]) rfl ?_
 refine ke_seq ?_
 refine ke_region ?_
 refine sr_ev (v := .int .i64 0) (ev_assign rfl) (by decide) ?_
 refine sr_end (l' := [(0, .pointer none), (1, str from_1), (2, str to_2), (3, v1), (4, .int .i64 now_4)]) (.cons rfl (.cons rfl (.cons rfl (.cons rfl (.cons rfl (.nil _)))))) ?_
 refine ke_seq ?_
 refine ke_seq ?_
 refine ke_region ?_
 refine sr_ev (v := .pointer none) (ev_move rfl) (by decide) ?_
 obtain ⟨y3, hy4, hS⟩ := bind_some' hS
 obtain rfl : y3 = false := (Option.some.inj hy4).symm
 refine sr_call (vs := [.pointer none]) rfl Try.call38 rfl (delegate_Delegations_made__nil_ok _ (hg.fr hz hb) (ρA := (flat1 ρA)) hb.bd (hz.fr hg hb) hy4) (by decide) ?_
 rintro _ w5 ⟨rfl, hbw6⟩
 have htr7 := Tr.of_below hbw6 hb.bd
 replace h2 := h2.mv htr7.rd
 replace hb := hb.trans htr7
 refine sr_ev (v := .bool true) (ev_notc rfl rfl) (by decide) ?_
 refine sr_end (l' := [(0, .pointer none), (1, str from_1), (2, str to_2), (3, v1), (4, .int .i64 now_4), (16, .bool true)]) (.cons rfl (.cons rfl (.cons rfl (.cons rfl (.cons rfl (.cons rfl (.nil _))))))) ?_
 refine ke_cond (t := true) rfl (fun _ => ?_) (fun h => by cases h)
 refine ke_seq ?_
 refine ke_region ?_
 refine sr_ev (v := .int .i64 1) (ev_assign rfl) (by decide) ?_
 refine sr_end (l' := [(10, .int .i64 1)]) (.cons rfl (.nil _)) ?_
 cases hS
 exact ke_ret1 Try.func26 rfl rfl ⟨_, rfl, rfl, (hb.below (flat1_le _))⟩
theorem delegate_Delegations_Drop__nil_ok (w0 : World) (hg : Gs w0) {ρA : Tags} (hbd : ∀ b, ρA b ≠ 0 → b < w0.heap.size) (hz : Gz ρA) {user_1 : Str} {r : Int} (hS : delegate_Delegations_Drop__nil user_1 = some r) :
  Calls Try.prog 24 #[.pointer none, str user_1] w0 (Ret (fun v w' => v = .int .i64 r ∧ Below w0.heap.size w0 w')) := by
 unfold delegate_Delegations_Drop__nil at hS
 have hb := flat1_fr (ρ := ρA) (w := w0) hbd
 have hz := hz.flat1
 refine calls_of_ke Try.func24 rfl (n := 27) rfl rfl (l := [(0, .pointer none), (1, str user_1)]) rfl ?_
 refine ke_seq ?_
 refine ke_region ?_
 refine sr_boxT 5 (by decide) hb.bd rfl (by decide) ?_
 intro g1 ρ2 w3 hB5 htr4
 replace hb := hb.trans htr4
 replace hB5 : Blk ρ2 5 w3 g1 (.cells #[str user_1] 9 (0, 0)) := hB5
 refine sr_ev (v := .int .i64 0) (ev_assign rfl) (by decide) ?_
 refine sr_end (l' := [(0, .pointer none), (3, .pointer (some ⟨g1, 0, none⟩))]) (.cons rfl (.cons rfl (.nil _))) ?_
 refine ke_seq ?_
 refine ke_seq ?_
 refine ke_region ?_
 refine sr_ev (v := .pointer none) (ev_move rfl) (by decide) ?_
 obtain ⟨y6, hy7, hS⟩ := bind_some' hS
 obtain rfl : y6 = false := (Option.some.inj hy7).symm
 refine sr_call (vs := [.pointer none]) rfl Try.call38 rfl (delegate_Delegations_made__nil_ok _ (hg.fr hz hb) (ρA := ρ2) hb.bd (hz.fr hg hb) hy7) (by decide) ?_
 rintro _ w8 ⟨rfl, hbw9⟩
 have htr10 := Tr.of_below hbw9 hb.bd
 replace hB5 := hB5.mv (htr10.mv (i := 5) rfl)
 replace hb := hb.trans htr10
 refine sr_ev (v := .bool true) (ev_notc rfl rfl) (by decide) ?_
 refine sr_end (l' := [(0, .pointer none), (3, .pointer (some ⟨g1, 0, none⟩)), (8, .bool true)]) (.cons rfl (.cons rfl (.cons rfl (.nil _)))) ?_
 refine ke_cond (t := true) rfl (fun _ => ?_) (fun h => by cases h)
 refine ke_seq ?_
 refine ke_region ?_
 refine sr_ev (v := .int .i64 0) (ev_assign rfl) (by decide) ?_
 refine sr_end (l' := [(4, .int .i64 0)]) (.cons rfl (.nil _)) ?_
 cases hS
 exact ke_ret1 Try.func24 rfl rfl ⟨_, rfl, rfl, (hb.below (flat1_le _))⟩
theorem law35_awake_ok (w0 : World) (hg : Gs w0) {ρA : Tags} (hbd : ∀ b, ρA b ≠ 0 → b < w0.heap.size) (hz : Gz ρA) {r : Bool} (hS : law35_awake = some r) :
  Calls Try.prog 10 #[] w0 (Ret (fun v w' => v = .bool r ∧ Below w0.heap.size w0 w')) := by
 unfold law35_awake at hS
 have hb := flat1_fr (ρ := ρA) (w := w0) hbd
 have hz := hz.flat1
 refine calls_of_ke Try.func10 rfl (n := 115) rfl rfl (l := []) rfl ?_
 refine ke_seq ?_
 refine ke_region ?_
 refine sr_ev (v := .bool false) (ev_assign rfl) (by decide) ?_
 refine sr_end (l' := []) (.nil _) ?_
 refine ke_seq ?_
 refine ke_region ?_
 obtain ⟨y1, hy2, hS⟩ := bind_some' hS
 refine sr_call (vs := []) rfl Try.call11 rfl (delegate_New_ok _ (hg.fr hz hb) (ρA := (flat1 ρA)) hb.bd (hz.fr hg hb) (o := 100) (by decide) hy2) (by decide) ?_
 rintro _ w3 ⟨ρ10, g6, rfl, ⟨v7, hB9, h8⟩, htr5⟩
 replace hb := hb.trans htr5
 replace hB9 : Blk ρ10 100 w3 g6 (.cells #[v7] 54 (0, 0)) := hB9
 replace h8 : MapT delegate_way.ek delegate_delegation.c true ρ10 101 w3 v7 y1.ways := h8
 refine sr_ev (v := .pointer (some ⟨g6, 0, none⟩)) (ev_assign rfl) (by decide) ?_
 refine sr_end (l' := [(1, .pointer (some ⟨g6, 0, none⟩))]) (.cons rfl (.nil _)) ?_
 refine ke_seq ?_
 refine ke_seq ?_
 refine ke_region ?_
 refine sr_ev (v := .pointer (some ⟨g6, 0, none⟩)) (ev_move rfl) (by decide) ?_
 refine sr_ev (v := .bool false) (ev_peqT_some Try.underlying27 rfl rfl) (by decide) ?_
 refine sr_end (l' := [(1, .pointer (some ⟨g6, 0, none⟩)), (13, .bool false)]) (.cons rfl (.cons rfl (.nil _))) ?_
 refine ke_cond (t := false) rfl (fun h => by cases h) (fun _ => ?_)
 refine ke_skip ?_
 refine ke_seq ?_
 refine ke_region ?_
 refine sr_ev (v := .agg #[.int .i64 5, .int .i64 20]) (ev_build (vs := #[(0, .int .i64 5), (1, .int .i64 20)]) rfl (fun _ => by kernel_rfl)) (by decide) ?_
 refine sr_allocT 4 (by decide) hb.bd Try.zeroValue33 (by decide) ?_
 intro g11 ρ12 w13 hB15 htr14
 replace hB9 := hB9.mv (htr14.mv (i := 100) rfl)
 replace h8 := h8.mv (htr14.mv (i := 101) rfl)
 replace hb := hb.trans htr14
 replace hB15 : Blk ρ12 4 w13 g11 (.cells #[.int .i64 0, .int .i64 0] 33 (0, 0)) := hB15
 refine sr_storeT (v := .agg #[.int .i64 5, .int .i64 20]) (vs := [.int .i64 5, .int .i64 20]) (cs' := #[.int .i64 5, .int .i64 20]) hB15 (by decide) hb.bd rfl rfl rfl Try.sizeOf33 rfl rfl rfl ?_
 intro w16 hB151 htr17
 replace hB9 := hB9.mv (htr17.mv (i := 100) rfl)
 replace h8 := h8.mv (htr17.mv (i := 101) rfl)
 replace hb := hb.trans htr17
 replace hB15 : Blk ρ12 4 w16 g11 (.cells #[.int .i64 5, .int .i64 20] 33 (0, 0)) := hB151
 clear hB151
 refine sr_end (l' := [(1, .pointer (some ⟨g6, 0, none⟩)), (2, .pointer (some ⟨g11, 0, none⟩))]) (.cons rfl (.cons rfl (.nil _))) ?_
 refine ke_seq ?_
 refine ke_region ?_
 refine sr_ev (v := .pointer (some ⟨g6, 0, none⟩)) (ev_move rfl) (by decide) ?_
 refine sr_litT (c := strC) (ρ := ρ12) (E := 9) (xs := [[109, 97, 105, 108]]) (vs := #[(0, str ([109, 97, 105, 108]))]) (cs := #[str ([109, 97, 105, 108])]) (css := [[str ([109, 97, 105, 108])]]) rfl (fun _ => by kernel_rfl) rfl ⟨rfl, trivial⟩ rfl (by decide) hb.bd (by decide) ?_
 intro v18 w20 h19 hbw22
 have htr21 := Tr.of_below hbw22 hb.bd
 replace hB15 := hB15.mv (htr21.mv (i := 4) rfl)
 replace hB9 := hB9.mv (htr21.mv (i := 100) rfl)
 replace h8 := h8.mv (htr21.mv (i := 101) rfl)
 replace hb := hb.trans htr21
 refine sr_ev (v := .agg #[.int .i64 5, .int .i64 20]) (ev_loads (cs := [.int .i64 5, .int .i64 20]) Try.isAgg33 Try.sizeOf33 rfl (hB15.cells (vs := [.int .i64 5, .int .i64 20]) rfl)) (by decide) ?_
 obtain ⟨y23, hy24, hS⟩ := bind_some' hS
 refine sr_call (vs := [.pointer (some ⟨g6, 0, none⟩), str ([97, 110, 110]), str ([97, 110, 110]), v18, .agg #[.int .i64 5, .int .i64 20]]) rfl Try.call22 rfl (delegate_Delegations_Allow_ok (w_4 := (api_Window.mk 5 20)) _ (hg.fr hz hb) (ρA := ρ12) hb.bd (hz.fr hg hb) (o := 100) (by decide) h19 (⟨_, hB9, h8⟩ : delegate_Delegations.O (fun p => 100 + p) ρ12 w20 g6 y1) hy24) (by decide) ?_
 rintro _ w25 ⟨ρ31, rfl, ⟨v28, hB30, h29⟩, htr27⟩
 replace hB15 := hB15.mv (htr27.mv (i := 4) rfl)
 replace hb := hb.trans htr27
 replace hB30 : Blk ρ31 100 w25 g6 (.cells #[v28] 54 (0, 0)) := hB30
 replace h29 : MapT delegate_way.ek delegate_delegation.c true ρ31 101 w25 v28 y23.2.ways := h29
 refine sr_ev (v := .int .i64 y23.1) (ev_assign rfl) (by decide) ?_
 refine sr_end (l' := [(1, .pointer (some ⟨g6, 0, none⟩)), (2, .pointer (some ⟨g11, 0, none⟩)), (3, .int .i64 y23.1)]) (.cons rfl (.cons rfl (.cons rfl (.nil _)))) ?_
 refine ke_seq ?_
 refine ke_region ?_
 refine sr_ev (v := .pointer (some ⟨g6, 0, none⟩)) (ev_move rfl) (by decide) ?_
 refine sr_litT (c := strC) (ρ := ρ31) (E := 9) (xs := [[109, 97, 105, 108]]) (vs := #[(0, str ([109, 97, 105, 108]))]) (cs := #[str ([109, 97, 105, 108])]) (css := [[str ([109, 97, 105, 108])]]) rfl (fun _ => by kernel_rfl) rfl ⟨rfl, trivial⟩ rfl (by decide) hb.bd (by decide) ?_
 intro v32 w34 h33 hbw36
 have htr35 := Tr.of_below hbw36 hb.bd
 replace hB15 := hB15.mv (htr35.mv (i := 4) rfl)
 replace hB30 := hB30.mv (htr35.mv (i := 100) rfl)
 replace h29 := h29.mv (htr35.mv (i := 101) rfl)
 replace hb := hb.trans htr35
 refine sr_ev (v := .agg #[.int .i64 5, .int .i64 20]) (ev_loads (cs := [.int .i64 5, .int .i64 20]) Try.isAgg33 Try.sizeOf33 rfl (hB15.cells (vs := [.int .i64 5, .int .i64 20]) rfl)) (by decide) ?_
 obtain ⟨y37, hy38, hS⟩ := bind_some' hS
 refine sr_call (vs := [.pointer (some ⟨g6, 0, none⟩), str ([97, 110, 110]), str ([98, 111, 98]), v32, .agg #[.int .i64 5, .int .i64 20]]) rfl Try.call22 rfl (delegate_Delegations_Allow_ok (w_4 := (api_Window.mk 5 20)) _ (hg.fr hz hb) (ρA := ρ31) hb.bd (hz.fr hg hb) (o := 100) (by decide) h33 (⟨_, hB30, h29⟩ : delegate_Delegations.O (fun p => 100 + p) ρ31 w34 g6 y23.2) hy38) (by decide) ?_
 rintro _ w39 ⟨ρ45, rfl, ⟨v42, hB44, h43⟩, htr41⟩
 replace hB15 := hB15.mv (htr41.mv (i := 4) rfl)
 replace hb := hb.trans htr41
 replace hB44 : Blk ρ45 100 w39 g6 (.cells #[v42] 54 (0, 0)) := hB44
 replace h43 : MapT delegate_way.ek delegate_delegation.c true ρ45 101 w39 v42 y37.2.ways := h43
 refine sr_ev (v := .int .i64 y37.1) (ev_assign rfl) (by decide) ?_
 refine sr_end (l' := [(1, .pointer (some ⟨g6, 0, none⟩)), (2, .pointer (some ⟨g11, 0, none⟩)), (3, .int .i64 y23.1), (4, .int .i64 y37.1)]) (.cons rfl (.cons rfl (.cons rfl (.cons rfl (.nil _))))) ?_
 refine ke_seq ?_
 refine ke_region ?_
 refine sr_ev (v := .pointer (some ⟨g6, 0, none⟩)) (ev_move rfl) (by decide) ?_
 refine sr_litT (c := strC) (ρ := ρ45) (E := 9) (xs := [[109, 97, 105, 108, 46, 114, 101, 97, 100]]) (vs := #[(0, str ([109, 97, 105, 108, 46, 114, 101, 97, 100]))]) (cs := #[str ([109, 97, 105, 108, 46, 114, 101, 97, 100])]) (css := [[str ([109, 97, 105, 108, 46, 114, 101, 97, 100])]]) rfl (fun _ => by kernel_rfl) rfl ⟨rfl, trivial⟩ rfl (by decide) hb.bd (by decide) ?_
 intro v46 w48 h47 hbw50
 have htr49 := Tr.of_below hbw50 hb.bd
 replace hB15 := hB15.mv (htr49.mv (i := 4) rfl)
 replace hB44 := hB44.mv (htr49.mv (i := 100) rfl)
 replace h43 := h43.mv (htr49.mv (i := 101) rfl)
 replace hb := hb.trans htr49
 refine sr_ev (v := .agg #[.int .i64 5, .int .i64 20]) (ev_loads (cs := [.int .i64 5, .int .i64 20]) Try.isAgg33 Try.sizeOf33 rfl (hB15.cells (vs := [.int .i64 5, .int .i64 20]) rfl)) (by decide) ?_
 obtain ⟨y51, hy52, hS⟩ := bind_some' hS
 refine sr_call (vs := [.pointer (some ⟨g6, 0, none⟩), str ([98, 111, 98]), str ([99, 121, 100]), v46, .agg #[.int .i64 5, .int .i64 20]]) rfl Try.call22 rfl (delegate_Delegations_Allow_ok (w_4 := (api_Window.mk 5 20)) _ (hg.fr hz hb) (ρA := ρ45) hb.bd (hz.fr hg hb) (o := 100) (by decide) h47 (⟨_, hB44, h43⟩ : delegate_Delegations.O (fun p => 100 + p) ρ45 w48 g6 y37.2) hy52) (by decide) ?_
 rintro _ w53 ⟨ρ59, rfl, ⟨v56, hB58, h57⟩, htr55⟩
 replace hb := hb.trans htr55
 replace hB58 : Blk ρ59 100 w53 g6 (.cells #[v56] 54 (0, 0)) := hB58
 replace h57 : MapT delegate_way.ek delegate_delegation.c true ρ59 101 w53 v56 y51.2.ways := h57
 refine sr_ev (v := .int .i64 y51.1) (ev_assign rfl) (by decide) ?_
 refine sr_end (l' := [(1, .pointer (some ⟨g6, 0, none⟩)), (3, .int .i64 y23.1), (4, .int .i64 y37.1), (5, .int .i64 y51.1)]) (.cons rfl (.cons rfl (.cons rfl (.cons rfl (.nil _))))) ?_
 refine ke_seq ?_
 refine ke_region ?_
 refine sr_ev (v := .pointer (some ⟨g6, 0, none⟩)) (ev_move rfl) (by decide) ?_
 refine sr_litT (c := strC) (ρ := ρ59) (E := 9) (xs := [[109, 97, 105, 108, 46, 114, 101, 97, 100]]) (vs := #[(0, str ([109, 97, 105, 108, 46, 114, 101, 97, 100]))]) (cs := #[str ([109, 97, 105, 108, 46, 114, 101, 97, 100])]) (css := [[str ([109, 97, 105, 108, 46, 114, 101, 97, 100])]]) rfl (fun _ => by kernel_rfl) rfl ⟨rfl, trivial⟩ rfl (by decide) hb.bd (by decide) ?_
 intro v60 w62 h61 hbw64
 have htr63 := Tr.of_below hbw64 hb.bd
 replace hB58 := hB58.mv (htr63.mv (i := 100) rfl)
 replace h57 := h57.mv (htr63.mv (i := 101) rfl)
 replace hb := hb.trans htr63
 refine sr_ev (v := .agg #[.int .i64 5, .int .i64 5]) (ev_build (vs := #[(0, .int .i64 5), (1, .int .i64 5)]) rfl (fun _ => by kernel_rfl)) (by decide) ?_
 obtain ⟨y65, hy66, hS⟩ := bind_some' hS
 refine sr_call (vs := [.pointer (some ⟨g6, 0, none⟩), str ([98, 111, 98]), str ([99, 121, 100]), v60, .agg #[.int .i64 5, .int .i64 5]]) rfl Try.call22 rfl (delegate_Delegations_Allow_ok (w_4 := (api_Window.mk 5 5)) _ (hg.fr hz hb) (ρA := ρ59) hb.bd (hz.fr hg hb) (o := 100) (by decide) h61 (⟨_, hB58, h57⟩ : delegate_Delegations.O (fun p => 100 + p) ρ59 w62 g6 y51.2) hy66) (by decide) ?_
 rintro _ w67 ⟨ρ73, rfl, ⟨v70, hB72, h71⟩, htr69⟩
 replace hb := hb.trans htr69
 replace hB72 : Blk ρ73 100 w67 g6 (.cells #[v70] 54 (0, 0)) := hB72
 replace h71 : MapT delegate_way.ek delegate_delegation.c true ρ73 101 w67 v70 y65.2.ways := h71
 refine sr_ev (v := .int .i64 y65.1) (ev_assign rfl) (by decide) ?_
 refine sr_end (l' := [(1, .pointer (some ⟨g6, 0, none⟩)), (3, .int .i64 y23.1), (4, .int .i64 y37.1), (5, .int .i64 y51.1), (6, .int .i64 y65.1)]) (.cons rfl (.cons rfl (.cons rfl (.cons rfl (.cons rfl (.nil _)))))) ?_
 refine ke_seq ?_
 refine ke_region ?_
 refine sr_litT (c := strC) (ρ := ρ73) (E := 9) (xs := [[97, 110, 110], [98, 111, 98], [99, 121, 100]]) (vs := #[(0, str ([97, 110, 110])), (1, str ([98, 111, 98])), (2, str ([99, 121, 100]))]) (cs := #[str ([97, 110, 110]), str ([98, 111, 98]), str ([99, 121, 100])]) (css := [[str ([97, 110, 110])], [str ([98, 111, 98])], [str ([99, 121, 100])]]) rfl (fun _ => by kernel_rfl) rfl ⟨rfl, ⟨rfl, ⟨rfl, trivial⟩⟩⟩ rfl (by decide) hb.bd (by decide) ?_
 intro v74 w76 h75 hbw78
 have htr77 := Tr.of_below hbw78 hb.bd
 replace hB72 := hB72.mv (htr77.mv (i := 100) rfl)
 replace h71 := h71.mv (htr77.mv (i := 101) rfl)
 replace hb := hb.trans htr77
 refine sr_ev (v := v74) (ev_assign rfl) (by decide) ?_
 refine sr_end (l' := [(1, .pointer (some ⟨g6, 0, none⟩)), (3, .int .i64 y23.1), (4, .int .i64 y37.1), (5, .int .i64 y51.1), (6, .int .i64 y65.1), (7, v74)]) (.cons rfl (.cons rfl (.cons rfl (.cons rfl (.cons rfl (.cons rfl (.nil _))))))) ?_
 refine ke_seq ?_
 refine ke_seq ?_
 refine ke_region ?_
 refine sr_ev (v := .int .i64 y23.1) (ev_move rfl) (by decide) ?_
 refine sr_ev (v := .bool (y23.1 != 28)) (ev_ne rfl rfl) (by decide) ?_
 refine sr_ev (v := .bool (y23.1 != 28)) (ev_move rfl) (by decide) ?_
 refine sr_join (m := 3) (C := fun (x : Bool) w1 => x = ((y23.1 != 28) || (y37.1 != 0)) ∧ w76 = w1) (l' := fun x => [(1, .pointer (some ⟨g6, 0, none⟩)), (5, .int .i64 y51.1), (6, .int .i64 y65.1), (7, v74), (37, .bool x)]) ?_ ?_
 ·rintro _ _ ⟨rfl, rfl⟩
  refine sr_ev (v := .bool ((y23.1 != 28) || (y37.1 != 0))) (ev_move rfl) (by decide) ?_
  refine sr_join (m := 3) (C := fun (x : Bool) w1 => x = (((y23.1 != 28) || (y37.1 != 0)) || (y51.1 != 0)) ∧ w76 = w1) (l' := fun x => [(1, .pointer (some ⟨g6, 0, none⟩)), (6, .int .i64 y65.1), (7, v74), (41, .bool x)]) ?_ ?_
  ·rintro _ _ ⟨rfl, rfl⟩
   refine sr_ev (v := .bool (((y23.1 != 28) || (y37.1 != 0)) || (y51.1 != 0))) (ev_move rfl) (by decide) ?_
   refine sr_join (m := 3) (C := fun (x : Bool) w1 => x = ((((y23.1 != 28) || (y37.1 != 0)) || (y51.1 != 0)) || (y65.1 != 2)) ∧ w76 = w1) (l' := fun x => [(1, .pointer (some ⟨g6, 0, none⟩)), (7, v74), (45, .bool x)]) ?_ ?_
   ·rintro _ _ ⟨rfl, rfl⟩
    refine sr_ev (v := .bool ((((y23.1 != 28) || (y37.1 != 0)) || (y51.1 != 0)) || (y65.1 != 2))) (ev_move rfl) (by decide) ?_
    obtain ⟨z105, hz107, hS⟩ := bind_some' hS
    refine sr_join (m := 5) (C := fun (z : Bool) w1 => z105 = z ∧ ∃ ρ1, Tr ρ73 w76 (fun _ => false) ρ1 w1) (l' := fun z => [(1, .pointer (some ⟨g6, 0, none⟩)), (7, v74), (51, .bool z)]) ?_ ?_
    ·rintro _ w108 ⟨rfl, ρ109, hj106⟩
     replace h75 := h75.mv hj106.rd
     replace hB72 := hB72.mv (hj106.mv (i := 100) rfl)
     replace h71 := h71.mv (hj106.mv (i := 101) rfl)
     replace hb := hb.trans hj106
     refine sr_ev (v := .bool z105) (ev_move rfl) (by decide) ?_
     obtain ⟨z123, hz125, hS⟩ := bind_some' hS
     refine sr_join (m := 5) (C := fun (z : Bool) w1 => z123 = z ∧ ∃ ρ1, Tr ρ109 w108 (fun _ => false) ρ1 w1) (l' := fun z => [(1, .pointer (some ⟨g6, 0, none⟩)), (7, v74), (57, .bool z)]) ?_ ?_
     ·rintro _ w126 ⟨rfl, ρ127, hj124⟩
      replace h75 := h75.mv hj124.rd
      replace hB72 := hB72.mv (hj124.mv (i := 100) rfl)
      replace h71 := h71.mv (hj124.mv (i := 101) rfl)
      replace hb := hb.trans hj124
      refine sr_ev (v := .bool z123) (ev_move rfl) (by decide) ?_
      obtain ⟨z141, hz143, hS⟩ := bind_some' hS
      refine sr_join (m := 6) (C := fun (z : Bool) w1 => z141 = z ∧ ∃ ρ1, Tr ρ127 w126 (fun _ => false) ρ1 w1) (l' := fun z => [(1, .pointer (some ⟨g6, 0, none⟩)), (7, v74), (64, .bool z)]) ?_ ?_
      ·rintro _ w144 ⟨rfl, ρ145, hj142⟩
       replace h75 := h75.mv hj142.rd
       replace hB72 := hB72.mv (hj142.mv (i := 100) rfl)
       replace h71 := h71.mv (hj142.mv (i := 101) rfl)
       replace hb := hb.trans hj142
       refine sr_ev (v := .bool z141) (ev_move rfl) (by decide) ?_
       obtain ⟨z159, hz161, hS⟩ := bind_some' hS
       refine sr_join (m := 6) (C := fun (z : Bool) w1 => z159 = z ∧ ∃ ρ1, Tr ρ145 w144 (fun _ => false) ρ1 w1) (l' := fun z => [(1, .pointer (some ⟨g6, 0, none⟩)), (7, v74), (71, .bool z)]) ?_ ?_
       ·rintro _ w162 ⟨rfl, ρ163, hj160⟩
        replace h75 := h75.mv hj160.rd
        replace hB72 := hB72.mv (hj160.mv (i := 100) rfl)
        replace h71 := h71.mv (hj160.mv (i := 101) rfl)
        replace hb := hb.trans hj160
        refine sr_ev (v := .bool z159) (ev_move rfl) (by decide) ?_
        obtain ⟨z177, hz179, hS⟩ := bind_some' hS
        refine sr_join (m := 6) (C := fun (z : Bool) w1 => z177 = z ∧ ∃ ρ1, Tr ρ163 w162 (fun _ => false) ρ1 w1) (l' := fun z => [(1, .pointer (some ⟨g6, 0, none⟩)), (78, .bool z)]) ?_ ?_
        ·rintro _ w180 ⟨rfl, ρ181, hj178⟩
         replace hB72 := hB72.mv (hj178.mv (i := 100) rfl)
         replace h71 := h71.mv (hj178.mv (i := 101) rfl)
         replace hb := hb.trans hj178
         refine sr_end (l' := [(1, .pointer (some ⟨g6, 0, none⟩)), (78, .bool z177)]) (.cons rfl (.cons rfl (.nil _))) ?_
         refine ke_cond (t := z177) rfl (fun hc192 => ?_) (fun hc192 => ?_)
         ·replace hS := ite_true' hS hc192
          refine ke_seq ?_
          refine ke_region ?_
          refine sr_ev (v := .bool false) (ev_assign rfl) (by decide) ?_
          refine sr_end (l' := [(0, .bool false)]) (.cons rfl (.nil _)) ?_
          cases hS
          exact ke_ret1 Try.func10 rfl rfl ⟨_, rfl, rfl, (hb.below (flat1_le _))⟩
         ·replace hS := ite_false' hS hc192
          refine ke_skip ?_
          refine ke_seq ?_
          refine ke_region ?_
          refine sr_ev (v := .pointer (some ⟨g6, 0, none⟩)) (ev_move rfl) (by decide) ?_
          obtain ⟨y193, hy194, hS⟩ := bind_some' hS
          refine sr_call (vs := [.pointer (some ⟨g6, 0, none⟩), str ([99, 121, 100]), str ([109, 97, 105, 108, 46, 114, 101, 97, 100]), .int .i64 6]) rfl Try.call20 rfl (delegate_Delegations_Reach_ok _ (hg.fr hz hb) (ρA := ρ181) hb.bd (hz.fr hg hb) (τ0 := (fun p => 100 + p)) (fun p => Nat.le_add_right_of_le (by decide)) (⟨_, hB72, h71⟩ : delegate_Delegations.O (fun p => 100 + p) ρ181 w180 g6 y65.2) hy194) (by decide) ?_
          rintro v198 w195 ⟨_, rfl, h199, hbw196⟩
          have htr197 := Tr.of_below hbw196 hb.bd
          replace hB72 := hB72.mv (htr197.mv (i := 100) rfl)
          replace h71 := h71.mv (htr197.mv (i := 101) rfl)
          replace hb := hb.trans htr197
          refine sr_ev (v := v198) (ev_assign rfl) (by decide) ?_
          refine sr_end (l' := [(1, .pointer (some ⟨g6, 0, none⟩)), (8, v198)]) (.cons rfl (.cons rfl (.nil _))) ?_
          refine ke_seq ?_
          refine ke_region ?_
          refine sr_ev (v := .pointer (some ⟨g6, 0, none⟩)) (ev_move rfl) (by decide) ?_
          obtain ⟨y200, hy201, hS⟩ := bind_some' hS
          refine sr_call (vs := [.pointer (some ⟨g6, 0, none⟩), str ([97, 110, 110]), str ([98, 111, 98]), .int .i64 6]) rfl Try.call16 rfl (delegate_Delegations_Scopes_ok _ (hg.fr hz hb) (ρA := ρ181) hb.bd (hz.fr hg hb) (τ0 := (fun p => 100 + p)) (fun p => Nat.le_add_right_of_le (by decide)) (⟨_, hB72, h71⟩ : delegate_Delegations.O (fun p => 100 + p) ρ181 w195 g6 y65.2) hy201) (by decide) ?_
          rintro v205 w202 ⟨_, rfl, h206, hbw203⟩
          have htr204 := Tr.of_below hbw203 hb.bd
          replace h199 := h199.mv htr204.rd
          replace hB72 := hB72.mv (htr204.mv (i := 100) rfl)
          replace h71 := h71.mv (htr204.mv (i := 101) rfl)
          replace hb := hb.trans htr204
          refine sr_ev (v := v205) (ev_assign rfl) (by decide) ?_
          refine sr_end (l' := [(1, .pointer (some ⟨g6, 0, none⟩)), (8, v198), (9, v205)]) (.cons rfl (.cons rfl (.cons rfl (.nil _)))) ?_
          refine ke_seq ?_
          refine ke_region ?_
          refine sr_ev (v := .pointer none) (ev_assign rfl) (by decide) ?_
          refine sr_end (l' := [(1, .pointer (some ⟨g6, 0, none⟩)), (8, v198), (9, v205), (10, .pointer none)]) (.cons rfl (.cons rfl (.cons rfl (.cons rfl (.nil _))))) ?_
          refine ke_seq ?_
          refine ke_region ?_
          refine sr_ev (v := v198) (ev_move rfl) (by decide) ?_
          refine sr_litT (c := strC) (ρ := ρ181) (E := 9) (xs := [[97, 110, 110], [98, 111, 98]]) (vs := #[(0, str ([97, 110, 110])), (1, str ([98, 111, 98]))]) (cs := #[str ([97, 110, 110]), str ([98, 111, 98])]) (css := [[str ([97, 110, 110])], [str ([98, 111, 98])]]) rfl (fun _ => by kernel_rfl) rfl ⟨rfl, ⟨rfl, trivial⟩⟩ rfl (by decide) hb.bd (by decide) ?_
          intro v207 w209 h208 hbw211
          have htr210 := Tr.of_below hbw211 hb.bd
          replace h206 := h206.mv htr210.rd
          replace h199 := h199.mv htr210.rd
          replace hB72 := hB72.mv (htr210.mv (i := 100) rfl)
          replace h71 := h71.mv (htr210.mv (i := 101) rfl)
          replace hb := hb.trans htr210
          obtain ⟨y212, hy213, hS⟩ := bind_some' hS
          refine sr_call (vs := [v198, v207]) rfl Try.call15 rfl (ref03_Same_ok _ (hg.fr hz hb) h199.asSl h208.asSl hy213) (by decide) ?_
          rintro _ w214 ⟨rfl, hbw215⟩
          have htr216 := Tr.of_below hbw215 hb.bd
          replace h206 := h206.mv htr216.rd
          replace hB72 := hB72.mv (htr216.mv (i := 100) rfl)
          replace h71 := h71.mv (htr216.mv (i := 101) rfl)
          replace hb := hb.trans htr216
          refine sr_ev (v := .bool y212) (ev_move rfl) (by decide) ?_
          obtain ⟨z219, hz221, hS⟩ := bind_some' hS
          refine sr_join (m := 4) (C := fun (z : Bool) w1 => z219 = z ∧ ∃ ρ1, Tr ρ181 w214 (fun _ => false) ρ1 w1) (l' := fun z => [(1, .pointer (some ⟨g6, 0, none⟩)), (10, .pointer none), (90, .bool z)]) ?_ ?_
          ·rintro _ w222 ⟨rfl, ρ223, hj220⟩
           replace hB72 := hB72.mv (hj220.mv (i := 100) rfl)
           replace h71 := h71.mv (hj220.mv (i := 101) rfl)
           replace hb := hb.trans hj220
           refine sr_ev (v := .bool z219) (ev_move rfl) (by decide) ?_
           obtain ⟨z237, hz239, hS⟩ := bind_some' hS
           refine sr_join (m := 3) (C := fun (z : Bool × delegate_Delegations) w1 => z237 = z ∧ ∃ ρ1, delegate_Delegations.O (fun p => 100 + p) ρ1 w1 g6 z.2 ∧ Tr ρ223 w222 (fun t => ([100, 101] : List Nat).contains t) ρ1 w1) (l' := fun z => [(1, .pointer (some ⟨g6, 0, none⟩)), (10, .pointer none), (94, .bool z.1)]) ?_ ?_
           ·rintro _ w240 ⟨rfl, ρ241, ⟨v252, hB254, h253⟩, hj238⟩
            replace hb := hb.trans hj238
            replace hB254 : Blk ρ241 100 w240 g6 (.cells #[v252] 54 (0, 0)) := hB254
            replace h253 : MapT delegate_way.ek delegate_delegation.c true ρ241 101 w240 v252 z237.2.ways := h253
            refine sr_ev (v := .bool z237.1) (ev_move rfl) (by decide) ?_
            obtain ⟨z257, hz259, hS⟩ := bind_some' hS
            refine sr_join (m := 4) (C := fun (z : Bool) w1 => z257 = z ∧ ∃ ρ1, Tr ρ241 w240 (fun _ => false) ρ1 w1) (l' := fun z => [(1, .pointer (some ⟨g6, 0, none⟩)), (10, .pointer none), (99, .bool z)]) ?_ ?_
            ·rintro _ w260 ⟨rfl, ρ261, hj258⟩
             replace hB254 := hB254.mv (hj258.mv (i := 100) rfl)
             replace h253 := h253.mv (hj258.mv (i := 101) rfl)
             replace hb := hb.trans hj258
             refine sr_ev (v := .bool z257) (ev_move rfl) (by decide) ?_
             obtain ⟨z270, hz272, hS⟩ := bind_some' hS
             refine sr_join (m := 4) (C := fun (z : Bool × delegate_Delegations) w1 => z270 = z ∧ ∃ ρ1, delegate_Delegations.O (fun p => 100 + p) ρ1 w1 g6 z.2 ∧ Tr ρ261 w260 (fun t => ([100, 101] : List Nat).contains t) ρ1 w1) (l' := fun z => [(10, .pointer none), (104, .bool z.1)]) ?_ ?_
             ·rintro _ w273 ⟨rfl, ρ274, ⟨v285, hB287, h286⟩, hj271⟩
              replace hb := hb.trans hj271
              replace hB287 : Blk ρ274 100 w273 g6 (.cells #[v285] 54 (0, 0)) := hB287
              replace h286 : MapT delegate_way.ek delegate_delegation.c true ρ274 101 w273 v285 z270.2.ways := h286
              refine sr_ev (v := .bool z270.1) (ev_move rfl) (by decide) ?_
              obtain ⟨z290, hz292, hS⟩ := bind_some' hS
              refine sr_join (m := 4) (C := fun (z : Bool) w1 => z290 = z ∧ ∃ ρ1, Tr ρ274 w273 (fun _ => false) ρ1 w1) (l' := fun z => [(10, .pointer none), (109, .bool z)]) ?_ ?_
              ·rintro _ w293 ⟨rfl, ρ294, hj291⟩
               replace hb := hb.trans hj291
               refine sr_ev (v := .bool z290) (ev_move rfl) (by decide) ?_
               obtain ⟨z303, hz305, hS⟩ := bind_some' hS
               refine sr_join (m := 4) (C := fun (z : Bool) w1 => z303 = z ∧ ∃ ρ1, Tr ρ294 w293 (fun _ => false) ρ1 w1) (l' := fun z => [(114, .bool z)]) ?_ ?_
               ·rintro _ w306 ⟨rfl, ρ307, hj304⟩
                replace hb := hb.trans hj304
                refine sr_ev (v := .bool z303) (ev_assign rfl) (by decide) ?_
                refine sr_end (l' := [(0, .bool z303)]) (.cons rfl (.nil _)) ?_
                cases hS
                exact ke_ret1 Try.func10 rfl rfl ⟨_, rfl, rfl, (hb.below (flat1_le _))⟩
               ·intro K302
                clear hS
                have hj304 : Tr ρ294 w293 (fun _ => false) ρ294 w293 := (Tr.refl hb.bd).weak (fun _ _ => rfl) rfl rfl
                rcases Bool.eq_false_or_eq_true z290 with hg301 | hg301
                ·have hS := ite_true' hz305 hg301
                 refine sr_evg (b := true) (e := 110) rfl rfl hg301 (v := .pointer none) (ev_move rfl) (by decide) ?_
                 obtain ⟨y309, hy310, hS⟩ := bind_some' hS
                 refine sr_callg (b := true) (e := 110) rfl rfl hg301 (vs := [.pointer none, str ([97, 110, 110])]) rfl Try.call24 rfl (delegate_Delegations_Drop__nil_ok _ (hg.fr hz hb) (ρA := ρ294) hb.bd (hz.fr hg hb) hy310) (by decide) ?_
                 rintro _ w311 ⟨rfl, hbw312⟩
                 have htr313 := Tr.of_below hbw312 hb.bd
                 replace hb := hb.trans htr313
                 replace hj304 := (hj304.trans htr313).weak (J' := (fun _ => false)) (by intro t h; simp [rng] at h ⊢ <;> omega) rfl rfl
                 refine sr_evg (b := true) (e := 110) rfl rfl hg301 (v := .bool (y309 == 0)) (ev_eq rfl rfl) (by decide) ?_
                 refine sr_ev (v := .bool (y309 == 0)) (ev_pick_t rfl hg301 rfl) (by decide) ?_
                 exact sr_weaken (l' := [(114, .bool (y309 == 0))]) (.cons rfl (.nil _)) (K302 (y309 == 0) _ ⟨(Option.some.inj hS).symm, _, hj304⟩)
                ·have hS := ite_false' hz305 hg301
                 refine sr_pass (e := 110) rfl rfl (by rw [hg301]; rfl) (by decide) ?_
                 refine sr_pass (e := 110) rfl rfl (by rw [hg301]; rfl) (by decide) ?_
                 refine sr_pass (e := 110) rfl rfl (by rw [hg301]; rfl) (by decide) ?_
                 refine sr_ev (v := .bool false) (ev_pick_f rfl hg301 rfl) (by decide) ?_
                 exact sr_weaken (l' := [(114, .bool false)]) (.cons rfl (.nil _)) (K302 false _ ⟨(Option.some.inj hS).symm, _, hj304⟩)
              ·intro K289
               clear hS
               have hj291 : Tr ρ274 w273 (fun _ => false) ρ274 w273 := (Tr.refl hb.bd).weak (fun _ _ => rfl) rfl rfl
               rcases Bool.eq_false_or_eq_true z270.1 with hg288 | hg288
               ·have hS := ite_true' hz292 hg288
                refine sr_evg (b := true) (e := 105) rfl rfl hg288 (v := .pointer none) (ev_move rfl) (by decide) ?_
                obtain ⟨y296, hy297, hS⟩ := bind_some' hS
                refine sr_callg (b := true) (e := 105) rfl rfl hg288 (vs := [.pointer none, str ([97, 110, 110]), str ([98, 111, 98]), (.slice none 0 0), .int .i64 6]) rfl Try.call26 rfl (delegate_Delegations_May__nil_ok _ (hg.fr hz hb) (ρA := ρ274) hb.bd (hz.fr hg hb) (SlR.nil (A := Wb ρ274)) hy297) (by decide) ?_
                rintro _ w298 ⟨rfl, hbw299⟩
                have htr300 := Tr.of_below hbw299 hb.bd
                replace hb := hb.trans htr300
                replace hj291 := (hj291.trans htr300).weak (J' := (fun _ => false)) (by intro t h; simp [rng] at h ⊢ <;> omega) rfl rfl
                refine sr_evg (b := true) (e := 105) rfl rfl hg288 (v := .bool (y296 == 1)) (ev_eq rfl rfl) (by decide) ?_
                refine sr_ev (v := .bool (y296 == 1)) (ev_pick_t rfl hg288 rfl) (by decide) ?_
                exact sr_weaken (l' := [(10, .pointer none), (109, .bool (y296 == 1))]) (.cons rfl (.cons rfl (.nil _))) (K289 (y296 == 1) _ ⟨(Option.some.inj hS).symm, _, hj291⟩)
               ·have hS := ite_false' hz292 hg288
                refine sr_pass (e := 105) rfl rfl (by rw [hg288]; rfl) (by decide) ?_
                refine sr_pass (e := 105) rfl rfl (by rw [hg288]; rfl) (by decide) ?_
                refine sr_pass (e := 105) rfl rfl (by rw [hg288]; rfl) (by decide) ?_
                refine sr_ev (v := .bool false) (ev_pick_f rfl hg288 rfl) (by decide) ?_
                exact sr_weaken (l' := [(10, .pointer none), (109, .bool false)]) (.cons rfl (.cons rfl (.nil _))) (K289 false _ ⟨(Option.some.inj hS).symm, _, hj291⟩)
             ·intro K269
              clear hS
              have hj271 : Tr ρ261 w260 (fun t => ([100, 101] : List Nat).contains t) ρ261 w260 := (Tr.refl hb.bd).weak (fun _ _ => rfl) rfl rfl
              rcases Bool.eq_false_or_eq_true z257 with hg268 | hg268
              ·have hS := ite_true' hz272 hg268
               refine sr_evg (b := true) (e := 100) rfl rfl hg268 (v := .pointer (some ⟨g6, 0, none⟩)) (ev_move rfl) (by decide) ?_
               obtain ⟨y276, hy277, hS⟩ := bind_some' hS
               refine sr_callg (b := true) (e := 100) rfl rfl hg268 (vs := [.pointer (some ⟨g6, 0, none⟩), str ([99, 121, 100])]) rfl Try.call24 rfl (delegate_Delegations_Drop_ok _ (hg.fr hz hb) (ρA := ρ261) hb.bd (hz.fr hg hb) (o := 100) (by decide) (⟨_, hB254, h253⟩ : delegate_Delegations.O (fun p => 100 + p) ρ261 w260 g6 z237.2) hy277) (by decide) ?_
               rintro _ w278 ⟨ρ284, rfl, ⟨v281, hB283, h282⟩, htr280⟩
               replace hb := hb.trans htr280
               replace hj271 := (hj271.trans htr280).weak (J' := (fun t => ([100, 101] : List Nat).contains t)) (by intro t h; simp [rng] at h ⊢ <;> omega) rfl rfl
               replace hB283 : Blk ρ284 100 w278 g6 (.cells #[v281] 54 (0, 0)) := hB283
               replace h282 : MapT delegate_way.ek delegate_delegation.c true ρ284 101 w278 v281 y276.2.ways := h282
               refine sr_evg (b := true) (e := 100) rfl rfl hg268 (v := .bool (y276.1 == 1)) (ev_eq rfl rfl) (by decide) ?_
               refine sr_ev (v := .bool (y276.1 == 1)) (ev_pick_t rfl hg268 rfl) (by decide) ?_
               exact sr_weaken (l' := [(10, .pointer none), (104, .bool (y276.1 == 1))]) (.cons rfl (.cons rfl (.nil _))) (K269 (y276.1 == 1, y276.2) _ ⟨(Option.some.inj hS).symm, _, ⟨_, hB283, h282⟩, hj271⟩)
              ·have hS := ite_false' hz272 hg268
               refine sr_pass (e := 100) rfl rfl (by rw [hg268]; rfl) (by decide) ?_
               refine sr_pass (e := 100) rfl rfl (by rw [hg268]; rfl) (by decide) ?_
               refine sr_pass (e := 100) rfl rfl (by rw [hg268]; rfl) (by decide) ?_
               refine sr_ev (v := .bool false) (ev_pick_f rfl hg268 rfl) (by decide) ?_
               exact sr_weaken (l' := [(10, .pointer none), (104, .bool false)]) (.cons rfl (.cons rfl (.nil _))) (K269 (false, z237.2) _ ⟨(Option.some.inj hS).symm, _, ⟨_, hB254, h253⟩, hj271⟩)
            ·intro K256
             clear hS
             have hj258 : Tr ρ241 w240 (fun _ => false) ρ241 w240 := (Tr.refl hb.bd).weak (fun _ _ => rfl) rfl rfl
             rcases Bool.eq_false_or_eq_true z237.1 with hg255 | hg255
             ·have hS := ite_true' hz259 hg255
              refine sr_evg (b := true) (e := 95) rfl rfl hg255 (v := .pointer (some ⟨g6, 0, none⟩)) (ev_move rfl) (by decide) ?_
              obtain ⟨y263, hy264, hS⟩ := bind_some' hS
              refine sr_callg (b := true) (e := 95) rfl rfl hg255 (vs := [.pointer (some ⟨g6, 0, none⟩), str ([97, 110, 110]), str ([98, 111, 98]), (.slice none 0 0), .int .i64 6]) rfl Try.call26 rfl (delegate_Delegations_May_ok _ (hg.fr hz hb) (ρA := ρ241) hb.bd (hz.fr hg hb) (τ0 := (fun p => 100 + p)) (fun p => Nat.le_add_right_of_le (by decide)) (SlR.nil (A := Wb ρ241)) (⟨_, hB254, h253⟩ : delegate_Delegations.O (fun p => 100 + p) ρ241 w240 g6 z237.2) hy264) (by decide) ?_
              rintro _ w265 ⟨rfl, hbw266⟩
              have htr267 := Tr.of_below hbw266 hb.bd
              replace hB254 := hB254.mv (htr267.mv (i := 100) rfl)
              replace h253 := h253.mv (htr267.mv (i := 101) rfl)
              replace hb := hb.trans htr267
              replace hj258 := (hj258.trans htr267).weak (J' := (fun _ => false)) (by intro t h; simp [rng] at h ⊢ <;> omega) rfl rfl
              refine sr_evg (b := true) (e := 95) rfl rfl hg255 (v := .bool (y263 == 11)) (ev_eq rfl rfl) (by decide) ?_
              refine sr_ev (v := .bool (y263 == 11)) (ev_pick_t rfl hg255 rfl) (by decide) ?_
              exact sr_weaken (l' := [(1, .pointer (some ⟨g6, 0, none⟩)), (10, .pointer none), (99, .bool (y263 == 11))]) (.cons rfl (.cons rfl (.cons rfl (.nil _)))) (K256 (y263 == 11) _ ⟨(Option.some.inj hS).symm, _, hj258⟩)
             ·have hS := ite_false' hz259 hg255
              refine sr_pass (e := 95) rfl rfl (by rw [hg255]; rfl) (by decide) ?_
              refine sr_pass (e := 95) rfl rfl (by rw [hg255]; rfl) (by decide) ?_
              refine sr_pass (e := 95) rfl rfl (by rw [hg255]; rfl) (by decide) ?_
              refine sr_ev (v := .bool false) (ev_pick_f rfl hg255 rfl) (by decide) ?_
              exact sr_weaken (l' := [(1, .pointer (some ⟨g6, 0, none⟩)), (10, .pointer none), (99, .bool false)]) (.cons rfl (.cons rfl (.cons rfl (.nil _)))) (K256 false _ ⟨(Option.some.inj hS).symm, _, hj258⟩)
           ·intro K236
            clear hS
            have hj238 : Tr ρ223 w222 (fun t => ([100, 101] : List Nat).contains t) ρ223 w222 := (Tr.refl hb.bd).weak (fun _ _ => rfl) rfl rfl
            rcases Bool.eq_false_or_eq_true z219 with hg235 | hg235
            ·have hS := ite_true' hz239 hg235
             refine sr_evg (b := true) (e := 91) rfl rfl hg235 (v := .pointer (some ⟨g6, 0, none⟩)) (ev_move rfl) (by decide) ?_
             obtain ⟨y243, hy244, hS⟩ := bind_some' hS
             refine sr_callg (b := true) (e := 91) rfl rfl hg235 (vs := [.pointer (some ⟨g6, 0, none⟩), str ([97, 110, 110]), str ([98, 111, 98])]) rfl Try.call28 rfl (delegate_Delegations_Revoke_ok _ (hg.fr hz hb) (ρA := ρ223) hb.bd (hz.fr hg hb) (o := 100) (by decide) (⟨_, hB72, h71⟩ : delegate_Delegations.O (fun p => 100 + p) ρ223 w222 g6 y65.2) hy244) (by decide) ?_
             rintro _ w245 ⟨ρ251, rfl, ⟨v248, hB250, h249⟩, htr247⟩
             replace hb := hb.trans htr247
             replace hj238 := (hj238.trans htr247).weak (J' := (fun t => ([100, 101] : List Nat).contains t)) (by intro t h; simp [rng] at h ⊢ <;> omega) rfl rfl
             replace hB250 : Blk ρ251 100 w245 g6 (.cells #[v248] 54 (0, 0)) := hB250
             replace h249 : MapT delegate_way.ek delegate_delegation.c true ρ251 101 w245 v248 y243.2.ways := h249
             refine sr_ev (v := .bool y243.1) (ev_pick_t rfl hg235 rfl) (by decide) ?_
             exact sr_weaken (l' := [(1, .pointer (some ⟨g6, 0, none⟩)), (10, .pointer none), (94, .bool y243.1)]) (.cons rfl (.cons rfl (.cons rfl (.nil _)))) (K236 (y243.1, y243.2) _ ⟨(Option.some.inj hS).symm, _, ⟨_, hB250, h249⟩, hj238⟩)
            ·have hS := ite_false' hz239 hg235
             refine sr_pass (e := 91) rfl rfl (by rw [hg235]; rfl) (by decide) ?_
             refine sr_pass (e := 91) rfl rfl (by rw [hg235]; rfl) (by decide) ?_
             refine sr_ev (v := .bool false) (ev_pick_f rfl hg235 rfl) (by decide) ?_
             exact sr_weaken (l' := [(1, .pointer (some ⟨g6, 0, none⟩)), (10, .pointer none), (94, .bool false)]) (.cons rfl (.cons rfl (.cons rfl (.nil _)))) (K236 (false, y65.2) _ ⟨(Option.some.inj hS).symm, _, ⟨_, hB72, h71⟩, hj238⟩)
          ·intro K218
           clear hS
           have hj220 : Tr ρ181 w214 (fun _ => false) ρ181 w214 := (Tr.refl hb.bd).weak (fun _ _ => rfl) rfl rfl
           rcases Bool.eq_false_or_eq_true y212 with hg217 | hg217
           ·have hS := ite_true' hz221 hg217
            refine sr_evg (b := true) (e := 86) rfl rfl hg217 (v := v205) (ev_move rfl) (by decide) ?_
            refine sr_unguard rfl rfl hg217 ?_
            refine sr_litT (c := strC) (ρ := ρ181) (E := 9) (xs := [[109, 97, 105, 108]]) (vs := #[(0, str ([109, 97, 105, 108]))]) (cs := #[str ([109, 97, 105, 108])]) (css := [[str ([109, 97, 105, 108])]]) rfl (fun _ => by kernel_rfl) rfl ⟨rfl, trivial⟩ rfl (by decide) hb.bd (by decide) ?_
            intro v225 w227 h226 hbw229
            have htr228 := Tr.of_below hbw229 hb.bd
            replace h206 := h206.mv htr228.rd
            replace hB72 := hB72.mv (htr228.mv (i := 100) rfl)
            replace h71 := h71.mv (htr228.mv (i := 101) rfl)
            replace hb := hb.trans htr228
            replace hj220 := (hj220.trans htr228).weak (J' := (fun _ => false)) (by intro t h; simp [rng] at h ⊢ <;> omega) rfl rfl
            obtain ⟨y230, hy231, hS⟩ := bind_some' hS
            refine sr_callg (b := true) (e := 86) rfl rfl hg217 (vs := [v205, v225]) rfl Try.call15 rfl (ref03_Same_ok _ (hg.fr hz hb) h206.asSl h226.asSl hy231) (by decide) ?_
            rintro _ w232 ⟨rfl, hbw233⟩
            have htr234 := Tr.of_below hbw233 hb.bd
            replace hB72 := hB72.mv (htr234.mv (i := 100) rfl)
            replace h71 := h71.mv (htr234.mv (i := 101) rfl)
            replace hb := hb.trans htr234
            replace hj220 := (hj220.trans htr234).weak (J' := (fun _ => false)) (by intro t h; simp [rng] at h ⊢ <;> omega) rfl rfl
            refine sr_ev (v := .bool y230) (ev_pick_t rfl hg217 rfl) (by decide) ?_
            exact sr_weaken (l' := [(1, .pointer (some ⟨g6, 0, none⟩)), (10, .pointer none), (90, .bool y230)]) (.cons rfl (.cons rfl (.cons rfl (.nil _)))) (K218 y230 _ ⟨(Option.some.inj hS).symm, _, hj220⟩)
           ·have hS := ite_false' hz221 hg217
            refine sr_pass (e := 86) rfl rfl (by rw [hg217]; rfl) (by decide) ?_
            refine sr_pass (e := 86) rfl rfl (by rw [hg217]; rfl) (by decide) ?_
            refine sr_pass (e := 86) rfl rfl (by rw [hg217]; rfl) (by decide) ?_
            refine sr_ev (v := .bool false) (ev_pick_f rfl hg217 rfl) (by decide) ?_
            exact sr_weaken (l' := [(1, .pointer (some ⟨g6, 0, none⟩)), (10, .pointer none), (90, .bool false)]) (.cons rfl (.cons rfl (.cons rfl (.nil _)))) (K218 false _ ⟨(Option.some.inj hS).symm, _, hj220⟩)
        ·intro K176
         clear hS
         have hj178 : Tr ρ163 w162 (fun _ => false) ρ163 w162 := (Tr.refl hb.bd).weak (fun _ _ => rfl) rfl rfl
         rcases Bool.eq_false_or_eq_true z159 with hg175 | hg175
         ·have hS := ite_true' hz179 hg175
          refine sr_pass (e := 72) rfl rfl (by rw [hg175]; rfl) (by decide) ?_
          refine sr_pass (e := 72) rfl rfl (by rw [hg175]; rfl) (by decide) ?_
          refine sr_pass (e := 72) rfl rfl (by rw [hg175]; rfl) (by decide) ?_
          refine sr_pass (e := 72) rfl rfl (by rw [hg175]; rfl) (by decide) ?_
          refine sr_pass (e := 72) rfl rfl (by rw [hg175]; rfl) (by decide) ?_
          refine sr_ev (v := .bool true) (ev_pick_t rfl hg175 rfl) (by decide) ?_
          exact sr_weaken (l' := [(1, .pointer (some ⟨g6, 0, none⟩)), (78, .bool true)]) (.cons rfl (.cons rfl (.nil _))) (K176 true _ ⟨(Option.some.inj hS).symm, _, hj178⟩)
         ·have hS := ite_false' hz179 hg175
          refine sr_evg (b := false) (e := 72) rfl rfl hg175 (v := .pointer (some ⟨g6, 0, none⟩)) (ev_move rfl) (by decide) ?_
          refine sr_evg (b := false) (e := 72) rfl rfl hg175 (v := v74) (ev_move rfl) (by decide) ?_
          obtain ⟨hk183, hS⟩ := chk_some hS
          obtain ⟨v184, h185, hq186⟩ := ((SlT.of_sl (i := 0) h75)).cutT_h (P := Try.prog) Try.underlying23 Try.info9 rfl hk183
          replace h185 := h185.sl
          refine sr_evg (b := false) (e := 72) rfl rfl hg175 (v := v184) (hq186 w162 rfl rfl) (by decide) ?_
          obtain ⟨y187, hy188, hS⟩ := bind_some' hS
          refine sr_callg (b := false) (e := 72) rfl rfl hg175 (vs := [.pointer (some ⟨g6, 0, none⟩), v184, (.slice none 0 0), .int .i64 6]) rfl Try.call18 rfl (delegate_Delegations_Chain_ok _ (hg.fr hz hb) (ρA := ρ163) hb.bd (hz.fr hg hb) (τ0 := (fun p => 100 + p)) (fun p => Nat.le_add_right_of_le (by decide)) h185 (SlR.nil (A := Wb ρ163)) (⟨_, hB72, h71⟩ : delegate_Delegations.O (fun p => 100 + p) ρ163 w162 g6 y65.2) hy188) (by decide) ?_
          rintro _ w189 ⟨rfl, hbw190⟩
          have htr191 := Tr.of_below hbw190 hb.bd
          replace hB72 := hB72.mv (htr191.mv (i := 100) rfl)
          replace h71 := h71.mv (htr191.mv (i := 101) rfl)
          replace hb := hb.trans htr191
          replace hj178 := (hj178.trans htr191).weak (J' := (fun _ => false)) (by intro t h; simp [rng] at h ⊢ <;> omega) rfl rfl
          refine sr_evg (b := false) (e := 72) rfl rfl hg175 (v := .bool (y187 != 0)) (ev_ne rfl rfl) (by decide) ?_
          refine sr_ev (v := .bool (y187 != 0)) (ev_pick_f rfl hg175 rfl) (by decide) ?_
          exact sr_weaken (l' := [(1, .pointer (some ⟨g6, 0, none⟩)), (78, .bool (y187 != 0))]) (.cons rfl (.cons rfl (.nil _))) (K176 (y187 != 0) _ ⟨(Option.some.inj hS).symm, _, hj178⟩)
       ·intro K158
        clear hS
        have hj160 : Tr ρ145 w144 (fun _ => false) ρ145 w144 := (Tr.refl hb.bd).weak (fun _ _ => rfl) rfl rfl
        rcases Bool.eq_false_or_eq_true z141 with hg157 | hg157
        ·have hS := ite_true' hz161 hg157
         refine sr_pass (e := 65) rfl rfl (by rw [hg157]; rfl) (by decide) ?_
         refine sr_pass (e := 65) rfl rfl (by rw [hg157]; rfl) (by decide) ?_
         refine sr_pass (e := 65) rfl rfl (by rw [hg157]; rfl) (by decide) ?_
         refine sr_pass (e := 65) rfl rfl (by rw [hg157]; rfl) (by decide) ?_
         refine sr_pass (e := 65) rfl rfl (by rw [hg157]; rfl) (by decide) ?_
         refine sr_ev (v := .bool true) (ev_pick_t rfl hg157 rfl) (by decide) ?_
         exact sr_weaken (l' := [(1, .pointer (some ⟨g6, 0, none⟩)), (7, v74), (71, .bool true)]) (.cons rfl (.cons rfl (.cons rfl (.nil _)))) (K158 true _ ⟨(Option.some.inj hS).symm, _, hj160⟩)
        ·have hS := ite_false' hz161 hg157
         refine sr_evg (b := false) (e := 65) rfl rfl hg157 (v := .pointer (some ⟨g6, 0, none⟩)) (ev_move rfl) (by decide) ?_
         refine sr_evg (b := false) (e := 65) rfl rfl hg157 (v := v74) (ev_move rfl) (by decide) ?_
         refine sr_unguard rfl rfl hg157 ?_
         refine sr_litT (c := strC) (ρ := ρ145) (E := 9) (xs := [[109, 97, 105, 108]]) (vs := #[(0, str ([109, 97, 105, 108]))]) (cs := #[str ([109, 97, 105, 108])]) (css := [[str ([109, 97, 105, 108])]]) rfl (fun _ => by kernel_rfl) rfl ⟨rfl, trivial⟩ rfl (by decide) hb.bd (by decide) ?_
         intro v165 w167 h166 hbw169
         have htr168 := Tr.of_below hbw169 hb.bd
         replace h75 := h75.mv htr168.rd
         replace hB72 := hB72.mv (htr168.mv (i := 100) rfl)
         replace h71 := h71.mv (htr168.mv (i := 101) rfl)
         replace hb := hb.trans htr168
         replace hj160 := (hj160.trans htr168).weak (J' := (fun _ => false)) (by intro t h; simp [rng] at h ⊢ <;> omega) rfl rfl
         obtain ⟨y170, hy171, hS⟩ := bind_some' hS
         refine sr_callg (b := false) (e := 65) rfl rfl hg157 (vs := [.pointer (some ⟨g6, 0, none⟩), v74, v165, .int .i64 6]) rfl Try.call18 rfl (delegate_Delegations_Chain_ok _ (hg.fr hz hb) (ρA := ρ145) hb.bd (hz.fr hg hb) (τ0 := (fun p => 100 + p)) (fun p => Nat.le_add_right_of_le (by decide)) h75 h166 (⟨_, hB72, h71⟩ : delegate_Delegations.O (fun p => 100 + p) ρ145 w167 g6 y65.2) hy171) (by decide) ?_
         rintro _ w172 ⟨rfl, hbw173⟩
         have htr174 := Tr.of_below hbw173 hb.bd
         replace h75 := h75.mv htr174.rd
         replace hB72 := hB72.mv (htr174.mv (i := 100) rfl)
         replace h71 := h71.mv (htr174.mv (i := 101) rfl)
         replace hb := hb.trans htr174
         replace hj160 := (hj160.trans htr174).weak (J' := (fun _ => false)) (by intro t h; simp [rng] at h ⊢ <;> omega) rfl rfl
         refine sr_evg (b := false) (e := 65) rfl rfl hg157 (v := .bool (y170 != 19)) (ev_ne rfl rfl) (by decide) ?_
         refine sr_ev (v := .bool (y170 != 19)) (ev_pick_f rfl hg157 rfl) (by decide) ?_
         exact sr_weaken (l' := [(1, .pointer (some ⟨g6, 0, none⟩)), (7, v74), (71, .bool (y170 != 19))]) (.cons rfl (.cons rfl (.cons rfl (.nil _)))) (K158 (y170 != 19) _ ⟨(Option.some.inj hS).symm, _, hj160⟩)
      ·intro K140
       clear hS
       have hj142 : Tr ρ127 w126 (fun _ => false) ρ127 w126 := (Tr.refl hb.bd).weak (fun _ _ => rfl) rfl rfl
       rcases Bool.eq_false_or_eq_true z123 with hg139 | hg139
       ·have hS := ite_true' hz143 hg139
        refine sr_pass (e := 58) rfl rfl (by rw [hg139]; rfl) (by decide) ?_
        refine sr_pass (e := 58) rfl rfl (by rw [hg139]; rfl) (by decide) ?_
        refine sr_pass (e := 58) rfl rfl (by rw [hg139]; rfl) (by decide) ?_
        refine sr_pass (e := 58) rfl rfl (by rw [hg139]; rfl) (by decide) ?_
        refine sr_pass (e := 58) rfl rfl (by rw [hg139]; rfl) (by decide) ?_
        refine sr_ev (v := .bool true) (ev_pick_t rfl hg139 rfl) (by decide) ?_
        exact sr_weaken (l' := [(1, .pointer (some ⟨g6, 0, none⟩)), (7, v74), (64, .bool true)]) (.cons rfl (.cons rfl (.cons rfl (.nil _)))) (K140 true _ ⟨(Option.some.inj hS).symm, _, hj142⟩)
       ·have hS := ite_false' hz143 hg139
        refine sr_evg (b := false) (e := 58) rfl rfl hg139 (v := .pointer (some ⟨g6, 0, none⟩)) (ev_move rfl) (by decide) ?_
        refine sr_evg (b := false) (e := 58) rfl rfl hg139 (v := v74) (ev_move rfl) (by decide) ?_
        refine sr_unguard rfl rfl hg139 ?_
        refine sr_litT (c := strC) (ρ := ρ127) (E := 9) (xs := [[109, 97, 105, 108, 46, 114, 101, 97, 100]]) (vs := #[(0, str ([109, 97, 105, 108, 46, 114, 101, 97, 100]))]) (cs := #[str ([109, 97, 105, 108, 46, 114, 101, 97, 100])]) (css := [[str ([109, 97, 105, 108, 46, 114, 101, 97, 100])]]) rfl (fun _ => by kernel_rfl) rfl ⟨rfl, trivial⟩ rfl (by decide) hb.bd (by decide) ?_
        intro v147 w149 h148 hbw151
        have htr150 := Tr.of_below hbw151 hb.bd
        replace h75 := h75.mv htr150.rd
        replace hB72 := hB72.mv (htr150.mv (i := 100) rfl)
        replace h71 := h71.mv (htr150.mv (i := 101) rfl)
        replace hb := hb.trans htr150
        replace hj142 := (hj142.trans htr150).weak (J' := (fun _ => false)) (by intro t h; simp [rng] at h ⊢ <;> omega) rfl rfl
        obtain ⟨y152, hy153, hS⟩ := bind_some' hS
        refine sr_callg (b := false) (e := 58) rfl rfl hg139 (vs := [.pointer (some ⟨g6, 0, none⟩), v74, v147, .int .i64 6]) rfl Try.call18 rfl (delegate_Delegations_Chain_ok _ (hg.fr hz hb) (ρA := ρ127) hb.bd (hz.fr hg hb) (τ0 := (fun p => 100 + p)) (fun p => Nat.le_add_right_of_le (by decide)) h75 h148 (⟨_, hB72, h71⟩ : delegate_Delegations.O (fun p => 100 + p) ρ127 w149 g6 y65.2) hy153) (by decide) ?_
        rintro _ w154 ⟨rfl, hbw155⟩
        have htr156 := Tr.of_below hbw155 hb.bd
        replace h75 := h75.mv htr156.rd
        replace hB72 := hB72.mv (htr156.mv (i := 100) rfl)
        replace h71 := h71.mv (htr156.mv (i := 101) rfl)
        replace hb := hb.trans htr156
        replace hj142 := (hj142.trans htr156).weak (J' := (fun _ => false)) (by intro t h; simp [rng] at h ⊢ <;> omega) rfl rfl
        refine sr_evg (b := false) (e := 58) rfl rfl hg139 (v := .bool (y152 != 0)) (ev_ne rfl rfl) (by decide) ?_
        refine sr_ev (v := .bool (y152 != 0)) (ev_pick_f rfl hg139 rfl) (by decide) ?_
        exact sr_weaken (l' := [(1, .pointer (some ⟨g6, 0, none⟩)), (7, v74), (64, .bool (y152 != 0))]) (.cons rfl (.cons rfl (.cons rfl (.nil _)))) (K140 (y152 != 0) _ ⟨(Option.some.inj hS).symm, _, hj142⟩)
     ·intro K122
      clear hS
      have hj124 : Tr ρ109 w108 (fun _ => false) ρ109 w108 := (Tr.refl hb.bd).weak (fun _ _ => rfl) rfl rfl
      rcases Bool.eq_false_or_eq_true z105 with hg121 | hg121
      ·have hS := ite_true' hz125 hg121
       refine sr_pass (e := 52) rfl rfl (by rw [hg121]; rfl) (by decide) ?_
       refine sr_pass (e := 52) rfl rfl (by rw [hg121]; rfl) (by decide) ?_
       refine sr_pass (e := 52) rfl rfl (by rw [hg121]; rfl) (by decide) ?_
       refine sr_pass (e := 52) rfl rfl (by rw [hg121]; rfl) (by decide) ?_
       refine sr_ev (v := .bool true) (ev_pick_t rfl hg121 rfl) (by decide) ?_
       exact sr_weaken (l' := [(1, .pointer (some ⟨g6, 0, none⟩)), (7, v74), (57, .bool true)]) (.cons rfl (.cons rfl (.cons rfl (.nil _)))) (K122 true _ ⟨(Option.some.inj hS).symm, _, hj124⟩)
      ·have hS := ite_false' hz125 hg121
       refine sr_evg (b := false) (e := 52) rfl rfl hg121 (v := .pointer (some ⟨g6, 0, none⟩)) (ev_move rfl) (by decide) ?_
       refine sr_unguard rfl rfl hg121 ?_
       refine sr_litT (c := strC) (ρ := ρ109) (E := 9) (xs := [[109, 97, 105, 108, 46, 120]]) (vs := #[(0, str ([109, 97, 105, 108, 46, 120]))]) (cs := #[str ([109, 97, 105, 108, 46, 120])]) (css := [[str ([109, 97, 105, 108, 46, 120])]]) rfl (fun _ => by kernel_rfl) rfl ⟨rfl, trivial⟩ rfl (by decide) hb.bd (by decide) ?_
       intro v129 w131 h130 hbw133
       have htr132 := Tr.of_below hbw133 hb.bd
       replace h75 := h75.mv htr132.rd
       replace hB72 := hB72.mv (htr132.mv (i := 100) rfl)
       replace h71 := h71.mv (htr132.mv (i := 101) rfl)
       replace hb := hb.trans htr132
       replace hj124 := (hj124.trans htr132).weak (J' := (fun _ => false)) (by intro t h; simp [rng] at h ⊢ <;> omega) rfl rfl
       obtain ⟨y134, hy135, hS⟩ := bind_some' hS
       refine sr_callg (b := false) (e := 52) rfl rfl hg121 (vs := [.pointer (some ⟨g6, 0, none⟩), str ([97, 110, 110]), str ([98, 111, 98]), v129, .int .i64 5]) rfl Try.call26 rfl (delegate_Delegations_May_ok _ (hg.fr hz hb) (ρA := ρ109) hb.bd (hz.fr hg hb) (τ0 := (fun p => 100 + p)) (fun p => Nat.le_add_right_of_le (by decide)) h130 (⟨_, hB72, h71⟩ : delegate_Delegations.O (fun p => 100 + p) ρ109 w131 g6 y65.2) hy135) (by decide) ?_
       rintro _ w136 ⟨rfl, hbw137⟩
       have htr138 := Tr.of_below hbw137 hb.bd
       replace h75 := h75.mv htr138.rd
       replace hB72 := hB72.mv (htr138.mv (i := 100) rfl)
       replace h71 := h71.mv (htr138.mv (i := 101) rfl)
       replace hb := hb.trans htr138
       replace hj124 := (hj124.trans htr138).weak (J' := (fun _ => false)) (by intro t h; simp [rng] at h ⊢ <;> omega) rfl rfl
       refine sr_evg (b := false) (e := 52) rfl rfl hg121 (v := .bool (y134 != 0)) (ev_ne rfl rfl) (by decide) ?_
       refine sr_ev (v := .bool (y134 != 0)) (ev_pick_f rfl hg121 rfl) (by decide) ?_
       exact sr_weaken (l' := [(1, .pointer (some ⟨g6, 0, none⟩)), (7, v74), (57, .bool (y134 != 0))]) (.cons rfl (.cons rfl (.cons rfl (.nil _)))) (K122 (y134 != 0) _ ⟨(Option.some.inj hS).symm, _, hj124⟩)
    ·intro K104
     clear hS
     have hj106 : Tr ρ73 w76 (fun _ => false) ρ73 w76 := (Tr.refl hb.bd).weak (fun _ _ => rfl) rfl rfl
     rcases Bool.eq_false_or_eq_true ((((y23.1 != 28) || (y37.1 != 0)) || (y51.1 != 0)) || (y65.1 != 2)) with hg103 | hg103
     ·have hS := ite_true' hz107 hg103
      refine sr_pass (e := 46) rfl rfl (by rw [hg103]; rfl) (by decide) ?_
      refine sr_pass (e := 46) rfl rfl (by rw [hg103]; rfl) (by decide) ?_
      refine sr_pass (e := 46) rfl rfl (by rw [hg103]; rfl) (by decide) ?_
      refine sr_pass (e := 46) rfl rfl (by rw [hg103]; rfl) (by decide) ?_
      refine sr_ev (v := .bool true) (ev_pick_t rfl hg103 rfl) (by decide) ?_
      exact sr_weaken (l' := [(1, .pointer (some ⟨g6, 0, none⟩)), (7, v74), (51, .bool true)]) (.cons rfl (.cons rfl (.cons rfl (.nil _)))) (K104 true _ ⟨(Option.some.inj hS).symm, _, hj106⟩)
     ·have hS := ite_false' hz107 hg103
      refine sr_evg (b := false) (e := 46) rfl rfl hg103 (v := .pointer (some ⟨g6, 0, none⟩)) (ev_move rfl) (by decide) ?_
      refine sr_unguard rfl rfl hg103 ?_
      refine sr_litT (c := strC) (ρ := ρ73) (E := 9) (xs := [[109, 97, 105, 108, 46, 120]]) (vs := #[(0, str ([109, 97, 105, 108, 46, 120]))]) (cs := #[str ([109, 97, 105, 108, 46, 120])]) (css := [[str ([109, 97, 105, 108, 46, 120])]]) rfl (fun _ => by kernel_rfl) rfl ⟨rfl, trivial⟩ rfl (by decide) hb.bd (by decide) ?_
      intro v111 w113 h112 hbw115
      have htr114 := Tr.of_below hbw115 hb.bd
      replace h75 := h75.mv htr114.rd
      replace hB72 := hB72.mv (htr114.mv (i := 100) rfl)
      replace h71 := h71.mv (htr114.mv (i := 101) rfl)
      replace hb := hb.trans htr114
      replace hj106 := (hj106.trans htr114).weak (J' := (fun _ => false)) (by intro t h; simp [rng] at h ⊢ <;> omega) rfl rfl
      obtain ⟨y116, hy117, hS⟩ := bind_some' hS
      refine sr_callg (b := false) (e := 46) rfl rfl hg103 (vs := [.pointer (some ⟨g6, 0, none⟩), str ([97, 110, 110]), str ([98, 111, 98]), v111, .int .i64 4]) rfl Try.call26 rfl (delegate_Delegations_May_ok _ (hg.fr hz hb) (ρA := ρ73) hb.bd (hz.fr hg hb) (τ0 := (fun p => 100 + p)) (fun p => Nat.le_add_right_of_le (by decide)) h112 (⟨_, hB72, h71⟩ : delegate_Delegations.O (fun p => 100 + p) ρ73 w113 g6 y65.2) hy117) (by decide) ?_
      rintro _ w118 ⟨rfl, hbw119⟩
      have htr120 := Tr.of_below hbw119 hb.bd
      replace h75 := h75.mv htr120.rd
      replace hB72 := hB72.mv (htr120.mv (i := 100) rfl)
      replace h71 := h71.mv (htr120.mv (i := 101) rfl)
      replace hb := hb.trans htr120
      replace hj106 := (hj106.trans htr120).weak (J' := (fun _ => false)) (by intro t h; simp [rng] at h ⊢ <;> omega) rfl rfl
      refine sr_evg (b := false) (e := 46) rfl rfl hg103 (v := .bool (y116 != 14)) (ev_ne rfl rfl) (by decide) ?_
      refine sr_ev (v := .bool (y116 != 14)) (ev_pick_f rfl hg103 rfl) (by decide) ?_
      exact sr_weaken (l' := [(1, .pointer (some ⟨g6, 0, none⟩)), (7, v74), (51, .bool (y116 != 14))]) (.cons rfl (.cons rfl (.cons rfl (.nil _)))) (K104 (y116 != 14) _ ⟨(Option.some.inj hS).symm, _, hj106⟩)
   ·intro K96
    rcases Bool.eq_false_or_eq_true (((y23.1 != 28) || (y37.1 != 0)) || (y51.1 != 0)) with hg95 | hg95
    all_goals try have hj98 : Tr ρ73 w76 (fun _ => false) ρ73 w76 := Tr.refl hb.bd
    ·refine sr_pass (e := 42) rfl rfl (by rw [hg95]; rfl) (by decide) ?_
     refine sr_pass (e := 42) rfl rfl (by rw [hg95]; rfl) (by decide) ?_
     refine sr_ev (v := .bool true) (ev_pick_t rfl hg95 rfl) (by decide) ?_
     exact sr_weaken (l' := [(1, .pointer (some ⟨g6, 0, none⟩)), (7, v74), (45, .bool true)]) (.cons rfl (.cons rfl (.cons rfl (.nil _)))) (K96 true _ ⟨by rw [hg95]; rfl, rfl⟩)
    ·refine sr_evg (b := false) (e := 42) rfl rfl hg95 (v := .int .i64 y65.1) (ev_move rfl) (by decide) ?_
     refine sr_evg (b := false) (e := 42) rfl rfl hg95 (v := .bool (y65.1 != 2)) (ev_ne rfl rfl) (by decide) ?_
     refine sr_ev (v := .bool (y65.1 != 2)) (ev_pick_f rfl hg95 rfl) (by decide) ?_
     exact sr_weaken (l' := [(1, .pointer (some ⟨g6, 0, none⟩)), (7, v74), (45, .bool (y65.1 != 2))]) (.cons rfl (.cons rfl (.cons rfl (.nil _)))) (K96 (y65.1 != 2) _ ⟨by rw [hg95]; rfl, rfl⟩)
  ·intro K88
   rcases Bool.eq_false_or_eq_true ((y23.1 != 28) || (y37.1 != 0)) with hg87 | hg87
   all_goals try have hj90 : Tr ρ73 w76 (fun _ => false) ρ73 w76 := Tr.refl hb.bd
   ·refine sr_pass (e := 38) rfl rfl (by rw [hg87]; rfl) (by decide) ?_
    refine sr_pass (e := 38) rfl rfl (by rw [hg87]; rfl) (by decide) ?_
    refine sr_ev (v := .bool true) (ev_pick_t rfl hg87 rfl) (by decide) ?_
    exact sr_weaken (l' := [(1, .pointer (some ⟨g6, 0, none⟩)), (6, .int .i64 y65.1), (7, v74), (41, .bool true)]) (.cons rfl (.cons rfl (.cons rfl (.cons rfl (.nil _))))) (K88 true _ ⟨by rw [hg87]; rfl, rfl⟩)
   ·refine sr_evg (b := false) (e := 38) rfl rfl hg87 (v := .int .i64 y51.1) (ev_move rfl) (by decide) ?_
    refine sr_evg (b := false) (e := 38) rfl rfl hg87 (v := .bool (y51.1 != 0)) (ev_ne rfl rfl) (by decide) ?_
    refine sr_ev (v := .bool (y51.1 != 0)) (ev_pick_f rfl hg87 rfl) (by decide) ?_
    exact sr_weaken (l' := [(1, .pointer (some ⟨g6, 0, none⟩)), (6, .int .i64 y65.1), (7, v74), (41, .bool (y51.1 != 0))]) (.cons rfl (.cons rfl (.cons rfl (.cons rfl (.nil _))))) (K88 (y51.1 != 0) _ ⟨by rw [hg87]; rfl, rfl⟩)
 ·intro K80
  rcases Bool.eq_false_or_eq_true (y23.1 != 28) with hg79 | hg79
  all_goals try have hj82 : Tr ρ73 w76 (fun _ => false) ρ73 w76 := Tr.refl hb.bd
  ·refine sr_pass (e := 34) rfl rfl (by rw [hg79]; rfl) (by decide) ?_
   refine sr_pass (e := 34) rfl rfl (by rw [hg79]; rfl) (by decide) ?_
   refine sr_ev (v := .bool true) (ev_pick_t rfl hg79 rfl) (by decide) ?_
   exact sr_weaken (l' := [(1, .pointer (some ⟨g6, 0, none⟩)), (5, .int .i64 y51.1), (6, .int .i64 y65.1), (7, v74), (37, .bool true)]) (.cons rfl (.cons rfl (.cons rfl (.cons rfl (.cons rfl (.nil _)))))) (K80 true _ ⟨by rw [hg79]; rfl, rfl⟩)
  ·refine sr_evg (b := false) (e := 34) rfl rfl hg79 (v := .int .i64 y37.1) (ev_move rfl) (by decide) ?_
   refine sr_evg (b := false) (e := 34) rfl rfl hg79 (v := .bool (y37.1 != 0)) (ev_ne rfl rfl) (by decide) ?_
   refine sr_ev (v := .bool (y37.1 != 0)) (ev_pick_f rfl hg79 rfl) (by decide) ?_
   exact sr_weaken (l' := [(1, .pointer (some ⟨g6, 0, none⟩)), (5, .int .i64 y51.1), (6, .int .i64 y65.1), (7, v74), (37, .bool (y37.1 != 0))]) (.cons rfl (.cons rfl (.cons rfl (.cons rfl (.cons rfl (.nil _)))))) (K80 (y37.1 != 0) _ ⟨by rw [hg79]; rfl, rfl⟩)
theorem law35_yes_ok (w0 : World) (hg : Gs w0) {b_0 : Bool} {r : Int} (hS : law35_yes b_0 = some r) :
  Calls Try.prog 29 #[.bool b_0] w0 (Ret (fun v w' => v = .int .i64 r ∧ Below w0.heap.size w0 w')) := by
 unfold law35_yes at hS
 have hb := Below.refl w0.heap.size w0
 refine calls_of_ke Try.func29 rfl (n := 4) rfl rfl (l := [(0, .bool b_0)]) rfl ?_
 refine ke_seq ?_
 refine ke_region ?_
 refine sr_ev (v := .int .i64 0) (ev_assign rfl) (by decide) ?_
 refine sr_end (l' := [(0, .bool b_0)]) (.cons rfl (.nil _)) ?_
 refine ke_seq ?_
 refine ke_seq ?_
 refine ke_region ?_
 refine sr_ev (v := .bool b_0) (ev_move rfl) (by decide) ?_
 refine sr_end (l' := [(3, .bool b_0)]) (.cons rfl (.nil _)) ?_
 refine ke_cond (t := b_0) rfl (fun hc1 => ?_) (fun hc1 => ?_)
 ·replace hS := ite_true' hS hc1
  refine ke_seq ?_
  refine ke_region ?_
  refine sr_ev (v := .int .i64 1) (ev_assign rfl) (by decide) ?_
  refine sr_end (l' := [(2, .int .i64 1)]) (.cons rfl (.nil _)) ?_
  cases hS
  exact ke_ret1 Try.func29 rfl rfl ⟨_, rfl, rfl, hb⟩
 ·replace hS := ite_false' hS hc1
  refine ke_skip ?_
  refine ke_seq ?_
  refine ke_region ?_
  refine sr_ev (v := .int .i64 0) (ev_assign rfl) (by decide) ?_
  refine sr_end (l' := [(2, .int .i64 0)]) (.cons rfl (.nil _)) ?_
  cases hS
  exact ke_ret1 Try.func29 rfl rfl ⟨_, rfl, rfl, hb⟩
theorem law35_do_ok (w0 : World) (hg : Gs w0) {ρA : Tags} (hbd : ∀ b, ρA b ≠ 0 → b < w0.heap.size) (hz : Gz ρA) {o : Nat} (ho2 : 2 ≤ o) {d_0 : delegate_Delegations} {x_1 : law35_Op} {v4 : Value} {gd_0 : Nat} {r : Int × delegate_Delegations} (h5 : SlR strC (Wb ρA) w0 v4 x_1.Scopes) (ho0 : delegate_Delegations.O (fun p => o + p) ρA w0 gd_0 d_0) (hS : law35_do d_0 x_1 = some r) :
  Calls Try.prog 13 #[.pointer (some ⟨gd_0, 0, none⟩), .agg #[.int .i64 x_1.Call, .int .i64 x_1.Now, str x_1.From, str x_1.To, v4, .int .i64 x_1.Window.From, .int .i64 x_1.Window.Until]] w0 (Ret (fun v w' => ∃ ρ', v = .int .i64 r.1 ∧ delegate_Delegations.O (fun p => o + p) ρ' w' gd_0 r.2 ∧ Tr ρA w0 (rng o 2) ρ' w')) := by
 unfold law35_do at hS
 have hb := enter_fr (ρ := ρA) (w := w0) (n := 2) ho2 hbd
 have hz := hz.enter (n := 2) ho2
 replace h5 := SlR.mv h5 (enter_rd (n := 2) ho2)
 obtain ⟨v1, hB3, h2⟩ := ho0
 replace hB3 := hB3.mv (enter_mv (p := 0) (n := 2) (by decide) ho2)
 replace h2 := h2.mv (enter_mv (p := 1) (n := 2) (by decide) ho2)
 replace hB3 : Blk (enter ρA o 2) 100 w0 gd_0 (.cells #[v1] 54 (0, 0)) := hB3
 replace h2 : MapT delegate_way.ek delegate_delegation.c true (enter ρA o 2) 101 w0 v1 d_0.ways := h2
 refine calls_of_ke Try.func13 rfl (n := 44) rfl rfl (l := [(0, .pointer (some ⟨gd_0, 0, none⟩)), (1, .agg #[.int .i64 x_1.Call, .int .i64 x_1.Now, str x_1.From, str x_1.To, v4, .int .i64 x_1.Window.From, .int .i64 x_1.Window.Until])]) rfl ?_
 refine ke_seq ?_
 refine ke_region ?_
 refine sr_boxT 5 (by decide) hb.bd rfl (by decide) ?_
 intro g6 ρ7 w8 hB10 htr9
 replace h5 := h5.mv htr9.rd
 replace hB3 := hB3.mv (htr9.mv (i := 100) rfl)
 replace h2 := h2.mv (htr9.mv (i := 101) rfl)
 replace hb := hb.trans htr9
 replace hB10 : Blk ρ7 5 w8 g6 (.cells #[.int .i64 x_1.Call, .int .i64 x_1.Now, str x_1.From, str x_1.To, v4, .int .i64 x_1.Window.From, .int .i64 x_1.Window.Until] 35 (0, 0)) := hB10
 refine sr_ev (v := .int .i64 0) (ev_assign rfl) (by decide) ?_
 refine sr_end (l' := [(0, .pointer (some ⟨gd_0, 0, none⟩)), (3, .pointer (some ⟨g6, 0, none⟩))]) (.cons rfl (.cons rfl (.nil _))) ?_
 refine ke_seq ?_
 refine ke_seq ?_
 refine ke_region ?_
 refine sr_ev (v := .pointer (some ⟨g6, 0, none⟩)) (ev_fieldAddr (i := 0) Try.underlying35 rfl Try.info3 rfl rfl) (by decide) ?_
 refine sr_ev (v := .int .i64 x_1.Call) (ev_load Try.isAgg3 rfl (hB10.cell rfl)) (by decide) ?_
 refine sr_end (l' := [(0, .pointer (some ⟨gd_0, 0, none⟩)), (3, .pointer (some ⟨g6, 0, none⟩)), (6, .int .i64 x_1.Call)]) (.cons rfl (.cons rfl (.cons rfl (.nil _)))) ?_
 refine ke_block ?_
 refine ke_seq ?_
 refine ke_region ?_
 refine sr_ev (v := .bool (x_1.Call == 0)) (ev_eq rfl rfl) (by decide) ?_
 refine sr_ev (v := .bool (x_1.Call == 0)) (ev_assign rfl) (by decide) ?_
 refine sr_end (l' := [(0, .pointer (some ⟨gd_0, 0, none⟩)), (3, .pointer (some ⟨g6, 0, none⟩)), (6, .int .i64 x_1.Call), (7, .bool (x_1.Call == 0))]) (.cons rfl (.cons rfl (.cons rfl (.cons rfl (.nil _))))) ?_
 refine ke_cond (t := x_1.Call == 0) rfl (fun hc11 => ?_) (fun hc11 => ?_)
 ·replace hS := ite_true' hS hc11
  refine ke_seq ?_
  refine ke_region ?_
  refine sr_ev (v := .pointer (some ⟨gd_0, 0, none⟩)) (ev_move rfl) (by decide) ?_
  refine sr_ev (v := .pointer (some ⟨g6, 2, none⟩)) (ev_fieldAddr (i := 2) Try.underlying35 rfl Try.info9 rfl rfl) (by decide) ?_
  refine sr_ev (v := str x_1.From) (ev_load Try.isAgg9 rfl (hB10.cell rfl)) (by decide) ?_
  refine sr_ev (v := .pointer (some ⟨g6, 3, none⟩)) (ev_fieldAddr (i := 3) Try.underlying35 rfl Try.info9 rfl rfl) (by decide) ?_
  refine sr_ev (v := str x_1.To) (ev_load Try.isAgg9 rfl (hB10.cell rfl)) (by decide) ?_
  refine sr_ev (v := .pointer (some ⟨g6, 4, none⟩)) (ev_fieldAddr (i := 4) Try.underlying35 rfl Try.info23 rfl rfl) (by decide) ?_
  refine sr_ev (v := v4) (ev_load Try.isAgg23 rfl (hB10.cell rfl)) (by decide) ?_
  refine sr_ev (v := .pointer (some ⟨g6, 5, none⟩)) (ev_fieldAddr (i := 5) Try.underlying35 rfl Try.info33 rfl rfl) (by decide) ?_
  refine sr_ev (v := .agg #[.int .i64 x_1.Window.From, .int .i64 x_1.Window.Until]) (ev_loads (cs := [.int .i64 x_1.Window.From, .int .i64 x_1.Window.Until]) Try.isAgg33 Try.sizeOf33 rfl (hB10.cells (vs := [.int .i64 x_1.Window.From, .int .i64 x_1.Window.Until]) rfl)) (by decide) ?_
  obtain ⟨y12, hy13, hS⟩ := bind_some' hS
  refine sr_call (vs := [.pointer (some ⟨gd_0, 0, none⟩), str x_1.From, str x_1.To, v4, .agg #[.int .i64 x_1.Window.From, .int .i64 x_1.Window.Until]]) rfl Try.call22 rfl (delegate_Delegations_Allow_ok _ (hg.fr hz hb) (ρA := ρ7) hb.bd (hz.fr hg hb) (o := 100) (by decide) h5 (⟨_, hB3, h2⟩ : delegate_Delegations.O (fun p => 100 + p) ρ7 w8 gd_0 d_0) hy13) (by decide) ?_
  rintro _ w14 ⟨ρ20, rfl, ⟨v17, hB19, h18⟩, htr16⟩
  replace hb := hb.trans htr16
  replace hB19 : Blk ρ20 100 w14 gd_0 (.cells #[v17] 54 (0, 0)) := hB19
  replace h18 : MapT delegate_way.ek delegate_delegation.c true ρ20 101 w14 v17 y12.2.ways := h18
  refine sr_ev (v := .int .i64 y12.1) (ev_assign rfl) (by decide) ?_
  refine sr_end (l' := [(4, .int .i64 y12.1)]) (.cons rfl (.nil _)) ?_
  cases hS
  exact ke_ret1 Try.func13 rfl rfl ⟨_, rfl, leave ρA w0 o 2 ρ20, rfl, ⟨_, (hB19.mv (leave_mv (p := 0) (by decide) hb)), (h18.mv (leave_mv (p := 1) (by decide) hb))⟩, (leave_tr ho2 hb)⟩
 ·replace hS := ite_false' hS hc11
  refine ke_seq ?_
  refine ke_region ?_
  refine sr_ev (v := .bool (x_1.Call == 1)) (ev_eq rfl rfl) (by decide) ?_
  refine sr_ev (v := .bool (x_1.Call == 1)) (ev_assign rfl) (by decide) ?_
  refine sr_end (l' := [(0, .pointer (some ⟨gd_0, 0, none⟩)), (3, .pointer (some ⟨g6, 0, none⟩)), (6, .int .i64 x_1.Call), (19, .bool (x_1.Call == 1))]) (.cons rfl (.cons rfl (.cons rfl (.cons rfl (.nil _))))) ?_
  refine ke_cond (t := x_1.Call == 1) rfl (fun hc21 => ?_) (fun hc21 => ?_)
  ·replace hS := ite_true' hS hc21
   refine ke_seq ?_
   refine ke_region ?_
   refine sr_ev (v := .pointer (some ⟨gd_0, 0, none⟩)) (ev_move rfl) (by decide) ?_
   refine sr_ev (v := .pointer (some ⟨g6, 2, none⟩)) (ev_fieldAddr (i := 2) Try.underlying35 rfl Try.info9 rfl rfl) (by decide) ?_
   refine sr_ev (v := str x_1.From) (ev_load Try.isAgg9 rfl (hB10.cell rfl)) (by decide) ?_
   refine sr_ev (v := .pointer (some ⟨g6, 3, none⟩)) (ev_fieldAddr (i := 3) Try.underlying35 rfl Try.info9 rfl rfl) (by decide) ?_
   refine sr_ev (v := str x_1.To) (ev_load Try.isAgg9 rfl (hB10.cell rfl)) (by decide) ?_
   obtain ⟨y22, hy23, hS⟩ := bind_some' hS
   refine sr_call (vs := [.pointer (some ⟨gd_0, 0, none⟩), str x_1.From, str x_1.To]) rfl Try.call28 rfl (delegate_Delegations_Revoke_ok _ (hg.fr hz hb) (ρA := ρ7) hb.bd (hz.fr hg hb) (o := 100) (by decide) (⟨_, hB3, h2⟩ : delegate_Delegations.O (fun p => 100 + p) ρ7 w8 gd_0 d_0) hy23) (by decide) ?_
   rintro _ w24 ⟨ρ30, rfl, ⟨v27, hB29, h28⟩, htr26⟩
   replace hb := hb.trans htr26
   replace hB29 : Blk ρ30 100 w24 gd_0 (.cells #[v27] 54 (0, 0)) := hB29
   replace h28 : MapT delegate_way.ek delegate_delegation.c true ρ30 101 w24 v27 y22.2.ways := h28
   obtain ⟨y31, hy32, hS⟩ := bind_some' hS
   refine sr_call (vs := [.bool y22.1]) rfl Try.call29 rfl (law35_yes_ok _ (hg.fr hz hb) hy32) (by decide) ?_
   rintro _ w33 ⟨rfl, hbw34⟩
   have htr35 := Tr.of_below hbw34 hb.bd
   replace hB29 := hB29.mv (htr35.mv (i := 100) rfl)
   replace h28 := h28.mv (htr35.mv (i := 101) rfl)
   replace hb := hb.trans htr35
   refine sr_ev (v := .int .i64 y31) (ev_assign rfl) (by decide) ?_
   refine sr_end (l' := [(4, .int .i64 y31)]) (.cons rfl (.nil _)) ?_
   cases hS
   exact ke_ret1 Try.func13 rfl rfl ⟨_, rfl, leave ρA w0 o 2 ρ30, rfl, ⟨_, (hB29.mv (leave_mv (p := 0) (by decide) hb)), (h28.mv (leave_mv (p := 1) (by decide) hb))⟩, (leave_tr ho2 hb)⟩
  ·replace hS := ite_false' hS hc21
   refine ke_seq ?_
   refine ke_region ?_
   refine sr_ev (v := .bool (x_1.Call == 2)) (ev_eq rfl rfl) (by decide) ?_
   refine sr_ev (v := .bool (x_1.Call == 2)) (ev_assign rfl) (by decide) ?_
   refine sr_end (l' := [(0, .pointer (some ⟨gd_0, 0, none⟩)), (3, .pointer (some ⟨g6, 0, none⟩)), (28, .bool (x_1.Call == 2))]) (.cons rfl (.cons rfl (.cons rfl (.nil _)))) ?_
   refine ke_cond (t := x_1.Call == 2) rfl (fun hc36 => ?_) (fun hc36 => ?_)
   ·replace hS := ite_true' hS hc36
    refine ke_seq ?_
    refine ke_region ?_
    refine sr_ev (v := .pointer (some ⟨gd_0, 0, none⟩)) (ev_move rfl) (by decide) ?_
    refine sr_ev (v := .pointer (some ⟨g6, 2, none⟩)) (ev_fieldAddr (i := 2) Try.underlying35 rfl Try.info9 rfl rfl) (by decide) ?_
    refine sr_ev (v := str x_1.From) (ev_load Try.isAgg9 rfl (hB10.cell rfl)) (by decide) ?_
    obtain ⟨y37, hy38, hS⟩ := bind_some' hS
    refine sr_call (vs := [.pointer (some ⟨gd_0, 0, none⟩), str x_1.From]) rfl Try.call24 rfl (delegate_Delegations_Drop_ok _ (hg.fr hz hb) (ρA := ρ7) hb.bd (hz.fr hg hb) (o := 100) (by decide) (⟨_, hB3, h2⟩ : delegate_Delegations.O (fun p => 100 + p) ρ7 w8 gd_0 d_0) hy38) (by decide) ?_
    rintro _ w39 ⟨ρ45, rfl, ⟨v42, hB44, h43⟩, htr41⟩
    replace hb := hb.trans htr41
    replace hB44 : Blk ρ45 100 w39 gd_0 (.cells #[v42] 54 (0, 0)) := hB44
    replace h43 : MapT delegate_way.ek delegate_delegation.c true ρ45 101 w39 v42 y37.2.ways := h43
    refine sr_ev (v := .int .i64 y37.1) (ev_assign rfl) (by decide) ?_
    refine sr_end (l' := [(4, .int .i64 y37.1)]) (.cons rfl (.nil _)) ?_
    cases hS
    exact ke_ret1 Try.func13 rfl rfl ⟨_, rfl, leave ρA w0 o 2 ρ45, rfl, ⟨_, (hB44.mv (leave_mv (p := 0) (by decide) hb)), (h43.mv (leave_mv (p := 1) (by decide) hb))⟩, (leave_tr ho2 hb)⟩
   ·replace hS := ite_false' hS hc36
    refine ke_skip ?_
    refine ke_inBlock ?_
    refine ke_seq ?_
    refine ke_region ?_
    refine sr_ev (v := .pointer (some ⟨gd_0, 0, none⟩)) (ev_move rfl) (by decide) ?_
    refine sr_ev (v := .pointer (some ⟨g6, 2, none⟩)) (ev_fieldAddr (i := 2) Try.underlying35 rfl Try.info9 rfl rfl) (by decide) ?_
    refine sr_ev (v := str x_1.From) (ev_load Try.isAgg9 rfl (hB10.cell rfl)) (by decide) ?_
    refine sr_ev (v := .pointer (some ⟨g6, 3, none⟩)) (ev_fieldAddr (i := 3) Try.underlying35 rfl Try.info9 rfl rfl) (by decide) ?_
    refine sr_ev (v := str x_1.To) (ev_load Try.isAgg9 rfl (hB10.cell rfl)) (by decide) ?_
    refine sr_ev (v := .pointer (some ⟨g6, 4, none⟩)) (ev_fieldAddr (i := 4) Try.underlying35 rfl Try.info23 rfl rfl) (by decide) ?_
    refine sr_ev (v := v4) (ev_load Try.isAgg23 rfl (hB10.cell rfl)) (by decide) ?_
    refine sr_ev (v := .pointer (some ⟨g6, 1, none⟩)) (ev_fieldAddr (i := 1) Try.underlying35 rfl Try.info3 rfl rfl) (by decide) ?_
    refine sr_ev (v := .int .i64 x_1.Now) (ev_load Try.isAgg3 rfl (hB10.cell rfl)) (by decide) ?_
    obtain ⟨y46, hy47, hS⟩ := bind_some' hS
    refine sr_call (vs := [.pointer (some ⟨gd_0, 0, none⟩), str x_1.From, str x_1.To, v4, .int .i64 x_1.Now]) rfl Try.call26 rfl (delegate_Delegations_May_ok _ (hg.fr hz hb) (ρA := ρ7) hb.bd (hz.fr hg hb) (τ0 := (fun p => 100 + p)) (fun p => Nat.le_add_right_of_le (by decide)) h5 (⟨_, hB3, h2⟩ : delegate_Delegations.O (fun p => 100 + p) ρ7 w8 gd_0 d_0) hy47) (by decide) ?_
    rintro _ w48 ⟨rfl, hbw49⟩
    have htr50 := Tr.of_below hbw49 hb.bd
    replace hB3 := hB3.mv (htr50.mv (i := 100) rfl)
    replace h2 := h2.mv (htr50.mv (i := 101) rfl)
    replace hb := hb.trans htr50
    refine sr_ev (v := .int .i64 y46) (ev_assign rfl) (by decide) ?_
    refine sr_end (l' := [(4, .int .i64 y46)]) (.cons rfl (.nil _)) ?_
    cases hS
    exact ke_ret1 Try.func13 rfl rfl ⟨_, rfl, leave ρA w0 o 2 ρ7, rfl, ⟨_, (hB3.mv (leave_mv (p := 0) (by decide) hb)), (h2.mv (leave_mv (p := 1) (by decide) hb))⟩, (leave_tr ho2 hb)⟩
theorem law35_DelegateOnly_B2_ok {w0 : World} (hg : Gs w0) {ρA : Tags} (hbd : ∀ b, ρA b ≠ 0 → b < w0.heap.size) (hz : Gz (flat1 ρA)) (r0 : List law35_Op → Str → Str → List Str → Int → delegate_Delegations → Int → Int → Str → Str → List Str → Int → Int → Bool → Int → Option (Bool))
  (hr0 : ∀ {r : Bool} {l_0 : List law35_Op} {from_1 : Str} {to_2 : Str} {scopes_3 : List Str} {now_4 : Int} {od_11 : delegate_Delegations} {given_12_0 : Int} {given_12_1 : Int} {given_12_2 : Str} {given_12_3 : Str} {given_12_4 : List Str} {given_12_5 : Int} {given_12_6 : Int} {is_13 : Bool} {i_14 : Int} {vl_0 : Value} {vscopes_3 : Value} {gd_11 : Nat} {ggiven_12 : Nat} {vgiven_12_4 : Value}, r0 l_0 from_1 to_2 scopes_3 now_4 od_11 given_12_0 given_12_1 given_12_2 given_12_3 given_12_4 given_12_5 given_12_6 is_13 i_14 = some r → ∀ {ρ : Tags} {w : World}, (Fr (flat1 ρA) w0 ρ w) → (SlR law35_Op.c (Wb ρ) w vl_0 l_0) → (SlR strC (Wb ρ) w vscopes_3 scopes_3) → (delegate_Delegations.O (fun p => 100 + p) ρ w gd_11 od_11) → (SlR strC (Wb ρ) w vgiven_12_4 given_12_4) → (Blk ρ 14 w ggiven_12 (.cells #[.int .i64 given_12_0, .int .i64 given_12_1, str given_12_2, str given_12_3, vgiven_12_4, .int .i64 given_12_5, .int .i64 given_12_6] 35 (0, 0))) → KE Try.prog 5 (Ret (fun v w' => v = .bool r ∧ Below w0.heap.size w0 w')) 182 [.inLoop (sub (bodyOf Try.f5) [2, 2, 2, 2, 2, 2, 1, 2, 2, 1]), .inBlock 0, .code (sub (bodyOf Try.f5) [2, 2, 2, 2, 2, 2, 2])] [(0, vl_0), (1, str from_1), (2, str to_2), (3, vscopes_3), (4, .int .i64 now_4), (11, .pointer (some ⟨gd_11, 0, none⟩)), (12, .pointer (some ⟨ggiven_12, 0, none⟩)), (13, .bool is_13), (14, .int .i64 i_14)] w) {r : Bool} {l_0 : List law35_Op} {from_1 : Str} {to_2 : Str} {scopes_3 : List Str} {now_4 : Int} {od_11 : delegate_Delegations} {given_12_0 : Int} {given_12_1 : Int} {given_12_2 : Str} {given_12_3 : Str} {given_12_4 : List Str} {given_12_5 : Int} {given_12_6 : Int} {is_13 : Bool} {i_14 : Int} {vl_0 : Value} {vscopes_3 : Value} {gd_11 : Nat} {ggiven_12 : Nat} {vgiven_12_4 : Value} (hS : law35_DelegateOnly_B2 r0 l_0 from_1 to_2 scopes_3 now_4 od_11 given_12_0 given_12_1 given_12_2 given_12_3 given_12_4 given_12_5 given_12_6 is_13 i_14 = some r) {ρ : Tags} {w : World} (hb : Fr (flat1 ρA) w0 ρ w) (hl_0 : SlR law35_Op.c (Wb ρ) w vl_0 l_0) (hscopes_3 : SlR strC (Wb ρ) w vscopes_3 scopes_3) (hod_11 : delegate_Delegations.O (fun p => 100 + p) ρ w gd_11 od_11) (hgiven_12_4 : SlR strC (Wb ρ) w vgiven_12_4 given_12_4) (hBgiven_12 : Blk ρ 14 w ggiven_12 (.cells #[.int .i64 given_12_0, .int .i64 given_12_1, str given_12_2, str given_12_3, vgiven_12_4, .int .i64 given_12_5, .int .i64 given_12_6] 35 (0, 0))) :
  KE Try.prog 5 (Ret (fun v w' => v = .bool r ∧ Below w0.heap.size w0 w')) 182 [.inBlock 2, .inBlock 1, .code (sub (bodyOf Try.f5) [2, 2, 2, 2, 2, 2, 1, 2, 2, 1, 2, 2]), .inLoop (sub (bodyOf Try.f5) [2, 2, 2, 2, 2, 2, 1, 2, 2, 1]), .inBlock 0, .code (sub (bodyOf Try.f5) [2, 2, 2, 2, 2, 2, 2])] [(0, vl_0), (1, str from_1), (2, str to_2), (3, vscopes_3), (4, .int .i64 now_4), (11, .pointer (some ⟨gd_11, 0, none⟩)), (12, .pointer (some ⟨ggiven_12, 0, none⟩)), (13, .bool is_13), (14, .int .i64 i_14)] w := by
 unfold law35_DelegateOnly_B2 at hS
 obtain ⟨v145, hB147, h146⟩ := hod_11
 replace hB147 : Blk ρ 100 w gd_11 (.cells #[v145] 54 (0, 0)) := hB147
 replace h146 : MapT delegate_way.ek delegate_delegation.c true ρ 101 w v145 od_11.ways := h146
 refine ke_inBlock ?_
 refine ke_inBlock ?_
 refine ke_region ?_
 refine sr_ev (v := .int .i64 i_14) (ev_move rfl) (by decide) ?_
 refine sr_ev (v := .int .i64 (IntKind.i64.wrap (i_14 + 1))) (ev_add rfl rfl) (by decide) ?_
 refine sr_ev (v := .int .i64 (IntKind.i64.wrap (i_14 + 1))) (ev_assign rfl) (by decide) ?_
 refine sr_end (l' := [(0, vl_0), (1, str from_1), (2, str to_2), (3, vscopes_3), (4, .int .i64 now_4), (11, .pointer (some ⟨gd_11, 0, none⟩)), (12, .pointer (some ⟨ggiven_12, 0, none⟩)), (13, .bool is_13), (14, .int .i64 (IntKind.i64.wrap (i_14 + 1)))]) (.cons rfl (.cons rfl (.cons rfl (.cons rfl (.cons rfl (.cons rfl (.cons rfl (.cons rfl (.cons rfl (.nil _)))))))))) ?_
 have hK := hr0 hS hb hl_0 hscopes_3 ⟨_, hB147, h146⟩ hgiven_12_4 hBgiven_12
 exact ke_weaken (l' := [(0, vl_0), (1, str from_1), (2, str to_2), (3, vscopes_3), (4, .int .i64 now_4), (11, .pointer (some ⟨gd_11, 0, none⟩)), (12, .pointer (some ⟨ggiven_12, 0, none⟩)), (13, .bool is_13), (14, .int .i64 (IntKind.i64.wrap (i_14 + 1)))]) (.cons rfl (.cons rfl (.cons rfl (.cons rfl (.cons rfl (.cons rfl (.cons rfl (.cons rfl (.cons rfl (.nil _)))))))))) hK
theorem law35_DelegateOnly_B3_ok {w0 : World} (hg : Gs w0) {ρA : Tags} (hbd : ∀ b, ρA b ≠ 0 → b < w0.heap.size) (hz : Gz (flat1 ρA)) (r0 : List law35_Op → Str → Str → List Str → Int → delegate_Delegations → Int → Int → Str → Str → List Str → Int → Int → Bool → Int → Option (Bool))
  (hr0 : ∀ {r : Bool} {l_0 : List law35_Op} {from_1 : Str} {to_2 : Str} {scopes_3 : List Str} {now_4 : Int} {od_11 : delegate_Delegations} {given_12_0 : Int} {given_12_1 : Int} {given_12_2 : Str} {given_12_3 : Str} {given_12_4 : List Str} {given_12_5 : Int} {given_12_6 : Int} {is_13 : Bool} {i_14 : Int} {vl_0 : Value} {vscopes_3 : Value} {gd_11 : Nat} {ggiven_12 : Nat} {vgiven_12_4 : Value}, r0 l_0 from_1 to_2 scopes_3 now_4 od_11 given_12_0 given_12_1 given_12_2 given_12_3 given_12_4 given_12_5 given_12_6 is_13 i_14 = some r → ∀ {ρ : Tags} {w : World}, (Fr (flat1 ρA) w0 ρ w) → (SlR law35_Op.c (Wb ρ) w vl_0 l_0) → (SlR strC (Wb ρ) w vscopes_3 scopes_3) → (delegate_Delegations.O (fun p => 100 + p) ρ w gd_11 od_11) → (SlR strC (Wb ρ) w vgiven_12_4 given_12_4) → (Blk ρ 14 w ggiven_12 (.cells #[.int .i64 given_12_0, .int .i64 given_12_1, str given_12_2, str given_12_3, vgiven_12_4, .int .i64 given_12_5, .int .i64 given_12_6] 35 (0, 0))) → KE Try.prog 5 (Ret (fun v w' => v = .bool r ∧ Below w0.heap.size w0 w')) 182 [.inLoop (sub (bodyOf Try.f5) [2, 2, 2, 2, 2, 2, 1, 2, 2, 1]), .inBlock 0, .code (sub (bodyOf Try.f5) [2, 2, 2, 2, 2, 2, 2])] [(0, vl_0), (1, str from_1), (2, str to_2), (3, vscopes_3), (4, .int .i64 now_4), (11, .pointer (some ⟨gd_11, 0, none⟩)), (12, .pointer (some ⟨ggiven_12, 0, none⟩)), (13, .bool is_13), (14, .int .i64 i_14)] w) {r : Bool} {l_0 : List law35_Op} {from_1 : Str} {to_2 : Str} {scopes_3 : List Str} {now_4 : Int} {od_11 : delegate_Delegations} {given_12_0 : Int} {given_12_1 : Int} {given_12_2 : Str} {given_12_3 : Str} {given_12_4 : List Str} {given_12_5 : Int} {given_12_6 : Int} {is_13 : Bool} {i_14 : Int} {t_87 : Bool} {vl_0 : Value} {vscopes_3 : Value} {gd_11 : Nat} {ggiven_12 : Nat} {vgiven_12_4 : Value} (hS : law35_DelegateOnly_B3 r0 l_0 from_1 to_2 scopes_3 now_4 od_11 given_12_0 given_12_1 given_12_2 given_12_3 given_12_4 given_12_5 given_12_6 is_13 i_14 t_87 = some r) {ρ : Tags} {w : World} (hb : Fr (flat1 ρA) w0 ρ w) (hl_0 : SlR law35_Op.c (Wb ρ) w vl_0 l_0) (hscopes_3 : SlR strC (Wb ρ) w vscopes_3 scopes_3) (hod_11 : delegate_Delegations.O (fun p => 100 + p) ρ w gd_11 od_11) (hgiven_12_4 : SlR strC (Wb ρ) w vgiven_12_4 given_12_4) (hBgiven_12 : Blk ρ 14 w ggiven_12 (.cells #[.int .i64 given_12_0, .int .i64 given_12_1, str given_12_2, str given_12_3, vgiven_12_4, .int .i64 given_12_5, .int .i64 given_12_6] 35 (0, 0))) :
  KE Try.prog 5 (Ret (fun v w' => v = .bool r ∧ Below w0.heap.size w0 w')) 182 [.code (sub (bodyOf Try.f5) [2, 2, 2, 2, 2, 2, 1, 2, 2, 1, 2, 1, 2, 2, 2, 2, 2, 3, 2]), .inBlock 2, .inBlock 1, .code (sub (bodyOf Try.f5) [2, 2, 2, 2, 2, 2, 1, 2, 2, 1, 2, 2]), .inLoop (sub (bodyOf Try.f5) [2, 2, 2, 2, 2, 2, 1, 2, 2, 1]), .inBlock 0, .code (sub (bodyOf Try.f5) [2, 2, 2, 2, 2, 2, 2])] [(0, vl_0), (1, str from_1), (2, str to_2), (3, vscopes_3), (4, .int .i64 now_4), (11, .pointer (some ⟨gd_11, 0, none⟩)), (12, .pointer (some ⟨ggiven_12, 0, none⟩)), (13, .bool is_13), (14, .int .i64 i_14), (87, .bool t_87)] w := by
 unfold law35_DelegateOnly_B3 at hS
 obtain ⟨v166, hB168, h167⟩ := hod_11
 replace hB168 : Blk ρ 100 w gd_11 (.cells #[v166] 54 (0, 0)) := hB168
 replace h167 : MapT delegate_way.ek delegate_delegation.c true ρ 101 w v166 od_11.ways := h167
 refine ke_cond (t := t_87) rfl (fun hc169 => ?_) (fun hc169 => ?_)
 ·replace hS := ite_true' hS hc169
  refine ke_region ?_
  refine sr_ev (v := .bool false) (ev_assign rfl) (by decide) ?_
  refine sr_end (l' := [(0, vl_0), (1, str from_1), (2, str to_2), (3, vscopes_3), (4, .int .i64 now_4), (11, .pointer (some ⟨gd_11, 0, none⟩)), (12, .pointer (some ⟨ggiven_12, 0, none⟩)), (13, .bool false), (14, .int .i64 i_14)]) (.cons rfl (.cons rfl (.cons rfl (.cons rfl (.cons rfl (.cons rfl (.cons rfl (.cons rfl (.cons rfl (.nil _)))))))))) ?_
  have hK := law35_DelegateOnly_B2_ok hg hbd hz _ hr0 hS hb hl_0 hscopes_3 ⟨_, hB168, h167⟩ hgiven_12_4 hBgiven_12
  exact ke_weaken (l' := [(0, vl_0), (1, str from_1), (2, str to_2), (3, vscopes_3), (4, .int .i64 now_4), (11, .pointer (some ⟨gd_11, 0, none⟩)), (12, .pointer (some ⟨ggiven_12, 0, none⟩)), (13, .bool false), (14, .int .i64 i_14)]) (.cons rfl (.cons rfl (.cons rfl (.cons rfl (.cons rfl (.cons rfl (.cons rfl (.cons rfl (.cons rfl (.nil _)))))))))) hK
 ·replace hS := ite_false' hS hc169
  refine ke_skip ?_
  have hK := law35_DelegateOnly_B2_ok hg hbd hz _ hr0 hS hb hl_0 hscopes_3 ⟨_, hB168, h167⟩ hgiven_12_4 hBgiven_12
  exact ke_weaken (l' := [(0, vl_0), (1, str from_1), (2, str to_2), (3, vscopes_3), (4, .int .i64 now_4), (11, .pointer (some ⟨gd_11, 0, none⟩)), (12, .pointer (some ⟨ggiven_12, 0, none⟩)), (13, .bool is_13), (14, .int .i64 i_14)]) (.cons rfl (.cons rfl (.cons rfl (.cons rfl (.cons rfl (.cons rfl (.cons rfl (.cons rfl (.cons rfl (.nil _)))))))))) hK
theorem law35_DelegateOnly_L1_ok {w0 : World} (hg : Gs w0) {ρA : Tags} (hbd : ∀ b, ρA b ≠ 0 → b < w0.heap.size) (hz : Gz (flat1 ρA)) : ∀ (n : Nat), ∀ {r : Bool} {l_0 : List law35_Op} {from_1 : Str} {to_2 : Str} {scopes_3 : List Str} {now_4 : Int} {od_11 : delegate_Delegations} {given_12_0 : Int} {given_12_1 : Int} {given_12_2 : Str} {given_12_3 : Str} {given_12_4 : List Str} {given_12_5 : Int} {given_12_6 : Int} {is_13 : Bool} {i_14 : Int} {vl_0 : Value} {vscopes_3 : Value} {gd_11 : Nat} {ggiven_12 : Nat} {vgiven_12_4 : Value}, law35_DelegateOnly_L1 n l_0 from_1 to_2 scopes_3 now_4 od_11 given_12_0 given_12_1 given_12_2 given_12_3 given_12_4 given_12_5 given_12_6 is_13 i_14 = some r → ∀ {ρ : Tags} {w : World}, (Fr (flat1 ρA) w0 ρ w) → (SlR law35_Op.c (Wb ρ) w vl_0 l_0) → (SlR strC (Wb ρ) w vscopes_3 scopes_3) → (delegate_Delegations.O (fun p => 100 + p) ρ w gd_11 od_11) → (SlR strC (Wb ρ) w vgiven_12_4 given_12_4) → (Blk ρ 14 w ggiven_12 (.cells #[.int .i64 given_12_0, .int .i64 given_12_1, str given_12_2, str given_12_3, vgiven_12_4, .int .i64 given_12_5, .int .i64 given_12_6] 35 (0, 0))) → KE Try.prog 5 (Ret (fun v w' => v = .bool r ∧ Below w0.heap.size w0 w')) 182 [.code (sub (bodyOf Try.f5) [2, 2, 2, 2, 2, 2, 1, 2, 2, 1]), .inLoop (sub (bodyOf Try.f5) [2, 2, 2, 2, 2, 2, 1, 2, 2, 1]), .inBlock 0, .code (sub (bodyOf Try.f5) [2, 2, 2, 2, 2, 2, 2])] [(0, vl_0), (1, str from_1), (2, str to_2), (3, vscopes_3), (4, .int .i64 now_4), (11, .pointer (some ⟨gd_11, 0, none⟩)), (12, .pointer (some ⟨ggiven_12, 0, none⟩)), (13, .bool is_13), (14, .int .i64 i_14)] w := by
 intro n
 induction n with
 | zero => intro r l_0 from_1 to_2 scopes_3 now_4 od_11 given_12_0 given_12_1 given_12_2 given_12_3 given_12_4 given_12_5 given_12_6 is_13 i_14 vl_0 vscopes_3 gd_11 ggiven_12 vgiven_12_4 hS; cases hS
 | succ n ih =>
  have hr0 : ∀ {r : Bool} {l_0 : List law35_Op} {from_1 : Str} {to_2 : Str} {scopes_3 : List Str} {now_4 : Int} {od_11 : delegate_Delegations} {given_12_0 : Int} {given_12_1 : Int} {given_12_2 : Str} {given_12_3 : Str} {given_12_4 : List Str} {given_12_5 : Int} {given_12_6 : Int} {is_13 : Bool} {i_14 : Int} {vl_0 : Value} {vscopes_3 : Value} {gd_11 : Nat} {ggiven_12 : Nat} {vgiven_12_4 : Value}, law35_DelegateOnly_L1 n l_0 from_1 to_2 scopes_3 now_4 od_11 given_12_0 given_12_1 given_12_2 given_12_3 given_12_4 given_12_5 given_12_6 is_13 i_14 = some r → ∀ {ρ : Tags} {w : World}, (Fr (flat1 ρA) w0 ρ w) → (SlR law35_Op.c (Wb ρ) w vl_0 l_0) → (SlR strC (Wb ρ) w vscopes_3 scopes_3) → (delegate_Delegations.O (fun p => 100 + p) ρ w gd_11 od_11) → (SlR strC (Wb ρ) w vgiven_12_4 given_12_4) → (Blk ρ 14 w ggiven_12 (.cells #[.int .i64 given_12_0, .int .i64 given_12_1, str given_12_2, str given_12_3, vgiven_12_4, .int .i64 given_12_5, .int .i64 given_12_6] 35 (0, 0))) → KE Try.prog 5 (Ret (fun v w' => v = .bool r ∧ Below w0.heap.size w0 w')) 182 [.inLoop (sub (bodyOf Try.f5) [2, 2, 2, 2, 2, 2, 1, 2, 2, 1]), .inBlock 0, .code (sub (bodyOf Try.f5) [2, 2, 2, 2, 2, 2, 2])] [(0, vl_0), (1, str from_1), (2, str to_2), (3, vscopes_3), (4, .int .i64 now_4), (11, .pointer (some ⟨gd_11, 0, none⟩)), (12, .pointer (some ⟨ggiven_12, 0, none⟩)), (13, .bool is_13), (14, .int .i64 i_14)] w := fun {r} {l_0} {from_1} {to_2} {scopes_3} {now_4} {od_11} {given_12_0} {given_12_1} {given_12_2} {given_12_3} {given_12_4} {given_12_5} {given_12_6} {is_13} {i_14} {vl_0} {vscopes_3} {gd_11} {ggiven_12} {vgiven_12_4} hS {ρ} {w} hb hl_0 hscopes_3 hod_11 hgiven_12_4 hBgiven_12 => ke_inLoop (ih hS hb hl_0 hscopes_3 hod_11 hgiven_12_4 hBgiven_12)
  clear ih
  intro r l_0 from_1 to_2 scopes_3 now_4 od_11 given_12_0 given_12_1 given_12_2 given_12_3 given_12_4 given_12_5 given_12_6 is_13 i_14 vl_0 vscopes_3 gd_11 ggiven_12 vgiven_12_4 hS ρ w hb hl_0 hscopes_3 hod_11 hgiven_12_4 hBgiven_12
  unfold law35_DelegateOnly_L1 at hS
  obtain ⟨v60, hB62, h61⟩ := hod_11
  replace hB62 : Blk ρ 100 w gd_11 (.cells #[v60] 54 (0, 0)) := hB62
  replace h61 : MapT delegate_way.ek delegate_delegation.c true ρ 101 w v60 od_11.ways := h61
  refine ke_seq ?_
  refine ke_seq ?_
  refine ke_region ?_
  refine sr_ev (v := .int .i64 i_14) (ev_move rfl) (by decide) ?_
  refine sr_ev (v := vl_0) (ev_move rfl) (by decide) ?_
  refine sr_ev (v := .int .i64 (l_0.length : Int)) (ev_sllen Try.underlying22 rfl hl_0.asSl) (by decide) ?_
  refine sr_ev (v := .bool (decide (i_14 < (l_0.length : Int)))) (ev_lt rfl rfl) (by decide) ?_
  refine sr_end (l' := [(0, vl_0), (1, str from_1), (2, str to_2), (3, vscopes_3), (4, .int .i64 now_4), (11, .pointer (some ⟨gd_11, 0, none⟩)), (12, .pointer (some ⟨ggiven_12, 0, none⟩)), (13, .bool is_13), (14, .int .i64 i_14), (44, .bool (decide (i_14 < (l_0.length : Int))))]) (.cons rfl (.cons rfl (.cons rfl (.cons rfl (.cons rfl (.cons rfl (.cons rfl (.cons rfl (.cons rfl (.cons rfl (.nil _))))))))))) ?_
  refine ke_cond (t := decide (i_14 < (l_0.length : Int))) rfl (fun hc63 => ?_) (fun hc63 => ?_)
  ·replace hS := ite_true' hS hc63
   refine ke_skip ?_
   refine ke_seq ?_
   refine ke_block ?_
   refine ke_seq ?_
   refine ke_region ?_
   refine sr_ev (v := .pointer (some ⟨gd_11, 0, none⟩)) (ev_move rfl) (by decide) ?_
   refine sr_ev (v := vl_0) (ev_move rfl) (by decide) ?_
   refine sr_ev (v := .int .i64 i_14) (ev_move rfl) (by decide) ?_
   obtain ⟨y64, hy65, hS⟩ := bind_some' hS
   obtain ⟨b66, o67, cs69, hq70, he68⟩ := ((SlT.of_sl (i := 0) hl_0)).elem (P := Try.prog) Try.underlying22 Try.info35 rfl hy65
   obtain ⟨v71, hcshe68, h72⟩ := he68.rd
   obtain rfl : cs69 = [.int .i64 y64.Call, .int .i64 y64.Now, str y64.From, str y64.To, v71, .int .i64 y64.Window.From, .int .i64 y64.Window.Until] := hcshe68
   refine sr_ev (v := .pointer (some ⟨b66, o67, none⟩)) (hq70 w rfl rfl) (by decide) ?_
   refine sr_ev (v := .agg #[.int .i64 y64.Call, .int .i64 y64.Now, str y64.From, str y64.To, v71, .int .i64 y64.Window.From, .int .i64 y64.Window.Until]) (ev_loads (cs := [.int .i64 y64.Call, .int .i64 y64.Now, str y64.From, str y64.To, v71, .int .i64 y64.Window.From, .int .i64 y64.Window.Until]) Try.isAgg35 Try.sizeOf35 rfl he68.cell) (by decide) ?_
   obtain ⟨y73, hy74, hS⟩ := bind_some' hS
   refine sr_call (vs := [.pointer (some ⟨gd_11, 0, none⟩), .agg #[.int .i64 y64.Call, .int .i64 y64.Now, str y64.From, str y64.To, v71, .int .i64 y64.Window.From, .int .i64 y64.Window.Until]]) rfl Try.call13 rfl (law35_do_ok _ (hg.fr hz hb) (ρA := ρ) hb.bd (hz.fr hg hb) (o := 100) (by decide) h72 (⟨_, hB62, h61⟩ : delegate_Delegations.O (fun p => 100 + p) ρ w gd_11 od_11) hy74) (by decide) ?_
   rintro _ w75 ⟨ρ81, rfl, ⟨v78, hB80, h79⟩, htr77⟩
   replace hl_0 := hl_0.mv htr77.rd
   replace hscopes_3 := hscopes_3.mv htr77.rd
   replace hBgiven_12 := hBgiven_12.mv (htr77.mv (i := 14) rfl)
   replace hgiven_12_4 := hgiven_12_4.mv htr77.rd
   replace hb := hb.trans htr77
   replace hB80 : Blk ρ81 100 w75 gd_11 (.cells #[v78] 54 (0, 0)) := hB80
   replace h79 : MapT delegate_way.ek delegate_delegation.c true ρ81 101 w75 v78 y73.2.ways := h79
   refine sr_ev (v := .int .i64 y73.1) (ev_assign rfl) (by decide) ?_
   refine sr_end (l' := [(0, vl_0), (1, str from_1), (2, str to_2), (3, vscopes_3), (4, .int .i64 now_4), (11, .pointer (some ⟨gd_11, 0, none⟩)), (12, .pointer (some ⟨ggiven_12, 0, none⟩)), (13, .bool is_13), (14, .int .i64 i_14), (15, .int .i64 y73.1)]) (.cons rfl (.cons rfl (.cons rfl (.cons rfl (.cons rfl (.cons rfl (.cons rfl (.cons rfl (.cons rfl (.cons rfl (.nil _))))))))))) ?_
   refine ke_seq ?_
   refine ke_region ?_
   refine sr_ev (v := vl_0) (ev_move rfl) (by decide) ?_
   refine sr_ev (v := .int .i64 i_14) (ev_move rfl) (by decide) ?_
   obtain ⟨y82, hy83, hS⟩ := bind_some' hS
   obtain ⟨b84, o85, cs87, hq88, he86⟩ := ((SlT.of_sl (i := 0) hl_0)).elem (P := Try.prog) Try.underlying22 Try.info35 rfl hy83
   obtain ⟨v89, hcshe86, h90⟩ := he86.rd
   obtain rfl : cs87 = [.int .i64 y82.Call, .int .i64 y82.Now, str y82.From, str y82.To, v89, .int .i64 y82.Window.From, .int .i64 y82.Window.Until] := hcshe86
   refine sr_ev (v := .pointer (some ⟨b84, o85, none⟩)) (hq88 w75 rfl rfl) (by decide) ?_
   refine sr_ev (v := .pointer (some ⟨b84, o85 + 2, none⟩)) (ev_fieldAddr (i := 2) Try.underlying35 rfl Try.info9 rfl rfl) (by decide) ?_
   refine sr_ev (v := str y82.From) (ev_load Try.isAgg9 rfl (he86.cell 2 _ rfl)) (by decide) ?_
   refine sr_ev (v := str from_1) (ev_move rfl) (by decide) ?_
   refine sr_ev (v := .bool (y82.From == from_1)) (ev_seq rfl rfl) (by decide) ?_
   refine sr_ev (v := .bool (y82.From == from_1)) (ev_move rfl) (by decide) ?_
   obtain ⟨z93, hz95, hS⟩ := bind_some' hS
   refine sr_join (m := 8) (C := fun (z : Bool) w1 => z93 = z ∧ ∃ ρ1, Tr ρ81 w75 (fun _ => false) ρ1 w1) (l' := fun z => [(0, vl_0), (1, str from_1), (2, str to_2), (3, vscopes_3), (4, .int .i64 now_4), (11, .pointer (some ⟨gd_11, 0, none⟩)), (12, .pointer (some ⟨ggiven_12, 0, none⟩)), (13, .bool is_13), (14, .int .i64 i_14), (15, .int .i64 y73.1), (68, .bool z)]) ?_ ?_
   ·rintro _ w96 ⟨rfl, ρ97, hj94⟩
    replace hl_0 := hl_0.mv hj94.rd
    replace hscopes_3 := hscopes_3.mv hj94.rd
    replace hB80 := hB80.mv (hj94.mv (i := 100) rfl)
    replace h79 := h79.mv (hj94.mv (i := 101) rfl)
    replace hBgiven_12 := hBgiven_12.mv (hj94.mv (i := 14) rfl)
    replace hgiven_12_4 := hgiven_12_4.mv hj94.rd
    replace hb := hb.trans hj94
    refine sr_ev (v := .bool z93) (ev_assign rfl) (by decide) ?_
    refine sr_end (l' := [(0, vl_0), (1, str from_1), (2, str to_2), (3, vscopes_3), (4, .int .i64 now_4), (11, .pointer (some ⟨gd_11, 0, none⟩)), (12, .pointer (some ⟨ggiven_12, 0, none⟩)), (13, .bool is_13), (14, .int .i64 i_14), (15, .int .i64 y73.1), (16, .bool z93)]) (.cons rfl (.cons rfl (.cons rfl (.cons rfl (.cons rfl (.cons rfl (.cons rfl (.cons rfl (.cons rfl (.cons rfl (.cons rfl (.nil _)))))))))))) ?_
    refine ke_block ?_
    refine ke_seq ?_
    refine ke_region ?_
    refine sr_ev (v := vl_0) (ev_move rfl) (by decide) ?_
    refine sr_ev (v := .int .i64 i_14) (ev_move rfl) (by decide) ?_
    obtain ⟨y108, hy109, hS⟩ := bind_some' hS
    obtain ⟨b110, o111, cs113, hq114, he112⟩ := ((SlT.of_sl (i := 0) hl_0)).elem (P := Try.prog) Try.underlying22 Try.info35 rfl hy109
    obtain ⟨v115, hcshe112, h116⟩ := he112.rd
    obtain rfl : cs113 = [.int .i64 y108.Call, .int .i64 y108.Now, str y108.From, str y108.To, v115, .int .i64 y108.Window.From, .int .i64 y108.Window.Until] := hcshe112
    refine sr_ev (v := .pointer (some ⟨b110, o111, none⟩)) (hq114 w96 rfl rfl) (by decide) ?_
    refine sr_ev (v := .pointer (some ⟨b110, o111 + 0, none⟩)) (ev_fieldAddr (i := 0) Try.underlying35 rfl Try.info3 rfl rfl) (by decide) ?_
    refine sr_ev (v := .int .i64 y108.Call) (ev_load Try.isAgg3 rfl (he112.cell 0 _ rfl)) (by decide) ?_
    refine sr_ev (v := .bool (y108.Call == 0)) (ev_eq rfl rfl) (by decide) ?_
    refine sr_ev (v := .bool (y108.Call == 0)) (ev_move rfl) (by decide) ?_
    refine sr_join (m := 2) (C := fun (x : Bool) w1 => x = ((y108.Call == 0) && z93) ∧ w96 = w1) (l' := fun x => [(0, vl_0), (1, str from_1), (2, str to_2), (3, vscopes_3), (4, .int .i64 now_4), (11, .pointer (some ⟨gd_11, 0, none⟩)), (12, .pointer (some ⟨ggiven_12, 0, none⟩)), (13, .bool is_13), (14, .int .i64 i_14), (15, .int .i64 y73.1), (16, .bool z93), (78, .bool x)]) ?_ ?_
    ·rintro _ _ ⟨rfl, rfl⟩
     refine sr_ev (v := .bool ((y108.Call == 0) && z93)) (ev_move rfl) (by decide) ?_
     refine sr_join (m := 3) (C := fun (x : Bool) w1 => x = (((y108.Call == 0) && z93) && (y73.1 == 0)) ∧ w96 = w1) (l' := fun x => [(0, vl_0), (1, str from_1), (2, str to_2), (3, vscopes_3), (4, .int .i64 now_4), (11, .pointer (some ⟨gd_11, 0, none⟩)), (12, .pointer (some ⟨ggiven_12, 0, none⟩)), (13, .bool is_13), (14, .int .i64 i_14), (16, .bool z93), (82, .bool x)]) ?_ ?_
     ·rintro _ _ ⟨rfl, rfl⟩
      refine sr_ev (v := .bool (((y108.Call == 0) && z93) && (y73.1 == 0))) (ev_assign rfl) (by decide) ?_
      refine sr_end (l' := [(0, vl_0), (1, str from_1), (2, str to_2), (3, vscopes_3), (4, .int .i64 now_4), (11, .pointer (some ⟨gd_11, 0, none⟩)), (12, .pointer (some ⟨ggiven_12, 0, none⟩)), (13, .bool is_13), (14, .int .i64 i_14), (16, .bool z93), (69, .bool (((y108.Call == 0) && z93) && (y73.1 == 0)))]) (.cons rfl (.cons rfl (.cons rfl (.cons rfl (.cons rfl (.cons rfl (.cons rfl (.cons rfl (.cons rfl (.cons rfl (.cons rfl (.nil _)))))))))))) ?_
      refine ke_cond (t := ((y108.Call == 0) && z93) && (y73.1 == 0)) rfl (fun hc133 => ?_) (fun hc133 => ?_)
      ·replace hS := ite_true' hS hc133
       refine ke_seq ?_
       refine ke_region ?_
       refine sr_ev (v := vl_0) (ev_move rfl) (by decide) ?_
       refine sr_ev (v := .int .i64 i_14) (ev_move rfl) (by decide) ?_
       obtain ⟨y134, hy135, hS⟩ := bind_some' hS
       obtain ⟨b136, o137, cs139, hq140, he138⟩ := ((SlT.of_sl (i := 0) hl_0)).elem (P := Try.prog) Try.underlying22 Try.info35 rfl hy135
       obtain ⟨v141, hcshe138, h142⟩ := he138.rd
       obtain rfl : cs139 = [.int .i64 y134.Call, .int .i64 y134.Now, str y134.From, str y134.To, v141, .int .i64 y134.Window.From, .int .i64 y134.Window.Until] := hcshe138
       refine sr_ev (v := .pointer (some ⟨b136, o137, none⟩)) (hq140 w96 rfl rfl) (by decide) ?_
       refine sr_ev (v := .agg #[.int .i64 y134.Call, .int .i64 y134.Now, str y134.From, str y134.To, v141, .int .i64 y134.Window.From, .int .i64 y134.Window.Until]) (ev_loads (cs := [.int .i64 y134.Call, .int .i64 y134.Now, str y134.From, str y134.To, v141, .int .i64 y134.Window.From, .int .i64 y134.Window.Until]) Try.isAgg35 Try.sizeOf35 rfl he138.cell) (by decide) ?_
       refine sr_storeT (v := .agg #[.int .i64 y134.Call, .int .i64 y134.Now, str y134.From, str y134.To, v141, .int .i64 y134.Window.From, .int .i64 y134.Window.Until]) (vs := [.int .i64 y134.Call, .int .i64 y134.Now, str y134.From, str y134.To, v141, .int .i64 y134.Window.From, .int .i64 y134.Window.Until]) (cs' := #[.int .i64 y134.Call, .int .i64 y134.Now, str y134.From, str y134.To, v141, .int .i64 y134.Window.From, .int .i64 y134.Window.Until]) hBgiven_12 (by decide) hb.bd rfl rfl rfl Try.sizeOf35 rfl (by first | rfl | (simp only [List.all_cons, List.all_nil, SlR.oneCell h142]; done) | (simp only [List.all_cons, List.all_nil, SlR.oneCell h142]; rfl)) rfl ?_
       intro w143 hBgiven_121 htr144
       replace hl_0 := hl_0.mv htr144.rd
       replace hscopes_3 := hscopes_3.mv htr144.rd
       replace hB80 := hB80.mv (htr144.mv (i := 100) rfl)
       replace h79 := h79.mv (htr144.mv (i := 101) rfl)
       replace h142 := h142.mv htr144.rd
       replace hb := hb.trans htr144
       replace hBgiven_12 : Blk ρ97 14 w143 ggiven_12 (.cells #[.int .i64 y134.Call, .int .i64 y134.Now, str y134.From, str y134.To, v141, .int .i64 y134.Window.From, .int .i64 y134.Window.Until] 35 (0, 0)) := hBgiven_121
       clear hBgiven_121
       refine sr_end (l' := [(0, vl_0), (1, str from_1), (2, str to_2), (3, vscopes_3), (4, .int .i64 now_4), (11, .pointer (some ⟨gd_11, 0, none⟩)), (12, .pointer (some ⟨ggiven_12, 0, none⟩)), (14, .int .i64 i_14)]) (.cons rfl (.cons rfl (.cons rfl (.cons rfl (.cons rfl (.cons rfl (.cons rfl (.cons rfl (.nil _))))))))) ?_
       refine ke_region ?_
       refine sr_ev (v := .bool true) (ev_assign rfl) (by decide) ?_
       refine sr_end (l' := [(0, vl_0), (1, str from_1), (2, str to_2), (3, vscopes_3), (4, .int .i64 now_4), (11, .pointer (some ⟨gd_11, 0, none⟩)), (12, .pointer (some ⟨ggiven_12, 0, none⟩)), (13, .bool true), (14, .int .i64 i_14)]) (.cons rfl (.cons rfl (.cons rfl (.cons rfl (.cons rfl (.cons rfl (.cons rfl (.cons rfl (.cons rfl (.nil _)))))))))) ?_
       have hK := law35_DelegateOnly_B2_ok hg hbd hz _ hr0 hS hb hl_0 hscopes_3 ⟨_, hB80, h79⟩ h142 hBgiven_12
       exact ke_weaken (l' := [(0, vl_0), (1, str from_1), (2, str to_2), (3, vscopes_3), (4, .int .i64 now_4), (11, .pointer (some ⟨gd_11, 0, none⟩)), (12, .pointer (some ⟨ggiven_12, 0, none⟩)), (13, .bool true), (14, .int .i64 i_14)]) (.cons rfl (.cons rfl (.cons rfl (.cons rfl (.cons rfl (.cons rfl (.cons rfl (.cons rfl (.cons rfl (.nil _)))))))))) hK
      ·replace hS := ite_false' hS hc133
       refine ke_seq ?_
       refine ke_seq ?_
       refine ke_region ?_
       refine sr_ev (v := vl_0) (ev_move rfl) (by decide) ?_
       refine sr_ev (v := .int .i64 i_14) (ev_move rfl) (by decide) ?_
       obtain ⟨y148, hy149, hS⟩ := bind_some' hS
       obtain ⟨b150, o151, cs153, hq154, he152⟩ := ((SlT.of_sl (i := 0) hl_0)).elem (P := Try.prog) Try.underlying22 Try.info35 rfl hy149
       obtain ⟨v155, hcshe152, h156⟩ := he152.rd
       obtain rfl : cs153 = [.int .i64 y148.Call, .int .i64 y148.Now, str y148.From, str y148.To, v155, .int .i64 y148.Window.From, .int .i64 y148.Window.Until] := hcshe152
       refine sr_ev (v := .pointer (some ⟨b150, o151, none⟩)) (hq154 w96 rfl rfl) (by decide) ?_
       refine sr_ev (v := .pointer (some ⟨b150, o151 + 0, none⟩)) (ev_fieldAddr (i := 0) Try.underlying35 rfl Try.info3 rfl rfl) (by decide) ?_
       refine sr_ev (v := .int .i64 y148.Call) (ev_load Try.isAgg3 rfl (he152.cell 0 _ rfl)) (by decide) ?_
       refine sr_ev (v := .bool (y148.Call == 1)) (ev_eq rfl rfl) (by decide) ?_
       refine sr_ev (v := .bool (y148.Call == 1)) (ev_move rfl) (by decide) ?_
       refine sr_join (m := 2) (C := fun (x : Bool) w1 => x = ((y148.Call == 1) && z93) ∧ w96 = w1) (l' := fun x => [(0, vl_0), (1, str from_1), (2, str to_2), (3, vscopes_3), (4, .int .i64 now_4), (11, .pointer (some ⟨gd_11, 0, none⟩)), (12, .pointer (some ⟨ggiven_12, 0, none⟩)), (13, .bool is_13), (14, .int .i64 i_14), (96, .bool x)]) ?_ ?_
       ·rintro _ _ ⟨rfl, rfl⟩
        refine sr_ev (v := .bool ((y148.Call == 1) && z93)) (ev_assign rfl) (by decide) ?_
        refine sr_end (l' := [(0, vl_0), (1, str from_1), (2, str to_2), (3, vscopes_3), (4, .int .i64 now_4), (11, .pointer (some ⟨gd_11, 0, none⟩)), (12, .pointer (some ⟨ggiven_12, 0, none⟩)), (13, .bool is_13), (14, .int .i64 i_14), (87, .bool ((y148.Call == 1) && z93))]) (.cons rfl (.cons rfl (.cons rfl (.cons rfl (.cons rfl (.cons rfl (.cons rfl (.cons rfl (.cons rfl (.cons rfl (.nil _))))))))))) ?_
        refine ke_cond (t := (y148.Call == 1) && z93) rfl (fun hc165 => ?_) (fun hc165 => ?_)
        ·replace hS := ite_true' hS hc165
         refine ke_skip ?_
         have hK := law35_DelegateOnly_B3_ok hg hbd hz _ hr0 hS hb hl_0 hscopes_3 ⟨_, hB80, h79⟩ hgiven_12_4 hBgiven_12
         exact ke_weaken (l' := [(0, vl_0), (1, str from_1), (2, str to_2), (3, vscopes_3), (4, .int .i64 now_4), (11, .pointer (some ⟨gd_11, 0, none⟩)), (12, .pointer (some ⟨ggiven_12, 0, none⟩)), (13, .bool is_13), (14, .int .i64 i_14), (87, .bool ((y148.Call == 1) && z93))]) (.cons rfl (.cons rfl (.cons rfl (.cons rfl (.cons rfl (.cons rfl (.cons rfl (.cons rfl (.cons rfl (.cons rfl (.nil _))))))))))) hK
        ·replace hS := ite_false' hS hc165
         refine ke_region ?_
         refine sr_ev (v := vl_0) (ev_move rfl) (by decide) ?_
         refine sr_ev (v := .int .i64 i_14) (ev_move rfl) (by decide) ?_
         obtain ⟨y170, hy171, hS⟩ := bind_some' hS
         obtain ⟨b172, o173, cs175, hq176, he174⟩ := ((SlT.of_sl (i := 0) hl_0)).elem (P := Try.prog) Try.underlying22 Try.info35 rfl hy171
         obtain ⟨v177, hcshe174, h178⟩ := he174.rd
         obtain rfl : cs175 = [.int .i64 y170.Call, .int .i64 y170.Now, str y170.From, str y170.To, v177, .int .i64 y170.Window.From, .int .i64 y170.Window.Until] := hcshe174
         refine sr_ev (v := .pointer (some ⟨b172, o173, none⟩)) (hq176 w96 rfl rfl) (by decide) ?_
         refine sr_ev (v := .pointer (some ⟨b172, o173 + 0, none⟩)) (ev_fieldAddr (i := 0) Try.underlying35 rfl Try.info3 rfl rfl) (by decide) ?_
         refine sr_ev (v := .int .i64 y170.Call) (ev_load Try.isAgg3 rfl (he174.cell 0 _ rfl)) (by decide) ?_
         refine sr_ev (v := .bool (y170.Call == 2)) (ev_eq rfl rfl) (by decide) ?_
         refine sr_ev (v := .bool (y170.Call == 2)) (ev_move rfl) (by decide) ?_
         obtain ⟨z181, hz183, hS⟩ := bind_some' hS
         refine sr_join (m := 17) (C := fun (z : Bool) w1 => z181 = z ∧ ∃ ρ1, Tr ρ97 w96 (fun _ => false) ρ1 w1) (l' := fun z => [(0, vl_0), (1, str from_1), (2, str to_2), (3, vscopes_3), (4, .int .i64 now_4), (11, .pointer (some ⟨gd_11, 0, none⟩)), (12, .pointer (some ⟨ggiven_12, 0, none⟩)), (13, .bool is_13), (14, .int .i64 i_14), (120, .bool z)]) ?_ ?_
         ·rintro _ w184 ⟨rfl, ρ185, hj182⟩
          replace hl_0 := hl_0.mv hj182.rd
          replace hscopes_3 := hscopes_3.mv hj182.rd
          replace hB80 := hB80.mv (hj182.mv (i := 100) rfl)
          replace h79 := h79.mv (hj182.mv (i := 101) rfl)
          replace hBgiven_12 := hBgiven_12.mv (hj182.mv (i := 14) rfl)
          replace hgiven_12_4 := hgiven_12_4.mv hj182.rd
          replace hb := hb.trans hj182
          refine sr_ev (v := .bool z181) (ev_assign rfl) (by decide) ?_
          refine sr_end (l' := [(0, vl_0), (1, str from_1), (2, str to_2), (3, vscopes_3), (4, .int .i64 now_4), (11, .pointer (some ⟨gd_11, 0, none⟩)), (12, .pointer (some ⟨ggiven_12, 0, none⟩)), (13, .bool is_13), (14, .int .i64 i_14), (87, .bool z181)]) (.cons rfl (.cons rfl (.cons rfl (.cons rfl (.cons rfl (.cons rfl (.cons rfl (.cons rfl (.cons rfl (.cons rfl (.nil _))))))))))) ?_
          have hK := law35_DelegateOnly_B3_ok hg hbd hz _ hr0 hS hb hl_0 hscopes_3 ⟨_, hB80, h79⟩ hgiven_12_4 hBgiven_12
          exact ke_weaken (l' := [(0, vl_0), (1, str from_1), (2, str to_2), (3, vscopes_3), (4, .int .i64 now_4), (11, .pointer (some ⟨gd_11, 0, none⟩)), (12, .pointer (some ⟨ggiven_12, 0, none⟩)), (13, .bool is_13), (14, .int .i64 i_14), (87, .bool z181)]) (.cons rfl (.cons rfl (.cons rfl (.cons rfl (.cons rfl (.cons rfl (.cons rfl (.cons rfl (.cons rfl (.cons rfl (.nil _))))))))))) hK
         ·intro K180
          clear hS
          have hj182 : Tr ρ97 w96 (fun _ => false) ρ97 w96 := (Tr.refl hb.bd).weak (fun _ _ => rfl) rfl rfl
          rcases Bool.eq_false_or_eq_true (y170.Call == 2) with hg179 | hg179
          ·have hS := ite_true' hz183 hg179
           refine sr_evg (b := true) (e := 103) rfl rfl hg179 (v := vl_0) (ev_move rfl) (by decide) ?_
           refine sr_evg (b := true) (e := 103) rfl rfl hg179 (v := .int .i64 i_14) (ev_move rfl) (by decide) ?_
           obtain ⟨y187, hy188, hS⟩ := bind_some' hS
           obtain ⟨b189, o190, cs192, hq193, he191⟩ := ((SlT.of_sl (i := 0) hl_0)).elem (P := Try.prog) Try.underlying22 Try.info35 rfl hy188
           obtain ⟨v194, hcshe191, h195⟩ := he191.rd
           obtain rfl : cs192 = [.int .i64 y187.Call, .int .i64 y187.Now, str y187.From, str y187.To, v194, .int .i64 y187.Window.From, .int .i64 y187.Window.Until] := hcshe191
           refine sr_evg (b := true) (e := 103) rfl rfl hg179 (v := .pointer (some ⟨b189, o190, none⟩)) (hq193 w96 rfl rfl) (by decide) ?_
           refine sr_evg (b := true) (e := 103) rfl rfl hg179 (v := .pointer (some ⟨b189, o190 + 2, none⟩)) (ev_fieldAddr (i := 2) Try.underlying35 rfl Try.info9 rfl rfl) (by decide) ?_
           refine sr_evg (b := true) (e := 103) rfl rfl hg179 (v := str y187.From) (ev_load Try.isAgg9 rfl (he191.cell 2 _ rfl)) (by decide) ?_
           refine sr_evg (b := true) (e := 103) rfl rfl hg179 (v := str from_1) (ev_move rfl) (by decide) ?_
           refine sr_evg (b := true) (e := 103) rfl rfl hg179 (v := .bool (y187.From == from_1)) (ev_seq rfl rfl) (by decide) ?_
           refine sr_evg (b := true) (e := 103) rfl rfl hg179 (v := .bool (y187.From == from_1)) (ev_move rfl) (by decide) ?_
           obtain ⟨z198, hz200, hS⟩ := bind_some' hS
           refine sr_join (m := 8) (C := fun (z : Bool) w1 => z198 = z ∧ ∃ ρ1, Tr ρ97 w96 (fun _ => false) ρ1 w1) (l' := fun z => [(0, vl_0), (1, str from_1), (2, str to_2), (3, vscopes_3), (4, .int .i64 now_4), (11, .pointer (some ⟨gd_11, 0, none⟩)), (12, .pointer (some ⟨ggiven_12, 0, none⟩)), (13, .bool is_13), (14, .int .i64 i_14), (103, .bool (y170.Call == 2)), (119, .bool z)]) ?_ ?_
           ·rintro _ w201 ⟨rfl, ρ202, hj199⟩
            replace hl_0 := hl_0.mv hj199.rd
            replace hscopes_3 := hscopes_3.mv hj199.rd
            replace hB80 := hB80.mv (hj199.mv (i := 100) rfl)
            replace h79 := h79.mv (hj199.mv (i := 101) rfl)
            replace hBgiven_12 := hBgiven_12.mv (hj199.mv (i := 14) rfl)
            replace hgiven_12_4 := hgiven_12_4.mv hj199.rd
            replace hb := hb.trans hj199
            replace hj182 := (hj182.trans hj199).weak (J' := (fun _ => false)) (by intro t h; simp [rng] at h ⊢ <;> omega) rfl rfl
            refine sr_ev (v := .bool z198) (ev_pick_t rfl hg179 rfl) (by decide) ?_
            exact sr_weaken (l' := [(0, vl_0), (1, str from_1), (2, str to_2), (3, vscopes_3), (4, .int .i64 now_4), (11, .pointer (some ⟨gd_11, 0, none⟩)), (12, .pointer (some ⟨ggiven_12, 0, none⟩)), (13, .bool is_13), (14, .int .i64 i_14), (120, .bool z198)]) (.cons rfl (.cons rfl (.cons rfl (.cons rfl (.cons rfl (.cons rfl (.cons rfl (.cons rfl (.cons rfl (.cons rfl (.nil _))))))))))) (K180 z198 _ ⟨(Option.some.inj hS).symm, _, hj182⟩)
           ·intro K197
            clear hS
            have hj199 : Tr ρ97 w96 (fun _ => false) ρ97 w96 := (Tr.refl hb.bd).weak (fun _ _ => rfl) rfl rfl
            rcases Bool.eq_false_or_eq_true (y187.From == from_1) with hg196 | hg196
            ·have hS := ite_true' hz200 hg196
             refine sr_pass (e := 111) rfl rfl (by rw [hg196]; rfl) (by decide) ?_
             refine sr_pass (e := 111) rfl rfl (by rw [hg196]; rfl) (by decide) ?_
             refine sr_pass (e := 111) rfl rfl (by rw [hg196]; rfl) (by decide) ?_
             refine sr_pass (e := 111) rfl rfl (by rw [hg196]; rfl) (by decide) ?_
             refine sr_pass (e := 111) rfl rfl (by rw [hg196]; rfl) (by decide) ?_
             refine sr_pass (e := 111) rfl rfl (by rw [hg196]; rfl) (by decide) ?_
             refine sr_pass (e := 111) rfl rfl (by rw [hg196]; rfl) (by decide) ?_
             refine sr_evg (b := true) (e := 103) rfl rfl hg179 (v := .bool true) (ev_pick_t rfl hg196 rfl) (by decide) ?_
             exact sr_weaken (l' := [(0, vl_0), (1, str from_1), (2, str to_2), (3, vscopes_3), (4, .int .i64 now_4), (11, .pointer (some ⟨gd_11, 0, none⟩)), (12, .pointer (some ⟨ggiven_12, 0, none⟩)), (13, .bool is_13), (14, .int .i64 i_14), (103, .bool (y170.Call == 2)), (119, .bool true)]) (.cons rfl (.cons rfl (.cons rfl (.cons rfl (.cons rfl (.cons rfl (.cons rfl (.cons rfl (.cons rfl (.cons rfl (.cons rfl (.nil _)))))))))))) (K197 true _ ⟨(Option.some.inj hS).symm, _, hj199⟩)
            ·have hS := ite_false' hz200 hg196
             refine sr_evg (b := false) (e := 111) rfl rfl hg196 (v := vl_0) (ev_move rfl) (by decide) ?_
             refine sr_evg (b := false) (e := 111) rfl rfl hg196 (v := .int .i64 i_14) (ev_move rfl) (by decide) ?_
             obtain ⟨y204, hy205, hS⟩ := bind_some' hS
             obtain ⟨b206, o207, cs209, hq210, he208⟩ := ((SlT.of_sl (i := 0) hl_0)).elem (P := Try.prog) Try.underlying22 Try.info35 rfl hy205
             obtain ⟨v211, hcshe208, h212⟩ := he208.rd
             obtain rfl : cs209 = [.int .i64 y204.Call, .int .i64 y204.Now, str y204.From, str y204.To, v211, .int .i64 y204.Window.From, .int .i64 y204.Window.Until] := hcshe208
             refine sr_evg (b := false) (e := 111) rfl rfl hg196 (v := .pointer (some ⟨b206, o207, none⟩)) (hq210 w96 rfl rfl) (by decide) ?_
             refine sr_evg (b := false) (e := 111) rfl rfl hg196 (v := .pointer (some ⟨b206, o207 + 2, none⟩)) (ev_fieldAddr (i := 2) Try.underlying35 rfl Try.info9 rfl rfl) (by decide) ?_
             refine sr_evg (b := false) (e := 111) rfl rfl hg196 (v := str y204.From) (ev_load Try.isAgg9 rfl (he208.cell 2 _ rfl)) (by decide) ?_
             refine sr_evg (b := false) (e := 111) rfl rfl hg196 (v := str to_2) (ev_move rfl) (by decide) ?_
             refine sr_evg (b := false) (e := 111) rfl rfl hg196 (v := .bool (y204.From == to_2)) (ev_seq rfl rfl) (by decide) ?_
             refine sr_evg (b := true) (e := 103) rfl rfl hg179 (v := .bool (y204.From == to_2)) (ev_pick_f rfl hg196 rfl) (by decide) ?_
             exact sr_weaken (l' := [(0, vl_0), (1, str from_1), (2, str to_2), (3, vscopes_3), (4, .int .i64 now_4), (11, .pointer (some ⟨gd_11, 0, none⟩)), (12, .pointer (some ⟨ggiven_12, 0, none⟩)), (13, .bool is_13), (14, .int .i64 i_14), (103, .bool (y170.Call == 2)), (119, .bool (y204.From == to_2))]) (.cons rfl (.cons rfl (.cons rfl (.cons rfl (.cons rfl (.cons rfl (.cons rfl (.cons rfl (.cons rfl (.cons rfl (.cons rfl (.nil _)))))))))))) (K197 (y204.From == to_2) _ ⟨(Option.some.inj hS).symm, _, hj199⟩)
          ·have hS := ite_false' hz183 hg179
           refine sr_pass (e := 103) rfl rfl (by rw [hg179]; rfl) (by decide) ?_
           refine sr_pass (e := 103) rfl rfl (by rw [hg179]; rfl) (by decide) ?_
           refine sr_pass (e := 103) rfl rfl (by rw [hg179]; rfl) (by decide) ?_
           refine sr_pass (e := 103) rfl rfl (by rw [hg179]; rfl) (by decide) ?_
           refine sr_pass (e := 103) rfl rfl (by rw [hg179]; rfl) (by decide) ?_
           refine sr_pass (e := 103) rfl rfl (by rw [hg179]; rfl) (by decide) ?_
           refine sr_pass (e := 103) rfl rfl (by rw [hg179]; rfl) (by decide) ?_
           refine sr_pass (e := 103) rfl rfl (by rw [hg179]; rfl) (by decide) ?_
           refine sr_pass_undef (e := 111) rfl rfl (by decide) ?_
           refine sr_pass_undef (e := 111) rfl rfl (by decide) ?_
           refine sr_pass_undef (e := 111) rfl rfl (by decide) ?_
           refine sr_pass_undef (e := 111) rfl rfl (by decide) ?_
           refine sr_pass_undef (e := 111) rfl rfl (by decide) ?_
           refine sr_pass_undef (e := 111) rfl rfl (by decide) ?_
           refine sr_pass_undef (e := 111) rfl rfl (by decide) ?_
           refine sr_pass (e := 103) rfl rfl (by rw [hg179]; rfl) (by decide) ?_
           refine sr_ev (v := .bool false) (ev_pick_f rfl hg179 rfl) (by decide) ?_
           exact sr_weaken (l' := [(0, vl_0), (1, str from_1), (2, str to_2), (3, vscopes_3), (4, .int .i64 now_4), (11, .pointer (some ⟨gd_11, 0, none⟩)), (12, .pointer (some ⟨ggiven_12, 0, none⟩)), (13, .bool is_13), (14, .int .i64 i_14), (120, .bool false)]) (.cons rfl (.cons rfl (.cons rfl (.cons rfl (.cons rfl (.cons rfl (.cons rfl (.cons rfl (.cons rfl (.cons rfl (.nil _))))))))))) (K180 false _ ⟨(Option.some.inj hS).symm, _, hj182⟩)
       ·intro K158
        rcases Bool.eq_false_or_eq_true (y148.Call == 1) with hg157 | hg157
        all_goals try have hj160 : Tr ρ97 w96 (fun _ => false) ρ97 w96 := Tr.refl hb.bd
        ·refine sr_evg (b := true) (e := 94) rfl rfl hg157 (v := .bool z93) (ev_move rfl) (by decide) ?_
         refine sr_ev (v := .bool z93) (ev_pick_t rfl hg157 rfl) (by decide) ?_
         exact sr_weaken (l' := [(0, vl_0), (1, str from_1), (2, str to_2), (3, vscopes_3), (4, .int .i64 now_4), (11, .pointer (some ⟨gd_11, 0, none⟩)), (12, .pointer (some ⟨ggiven_12, 0, none⟩)), (13, .bool is_13), (14, .int .i64 i_14), (96, .bool z93)]) (.cons rfl (.cons rfl (.cons rfl (.cons rfl (.cons rfl (.cons rfl (.cons rfl (.cons rfl (.cons rfl (.cons rfl (.nil _))))))))))) (K158 z93 _ ⟨by rw [hg157]; rfl, rfl⟩)
        ·refine sr_pass (e := 94) rfl rfl (by rw [hg157]; rfl) (by decide) ?_
         refine sr_ev (v := .bool false) (ev_pick_f rfl hg157 rfl) (by decide) ?_
         exact sr_weaken (l' := [(0, vl_0), (1, str from_1), (2, str to_2), (3, vscopes_3), (4, .int .i64 now_4), (11, .pointer (some ⟨gd_11, 0, none⟩)), (12, .pointer (some ⟨ggiven_12, 0, none⟩)), (13, .bool is_13), (14, .int .i64 i_14), (96, .bool false)]) (.cons rfl (.cons rfl (.cons rfl (.cons rfl (.cons rfl (.cons rfl (.cons rfl (.cons rfl (.cons rfl (.cons rfl (.nil _))))))))))) (K158 false _ ⟨by rw [hg157]; rfl, rfl⟩)
     ·intro K126
      rcases Bool.eq_false_or_eq_true ((y108.Call == 0) && z93) with hg125 | hg125
      all_goals try have hj128 : Tr ρ97 w96 (fun _ => false) ρ97 w96 := Tr.refl hb.bd
      ·refine sr_evg (b := true) (e := 79) rfl rfl hg125 (v := .int .i64 y73.1) (ev_move rfl) (by decide) ?_
       refine sr_evg (b := true) (e := 79) rfl rfl hg125 (v := .bool (y73.1 == 0)) (ev_eq rfl rfl) (by decide) ?_
       refine sr_ev (v := .bool (y73.1 == 0)) (ev_pick_t rfl hg125 rfl) (by decide) ?_
       exact sr_weaken (l' := [(0, vl_0), (1, str from_1), (2, str to_2), (3, vscopes_3), (4, .int .i64 now_4), (11, .pointer (some ⟨gd_11, 0, none⟩)), (12, .pointer (some ⟨ggiven_12, 0, none⟩)), (13, .bool is_13), (14, .int .i64 i_14), (16, .bool z93), (82, .bool (y73.1 == 0))]) (.cons rfl (.cons rfl (.cons rfl (.cons rfl (.cons rfl (.cons rfl (.cons rfl (.cons rfl (.cons rfl (.cons rfl (.cons rfl (.nil _)))))))))))) (K126 (y73.1 == 0) _ ⟨by rw [hg125]; rfl, rfl⟩)
      ·refine sr_pass (e := 79) rfl rfl (by rw [hg125]; rfl) (by decide) ?_
       refine sr_pass (e := 79) rfl rfl (by rw [hg125]; rfl) (by decide) ?_
       refine sr_ev (v := .bool false) (ev_pick_f rfl hg125 rfl) (by decide) ?_
       exact sr_weaken (l' := [(0, vl_0), (1, str from_1), (2, str to_2), (3, vscopes_3), (4, .int .i64 now_4), (11, .pointer (some ⟨gd_11, 0, none⟩)), (12, .pointer (some ⟨ggiven_12, 0, none⟩)), (13, .bool is_13), (14, .int .i64 i_14), (16, .bool z93), (82, .bool false)]) (.cons rfl (.cons rfl (.cons rfl (.cons rfl (.cons rfl (.cons rfl (.cons rfl (.cons rfl (.cons rfl (.cons rfl (.cons rfl (.nil _)))))))))))) (K126 false _ ⟨by rw [hg125]; rfl, rfl⟩)
    ·intro K118
     rcases Bool.eq_false_or_eq_true (y108.Call == 0) with hg117 | hg117
     all_goals try have hj120 : Tr ρ97 w96 (fun _ => false) ρ97 w96 := Tr.refl hb.bd
     ·refine sr_evg (b := true) (e := 76) rfl rfl hg117 (v := .bool z93) (ev_move rfl) (by decide) ?_
      refine sr_ev (v := .bool z93) (ev_pick_t rfl hg117 rfl) (by decide) ?_
      exact sr_weaken (l' := [(0, vl_0), (1, str from_1), (2, str to_2), (3, vscopes_3), (4, .int .i64 now_4), (11, .pointer (some ⟨gd_11, 0, none⟩)), (12, .pointer (some ⟨ggiven_12, 0, none⟩)), (13, .bool is_13), (14, .int .i64 i_14), (15, .int .i64 y73.1), (16, .bool z93), (78, .bool z93)]) (.cons rfl (.cons rfl (.cons rfl (.cons rfl (.cons rfl (.cons rfl (.cons rfl (.cons rfl (.cons rfl (.cons rfl (.cons rfl (.cons rfl (.nil _))))))))))))) (K118 z93 _ ⟨by rw [hg117]; rfl, rfl⟩)
     ·refine sr_pass (e := 76) rfl rfl (by rw [hg117]; rfl) (by decide) ?_
      refine sr_ev (v := .bool false) (ev_pick_f rfl hg117 rfl) (by decide) ?_
      exact sr_weaken (l' := [(0, vl_0), (1, str from_1), (2, str to_2), (3, vscopes_3), (4, .int .i64 now_4), (11, .pointer (some ⟨gd_11, 0, none⟩)), (12, .pointer (some ⟨ggiven_12, 0, none⟩)), (13, .bool is_13), (14, .int .i64 i_14), (15, .int .i64 y73.1), (16, .bool z93), (78, .bool false)]) (.cons rfl (.cons rfl (.cons rfl (.cons rfl (.cons rfl (.cons rfl (.cons rfl (.cons rfl (.cons rfl (.cons rfl (.cons rfl (.cons rfl (.nil _))))))))))))) (K118 false _ ⟨by rw [hg117]; rfl, rfl⟩)
   ·intro K92
    clear hS
    have hj94 : Tr ρ81 w75 (fun _ => false) ρ81 w75 := (Tr.refl hb.bd).weak (fun _ _ => rfl) rfl rfl
    rcases Bool.eq_false_or_eq_true (y82.From == from_1) with hg91 | hg91
    ·have hS := ite_true' hz95 hg91
     refine sr_evg (b := true) (e := 60) rfl rfl hg91 (v := vl_0) (ev_move rfl) (by decide) ?_
     refine sr_evg (b := true) (e := 60) rfl rfl hg91 (v := .int .i64 i_14) (ev_move rfl) (by decide) ?_
     obtain ⟨y99, hy100, hS⟩ := bind_some' hS
     obtain ⟨b101, o102, cs104, hq105, he103⟩ := ((SlT.of_sl (i := 0) hl_0)).elem (P := Try.prog) Try.underlying22 Try.info35 rfl hy100
     obtain ⟨v106, hcshe103, h107⟩ := he103.rd
     obtain rfl : cs104 = [.int .i64 y99.Call, .int .i64 y99.Now, str y99.From, str y99.To, v106, .int .i64 y99.Window.From, .int .i64 y99.Window.Until] := hcshe103
     refine sr_evg (b := true) (e := 60) rfl rfl hg91 (v := .pointer (some ⟨b101, o102, none⟩)) (hq105 w75 rfl rfl) (by decide) ?_
     refine sr_evg (b := true) (e := 60) rfl rfl hg91 (v := .pointer (some ⟨b101, o102 + 3, none⟩)) (ev_fieldAddr (i := 3) Try.underlying35 rfl Try.info9 rfl rfl) (by decide) ?_
     refine sr_evg (b := true) (e := 60) rfl rfl hg91 (v := str y99.To) (ev_load Try.isAgg9 rfl (he103.cell 3 _ rfl)) (by decide) ?_
     refine sr_evg (b := true) (e := 60) rfl rfl hg91 (v := str to_2) (ev_move rfl) (by decide) ?_
     refine sr_evg (b := true) (e := 60) rfl rfl hg91 (v := .bool (y99.To == to_2)) (ev_seq rfl rfl) (by decide) ?_
     refine sr_ev (v := .bool (y99.To == to_2)) (ev_pick_t rfl hg91 rfl) (by decide) ?_
     exact sr_weaken (l' := [(0, vl_0), (1, str from_1), (2, str to_2), (3, vscopes_3), (4, .int .i64 now_4), (11, .pointer (some ⟨gd_11, 0, none⟩)), (12, .pointer (some ⟨ggiven_12, 0, none⟩)), (13, .bool is_13), (14, .int .i64 i_14), (15, .int .i64 y73.1), (68, .bool (y99.To == to_2))]) (.cons rfl (.cons rfl (.cons rfl (.cons rfl (.cons rfl (.cons rfl (.cons rfl (.cons rfl (.cons rfl (.cons rfl (.cons rfl (.nil _)))))))))))) (K92 (y99.To == to_2) _ ⟨(Option.some.inj hS).symm, _, hj94⟩)
    ·have hS := ite_false' hz95 hg91
     refine sr_pass (e := 60) rfl rfl (by rw [hg91]; rfl) (by decide) ?_
     refine sr_pass (e := 60) rfl rfl (by rw [hg91]; rfl) (by decide) ?_
     refine sr_pass (e := 60) rfl rfl (by rw [hg91]; rfl) (by decide) ?_
     refine sr_pass (e := 60) rfl rfl (by rw [hg91]; rfl) (by decide) ?_
     refine sr_pass (e := 60) rfl rfl (by rw [hg91]; rfl) (by decide) ?_
     refine sr_pass (e := 60) rfl rfl (by rw [hg91]; rfl) (by decide) ?_
     refine sr_pass (e := 60) rfl rfl (by rw [hg91]; rfl) (by decide) ?_
     refine sr_ev (v := .bool false) (ev_pick_f rfl hg91 rfl) (by decide) ?_
     exact sr_weaken (l' := [(0, vl_0), (1, str from_1), (2, str to_2), (3, vscopes_3), (4, .int .i64 now_4), (11, .pointer (some ⟨gd_11, 0, none⟩)), (12, .pointer (some ⟨ggiven_12, 0, none⟩)), (13, .bool is_13), (14, .int .i64 i_14), (15, .int .i64 y73.1), (68, .bool false)]) (.cons rfl (.cons rfl (.cons rfl (.cons rfl (.cons rfl (.cons rfl (.cons rfl (.cons rfl (.cons rfl (.cons rfl (.cons rfl (.nil _)))))))))))) (K92 false _ ⟨(Option.some.inj hS).symm, _, hj94⟩)
  ·replace hS := ite_false' hS hc63
   refine ke_exit (k' := _) rfl ?_
   refine ke_seq ?_
   refine ke_region ?_
   refine sr_ev (v := .int .i64 now_4) (ev_move rfl) (by decide) ?_
   refine sr_ev (v := .int .i64 (gmin now_4 1099511627776)) (ev_min rfl rfl) (by decide) ?_
   refine sr_ev (v := .int .i64 (gmax 0 (gmin now_4 1099511627776))) (ev_max rfl rfl) (by decide) ?_
   refine sr_ev (v := .int .i64 (gmax 0 (gmin now_4 1099511627776))) (ev_assign rfl) (by decide) ?_
   refine sr_end (l' := [(1, str from_1), (2, str to_2), (3, vscopes_3), (4, .int .i64 now_4), (11, .pointer (some ⟨gd_11, 0, none⟩)), (12, .pointer (some ⟨ggiven_12, 0, none⟩)), (13, .bool is_13), (17, .int .i64 (gmax 0 (gmin now_4 1099511627776)))]) (.cons rfl (.cons rfl (.cons rfl (.cons rfl (.cons rfl (.cons rfl (.cons rfl (.cons rfl (.nil _))))))))) ?_
   refine ke_seq ?_
   refine ke_region ?_
   refine sr_ev (v := .bool is_13) (ev_move rfl) (by decide) ?_
   refine sr_ev (v := .bool is_13) (ev_move rfl) (by decide) ?_
   refine sr_join (m := 6) (C := fun (x : Bool) w1 => x = (is_13 && (decide ((gmax 0 (gmin now_4 1099511627776)) ≥ given_12_5))) ∧ w = w1) (l' := fun x => [(1, str from_1), (2, str to_2), (3, vscopes_3), (4, .int .i64 now_4), (11, .pointer (some ⟨gd_11, 0, none⟩)), (12, .pointer (some ⟨ggiven_12, 0, none⟩)), (13, .bool is_13), (17, .int .i64 (gmax 0 (gmin now_4 1099511627776))), (131, .bool x)]) ?_ ?_
   ·rintro _ _ ⟨rfl, rfl⟩
    refine sr_ev (v := .bool (is_13 && (decide ((gmax 0 (gmin now_4 1099511627776)) ≥ given_12_5)))) (ev_move rfl) (by decide) ?_
    refine sr_join (m := 6) (C := fun (x : Bool) w1 => x = ((is_13 && (decide ((gmax 0 (gmin now_4 1099511627776)) ≥ given_12_5))) && (decide ((gmax 0 (gmin now_4 1099511627776)) < given_12_6))) ∧ w = w1) (l' := fun x => [(1, str from_1), (2, str to_2), (3, vscopes_3), (4, .int .i64 now_4), (11, .pointer (some ⟨gd_11, 0, none⟩)), (12, .pointer (some ⟨ggiven_12, 0, none⟩)), (13, .bool is_13), (17, .int .i64 (gmax 0 (gmin now_4 1099511627776))), (138, .bool x)]) ?_ ?_
    ·rintro _ _ ⟨rfl, rfl⟩
     refine sr_ev (v := .bool ((is_13 && (decide ((gmax 0 (gmin now_4 1099511627776)) ≥ given_12_5))) && (decide ((gmax 0 (gmin now_4 1099511627776)) < given_12_6)))) (ev_move rfl) (by decide) ?_
     obtain ⟨z231, hz233, hS⟩ := bind_some' hS
     refine sr_join (m := 5) (C := fun (z : Bool) w1 => z231 = z ∧ ∃ ρ1, Tr ρ w (fun _ => false) ρ1 w1) (l' := fun z => [(1, str from_1), (2, str to_2), (3, vscopes_3), (4, .int .i64 now_4), (11, .pointer (some ⟨gd_11, 0, none⟩)), (12, .pointer (some ⟨ggiven_12, 0, none⟩)), (13, .bool is_13), (17, .int .i64 (gmax 0 (gmin now_4 1099511627776))), (144, .bool z)]) ?_ ?_
     ·rintro _ w234 ⟨rfl, ρ235, hj232⟩
      replace hscopes_3 := hscopes_3.mv hj232.rd
      replace hB62 := hB62.mv (hj232.mv (i := 100) rfl)
      replace h61 := h61.mv (hj232.mv (i := 101) rfl)
      replace hBgiven_12 := hBgiven_12.mv (hj232.mv (i := 14) rfl)
      replace hgiven_12_4 := hgiven_12_4.mv hj232.rd
      replace hb := hb.trans hj232
      refine sr_ev (v := .bool z231) (ev_assign rfl) (by decide) ?_
      refine sr_end (l' := [(1, str from_1), (2, str to_2), (3, vscopes_3), (4, .int .i64 now_4), (11, .pointer (some ⟨gd_11, 0, none⟩)), (12, .pointer (some ⟨ggiven_12, 0, none⟩)), (13, .bool is_13), (17, .int .i64 (gmax 0 (gmin now_4 1099511627776))), (18, .bool z231)]) (.cons rfl (.cons rfl (.cons rfl (.cons rfl (.cons rfl (.cons rfl (.cons rfl (.cons rfl (.cons rfl (.nil _)))))))))) ?_
      refine ke_seq ?_
      refine ke_region ?_
      refine sr_ev (v := .pointer (some ⟨gd_11, 0, none⟩)) (ev_move rfl) (by decide) ?_
      refine sr_ev (v := str from_1) (ev_move rfl) (by decide) ?_
      refine sr_ev (v := str to_2) (ev_move rfl) (by decide) ?_
      refine sr_ev (v := vscopes_3) (ev_move rfl) (by decide) ?_
      refine sr_ev (v := .int .i64 now_4) (ev_move rfl) (by decide) ?_
      obtain ⟨y242, hy243, hS⟩ := bind_some' hS
      refine sr_call (vs := [.pointer (some ⟨gd_11, 0, none⟩), str from_1, str to_2, vscopes_3, .int .i64 now_4]) rfl Try.call26 rfl (delegate_Delegations_May_ok _ (hg.fr hz hb) (ρA := ρ235) hb.bd (hz.fr hg hb) (τ0 := (fun p => 100 + p)) (fun p => Nat.le_add_right_of_le (by decide)) hscopes_3 (⟨_, hB62, h61⟩ : delegate_Delegations.O (fun p => 100 + p) ρ235 w234 gd_11 od_11) hy243) (by decide) ?_
      rintro _ w244 ⟨rfl, hbw245⟩
      have htr246 := Tr.of_below hbw245 hb.bd
      replace hB62 := hB62.mv (htr246.mv (i := 100) rfl)
      replace h61 := h61.mv (htr246.mv (i := 101) rfl)
      replace hBgiven_12 := hBgiven_12.mv (htr246.mv (i := 14) rfl)
      replace hgiven_12_4 := hgiven_12_4.mv htr246.rd
      replace hb := hb.trans htr246
      refine sr_ev (v := .bool (y242 == 0)) (ev_eq rfl rfl) (by decide) ?_
      refine sr_ev (v := .bool z231) (ev_move rfl) (by decide) ?_
      refine sr_ev (v := .bool ((y242 == 0) == z231)) (ev_beq Try.underlying4 rfl rfl) (by decide) ?_
      refine sr_ev (v := .bool ((y242 == 0) == z231)) (ev_move rfl) (by decide) ?_
      obtain ⟨z249, hz251, hS⟩ := bind_some' hS
      refine sr_join (m := 24) (C := fun (z : Bool) w1 => z249 = z ∧ ∃ ρ1, Tr ρ235 w244 (fun _ => false) ρ1 w1) (l' := fun z => [(178, .bool z)]) ?_ ?_
      ·rintro _ w252 ⟨rfl, ρ253, hj250⟩
       replace hb := hb.trans hj250
       refine sr_ev (v := .bool z249) (ev_move rfl) (by decide) ?_
       obtain ⟨z280, hz282, hS⟩ := bind_some' hS
       refine sr_join (m := 2) (C := fun (z : Bool) w1 => z280 = z ∧ ∃ ρ1, Tr ρ253 w252 (fun _ => false) ρ1 w1) (l' := fun z => [(181, .bool z)]) ?_ ?_
       ·rintro _ w283 ⟨rfl, ρ284, hj281⟩
        replace hb := hb.trans hj281
        refine sr_ev (v := .bool z280) (ev_assign rfl) (by decide) ?_
        refine sr_end (l' := [(10, .bool z280)]) (.cons rfl (.nil _)) ?_
        cases hS
        exact ke_ret1 Try.func5 rfl rfl ⟨_, rfl, rfl, (hb.below (flat1_le _))⟩
       ·intro K279
        clear hS
        have hj281 : Tr ρ253 w252 (fun _ => false) ρ253 w252 := (Tr.refl hb.bd).weak (fun _ _ => rfl) rfl rfl
        rcases Bool.eq_false_or_eq_true z249 with hg278 | hg278
        ·have hS := ite_true' hz282 hg278
         obtain ⟨y286, hy287, hS⟩ := bind_some' hS
         refine sr_callg (b := true) (e := 179) rfl rfl hg278 (vs := []) rfl Try.call10 rfl (law35_awake_ok _ (hg.fr hz hb) (ρA := ρ253) hb.bd (hz.fr hg hb) hy287) (by decide) ?_
         rintro _ w288 ⟨rfl, hbw289⟩
         have htr290 := Tr.of_below hbw289 hb.bd
         replace hb := hb.trans htr290
         replace hj281 := (hj281.trans htr290).weak (J' := (fun _ => false)) (by intro t h; simp [rng] at h ⊢ <;> omega) rfl rfl
         refine sr_ev (v := .bool y286) (ev_pick_t rfl hg278 rfl) (by decide) ?_
         exact sr_weaken (l' := [(181, .bool y286)]) (.cons rfl (.nil _)) (K279 y286 _ ⟨(Option.some.inj hS).symm, _, hj281⟩)
        ·have hS := ite_false' hz282 hg278
         refine sr_pass (e := 179) rfl rfl (by rw [hg278]; rfl) (by decide) ?_
         refine sr_ev (v := .bool false) (ev_pick_f rfl hg278 rfl) (by decide) ?_
         exact sr_weaken (l' := [(181, .bool false)]) (.cons rfl (.nil _)) (K279 false _ ⟨(Option.some.inj hS).symm, _, hj281⟩)
      ·intro K248
       clear hS
       have hj250 : Tr ρ235 w244 (fun _ => false) ρ235 w244 := (Tr.refl hb.bd).weak (fun _ _ => rfl) rfl rfl
       rcases Bool.eq_false_or_eq_true ((y242 == 0) == z231) with hg247 | hg247
       ·have hS := ite_true' hz251 hg247
        refine sr_evg (b := true) (e := 154) rfl rfl hg247 (v := .pointer (some ⟨gd_11, 0, none⟩)) (ev_move rfl) (by decide) ?_
        refine sr_evg (b := true) (e := 154) rfl rfl hg247 (v := str from_1) (ev_move rfl) (by decide) ?_
        refine sr_evg (b := true) (e := 154) rfl rfl hg247 (v := str to_2) (ev_move rfl) (by decide) ?_
        refine sr_evg (b := true) (e := 154) rfl rfl hg247 (v := .int .i64 now_4) (ev_move rfl) (by decide) ?_
        obtain ⟨y255, hy256, hS⟩ := bind_some' hS
        refine sr_callg (b := true) (e := 154) rfl rfl hg247 (vs := [.pointer (some ⟨gd_11, 0, none⟩), str from_1, str to_2, .int .i64 now_4]) rfl Try.call16 rfl (delegate_Delegations_Scopes_ok _ (hg.fr hz hb) (ρA := ρ235) hb.bd (hz.fr hg hb) (τ0 := (fun p => 100 + p)) (fun p => Nat.le_add_right_of_le (by decide)) (⟨_, hB62, h61⟩ : delegate_Delegations.O (fun p => 100 + p) ρ235 w244 gd_11 od_11) hy256) (by decide) ?_
        rintro v260 w257 ⟨_, rfl, h261, hbw258⟩
        have htr259 := Tr.of_below hbw258 hb.bd
        replace hBgiven_12 := hBgiven_12.mv (htr259.mv (i := 14) rfl)
        replace hgiven_12_4 := hgiven_12_4.mv htr259.rd
        replace hb := hb.trans htr259
        replace hj250 := (hj250.trans htr259).weak (J' := (fun _ => false)) (by intro t h; simp [rng] at h ⊢ <;> omega) rfl rfl
        refine sr_evg (b := true) (e := 154) rfl rfl hg247 (v := .int .i64 (y255.length : Int)) (ev_sllen Try.underlying23 rfl h261.asSl) (by decide) ?_
        refine sr_evg (b := true) (e := 154) rfl rfl hg247 (v := .bool (decide ((y255.length : Int) > 0))) (ev_gt rfl rfl) (by decide) ?_
        refine sr_evg (b := true) (e := 154) rfl rfl hg247 (v := .bool is_13) (ev_move rfl) (by decide) ?_
        refine sr_evg (b := true) (e := 154) rfl rfl hg247 (v := .bool is_13) (ev_move rfl) (by decide) ?_
        refine sr_join (m := 6) (C := fun (x : Bool) w1 => x = (is_13 && (decide ((gmax 0 (gmin now_4 1099511627776)) ≥ given_12_5))) ∧ w257 = w1) (l' := fun x => [(12, .pointer (some ⟨ggiven_12, 0, none⟩)), (17, .int .i64 (gmax 0 (gmin now_4 1099511627776))), (154, .bool ((y242 == 0) == z231)), (161, .bool (decide ((y255.length : Int) > 0))), (169, .bool x)]) ?_ ?_
        ·rintro _ _ ⟨rfl, rfl⟩
         refine sr_evg (b := true) (e := 154) rfl rfl hg247 (v := .bool (is_13 && (decide ((gmax 0 (gmin now_4 1099511627776)) ≥ given_12_5)))) (ev_move rfl) (by decide) ?_
         refine sr_join (m := 6) (C := fun (x : Bool) w1 => x = ((is_13 && (decide ((gmax 0 (gmin now_4 1099511627776)) ≥ given_12_5))) && (decide ((gmax 0 (gmin now_4 1099511627776)) < given_12_6))) ∧ w257 = w1) (l' := fun x => [(154, .bool ((y242 == 0) == z231)), (161, .bool (decide ((y255.length : Int) > 0))), (176, .bool x)]) ?_ ?_
         ·rintro _ _ ⟨rfl, rfl⟩
          refine sr_evg (b := true) (e := 154) rfl rfl hg247 (v := .bool ((decide ((y255.length : Int) > 0)) == ((is_13 && (decide ((gmax 0 (gmin now_4 1099511627776)) ≥ given_12_5))) && (decide ((gmax 0 (gmin now_4 1099511627776)) < given_12_6))))) (ev_beq Try.underlying4 rfl rfl) (by decide) ?_
          refine sr_ev (v := .bool ((decide ((y255.length : Int) > 0)) == ((is_13 && (decide ((gmax 0 (gmin now_4 1099511627776)) ≥ given_12_5))) && (decide ((gmax 0 (gmin now_4 1099511627776)) < given_12_6))))) (ev_pick_t rfl hg247 rfl) (by decide) ?_
          exact sr_weaken (l' := [(178, .bool ((decide ((y255.length : Int) > 0)) == ((is_13 && (decide ((gmax 0 (gmin now_4 1099511627776)) ≥ given_12_5))) && (decide ((gmax 0 (gmin now_4 1099511627776)) < given_12_6)))))]) (.cons rfl (.nil _)) (K248 ((decide ((y255.length : Int) > 0)) == ((is_13 && (decide ((gmax 0 (gmin now_4 1099511627776)) ≥ given_12_5))) && (decide ((gmax 0 (gmin now_4 1099511627776)) < given_12_6)))) _ ⟨(Option.some.inj hS).symm, _, hj250⟩)
         ·intro K271
          rcases Bool.eq_false_or_eq_true (is_13 && (decide ((gmax 0 (gmin now_4 1099511627776)) ≥ given_12_5))) with hg270 | hg270
          all_goals try have hj273 : Tr ρ235 w257 (fun _ => false) ρ235 w257 := Tr.refl hb.bd
          ·refine sr_evg (b := true) (e := 170) rfl rfl hg270 (v := .int .i64 (gmax 0 (gmin now_4 1099511627776))) (ev_move rfl) (by decide) ?_
           refine sr_evg (b := true) (e := 170) rfl rfl hg270 (v := .pointer (some ⟨ggiven_12, 5, none⟩)) (ev_fieldAddr (i := 5) Try.underlying35 rfl Try.info33 rfl rfl) (by decide) ?_
           refine sr_evg (b := true) (e := 170) rfl rfl hg270 (v := .pointer (some ⟨ggiven_12, 6, none⟩)) (ev_fieldAddr (i := 1) Try.underlying33 rfl Try.info3 rfl rfl) (by decide) ?_
           refine sr_evg (b := true) (e := 170) rfl rfl hg270 (v := .int .i64 given_12_6) (ev_load Try.isAgg3 rfl (hBgiven_12.cell rfl)) (by decide) ?_
           refine sr_evg (b := true) (e := 170) rfl rfl hg270 (v := .bool (decide ((gmax 0 (gmin now_4 1099511627776)) < given_12_6))) (ev_lt rfl rfl) (by decide) ?_
           refine sr_evg (b := true) (e := 154) rfl rfl hg247 (v := .bool (decide ((gmax 0 (gmin now_4 1099511627776)) < given_12_6))) (ev_pick_t rfl hg270 rfl) (by decide) ?_
           exact sr_weaken (l' := [(154, .bool ((y242 == 0) == z231)), (161, .bool (decide ((y255.length : Int) > 0))), (176, .bool (decide ((gmax 0 (gmin now_4 1099511627776)) < given_12_6)))]) (.cons rfl (.cons rfl (.cons rfl (.nil _)))) (K271 (decide ((gmax 0 (gmin now_4 1099511627776)) < given_12_6)) _ ⟨by rw [hg270]; rfl, rfl⟩)
          ·refine sr_pass (e := 170) rfl rfl (by rw [hg270]; rfl) (by decide) ?_
           refine sr_pass (e := 170) rfl rfl (by rw [hg270]; rfl) (by decide) ?_
           refine sr_pass (e := 170) rfl rfl (by rw [hg270]; rfl) (by decide) ?_
           refine sr_pass (e := 170) rfl rfl (by rw [hg270]; rfl) (by decide) ?_
           refine sr_pass (e := 170) rfl rfl (by rw [hg270]; rfl) (by decide) ?_
           refine sr_evg (b := true) (e := 154) rfl rfl hg247 (v := .bool false) (ev_pick_f rfl hg270 rfl) (by decide) ?_
           exact sr_weaken (l' := [(154, .bool ((y242 == 0) == z231)), (161, .bool (decide ((y255.length : Int) > 0))), (176, .bool false)]) (.cons rfl (.cons rfl (.cons rfl (.nil _)))) (K271 false _ ⟨by rw [hg270]; rfl, rfl⟩)
        ·intro K263
         rcases Bool.eq_false_or_eq_true is_13 with hg262 | hg262
         all_goals try have hj265 : Tr ρ235 w257 (fun _ => false) ρ235 w257 := Tr.refl hb.bd
         ·refine sr_evg (b := true) (e := 163) rfl rfl hg262 (v := .int .i64 (gmax 0 (gmin now_4 1099511627776))) (ev_move rfl) (by decide) ?_
          refine sr_evg (b := true) (e := 163) rfl rfl hg262 (v := .pointer (some ⟨ggiven_12, 5, none⟩)) (ev_fieldAddr (i := 5) Try.underlying35 rfl Try.info33 rfl rfl) (by decide) ?_
          refine sr_evg (b := true) (e := 163) rfl rfl hg262 (v := .pointer (some ⟨ggiven_12, 5, none⟩)) (ev_fieldAddr (i := 0) Try.underlying33 rfl Try.info3 rfl rfl) (by decide) ?_
          refine sr_evg (b := true) (e := 163) rfl rfl hg262 (v := .int .i64 given_12_5) (ev_load Try.isAgg3 rfl (hBgiven_12.cell rfl)) (by decide) ?_
          refine sr_evg (b := true) (e := 163) rfl rfl hg262 (v := .bool (decide ((gmax 0 (gmin now_4 1099511627776)) ≥ given_12_5))) (ev_ge rfl rfl) (by decide) ?_
          refine sr_evg (b := true) (e := 154) rfl rfl hg247 (v := .bool (decide ((gmax 0 (gmin now_4 1099511627776)) ≥ given_12_5))) (ev_pick_t rfl hg262 rfl) (by decide) ?_
          exact sr_weaken (l' := [(12, .pointer (some ⟨ggiven_12, 0, none⟩)), (17, .int .i64 (gmax 0 (gmin now_4 1099511627776))), (154, .bool ((y242 == 0) == z231)), (161, .bool (decide ((y255.length : Int) > 0))), (169, .bool (decide ((gmax 0 (gmin now_4 1099511627776)) ≥ given_12_5)))]) (.cons rfl (.cons rfl (.cons rfl (.cons rfl (.cons rfl (.nil _)))))) (K263 (decide ((gmax 0 (gmin now_4 1099511627776)) ≥ given_12_5)) _ ⟨by rw [hg262]; rfl, rfl⟩)
         ·refine sr_pass (e := 163) rfl rfl (by rw [hg262]; rfl) (by decide) ?_
          refine sr_pass (e := 163) rfl rfl (by rw [hg262]; rfl) (by decide) ?_
          refine sr_pass (e := 163) rfl rfl (by rw [hg262]; rfl) (by decide) ?_
          refine sr_pass (e := 163) rfl rfl (by rw [hg262]; rfl) (by decide) ?_
          refine sr_pass (e := 163) rfl rfl (by rw [hg262]; rfl) (by decide) ?_
          refine sr_evg (b := true) (e := 154) rfl rfl hg247 (v := .bool false) (ev_pick_f rfl hg262 rfl) (by decide) ?_
          exact sr_weaken (l' := [(12, .pointer (some ⟨ggiven_12, 0, none⟩)), (17, .int .i64 (gmax 0 (gmin now_4 1099511627776))), (154, .bool ((y242 == 0) == z231)), (161, .bool (decide ((y255.length : Int) > 0))), (169, .bool false)]) (.cons rfl (.cons rfl (.cons rfl (.cons rfl (.cons rfl (.nil _)))))) (K263 false _ ⟨by rw [hg262]; rfl, rfl⟩)
       ·have hS := ite_false' hz251 hg247
        refine sr_pass (e := 154) rfl rfl (by rw [hg247]; rfl) (by decide) ?_
        refine sr_pass (e := 154) rfl rfl (by rw [hg247]; rfl) (by decide) ?_
        refine sr_pass (e := 154) rfl rfl (by rw [hg247]; rfl) (by decide) ?_
        refine sr_pass (e := 154) rfl rfl (by rw [hg247]; rfl) (by decide) ?_
        refine sr_pass (e := 154) rfl rfl (by rw [hg247]; rfl) (by decide) ?_
        refine sr_pass (e := 154) rfl rfl (by rw [hg247]; rfl) (by decide) ?_
        refine sr_pass (e := 154) rfl rfl (by rw [hg247]; rfl) (by decide) ?_
        refine sr_pass (e := 154) rfl rfl (by rw [hg247]; rfl) (by decide) ?_
        refine sr_pass (e := 154) rfl rfl (by rw [hg247]; rfl) (by decide) ?_
        refine sr_pass_undef (e := 163) rfl rfl (by decide) ?_
        refine sr_pass_undef (e := 163) rfl rfl (by decide) ?_
        refine sr_pass_undef (e := 163) rfl rfl (by decide) ?_
        refine sr_pass_undef (e := 163) rfl rfl (by decide) ?_
        refine sr_pass_undef (e := 163) rfl rfl (by decide) ?_
        refine sr_pass (e := 154) rfl rfl (by rw [hg247]; rfl) (by decide) ?_
        refine sr_pass (e := 154) rfl rfl (by rw [hg247]; rfl) (by decide) ?_
        refine sr_pass_undef (e := 170) rfl rfl (by decide) ?_
        refine sr_pass_undef (e := 170) rfl rfl (by decide) ?_
        refine sr_pass_undef (e := 170) rfl rfl (by decide) ?_
        refine sr_pass_undef (e := 170) rfl rfl (by decide) ?_
        refine sr_pass_undef (e := 170) rfl rfl (by decide) ?_
        refine sr_pass (e := 154) rfl rfl (by rw [hg247]; rfl) (by decide) ?_
        refine sr_pass (e := 154) rfl rfl (by rw [hg247]; rfl) (by decide) ?_
        refine sr_ev (v := .bool false) (ev_pick_f rfl hg247 rfl) (by decide) ?_
        exact sr_weaken (l' := [(178, .bool false)]) (.cons rfl (.nil _)) (K248 false _ ⟨(Option.some.inj hS).symm, _, hj250⟩)
     ·intro K230
      clear hS
      have hj232 : Tr ρ w (fun _ => false) ρ w := (Tr.refl hb.bd).weak (fun _ _ => rfl) rfl rfl
      rcases Bool.eq_false_or_eq_true ((is_13 && (decide ((gmax 0 (gmin now_4 1099511627776)) ≥ given_12_5))) && (decide ((gmax 0 (gmin now_4 1099511627776)) < given_12_6))) with hg229 | hg229
      ·have hS := ite_true' hz233 hg229
       refine sr_evg (b := true) (e := 139) rfl rfl hg229 (v := vscopes_3) (ev_move rfl) (by decide) ?_
       refine sr_evg (b := true) (e := 139) rfl rfl hg229 (v := .pointer (some ⟨ggiven_12, 4, none⟩)) (ev_fieldAddr (i := 4) Try.underlying35 rfl Try.info23 rfl rfl) (by decide) ?_
       refine sr_evg (b := true) (e := 139) rfl rfl hg229 (v := vgiven_12_4) (ev_load Try.isAgg23 rfl (hBgiven_12.cell rfl)) (by decide) ?_
       obtain ⟨y237, hy238, hS⟩ := bind_some' hS
       refine sr_callg (b := true) (e := 139) rfl rfl hg229 (vs := [vscopes_3, vgiven_12_4]) rfl Try.call25 rfl (scope_Within_ok _ (hg.fr hz hb) hscopes_3.asSl hgiven_12_4.asSl hy238) (by decide) ?_
       rintro _ w239 ⟨rfl, hbw240⟩
       have htr241 := Tr.of_below hbw240 hb.bd
       replace hscopes_3 := hscopes_3.mv htr241.rd
       replace hB62 := hB62.mv (htr241.mv (i := 100) rfl)
       replace h61 := h61.mv (htr241.mv (i := 101) rfl)
       replace hBgiven_12 := hBgiven_12.mv (htr241.mv (i := 14) rfl)
       replace hgiven_12_4 := hgiven_12_4.mv htr241.rd
       replace hb := hb.trans htr241
       replace hj232 := (hj232.trans htr241).weak (J' := (fun _ => false)) (by intro t h; simp [rng] at h ⊢ <;> omega) rfl rfl
       refine sr_ev (v := .bool y237) (ev_pick_t rfl hg229 rfl) (by decide) ?_
       exact sr_weaken (l' := [(1, str from_1), (2, str to_2), (3, vscopes_3), (4, .int .i64 now_4), (11, .pointer (some ⟨gd_11, 0, none⟩)), (12, .pointer (some ⟨ggiven_12, 0, none⟩)), (13, .bool is_13), (17, .int .i64 (gmax 0 (gmin now_4 1099511627776))), (144, .bool y237)]) (.cons rfl (.cons rfl (.cons rfl (.cons rfl (.cons rfl (.cons rfl (.cons rfl (.cons rfl (.cons rfl (.nil _)))))))))) (K230 y237 _ ⟨(Option.some.inj hS).symm, _, hj232⟩)
      ·have hS := ite_false' hz233 hg229
       refine sr_pass (e := 139) rfl rfl (by rw [hg229]; rfl) (by decide) ?_
       refine sr_pass (e := 139) rfl rfl (by rw [hg229]; rfl) (by decide) ?_
       refine sr_pass (e := 139) rfl rfl (by rw [hg229]; rfl) (by decide) ?_
       refine sr_pass (e := 139) rfl rfl (by rw [hg229]; rfl) (by decide) ?_
       refine sr_ev (v := .bool false) (ev_pick_f rfl hg229 rfl) (by decide) ?_
       exact sr_weaken (l' := [(1, str from_1), (2, str to_2), (3, vscopes_3), (4, .int .i64 now_4), (11, .pointer (some ⟨gd_11, 0, none⟩)), (12, .pointer (some ⟨ggiven_12, 0, none⟩)), (13, .bool is_13), (17, .int .i64 (gmax 0 (gmin now_4 1099511627776))), (144, .bool false)]) (.cons rfl (.cons rfl (.cons rfl (.cons rfl (.cons rfl (.cons rfl (.cons rfl (.cons rfl (.cons rfl (.nil _)))))))))) (K230 false _ ⟨(Option.some.inj hS).symm, _, hj232⟩)
    ·intro K222
     rcases Bool.eq_false_or_eq_true (is_13 && (decide ((gmax 0 (gmin now_4 1099511627776)) ≥ given_12_5))) with hg221 | hg221
     all_goals try have hj224 : Tr ρ w (fun _ => false) ρ w := Tr.refl hb.bd
     ·refine sr_evg (b := true) (e := 132) rfl rfl hg221 (v := .int .i64 (gmax 0 (gmin now_4 1099511627776))) (ev_move rfl) (by decide) ?_
      refine sr_evg (b := true) (e := 132) rfl rfl hg221 (v := .pointer (some ⟨ggiven_12, 5, none⟩)) (ev_fieldAddr (i := 5) Try.underlying35 rfl Try.info33 rfl rfl) (by decide) ?_
      refine sr_evg (b := true) (e := 132) rfl rfl hg221 (v := .pointer (some ⟨ggiven_12, 6, none⟩)) (ev_fieldAddr (i := 1) Try.underlying33 rfl Try.info3 rfl rfl) (by decide) ?_
      refine sr_evg (b := true) (e := 132) rfl rfl hg221 (v := .int .i64 given_12_6) (ev_load Try.isAgg3 rfl (hBgiven_12.cell rfl)) (by decide) ?_
      refine sr_evg (b := true) (e := 132) rfl rfl hg221 (v := .bool (decide ((gmax 0 (gmin now_4 1099511627776)) < given_12_6))) (ev_lt rfl rfl) (by decide) ?_
      refine sr_ev (v := .bool (decide ((gmax 0 (gmin now_4 1099511627776)) < given_12_6))) (ev_pick_t rfl hg221 rfl) (by decide) ?_
      exact sr_weaken (l' := [(1, str from_1), (2, str to_2), (3, vscopes_3), (4, .int .i64 now_4), (11, .pointer (some ⟨gd_11, 0, none⟩)), (12, .pointer (some ⟨ggiven_12, 0, none⟩)), (13, .bool is_13), (17, .int .i64 (gmax 0 (gmin now_4 1099511627776))), (138, .bool (decide ((gmax 0 (gmin now_4 1099511627776)) < given_12_6)))]) (.cons rfl (.cons rfl (.cons rfl (.cons rfl (.cons rfl (.cons rfl (.cons rfl (.cons rfl (.cons rfl (.nil _)))))))))) (K222 (decide ((gmax 0 (gmin now_4 1099511627776)) < given_12_6)) _ ⟨by rw [hg221]; rfl, rfl⟩)
     ·refine sr_pass (e := 132) rfl rfl (by rw [hg221]; rfl) (by decide) ?_
      refine sr_pass (e := 132) rfl rfl (by rw [hg221]; rfl) (by decide) ?_
      refine sr_pass (e := 132) rfl rfl (by rw [hg221]; rfl) (by decide) ?_
      refine sr_pass (e := 132) rfl rfl (by rw [hg221]; rfl) (by decide) ?_
      refine sr_pass (e := 132) rfl rfl (by rw [hg221]; rfl) (by decide) ?_
      refine sr_ev (v := .bool false) (ev_pick_f rfl hg221 rfl) (by decide) ?_
      exact sr_weaken (l' := [(1, str from_1), (2, str to_2), (3, vscopes_3), (4, .int .i64 now_4), (11, .pointer (some ⟨gd_11, 0, none⟩)), (12, .pointer (some ⟨ggiven_12, 0, none⟩)), (13, .bool is_13), (17, .int .i64 (gmax 0 (gmin now_4 1099511627776))), (138, .bool false)]) (.cons rfl (.cons rfl (.cons rfl (.cons rfl (.cons rfl (.cons rfl (.cons rfl (.cons rfl (.cons rfl (.nil _)))))))))) (K222 false _ ⟨by rw [hg221]; rfl, rfl⟩)
   ·intro K214
    rcases Bool.eq_false_or_eq_true is_13 with hg213 | hg213
    all_goals try have hj216 : Tr ρ w (fun _ => false) ρ w := Tr.refl hb.bd
    ·refine sr_evg (b := true) (e := 125) rfl rfl hg213 (v := .int .i64 (gmax 0 (gmin now_4 1099511627776))) (ev_move rfl) (by decide) ?_
     refine sr_evg (b := true) (e := 125) rfl rfl hg213 (v := .pointer (some ⟨ggiven_12, 5, none⟩)) (ev_fieldAddr (i := 5) Try.underlying35 rfl Try.info33 rfl rfl) (by decide) ?_
     refine sr_evg (b := true) (e := 125) rfl rfl hg213 (v := .pointer (some ⟨ggiven_12, 5, none⟩)) (ev_fieldAddr (i := 0) Try.underlying33 rfl Try.info3 rfl rfl) (by decide) ?_
     refine sr_evg (b := true) (e := 125) rfl rfl hg213 (v := .int .i64 given_12_5) (ev_load Try.isAgg3 rfl (hBgiven_12.cell rfl)) (by decide) ?_
     refine sr_evg (b := true) (e := 125) rfl rfl hg213 (v := .bool (decide ((gmax 0 (gmin now_4 1099511627776)) ≥ given_12_5))) (ev_ge rfl rfl) (by decide) ?_
     refine sr_ev (v := .bool (decide ((gmax 0 (gmin now_4 1099511627776)) ≥ given_12_5))) (ev_pick_t rfl hg213 rfl) (by decide) ?_
     exact sr_weaken (l' := [(1, str from_1), (2, str to_2), (3, vscopes_3), (4, .int .i64 now_4), (11, .pointer (some ⟨gd_11, 0, none⟩)), (12, .pointer (some ⟨ggiven_12, 0, none⟩)), (13, .bool is_13), (17, .int .i64 (gmax 0 (gmin now_4 1099511627776))), (131, .bool (decide ((gmax 0 (gmin now_4 1099511627776)) ≥ given_12_5)))]) (.cons rfl (.cons rfl (.cons rfl (.cons rfl (.cons rfl (.cons rfl (.cons rfl (.cons rfl (.cons rfl (.nil _)))))))))) (K214 (decide ((gmax 0 (gmin now_4 1099511627776)) ≥ given_12_5)) _ ⟨by rw [hg213]; rfl, rfl⟩)
    ·refine sr_pass (e := 125) rfl rfl (by rw [hg213]; rfl) (by decide) ?_
     refine sr_pass (e := 125) rfl rfl (by rw [hg213]; rfl) (by decide) ?_
     refine sr_pass (e := 125) rfl rfl (by rw [hg213]; rfl) (by decide) ?_
     refine sr_pass (e := 125) rfl rfl (by rw [hg213]; rfl) (by decide) ?_
     refine sr_pass (e := 125) rfl rfl (by rw [hg213]; rfl) (by decide) ?_
     refine sr_ev (v := .bool false) (ev_pick_f rfl hg213 rfl) (by decide) ?_
     exact sr_weaken (l' := [(1, str from_1), (2, str to_2), (3, vscopes_3), (4, .int .i64 now_4), (11, .pointer (some ⟨gd_11, 0, none⟩)), (12, .pointer (some ⟨ggiven_12, 0, none⟩)), (13, .bool is_13), (17, .int .i64 (gmax 0 (gmin now_4 1099511627776))), (131, .bool false)]) (.cons rfl (.cons rfl (.cons rfl (.cons rfl (.cons rfl (.cons rfl (.cons rfl (.cons rfl (.cons rfl (.nil _)))))))))) (K214 false _ ⟨by rw [hg213]; rfl, rfl⟩)
theorem law35_DelegateOnly_ok (w0 : World) (hg : Gs w0) {ρA : Tags} (hbd : ∀ b, ρA b ≠ 0 → b < w0.heap.size) (hz : Gz ρA) {l_0 : List law35_Op} {from_1 : Str} {to_2 : Str} {scopes_3 : List Str} {now_4 : Int} {v1 : Value} {v3 : Value} {r : Bool} (h2 : SlR law35_Op.c (Wb ρA) w0 v1 l_0) (h4 : SlR strC (Wb ρA) w0 v3 scopes_3) (hS : law35_DelegateOnly l_0 from_1 to_2 scopes_3 now_4 = some r) :
  Calls Try.prog 5 #[v1, str from_1, str to_2, v3, .int .i64 now_4] w0 (Ret (fun v w' => v = .bool r ∧ Below w0.heap.size w0 w')) := by
 unfold law35_DelegateOnly at hS
 have hb := flat1_fr (ρ := ρA) (w := w0) hbd
 have hz := hz.flat1
 replace h2 := SlR.mv h2 flat1_rd
 replace h4 := SlR.mv h4 flat1_rd
 refine calls_of_ke Try.func5 rfl (n := 182) rfl rfl (l := [(0, v1), (1, str from_1), (2, str to_2), (3, v3), (4, .int .i64 now_4)]) rfl ?_
 refine ke_seq ?_
 refine ke_region ?_
 refine sr_ev (v := .bool false) (ev_assign rfl) (by decide) ?_
 refine sr_end (l' := [(0, v1), (1, str from_1), (2, str to_2), (3, v3), (4, .int .i64 now_4)]) (.cons rfl (.cons rfl (.cons rfl (.cons rfl (.cons rfl (.nil _)))))) ?_
 refine ke_seq ?_
 refine ke_seq ?_
 refine ke_region ?_
 refine sr_ev (v := v1) (ev_move rfl) (by decide) ?_
 obtain ⟨y5, hy6, hS⟩ := bind_some' hS
 refine sr_call (vs := [v1]) rfl Try.call8 rfl (law35_light_ok _ (hg.fr hz hb) h2.asSl hy6) (by decide) ?_
 rintro _ w7 ⟨rfl, hbw8⟩
 have htr9 := Tr.of_below hbw8 hb.bd
 replace h2 := h2.mv htr9.rd
 replace h4 := h4.mv htr9.rd
 replace hb := hb.trans htr9
 refine sr_ev (v := .bool (!y5)) (ev_not rfl) (by decide) ?_
 refine sr_ev (v := .bool (!y5)) (ev_move rfl) (by decide) ?_
 obtain ⟨z12, hz14, hS⟩ := bind_some' hS
 refine sr_join (m := 4) (C := fun (z : Bool) w1 => z12 = z ∧ ∃ ρ1, Tr (flat1 ρA) w7 (fun _ => false) ρ1 w1) (l' := fun z => [(0, v1), (1, str from_1), (2, str to_2), (3, v3), (4, .int .i64 now_4), (26, .bool z)]) ?_ ?_
 ·rintro _ w15 ⟨rfl, ρ16, hj13⟩
  replace h2 := h2.mv hj13.rd
  replace h4 := h4.mv hj13.rd
  replace hb := hb.trans hj13
  refine sr_ev (v := .bool z12) (ev_move rfl) (by decide) ?_
  refine sr_join (m := 4) (C := fun (x : Bool) w1 => x = (z12 || (decide ((from_1.length : Int) > 200))) ∧ w15 = w1) (l' := fun x => [(0, v1), (1, str from_1), (2, str to_2), (3, v3), (4, .int .i64 now_4), (31, .bool x)]) ?_ ?_
  ·rintro _ _ ⟨rfl, rfl⟩
   refine sr_ev (v := .bool (z12 || (decide ((from_1.length : Int) > 200)))) (ev_move rfl) (by decide) ?_
   refine sr_join (m := 4) (C := fun (x : Bool) w1 => x = ((z12 || (decide ((from_1.length : Int) > 200))) || (decide ((to_2.length : Int) > 200))) ∧ w15 = w1) (l' := fun x => [(0, v1), (1, str from_1), (2, str to_2), (3, v3), (4, .int .i64 now_4), (36, .bool x)]) ?_ ?_
   ·rintro _ _ ⟨rfl, rfl⟩
    refine sr_end (l' := [(0, v1), (1, str from_1), (2, str to_2), (3, v3), (4, .int .i64 now_4), (36, .bool ((z12 || (decide ((from_1.length : Int) > 200))) || (decide ((to_2.length : Int) > 200))))]) (.cons rfl (.cons rfl (.cons rfl (.cons rfl (.cons rfl (.cons rfl (.nil _))))))) ?_
    refine ke_cond (t := (z12 || (decide ((from_1.length : Int) > 200))) || (decide ((to_2.length : Int) > 200))) rfl (fun hc39 => ?_) (fun hc39 => ?_)
    ·replace hS := ite_true' hS hc39
     refine ke_seq ?_
     refine ke_region ?_
     obtain ⟨y40, hy41, hS⟩ := bind_some' hS
     refine sr_call (vs := []) rfl Try.call10 rfl (law35_awake_ok _ (hg.fr hz hb) (ρA := ρ16) hb.bd (hz.fr hg hb) hy41) (by decide) ?_
     rintro _ w42 ⟨rfl, hbw43⟩
     have htr44 := Tr.of_below hbw43 hb.bd
     replace hb := hb.trans htr44
     refine sr_ev (v := .bool y40) (ev_assign rfl) (by decide) ?_
     refine sr_end (l' := [(10, .bool y40)]) (.cons rfl (.nil _)) ?_
     cases hS
     exact ke_ret1 Try.func5 rfl rfl ⟨_, rfl, rfl, (hb.below (flat1_le _))⟩
    ·replace hS := ite_false' hS hc39
     refine ke_skip ?_
     refine ke_seq ?_
     refine ke_region ?_
     obtain ⟨y45, hy46, hS⟩ := bind_some' hS
     refine sr_call (vs := []) rfl Try.call11 rfl (delegate_New_ok _ (hg.fr hz hb) (ρA := ρ16) hb.bd (hz.fr hg hb) (o := 100) (by decide) hy46) (by decide) ?_
     rintro _ w47 ⟨ρ54, g50, rfl, ⟨v51, hB53, h52⟩, htr49⟩
     replace h2 := h2.mv htr49.rd
     replace h4 := h4.mv htr49.rd
     replace hb := hb.trans htr49
     replace hB53 : Blk ρ54 100 w47 g50 (.cells #[v51] 54 (0, 0)) := hB53
     replace h52 : MapT delegate_way.ek delegate_delegation.c true ρ54 101 w47 v51 y45.ways := h52
     refine sr_ev (v := .pointer (some ⟨g50, 0, none⟩)) (ev_assign rfl) (by decide) ?_
     refine sr_end (l' := [(0, v1), (1, str from_1), (2, str to_2), (3, v3), (4, .int .i64 now_4), (11, .pointer (some ⟨g50, 0, none⟩))]) (.cons rfl (.cons rfl (.cons rfl (.cons rfl (.cons rfl (.cons rfl (.nil _))))))) ?_
     refine ke_seq ?_
     refine ke_seq ?_
     refine ke_region ?_
     refine sr_ev (v := .pointer (some ⟨g50, 0, none⟩)) (ev_move rfl) (by decide) ?_
     refine sr_ev (v := .bool false) (ev_peqT_some Try.underlying27 rfl rfl) (by decide) ?_
     refine sr_end (l' := [(0, v1), (1, str from_1), (2, str to_2), (3, v3), (4, .int .i64 now_4), (11, .pointer (some ⟨g50, 0, none⟩)), (40, .bool false)]) (.cons rfl (.cons rfl (.cons rfl (.cons rfl (.cons rfl (.cons rfl (.cons rfl (.nil _)))))))) ?_
     refine ke_cond (t := false) rfl (fun h => by cases h) (fun _ => ?_)
     refine ke_skip ?_
     refine ke_seq ?_
     refine ke_region ?_
     refine sr_allocT 14 (by decide) hb.bd Try.zeroValue35 (by decide) ?_
     intro g55 ρ56 w57 hB59 htr58
     replace h2 := h2.mv htr58.rd
     replace h4 := h4.mv htr58.rd
     replace hB53 := hB53.mv (htr58.mv (i := 100) rfl)
     replace h52 := h52.mv (htr58.mv (i := 101) rfl)
     replace hb := hb.trans htr58
     replace hB59 : Blk ρ56 14 w57 g55 (.cells #[.int .i64 0, .int .i64 0, str ([]), str ([]), (.slice none 0 0), .int .i64 0, .int .i64 0] 35 (0, 0)) := hB59
     refine sr_end (l' := [(0, v1), (1, str from_1), (2, str to_2), (3, v3), (4, .int .i64 now_4), (11, .pointer (some ⟨g50, 0, none⟩)), (12, .pointer (some ⟨g55, 0, none⟩))]) (.cons rfl (.cons rfl (.cons rfl (.cons rfl (.cons rfl (.cons rfl (.cons rfl (.nil _)))))))) ?_
     refine ke_seq ?_
     refine ke_region ?_
     refine sr_ev (v := .bool false) (ev_assign rfl) (by decide) ?_
     refine sr_end (l' := [(0, v1), (1, str from_1), (2, str to_2), (3, v3), (4, .int .i64 now_4), (11, .pointer (some ⟨g50, 0, none⟩)), (12, .pointer (some ⟨g55, 0, none⟩)), (13, .bool false)]) (.cons rfl (.cons rfl (.cons rfl (.cons rfl (.cons rfl (.cons rfl (.cons rfl (.cons rfl (.nil _))))))))) ?_
     refine ke_seq ?_
     refine ke_seq ?_
     refine ke_region ?_
     refine sr_ev (v := .int .i64 0) (ev_assign rfl) (by decide) ?_
     refine sr_end (l' := [(0, v1), (1, str from_1), (2, str to_2), (3, v3), (4, .int .i64 now_4), (11, .pointer (some ⟨g50, 0, none⟩)), (12, .pointer (some ⟨g55, 0, none⟩)), (13, .bool false), (14, .int .i64 0)]) (.cons rfl (.cons rfl (.cons rfl (.cons rfl (.cons rfl (.cons rfl (.cons rfl (.cons rfl (.cons rfl (.nil _)))))))))) ?_
     refine ke_block ?_
     have hK := law35_DelegateOnly_L1_ok hg hbd hz _ hS hb h2 h4 ⟨_, hB53, h52⟩ SlR.nil hB59
     exact ke_weaken (l' := [(0, v1), (1, str from_1), (2, str to_2), (3, v3), (4, .int .i64 now_4), (11, .pointer (some ⟨g50, 0, none⟩)), (12, .pointer (some ⟨g55, 0, none⟩)), (13, .bool false), (14, .int .i64 0)]) (.cons rfl (.cons rfl (.cons rfl (.cons rfl (.cons rfl (.cons rfl (.cons rfl (.cons rfl (.cons rfl (.nil _)))))))))) (ke_loop hK)
   ·intro K32
    rcases Bool.eq_false_or_eq_true (z12 || (decide ((from_1.length : Int) > 200))) with hg31 | hg31
    all_goals try have hj34 : Tr ρ16 w15 (fun _ => false) ρ16 w15 := Tr.refl hb.bd
    ·refine sr_pass (e := 32) rfl rfl (by rw [hg31]; rfl) (by decide) ?_
     refine sr_pass (e := 32) rfl rfl (by rw [hg31]; rfl) (by decide) ?_
     refine sr_pass (e := 32) rfl rfl (by rw [hg31]; rfl) (by decide) ?_
     refine sr_ev (v := .bool true) (ev_pick_t rfl hg31 rfl) (by decide) ?_
     exact sr_weaken (l' := [(0, v1), (1, str from_1), (2, str to_2), (3, v3), (4, .int .i64 now_4), (36, .bool true)]) (.cons rfl (.cons rfl (.cons rfl (.cons rfl (.cons rfl (.cons rfl (.nil _))))))) (K32 true _ ⟨by rw [hg31]; rfl, rfl⟩)
    ·refine sr_evg (b := false) (e := 32) rfl rfl hg31 (v := str to_2) (ev_move rfl) (by decide) ?_
     refine sr_evg (b := false) (e := 32) rfl rfl hg31 (v := .int .i64 (to_2.length : Int)) (ev_slen Try.underlying9 rfl) (by decide) ?_
     refine sr_evg (b := false) (e := 32) rfl rfl hg31 (v := .bool (decide ((to_2.length : Int) > 200))) (ev_gt rfl rfl) (by decide) ?_
     refine sr_ev (v := .bool (decide ((to_2.length : Int) > 200))) (ev_pick_f rfl hg31 rfl) (by decide) ?_
     exact sr_weaken (l' := [(0, v1), (1, str from_1), (2, str to_2), (3, v3), (4, .int .i64 now_4), (36, .bool (decide ((to_2.length : Int) > 200)))]) (.cons rfl (.cons rfl (.cons rfl (.cons rfl (.cons rfl (.cons rfl (.nil _))))))) (K32 (decide ((to_2.length : Int) > 200)) _ ⟨by rw [hg31]; rfl, rfl⟩)
  ·intro K24
   rcases Bool.eq_false_or_eq_true z12 with hg23 | hg23
   all_goals try have hj26 : Tr ρ16 w15 (fun _ => false) ρ16 w15 := Tr.refl hb.bd
   ·refine sr_pass (e := 27) rfl rfl (by rw [hg23]; rfl) (by decide) ?_
    refine sr_pass (e := 27) rfl rfl (by rw [hg23]; rfl) (by decide) ?_
    refine sr_pass (e := 27) rfl rfl (by rw [hg23]; rfl) (by decide) ?_
    refine sr_ev (v := .bool true) (ev_pick_t rfl hg23 rfl) (by decide) ?_
    exact sr_weaken (l' := [(0, v1), (1, str from_1), (2, str to_2), (3, v3), (4, .int .i64 now_4), (31, .bool true)]) (.cons rfl (.cons rfl (.cons rfl (.cons rfl (.cons rfl (.cons rfl (.nil _))))))) (K24 true _ ⟨by rw [hg23]; rfl, rfl⟩)
   ·refine sr_evg (b := false) (e := 27) rfl rfl hg23 (v := str from_1) (ev_move rfl) (by decide) ?_
    refine sr_evg (b := false) (e := 27) rfl rfl hg23 (v := .int .i64 (from_1.length : Int)) (ev_slen Try.underlying9 rfl) (by decide) ?_
    refine sr_evg (b := false) (e := 27) rfl rfl hg23 (v := .bool (decide ((from_1.length : Int) > 200))) (ev_gt rfl rfl) (by decide) ?_
    refine sr_ev (v := .bool (decide ((from_1.length : Int) > 200))) (ev_pick_f rfl hg23 rfl) (by decide) ?_
    exact sr_weaken (l' := [(0, v1), (1, str from_1), (2, str to_2), (3, v3), (4, .int .i64 now_4), (31, .bool (decide ((from_1.length : Int) > 200)))]) (.cons rfl (.cons rfl (.cons rfl (.cons rfl (.cons rfl (.cons rfl (.nil _))))))) (K24 (decide ((from_1.length : Int) > 200)) _ ⟨by rw [hg23]; rfl, rfl⟩)
 ·intro K11
  clear hS
  have hj13 : Tr (flat1 ρA) w7 (fun _ => false) (flat1 ρA) w7 := (Tr.refl hb.bd).weak (fun _ _ => rfl) rfl rfl
  rcases Bool.eq_false_or_eq_true (!y5) with hg10 | hg10
  ·have hS := ite_true' hz14 hg10
   refine sr_pass (e := 22) rfl rfl (by rw [hg10]; rfl) (by decide) ?_
   refine sr_pass (e := 22) rfl rfl (by rw [hg10]; rfl) (by decide) ?_
   refine sr_pass (e := 22) rfl rfl (by rw [hg10]; rfl) (by decide) ?_
   refine sr_ev (v := .bool true) (ev_pick_t rfl hg10 rfl) (by decide) ?_
   exact sr_weaken (l' := [(0, v1), (1, str from_1), (2, str to_2), (3, v3), (4, .int .i64 now_4), (26, .bool true)]) (.cons rfl (.cons rfl (.cons rfl (.cons rfl (.cons rfl (.cons rfl (.nil _))))))) (K11 true _ ⟨(Option.some.inj hS).symm, _, hj13⟩)
  ·have hS := ite_false' hz14 hg10
   refine sr_evg (b := false) (e := 22) rfl rfl hg10 (v := v3) (ev_move rfl) (by decide) ?_
   obtain ⟨y18, hy19, hS⟩ := bind_some' hS
   refine sr_callg (b := false) (e := 22) rfl rfl hg10 (vs := [v3]) rfl Try.call9 rfl (law35_few_ok _ (hg.fr hz hb) h4.asSl hy19) (by decide) ?_
   rintro _ w20 ⟨rfl, hbw21⟩
   have htr22 := Tr.of_below hbw21 hb.bd
   replace h2 := h2.mv htr22.rd
   replace h4 := h4.mv htr22.rd
   replace hb := hb.trans htr22
   replace hj13 := (hj13.trans htr22).weak (J' := (fun _ => false)) (by intro t h; simp [rng] at h ⊢ <;> omega) rfl rfl
   refine sr_evg (b := false) (e := 22) rfl rfl hg10 (v := .bool (!y18)) (ev_not rfl) (by decide) ?_
   refine sr_ev (v := .bool (!y18)) (ev_pick_f rfl hg10 rfl) (by decide) ?_
   exact sr_weaken (l' := [(0, v1), (1, str from_1), (2, str to_2), (3, v3), (4, .int .i64 now_4), (26, .bool (!y18))]) (.cons rfl (.cons rfl (.cons rfl (.cons rfl (.cons rfl (.cons rfl (.nil _))))))) (K11 (!y18) _ ⟨(Option.some.inj hS).symm, _, hj13⟩)
end Ytibmfjehbmdbkaa
end Go.Proofs
