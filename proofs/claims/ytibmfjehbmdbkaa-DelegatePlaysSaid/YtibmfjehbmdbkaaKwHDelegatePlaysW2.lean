/- Own work: a part of the proofs of this seat. -/
import Derived.Test.YtibmfjehbmdbkaaProg
import Derived.Test.YtibmfjehbmdbkaaShelf
import Derived.Test.YtibmfjehbmdbkaaIter
import Derived.Test.YtibmfjehbmdbkaaKwHS
import Derived.KernelRfl
import Derived.Test.YtibmfjehbmdbkaaKwHDelegatePlaysW1
set_option linter.unusedVariables false
set_option linter.unusedSimpArgs false
set_option linter.unusedSectionVars false
set_option maxHeartbeats 8000000
set_option maxRecDepth 8000
namespace Go.Proofs
namespace Ytibmfjehbmdbkaa
open Go Go.KW Go.KW.S Go.RowKit
theorem delegate_Delegations_Scopes_ok (w0 : World) (hg : Gs w0) {ρA : Tags} (hbd : ∀ b, ρA b ≠ 0 → b < w0.heap.size) (hz : Gz ρA) {τ0 : Nat → Nat} (hτ0 : ∀ p, 1 ≤ τ0 p) {d_0 : delegate_Delegations} {from_1 : Str} {to_2 : Str} {now_3 : Int} {gd_0 : Nat} {r : List Str} (ho0 : delegate_Delegations.O τ0 ρA w0 gd_0 d_0) (hS : delegate_Delegations_Scopes d_0 from_1 to_2 now_3 = some r) :
  Calls Try.prog 16 #[.pointer (some ⟨gd_0, 0, none⟩), str from_1, str to_2, .int .i64 now_3] w0 (Ret (fun v w' => ∃ x1, v = x1 ∧ SlR strC (Wb ρA) w' x1 r ∧ Below w0.heap.size w0 w')) := by
 unfold delegate_Delegations_Scopes at hS
 have hb := flat1_fr (ρ := ρA) (w := w0) hbd
 have hz := hz.flat1
 obtain ⟨v1, hB3, h2⟩ := ho0
 replace hB3 := hB3.mv (flat1_mv (hτ0 0))
 replace h2 := h2.mv (flat1_mv (hτ0 1))
 replace hB3 : Blk (flat1 ρA) 1 w0 gd_0 (.cells #[v1] 54 (0, 0)) := hB3
 replace h2 : MapT delegate_way.ek delegate_delegation.c true (flat1 ρA) 1 w0 v1 d_0.ways := h2
 refine calls_of_ke Try.func16 rfl (n := 25) rfl rfl (l := [(0, .pointer (some ⟨gd_0, 0, none⟩)), (1, str from_1), (2, str to_2), (3, .int .i64 now_3)]) rfl ?_
 refine ke_seq ?_
 refine ke_region ?_
 refine sr_ev (v := .slice none 0 0) (ev_assign rfl) (by decide) ?_
 refine sr_end (l' := [(0, .pointer (some ⟨gd_0, 0, none⟩)), (1, str from_1), (2, str to_2), (3, .int .i64 now_3)]) (.cons rfl (.cons rfl (.cons rfl (.cons rfl (.nil _))))) ?_
 refine ke_seq ?_
 refine ke_seq ?_
 refine ke_region ?_
 refine sr_ev (v := .pointer (some ⟨gd_0, 0, none⟩)) (ev_move rfl) (by decide) ?_
 refine sr_ev (v := str from_1) (ev_move rfl) (by decide) ?_
 refine sr_ev (v := str to_2) (ev_move rfl) (by decide) ?_
 refine sr_ev (v := .int .i64 now_3) (ev_move rfl) (by decide) ?_
 obtain ⟨y6, hy7, hS⟩ := bind_some' hS
 refine sr_call (vs := [.pointer (some ⟨gd_0, 0, none⟩), str from_1, str to_2, (.slice none 0 0), .int .i64 now_3]) rfl Try.call26 rfl (delegate_Delegations_May_ok _ (hg.fr hz hb) (ρA := (flat1 ρA)) hb.bd (hz.fr hg hb) (τ0 := (fun _ => 1)) (fun _ => Nat.le_refl 1) (SlR.nil (A := Wb (flat1 ρA))) (⟨_, hB3, h2⟩ : delegate_Delegations.O (fun _ => 1) (flat1 ρA) w0 gd_0 d_0) hy7) (by decide) ?_
 rintro _ w8 ⟨rfl, hbw9⟩
 have htr10 := Tr.of_below hbw9 hb.bd
 replace hB3 := hB3.mv (htr10.mv (i := 1) rfl)
 replace h2 := h2.mv (htr10.mv (i := 1) rfl)
 replace hb := hb.trans htr10
 refine sr_ev (v := .bool (y6 != 0)) (ev_ne rfl rfl) (by decide) ?_
 refine sr_end (l' := [(0, .pointer (some ⟨gd_0, 0, none⟩)), (1, str from_1), (2, str to_2), (14, .bool (y6 != 0))]) (.cons rfl (.cons rfl (.cons rfl (.cons rfl (.nil _))))) ?_
 refine ke_cond (t := y6 != 0) rfl (fun hc11 => ?_) (fun hc11 => ?_)
 ·replace hS := ite_true' hS hc11
  refine ke_seq ?_
  refine ke_region ?_
  refine sr_ev (v := .slice none 0 0) (ev_assign rfl) (by decide) ?_
  refine sr_end (l' := [(8, .slice none 0 0)]) (.cons rfl (.nil _)) ?_
  cases hS
  exact ke_ret1 Try.func16 rfl rfl ⟨_, rfl, _, rfl, SlR.nil, (hb.below (flat1_le _))⟩
 ·replace hS := ite_false' hS hc11
  refine ke_skip ?_
  refine ke_seq ?_
  refine ke_region ?_
  refine sr_ev (v := .pointer (some ⟨gd_0, 0, none⟩)) (ev_move rfl) (by decide) ?_
  refine sr_ev (v := .pointer (some ⟨gd_0, 0, none⟩)) (ev_nilCheck rfl) (by decide) ?_
  refine sr_ev (v := .pointer (some ⟨gd_0, 0, none⟩)) (ev_fieldAddr (i := 0) Try.underlying54 rfl Try.info52 rfl rfl) (by decide) ?_
  refine sr_ev (v := v1) (ev_load Try.isAgg52 rfl (hB3.cell rfl)) (by decide) ?_
  refine sr_ev (v := str from_1) (ev_move rfl) (by decide) ?_
  refine sr_ev (v := str to_2) (ev_move rfl) (by decide) ?_
  refine sr_ev (v := .agg #[str from_1, str to_2]) (ev_build (vs := #[(0, str from_1), (1, str to_2)]) rfl (fun _ => by kernel_rfl)) (by decide) ?_
  obtain ⟨y16, hy17, hS⟩ := bind_some' hS
  replace hy17 := Option.some.inj hy17
  obtain ⟨cs12, hrd13, hl14, hl15⟩ := h2.look (zcs := [(.slice none 0 0), .int .i64 0, .int .i64 0]) (z := (delegate_delegation.mk ([] : List Str) (api_Window.mk 0 0))) Try.keyB63 Try.underlying52 Try.zeroValue61 ⟨_, rfl, SlR.nil⟩ (delegate_way.mk from_1 to_2)
  rw [hy17] at hrd13
  obtain ⟨v18, hcshrd13, h19⟩ := hrd13
  obtain rfl : cs12 = [v18, .int .i64 y16.window.From, .int .i64 y16.window.Until] := hcshrd13
  refine sr_ev (v := .agg #[v18, .int .i64 y16.window.From, .int .i64 y16.window.Until]) (hl14 w8 _ _ (Mv.of_below (i := 1) (ρ := (flat1 ρA)) (Below.refl _ _)) rfl rfl) (by decide) ?_
  refine sr_ev (v := v18) (ev_field rfl (fun _ => by kernel_rfl)) (by decide) ?_
  obtain ⟨y20, hy21, hS⟩ := bind_some' hS
  refine sr_call (vs := [v18]) rfl Try.call34 rfl (scope_Sorted_ok (A0 := Wb (flat1 ρA)) _ (hg.fr hz hb) h19 hb.bd hy21) (by decide) ?_
  rintro v25 w22 ⟨_, rfl, h26, hbw23⟩
  have htr24 := Tr.of_below hbw23 hb.bd
  replace hb := hb.trans htr24
  refine sr_ev (v := v25) (ev_assign rfl) (by decide) ?_
  refine sr_end (l' := [(8, v25)]) (.cons rfl (.nil _)) ?_
  cases hS
  exact ke_ret1 Try.func16 rfl rfl ⟨_, rfl, _, rfl, (SlR.mv h26 (flat1_back hb hbd)), (hb.below (flat1_le _))⟩
theorem ref03_Same_L1_ok {w0 : World} (hg : Gs w0) {A0 : Nat → Prop} (hA0 : ∀ b, A0 b → b < w0.heap.size) : ∀ (n : Nat), ∀ {r : Bool} {a_0 : List Str} {b_1 : List Str} {i_5 : Int} {va_0 : Value} {vb_1 : Value}, ref03_Same_L1 n a_0 b_1 i_5 = some r → ∀ {w : World} {A : Nat → Prop}, (Below w0.heap.size w0 w) → (∀ b, A b → b < w.heap.size) → (∀ b, A0 b → A b) → (Hp A w0.heap.size w []) → (SlR strC A w va_0 a_0) → (SlR strC A w vb_1 b_1) → KE Try.prog 15 (Ret (fun v w' => v = .bool r ∧ Below w0.heap.size w0 w')) 26 [.code (sub (bodyOf Try.f15) [2, 2, 1, 2, 2, 1]), .inLoop (sub (bodyOf Try.f15) [2, 2, 1, 2, 2, 1]), .inBlock 0, .code (sub (bodyOf Try.f15) [2, 2, 2])] [(0, va_0), (1, vb_1), (5, .int .i64 i_5)] w := by
 intro n
 induction n with
 | zero => intro r a_0 b_1 i_5 va_0 vb_1 hS; cases hS
 | succ n ih =>
  have hr0 : ∀ {r : Bool} {a_0 : List Str} {b_1 : List Str} {i_5 : Int} {va_0 : Value} {vb_1 : Value}, ref03_Same_L1 n a_0 b_1 i_5 = some r → ∀ {w : World} {A : Nat → Prop}, (Below w0.heap.size w0 w) → (∀ b, A b → b < w.heap.size) → (∀ b, A0 b → A b) → (Hp A w0.heap.size w []) → (SlR strC A w va_0 a_0) → (SlR strC A w vb_1 b_1) → KE Try.prog 15 (Ret (fun v w' => v = .bool r ∧ Below w0.heap.size w0 w')) 26 [.inLoop (sub (bodyOf Try.f15) [2, 2, 1, 2, 2, 1]), .inBlock 0, .code (sub (bodyOf Try.f15) [2, 2, 2])] [(0, va_0), (1, vb_1), (5, .int .i64 i_5)] w := fun {r} {a_0} {b_1} {i_5} {va_0} {vb_1} hS {w} {A} hb hA hi hH ha_0 hb_1 => ke_inLoop (ih hS hb hA hi hH ha_0 hb_1)
  clear ih
  intro r a_0 b_1 i_5 va_0 vb_1 hS w A hb hA hi hH ha_0 hb_1
  unfold ref03_Same_L1 at hS
  refine ke_seq ?_
  refine ke_seq ?_
  refine ke_region ?_
  refine sr_ev (v := .int .i64 i_5) (ev_move rfl) (by decide) ?_
  refine sr_ev (v := va_0) (ev_move rfl) (by decide) ?_
  refine sr_ev (v := .int .i64 (a_0.length : Int)) (ev_sllen Try.underlying23 rfl ha_0) (by decide) ?_
  refine sr_ev (v := .bool (decide (i_5 < (a_0.length : Int)))) (ev_lt rfl rfl) (by decide) ?_
  refine sr_end (l' := [(0, va_0), (1, vb_1), (5, .int .i64 i_5), (14, .bool (decide (i_5 < (a_0.length : Int))))]) (.cons rfl (.cons rfl (.cons rfl (.cons rfl (.nil _))))) ?_
  refine ke_cond (t := decide (i_5 < (a_0.length : Int))) rfl (fun hc6 => ?_) (fun hc6 => ?_)
  ·replace hS := ite_true' hS hc6
   refine ke_skip ?_
   refine ke_seq ?_
   refine ke_block ?_
   refine ke_seq ?_
   refine ke_region_q Try.mixed (by kernel_rfl) ?_
   refine sq_ev (v := va_0) (fun w1 hw1 => ev_move rfl) (by decide) ?_
   refine sq_ev (v := .int .i64 i_5) (fun w1 hw1 => ev_move rfl) (by decide) ?_
   obtain ⟨y9, hy10, hS⟩ := bind_some' hS
   obtain ⟨b11, o12, cs14, he13, hixhe13⟩ := ha_0.elem Try.underlying23 Try.info9 rfl (P := Try.prog) hy10
   obtain rfl : cs14 = [str y9] := he13.rd
   refine sq_ev (v := .pointer (some ⟨b11, o12, none⟩)) (fun w1 hw1 => hixhe13 w1 hw1 rfl rfl) (by decide) ?_
   refine sq_ev (v := str y9) (fun w1 hw1 => ev_load Try.isAgg9 rfl ((he13.step (.of_below hw1) (Nat.succ_pos _)).cell 0 _ rfl)) (by decide) ?_
   refine sq_ev (v := vb_1) (fun w1 hw1 => ev_move rfl) (by decide) ?_
   refine sq_ev (v := .int .i64 i_5) (fun w1 hw1 => ev_move rfl) (by decide) ?_
   obtain ⟨y15, hy16, hS⟩ := bind_some' hS
   obtain ⟨b17, o18, cs20, he19, hixhe19⟩ := hb_1.elem Try.underlying23 Try.info9 rfl (P := Try.prog) hy16
   obtain rfl : cs20 = [str y15] := he19.rd
   refine sq_ev (v := .pointer (some ⟨b17, o18, none⟩)) (fun w1 hw1 => hixhe19 w1 hw1 rfl rfl) (by decide) ?_
   refine sq_ev (v := str y15) (fun w1 hw1 => ev_load Try.isAgg9 rfl ((he19.step (.of_below hw1) (Nat.succ_pos _)).cell 0 _ rfl)) (by decide) ?_
   refine sq_ev (v := .bool (!(y9 == y15))) (fun w1 hw1 => ev_sne rfl rfl) (by decide) ?_
   refine sq_end (l' := [(0, va_0), (1, vb_1), (5, .int .i64 i_5), (25, .bool (!(y9 == y15)))]) (.cons rfl (.cons rfl (.cons rfl (.cons rfl (.nil _))))) (fun w8 hw7 => ?_)
   replace hb := hb.trans (hw7.mono hb.size)
   replace hA := lt_mono hA hw7.size
   replace hH := hH.below hw7
   replace ha_0 := ha_0.below hw7
   replace hb_1 := hb_1.below hw7
   refine ke_cond (t := !(y9 == y15)) rfl (fun hc21 => ?_) (fun hc21 => ?_)
   ·replace hS := ite_true' hS hc21
    refine ke_seq ?_
    refine ke_region ?_
    refine sr_ev (v := .bool false) (ev_assign rfl) (by decide) ?_
    refine sr_end (l' := [(4, .bool false)]) (.cons rfl (.nil _)) ?_
    cases hS
    exact ke_ret1 Try.func15 rfl rfl ⟨_, rfl, rfl, hb⟩
   ·replace hS := ite_false' hS hc21
    refine ke_skip ?_
    refine ke_inBlock ?_
    refine ke_region ?_
    refine sr_ev (v := .int .i64 i_5) (ev_move rfl) (by decide) ?_
    refine sr_ev (v := .int .i64 (IntKind.i64.wrap (i_5 + 1))) (ev_add rfl rfl) (by decide) ?_
    refine sr_ev (v := .int .i64 (IntKind.i64.wrap (i_5 + 1))) (ev_assign rfl) (by decide) ?_
    refine sr_end (l' := [(0, va_0), (1, vb_1), (5, .int .i64 (IntKind.i64.wrap (i_5 + 1)))]) (.cons rfl (.cons rfl (.cons rfl (.nil _)))) ?_
    have hK := hr0 hS hb hA hi hH ha_0 hb_1
    exact ke_weaken (l' := [(0, va_0), (1, vb_1), (5, .int .i64 (IntKind.i64.wrap (i_5 + 1)))]) (.cons rfl (.cons rfl (.cons rfl (.nil _)))) hK
  ·replace hS := ite_false' hS hc6
   refine ke_exit (k' := _) rfl ?_
   refine ke_seq ?_
   refine ke_region ?_
   refine sr_ev (v := .bool true) (ev_assign rfl) (by decide) ?_
   refine sr_end (l' := [(4, .bool true)]) (.cons rfl (.nil _)) ?_
   cases hS
   exact ke_ret1 Try.func15 rfl rfl ⟨_, rfl, rfl, hb⟩
theorem ref03_Same_ok {A0 : Nat → Prop} (w0 : World) (hg : Gs w0) {a_0 : List Str} {b_1 : List Str} {v1 : Value} {v3 : Value} {r : Bool} (h2 : SlR strC A0 w0 v1 a_0) (h4 : SlR strC A0 w0 v3 b_1) (hS : ref03_Same a_0 b_1 = some r) :
  Calls Try.prog 15 #[v1, v3] w0 (Ret (fun v w' => v = .bool r ∧ Below w0.heap.size w0 w')) := by
 unfold ref03_Same at hS
 have hb := Below.refl w0.heap.size w0
 replace h2 := h2.weak (A' := fun _ => False) (fun _ h => h.elim)
 replace h4 := h4.weak (A' := fun _ => False) (fun _ h => h.elim)
 obtain ⟨A0, hA0, hAe⟩ : ∃ A0 : Nat → Prop, (∀ b, A0 b → b < w0.heap.size) ∧ A0 = fun _ => False := ⟨_, fun _ h => h.elim, rfl⟩
 rw [← hAe] at h2
 rw [← hAe] at h4
 clear hAe
 have hA := hA0
 have hi : ∀ b, A0 b → A0 b := fun _ h => h
 have hH := Hp.nil A0 w0.heap.size w0
 refine calls_of_ke Try.func15 rfl (n := 26) rfl rfl (l := [(0, v1), (1, v3)]) rfl ?_
 refine ke_seq ?_
 refine ke_region ?_
 refine sr_ev (v := .bool false) (ev_assign rfl) (by decide) ?_
 refine sr_end (l' := [(0, v1), (1, v3)]) (.cons rfl (.cons rfl (.nil _))) ?_
 refine ke_seq ?_
 refine ke_seq ?_
 refine ke_region ?_
 refine sr_ev (v := v1) (ev_move rfl) (by decide) ?_
 refine sr_ev (v := .int .i64 (a_0.length : Int)) (ev_sllen Try.underlying23 rfl h2) (by decide) ?_
 refine sr_ev (v := v3) (ev_move rfl) (by decide) ?_
 refine sr_ev (v := .int .i64 (b_1.length : Int)) (ev_sllen Try.underlying23 rfl h4) (by decide) ?_
 refine sr_ev (v := .bool ((a_0.length : Int) != (b_1.length : Int))) (ev_ne rfl rfl) (by decide) ?_
 refine sr_end (l' := [(0, v1), (1, v3), (10, .bool ((a_0.length : Int) != (b_1.length : Int)))]) (.cons rfl (.cons rfl (.cons rfl (.nil _)))) ?_
 refine ke_cond (t := (a_0.length : Int) != (b_1.length : Int)) rfl (fun hc5 => ?_) (fun hc5 => ?_)
 ·replace hS := ite_true' hS hc5
  refine ke_seq ?_
  refine ke_region ?_
  refine sr_ev (v := .bool false) (ev_assign rfl) (by decide) ?_
  refine sr_end (l' := [(4, .bool false)]) (.cons rfl (.nil _)) ?_
  cases hS
  exact ke_ret1 Try.func15 rfl rfl ⟨_, rfl, rfl, hb⟩
 ·replace hS := ite_false' hS hc5
  refine ke_skip ?_
  refine ke_seq ?_
  refine ke_seq ?_
  refine ke_region ?_
  refine sr_ev (v := .int .i64 0) (ev_assign rfl) (by decide) ?_
  refine sr_end (l' := [(0, v1), (1, v3), (5, .int .i64 0)]) (.cons rfl (.cons rfl (.cons rfl (.nil _)))) ?_
  refine ke_block ?_
  have hK := ref03_Same_L1_ok hg hA0 _ hS hb hA hi hH h2 h4
  exact ke_weaken (l' := [(0, v1), (1, v3), (5, .int .i64 0)]) (.cons rfl (.cons rfl (.cons rfl (.nil _)))) (ke_loop hK)
theorem delegate_Delegations_Revoke_ok (w0 : World) (hg : Gs w0) {ρA : Tags} (hbd : ∀ b, ρA b ≠ 0 → b < w0.heap.size) (hz : Gz ρA) {o : Nat} (ho2 : 2 ≤ o) {d_0 : delegate_Delegations} {from_1 : Str} {to_2 : Str} {gd_0 : Nat} {r : Bool × delegate_Delegations} (ho0 : delegate_Delegations.O (fun p => o + p) ρA w0 gd_0 d_0) (hS : delegate_Delegations_Revoke d_0 from_1 to_2 = some r) :
  Calls Try.prog 28 #[.pointer (some ⟨gd_0, 0, none⟩), str from_1, str to_2] w0 (Ret (fun v w' => ∃ ρ', v = .bool r.1 ∧ delegate_Delegations.O (fun p => o + p) ρ' w' gd_0 r.2 ∧ Tr ρA w0 (rng o 2) ρ' w')) := by
 unfold delegate_Delegations_Revoke at hS
 have hb := enter_fr (ρ := ρA) (w := w0) (n := 2) ho2 hbd
 have hz := hz.enter (n := 2) ho2
 obtain ⟨v1, hB3, h2⟩ := ho0
 replace hB3 := hB3.mv (enter_mv (p := 0) (n := 2) (by decide) ho2)
 replace h2 := h2.mv (enter_mv (p := 1) (n := 2) (by decide) ho2)
 replace hB3 : Blk (enter ρA o 2) 100 w0 gd_0 (.cells #[v1] 54 (0, 0)) := hB3
 replace h2 : MapT delegate_way.ek delegate_delegation.c true (enter ρA o 2) 101 w0 v1 d_0.ways := h2
 refine calls_of_ke Try.func28 rfl (n := 31) rfl rfl (l := [(0, .pointer (some ⟨gd_0, 0, none⟩)), (1, str from_1), (2, str to_2)]) rfl ?_
 refine ke_seq ?_
 refine ke_region ?_
 refine sr_ev (v := .bool false) (ev_assign rfl) (by decide) ?_
 refine sr_end (l' := [(0, .pointer (some ⟨gd_0, 0, none⟩)), (1, str from_1), (2, str to_2)]) (.cons rfl (.cons rfl (.cons rfl (.nil _)))) ?_
 refine ke_seq ?_
 refine ke_seq ?_
 refine ke_region ?_
 refine sr_ev (v := .pointer (some ⟨gd_0, 0, none⟩)) (ev_move rfl) (by decide) ?_
 obtain ⟨y4, hy5, hS⟩ := bind_some' hS
 refine sr_call (vs := [.pointer (some ⟨gd_0, 0, none⟩)]) rfl Try.call38 rfl (delegate_Delegations_made_ok _ (hg.fr hz hb) (ρA := (enter ρA o 2)) hb.bd (hz.fr hg hb) (τ0 := (fun p => 100 + p)) (fun p => Nat.le_add_right_of_le (by decide)) (⟨_, hB3, h2⟩ : delegate_Delegations.O (fun p => 100 + p) (enter ρA o 2) w0 gd_0 d_0) hy5) (by decide) ?_
 rintro _ w6 ⟨rfl, hbw7⟩
 have htr8 := Tr.of_below hbw7 hb.bd
 replace hB3 := hB3.mv (htr8.mv (i := 100) rfl)
 replace h2 := h2.mv (htr8.mv (i := 101) rfl)
 replace hb := hb.trans htr8
 refine sr_ev (v := .bool (!y4)) (ev_not rfl) (by decide) ?_
 refine sr_end (l' := [(0, .pointer (some ⟨gd_0, 0, none⟩)), (1, str from_1), (2, str to_2), (11, .bool (!y4))]) (.cons rfl (.cons rfl (.cons rfl (.cons rfl (.nil _))))) ?_
 refine ke_cond (t := !y4) rfl (fun hc9 => ?_) (fun hc9 => ?_)
 ·replace hS := ite_true' hS hc9
  refine ke_seq ?_
  refine ke_region ?_
  refine sr_ev (v := .bool false) (ev_assign rfl) (by decide) ?_
  refine sr_end (l' := [(6, .bool false)]) (.cons rfl (.nil _)) ?_
  cases hS
  exact ke_ret1 Try.func28 rfl rfl ⟨_, rfl, leave ρA w0 o 2 (enter ρA o 2), rfl, ⟨_, (hB3.mv (leave_mv (p := 0) (by decide) hb)), (h2.mv (leave_mv (p := 1) (by decide) hb))⟩, (leave_tr ho2 hb)⟩
 ·replace hS := ite_false' hS hc9
  refine ke_skip ?_
  refine ke_seq ?_
  refine ke_region ?_
  refine sr_ev (v := .pointer (some ⟨gd_0, 0, none⟩)) (ev_move rfl) (by decide) ?_
  refine sr_ev (v := .pointer (some ⟨gd_0, 0, none⟩)) (ev_nilCheck rfl) (by decide) ?_
  refine sr_ev (v := .pointer (some ⟨gd_0, 0, none⟩)) (ev_fieldAddr (i := 0) Try.underlying54 rfl Try.info52 rfl rfl) (by decide) ?_
  refine sr_ev (v := v1) (ev_load Try.isAgg52 rfl (hB3.cell rfl)) (by decide) ?_
  refine sr_ev (v := str from_1) (ev_move rfl) (by decide) ?_
  refine sr_ev (v := str to_2) (ev_move rfl) (by decide) ?_
  refine sr_ev (v := .agg #[str from_1, str to_2]) (ev_build (vs := #[(0, str from_1), (1, str to_2)]) rfl (fun _ => by kernel_rfl)) (by decide) ?_
  obtain ⟨y14, hy15, hS⟩ := bind_some' hS
  replace hy15 := Option.some.inj hy15
  obtain ⟨cs10, hrd11, hl12, hl13⟩ := h2.look (zcs := [(.slice none 0 0), .int .i64 0, .int .i64 0]) (z := (delegate_delegation.mk ([] : List Str) (api_Window.mk 0 0))) Try.keyB63 Try.underlying52 Try.zeroValue61 ⟨_, rfl, SlR.nil⟩ (delegate_way.mk from_1 to_2)
  rw [hy15] at hrd11
  obtain ⟨v16, hcshrd11, h17⟩ := hrd11
  obtain rfl : cs10 = [v16, .int .i64 y14.window.From, .int .i64 y14.window.Until] := hcshrd11
  refine sr_ev (v := .tuple #[.agg #[v16, .int .i64 y14.window.From, .int .i64 y14.window.Until], .bool (mhas d_0.ways (delegate_way.mk from_1 to_2))]) (hl13 w6 _ _ (Mv.of_below (i := 101) (ρ := (enter ρA o 2)) (Below.refl _ _)) rfl rfl) (by decide) ?_
  refine sr_ev (v := .tuple #[.agg #[v16, .int .i64 y14.window.From, .int .i64 y14.window.Until], .bool (mhas d_0.ways (delegate_way.mk from_1 to_2))]) (ev_move rfl) (by decide) ?_
  refine sr_ev (v := .agg #[v16, .int .i64 y14.window.From, .int .i64 y14.window.Until]) (ev_extract rfl rfl) (by decide) ?_
  refine sr_ev (v := .bool (mhas d_0.ways (delegate_way.mk from_1 to_2))) (ev_extract rfl rfl) (by decide) ?_
  refine sr_allocT 9 (by decide) hb.bd Try.zeroValue61 (by decide) ?_
  intro g18 ρ19 w20 hB22 htr21
  replace h17 := h17.mv htr21.rd
  replace hB3 := hB3.mv (htr21.mv (i := 100) rfl)
  replace h2 := h2.mv (htr21.mv (i := 101) rfl)
  replace hb := hb.trans htr21
  replace hB22 : Blk ρ19 9 w20 g18 (.cells #[(.slice none 0 0), .int .i64 0, .int .i64 0] 61 (0, 0)) := hB22
  refine sr_storeT (v := .agg #[v16, .int .i64 y14.window.From, .int .i64 y14.window.Until]) (vs := [v16, .int .i64 y14.window.From, .int .i64 y14.window.Until]) (cs' := #[v16, .int .i64 y14.window.From, .int .i64 y14.window.Until]) hB22 (by decide) hb.bd rfl rfl rfl Try.sizeOf61 rfl (by first | rfl | (simp only [List.all_cons, List.all_nil, SlR.oneCell h17]; done) | (simp only [List.all_cons, List.all_nil, SlR.oneCell h17]; rfl)) rfl ?_
  intro w23 hB221 htr24
  replace h17 := h17.mv htr24.rd
  replace hB3 := hB3.mv (htr24.mv (i := 100) rfl)
  replace h2 := h2.mv (htr24.mv (i := 101) rfl)
  replace hb := hb.trans htr24
  replace hB22 : Blk ρ19 9 w23 g18 (.cells #[v16, .int .i64 y14.window.From, .int .i64 y14.window.Until] 61 (0, 0)) := hB221
  clear hB221
  refine sr_ev (v := .bool (mhas d_0.ways (delegate_way.mk from_1 to_2))) (ev_assign rfl) (by decide) ?_
  refine sr_end (l' := [(0, .pointer (some ⟨gd_0, 0, none⟩)), (1, str from_1), (2, str to_2), (8, .bool (mhas d_0.ways (delegate_way.mk from_1 to_2)))]) (.cons rfl (.cons rfl (.cons rfl (.cons rfl (.nil _))))) ?_
  refine ke_seq ?_
  refine ke_region ?_
  refine sr_ev (v := .pointer (some ⟨gd_0, 0, none⟩)) (ev_move rfl) (by decide) ?_
  refine sr_ev (v := .pointer (some ⟨gd_0, 0, none⟩)) (ev_nilCheck rfl) (by decide) ?_
  refine sr_ev (v := .pointer (some ⟨gd_0, 0, none⟩)) (ev_fieldAddr (i := 0) Try.underlying54 rfl Try.info52 rfl rfl) (by decide) ?_
  refine sr_ev (v := v1) (ev_load Try.isAgg52 rfl (hB3.cell rfl)) (by decide) ?_
  refine sr_ev (v := str from_1) (ev_move rfl) (by decide) ?_
  refine sr_ev (v := str to_2) (ev_move rfl) (by decide) ?_
  refine sr_ev (v := .agg #[str from_1, str to_2]) (ev_build (vs := #[(0, str from_1), (1, str to_2)]) rfl (fun _ => by kernel_rfl)) (by decide) ?_
  refine sr_mapDel0 (k := (delegate_way.mk from_1 to_2)) h2 Try.keyB63 Try.underlying52 (by decide) hb.bd rfl rfl ?_
  intro w25 h21 htr26
  replace hB3 := hB3.mv (htr26.mv (i := 100) rfl)
  replace hb := hb.trans htr26
  replace h2 := h21
  clear h21
  refine sr_end (l' := [(8, .bool (mhas d_0.ways (delegate_way.mk from_1 to_2)))]) (.cons rfl (.nil _)) ?_
  refine ke_seq ?_
  refine ke_region ?_
  refine sr_ev (v := .bool (mhas d_0.ways (delegate_way.mk from_1 to_2))) (ev_move rfl) (by decide) ?_
  refine sr_ev (v := .bool (mhas d_0.ways (delegate_way.mk from_1 to_2))) (ev_assign rfl) (by decide) ?_
  refine sr_end (l' := [(6, .bool (mhas d_0.ways (delegate_way.mk from_1 to_2)))]) (.cons rfl (.nil _)) ?_
  cases hS
  exact ke_ret1 Try.func28 rfl rfl ⟨_, rfl, leave ρA w0 o 2 ρ19, rfl, ⟨_, (hB3.mv (leave_mv (p := 0) (by decide) hb)), (h2.mv (leave_mv (p := 1) (by decide) hb))⟩, (leave_tr ho2 hb)⟩
theorem delegate_Delegations_Drop_1_ok (w0 : World) (hg : Gs w0) {ρA : Tags} (hbd : ∀ b, ρA b ≠ 0 → b < w0.heap.size) (hz : Gz ρA) {k_0 : delegate_way} {__1 : delegate_delegation} {c2 : Str} {v1 : Value} {b3 : Nat} {r : Bool} (h2 : SlR strC (Wb ρA) w0 v1 __1.scopes) (he4 : ElT strC ρA 0 w0 b3 0 [str c2] c2) (hS : delegate_Delegations_Drop_1 k_0 __1 c2 = some r) :
  Calls Try.prog 49 #[.agg #[str k_0.from_, str k_0.to_], .agg #[v1, .int .i64 __1.window.From, .int .i64 __1.window.Until], .pointer (some ⟨b3, 0, none⟩)] w0 (Ret (fun v w' => v = .bool r ∧ Below w0.heap.size w0 w')) := by
 unfold delegate_Delegations_Drop_1 at hS
 have hb := flat1_fr (ρ := ρA) (w := w0) hbd
 have hz := hz.flat1
 replace h2 := SlR.mv h2 flat1_rd
 replace he4 := he4.mv flat1_rd (Nat.succ_pos _)
 refine calls_of_ke Try.func49 rfl (n := 16) rfl rfl (l := [(0, .agg #[str k_0.from_, str k_0.to_]), (1, .agg #[v1, .int .i64 __1.window.From, .int .i64 __1.window.Until]), (2, .pointer (some ⟨b3, 0, none⟩))]) rfl ?_
 refine ke_seq ?_
 refine ke_region ?_
 refine sr_boxT 5 (by decide) hb.bd rfl (by decide) ?_
 intro g5 ρ6 w7 hB9 htr8
 replace h2 := h2.mv htr8.rd
 replace he4 := he4.mv (htr8.mv (i := 0) rfl) (Nat.succ_pos _)
 replace hb := hb.trans htr8
 replace hB9 : Blk ρ6 5 w7 g5 (.cells #[str k_0.from_, str k_0.to_] 63 (0, 0)) := hB9
 refine sr_boxT 6 (by decide) hb.bd rfl (by decide) ?_
 intro g10 ρ11 w12 hB14 htr13
 replace he4 := he4.mv (htr13.mv (i := 0) rfl) (Nat.succ_pos _)
 replace hB9 := hB9.mv (htr13.mv (i := 5) rfl)
 replace hb := hb.trans htr13
 replace hB14 : Blk ρ11 6 w12 g10 (.cells #[v1, .int .i64 __1.window.From, .int .i64 __1.window.Until] 61 (0, 0)) := hB14
 refine sr_ev (v := .bool false) (ev_assign rfl) (by decide) ?_
 refine sr_end (l' := [(2, .pointer (some ⟨b3, 0, none⟩)), (3, .pointer (some ⟨g5, 0, none⟩))]) (.cons rfl (.cons rfl (.nil _))) ?_
 refine ke_seq ?_
 refine ke_region ?_
 refine sr_ev (v := .pointer (some ⟨g5, 0, none⟩)) (ev_fieldAddr (i := 0) Try.underlying63 rfl Try.info9 rfl rfl) (by decide) ?_
 refine sr_ev (v := str k_0.from_) (ev_load Try.isAgg9 rfl (hB9.cell rfl)) (by decide) ?_
 refine sr_ev (v := str c2) (ev_load Try.isAgg9 rfl (he4.cell 0 _ rfl)) (by decide) ?_
 refine sr_ev (v := .bool (k_0.from_ == c2)) (ev_seq rfl rfl) (by decide) ?_
 refine sr_ev (v := .bool (k_0.from_ == c2)) (ev_move rfl) (by decide) ?_
 refine sr_join (m := 5) (C := fun (x : Bool) w1 => x = ((k_0.from_ == c2) || (k_0.to_ == c2)) ∧ w12 = w1) (l' := fun x => [(15, .bool x)]) ?_ ?_
 ·rintro _ _ ⟨rfl, rfl⟩
  refine sr_ev (v := .bool ((k_0.from_ == c2) || (k_0.to_ == c2))) (ev_assign rfl) (by decide) ?_
  refine sr_end (l' := [(5, .bool ((k_0.from_ == c2) || (k_0.to_ == c2)))]) (.cons rfl (.nil _)) ?_
  cases hS
  exact ke_ret1 Try.func49 rfl rfl ⟨_, rfl, rfl, (hb.below (flat1_le _))⟩
 ·intro K16
  rcases Bool.eq_false_or_eq_true (k_0.from_ == c2) with hg15 | hg15
  all_goals try have hj18 : Tr ρ11 w12 (fun _ => false) ρ11 w12 := Tr.refl hb.bd
  ·refine sr_pass (e := 10) rfl rfl (by rw [hg15]; rfl) (by decide) ?_
   refine sr_pass (e := 10) rfl rfl (by rw [hg15]; rfl) (by decide) ?_
   refine sr_pass (e := 10) rfl rfl (by rw [hg15]; rfl) (by decide) ?_
   refine sr_pass (e := 10) rfl rfl (by rw [hg15]; rfl) (by decide) ?_
   refine sr_ev (v := .bool true) (ev_pick_t rfl hg15 rfl) (by decide) ?_
   exact sr_weaken (l' := [(15, .bool true)]) (.cons rfl (.nil _)) (K16 true _ ⟨by rw [hg15]; rfl, rfl⟩)
  ·refine sr_evg (b := false) (e := 10) rfl rfl hg15 (v := .pointer (some ⟨g5, 1, none⟩)) (ev_fieldAddr (i := 1) Try.underlying63 rfl Try.info9 rfl rfl) (by decide) ?_
   refine sr_evg (b := false) (e := 10) rfl rfl hg15 (v := str k_0.to_) (ev_load Try.isAgg9 rfl (hB9.cell rfl)) (by decide) ?_
   refine sr_evg (b := false) (e := 10) rfl rfl hg15 (v := str c2) (ev_load Try.isAgg9 rfl (he4.cell 0 _ rfl)) (by decide) ?_
   refine sr_evg (b := false) (e := 10) rfl rfl hg15 (v := .bool (k_0.to_ == c2)) (ev_seq rfl rfl) (by decide) ?_
   refine sr_ev (v := .bool (k_0.to_ == c2)) (ev_pick_f rfl hg15 rfl) (by decide) ?_
   exact sr_weaken (l' := [(15, .bool (k_0.to_ == c2))]) (.cons rfl (.nil _)) (K16 (k_0.to_ == c2) _ ⟨by rw [hg15]; rfl, rfl⟩)
theorem maps_DeleteFunc_map_delegate_way_delegate_delegation_delegate_way_delegate_delegation__Delegations_Drop_1_B2_ok {w0 : World} (hg : Gs w0) {ρA : Tags} (hbd : ∀ b, ρA b ≠ 0 → b < w0.heap.size) {o : Nat} (ho2 : 2 ≤ o) {v1 : Value} (hz : Gz (enter ρA o 1)) (r0 : GMap delegate_way delegate_delegation → Str → List delegate_way → Option (GMap delegate_way delegate_delegation))
  (hr0 : ∀ {r : GMap delegate_way delegate_delegation} {m_0 : GMap delegate_way delegate_delegation} {del_1_c0 : Str} {t_7 : List delegate_way} {bdel_1_c0 : Nat} {rt_7 : Nat}, r0 m_0 del_1_c0 t_7 = some r → ∀ {ρ : Tags} {w : World}, (Fr (enter ρA o 1) w0 ρ w) → (MapT delegate_way.ek delegate_delegation.c true ρ 100 w v1 m_0) → (ElT strC ρ 0 w bdel_1_c0 0 [str del_1_c0] del_1_c0) → (IterT delegate_way.ek delegate_delegation.c true ρ 100 9 w rt_7 v1 m_0 t_7) → KE Try.prog 48 (Ret (fun v w' => ∃ ρ', v = .tuple #[] ∧ MapT delegate_way.ek delegate_delegation.c true ρ' o w' v1 r ∧ Tr ρA w0 (rng o 1) ρ' w')) 19 [.inLoop (sub (bodyOf Try.f48) [2, 2, 1]), .inBlock 0] [(0, v1), (1, .func (.func 49) #[] #[.pointer (some ⟨bdel_1_c0, 0, none⟩)]), (7, .pointer (some ⟨rt_7, 0, none⟩))] w) {r : GMap delegate_way delegate_delegation} {m_0 : GMap delegate_way delegate_delegation} {del_1_c0 : Str} {t_7 : List delegate_way} {bdel_1_c0 : Nat} {rt_7 : Nat} (hS : maps_DeleteFunc_map_delegate_way_delegate_delegation_delegate_way_delegate_delegation__Delegations_Drop_1_B2 r0 m_0 del_1_c0 t_7 = some r) {ρ : Tags} {w : World} (hb : Fr (enter ρA o 1) w0 ρ w) (hm_0 : MapT delegate_way.ek delegate_delegation.c true ρ 100 w v1 m_0) (hedel_1_c0 : ElT strC ρ 0 w bdel_1_c0 0 [str del_1_c0] del_1_c0) (ht_7 : IterT delegate_way.ek delegate_delegation.c true ρ 100 9 w rt_7 v1 m_0 t_7) :
  KE Try.prog 48 (Ret (fun v w' => ∃ ρ', v = .tuple #[] ∧ MapT delegate_way.ek delegate_delegation.c true ρ' o w' v1 r ∧ Tr ρA w0 (rng o 1) ρ' w')) 19 [.inBlock 1, .inLoop (sub (bodyOf Try.f48) [2, 2, 1]), .inBlock 0] [(0, v1), (1, .func (.func 49) #[] #[.pointer (some ⟨bdel_1_c0, 0, none⟩)]), (7, .pointer (some ⟨rt_7, 0, none⟩))] w := by
 unfold maps_DeleteFunc_map_delegate_way_delegate_delegation_delegate_way_delegate_delegation__Delegations_Drop_1_B2 at hS
 refine ke_inBlock ?_
 have hK := hr0 hS hb hm_0 hedel_1_c0 ht_7
 exact ke_weaken (l' := [(0, v1), (1, .func (.func 49) #[] #[.pointer (some ⟨bdel_1_c0, 0, none⟩)]), (7, .pointer (some ⟨rt_7, 0, none⟩))]) (.cons rfl (.cons rfl (.cons rfl (.nil _)))) hK
theorem maps_DeleteFunc_map_delegate_way_delegate_delegation_delegate_way_delegate_delegation__Delegations_Drop_1_L1_ok {w0 : World} (hg : Gs w0) {ρA : Tags} (hbd : ∀ b, ρA b ≠ 0 → b < w0.heap.size) {o : Nat} (ho2 : 2 ≤ o) {v1 : Value} (hz : Gz (enter ρA o 1)) : ∀ (n : Nat), ∀ {r : GMap delegate_way delegate_delegation} {m_0 : GMap delegate_way delegate_delegation} {del_1_c0 : Str} {t_7 : List delegate_way} {bdel_1_c0 : Nat} {rt_7 : Nat}, maps_DeleteFunc_map_delegate_way_delegate_delegation_delegate_way_delegate_delegation__Delegations_Drop_1_L1 n m_0 del_1_c0 t_7 = some r → ∀ {ρ : Tags} {w : World}, (Fr (enter ρA o 1) w0 ρ w) → (MapT delegate_way.ek delegate_delegation.c true ρ 100 w v1 m_0) → (ElT strC ρ 0 w bdel_1_c0 0 [str del_1_c0] del_1_c0) → (IterT delegate_way.ek delegate_delegation.c true ρ 100 9 w rt_7 v1 m_0 t_7) → KE Try.prog 48 (Ret (fun v w' => ∃ ρ', v = .tuple #[] ∧ MapT delegate_way.ek delegate_delegation.c true ρ' o w' v1 r ∧ Tr ρA w0 (rng o 1) ρ' w')) 19 [.code (sub (bodyOf Try.f48) [2, 2, 1]), .inLoop (sub (bodyOf Try.f48) [2, 2, 1]), .inBlock 0] [(0, v1), (1, .func (.func 49) #[] #[.pointer (some ⟨bdel_1_c0, 0, none⟩)]), (7, .pointer (some ⟨rt_7, 0, none⟩))] w := by
 intro n
 induction n with
 | zero => intro r m_0 del_1_c0 t_7 bdel_1_c0 rt_7 hS; cases hS
 | succ n ih =>
  have hr0 : ∀ {r : GMap delegate_way delegate_delegation} {m_0 : GMap delegate_way delegate_delegation} {del_1_c0 : Str} {t_7 : List delegate_way} {bdel_1_c0 : Nat} {rt_7 : Nat}, maps_DeleteFunc_map_delegate_way_delegate_delegation_delegate_way_delegate_delegation__Delegations_Drop_1_L1 n m_0 del_1_c0 t_7 = some r → ∀ {ρ : Tags} {w : World}, (Fr (enter ρA o 1) w0 ρ w) → (MapT delegate_way.ek delegate_delegation.c true ρ 100 w v1 m_0) → (ElT strC ρ 0 w bdel_1_c0 0 [str del_1_c0] del_1_c0) → (IterT delegate_way.ek delegate_delegation.c true ρ 100 9 w rt_7 v1 m_0 t_7) → KE Try.prog 48 (Ret (fun v w' => ∃ ρ', v = .tuple #[] ∧ MapT delegate_way.ek delegate_delegation.c true ρ' o w' v1 r ∧ Tr ρA w0 (rng o 1) ρ' w')) 19 [.inLoop (sub (bodyOf Try.f48) [2, 2, 1]), .inBlock 0] [(0, v1), (1, .func (.func 49) #[] #[.pointer (some ⟨bdel_1_c0, 0, none⟩)]), (7, .pointer (some ⟨rt_7, 0, none⟩))] w := fun {r} {m_0} {del_1_c0} {t_7} {bdel_1_c0} {rt_7} hS {ρ} {w} hb hm_0 hedel_1_c0 ht_7 => ke_inLoop (ih hS hb hm_0 hedel_1_c0 ht_7)
  clear ih
  intro r m_0 del_1_c0 t_7 bdel_1_c0 rt_7 hS ρ w hb hm_0 hedel_1_c0 ht_7
  unfold maps_DeleteFunc_map_delegate_way_delegate_delegation_delegate_way_delegate_delegation__Delegations_Drop_1_L1 at hS
  refine ke_seq ?_
  refine ke_region ?_
  refine sr_nextM ht_7 rfl (by decide) hb.bd hS rfl (by decide) (fun hS => ?_) (fun e10 cs11 w12 hS hrd14 ht_71 htr13 hent15 => ?_)
  ·refine sr_ev (v := .bool false) (ev_extract rfl rfl) (by decide) ?_
   refine sr_end (l' := [(0, v1), (1, .func (.func 49) #[] #[.pointer (some ⟨bdel_1_c0, 0, none⟩)]), (7, .pointer (some ⟨rt_7, 0, none⟩)), (9, .bool false)]) (.cons rfl (.cons rfl (.cons rfl (.cons rfl (.nil _))))) ?_
   refine ke_seq ?_
   refine ke_cond (t := false) rfl (fun h => by cases h) (fun _ => ?_)
   refine ke_exit (k' := _) rfl ?_
   cases hS
   exact ke_end0 Try.func48 rfl ⟨_, rfl, leave ρA w0 o 1 ρ, rfl, (hm_0.mv (leave_mv (p := 0) (by decide) hb)), (leave_tr ho2 hb)⟩
  ·skip
   replace hm_0 := hm_0.mv (htr13.mv (i := 100) rfl)
   replace hedel_1_c0 := hedel_1_c0.mv (htr13.mv (i := 0) rfl) (Nat.succ_pos _)
   replace hb := hb.trans htr13
   replace ht_7 := ht_71
   clear ht_71
   obtain ⟨v16, hcshrd14, h17⟩ := hrd14
   obtain rfl : cs11 = [v16, .int .i64 e10.2.window.From, .int .i64 e10.2.window.Until] := hcshrd14
   refine sr_ev (v := .bool true) (ev_extract rfl rfl) (by decide) ?_
   refine sr_end (l' := [(0, v1), (1, .func (.func 49) #[] #[.pointer (some ⟨bdel_1_c0, 0, none⟩)]), (7, .pointer (some ⟨rt_7, 0, none⟩)), (9, .bool true)]) (.cons rfl (.cons rfl (.cons rfl (.cons rfl (.nil _))))) ?_
   refine ke_seq ?_
   refine ke_cond (t := true) rfl (fun _ => ?_) (fun h => by cases h)
   refine ke_skip ?_
   refine ke_block ?_
   refine ke_seq ?_
   refine ke_region ?_
   refine sr_ev (v := .tuple #[.agg #[str e10.1.from_, str e10.1.to_], .agg #[v16, .int .i64 e10.2.window.From, .int .i64 e10.2.window.Until]]) (hent15 rfl) (by decide) ?_
   refine sr_ev (v := .agg #[str e10.1.from_, str e10.1.to_]) (ev_extract rfl rfl) (by decide) ?_
   refine sr_ev (v := .agg #[v16, .int .i64 e10.2.window.From, .int .i64 e10.2.window.Until]) (ev_extract rfl rfl) (by decide) ?_
   refine sr_allocT 6 (by decide) hb.bd Try.zeroValue63 (by decide) ?_
   intro g18 ρ19 w20 hB22 htr21
   replace hm_0 := hm_0.mv (htr21.mv (i := 100) rfl)
   replace hedel_1_c0 := hedel_1_c0.mv (htr21.mv (i := 0) rfl) (Nat.succ_pos _)
   replace ht_7 := ht_7.mv (htr21.mv (i := 100) rfl) (htr21.mv (i := 9) rfl)
   replace h17 := h17.mv htr21.rd
   replace hb := hb.trans htr21
   replace hB22 : Blk ρ19 6 w20 g18 (.cells #[str ([]), str ([])] 63 (0, 0)) := hB22
   refine sr_allocT 7 (by decide) hb.bd Try.zeroValue61 (by decide) ?_
   intro g23 ρ24 w25 hB27 htr26
   replace hm_0 := hm_0.mv (htr26.mv (i := 100) rfl)
   replace hedel_1_c0 := hedel_1_c0.mv (htr26.mv (i := 0) rfl) (Nat.succ_pos _)
   replace ht_7 := ht_7.mv (htr26.mv (i := 100) rfl) (htr26.mv (i := 9) rfl)
   replace h17 := h17.mv htr26.rd
   replace hB22 := hB22.mv (htr26.mv (i := 6) rfl)
   replace hb := hb.trans htr26
   replace hB27 : Blk ρ24 7 w25 g23 (.cells #[(.slice none 0 0), .int .i64 0, .int .i64 0] 61 (0, 0)) := hB27
   refine sr_storeT (v := .agg #[str e10.1.from_, str e10.1.to_]) (vs := [str e10.1.from_, str e10.1.to_]) (cs' := #[str e10.1.from_, str e10.1.to_]) hB22 (by decide) hb.bd rfl rfl rfl Try.sizeOf63 rfl rfl rfl ?_
   intro w28 hB221 htr29
   replace hm_0 := hm_0.mv (htr29.mv (i := 100) rfl)
   replace hedel_1_c0 := hedel_1_c0.mv (htr29.mv (i := 0) rfl) (Nat.succ_pos _)
   replace ht_7 := ht_7.mv (htr29.mv (i := 100) rfl) (htr29.mv (i := 9) rfl)
   replace h17 := h17.mv htr29.rd
   replace hB27 := hB27.mv (htr29.mv (i := 7) rfl)
   replace hb := hb.trans htr29
   replace hB22 : Blk ρ24 6 w28 g18 (.cells #[str e10.1.from_, str e10.1.to_] 63 (0, 0)) := hB221
   clear hB221
   refine sr_storeT (v := .agg #[v16, .int .i64 e10.2.window.From, .int .i64 e10.2.window.Until]) (vs := [v16, .int .i64 e10.2.window.From, .int .i64 e10.2.window.Until]) (cs' := #[v16, .int .i64 e10.2.window.From, .int .i64 e10.2.window.Until]) hB27 (by decide) hb.bd rfl rfl rfl Try.sizeOf61 rfl (by first | rfl | (simp only [List.all_cons, List.all_nil, SlR.oneCell h17]; done) | (simp only [List.all_cons, List.all_nil, SlR.oneCell h17]; rfl)) rfl ?_
   intro w30 hB271 htr31
   replace hm_0 := hm_0.mv (htr31.mv (i := 100) rfl)
   replace hedel_1_c0 := hedel_1_c0.mv (htr31.mv (i := 0) rfl) (Nat.succ_pos _)
   replace ht_7 := ht_7.mv (htr31.mv (i := 100) rfl) (htr31.mv (i := 9) rfl)
   replace h17 := h17.mv htr31.rd
   replace hB22 := hB22.mv (htr31.mv (i := 6) rfl)
   replace hb := hb.trans htr31
   replace hB27 : Blk ρ24 7 w30 g23 (.cells #[v16, .int .i64 e10.2.window.From, .int .i64 e10.2.window.Until] 61 (0, 0)) := hB271
   clear hB271
   refine sr_end (l' := [(0, v1), (1, .func (.func 49) #[] #[.pointer (some ⟨bdel_1_c0, 0, none⟩)]), (4, .pointer (some ⟨g18, 0, none⟩)), (5, .pointer (some ⟨g23, 0, none⟩)), (7, .pointer (some ⟨rt_7, 0, none⟩))]) (.cons rfl (.cons rfl (.cons rfl (.cons rfl (.cons rfl (.nil _)))))) ?_
   refine ke_seq ?_
   refine ke_region ?_
   refine sr_ev (v := .func (.func 49) #[] #[.pointer (some ⟨bdel_1_c0, 0, none⟩)]) (ev_move rfl) (by decide) ?_
   refine sr_ev (v := .agg #[str e10.1.from_, str e10.1.to_]) (ev_loads (cs := [str e10.1.from_, str e10.1.to_]) Try.isAgg63 Try.sizeOf63 rfl (hB22.cells (vs := [str e10.1.from_, str e10.1.to_]) rfl)) (by decide) ?_
   refine sr_ev (v := .agg #[v16, .int .i64 e10.2.window.From, .int .i64 e10.2.window.Until]) (ev_loads (cs := [v16, .int .i64 e10.2.window.From, .int .i64 e10.2.window.Until]) Try.isAgg61 Try.sizeOf61 rfl (hB27.cells (vs := [v16, .int .i64 e10.2.window.From, .int .i64 e10.2.window.Until]) rfl)) (by decide) ?_
   obtain ⟨y32, hy33, hS⟩ := bind_some' hS
   refine sr_callc (vs := [.agg #[str e10.1.from_, str e10.1.to_], .agg #[v16, .int .i64 e10.2.window.From, .int .i64 e10.2.window.Until]]) rfl Try.call49 rfl (delegate_Delegations_Drop_1_ok _ (hg.fr hz hb) (ρA := ρ24) hb.bd (hz.fr hg hb) h17 hedel_1_c0 hy33) (by decide) ?_
   rintro _ w34 ⟨rfl, hbw35⟩
   have htr36 := Tr.of_below hbw35 hb.bd
   replace hm_0 := hm_0.mv (htr36.mv (i := 100) rfl)
   replace hedel_1_c0 := hedel_1_c0.mv (htr36.mv (i := 0) rfl) (Nat.succ_pos _)
   replace ht_7 := ht_7.mv (htr36.mv (i := 100) rfl) (htr36.mv (i := 9) rfl)
   replace hB22 := hB22.mv (htr36.mv (i := 6) rfl)
   replace hb := hb.trans htr36
   refine sr_end (l' := [(0, v1), (1, .func (.func 49) #[] #[.pointer (some ⟨bdel_1_c0, 0, none⟩)]), (4, .pointer (some ⟨g18, 0, none⟩)), (7, .pointer (some ⟨rt_7, 0, none⟩)), (16, .bool y32)]) (.cons rfl (.cons rfl (.cons rfl (.cons rfl (.cons rfl (.nil _)))))) ?_
   refine ke_cond (t := y32) rfl (fun hc37 => ?_) (fun hc37 => ?_)
   ·replace hS := ite_true' hS hc37
    refine ke_region ?_
    refine sr_ev (v := v1) (ev_move rfl) (by decide) ?_
    refine sr_ev (v := .agg #[str e10.1.from_, str e10.1.to_]) (ev_loads (cs := [str e10.1.from_, str e10.1.to_]) Try.isAgg63 Try.sizeOf63 rfl (hB22.cells (vs := [str e10.1.from_, str e10.1.to_]) rfl)) (by decide) ?_
    obtain ⟨w38, hrunw38, ht_71, htr39⟩ := sr_mapDelIt (n := 19) (l := [(0, v1), (1, .func (.func 49) #[] #[.pointer (some ⟨bdel_1_c0, 0, none⟩)]), (4, .pointer (some ⟨g18, 0, none⟩)), (7, .pointer (some ⟨rt_7, 0, none⟩)), (16, .bool y32), (17, v1), (18, .agg #[str e10.1.from_, str e10.1.to_])]) (d := none) (x := _) (y := _) (pos := _) (after := _) (t := _) (k := e10.1) ht_7 rfl Try.keyB63 Try.underlying52 (by decide) hb.bd
    refine sr_run0 (fun a ha => hrunw38 (ha.weaken (.cons rfl (.cons rfl (.cons rfl (.cons rfl (.cons rfl (.cons rfl (.cons rfl (.nil _))))))))) rfl rfl) ?_
    replace hedel_1_c0 := hedel_1_c0.mv (htr39.mv (i := 0) rfl) (Nat.succ_pos _)
    replace hb := hb.trans htr39
    replace ht_7 := ht_71
    clear ht_71
    replace hm_0 := ht_7.map
    refine sr_end (l' := [(0, v1), (1, .func (.func 49) #[] #[.pointer (some ⟨bdel_1_c0, 0, none⟩)]), (7, .pointer (some ⟨rt_7, 0, none⟩))]) (.cons rfl (.cons rfl (.cons rfl (.nil _)))) ?_
    have hK := maps_DeleteFunc_map_delegate_way_delegate_delegation_delegate_way_delegate_delegation__Delegations_Drop_1_B2_ok hg hbd ho2 hz _ hr0 hS hb hm_0 hedel_1_c0 ht_7
    exact ke_weaken (l' := [(0, v1), (1, .func (.func 49) #[] #[.pointer (some ⟨bdel_1_c0, 0, none⟩)]), (7, .pointer (some ⟨rt_7, 0, none⟩))]) (.cons rfl (.cons rfl (.cons rfl (.nil _)))) hK
   ·replace hS := ite_false' hS hc37
    refine ke_skip ?_
    have hK := maps_DeleteFunc_map_delegate_way_delegate_delegation_delegate_way_delegate_delegation__Delegations_Drop_1_B2_ok hg hbd ho2 hz _ hr0 hS hb hm_0 hedel_1_c0 ht_7
    exact ke_weaken (l' := [(0, v1), (1, .func (.func 49) #[] #[.pointer (some ⟨bdel_1_c0, 0, none⟩)]), (7, .pointer (some ⟨rt_7, 0, none⟩))]) (.cons rfl (.cons rfl (.cons rfl (.nil _)))) hK
theorem maps_DeleteFunc_map_delegate_way_delegate_delegation_delegate_way_delegate_delegation__Delegations_Drop_1_ok (w0 : World) (hg : Gs w0) {ρA : Tags} (hbd : ∀ b, ρA b ≠ 0 → b < w0.heap.size) (hz : Gz ρA) {o : Nat} (ho2 : 2 ≤ o) {m_0 : GMap delegate_way delegate_delegation} {c1_0 : Str} {v1 : Value} {b3 : Nat} {r : GMap delegate_way delegate_delegation} (h2 : MapT delegate_way.ek delegate_delegation.c true ρA o w0 v1 m_0) (he4 : ElT strC ρA 0 w0 b3 0 [str c1_0] c1_0) (hS : maps_DeleteFunc_map_delegate_way_delegate_delegation_delegate_way_delegate_delegation__Delegations_Drop_1 m_0 c1_0 = some r) :
  Calls Try.prog 48 #[v1, .func (.func 49) #[] #[.pointer (some ⟨b3, 0, none⟩)]] w0 (Ret (fun v w' => ∃ ρ', v = .tuple #[] ∧ MapT delegate_way.ek delegate_delegation.c true ρ' o w' v1 r ∧ Tr ρA w0 (rng o 1) ρ' w')) := by
 unfold maps_DeleteFunc_map_delegate_way_delegate_delegation_delegate_way_delegate_delegation__Delegations_Drop_1 at hS
 have hb := enter_fr (ρ := ρA) (w := w0) (n := 1) ho2 hbd
 have hz := hz.enter (n := 1) ho2
 replace he4 := he4.mv (enter_rd (n := 1) ho2) (Nat.succ_pos _)
 replace h2 := h2.mv (enter_mv (p := 0) (n := 1) (by decide) ho2)
 replace h2 : MapT delegate_way.ek delegate_delegation.c true (enter ρA o 1) 100 w0 v1 m_0 := h2
 refine calls_of_ke Try.func48 rfl (n := 19) rfl rfl (l := [(0, v1), (1, .func (.func 49) #[] #[.pointer (some ⟨b3, 0, none⟩)])]) rfl ?_
 refine ke_seq ?_
 refine ke_region ?_
 refine sr_ev (v := v1) (ev_move rfl) (by decide) ?_
 refine sr_rangeM 9 (by decide) h2 rfl Try.underlying52 hb.bd rfl (by decide) ?_
 intro r5 ρ6 w7 h8 htr9
 replace h2 := h2.mv (htr9.mv (i := 100) rfl)
 replace he4 := he4.mv (htr9.mv (i := 0) rfl) (Nat.succ_pos _)
 replace hb := hb.trans htr9
 refine sr_end (l' := [(0, v1), (1, .func (.func 49) #[] #[.pointer (some ⟨b3, 0, none⟩)]), (7, .pointer (some ⟨r5, 0, none⟩))]) (.cons rfl (.cons rfl (.cons rfl (.nil _)))) ?_
 refine ke_block ?_
 have hK := maps_DeleteFunc_map_delegate_way_delegate_delegation_delegate_way_delegate_delegation__Delegations_Drop_1_L1_ok hg hbd ho2 hz _ hS hb h2 he4 h8
 exact ke_weaken (l' := [(0, v1), (1, .func (.func 49) #[] #[.pointer (some ⟨b3, 0, none⟩)]), (7, .pointer (some ⟨r5, 0, none⟩))]) (.cons rfl (.cons rfl (.cons rfl (.nil _)))) (ke_loop hK)
theorem delegate_Delegations_Drop_ok (w0 : World) (hg : Gs w0) {ρA : Tags} (hbd : ∀ b, ρA b ≠ 0 → b < w0.heap.size) (hz : Gz ρA) {o : Nat} (ho2 : 2 ≤ o) {d_0 : delegate_Delegations} {user_1 : Str} {gd_0 : Nat} {r : Int × delegate_Delegations} (ho0 : delegate_Delegations.O (fun p => o + p) ρA w0 gd_0 d_0) (hS : delegate_Delegations_Drop d_0 user_1 = some r) :
  Calls Try.prog 24 #[.pointer (some ⟨gd_0, 0, none⟩), str user_1] w0 (Ret (fun v w' => ∃ ρ', v = .int .i64 r.1 ∧ delegate_Delegations.O (fun p => o + p) ρ' w' gd_0 r.2 ∧ Tr ρA w0 (rng o 2) ρ' w')) := by
 unfold delegate_Delegations_Drop at hS
 have hb := enter_fr (ρ := ρA) (w := w0) (n := 2) ho2 hbd
 have hz := hz.enter (n := 2) ho2
 obtain ⟨v1, hB3, h2⟩ := ho0
 replace hB3 := hB3.mv (enter_mv (p := 0) (n := 2) (by decide) ho2)
 replace h2 := h2.mv (enter_mv (p := 1) (n := 2) (by decide) ho2)
 replace hB3 : Blk (enter ρA o 2) 100 w0 gd_0 (.cells #[v1] 54 (0, 0)) := hB3
 replace h2 : MapT delegate_way.ek delegate_delegation.c true (enter ρA o 2) 101 w0 v1 d_0.ways := h2
 refine calls_of_ke Try.func24 rfl (n := 27) rfl rfl (l := [(0, .pointer (some ⟨gd_0, 0, none⟩)), (1, str user_1)]) rfl ?_
 refine ke_seq ?_
 refine ke_region ?_
 refine sr_boxT 5 (by decide) hb.bd rfl (by decide) ?_
 intro g4 ρ5 w6 hB8 htr7
 replace hB3 := hB3.mv (htr7.mv (i := 100) rfl)
 replace h2 := h2.mv (htr7.mv (i := 101) rfl)
 replace hb := hb.trans htr7
 replace hB8 : Blk ρ5 5 w6 g4 (.cells #[str user_1] 9 (0, 0)) := hB8
 refine sr_ev (v := .int .i64 0) (ev_assign rfl) (by decide) ?_
 refine sr_end (l' := [(0, .pointer (some ⟨gd_0, 0, none⟩)), (3, .pointer (some ⟨g4, 0, none⟩))]) (.cons rfl (.cons rfl (.nil _))) ?_
 refine ke_seq ?_
 refine ke_seq ?_
 refine ke_region ?_
 refine sr_ev (v := .pointer (some ⟨gd_0, 0, none⟩)) (ev_move rfl) (by decide) ?_
 obtain ⟨y9, hy10, hS⟩ := bind_some' hS
 refine sr_call (vs := [.pointer (some ⟨gd_0, 0, none⟩)]) rfl Try.call38 rfl (delegate_Delegations_made_ok _ (hg.fr hz hb) (ρA := ρ5) hb.bd (hz.fr hg hb) (τ0 := (fun p => 100 + p)) (fun p => Nat.le_add_right_of_le (by decide)) (⟨_, hB3, h2⟩ : delegate_Delegations.O (fun p => 100 + p) ρ5 w6 gd_0 d_0) hy10) (by decide) ?_
 rintro _ w11 ⟨rfl, hbw12⟩
 have htr13 := Tr.of_below hbw12 hb.bd
 replace hB8 := hB8.mv (htr13.mv (i := 5) rfl)
 replace hB3 := hB3.mv (htr13.mv (i := 100) rfl)
 replace h2 := h2.mv (htr13.mv (i := 101) rfl)
 replace hb := hb.trans htr13
 refine sr_ev (v := .bool (!y9)) (ev_not rfl) (by decide) ?_
 refine sr_end (l' := [(0, .pointer (some ⟨gd_0, 0, none⟩)), (3, .pointer (some ⟨g4, 0, none⟩)), (8, .bool (!y9))]) (.cons rfl (.cons rfl (.cons rfl (.nil _)))) ?_
 refine ke_cond (t := !y9) rfl (fun hc14 => ?_) (fun hc14 => ?_)
 ·replace hS := ite_true' hS hc14
  refine ke_seq ?_
  refine ke_region ?_
  refine sr_ev (v := .int .i64 0) (ev_assign rfl) (by decide) ?_
  refine sr_end (l' := [(4, .int .i64 0)]) (.cons rfl (.nil _)) ?_
  cases hS
  exact ke_ret1 Try.func24 rfl rfl ⟨_, rfl, leave ρA w0 o 2 ρ5, rfl, ⟨_, (hB3.mv (leave_mv (p := 0) (by decide) hb)), (h2.mv (leave_mv (p := 1) (by decide) hb))⟩, (leave_tr ho2 hb)⟩
 ·replace hS := ite_false' hS hc14
  refine ke_skip ?_
  refine ke_seq ?_
  refine ke_region ?_
  refine sr_ev (v := .pointer (some ⟨gd_0, 0, none⟩)) (ev_move rfl) (by decide) ?_
  refine sr_ev (v := .pointer (some ⟨gd_0, 0, none⟩)) (ev_nilCheck rfl) (by decide) ?_
  refine sr_ev (v := .pointer (some ⟨gd_0, 0, none⟩)) (ev_fieldAddr (i := 0) Try.underlying54 rfl Try.info52 rfl rfl) (by decide) ?_
  refine sr_ev (v := v1) (ev_load Try.isAgg52 rfl (hB3.cell rfl)) (by decide) ?_
  refine sr_ev (v := .int .i64 (mlen d_0.ways)) (ev_mapLen h2 Try.underlying52 (Mv.of_below (i := 101) (ρ := ρ5) (Below.refl _ _)) rfl) (by decide) ?_
  refine sr_ev (v := .int .i64 (mlen d_0.ways)) (ev_assign rfl) (by decide) ?_
  refine sr_end (l' := [(0, .pointer (some ⟨gd_0, 0, none⟩)), (3, .pointer (some ⟨g4, 0, none⟩)), (5, .int .i64 (mlen d_0.ways))]) (.cons rfl (.cons rfl (.cons rfl (.nil _)))) ?_
  refine ke_seq ?_
  refine ke_region ?_
  refine sr_ev (v := .pointer (some ⟨gd_0, 0, none⟩)) (ev_move rfl) (by decide) ?_
  refine sr_ev (v := .pointer (some ⟨gd_0, 0, none⟩)) (ev_nilCheck rfl) (by decide) ?_
  refine sr_ev (v := .pointer (some ⟨gd_0, 0, none⟩)) (ev_fieldAddr (i := 0) Try.underlying54 rfl Try.info52 rfl rfl) (by decide) ?_
  refine sr_ev (v := v1) (ev_load Try.isAgg52 rfl (hB3.cell rfl)) (by decide) ?_
  have htr15 := frz_tr (ρ := ρ5) (w := w11) (i := 5) (by decide) hb.bd
  have he16 : ElT strC (frz ρ5 5) 0 w11 g4 0 [str user_1] user_1 := Blk.frzEl hB8 rfl rfl
  replace h2 := h2.mv (htr15.mv (i := 101) rfl)
  replace hB3 := hB3.mv (htr15.mv (i := 100) rfl)
  replace hb := hb.trans htr15
  refine sr_ev (v := .func (.func 49) #[] #[.pointer (some ⟨g4, 0, none⟩)]) (ev_makeFunc rfl) (by decide) ?_
  obtain ⟨y17, hy18, hS⟩ := bind_some' hS
  refine sr_call (vs := [v1, .func (.func 49) #[] #[.pointer (some ⟨g4, 0, none⟩)]]) rfl Try.call48 rfl (maps_DeleteFunc_map_delegate_way_delegate_delegation_delegate_way_delegate_delegation__Delegations_Drop_1_ok _ (hg.fr hz hb) (ρA := (frz ρ5 5)) hb.bd (hz.fr hg hb) (o := 101) (by decide) h2 he16 hy18) (by decide) ?_
  rintro _ w19 ⟨ρ22, rfl, h21, htr21⟩
  replace hB3 := hB3.mv (htr21.mv (i := 100) rfl)
  replace hb := hb.trans htr21
  replace h2 := h21
  clear h21
  refine sr_end (l' := [(0, .pointer (some ⟨gd_0, 0, none⟩)), (5, .int .i64 (mlen d_0.ways))]) (.cons rfl (.cons rfl (.nil _))) ?_
  refine ke_seq ?_
  refine ke_region ?_
  refine sr_ev (v := .int .i64 (mlen d_0.ways)) (ev_move rfl) (by decide) ?_
  refine sr_ev (v := .pointer (some ⟨gd_0, 0, none⟩)) (ev_move rfl) (by decide) ?_
  refine sr_ev (v := .pointer (some ⟨gd_0, 0, none⟩)) (ev_nilCheck rfl) (by decide) ?_
  refine sr_ev (v := .pointer (some ⟨gd_0, 0, none⟩)) (ev_fieldAddr (i := 0) Try.underlying54 rfl Try.info52 rfl rfl) (by decide) ?_
  refine sr_ev (v := v1) (ev_load Try.isAgg52 rfl (hB3.cell rfl)) (by decide) ?_
  refine sr_ev (v := .int .i64 (mlen y17)) (ev_mapLen h2 Try.underlying52 (Mv.of_below (i := 101) (ρ := ρ22) (Below.refl _ _)) rfl) (by decide) ?_
  refine sr_ev (v := .int .i64 (IntKind.i64.wrap ((mlen d_0.ways) - (mlen y17)))) (ev_sub rfl rfl) (by decide) ?_
  refine sr_ev (v := .int .i64 (IntKind.i64.wrap ((mlen d_0.ways) - (mlen y17)))) (ev_assign rfl) (by decide) ?_
  refine sr_end (l' := [(4, .int .i64 (IntKind.i64.wrap ((mlen d_0.ways) - (mlen y17))))]) (.cons rfl (.nil _)) ?_
  cases hS
  exact ke_ret1 Try.func24 rfl rfl ⟨_, rfl, leave ρA w0 o 2 ρ22, rfl, ⟨_, (hB3.mv (leave_mv (p := 0) (by decide) hb)), (h2.mv (leave_mv (p := 1) (by decide) hb))⟩, (leave_tr ho2 hb)⟩
theorem delegate_Delegations_made__nil_ok (w0 : World) (hg : Gs w0) {ρA : Tags} (hbd : ∀ b, ρA b ≠ 0 → b < w0.heap.size) (hz : Gz ρA) {r : Bool} (hS : delegate_Delegations_made__nil = some r) :
  Calls Try.prog 38 #[.pointer none] w0 (Ret (fun v w' => v = .bool r ∧ Below w0.heap.size w0 w')) := by
 unfold delegate_Delegations_made__nil at hS
 have hb := flat1_fr (ρ := ρA) (w := w0) hbd
 have hz := hz.flat1
 refine calls_of_ke Try.func38 rfl (n := 12) rfl rfl (l := [(0, .pointer none)]) rfl ?_
 refine ke_seq ?_
 refine ke_region ?_
 refine sr_ev (v := .bool false) (ev_assign rfl) (by decide) ?_
 refine sr_end (l' := [(0, .pointer none)]) (.cons rfl (.nil _)) ?_
 refine ke_seq ?_
 refine ke_region ?_
 refine sr_ev (v := .pointer none) (ev_move rfl) (by decide) ?_
 refine sr_ev (v := .bool false) (ev_pneT_nil Try.underlying27 rfl rfl) (by decide) ?_
 refine sr_ev (v := .bool false) (ev_move rfl) (by decide) ?_
 refine sr_pass (e := 5) rfl rfl rfl (by decide) ?_
 refine sr_pass (e := 5) rfl rfl rfl (by decide) ?_
 refine sr_pass (e := 5) rfl rfl rfl (by decide) ?_
 refine sr_pass (e := 5) rfl rfl rfl (by decide) ?_
 refine sr_pass (e := 5) rfl rfl rfl (by decide) ?_
 refine sr_ev (v := .bool false) (ev_pick_f rfl rfl rfl) (by decide) ?_
 refine sr_ev (v := .bool false) (ev_assign rfl) (by decide) ?_
 refine sr_end (l' := [(2, .bool false)]) (.cons rfl (.nil _)) ?_
 cases hS
 exact ke_ret1 Try.func38 rfl rfl ⟨_, rfl, rfl, (hb.below (flat1_le _))⟩
theorem delegate_Delegations_May__nil_ok (w0 : World) (hg : Gs w0) {ρA : Tags} (hbd : ∀ b, ρA b ≠ 0 → b < w0.heap.size) (hz : Gz ρA) {from_1 : Str} {to_2 : Str} {scopes_3 : List Str} {now_4 : Int} {v1 : Value} {r : Int} (h2 : SlR strC (Wb ρA) w0 v1 scopes_3) (hS : delegate_Delegations_May__nil from_1 to_2 scopes_3 now_4 = some r) :
  Calls Try.prog 26 #[.pointer none, str from_1, str to_2, v1, .int .i64 now_4] w0 (Ret (fun v w' => v = .int .i64 r ∧ Below w0.heap.size w0 w')) := by
 unfold delegate_Delegations_May__nil at hS
 have hb := flat1_fr (ρ := ρA) (w := w0) hbd
 have hz := hz.flat1
 replace h2 := SlR.mv h2 flat1_rd
 refine calls_of_ke Try.func26 rfl (n := 42) rfl rfl (l := [(0, .pointer none), (1, str from_1), (2, str to_2), (3, v1), (4, .int .i64 now_4)]) rfl ?_
 refine ke_seq ?_
 refine ke_region ?_
 refine sr_ev (v := .int .i64 0) (ev_assign rfl) (by decide) ?_
 refine sr_end (l' := [(0, .pointer none), (1, str from_1), (2, str to_2), (3, v1), (4, .int .i64 now_4)]) (.cons rfl (.cons rfl (.cons rfl (.cons rfl (.cons rfl (.nil _)))))) ?_
 refine ke_seq ?_
 refine ke_seq ?_
 refine ke_region ?_
 refine sr_ev (v := .pointer none) (ev_move rfl) (by decide) ?_
 obtain ⟨y3, hy4, hS⟩ := bind_some' hS
 obtain rfl : y3 = false := (Option.some.inj hy4).symm
 refine sr_call (vs := [.pointer none]) rfl Try.call38 rfl (delegate_Delegations_made__nil_ok _ (hg.fr hz hb) (ρA := (flat1 ρA)) hb.bd (hz.fr hg hb) hy4) (by decide) ?_
 rintro _ w5 ⟨rfl, hbw6⟩
 have htr7 := Tr.of_below hbw6 hb.bd
 replace h2 := h2.mv htr7.rd
 replace hb := hb.trans htr7
 refine sr_ev (v := .bool true) (ev_notc rfl rfl) (by decide) ?_
 refine sr_end (l' := [(0, .pointer none), (1, str from_1), (2, str to_2), (3, v1), (4, .int .i64 now_4), (16, .bool true)]) (.cons rfl (.cons rfl (.cons rfl (.cons rfl (.cons rfl (.cons rfl (.nil _))))))) ?_
 refine ke_cond (t := true) rfl (fun _ => ?_) (fun h => by cases h)
 refine ke_seq ?_
 refine ke_region ?_
 refine sr_ev (v := .int .i64 1) (ev_assign rfl) (by decide) ?_
 refine sr_end (l' := [(10, .int .i64 1)]) (.cons rfl (.nil _)) ?_
 cases hS
 exact ke_ret1 Try.func26 rfl rfl ⟨_, rfl, rfl, (hb.below (flat1_le _))⟩
theorem delegate_Delegations_Drop__nil_ok (w0 : World) (hg : Gs w0) {ρA : Tags} (hbd : ∀ b, ρA b ≠ 0 → b < w0.heap.size) (hz : Gz ρA) {user_1 : Str} {r : Int} (hS : delegate_Delegations_Drop__nil user_1 = some r) :
  Calls Try.prog 24 #[.pointer none, str user_1] w0 (Ret (fun v w' => v = .int .i64 r ∧ Below w0.heap.size w0 w')) := by
 unfold delegate_Delegations_Drop__nil at hS
 have hb := flat1_fr (ρ := ρA) (w := w0) hbd
 have hz := hz.flat1
 refine calls_of_ke Try.func24 rfl (n := 27) rfl rfl (l := [(0, .pointer none), (1, str user_1)]) rfl ?_
 refine ke_seq ?_
 refine ke_region ?_
 refine sr_boxT 5 (by decide) hb.bd rfl (by decide) ?_
 intro g1 ρ2 w3 hB5 htr4
 replace hb := hb.trans htr4
 replace hB5 : Blk ρ2 5 w3 g1 (.cells #[str user_1] 9 (0, 0)) := hB5
 refine sr_ev (v := .int .i64 0) (ev_assign rfl) (by decide) ?_
 refine sr_end (l' := [(0, .pointer none), (3, .pointer (some ⟨g1, 0, none⟩))]) (.cons rfl (.cons rfl (.nil _))) ?_
 refine ke_seq ?_
 refine ke_seq ?_
 refine ke_region ?_
 refine sr_ev (v := .pointer none) (ev_move rfl) (by decide) ?_
 obtain ⟨y6, hy7, hS⟩ := bind_some' hS
 obtain rfl : y6 = false := (Option.some.inj hy7).symm
 refine sr_call (vs := [.pointer none]) rfl Try.call38 rfl (delegate_Delegations_made__nil_ok _ (hg.fr hz hb) (ρA := ρ2) hb.bd (hz.fr hg hb) hy7) (by decide) ?_
 rintro _ w8 ⟨rfl, hbw9⟩
 have htr10 := Tr.of_below hbw9 hb.bd
 replace hB5 := hB5.mv (htr10.mv (i := 5) rfl)
 replace hb := hb.trans htr10
 refine sr_ev (v := .bool true) (ev_notc rfl rfl) (by decide) ?_
 refine sr_end (l' := [(0, .pointer none), (3, .pointer (some ⟨g1, 0, none⟩)), (8, .bool true)]) (.cons rfl (.cons rfl (.cons rfl (.nil _)))) ?_
 refine ke_cond (t := true) rfl (fun _ => ?_) (fun h => by cases h)
 refine ke_seq ?_
 refine ke_region ?_
 refine sr_ev (v := .int .i64 0) (ev_assign rfl) (by decide) ?_
 refine sr_end (l' := [(4, .int .i64 0)]) (.cons rfl (.nil _)) ?_
 cases hS
 exact ke_ret1 Try.func24 rfl rfl ⟨_, rfl, rfl, (hb.below (flat1_le _))⟩
theorem law35_awake_ok (w0 : World) (hg : Gs w0) {ρA : Tags} (hbd : ∀ b, ρA b ≠ 0 → b < w0.heap.size) (hz : Gz ρA) {r : Bool} (hS : law35_awake = some r) :
  Calls Try.prog 10 #[] w0 (Ret (fun v w' => v = .bool r ∧ Below w0.heap.size w0 w')) := by
 unfold law35_awake at hS
 have hb := flat1_fr (ρ := ρA) (w := w0) hbd
 have hz := hz.flat1
 refine calls_of_ke Try.func10 rfl (n := 115) rfl rfl (l := []) rfl ?_
 refine ke_seq ?_
 refine ke_region ?_
 refine sr_ev (v := .bool false) (ev_assign rfl) (by decide) ?_
 refine sr_end (l' := []) (.nil _) ?_
 refine ke_seq ?_
 refine ke_region ?_
 obtain ⟨y1, hy2, hS⟩ := bind_some' hS
 refine sr_call (vs := []) rfl Try.call11 rfl (delegate_New_ok _ (hg.fr hz hb) (ρA := (flat1 ρA)) hb.bd (hz.fr hg hb) (o := 100) (by decide) hy2) (by decide) ?_
 rintro _ w3 ⟨ρ10, g6, rfl, ⟨v7, hB9, h8⟩, htr5⟩
 replace hb := hb.trans htr5
 replace hB9 : Blk ρ10 100 w3 g6 (.cells #[v7] 54 (0, 0)) := hB9
 replace h8 : MapT delegate_way.ek delegate_delegation.c true ρ10 101 w3 v7 y1.ways := h8
 refine sr_ev (v := .pointer (some ⟨g6, 0, none⟩)) (ev_assign rfl) (by decide) ?_
 refine sr_end (l' := [(1, .pointer (some ⟨g6, 0, none⟩))]) (.cons rfl (.nil _)) ?_
 refine ke_seq ?_
 refine ke_seq ?_
 refine ke_region ?_
 refine sr_ev (v := .pointer (some ⟨g6, 0, none⟩)) (ev_move rfl) (by decide) ?_
 refine sr_ev (v := .bool false) (ev_peqT_some Try.underlying27 rfl rfl) (by decide) ?_
 refine sr_end (l' := [(1, .pointer (some ⟨g6, 0, none⟩)), (13, .bool false)]) (.cons rfl (.cons rfl (.nil _))) ?_
 refine ke_cond (t := false) rfl (fun h => by cases h) (fun _ => ?_)
 refine ke_skip ?_
 refine ke_seq ?_
 refine ke_region ?_
 refine sr_ev (v := .agg #[.int .i64 5, .int .i64 20]) (ev_build (vs := #[(0, .int .i64 5), (1, .int .i64 20)]) rfl (fun _ => by kernel_rfl)) (by decide) ?_
 refine sr_allocT 4 (by decide) hb.bd Try.zeroValue33 (by decide) ?_
 intro g11 ρ12 w13 hB15 htr14
 replace hB9 := hB9.mv (htr14.mv (i := 100) rfl)
 replace h8 := h8.mv (htr14.mv (i := 101) rfl)
 replace hb := hb.trans htr14
 replace hB15 : Blk ρ12 4 w13 g11 (.cells #[.int .i64 0, .int .i64 0] 33 (0, 0)) := hB15
 refine sr_storeT (v := .agg #[.int .i64 5, .int .i64 20]) (vs := [.int .i64 5, .int .i64 20]) (cs' := #[.int .i64 5, .int .i64 20]) hB15 (by decide) hb.bd rfl rfl rfl Try.sizeOf33 rfl rfl rfl ?_
 intro w16 hB151 htr17
 replace hB9 := hB9.mv (htr17.mv (i := 100) rfl)
 replace h8 := h8.mv (htr17.mv (i := 101) rfl)
 replace hb := hb.trans htr17
 replace hB15 : Blk ρ12 4 w16 g11 (.cells #[.int .i64 5, .int .i64 20] 33 (0, 0)) := hB151
 clear hB151
 refine sr_end (l' := [(1, .pointer (some ⟨g6, 0, none⟩)), (2, .pointer (some ⟨g11, 0, none⟩))]) (.cons rfl (.cons rfl (.nil _))) ?_
 refine ke_seq ?_
 refine ke_region ?_
 refine sr_ev (v := .pointer (some ⟨g6, 0, none⟩)) (ev_move rfl) (by decide) ?_
 refine sr_litT (c := strC) (ρ := ρ12) (E := 9) (xs := [[109, 97, 105, 108]]) (vs := #[(0, str ([109, 97, 105, 108]))]) (cs := #[str ([109, 97, 105, 108])]) (css := [[str ([109, 97, 105, 108])]]) rfl (fun _ => by kernel_rfl) rfl ⟨rfl, trivial⟩ rfl (by decide) hb.bd (by decide) ?_
 intro v18 w20 h19 hbw22
 have htr21 := Tr.of_below hbw22 hb.bd
 replace hB15 := hB15.mv (htr21.mv (i := 4) rfl)
 replace hB9 := hB9.mv (htr21.mv (i := 100) rfl)
 replace h8 := h8.mv (htr21.mv (i := 101) rfl)
 replace hb := hb.trans htr21
 refine sr_ev (v := .agg #[.int .i64 5, .int .i64 20]) (ev_loads (cs := [.int .i64 5, .int .i64 20]) Try.isAgg33 Try.sizeOf33 rfl (hB15.cells (vs := [.int .i64 5, .int .i64 20]) rfl)) (by decide) ?_
 obtain ⟨y23, hy24, hS⟩ := bind_some' hS
 refine sr_call (vs := [.pointer (some ⟨g6, 0, none⟩), str ([97, 110, 110]), str ([97, 110, 110]), v18, .agg #[.int .i64 5, .int .i64 20]]) rfl Try.call22 rfl (delegate_Delegations_Allow_ok (w_4 := (api_Window.mk 5 20)) _ (hg.fr hz hb) (ρA := ρ12) hb.bd (hz.fr hg hb) (o := 100) (by decide) h19 (⟨_, hB9, h8⟩ : delegate_Delegations.O (fun p => 100 + p) ρ12 w20 g6 y1) hy24) (by decide) ?_
 rintro _ w25 ⟨ρ31, rfl, ⟨v28, hB30, h29⟩, htr27⟩
 replace hB15 := hB15.mv (htr27.mv (i := 4) rfl)
 replace hb := hb.trans htr27
 replace hB30 : Blk ρ31 100 w25 g6 (.cells #[v28] 54 (0, 0)) := hB30
 replace h29 : MapT delegate_way.ek delegate_delegation.c true ρ31 101 w25 v28 y23.2.ways := h29
 refine sr_ev (v := .int .i64 y23.1) (ev_assign rfl) (by decide) ?_
 refine sr_end (l' := [(1, .pointer (some ⟨g6, 0, none⟩)), (2, .pointer (some ⟨g11, 0, none⟩)), (3, .int .i64 y23.1)]) (.cons rfl (.cons rfl (.cons rfl (.nil _)))) ?_
 refine ke_seq ?_
 refine ke_region ?_
 refine sr_ev (v := .pointer (some ⟨g6, 0, none⟩)) (ev_move rfl) (by decide) ?_
 refine sr_litT (c := strC) (ρ := ρ31) (E := 9) (xs := [[109, 97, 105, 108]]) (vs := #[(0, str ([109, 97, 105, 108]))]) (cs := #[str ([109, 97, 105, 108])]) (css := [[str ([109, 97, 105, 108])]]) rfl (fun _ => by kernel_rfl) rfl ⟨rfl, trivial⟩ rfl (by decide) hb.bd (by decide) ?_
 intro v32 w34 h33 hbw36
 have htr35 := Tr.of_below hbw36 hb.bd
 replace hB15 := hB15.mv (htr35.mv (i := 4) rfl)
 replace hB30 := hB30.mv (htr35.mv (i := 100) rfl)
 replace h29 := h29.mv (htr35.mv (i := 101) rfl)
 replace hb := hb.trans htr35
 refine sr_ev (v := .agg #[.int .i64 5, .int .i64 20]) (ev_loads (cs := [.int .i64 5, .int .i64 20]) Try.isAgg33 Try.sizeOf33 rfl (hB15.cells (vs := [.int .i64 5, .int .i64 20]) rfl)) (by decide) ?_
 obtain ⟨y37, hy38, hS⟩ := bind_some' hS
 refine sr_call (vs := [.pointer (some ⟨g6, 0, none⟩), str ([97, 110, 110]), str ([98, 111, 98]), v32, .agg #[.int .i64 5, .int .i64 20]]) rfl Try.call22 rfl (delegate_Delegations_Allow_ok (w_4 := (api_Window.mk 5 20)) _ (hg.fr hz hb) (ρA := ρ31) hb.bd (hz.fr hg hb) (o := 100) (by decide) h33 (⟨_, hB30, h29⟩ : delegate_Delegations.O (fun p => 100 + p) ρ31 w34 g6 y23.2) hy38) (by decide) ?_
 rintro _ w39 ⟨ρ45, rfl, ⟨v42, hB44, h43⟩, htr41⟩
 replace hB15 := hB15.mv (htr41.mv (i := 4) rfl)
 replace hb := hb.trans htr41
 replace hB44 : Blk ρ45 100 w39 g6 (.cells #[v42] 54 (0, 0)) := hB44
 replace h43 : MapT delegate_way.ek delegate_delegation.c true ρ45 101 w39 v42 y37.2.ways := h43
 refine sr_ev (v := .int .i64 y37.1) (ev_assign rfl) (by decide) ?_
 refine sr_end (l' := [(1, .pointer (some ⟨g6, 0, none⟩)), (2, .pointer (some ⟨g11, 0, none⟩)), (3, .int .i64 y23.1), (4, .int .i64 y37.1)]) (.cons rfl (.cons rfl (.cons rfl (.cons rfl (.nil _))))) ?_
 refine ke_seq ?_
 refine ke_region ?_
 refine sr_ev (v := .pointer (some ⟨g6, 0, none⟩)) (ev_move rfl) (by decide) ?_
 refine sr_litT (c := strC) (ρ := ρ45) (E := 9) (xs := [[109, 97, 105, 108, 46, 114, 101, 97, 100]]) (vs := #[(0, str ([109, 97, 105, 108, 46, 114, 101, 97, 100]))]) (cs := #[str ([109, 97, 105, 108, 46, 114, 101, 97, 100])]) (css := [[str ([109, 97, 105, 108, 46, 114, 101, 97, 100])]]) rfl (fun _ => by kernel_rfl) rfl ⟨rfl, trivial⟩ rfl (by decide) hb.bd (by decide) ?_
 intro v46 w48 h47 hbw50
 have htr49 := Tr.of_below hbw50 hb.bd
 replace hB15 := hB15.mv (htr49.mv (i := 4) rfl)
 replace hB44 := hB44.mv (htr49.mv (i := 100) rfl)
 replace h43 := h43.mv (htr49.mv (i := 101) rfl)
 replace hb := hb.trans htr49
 refine sr_ev (v := .agg #[.int .i64 5, .int .i64 20]) (ev_loads (cs := [.int .i64 5, .int .i64 20]) Try.isAgg33 Try.sizeOf33 rfl (hB15.cells (vs := [.int .i64 5, .int .i64 20]) rfl)) (by decide) ?_
 obtain ⟨y51, hy52, hS⟩ := bind_some' hS
 refine sr_call (vs := [.pointer (some ⟨g6, 0, none⟩), str ([98, 111, 98]), str ([99, 121, 100]), v46, .agg #[.int .i64 5, .int .i64 20]]) rfl Try.call22 rfl (delegate_Delegations_Allow_ok (w_4 := (api_Window.mk 5 20)) _ (hg.fr hz hb) (ρA := ρ45) hb.bd (hz.fr hg hb) (o := 100) (by decide) h47 (⟨_, hB44, h43⟩ : delegate_Delegations.O (fun p => 100 + p) ρ45 w48 g6 y37.2) hy52) (by decide) ?_
 rintro _ w53 ⟨ρ59, rfl, ⟨v56, hB58, h57⟩, htr55⟩
 replace hb := hb.trans htr55
 replace hB58 : Blk ρ59 100 w53 g6 (.cells #[v56] 54 (0, 0)) := hB58
 replace h57 : MapT delegate_way.ek delegate_delegation.c true ρ59 101 w53 v56 y51.2.ways := h57
 refine sr_ev (v := .int .i64 y51.1) (ev_assign rfl) (by decide) ?_
 refine sr_end (l' := [(1, .pointer (some ⟨g6, 0, none⟩)), (3, .int .i64 y23.1), (4, .int .i64 y37.1), (5, .int .i64 y51.1)]) (.cons rfl (.cons rfl (.cons rfl (.cons rfl (.nil _))))) ?_
 refine ke_seq ?_
 refine ke_region ?_
 refine sr_ev (v := .pointer (some ⟨g6, 0, none⟩)) (ev_move rfl) (by decide) ?_
 refine sr_litT (c := strC) (ρ := ρ59) (E := 9) (xs := [[109, 97, 105, 108, 46, 114, 101, 97, 100]]) (vs := #[(0, str ([109, 97, 105, 108, 46, 114, 101, 97, 100]))]) (cs := #[str ([109, 97, 105, 108, 46, 114, 101, 97, 100])]) (css := [[str ([109, 97, 105, 108, 46, 114, 101, 97, 100])]]) rfl (fun _ => by kernel_rfl) rfl ⟨rfl, trivial⟩ rfl (by decide) hb.bd (by decide) ?_
 intro v60 w62 h61 hbw64
 have htr63 := Tr.of_below hbw64 hb.bd
 replace hB58 := hB58.mv (htr63.mv (i := 100) rfl)
 replace h57 := h57.mv (htr63.mv (i := 101) rfl)
 replace hb := hb.trans htr63
 refine sr_ev (v := .agg #[.int .i64 5, .int .i64 5]) (ev_build (vs := #[(0, .int .i64 5), (1, .int .i64 5)]) rfl (fun _ => by kernel_rfl)) (by decide) ?_
 obtain ⟨y65, hy66, hS⟩ := bind_some' hS
 refine sr_call (vs := [.pointer (some ⟨g6, 0, none⟩), str ([98, 111, 98]), str ([99, 121, 100]), v60, .agg #[.int .i64 5, .int .i64 5]]) rfl Try.call22 rfl (delegate_Delegations_Allow_ok (w_4 := (api_Window.mk 5 5)) _ (hg.fr hz hb) (ρA := ρ59) hb.bd (hz.fr hg hb) (o := 100) (by decide) h61 (⟨_, hB58, h57⟩ : delegate_Delegations.O (fun p => 100 + p) ρ59 w62 g6 y51.2) hy66) (by decide) ?_
 rintro _ w67 ⟨ρ73, rfl, ⟨v70, hB72, h71⟩, htr69⟩
 replace hb := hb.trans htr69
 replace hB72 : Blk ρ73 100 w67 g6 (.cells #[v70] 54 (0, 0)) := hB72
 replace h71 : MapT delegate_way.ek delegate_delegation.c true ρ73 101 w67 v70 y65.2.ways := h71
 refine sr_ev (v := .int .i64 y65.1) (ev_assign rfl) (by decide) ?_
 refine sr_end (l' := [(1, .pointer (some ⟨g6, 0, none⟩)), (3, .int .i64 y23.1), (4, .int .i64 y37.1), (5, .int .i64 y51.1), (6, .int .i64 y65.1)]) (.cons rfl (.cons rfl (.cons rfl (.cons rfl (.cons rfl (.nil _)))))) ?_
 refine ke_seq ?_
 refine ke_region ?_
 refine sr_litT (c := strC) (ρ := ρ73) (E := 9) (xs := [[97, 110, 110], [98, 111, 98], [99, 121, 100]]) (vs := #[(0, str ([97, 110, 110])), (1, str ([98, 111, 98])), (2, str ([99, 121, 100]))]) (cs := #[str ([97, 110, 110]), str ([98, 111, 98]), str ([99, 121, 100])]) (css := [[str ([97, 110, 110])], [str ([98, 111, 98])], [str ([99, 121, 100])]]) rfl (fun _ => by kernel_rfl) rfl ⟨rfl, ⟨rfl, ⟨rfl, trivial⟩⟩⟩ rfl (by decide) hb.bd (by decide) ?_
 intro v74 w76 h75 hbw78
 have htr77 := Tr.of_below hbw78 hb.bd
 replace hB72 := hB72.mv (htr77.mv (i := 100) rfl)
 replace h71 := h71.mv (htr77.mv (i := 101) rfl)
 replace hb := hb.trans htr77
 refine sr_ev (v := v74) (ev_assign rfl) (by decide) ?_
 refine sr_end (l' := [(1, .pointer (some ⟨g6, 0, none⟩)), (3, .int .i64 y23.1), (4, .int .i64 y37.1), (5, .int .i64 y51.1), (6, .int .i64 y65.1), (7, v74)]) (.cons rfl (.cons rfl (.cons rfl (.cons rfl (.cons rfl (.cons rfl (.nil _))))))) ?_
 refine ke_seq ?_
 refine ke_seq ?_
 refine ke_region ?_
 refine sr_ev (v := .int .i64 y23.1) (ev_move rfl) (by decide) ?_
 refine sr_ev (v := .bool (y23.1 != 28)) (ev_ne rfl rfl) (by decide) ?_
 refine sr_ev (v := .bool (y23.1 != 28)) (ev_move rfl) (by decide) ?_
 refine sr_join (m := 3) (C := fun (x : Bool) w1 => x = ((y23.1 != 28) || (y37.1 != 0)) ∧ w76 = w1) (l' := fun x => [(1, .pointer (some ⟨g6, 0, none⟩)), (5, .int .i64 y51.1), (6, .int .i64 y65.1), (7, v74), (37, .bool x)]) ?_ ?_
 ·rintro _ _ ⟨rfl, rfl⟩
  refine sr_ev (v := .bool ((y23.1 != 28) || (y37.1 != 0))) (ev_move rfl) (by decide) ?_
  refine sr_join (m := 3) (C := fun (x : Bool) w1 => x = (((y23.1 != 28) || (y37.1 != 0)) || (y51.1 != 0)) ∧ w76 = w1) (l' := fun x => [(1, .pointer (some ⟨g6, 0, none⟩)), (6, .int .i64 y65.1), (7, v74), (41, .bool x)]) ?_ ?_
  ·rintro _ _ ⟨rfl, rfl⟩
   refine sr_ev (v := .bool (((y23.1 != 28) || (y37.1 != 0)) || (y51.1 != 0))) (ev_move rfl) (by decide) ?_
   refine sr_join (m := 3) (C := fun (x : Bool) w1 => x = ((((y23.1 != 28) || (y37.1 != 0)) || (y51.1 != 0)) || (y65.1 != 2)) ∧ w76 = w1) (l' := fun x => [(1, .pointer (some ⟨g6, 0, none⟩)), (7, v74), (45, .bool x)]) ?_ ?_
   ·rintro _ _ ⟨rfl, rfl⟩
    refine sr_ev (v := .bool ((((y23.1 != 28) || (y37.1 != 0)) || (y51.1 != 0)) || (y65.1 != 2))) (ev_move rfl) (by decide) ?_
    obtain ⟨z105, hz107, hS⟩ := bind_some' hS
    refine sr_join (m := 5) (C := fun (z : Bool) w1 => z105 = z ∧ ∃ ρ1, Tr ρ73 w76 (fun _ => false) ρ1 w1) (l' := fun z => [(1, .pointer (some ⟨g6, 0, none⟩)), (7, v74), (51, .bool z)]) ?_ ?_
    ·rintro _ w108 ⟨rfl, ρ109, hj106⟩
     replace h75 := h75.mv hj106.rd
     replace hB72 := hB72.mv (hj106.mv (i := 100) rfl)
     replace h71 := h71.mv (hj106.mv (i := 101) rfl)
     replace hb := hb.trans hj106
     refine sr_ev (v := .bool z105) (ev_move rfl) (by decide) ?_
     obtain ⟨z123, hz125, hS⟩ := bind_some' hS
     refine sr_join (m := 5) (C := fun (z : Bool) w1 => z123 = z ∧ ∃ ρ1, Tr ρ109 w108 (fun _ => false) ρ1 w1) (l' := fun z => [(1, .pointer (some ⟨g6, 0, none⟩)), (7, v74), (57, .bool z)]) ?_ ?_
     ·rintro _ w126 ⟨rfl, ρ127, hj124⟩
      replace h75 := h75.mv hj124.rd
      replace hB72 := hB72.mv (hj124.mv (i := 100) rfl)
      replace h71 := h71.mv (hj124.mv (i := 101) rfl)
      replace hb := hb.trans hj124
      refine sr_ev (v := .bool z123) (ev_move rfl) (by decide) ?_
      obtain ⟨z141, hz143, hS⟩ := bind_some' hS
      refine sr_join (m := 6) (C := fun (z : Bool) w1 => z141 = z ∧ ∃ ρ1, Tr ρ127 w126 (fun _ => false) ρ1 w1) (l' := fun z => [(1, .pointer (some ⟨g6, 0, none⟩)), (7, v74), (64, .bool z)]) ?_ ?_
      ·rintro _ w144 ⟨rfl, ρ145, hj142⟩
       replace h75 := h75.mv hj142.rd
       replace hB72 := hB72.mv (hj142.mv (i := 100) rfl)
       replace h71 := h71.mv (hj142.mv (i := 101) rfl)
       replace hb := hb.trans hj142
       refine sr_ev (v := .bool z141) (ev_move rfl) (by decide) ?_
       obtain ⟨z159, hz161, hS⟩ := bind_some' hS
       refine sr_join (m := 6) (C := fun (z : Bool) w1 => z159 = z ∧ ∃ ρ1, Tr ρ145 w144 (fun _ => false) ρ1 w1) (l' := fun z => [(1, .pointer (some ⟨g6, 0, none⟩)), (7, v74), (71, .bool z)]) ?_ ?_
       ·rintro _ w162 ⟨rfl, ρ163, hj160⟩
        replace h75 := h75.mv hj160.rd
        replace hB72 := hB72.mv (hj160.mv (i := 100) rfl)
        replace h71 := h71.mv (hj160.mv (i := 101) rfl)
        replace hb := hb.trans hj160
        refine sr_ev (v := .bool z159) (ev_move rfl) (by decide) ?_
        obtain ⟨z177, hz179, hS⟩ := bind_some' hS
        refine sr_join (m := 6) (C := fun (z : Bool) w1 => z177 = z ∧ ∃ ρ1, Tr ρ163 w162 (fun _ => false) ρ1 w1) (l' := fun z => [(1, .pointer (some ⟨g6, 0, none⟩)), (78, .bool z)]) ?_ ?_
        ·rintro _ w180 ⟨rfl, ρ181, hj178⟩
         replace hB72 := hB72.mv (hj178.mv (i := 100) rfl)
         replace h71 := h71.mv (hj178.mv (i := 101) rfl)
         replace hb := hb.trans hj178
         refine sr_end (l' := [(1, .pointer (some ⟨g6, 0, none⟩)), (78, .bool z177)]) (.cons rfl (.cons rfl (.nil _))) ?_
         refine ke_cond (t := z177) rfl (fun hc192 => ?_) (fun hc192 => ?_)
         ·replace hS := ite_true' hS hc192
          refine ke_seq ?_
          refine ke_region ?_
          refine sr_ev (v := .bool false) (ev_assign rfl) (by decide) ?_
          refine sr_end (l' := [(0, .bool false)]) (.cons rfl (.nil _)) ?_
          cases hS
          exact ke_ret1 Try.func10 rfl rfl ⟨_, rfl, rfl, (hb.below (flat1_le _))⟩
         ·replace hS := ite_false' hS hc192
          refine ke_skip ?_
          refine ke_seq ?_
          refine ke_region ?_
          refine sr_ev (v := .pointer (some ⟨g6, 0, none⟩)) (ev_move rfl) (by decide) ?_
          obtain ⟨y193, hy194, hS⟩ := bind_some' hS
          refine sr_call (vs := [.pointer (some ⟨g6, 0, none⟩), str ([99, 121, 100]), str ([109, 97, 105, 108, 46, 114, 101, 97, 100]), .int .i64 6]) rfl Try.call20 rfl (delegate_Delegations_Reach_ok _ (hg.fr hz hb) (ρA := ρ181) hb.bd (hz.fr hg hb) (τ0 := (fun p => 100 + p)) (fun p => Nat.le_add_right_of_le (by decide)) (⟨_, hB72, h71⟩ : delegate_Delegations.O (fun p => 100 + p) ρ181 w180 g6 y65.2) hy194) (by decide) ?_
          rintro v198 w195 ⟨_, rfl, h199, hbw196⟩
          have htr197 := Tr.of_below hbw196 hb.bd
          replace hB72 := hB72.mv (htr197.mv (i := 100) rfl)
          replace h71 := h71.mv (htr197.mv (i := 101) rfl)
          replace hb := hb.trans htr197
          refine sr_ev (v := v198) (ev_assign rfl) (by decide) ?_
          refine sr_end (l' := [(1, .pointer (some ⟨g6, 0, none⟩)), (8, v198)]) (.cons rfl (.cons rfl (.nil _))) ?_
          refine ke_seq ?_
          refine ke_region ?_
          refine sr_ev (v := .pointer (some ⟨g6, 0, none⟩)) (ev_move rfl) (by decide) ?_
          obtain ⟨y200, hy201, hS⟩ := bind_some' hS
          refine sr_call (vs := [.pointer (some ⟨g6, 0, none⟩), str ([97, 110, 110]), str ([98, 111, 98]), .int .i64 6]) rfl Try.call16 rfl (delegate_Delegations_Scopes_ok _ (hg.fr hz hb) (ρA := ρ181) hb.bd (hz.fr hg hb) (τ0 := (fun p => 100 + p)) (fun p => Nat.le_add_right_of_le (by decide)) (⟨_, hB72, h71⟩ : delegate_Delegations.O (fun p => 100 + p) ρ181 w195 g6 y65.2) hy201) (by decide) ?_
          rintro v205 w202 ⟨_, rfl, h206, hbw203⟩
          have htr204 := Tr.of_below hbw203 hb.bd
          replace h199 := h199.mv htr204.rd
          replace hB72 := hB72.mv (htr204.mv (i := 100) rfl)
          replace h71 := h71.mv (htr204.mv (i := 101) rfl)
          replace hb := hb.trans htr204
          refine sr_ev (v := v205) (ev_assign rfl) (by decide) ?_
          refine sr_end (l' := [(1, .pointer (some ⟨g6, 0, none⟩)), (8, v198), (9, v205)]) (.cons rfl (.cons rfl (.cons rfl (.nil _)))) ?_
          refine ke_seq ?_
          refine ke_region ?_
          refine sr_ev (v := .pointer none) (ev_assign rfl) (by decide) ?_
          refine sr_end (l' := [(1, .pointer (some ⟨g6, 0, none⟩)), (8, v198), (9, v205), (10, .pointer none)]) (.cons rfl (.cons rfl (.cons rfl (.cons rfl (.nil _))))) ?_
          refine ke_seq ?_
          refine ke_region ?_
          refine sr_ev (v := v198) (ev_move rfl) (by decide) ?_
          refine sr_litT (c := strC) (ρ := ρ181) (E := 9) (xs := [[97, 110, 110], [98, 111, 98]]) (vs := #[(0, str ([97, 110, 110])), (1, str ([98, 111, 98]))]) (cs := #[str ([97, 110, 110]), str ([98, 111, 98])]) (css := [[str ([97, 110, 110])], [str ([98, 111, 98])]]) rfl (fun _ => by kernel_rfl) rfl ⟨rfl, ⟨rfl, trivial⟩⟩ rfl (by decide) hb.bd (by decide) ?_
          intro v207 w209 h208 hbw211
          have htr210 := Tr.of_below hbw211 hb.bd
          replace h206 := h206.mv htr210.rd
          replace h199 := h199.mv htr210.rd
          replace hB72 := hB72.mv (htr210.mv (i := 100) rfl)
          replace h71 := h71.mv (htr210.mv (i := 101) rfl)
          replace hb := hb.trans htr210
          obtain ⟨y212, hy213, hS⟩ := bind_some' hS
          refine sr_call (vs := [v198, v207]) rfl Try.call15 rfl (ref03_Same_ok _ (hg.fr hz hb) h199.asSl h208.asSl hy213) (by decide) ?_
          rintro _ w214 ⟨rfl, hbw215⟩
          have htr216 := Tr.of_below hbw215 hb.bd
          replace h206 := h206.mv htr216.rd
          replace hB72 := hB72.mv (htr216.mv (i := 100) rfl)
          replace h71 := h71.mv (htr216.mv (i := 101) rfl)
          replace hb := hb.trans htr216
          refine sr_ev (v := .bool y212) (ev_move rfl) (by decide) ?_
          obtain ⟨z219, hz221, hS⟩ := bind_some' hS
          refine sr_join (m := 4) (C := fun (z : Bool) w1 => z219 = z ∧ ∃ ρ1, Tr ρ181 w214 (fun _ => false) ρ1 w1) (l' := fun z => [(1, .pointer (some ⟨g6, 0, none⟩)), (10, .pointer none), (90, .bool z)]) ?_ ?_
          ·rintro _ w222 ⟨rfl, ρ223, hj220⟩
           replace hB72 := hB72.mv (hj220.mv (i := 100) rfl)
           replace h71 := h71.mv (hj220.mv (i := 101) rfl)
           replace hb := hb.trans hj220
           refine sr_ev (v := .bool z219) (ev_move rfl) (by decide) ?_
           obtain ⟨z237, hz239, hS⟩ := bind_some' hS
           refine sr_join (m := 3) (C := fun (z : Bool × delegate_Delegations) w1 => z237 = z ∧ ∃ ρ1, delegate_Delegations.O (fun p => 100 + p) ρ1 w1 g6 z.2 ∧ Tr ρ223 w222 (fun t => ([100, 101] : List Nat).contains t) ρ1 w1) (l' := fun z => [(1, .pointer (some ⟨g6, 0, none⟩)), (10, .pointer none), (94, .bool z.1)]) ?_ ?_
           ·rintro _ w240 ⟨rfl, ρ241, ⟨v252, hB254, h253⟩, hj238⟩
            replace hb := hb.trans hj238
            replace hB254 : Blk ρ241 100 w240 g6 (.cells #[v252] 54 (0, 0)) := hB254
            replace h253 : MapT delegate_way.ek delegate_delegation.c true ρ241 101 w240 v252 z237.2.ways := h253
            refine sr_ev (v := .bool z237.1) (ev_move rfl) (by decide) ?_
            obtain ⟨z257, hz259, hS⟩ := bind_some' hS
            refine sr_join (m := 4) (C := fun (z : Bool) w1 => z257 = z ∧ ∃ ρ1, Tr ρ241 w240 (fun _ => false) ρ1 w1) (l' := fun z => [(1, .pointer (some ⟨g6, 0, none⟩)), (10, .pointer none), (99, .bool z)]) ?_ ?_
            ·rintro _ w260 ⟨rfl, ρ261, hj258⟩
             replace hB254 := hB254.mv (hj258.mv (i := 100) rfl)
             replace h253 := h253.mv (hj258.mv (i := 101) rfl)
             replace hb := hb.trans hj258
             refine sr_ev (v := .bool z257) (ev_move rfl) (by decide) ?_
             obtain ⟨z270, hz272, hS⟩ := bind_some' hS
             refine sr_join (m := 4) (C := fun (z : Bool × delegate_Delegations) w1 => z270 = z ∧ ∃ ρ1, delegate_Delegations.O (fun p => 100 + p) ρ1 w1 g6 z.2 ∧ Tr ρ261 w260 (fun t => ([100, 101] : List Nat).contains t) ρ1 w1) (l' := fun z => [(10, .pointer none), (104, .bool z.1)]) ?_ ?_
             ·rintro _ w273 ⟨rfl, ρ274, ⟨v285, hB287, h286⟩, hj271⟩
              replace hb := hb.trans hj271
              replace hB287 : Blk ρ274 100 w273 g6 (.cells #[v285] 54 (0, 0)) := hB287
              replace h286 : MapT delegate_way.ek delegate_delegation.c true ρ274 101 w273 v285 z270.2.ways := h286
              refine sr_ev (v := .bool z270.1) (ev_move rfl) (by decide) ?_
              obtain ⟨z290, hz292, hS⟩ := bind_some' hS
              refine sr_join (m := 4) (C := fun (z : Bool) w1 => z290 = z ∧ ∃ ρ1, Tr ρ274 w273 (fun _ => false) ρ1 w1) (l' := fun z => [(10, .pointer none), (109, .bool z)]) ?_ ?_
              ·rintro _ w293 ⟨rfl, ρ294, hj291⟩
               replace hb := hb.trans hj291
               refine sr_ev (v := .bool z290) (ev_move rfl) (by decide) ?_
               obtain ⟨z303, hz305, hS⟩ := bind_some' hS
               refine sr_join (m := 4) (C := fun (z : Bool) w1 => z303 = z ∧ ∃ ρ1, Tr ρ294 w293 (fun _ => false) ρ1 w1) (l' := fun z => [(114, .bool z)]) ?_ ?_
               ·rintro _ w306 ⟨rfl, ρ307, hj304⟩
                replace hb := hb.trans hj304
                refine sr_ev (v := .bool z303) (ev_assign rfl) (by decide) ?_
                refine sr_end (l' := [(0, .bool z303)]) (.cons rfl (.nil _)) ?_
                cases hS
                exact ke_ret1 Try.func10 rfl rfl ⟨_, rfl, rfl, (hb.below (flat1_le _))⟩
               ·intro K302
                clear hS
                have hj304 : Tr ρ294 w293 (fun _ => false) ρ294 w293 := (Tr.refl hb.bd).weak (fun _ _ => rfl) rfl rfl
                rcases Bool.eq_false_or_eq_true z290 with hg301 | hg301
                ·have hS := ite_true' hz305 hg301
                 refine sr_evg (b := true) (e := 110) rfl rfl hg301 (v := .pointer none) (ev_move rfl) (by decide) ?_
                 obtain ⟨y309, hy310, hS⟩ := bind_some' hS
                 refine sr_callg (b := true) (e := 110) rfl rfl hg301 (vs := [.pointer none, str ([97, 110, 110])]) rfl Try.call24 rfl (delegate_Delegations_Drop__nil_ok _ (hg.fr hz hb) (ρA := ρ294) hb.bd (hz.fr hg hb) hy310) (by decide) ?_
                 rintro _ w311 ⟨rfl, hbw312⟩
                 have htr313 := Tr.of_below hbw312 hb.bd
                 replace hb := hb.trans htr313
                 replace hj304 := (hj304.trans htr313).weak (J' := (fun _ => false)) (by intro t h; simp [rng] at h ⊢ <;> omega) rfl rfl
                 refine sr_evg (b := true) (e := 110) rfl rfl hg301 (v := .bool (y309 == 0)) (ev_eq rfl rfl) (by decide) ?_
                 refine sr_ev (v := .bool (y309 == 0)) (ev_pick_t rfl hg301 rfl) (by decide) ?_
                 exact sr_weaken (l' := [(114, .bool (y309 == 0))]) (.cons rfl (.nil _)) (K302 (y309 == 0) _ ⟨(Option.some.inj hS).symm, _, hj304⟩)
                ·have hS := ite_false' hz305 hg301
                 refine sr_pass (e := 110) rfl rfl (by rw [hg301]; rfl) (by decide) ?_
                 refine sr_pass (e := 110) rfl rfl (by rw [hg301]; rfl) (by decide) ?_
                 refine sr_pass (e := 110) rfl rfl (by rw [hg301]; rfl) (by decide) ?_
                 refine sr_ev (v := .bool false) (ev_pick_f rfl hg301 rfl) (by decide) ?_
                 exact sr_weaken (l' := [(114, .bool false)]) (.cons rfl (.nil _)) (K302 false _ ⟨(Option.some.inj hS).symm, _, hj304⟩)
              ·intro K289
               clear hS
               have hj291 : Tr ρ274 w273 (fun _ => false) ρ274 w273 := (Tr.refl hb.bd).weak (fun _ _ => rfl) rfl rfl
               rcases Bool.eq_false_or_eq_true z270.1 with hg288 | hg288
               ·have hS := ite_true' hz292 hg288
                refine sr_evg (b := true) (e := 105) rfl rfl hg288 (v := .pointer none) (ev_move rfl) (by decide) ?_
                obtain ⟨y296, hy297, hS⟩ := bind_some' hS
                refine sr_callg (b := true) (e := 105) rfl rfl hg288 (vs := [.pointer none, str ([97, 110, 110]), str ([98, 111, 98]), (.slice none 0 0), .int .i64 6]) rfl Try.call26 rfl (delegate_Delegations_May__nil_ok _ (hg.fr hz hb) (ρA := ρ274) hb.bd (hz.fr hg hb) (SlR.nil (A := Wb ρ274)) hy297) (by decide) ?_
                rintro _ w298 ⟨rfl, hbw299⟩
                have htr300 := Tr.of_below hbw299 hb.bd
                replace hb := hb.trans htr300
                replace hj291 := (hj291.trans htr300).weak (J' := (fun _ => false)) (by intro t h; simp [rng] at h ⊢ <;> omega) rfl rfl
                refine sr_evg (b := true) (e := 105) rfl rfl hg288 (v := .bool (y296 == 1)) (ev_eq rfl rfl) (by decide) ?_
                refine sr_ev (v := .bool (y296 == 1)) (ev_pick_t rfl hg288 rfl) (by decide) ?_
                exact sr_weaken (l' := [(10, .pointer none), (109, .bool (y296 == 1))]) (.cons rfl (.cons rfl (.nil _))) (K289 (y296 == 1) _ ⟨(Option.some.inj hS).symm, _, hj291⟩)
               ·have hS := ite_false' hz292 hg288
                refine sr_pass (e := 105) rfl rfl (by rw [hg288]; rfl) (by decide) ?_
                refine sr_pass (e := 105) rfl rfl (by rw [hg288]; rfl) (by decide) ?_
                refine sr_pass (e := 105) rfl rfl (by rw [hg288]; rfl) (by decide) ?_
                refine sr_ev (v := .bool false) (ev_pick_f rfl hg288 rfl) (by decide) ?_
                exact sr_weaken (l' := [(10, .pointer none), (109, .bool false)]) (.cons rfl (.cons rfl (.nil _))) (K289 false _ ⟨(Option.some.inj hS).symm, _, hj291⟩)
             ·intro K269
              clear hS
              have hj271 : Tr ρ261 w260 (fun t => ([100, 101] : List Nat).contains t) ρ261 w260 := (Tr.refl hb.bd).weak (fun _ _ => rfl) rfl rfl
              rcases Bool.eq_false_or_eq_true z257 with hg268 | hg268
              ·have hS := ite_true' hz272 hg268
               refine sr_evg (b := true) (e := 100) rfl rfl hg268 (v := .pointer (some ⟨g6, 0, none⟩)) (ev_move rfl) (by decide) ?_
               obtain ⟨y276, hy277, hS⟩ := bind_some' hS
               refine sr_callg (b := true) (e := 100) rfl rfl hg268 (vs := [.pointer (some ⟨g6, 0, none⟩), str ([99, 121, 100])]) rfl Try.call24 rfl (delegate_Delegations_Drop_ok _ (hg.fr hz hb) (ρA := ρ261) hb.bd (hz.fr hg hb) (o := 100) (by decide) (⟨_, hB254, h253⟩ : delegate_Delegations.O (fun p => 100 + p) ρ261 w260 g6 z237.2) hy277) (by decide) ?_
               rintro _ w278 ⟨ρ284, rfl, ⟨v281, hB283, h282⟩, htr280⟩
               replace hb := hb.trans htr280
               replace hj271 := (hj271.trans htr280).weak (J' := (fun t => ([100, 101] : List Nat).contains t)) (by intro t h; simp [rng] at h ⊢ <;> omega) rfl rfl
               replace hB283 : Blk ρ284 100 w278 g6 (.cells #[v281] 54 (0, 0)) := hB283
               replace h282 : MapT delegate_way.ek delegate_delegation.c true ρ284 101 w278 v281 y276.2.ways := h282
               refine sr_evg (b := true) (e := 100) rfl rfl hg268 (v := .bool (y276.1 == 1)) (ev_eq rfl rfl) (by decide) ?_
               refine sr_ev (v := .bool (y276.1 == 1)) (ev_pick_t rfl hg268 rfl) (by decide) ?_
               exact sr_weaken (l' := [(10, .pointer none), (104, .bool (y276.1 == 1))]) (.cons rfl (.cons rfl (.nil _))) (K269 (y276.1 == 1, y276.2) _ ⟨(Option.some.inj hS).symm, _, ⟨_, hB283, h282⟩, hj271⟩)
              ·have hS := ite_false' hz272 hg268
               refine sr_pass (e := 100) rfl rfl (by rw [hg268]; rfl) (by decide) ?_
               refine sr_pass (e := 100) rfl rfl (by rw [hg268]; rfl) (by decide) ?_
               refine sr_pass (e := 100) rfl rfl (by rw [hg268]; rfl) (by decide) ?_
               refine sr_ev (v := .bool false) (ev_pick_f rfl hg268 rfl) (by decide) ?_
               exact sr_weaken (l' := [(10, .pointer none), (104, .bool false)]) (.cons rfl (.cons rfl (.nil _))) (K269 (false, z237.2) _ ⟨(Option.some.inj hS).symm, _, ⟨_, hB254, h253⟩, hj271⟩)
            ·intro K256
             clear hS
             have hj258 : Tr ρ241 w240 (fun _ => false) ρ241 w240 := (Tr.refl hb.bd).weak (fun _ _ => rfl) rfl rfl
             rcases Bool.eq_false_or_eq_true z237.1 with hg255 | hg255
             ·have hS := ite_true' hz259 hg255
              refine sr_evg (b := true) (e := 95) rfl rfl hg255 (v := .pointer (some ⟨g6, 0, none⟩)) (ev_move rfl) (by decide) ?_
              obtain ⟨y263, hy264, hS⟩ := bind_some' hS
              refine sr_callg (b := true) (e := 95) rfl rfl hg255 (vs := [.pointer (some ⟨g6, 0, none⟩), str ([97, 110, 110]), str ([98, 111, 98]), (.slice none 0 0), .int .i64 6]) rfl Try.call26 rfl (delegate_Delegations_May_ok _ (hg.fr hz hb) (ρA := ρ241) hb.bd (hz.fr hg hb) (τ0 := (fun p => 100 + p)) (fun p => Nat.le_add_right_of_le (by decide)) (SlR.nil (A := Wb ρ241)) (⟨_, hB254, h253⟩ : delegate_Delegations.O (fun p => 100 + p) ρ241 w240 g6 z237.2) hy264) (by decide) ?_
              rintro _ w265 ⟨rfl, hbw266⟩
              have htr267 := Tr.of_below hbw266 hb.bd
              replace hB254 := hB254.mv (htr267.mv (i := 100) rfl)
              replace h253 := h253.mv (htr267.mv (i := 101) rfl)
              replace hb := hb.trans htr267
              replace hj258 := (hj258.trans htr267).weak (J' := (fun _ => false)) (by intro t h; simp [rng] at h ⊢ <;> omega) rfl rfl
              refine sr_evg (b := true) (e := 95) rfl rfl hg255 (v := .bool (y263 == 11)) (ev_eq rfl rfl) (by decide) ?_
              refine sr_ev (v := .bool (y263 == 11)) (ev_pick_t rfl hg255 rfl) (by decide) ?_
              exact sr_weaken (l' := [(1, .pointer (some ⟨g6, 0, none⟩)), (10, .pointer none), (99, .bool (y263 == 11))]) (.cons rfl (.cons rfl (.cons rfl (.nil _)))) (K256 (y263 == 11) _ ⟨(Option.some.inj hS).symm, _, hj258⟩)
             ·have hS := ite_false' hz259 hg255
              refine sr_pass (e := 95) rfl rfl (by rw [hg255]; rfl) (by decide) ?_
              refine sr_pass (e := 95) rfl rfl (by rw [hg255]; rfl) (by decide) ?_
              refine sr_pass (e := 95) rfl rfl (by rw [hg255]; rfl) (by decide) ?_
              refine sr_ev (v := .bool false) (ev_pick_f rfl hg255 rfl) (by decide) ?_
              exact sr_weaken (l' := [(1, .pointer (some ⟨g6, 0, none⟩)), (10, .pointer none), (99, .bool false)]) (.cons rfl (.cons rfl (.cons rfl (.nil _)))) (K256 false _ ⟨(Option.some.inj hS).symm, _, hj258⟩)
           ·intro K236
            clear hS
            have hj238 : Tr ρ223 w222 (fun t => ([100, 101] : List Nat).contains t) ρ223 w222 := (Tr.refl hb.bd).weak (fun _ _ => rfl) rfl rfl
            rcases Bool.eq_false_or_eq_true z219 with hg235 | hg235
            ·have hS := ite_true' hz239 hg235
             refine sr_evg (b := true) (e := 91) rfl rfl hg235 (v := .pointer (some ⟨g6, 0, none⟩)) (ev_move rfl) (by decide) ?_
             obtain ⟨y243, hy244, hS⟩ := bind_some' hS
             refine sr_callg (b := true) (e := 91) rfl rfl hg235 (vs := [.pointer (some ⟨g6, 0, none⟩), str ([97, 110, 110]), str ([98, 111, 98])]) rfl Try.call28 rfl (delegate_Delegations_Revoke_ok _ (hg.fr hz hb) (ρA := ρ223) hb.bd (hz.fr hg hb) (o := 100) (by decide) (⟨_, hB72, h71⟩ : delegate_Delegations.O (fun p => 100 + p) ρ223 w222 g6 y65.2) hy244) (by decide) ?_
             rintro _ w245 ⟨ρ251, rfl, ⟨v248, hB250, h249⟩, htr247⟩
             replace hb := hb.trans htr247
             replace hj238 := (hj238.trans htr247).weak (J' := (fun t => ([100, 101] : List Nat).contains t)) (by intro t h; simp [rng] at h ⊢ <;> omega) rfl rfl
             replace hB250 : Blk ρ251 100 w245 g6 (.cells #[v248] 54 (0, 0)) := hB250
             replace h249 : MapT delegate_way.ek delegate_delegation.c true ρ251 101 w245 v248 y243.2.ways := h249
             refine sr_ev (v := .bool y243.1) (ev_pick_t rfl hg235 rfl) (by decide) ?_
             exact sr_weaken (l' := [(1, .pointer (some ⟨g6, 0, none⟩)), (10, .pointer none), (94, .bool y243.1)]) (.cons rfl (.cons rfl (.cons rfl (.nil _)))) (K236 (y243.1, y243.2) _ ⟨(Option.some.inj hS).symm, _, ⟨_, hB250, h249⟩, hj238⟩)
            ·have hS := ite_false' hz239 hg235
             refine sr_pass (e := 91) rfl rfl (by rw [hg235]; rfl) (by decide) ?_
             refine sr_pass (e := 91) rfl rfl (by rw [hg235]; rfl) (by decide) ?_
             refine sr_ev (v := .bool false) (ev_pick_f rfl hg235 rfl) (by decide) ?_
             exact sr_weaken (l' := [(1, .pointer (some ⟨g6, 0, none⟩)), (10, .pointer none), (94, .bool false)]) (.cons rfl (.cons rfl (.cons rfl (.nil _)))) (K236 (false, y65.2) _ ⟨(Option.some.inj hS).symm, _, ⟨_, hB72, h71⟩, hj238⟩)
          ·intro K218
           clear hS
           have hj220 : Tr ρ181 w214 (fun _ => false) ρ181 w214 := (Tr.refl hb.bd).weak (fun _ _ => rfl) rfl rfl
           rcases Bool.eq_false_or_eq_true y212 with hg217 | hg217
           ·have hS := ite_true' hz221 hg217
            refine sr_evg (b := true) (e := 86) rfl rfl hg217 (v := v205) (ev_move rfl) (by decide) ?_
            refine sr_unguard rfl rfl hg217 ?_
            refine sr_litT (c := strC) (ρ := ρ181) (E := 9) (xs := [[109, 97, 105, 108]]) (vs := #[(0, str ([109, 97, 105, 108]))]) (cs := #[str ([109, 97, 105, 108])]) (css := [[str ([109, 97, 105, 108])]]) rfl (fun _ => by kernel_rfl) rfl ⟨rfl, trivial⟩ rfl (by decide) hb.bd (by decide) ?_
            intro v225 w227 h226 hbw229
            have htr228 := Tr.of_below hbw229 hb.bd
            replace h206 := h206.mv htr228.rd
            replace hB72 := hB72.mv (htr228.mv (i := 100) rfl)
            replace h71 := h71.mv (htr228.mv (i := 101) rfl)
            replace hb := hb.trans htr228
            replace hj220 := (hj220.trans htr228).weak (J' := (fun _ => false)) (by intro t h; simp [rng] at h ⊢ <;> omega) rfl rfl
            obtain ⟨y230, hy231, hS⟩ := bind_some' hS
            refine sr_callg (b := true) (e := 86) rfl rfl hg217 (vs := [v205, v225]) rfl Try.call15 rfl (ref03_Same_ok _ (hg.fr hz hb) h206.asSl h226.asSl hy231) (by decide) ?_
            rintro _ w232 ⟨rfl, hbw233⟩
            have htr234 := Tr.of_below hbw233 hb.bd
            replace hB72 := hB72.mv (htr234.mv (i := 100) rfl)
            replace h71 := h71.mv (htr234.mv (i := 101) rfl)
            replace hb := hb.trans htr234
            replace hj220 := (hj220.trans htr234).weak (J' := (fun _ => false)) (by intro t h; simp [rng] at h ⊢ <;> omega) rfl rfl
            refine sr_ev (v := .bool y230) (ev_pick_t rfl hg217 rfl) (by decide) ?_
            exact sr_weaken (l' := [(1, .pointer (some ⟨g6, 0, none⟩)), (10, .pointer none), (90, .bool y230)]) (.cons rfl (.cons rfl (.cons rfl (.nil _)))) (K218 y230 _ ⟨(Option.some.inj hS).symm, _, hj220⟩)
           ·have hS := ite_false' hz221 hg217
            refine sr_pass (e := 86) rfl rfl (by rw [hg217]; rfl) (by decide) ?_
            refine sr_pass (e := 86) rfl rfl (by rw [hg217]; rfl) (by decide) ?_
            refine sr_pass (e := 86) rfl rfl (by rw [hg217]; rfl) (by decide) ?_
            refine sr_ev (v := .bool false) (ev_pick_f rfl hg217 rfl) (by decide) ?_
            exact sr_weaken (l' := [(1, .pointer (some ⟨g6, 0, none⟩)), (10, .pointer none), (90, .bool false)]) (.cons rfl (.cons rfl (.cons rfl (.nil _)))) (K218 false _ ⟨(Option.some.inj hS).symm, _, hj220⟩)
        ·intro K176
         clear hS
         have hj178 : Tr ρ163 w162 (fun _ => false) ρ163 w162 := (Tr.refl hb.bd).weak (fun _ _ => rfl) rfl rfl
         rcases Bool.eq_false_or_eq_true z159 with hg175 | hg175
         ·have hS := ite_true' hz179 hg175
          refine sr_pass (e := 72) rfl rfl (by rw [hg175]; rfl) (by decide) ?_
          refine sr_pass (e := 72) rfl rfl (by rw [hg175]; rfl) (by decide) ?_
          refine sr_pass (e := 72) rfl rfl (by rw [hg175]; rfl) (by decide) ?_
          refine sr_pass (e := 72) rfl rfl (by rw [hg175]; rfl) (by decide) ?_
          refine sr_pass (e := 72) rfl rfl (by rw [hg175]; rfl) (by decide) ?_
          refine sr_ev (v := .bool true) (ev_pick_t rfl hg175 rfl) (by decide) ?_
          exact sr_weaken (l' := [(1, .pointer (some ⟨g6, 0, none⟩)), (78, .bool true)]) (.cons rfl (.cons rfl (.nil _))) (K176 true _ ⟨(Option.some.inj hS).symm, _, hj178⟩)
         ·have hS := ite_false' hz179 hg175
          refine sr_evg (b := false) (e := 72) rfl rfl hg175 (v := .pointer (some ⟨g6, 0, none⟩)) (ev_move rfl) (by decide) ?_
          refine sr_evg (b := false) (e := 72) rfl rfl hg175 (v := v74) (ev_move rfl) (by decide) ?_
          obtain ⟨hk183, hS⟩ := chk_some hS
          obtain ⟨v184, h185, hq186⟩ := ((SlT.of_sl (i := 0) h75)).cutT_h (P := Try.prog) Try.underlying23 Try.info9 rfl hk183
          replace h185 := h185.sl
          refine sr_evg (b := false) (e := 72) rfl rfl hg175 (v := v184) (hq186 w162 rfl rfl) (by decide) ?_
          obtain ⟨y187, hy188, hS⟩ := bind_some' hS
          refine sr_callg (b := false) (e := 72) rfl rfl hg175 (vs := [.pointer (some ⟨g6, 0, none⟩), v184, (.slice none 0 0), .int .i64 6]) rfl Try.call18 rfl (delegate_Delegations_Chain_ok _ (hg.fr hz hb) (ρA := ρ163) hb.bd (hz.fr hg hb) (τ0 := (fun p => 100 + p)) (fun p => Nat.le_add_right_of_le (by decide)) h185 (SlR.nil (A := Wb ρ163)) (⟨_, hB72, h71⟩ : delegate_Delegations.O (fun p => 100 + p) ρ163 w162 g6 y65.2) hy188) (by decide) ?_
          rintro _ w189 ⟨rfl, hbw190⟩
          have htr191 := Tr.of_below hbw190 hb.bd
          replace hB72 := hB72.mv (htr191.mv (i := 100) rfl)
          replace h71 := h71.mv (htr191.mv (i := 101) rfl)
          replace hb := hb.trans htr191
          replace hj178 := (hj178.trans htr191).weak (J' := (fun _ => false)) (by intro t h; simp [rng] at h ⊢ <;> omega) rfl rfl
          refine sr_evg (b := false) (e := 72) rfl rfl hg175 (v := .bool (y187 != 0)) (ev_ne rfl rfl) (by decide) ?_
          refine sr_ev (v := .bool (y187 != 0)) (ev_pick_f rfl hg175 rfl) (by decide) ?_
          exact sr_weaken (l' := [(1, .pointer (some ⟨g6, 0, none⟩)), (78, .bool (y187 != 0))]) (.cons rfl (.cons rfl (.nil _))) (K176 (y187 != 0) _ ⟨(Option.some.inj hS).symm, _, hj178⟩)
       ·intro K158
        clear hS
        have hj160 : Tr ρ145 w144 (fun _ => false) ρ145 w144 := (Tr.refl hb.bd).weak (fun _ _ => rfl) rfl rfl
        rcases Bool.eq_false_or_eq_true z141 with hg157 | hg157
        ·have hS := ite_true' hz161 hg157
         refine sr_pass (e := 65) rfl rfl (by rw [hg157]; rfl) (by decide) ?_
         refine sr_pass (e := 65) rfl rfl (by rw [hg157]; rfl) (by decide) ?_
         refine sr_pass (e := 65) rfl rfl (by rw [hg157]; rfl) (by decide) ?_
         refine sr_pass (e := 65) rfl rfl (by rw [hg157]; rfl) (by decide) ?_
         refine sr_pass (e := 65) rfl rfl (by rw [hg157]; rfl) (by decide) ?_
         refine sr_ev (v := .bool true) (ev_pick_t rfl hg157 rfl) (by decide) ?_
         exact sr_weaken (l' := [(1, .pointer (some ⟨g6, 0, none⟩)), (7, v74), (71, .bool true)]) (.cons rfl (.cons rfl (.cons rfl (.nil _)))) (K158 true _ ⟨(Option.some.inj hS).symm, _, hj160⟩)
        ·have hS := ite_false' hz161 hg157
         refine sr_evg (b := false) (e := 65) rfl rfl hg157 (v := .pointer (some ⟨g6, 0, none⟩)) (ev_move rfl) (by decide) ?_
         refine sr_evg (b := false) (e := 65) rfl rfl hg157 (v := v74) (ev_move rfl) (by decide) ?_
         refine sr_unguard rfl rfl hg157 ?_
         refine sr_litT (c := strC) (ρ := ρ145) (E := 9) (xs := [[109, 97, 105, 108]]) (vs := #[(0, str ([109, 97, 105, 108]))]) (cs := #[str ([109, 97, 105, 108])]) (css := [[str ([109, 97, 105, 108])]]) rfl (fun _ => by kernel_rfl) rfl ⟨rfl, trivial⟩ rfl (by decide) hb.bd (by decide) ?_
         intro v165 w167 h166 hbw169
         have htr168 := Tr.of_below hbw169 hb.bd
         replace h75 := h75.mv htr168.rd
         replace hB72 := hB72.mv (htr168.mv (i := 100) rfl)
         replace h71 := h71.mv (htr168.mv (i := 101) rfl)
         replace hb := hb.trans htr168
         replace hj160 := (hj160.trans htr168).weak (J' := (fun _ => false)) (by intro t h; simp [rng] at h ⊢ <;> omega) rfl rfl
         obtain ⟨y170, hy171, hS⟩ := bind_some' hS
         refine sr_callg (b := false) (e := 65) rfl rfl hg157 (vs := [.pointer (some ⟨g6, 0, none⟩), v74, v165, .int .i64 6]) rfl Try.call18 rfl (delegate_Delegations_Chain_ok _ (hg.fr hz hb) (ρA := ρ145) hb.bd (hz.fr hg hb) (τ0 := (fun p => 100 + p)) (fun p => Nat.le_add_right_of_le (by decide)) h75 h166 (⟨_, hB72, h71⟩ : delegate_Delegations.O (fun p => 100 + p) ρ145 w167 g6 y65.2) hy171) (by decide) ?_
         rintro _ w172 ⟨rfl, hbw173⟩
         have htr174 := Tr.of_below hbw173 hb.bd
         replace h75 := h75.mv htr174.rd
         replace hB72 := hB72.mv (htr174.mv (i := 100) rfl)
         replace h71 := h71.mv (htr174.mv (i := 101) rfl)
         replace hb := hb.trans htr174
         replace hj160 := (hj160.trans htr174).weak (J' := (fun _ => false)) (by intro t h; simp [rng] at h ⊢ <;> omega) rfl rfl
         refine sr_evg (b := false) (e := 65) rfl rfl hg157 (v := .bool (y170 != 19)) (ev_ne rfl rfl) (by decide) ?_
         refine sr_ev (v := .bool (y170 != 19)) (ev_pick_f rfl hg157 rfl) (by decide) ?_
         exact sr_weaken (l' := [(1, .pointer (some ⟨g6, 0, none⟩)), (7, v74), (71, .bool (y170 != 19))]) (.cons rfl (.cons rfl (.cons rfl (.nil _)))) (K158 (y170 != 19) _ ⟨(Option.some.inj hS).symm, _, hj160⟩)
      ·intro K140
       clear hS
       have hj142 : Tr ρ127 w126 (fun _ => false) ρ127 w126 := (Tr.refl hb.bd).weak (fun _ _ => rfl) rfl rfl
       rcases Bool.eq_false_or_eq_true z123 with hg139 | hg139
       ·have hS := ite_true' hz143 hg139
        refine sr_pass (e := 58) rfl rfl (by rw [hg139]; rfl) (by decide) ?_
        refine sr_pass (e := 58) rfl rfl (by rw [hg139]; rfl) (by decide) ?_
        refine sr_pass (e := 58) rfl rfl (by rw [hg139]; rfl) (by decide) ?_
        refine sr_pass (e := 58) rfl rfl (by rw [hg139]; rfl) (by decide) ?_
        refine sr_pass (e := 58) rfl rfl (by rw [hg139]; rfl) (by decide) ?_
        refine sr_ev (v := .bool true) (ev_pick_t rfl hg139 rfl) (by decide) ?_
        exact sr_weaken (l' := [(1, .pointer (some ⟨g6, 0, none⟩)), (7, v74), (64, .bool true)]) (.cons rfl (.cons rfl (.cons rfl (.nil _)))) (K140 true _ ⟨(Option.some.inj hS).symm, _, hj142⟩)
       ·have hS := ite_false' hz143 hg139
        refine sr_evg (b := false) (e := 58) rfl rfl hg139 (v := .pointer (some ⟨g6, 0, none⟩)) (ev_move rfl) (by decide) ?_
        refine sr_evg (b := false) (e := 58) rfl rfl hg139 (v := v74) (ev_move rfl) (by decide) ?_
        refine sr_unguard rfl rfl hg139 ?_
        refine sr_litT (c := strC) (ρ := ρ127) (E := 9) (xs := [[109, 97, 105, 108, 46, 114, 101, 97, 100]]) (vs := #[(0, str ([109, 97, 105, 108, 46, 114, 101, 97, 100]))]) (cs := #[str ([109, 97, 105, 108, 46, 114, 101, 97, 100])]) (css := [[str ([109, 97, 105, 108, 46, 114, 101, 97, 100])]]) rfl (fun _ => by kernel_rfl) rfl ⟨rfl, trivial⟩ rfl (by decide) hb.bd (by decide) ?_
        intro v147 w149 h148 hbw151
        have htr150 := Tr.of_below hbw151 hb.bd
        replace h75 := h75.mv htr150.rd
        replace hB72 := hB72.mv (htr150.mv (i := 100) rfl)
        replace h71 := h71.mv (htr150.mv (i := 101) rfl)
        replace hb := hb.trans htr150
        replace hj142 := (hj142.trans htr150).weak (J' := (fun _ => false)) (by intro t h; simp [rng] at h ⊢ <;> omega) rfl rfl
        obtain ⟨y152, hy153, hS⟩ := bind_some' hS
        refine sr_callg (b := false) (e := 58) rfl rfl hg139 (vs := [.pointer (some ⟨g6, 0, none⟩), v74, v147, .int .i64 6]) rfl Try.call18 rfl (delegate_Delegations_Chain_ok _ (hg.fr hz hb) (ρA := ρ127) hb.bd (hz.fr hg hb) (τ0 := (fun p => 100 + p)) (fun p => Nat.le_add_right_of_le (by decide)) h75 h148 (⟨_, hB72, h71⟩ : delegate_Delegations.O (fun p => 100 + p) ρ127 w149 g6 y65.2) hy153) (by decide) ?_
        rintro _ w154 ⟨rfl, hbw155⟩
        have htr156 := Tr.of_below hbw155 hb.bd
        replace h75 := h75.mv htr156.rd
        replace hB72 := hB72.mv (htr156.mv (i := 100) rfl)
        replace h71 := h71.mv (htr156.mv (i := 101) rfl)
        replace hb := hb.trans htr156
        replace hj142 := (hj142.trans htr156).weak (J' := (fun _ => false)) (by intro t h; simp [rng] at h ⊢ <;> omega) rfl rfl
        refine sr_evg (b := false) (e := 58) rfl rfl hg139 (v := .bool (y152 != 0)) (ev_ne rfl rfl) (by decide) ?_
        refine sr_ev (v := .bool (y152 != 0)) (ev_pick_f rfl hg139 rfl) (by decide) ?_
        exact sr_weaken (l' := [(1, .pointer (some ⟨g6, 0, none⟩)), (7, v74), (64, .bool (y152 != 0))]) (.cons rfl (.cons rfl (.cons rfl (.nil _)))) (K140 (y152 != 0) _ ⟨(Option.some.inj hS).symm, _, hj142⟩)
     ·intro K122
      clear hS
      have hj124 : Tr ρ109 w108 (fun _ => false) ρ109 w108 := (Tr.refl hb.bd).weak (fun _ _ => rfl) rfl rfl
      rcases Bool.eq_false_or_eq_true z105 with hg121 | hg121
      ·have hS := ite_true' hz125 hg121
       refine sr_pass (e := 52) rfl rfl (by rw [hg121]; rfl) (by decide) ?_
       refine sr_pass (e := 52) rfl rfl (by rw [hg121]; rfl) (by decide) ?_
       refine sr_pass (e := 52) rfl rfl (by rw [hg121]; rfl) (by decide) ?_
       refine sr_pass (e := 52) rfl rfl (by rw [hg121]; rfl) (by decide) ?_
       refine sr_ev (v := .bool true) (ev_pick_t rfl hg121 rfl) (by decide) ?_
       exact sr_weaken (l' := [(1, .pointer (some ⟨g6, 0, none⟩)), (7, v74), (57, .bool true)]) (.cons rfl (.cons rfl (.cons rfl (.nil _)))) (K122 true _ ⟨(Option.some.inj hS).symm, _, hj124⟩)
      ·have hS := ite_false' hz125 hg121
       refine sr_evg (b := false) (e := 52) rfl rfl hg121 (v := .pointer (some ⟨g6, 0, none⟩)) (ev_move rfl) (by decide) ?_
       refine sr_unguard rfl rfl hg121 ?_
       refine sr_litT (c := strC) (ρ := ρ109) (E := 9) (xs := [[109, 97, 105, 108, 46, 120]]) (vs := #[(0, str ([109, 97, 105, 108, 46, 120]))]) (cs := #[str ([109, 97, 105, 108, 46, 120])]) (css := [[str ([109, 97, 105, 108, 46, 120])]]) rfl (fun _ => by kernel_rfl) rfl ⟨rfl, trivial⟩ rfl (by decide) hb.bd (by decide) ?_
       intro v129 w131 h130 hbw133
       have htr132 := Tr.of_below hbw133 hb.bd
       replace h75 := h75.mv htr132.rd
       replace hB72 := hB72.mv (htr132.mv (i := 100) rfl)
       replace h71 := h71.mv (htr132.mv (i := 101) rfl)
       replace hb := hb.trans htr132
       replace hj124 := (hj124.trans htr132).weak (J' := (fun _ => false)) (by intro t h; simp [rng] at h ⊢ <;> omega) rfl rfl
       obtain ⟨y134, hy135, hS⟩ := bind_some' hS
       refine sr_callg (b := false) (e := 52) rfl rfl hg121 (vs := [.pointer (some ⟨g6, 0, none⟩), str ([97, 110, 110]), str ([98, 111, 98]), v129, .int .i64 5]) rfl Try.call26 rfl (delegate_Delegations_May_ok _ (hg.fr hz hb) (ρA := ρ109) hb.bd (hz.fr hg hb) (τ0 := (fun p => 100 + p)) (fun p => Nat.le_add_right_of_le (by decide)) h130 (⟨_, hB72, h71⟩ : delegate_Delegations.O (fun p => 100 + p) ρ109 w131 g6 y65.2) hy135) (by decide) ?_
       rintro _ w136 ⟨rfl, hbw137⟩
       have htr138 := Tr.of_below hbw137 hb.bd
       replace h75 := h75.mv htr138.rd
       replace hB72 := hB72.mv (htr138.mv (i := 100) rfl)
       replace h71 := h71.mv (htr138.mv (i := 101) rfl)
       replace hb := hb.trans htr138
       replace hj124 := (hj124.trans htr138).weak (J' := (fun _ => false)) (by intro t h; simp [rng] at h ⊢ <;> omega) rfl rfl
       refine sr_evg (b := false) (e := 52) rfl rfl hg121 (v := .bool (y134 != 0)) (ev_ne rfl rfl) (by decide) ?_
       refine sr_ev (v := .bool (y134 != 0)) (ev_pick_f rfl hg121 rfl) (by decide) ?_
       exact sr_weaken (l' := [(1, .pointer (some ⟨g6, 0, none⟩)), (7, v74), (57, .bool (y134 != 0))]) (.cons rfl (.cons rfl (.cons rfl (.nil _)))) (K122 (y134 != 0) _ ⟨(Option.some.inj hS).symm, _, hj124⟩)
    ·intro K104
     clear hS
     have hj106 : Tr ρ73 w76 (fun _ => false) ρ73 w76 := (Tr.refl hb.bd).weak (fun _ _ => rfl) rfl rfl
     rcases Bool.eq_false_or_eq_true ((((y23.1 != 28) || (y37.1 != 0)) || (y51.1 != 0)) || (y65.1 != 2)) with hg103 | hg103
     ·have hS := ite_true' hz107 hg103
      refine sr_pass (e := 46) rfl rfl (by rw [hg103]; rfl) (by decide) ?_
      refine sr_pass (e := 46) rfl rfl (by rw [hg103]; rfl) (by decide) ?_
      refine sr_pass (e := 46) rfl rfl (by rw [hg103]; rfl) (by decide) ?_
      refine sr_pass (e := 46) rfl rfl (by rw [hg103]; rfl) (by decide) ?_
      refine sr_ev (v := .bool true) (ev_pick_t rfl hg103 rfl) (by decide) ?_
      exact sr_weaken (l' := [(1, .pointer (some ⟨g6, 0, none⟩)), (7, v74), (51, .bool true)]) (.cons rfl (.cons rfl (.cons rfl (.nil _)))) (K104 true _ ⟨(Option.some.inj hS).symm, _, hj106⟩)
     ·have hS := ite_false' hz107 hg103
      refine sr_evg (b := false) (e := 46) rfl rfl hg103 (v := .pointer (some ⟨g6, 0, none⟩)) (ev_move rfl) (by decide) ?_
      refine sr_unguard rfl rfl hg103 ?_
      refine sr_litT (c := strC) (ρ := ρ73) (E := 9) (xs := [[109, 97, 105, 108, 46, 120]]) (vs := #[(0, str ([109, 97, 105, 108, 46, 120]))]) (cs := #[str ([109, 97, 105, 108, 46, 120])]) (css := [[str ([109, 97, 105, 108, 46, 120])]]) rfl (fun _ => by kernel_rfl) rfl ⟨rfl, trivial⟩ rfl (by decide) hb.bd (by decide) ?_
      intro v111 w113 h112 hbw115
      have htr114 := Tr.of_below hbw115 hb.bd
      replace h75 := h75.mv htr114.rd
      replace hB72 := hB72.mv (htr114.mv (i := 100) rfl)
      replace h71 := h71.mv (htr114.mv (i := 101) rfl)
      replace hb := hb.trans htr114
      replace hj106 := (hj106.trans htr114).weak (J' := (fun _ => false)) (by intro t h; simp [rng] at h ⊢ <;> omega) rfl rfl
      obtain ⟨y116, hy117, hS⟩ := bind_some' hS
      refine sr_callg (b := false) (e := 46) rfl rfl hg103 (vs := [.pointer (some ⟨g6, 0, none⟩), str ([97, 110, 110]), str ([98, 111, 98]), v111, .int .i64 4]) rfl Try.call26 rfl (delegate_Delegations_May_ok _ (hg.fr hz hb) (ρA := ρ73) hb.bd (hz.fr hg hb) (τ0 := (fun p => 100 + p)) (fun p => Nat.le_add_right_of_le (by decide)) h112 (⟨_, hB72, h71⟩ : delegate_Delegations.O (fun p => 100 + p) ρ73 w113 g6 y65.2) hy117) (by decide) ?_
      rintro _ w118 ⟨rfl, hbw119⟩
      have htr120 := Tr.of_below hbw119 hb.bd
      replace h75 := h75.mv htr120.rd
      replace hB72 := hB72.mv (htr120.mv (i := 100) rfl)
      replace h71 := h71.mv (htr120.mv (i := 101) rfl)
      replace hb := hb.trans htr120
      replace hj106 := (hj106.trans htr120).weak (J' := (fun _ => false)) (by intro t h; simp [rng] at h ⊢ <;> omega) rfl rfl
      refine sr_evg (b := false) (e := 46) rfl rfl hg103 (v := .bool (y116 != 14)) (ev_ne rfl rfl) (by decide) ?_
      refine sr_ev (v := .bool (y116 != 14)) (ev_pick_f rfl hg103 rfl) (by decide) ?_
      exact sr_weaken (l' := [(1, .pointer (some ⟨g6, 0, none⟩)), (7, v74), (51, .bool (y116 != 14))]) (.cons rfl (.cons rfl (.cons rfl (.nil _)))) (K104 (y116 != 14) _ ⟨(Option.some.inj hS).symm, _, hj106⟩)
   ·intro K96
    rcases Bool.eq_false_or_eq_true (((y23.1 != 28) || (y37.1 != 0)) || (y51.1 != 0)) with hg95 | hg95
    all_goals try have hj98 : Tr ρ73 w76 (fun _ => false) ρ73 w76 := Tr.refl hb.bd
    ·refine sr_pass (e := 42) rfl rfl (by rw [hg95]; rfl) (by decide) ?_
     refine sr_pass (e := 42) rfl rfl (by rw [hg95]; rfl) (by decide) ?_
     refine sr_ev (v := .bool true) (ev_pick_t rfl hg95 rfl) (by decide) ?_
     exact sr_weaken (l' := [(1, .pointer (some ⟨g6, 0, none⟩)), (7, v74), (45, .bool true)]) (.cons rfl (.cons rfl (.cons rfl (.nil _)))) (K96 true _ ⟨by rw [hg95]; rfl, rfl⟩)
    ·refine sr_evg (b := false) (e := 42) rfl rfl hg95 (v := .int .i64 y65.1) (ev_move rfl) (by decide) ?_
     refine sr_evg (b := false) (e := 42) rfl rfl hg95 (v := .bool (y65.1 != 2)) (ev_ne rfl rfl) (by decide) ?_
     refine sr_ev (v := .bool (y65.1 != 2)) (ev_pick_f rfl hg95 rfl) (by decide) ?_
     exact sr_weaken (l' := [(1, .pointer (some ⟨g6, 0, none⟩)), (7, v74), (45, .bool (y65.1 != 2))]) (.cons rfl (.cons rfl (.cons rfl (.nil _)))) (K96 (y65.1 != 2) _ ⟨by rw [hg95]; rfl, rfl⟩)
  ·intro K88
   rcases Bool.eq_false_or_eq_true ((y23.1 != 28) || (y37.1 != 0)) with hg87 | hg87
   all_goals try have hj90 : Tr ρ73 w76 (fun _ => false) ρ73 w76 := Tr.refl hb.bd
   ·refine sr_pass (e := 38) rfl rfl (by rw [hg87]; rfl) (by decide) ?_
    refine sr_pass (e := 38) rfl rfl (by rw [hg87]; rfl) (by decide) ?_
    refine sr_ev (v := .bool true) (ev_pick_t rfl hg87 rfl) (by decide) ?_
    exact sr_weaken (l' := [(1, .pointer (some ⟨g6, 0, none⟩)), (6, .int .i64 y65.1), (7, v74), (41, .bool true)]) (.cons rfl (.cons rfl (.cons rfl (.cons rfl (.nil _))))) (K88 true _ ⟨by rw [hg87]; rfl, rfl⟩)
   ·refine sr_evg (b := false) (e := 38) rfl rfl hg87 (v := .int .i64 y51.1) (ev_move rfl) (by decide) ?_
    refine sr_evg (b := false) (e := 38) rfl rfl hg87 (v := .bool (y51.1 != 0)) (ev_ne rfl rfl) (by decide) ?_
    refine sr_ev (v := .bool (y51.1 != 0)) (ev_pick_f rfl hg87 rfl) (by decide) ?_
    exact sr_weaken (l' := [(1, .pointer (some ⟨g6, 0, none⟩)), (6, .int .i64 y65.1), (7, v74), (41, .bool (y51.1 != 0))]) (.cons rfl (.cons rfl (.cons rfl (.cons rfl (.nil _))))) (K88 (y51.1 != 0) _ ⟨by rw [hg87]; rfl, rfl⟩)
 ·intro K80
  rcases Bool.eq_false_or_eq_true (y23.1 != 28) with hg79 | hg79
  all_goals try have hj82 : Tr ρ73 w76 (fun _ => false) ρ73 w76 := Tr.refl hb.bd
  ·refine sr_pass (e := 34) rfl rfl (by rw [hg79]; rfl) (by decide) ?_
   refine sr_pass (e := 34) rfl rfl (by rw [hg79]; rfl) (by decide) ?_
   refine sr_ev (v := .bool true) (ev_pick_t rfl hg79 rfl) (by decide) ?_
   exact sr_weaken (l' := [(1, .pointer (some ⟨g6, 0, none⟩)), (5, .int .i64 y51.1), (6, .int .i64 y65.1), (7, v74), (37, .bool true)]) (.cons rfl (.cons rfl (.cons rfl (.cons rfl (.cons rfl (.nil _)))))) (K80 true _ ⟨by rw [hg79]; rfl, rfl⟩)
  ·refine sr_evg (b := false) (e := 34) rfl rfl hg79 (v := .int .i64 y37.1) (ev_move rfl) (by decide) ?_
   refine sr_evg (b := false) (e := 34) rfl rfl hg79 (v := .bool (y37.1 != 0)) (ev_ne rfl rfl) (by decide) ?_
   refine sr_ev (v := .bool (y37.1 != 0)) (ev_pick_f rfl hg79 rfl) (by decide) ?_
   exact sr_weaken (l' := [(1, .pointer (some ⟨g6, 0, none⟩)), (5, .int .i64 y51.1), (6, .int .i64 y65.1), (7, v74), (37, .bool (y37.1 != 0))]) (.cons rfl (.cons rfl (.cons rfl (.cons rfl (.cons rfl (.nil _)))))) (K80 (y37.1 != 0) _ ⟨by rw [hg79]; rfl, rfl⟩)
theorem ref35_New_ok (w0 : World) (hg : Gs w0) {ρA : Tags} (hbd : ∀ b, ρA b ≠ 0 → b < w0.heap.size) (hz : Gz ρA) {o : Nat} (ho2 : 2 ≤ o) {r : ref35_Delegations} (hS : ref35_New = some r) :
  Calls Try.prog 12 #[] w0 (Ret (fun v w' => ∃ ρ' zr0, v = .pointer (some ⟨zr0, 0, none⟩) ∧ ref35_Delegations.O (fun p => o + p) ρ' w' zr0 r ∧ Tr ρA w0 (rng o 2) ρ' w')) := by
 unfold ref35_New at hS
 have hb := enter_fr (ρ := ρA) (w := w0) (n := 2) ho2 hbd
 have hz := hz.enter (n := 2) ho2
 refine calls_of_ke Try.func12 rfl (n := 3) rfl rfl (l := []) rfl ?_
 refine ke_seq ?_
 refine ke_region ?_
 refine sr_ev (v := .pointer none) (ev_assign rfl) (by decide) ?_
 refine sr_end (l' := []) (.nil _) ?_
 refine ke_seq ?_
 refine ke_region ?_
 refine sr_ev (v := .agg #[.bool true, (.slice none 0 0)]) (ev_build (vs := #[(0, .bool true)]) rfl (fun _ => by kernel_rfl)) (by decide) ?_
 refine sr_boxT 100 (by decide) hb.bd rfl (by decide) ?_
 intro g1 ρ2 w3 hB5 htr4
 replace hb := hb.trans htr4
 replace hB5 : Blk ρ2 100 w3 g1 (.cells #[.bool true, (.slice none 0 0)] 57 (0, 0)) := hB5
 refine sr_ev (v := .pointer (some ⟨g1, 0, none⟩)) (ev_assign rfl) (by decide) ?_
 refine sr_end (l' := [(0, .pointer (some ⟨g1, 0, none⟩))]) (.cons rfl (.nil _)) ?_
 cases hS
 exact ke_ret1 Try.func12 rfl rfl ⟨_, rfl, leave ρA w0 o 2 ρ2, _, rfl, ⟨_, (hB5.mv (leave_mv (p := 0) (by decide) hb)), OwnT.nil⟩, (leave_tr ho2 hb)⟩
theorem law35_yes_ok (w0 : World) (hg : Gs w0) {b_0 : Bool} {r : Int} (hS : law35_yes b_0 = some r) :
  Calls Try.prog 29 #[.bool b_0] w0 (Ret (fun v w' => v = .int .i64 r ∧ Below w0.heap.size w0 w')) := by
 unfold law35_yes at hS
 have hb := Below.refl w0.heap.size w0
 refine calls_of_ke Try.func29 rfl (n := 4) rfl rfl (l := [(0, .bool b_0)]) rfl ?_
 refine ke_seq ?_
 refine ke_region ?_
 refine sr_ev (v := .int .i64 0) (ev_assign rfl) (by decide) ?_
 refine sr_end (l' := [(0, .bool b_0)]) (.cons rfl (.nil _)) ?_
 refine ke_seq ?_
 refine ke_seq ?_
 refine ke_region ?_
 refine sr_ev (v := .bool b_0) (ev_move rfl) (by decide) ?_
 refine sr_end (l' := [(3, .bool b_0)]) (.cons rfl (.nil _)) ?_
 refine ke_cond (t := b_0) rfl (fun hc1 => ?_) (fun hc1 => ?_)
 ·replace hS := ite_true' hS hc1
  refine ke_seq ?_
  refine ke_region ?_
  refine sr_ev (v := .int .i64 1) (ev_assign rfl) (by decide) ?_
  refine sr_end (l' := [(2, .int .i64 1)]) (.cons rfl (.nil _)) ?_
  cases hS
  exact ke_ret1 Try.func29 rfl rfl ⟨_, rfl, rfl, hb⟩
 ·replace hS := ite_false' hS hc1
  refine ke_skip ?_
  refine ke_seq ?_
  refine ke_region ?_
  refine sr_ev (v := .int .i64 0) (ev_assign rfl) (by decide) ?_
  refine sr_end (l' := [(2, .int .i64 0)]) (.cons rfl (.nil _)) ?_
  cases hS
  exact ke_ret1 Try.func29 rfl rfl ⟨_, rfl, rfl, hb⟩
theorem law35_do_ok (w0 : World) (hg : Gs w0) {ρA : Tags} (hbd : ∀ b, ρA b ≠ 0 → b < w0.heap.size) (hz : Gz ρA) {o : Nat} (ho2 : 2 ≤ o) {d_0 : delegate_Delegations} {x_1 : law35_Op} {v4 : Value} {gd_0 : Nat} {r : Int × delegate_Delegations} (h5 : SlR strC (Wb ρA) w0 v4 x_1.Scopes) (ho0 : delegate_Delegations.O (fun p => o + p) ρA w0 gd_0 d_0) (hS : law35_do d_0 x_1 = some r) :
  Calls Try.prog 13 #[.pointer (some ⟨gd_0, 0, none⟩), .agg #[.int .i64 x_1.Call, .int .i64 x_1.Now, str x_1.From, str x_1.To, v4, .int .i64 x_1.Window.From, .int .i64 x_1.Window.Until]] w0 (Ret (fun v w' => ∃ ρ', v = .int .i64 r.1 ∧ delegate_Delegations.O (fun p => o + p) ρ' w' gd_0 r.2 ∧ Tr ρA w0 (rng o 2) ρ' w')) := by
 unfold law35_do at hS
 have hb := enter_fr (ρ := ρA) (w := w0) (n := 2) ho2 hbd
 have hz := hz.enter (n := 2) ho2
 replace h5 := SlR.mv h5 (enter_rd (n := 2) ho2)
 obtain ⟨v1, hB3, h2⟩ := ho0
 replace hB3 := hB3.mv (enter_mv (p := 0) (n := 2) (by decide) ho2)
 replace h2 := h2.mv (enter_mv (p := 1) (n := 2) (by decide) ho2)
 replace hB3 : Blk (enter ρA o 2) 100 w0 gd_0 (.cells #[v1] 54 (0, 0)) := hB3
 replace h2 : MapT delegate_way.ek delegate_delegation.c true (enter ρA o 2) 101 w0 v1 d_0.ways := h2
 refine calls_of_ke Try.func13 rfl (n := 44) rfl rfl (l := [(0, .pointer (some ⟨gd_0, 0, none⟩)), (1, .agg #[.int .i64 x_1.Call, .int .i64 x_1.Now, str x_1.From, str x_1.To, v4, .int .i64 x_1.Window.From, .int .i64 x_1.Window.Until])]) rfl ?_
 refine ke_seq ?_
 refine ke_region ?_
 refine sr_boxT 5 (by decide) hb.bd rfl (by decide) ?_
 intro g6 ρ7 w8 hB10 htr9
 replace h5 := h5.mv htr9.rd
 replace hB3 := hB3.mv (htr9.mv (i := 100) rfl)
 replace h2 := h2.mv (htr9.mv (i := 101) rfl)
 replace hb := hb.trans htr9
 replace hB10 : Blk ρ7 5 w8 g6 (.cells #[.int .i64 x_1.Call, .int .i64 x_1.Now, str x_1.From, str x_1.To, v4, .int .i64 x_1.Window.From, .int .i64 x_1.Window.Until] 35 (0, 0)) := hB10
 refine sr_ev (v := .int .i64 0) (ev_assign rfl) (by decide) ?_
 refine sr_end (l' := [(0, .pointer (some ⟨gd_0, 0, none⟩)), (3, .pointer (some ⟨g6, 0, none⟩))]) (.cons rfl (.cons rfl (.nil _))) ?_
 refine ke_seq ?_
 refine ke_seq ?_
 refine ke_region ?_
 refine sr_ev (v := .pointer (some ⟨g6, 0, none⟩)) (ev_fieldAddr (i := 0) Try.underlying35 rfl Try.info3 rfl rfl) (by decide) ?_
 refine sr_ev (v := .int .i64 x_1.Call) (ev_load Try.isAgg3 rfl (hB10.cell rfl)) (by decide) ?_
 refine sr_end (l' := [(0, .pointer (some ⟨gd_0, 0, none⟩)), (3, .pointer (some ⟨g6, 0, none⟩)), (6, .int .i64 x_1.Call)]) (.cons rfl (.cons rfl (.cons rfl (.nil _)))) ?_
 refine ke_block ?_
 refine ke_seq ?_
 refine ke_region ?_
 refine sr_ev (v := .bool (x_1.Call == 0)) (ev_eq rfl rfl) (by decide) ?_
 refine sr_ev (v := .bool (x_1.Call == 0)) (ev_assign rfl) (by decide) ?_
 refine sr_end (l' := [(0, .pointer (some ⟨gd_0, 0, none⟩)), (3, .pointer (some ⟨g6, 0, none⟩)), (6, .int .i64 x_1.Call), (7, .bool (x_1.Call == 0))]) (.cons rfl (.cons rfl (.cons rfl (.cons rfl (.nil _))))) ?_
 refine ke_cond (t := x_1.Call == 0) rfl (fun hc11 => ?_) (fun hc11 => ?_)
 ·replace hS := ite_true' hS hc11
  refine ke_seq ?_
  refine ke_region ?_
  refine sr_ev (v := .pointer (some ⟨gd_0, 0, none⟩)) (ev_move rfl) (by decide) ?_
  refine sr_ev (v := .pointer (some ⟨g6, 2, none⟩)) (ev_fieldAddr (i := 2) Try.underlying35 rfl Try.info9 rfl rfl) (by decide) ?_
  refine sr_ev (v := str x_1.From) (ev_load Try.isAgg9 rfl (hB10.cell rfl)) (by decide) ?_
  refine sr_ev (v := .pointer (some ⟨g6, 3, none⟩)) (ev_fieldAddr (i := 3) Try.underlying35 rfl Try.info9 rfl rfl) (by decide) ?_
  refine sr_ev (v := str x_1.To) (ev_load Try.isAgg9 rfl (hB10.cell rfl)) (by decide) ?_
  refine sr_ev (v := .pointer (some ⟨g6, 4, none⟩)) (ev_fieldAddr (i := 4) Try.underlying35 rfl Try.info23 rfl rfl) (by decide) ?_
  refine sr_ev (v := v4) (ev_load Try.isAgg23 rfl (hB10.cell rfl)) (by decide) ?_
  refine sr_ev (v := .pointer (some ⟨g6, 5, none⟩)) (ev_fieldAddr (i := 5) Try.underlying35 rfl Try.info33 rfl rfl) (by decide) ?_
  refine sr_ev (v := .agg #[.int .i64 x_1.Window.From, .int .i64 x_1.Window.Until]) (ev_loads (cs := [.int .i64 x_1.Window.From, .int .i64 x_1.Window.Until]) Try.isAgg33 Try.sizeOf33 rfl (hB10.cells (vs := [.int .i64 x_1.Window.From, .int .i64 x_1.Window.Until]) rfl)) (by decide) ?_
  obtain ⟨y12, hy13, hS⟩ := bind_some' hS
  refine sr_call (vs := [.pointer (some ⟨gd_0, 0, none⟩), str x_1.From, str x_1.To, v4, .agg #[.int .i64 x_1.Window.From, .int .i64 x_1.Window.Until]]) rfl Try.call22 rfl (delegate_Delegations_Allow_ok _ (hg.fr hz hb) (ρA := ρ7) hb.bd (hz.fr hg hb) (o := 100) (by decide) h5 (⟨_, hB3, h2⟩ : delegate_Delegations.O (fun p => 100 + p) ρ7 w8 gd_0 d_0) hy13) (by decide) ?_
  rintro _ w14 ⟨ρ20, rfl, ⟨v17, hB19, h18⟩, htr16⟩
  replace hb := hb.trans htr16
  replace hB19 : Blk ρ20 100 w14 gd_0 (.cells #[v17] 54 (0, 0)) := hB19
  replace h18 : MapT delegate_way.ek delegate_delegation.c true ρ20 101 w14 v17 y12.2.ways := h18
  refine sr_ev (v := .int .i64 y12.1) (ev_assign rfl) (by decide) ?_
  refine sr_end (l' := [(4, .int .i64 y12.1)]) (.cons rfl (.nil _)) ?_
  cases hS
  exact ke_ret1 Try.func13 rfl rfl ⟨_, rfl, leave ρA w0 o 2 ρ20, rfl, ⟨_, (hB19.mv (leave_mv (p := 0) (by decide) hb)), (h18.mv (leave_mv (p := 1) (by decide) hb))⟩, (leave_tr ho2 hb)⟩
 ·replace hS := ite_false' hS hc11
  refine ke_seq ?_
  refine ke_region ?_
  refine sr_ev (v := .bool (x_1.Call == 1)) (ev_eq rfl rfl) (by decide) ?_
  refine sr_ev (v := .bool (x_1.Call == 1)) (ev_assign rfl) (by decide) ?_
  refine sr_end (l' := [(0, .pointer (some ⟨gd_0, 0, none⟩)), (3, .pointer (some ⟨g6, 0, none⟩)), (6, .int .i64 x_1.Call), (19, .bool (x_1.Call == 1))]) (.cons rfl (.cons rfl (.cons rfl (.cons rfl (.nil _))))) ?_
  refine ke_cond (t := x_1.Call == 1) rfl (fun hc21 => ?_) (fun hc21 => ?_)
  ·replace hS := ite_true' hS hc21
   refine ke_seq ?_
   refine ke_region ?_
   refine sr_ev (v := .pointer (some ⟨gd_0, 0, none⟩)) (ev_move rfl) (by decide) ?_
   refine sr_ev (v := .pointer (some ⟨g6, 2, none⟩)) (ev_fieldAddr (i := 2) Try.underlying35 rfl Try.info9 rfl rfl) (by decide) ?_
   refine sr_ev (v := str x_1.From) (ev_load Try.isAgg9 rfl (hB10.cell rfl)) (by decide) ?_
   refine sr_ev (v := .pointer (some ⟨g6, 3, none⟩)) (ev_fieldAddr (i := 3) Try.underlying35 rfl Try.info9 rfl rfl) (by decide) ?_
   refine sr_ev (v := str x_1.To) (ev_load Try.isAgg9 rfl (hB10.cell rfl)) (by decide) ?_
   obtain ⟨y22, hy23, hS⟩ := bind_some' hS
   refine sr_call (vs := [.pointer (some ⟨gd_0, 0, none⟩), str x_1.From, str x_1.To]) rfl Try.call28 rfl (delegate_Delegations_Revoke_ok _ (hg.fr hz hb) (ρA := ρ7) hb.bd (hz.fr hg hb) (o := 100) (by decide) (⟨_, hB3, h2⟩ : delegate_Delegations.O (fun p => 100 + p) ρ7 w8 gd_0 d_0) hy23) (by decide) ?_
   rintro _ w24 ⟨ρ30, rfl, ⟨v27, hB29, h28⟩, htr26⟩
   replace hb := hb.trans htr26
   replace hB29 : Blk ρ30 100 w24 gd_0 (.cells #[v27] 54 (0, 0)) := hB29
   replace h28 : MapT delegate_way.ek delegate_delegation.c true ρ30 101 w24 v27 y22.2.ways := h28
   obtain ⟨y31, hy32, hS⟩ := bind_some' hS
   refine sr_call (vs := [.bool y22.1]) rfl Try.call29 rfl (law35_yes_ok _ (hg.fr hz hb) hy32) (by decide) ?_
   rintro _ w33 ⟨rfl, hbw34⟩
   have htr35 := Tr.of_below hbw34 hb.bd
   replace hB29 := hB29.mv (htr35.mv (i := 100) rfl)
   replace h28 := h28.mv (htr35.mv (i := 101) rfl)
   replace hb := hb.trans htr35
   refine sr_ev (v := .int .i64 y31) (ev_assign rfl) (by decide) ?_
   refine sr_end (l' := [(4, .int .i64 y31)]) (.cons rfl (.nil _)) ?_
   cases hS
   exact ke_ret1 Try.func13 rfl rfl ⟨_, rfl, leave ρA w0 o 2 ρ30, rfl, ⟨_, (hB29.mv (leave_mv (p := 0) (by decide) hb)), (h28.mv (leave_mv (p := 1) (by decide) hb))⟩, (leave_tr ho2 hb)⟩
  ·replace hS := ite_false' hS hc21
   refine ke_seq ?_
   refine ke_region ?_
   refine sr_ev (v := .bool (x_1.Call == 2)) (ev_eq rfl rfl) (by decide) ?_
   refine sr_ev (v := .bool (x_1.Call == 2)) (ev_assign rfl) (by decide) ?_
   refine sr_end (l' := [(0, .pointer (some ⟨gd_0, 0, none⟩)), (3, .pointer (some ⟨g6, 0, none⟩)), (28, .bool (x_1.Call == 2))]) (.cons rfl (.cons rfl (.cons rfl (.nil _)))) ?_
   refine ke_cond (t := x_1.Call == 2) rfl (fun hc36 => ?_) (fun hc36 => ?_)
   ·replace hS := ite_true' hS hc36
    refine ke_seq ?_
    refine ke_region ?_
    refine sr_ev (v := .pointer (some ⟨gd_0, 0, none⟩)) (ev_move rfl) (by decide) ?_
    refine sr_ev (v := .pointer (some ⟨g6, 2, none⟩)) (ev_fieldAddr (i := 2) Try.underlying35 rfl Try.info9 rfl rfl) (by decide) ?_
    refine sr_ev (v := str x_1.From) (ev_load Try.isAgg9 rfl (hB10.cell rfl)) (by decide) ?_
    obtain ⟨y37, hy38, hS⟩ := bind_some' hS
    refine sr_call (vs := [.pointer (some ⟨gd_0, 0, none⟩), str x_1.From]) rfl Try.call24 rfl (delegate_Delegations_Drop_ok _ (hg.fr hz hb) (ρA := ρ7) hb.bd (hz.fr hg hb) (o := 100) (by decide) (⟨_, hB3, h2⟩ : delegate_Delegations.O (fun p => 100 + p) ρ7 w8 gd_0 d_0) hy38) (by decide) ?_
    rintro _ w39 ⟨ρ45, rfl, ⟨v42, hB44, h43⟩, htr41⟩
    replace hb := hb.trans htr41
    replace hB44 : Blk ρ45 100 w39 gd_0 (.cells #[v42] 54 (0, 0)) := hB44
    replace h43 : MapT delegate_way.ek delegate_delegation.c true ρ45 101 w39 v42 y37.2.ways := h43
    refine sr_ev (v := .int .i64 y37.1) (ev_assign rfl) (by decide) ?_
    refine sr_end (l' := [(4, .int .i64 y37.1)]) (.cons rfl (.nil _)) ?_
    cases hS
    exact ke_ret1 Try.func13 rfl rfl ⟨_, rfl, leave ρA w0 o 2 ρ45, rfl, ⟨_, (hB44.mv (leave_mv (p := 0) (by decide) hb)), (h43.mv (leave_mv (p := 1) (by decide) hb))⟩, (leave_tr ho2 hb)⟩
   ·replace hS := ite_false' hS hc36
    refine ke_skip ?_
    refine ke_inBlock ?_
    refine ke_seq ?_
    refine ke_region ?_
    refine sr_ev (v := .pointer (some ⟨gd_0, 0, none⟩)) (ev_move rfl) (by decide) ?_
    refine sr_ev (v := .pointer (some ⟨g6, 2, none⟩)) (ev_fieldAddr (i := 2) Try.underlying35 rfl Try.info9 rfl rfl) (by decide) ?_
    refine sr_ev (v := str x_1.From) (ev_load Try.isAgg9 rfl (hB10.cell rfl)) (by decide) ?_
    refine sr_ev (v := .pointer (some ⟨g6, 3, none⟩)) (ev_fieldAddr (i := 3) Try.underlying35 rfl Try.info9 rfl rfl) (by decide) ?_
    refine sr_ev (v := str x_1.To) (ev_load Try.isAgg9 rfl (hB10.cell rfl)) (by decide) ?_
    refine sr_ev (v := .pointer (some ⟨g6, 4, none⟩)) (ev_fieldAddr (i := 4) Try.underlying35 rfl Try.info23 rfl rfl) (by decide) ?_
    refine sr_ev (v := v4) (ev_load Try.isAgg23 rfl (hB10.cell rfl)) (by decide) ?_
    refine sr_ev (v := .pointer (some ⟨g6, 1, none⟩)) (ev_fieldAddr (i := 1) Try.underlying35 rfl Try.info3 rfl rfl) (by decide) ?_
    refine sr_ev (v := .int .i64 x_1.Now) (ev_load Try.isAgg3 rfl (hB10.cell rfl)) (by decide) ?_
    obtain ⟨y46, hy47, hS⟩ := bind_some' hS
    refine sr_call (vs := [.pointer (some ⟨gd_0, 0, none⟩), str x_1.From, str x_1.To, v4, .int .i64 x_1.Now]) rfl Try.call26 rfl (delegate_Delegations_May_ok _ (hg.fr hz hb) (ρA := ρ7) hb.bd (hz.fr hg hb) (τ0 := (fun p => 100 + p)) (fun p => Nat.le_add_right_of_le (by decide)) h5 (⟨_, hB3, h2⟩ : delegate_Delegations.O (fun p => 100 + p) ρ7 w8 gd_0 d_0) hy47) (by decide) ?_
    rintro _ w48 ⟨rfl, hbw49⟩
    have htr50 := Tr.of_below hbw49 hb.bd
    replace hB3 := hB3.mv (htr50.mv (i := 100) rfl)
    replace h2 := h2.mv (htr50.mv (i := 101) rfl)
    replace hb := hb.trans htr50
    refine sr_ev (v := .int .i64 y46) (ev_assign rfl) (by decide) ?_
    refine sr_end (l' := [(4, .int .i64 y46)]) (.cons rfl (.nil _)) ?_
    cases hS
    exact ke_ret1 Try.func13 rfl rfl ⟨_, rfl, leave ρA w0 o 2 ρ7, rfl, ⟨_, (hB3.mv (leave_mv (p := 0) (by decide) hb)), (h2.mv (leave_mv (p := 1) (by decide) hb))⟩, (leave_tr ho2 hb)⟩
theorem ref35_Delegations_Made_ok (w0 : World) (hg : Gs w0) {ρA : Tags} (hbd : ∀ b, ρA b ≠ 0 → b < w0.heap.size) (hz : Gz ρA) {τ0 : Nat → Nat} (hτ0 : ∀ p, 1 ≤ τ0 p) {d_0 : ref35_Delegations} {gd_0 : Nat} {r : Bool} (ho0 : ref35_Delegations.O τ0 ρA w0 gd_0 d_0) (hS : ref35_Delegations_Made d_0 = some r) :
  Calls Try.prog 35 #[.pointer (some ⟨gd_0, 0, none⟩)] w0 (Ret (fun v w' => v = .bool r ∧ Below w0.heap.size w0 w')) := by
 unfold ref35_Delegations_Made at hS
 have hb := flat1_fr (ρ := ρA) (w := w0) hbd
 have hz := hz.flat1
 obtain ⟨v1, hB3, h2⟩ := ho0
 replace hB3 := hB3.mv (flat1_mv (hτ0 0))
 replace h2 := h2.mv (flat1_mv (hτ0 1)) (by decide)
 replace hB3 : Blk (flat1 ρA) 1 w0 gd_0 (.cells #[.bool d_0.made, v1] 57 (0, 0)) := hB3
 replace h2 : OwnT ref35_one.c 65 (flat1 ρA) 1 w0 v1 d_0.l := h2
 refine calls_of_ke Try.func35 rfl (n := 11) rfl rfl (l := [(0, .pointer (some ⟨gd_0, 0, none⟩))]) rfl ?_
 refine ke_seq ?_
 refine ke_region ?_
 refine sr_ev (v := .bool false) (ev_assign rfl) (by decide) ?_
 refine sr_end (l' := [(0, .pointer (some ⟨gd_0, 0, none⟩))]) (.cons rfl (.nil _)) ?_
 refine ke_seq ?_
 refine ke_region ?_
 refine sr_ev (v := .pointer (some ⟨gd_0, 0, none⟩)) (ev_move rfl) (by decide) ?_
 refine sr_ev (v := .bool true) (ev_pneT_some Try.underlying29 rfl rfl) (by decide) ?_
 refine sr_ev (v := .bool true) (ev_move rfl) (by decide) ?_
 refine sr_evg (b := true) (e := 5) rfl rfl rfl (v := .pointer (some ⟨gd_0, 0, none⟩)) (ev_move rfl) (by decide) ?_
 refine sr_evg (b := true) (e := 5) rfl rfl rfl (v := .pointer (some ⟨gd_0, 0, none⟩)) (ev_nilCheck rfl) (by decide) ?_
 refine sr_evg (b := true) (e := 5) rfl rfl rfl (v := .pointer (some ⟨gd_0, 0, none⟩)) (ev_fieldAddr (i := 0) Try.underlying57 rfl Try.info4 rfl rfl) (by decide) ?_
 refine sr_evg (b := true) (e := 5) rfl rfl rfl (v := .bool d_0.made) (ev_load Try.isAgg4 rfl (hB3.cell rfl)) (by decide) ?_
 refine sr_ev (v := .bool d_0.made) (ev_pick_t rfl rfl rfl) (by decide) ?_
 refine sr_ev (v := .bool d_0.made) (ev_assign rfl) (by decide) ?_
 refine sr_end (l' := [(2, .bool d_0.made)]) (.cons rfl (.nil _)) ?_
 cases hS
 exact ke_ret1 Try.func35 rfl rfl ⟨_, rfl, rfl, (hb.below (flat1_le _))⟩
theorem ref01_letter_ok (w0 : World) (hg : Gs w0) {c_0 : Int} {r : Bool} (hS : ref01_letter c_0 = some r) :
  Calls Try.prog 70 #[.int .u8 c_0] w0 (Ret (fun v w' => v = .bool r ∧ Below w0.heap.size w0 w')) := by
 unfold ref01_letter at hS
 have hb := Below.refl w0.heap.size w0
 refine calls_of_ke Try.func70 rfl (n := 17) rfl rfl (l := [(0, .int .u8 c_0)]) rfl ?_
 refine ke_seq ?_
 refine ke_region ?_
 refine sr_ev (v := .bool false) (ev_assign rfl) (by decide) ?_
 refine sr_end (l' := [(0, .int .u8 c_0)]) (.cons rfl (.nil _)) ?_
 refine ke_seq ?_
 refine ke_region ?_
 refine sr_ev (v := .int .u8 c_0) (ev_move rfl) (by decide) ?_
 refine sr_ev (v := .bool (decide (c_0 ≥ 97))) (ev_ge rfl rfl) (by decide) ?_
 refine sr_ev (v := .bool (decide (c_0 ≥ 97))) (ev_move rfl) (by decide) ?_
 refine sr_join (m := 3) (C := fun (x : Bool) w1 => x = ((decide (c_0 ≥ 97)) && (decide (c_0 ≤ 122))) ∧ w0 = w1) (l' := fun x => [(0, .int .u8 c_0), (8, .bool x)]) ?_ ?_
 ·rintro _ _ ⟨rfl, rfl⟩
  refine sr_ev (v := .bool ((decide (c_0 ≥ 97)) && (decide (c_0 ≤ 122)))) (ev_move rfl) (by decide) ?_
  refine sr_join (m := 7) (C := fun (x : Bool) w1 => x = (((decide (c_0 ≥ 97)) && (decide (c_0 ≤ 122))) || ((decide (c_0 ≥ 65)) && (decide (c_0 ≤ 90)))) ∧ w0 = w1) (l' := fun x => [(16, .bool x)]) ?_ ?_
  ·rintro _ _ ⟨rfl, rfl⟩
   refine sr_ev (v := .bool (((decide (c_0 ≥ 97)) && (decide (c_0 ≤ 122))) || ((decide (c_0 ≥ 65)) && (decide (c_0 ≤ 90))))) (ev_assign rfl) (by decide) ?_
   refine sr_end (l' := [(2, .bool (((decide (c_0 ≥ 97)) && (decide (c_0 ≤ 122))) || ((decide (c_0 ≥ 65)) && (decide (c_0 ≤ 90)))))]) (.cons rfl (.nil _)) ?_
   cases hS
   exact ke_ret1 Try.func70 rfl rfl ⟨_, rfl, rfl, hb⟩
  ·intro K9
   rcases Bool.eq_false_or_eq_true ((decide (c_0 ≥ 97)) && (decide (c_0 ≤ 122))) with hg8 | hg8
   ·refine sr_pass (e := 9) rfl rfl (by rw [hg8]; rfl) (by decide) ?_
    refine sr_pass (e := 9) rfl rfl (by rw [hg8]; rfl) (by decide) ?_
    refine sr_pass (e := 9) rfl rfl (by rw [hg8]; rfl) (by decide) ?_
    refine sr_pass_undef (e := 12) rfl rfl (by decide) ?_
    refine sr_pass_undef (e := 12) rfl rfl (by decide) ?_
    refine sr_pass (e := 9) rfl rfl (by rw [hg8]; rfl) (by decide) ?_
    refine sr_ev (v := .bool true) (ev_pick_t rfl hg8 rfl) (by decide) ?_
    exact sr_weaken (l' := [(16, .bool true)]) (.cons rfl (.nil _)) (K9 true _ ⟨by rw [hg8]; rfl, rfl⟩)
   ·refine sr_evg (b := false) (e := 9) rfl rfl hg8 (v := .int .u8 c_0) (ev_move rfl) (by decide) ?_
    refine sr_evg (b := false) (e := 9) rfl rfl hg8 (v := .bool (decide (c_0 ≥ 65))) (ev_ge rfl rfl) (by decide) ?_
    refine sr_evg (b := false) (e := 9) rfl rfl hg8 (v := .bool (decide (c_0 ≥ 65))) (ev_move rfl) (by decide) ?_
    refine sr_join (m := 3) (C := fun (x : Bool) w1 => x = ((decide (c_0 ≥ 65)) && (decide (c_0 ≤ 90))) ∧ w0 = w1) (l' := fun x => [(9, .bool ((decide (c_0 ≥ 97)) && (decide (c_0 ≤ 122)))), (15, .bool x)]) ?_ ?_
    ·rintro _ _ ⟨rfl, rfl⟩
     refine sr_ev (v := .bool ((decide (c_0 ≥ 65)) && (decide (c_0 ≤ 90)))) (ev_pick_f rfl hg8 rfl) (by decide) ?_
     exact sr_weaken (l' := [(16, .bool ((decide (c_0 ≥ 65)) && (decide (c_0 ≤ 90))))]) (.cons rfl (.nil _)) (K9 ((decide (c_0 ≥ 65)) && (decide (c_0 ≤ 90))) _ ⟨by rw [hg8]; rfl, rfl⟩)
    ·intro K16
     rcases Bool.eq_false_or_eq_true (decide (c_0 ≥ 65)) with hg15 | hg15
     ·refine sr_evg (b := true) (e := 12) rfl rfl hg15 (v := .int .u8 c_0) (ev_move rfl) (by decide) ?_
      refine sr_evg (b := true) (e := 12) rfl rfl hg15 (v := .bool (decide (c_0 ≤ 90))) (ev_le rfl rfl) (by decide) ?_
      refine sr_evg (b := false) (e := 9) rfl rfl hg8 (v := .bool (decide (c_0 ≤ 90))) (ev_pick_t rfl hg15 rfl) (by decide) ?_
      exact sr_weaken (l' := [(9, .bool ((decide (c_0 ≥ 97)) && (decide (c_0 ≤ 122)))), (15, .bool (decide (c_0 ≤ 90)))]) (.cons rfl (.cons rfl (.nil _))) (K16 (decide (c_0 ≤ 90)) _ ⟨by rw [hg15]; rfl, rfl⟩)
     ·refine sr_pass (e := 12) rfl rfl (by rw [hg15]; rfl) (by decide) ?_
      refine sr_pass (e := 12) rfl rfl (by rw [hg15]; rfl) (by decide) ?_
      refine sr_evg (b := false) (e := 9) rfl rfl hg8 (v := .bool false) (ev_pick_f rfl hg15 rfl) (by decide) ?_
      exact sr_weaken (l' := [(9, .bool ((decide (c_0 ≥ 97)) && (decide (c_0 ≤ 122)))), (15, .bool false)]) (.cons rfl (.cons rfl (.nil _))) (K16 false _ ⟨by rw [hg15]; rfl, rfl⟩)
 ·intro K2
  rcases Bool.eq_false_or_eq_true (decide (c_0 ≥ 97)) with hg1 | hg1
  ·refine sr_evg (b := true) (e := 5) rfl rfl hg1 (v := .int .u8 c_0) (ev_move rfl) (by decide) ?_
   refine sr_evg (b := true) (e := 5) rfl rfl hg1 (v := .bool (decide (c_0 ≤ 122))) (ev_le rfl rfl) (by decide) ?_
   refine sr_ev (v := .bool (decide (c_0 ≤ 122))) (ev_pick_t rfl hg1 rfl) (by decide) ?_
   exact sr_weaken (l' := [(0, .int .u8 c_0), (8, .bool (decide (c_0 ≤ 122)))]) (.cons rfl (.cons rfl (.nil _))) (K2 (decide (c_0 ≤ 122)) _ ⟨by rw [hg1]; rfl, rfl⟩)
  ·refine sr_pass (e := 5) rfl rfl (by rw [hg1]; rfl) (by decide) ?_
   refine sr_pass (e := 5) rfl rfl (by rw [hg1]; rfl) (by decide) ?_
   refine sr_ev (v := .bool false) (ev_pick_f rfl hg1 rfl) (by decide) ?_
   exact sr_weaken (l' := [(0, .int .u8 c_0), (8, .bool false)]) (.cons rfl (.cons rfl (.nil _))) (K2 false _ ⟨by rw [hg1]; rfl, rfl⟩)
theorem ref01_digit_ok (w0 : World) (hg : Gs w0) {c_0 : Int} {r : Bool} (hS : ref01_digit c_0 = some r) :
  Calls Try.prog 71 #[.int .u8 c_0] w0 (Ret (fun v w' => v = .bool r ∧ Below w0.heap.size w0 w')) := by
 unfold ref01_digit at hS
 have hb := Below.refl w0.heap.size w0
 refine calls_of_ke Try.func71 rfl (n := 9) rfl rfl (l := [(0, .int .u8 c_0)]) rfl ?_
 refine ke_seq ?_
 refine ke_region ?_
 refine sr_ev (v := .bool false) (ev_assign rfl) (by decide) ?_
 refine sr_end (l' := [(0, .int .u8 c_0)]) (.cons rfl (.nil _)) ?_
 refine ke_seq ?_
 refine ke_region ?_
 refine sr_ev (v := .int .u8 c_0) (ev_move rfl) (by decide) ?_
 refine sr_ev (v := .bool (decide (c_0 ≥ 48))) (ev_ge rfl rfl) (by decide) ?_
 refine sr_ev (v := .bool (decide (c_0 ≥ 48))) (ev_move rfl) (by decide) ?_
 refine sr_join (m := 3) (C := fun (x : Bool) w1 => x = ((decide (c_0 ≥ 48)) && (decide (c_0 ≤ 57))) ∧ w0 = w1) (l' := fun x => [(8, .bool x)]) ?_ ?_
 ·rintro _ _ ⟨rfl, rfl⟩
  refine sr_ev (v := .bool ((decide (c_0 ≥ 48)) && (decide (c_0 ≤ 57)))) (ev_assign rfl) (by decide) ?_
  refine sr_end (l' := [(2, .bool ((decide (c_0 ≥ 48)) && (decide (c_0 ≤ 57))))]) (.cons rfl (.nil _)) ?_
  cases hS
  exact ke_ret1 Try.func71 rfl rfl ⟨_, rfl, rfl, hb⟩
 ·intro K2
  rcases Bool.eq_false_or_eq_true (decide (c_0 ≥ 48)) with hg1 | hg1
  ·refine sr_evg (b := true) (e := 5) rfl rfl hg1 (v := .int .u8 c_0) (ev_move rfl) (by decide) ?_
   refine sr_evg (b := true) (e := 5) rfl rfl hg1 (v := .bool (decide (c_0 ≤ 57))) (ev_le rfl rfl) (by decide) ?_
   refine sr_ev (v := .bool (decide (c_0 ≤ 57))) (ev_pick_t rfl hg1 rfl) (by decide) ?_
   exact sr_weaken (l' := [(8, .bool (decide (c_0 ≤ 57)))]) (.cons rfl (.nil _)) (K2 (decide (c_0 ≤ 57)) _ ⟨by rw [hg1]; rfl, rfl⟩)
  ·refine sr_pass (e := 5) rfl rfl (by rw [hg1]; rfl) (by decide) ?_
   refine sr_pass (e := 5) rfl rfl (by rw [hg1]; rfl) (by decide) ?_
   refine sr_ev (v := .bool false) (ev_pick_f rfl hg1 rfl) (by decide) ?_
   exact sr_weaken (l' := [(8, .bool false)]) (.cons rfl (.nil _)) (K2 false _ ⟨by rw [hg1]; rfl, rfl⟩)
theorem ref01_Word_L1_ok {w0 : World} (hg : Gs w0) : ∀ (n : Nat), ∀ {r : Bool} {s_0 : Str} {i_3 : Int}, ref01_Word_L1 n s_0 i_3 = some r → ∀ {w : World}, (Below w0.heap.size w0 w) → KE Try.prog 52 (Ret (fun v w' => v = .bool r ∧ Below w0.heap.size w0 w')) 54 [.code (sub (bodyOf Try.f52) [2, 1, 2, 2, 1]), .inLoop (sub (bodyOf Try.f52) [2, 1, 2, 2, 1]), .inBlock 0, .code (sub (bodyOf Try.f52) [2, 2])] [(0, str s_0), (3, .int .i64 i_3)] w := by
 intro n
 induction n with
 | zero => intro r s_0 i_3 hS; cases hS
 | succ n ih =>
  have hr0 : ∀ {r : Bool} {s_0 : Str} {i_3 : Int}, ref01_Word_L1 n s_0 i_3 = some r → ∀ {w : World}, (Below w0.heap.size w0 w) → KE Try.prog 52 (Ret (fun v w' => v = .bool r ∧ Below w0.heap.size w0 w')) 54 [.inLoop (sub (bodyOf Try.f52) [2, 1, 2, 2, 1]), .inBlock 0, .code (sub (bodyOf Try.f52) [2, 2])] [(0, str s_0), (3, .int .i64 i_3)] w := fun {r} {s_0} {i_3} hS {w} hb => ke_inLoop (ih hS hb)
  clear ih
  intro r s_0 i_3 hS w hb
  unfold ref01_Word_L1 at hS
  refine ke_seq ?_
  refine ke_seq ?_
  refine ke_region ?_
  refine sr_ev (v := .int .i64 i_3) (ev_move rfl) (by decide) ?_
  refine sr_ev (v := str s_0) (ev_move rfl) (by decide) ?_
  refine sr_ev (v := .int .i64 (s_0.length : Int)) (ev_slen Try.underlying9 rfl) (by decide) ?_
  refine sr_ev (v := .bool (decide (i_3 < (s_0.length : Int)))) (ev_lt rfl rfl) (by decide) ?_
  refine sr_end (l' := [(0, str s_0), (3, .int .i64 i_3), (7, .bool (decide (i_3 < (s_0.length : Int))))]) (.cons rfl (.cons rfl (.cons rfl (.nil _)))) ?_
  refine ke_cond (t := decide (i_3 < (s_0.length : Int))) rfl (fun hc1 => ?_) (fun hc1 => ?_)
  ·replace hS := ite_true' hS hc1
   refine ke_skip ?_
   refine ke_seq ?_
   refine ke_block ?_
   refine ke_seq ?_
   refine ke_region ?_
   refine sr_ev (v := str s_0) (ev_move rfl) (by decide) ?_
   refine sr_ev (v := .int .i64 i_3) (ev_move rfl) (by decide) ?_
   obtain ⟨hk2, hS⟩ := chk_some hS
   refine sr_ev (v := .int .u8 (byteAt s_0 i_3)) (ev_sindex Try.underlying9 rfl rfl hk2) (by decide) ?_
   obtain ⟨y3, hy4, hS⟩ := bind_some' hS
   refine sr_call (vs := [.int .u8 (byteAt s_0 i_3)]) rfl Try.call70 rfl (ref01_letter_ok _ (hg.below hb) hy4) (by decide) ?_
   rintro _ w5 ⟨rfl, hbw6⟩
   replace hb := hb.trans (hbw6.mono hb.size)
   refine sr_ev (v := .bool (!y3)) (ev_not rfl) (by decide) ?_
   refine sr_ev (v := .bool (!y3)) (ev_move rfl) (by decide) ?_
   obtain ⟨z9, hz11, hS⟩ := bind_some' hS
   refine sr_join (m := 6) (C := fun (x : Bool) w1 => z9 = x ∧ Below w5.heap.size w5 w1) (l' := fun x => [(0, str s_0), (3, .int .i64 i_3), (21, .bool x)]) ?_ ?_
   ·rintro _ w12 ⟨rfl, hbw13⟩
    replace hb := hb.trans (hbw13.mono hb.size)
    refine sr_ev (v := .bool z9) (ev_move rfl) (by decide) ?_
    obtain ⟨z21, hz23, hS⟩ := bind_some' hS
    refine sr_join (m := 5) (C := fun (x : Bool) w1 => z21 = x ∧ Below w12.heap.size w12 w1) (l' := fun x => [(0, str s_0), (3, .int .i64 i_3), (27, .bool x)]) ?_ ?_
    ·rintro _ w24 ⟨rfl, hbw25⟩
     replace hb := hb.trans (hbw25.mono hb.size)
     refine sr_ev (v := .bool z21) (ev_move rfl) (by decide) ?_
     obtain ⟨z29, hz31, hS⟩ := bind_some' hS
     refine sr_join (m := 5) (C := fun (x : Bool) w1 => z29 = x ∧ Below w24.heap.size w24 w1) (l' := fun x => [(0, str s_0), (3, .int .i64 i_3), (33, .bool x)]) ?_ ?_
     ·rintro _ w32 ⟨rfl, hbw33⟩
      replace hb := hb.trans (hbw33.mono hb.size)
      refine sr_ev (v := .bool z29) (ev_move rfl) (by decide) ?_
      obtain ⟨z37, hz39, hS⟩ := bind_some' hS
      refine sr_join (m := 5) (C := fun (x : Bool) w1 => z37 = x ∧ Below w32.heap.size w32 w1) (l' := fun x => [(0, str s_0), (3, .int .i64 i_3), (39, .bool x)]) ?_ ?_
      ·rintro _ w40 ⟨rfl, hbw41⟩
       replace hb := hb.trans (hbw41.mono hb.size)
       refine sr_ev (v := .bool z37) (ev_move rfl) (by decide) ?_
       obtain ⟨z45, hz47, hS⟩ := bind_some' hS
       refine sr_join (m := 5) (C := fun (x : Bool) w1 => z45 = x ∧ Below w40.heap.size w40 w1) (l' := fun x => [(0, str s_0), (3, .int .i64 i_3), (45, .bool x)]) ?_ ?_
       ·rintro _ w48 ⟨rfl, hbw49⟩
        replace hb := hb.trans (hbw49.mono hb.size)
        refine sr_end (l' := [(0, str s_0), (3, .int .i64 i_3), (45, .bool z45)]) (.cons rfl (.cons rfl (.cons rfl (.nil _)))) ?_
        refine ke_cond (t := z45) rfl (fun hc51 => ?_) (fun hc51 => ?_)
        ·replace hS := ite_true' hS hc51
         refine ke_seq ?_
         refine ke_region ?_
         refine sr_ev (v := .bool false) (ev_assign rfl) (by decide) ?_
         refine sr_end (l' := [(2, .bool false)]) (.cons rfl (.nil _)) ?_
         cases hS
         exact ke_ret1 Try.func52 rfl rfl ⟨_, rfl, rfl, hb⟩
        ·replace hS := ite_false' hS hc51
         refine ke_skip ?_
         refine ke_inBlock ?_
         refine ke_region ?_
         refine sr_ev (v := .int .i64 i_3) (ev_move rfl) (by decide) ?_
         refine sr_ev (v := .int .i64 (IntKind.i64.wrap (i_3 + 1))) (ev_add rfl rfl) (by decide) ?_
         refine sr_ev (v := .int .i64 (IntKind.i64.wrap (i_3 + 1))) (ev_assign rfl) (by decide) ?_
         refine sr_end (l' := [(0, str s_0), (3, .int .i64 (IntKind.i64.wrap (i_3 + 1)))]) (.cons rfl (.cons rfl (.nil _))) ?_
         have hK := hr0 hS hb
         exact ke_weaken (l' := [(0, str s_0), (3, .int .i64 (IntKind.i64.wrap (i_3 + 1)))]) (.cons rfl (.cons rfl (.nil _))) hK
       ·intro K44
        clear hS
        have hj46 := Below.refl w40.heap.size w40
        rcases Bool.eq_false_or_eq_true z37 with hg43 | hg43
        ·have hS := ite_true' hz47 hg43
         refine sr_evg (b := true) (e := 40) rfl rfl hg43 (v := str s_0) (ev_move rfl) (by decide) ?_
         refine sr_evg (b := true) (e := 40) rfl rfl hg43 (v := .int .i64 i_3) (ev_move rfl) (by decide) ?_
         obtain ⟨hk50, hS⟩ := chk_some hS
         refine sr_evg (b := true) (e := 40) rfl rfl hg43 (v := .int .u8 (byteAt s_0 i_3)) (ev_sindex Try.underlying9 rfl rfl hk50) (by decide) ?_
         refine sr_evg (b := true) (e := 40) rfl rfl hg43 (v := .bool ((byteAt s_0 i_3) != 58)) (ev_ne rfl rfl) (by decide) ?_
         refine sr_ev (v := .bool ((byteAt s_0 i_3) != 58)) (ev_pick_t rfl hg43 rfl) (by decide) ?_
         exact sr_weaken (l' := [(0, str s_0), (3, .int .i64 i_3), (45, .bool ((byteAt s_0 i_3) != 58))]) (.cons rfl (.cons rfl (.cons rfl (.nil _)))) (K44 ((byteAt s_0 i_3) != 58) _ ⟨(Option.some.inj hS).symm, hj46⟩)
        ·have hS := ite_false' hz47 hg43
         refine sr_pass (e := 40) rfl rfl (by rw [hg43]; rfl) (by decide) ?_
         refine sr_pass (e := 40) rfl rfl (by rw [hg43]; rfl) (by decide) ?_
         refine sr_pass (e := 40) rfl rfl (by rw [hg43]; rfl) (by decide) ?_
         refine sr_pass (e := 40) rfl rfl (by rw [hg43]; rfl) (by decide) ?_
         refine sr_ev (v := .bool false) (ev_pick_f rfl hg43 rfl) (by decide) ?_
         exact sr_weaken (l' := [(0, str s_0), (3, .int .i64 i_3), (45, .bool false)]) (.cons rfl (.cons rfl (.cons rfl (.nil _)))) (K44 false _ ⟨(Option.some.inj hS).symm, hj46⟩)
      ·intro K36
       clear hS
       have hj38 := Below.refl w32.heap.size w32
       rcases Bool.eq_false_or_eq_true z29 with hg35 | hg35
       ·have hS := ite_true' hz39 hg35
        refine sr_evg (b := true) (e := 34) rfl rfl hg35 (v := str s_0) (ev_move rfl) (by decide) ?_
        refine sr_evg (b := true) (e := 34) rfl rfl hg35 (v := .int .i64 i_3) (ev_move rfl) (by decide) ?_
        obtain ⟨hk42, hS⟩ := chk_some hS
        refine sr_evg (b := true) (e := 34) rfl rfl hg35 (v := .int .u8 (byteAt s_0 i_3)) (ev_sindex Try.underlying9 rfl rfl hk42) (by decide) ?_
        refine sr_evg (b := true) (e := 34) rfl rfl hg35 (v := .bool ((byteAt s_0 i_3) != 46)) (ev_ne rfl rfl) (by decide) ?_
        refine sr_ev (v := .bool ((byteAt s_0 i_3) != 46)) (ev_pick_t rfl hg35 rfl) (by decide) ?_
        exact sr_weaken (l' := [(0, str s_0), (3, .int .i64 i_3), (39, .bool ((byteAt s_0 i_3) != 46))]) (.cons rfl (.cons rfl (.cons rfl (.nil _)))) (K36 ((byteAt s_0 i_3) != 46) _ ⟨(Option.some.inj hS).symm, hj38⟩)
       ·have hS := ite_false' hz39 hg35
        refine sr_pass (e := 34) rfl rfl (by rw [hg35]; rfl) (by decide) ?_
        refine sr_pass (e := 34) rfl rfl (by rw [hg35]; rfl) (by decide) ?_
        refine sr_pass (e := 34) rfl rfl (by rw [hg35]; rfl) (by decide) ?_
        refine sr_pass (e := 34) rfl rfl (by rw [hg35]; rfl) (by decide) ?_
        refine sr_ev (v := .bool false) (ev_pick_f rfl hg35 rfl) (by decide) ?_
        exact sr_weaken (l' := [(0, str s_0), (3, .int .i64 i_3), (39, .bool false)]) (.cons rfl (.cons rfl (.cons rfl (.nil _)))) (K36 false _ ⟨(Option.some.inj hS).symm, hj38⟩)
     ·intro K28
      clear hS
      have hj30 := Below.refl w24.heap.size w24
      rcases Bool.eq_false_or_eq_true z21 with hg27 | hg27
      ·have hS := ite_true' hz31 hg27
       refine sr_evg (b := true) (e := 28) rfl rfl hg27 (v := str s_0) (ev_move rfl) (by decide) ?_
       refine sr_evg (b := true) (e := 28) rfl rfl hg27 (v := .int .i64 i_3) (ev_move rfl) (by decide) ?_
       obtain ⟨hk34, hS⟩ := chk_some hS
       refine sr_evg (b := true) (e := 28) rfl rfl hg27 (v := .int .u8 (byteAt s_0 i_3)) (ev_sindex Try.underlying9 rfl rfl hk34) (by decide) ?_
       refine sr_evg (b := true) (e := 28) rfl rfl hg27 (v := .bool ((byteAt s_0 i_3) != 95)) (ev_ne rfl rfl) (by decide) ?_
       refine sr_ev (v := .bool ((byteAt s_0 i_3) != 95)) (ev_pick_t rfl hg27 rfl) (by decide) ?_
       exact sr_weaken (l' := [(0, str s_0), (3, .int .i64 i_3), (33, .bool ((byteAt s_0 i_3) != 95))]) (.cons rfl (.cons rfl (.cons rfl (.nil _)))) (K28 ((byteAt s_0 i_3) != 95) _ ⟨(Option.some.inj hS).symm, hj30⟩)
      ·have hS := ite_false' hz31 hg27
       refine sr_pass (e := 28) rfl rfl (by rw [hg27]; rfl) (by decide) ?_
       refine sr_pass (e := 28) rfl rfl (by rw [hg27]; rfl) (by decide) ?_
       refine sr_pass (e := 28) rfl rfl (by rw [hg27]; rfl) (by decide) ?_
       refine sr_pass (e := 28) rfl rfl (by rw [hg27]; rfl) (by decide) ?_
       refine sr_ev (v := .bool false) (ev_pick_f rfl hg27 rfl) (by decide) ?_
       exact sr_weaken (l' := [(0, str s_0), (3, .int .i64 i_3), (33, .bool false)]) (.cons rfl (.cons rfl (.cons rfl (.nil _)))) (K28 false _ ⟨(Option.some.inj hS).symm, hj30⟩)
    ·intro K20
     clear hS
     have hj22 := Below.refl w12.heap.size w12
     rcases Bool.eq_false_or_eq_true z9 with hg19 | hg19
     ·have hS := ite_true' hz23 hg19
      refine sr_evg (b := true) (e := 22) rfl rfl hg19 (v := str s_0) (ev_move rfl) (by decide) ?_
      refine sr_evg (b := true) (e := 22) rfl rfl hg19 (v := .int .i64 i_3) (ev_move rfl) (by decide) ?_
      obtain ⟨hk26, hS⟩ := chk_some hS
      refine sr_evg (b := true) (e := 22) rfl rfl hg19 (v := .int .u8 (byteAt s_0 i_3)) (ev_sindex Try.underlying9 rfl rfl hk26) (by decide) ?_
      refine sr_evg (b := true) (e := 22) rfl rfl hg19 (v := .bool ((byteAt s_0 i_3) != 45)) (ev_ne rfl rfl) (by decide) ?_
      refine sr_ev (v := .bool ((byteAt s_0 i_3) != 45)) (ev_pick_t rfl hg19 rfl) (by decide) ?_
      exact sr_weaken (l' := [(0, str s_0), (3, .int .i64 i_3), (27, .bool ((byteAt s_0 i_3) != 45))]) (.cons rfl (.cons rfl (.cons rfl (.nil _)))) (K20 ((byteAt s_0 i_3) != 45) _ ⟨(Option.some.inj hS).symm, hj22⟩)
     ·have hS := ite_false' hz23 hg19
      refine sr_pass (e := 22) rfl rfl (by rw [hg19]; rfl) (by decide) ?_
      refine sr_pass (e := 22) rfl rfl (by rw [hg19]; rfl) (by decide) ?_
      refine sr_pass (e := 22) rfl rfl (by rw [hg19]; rfl) (by decide) ?_
      refine sr_pass (e := 22) rfl rfl (by rw [hg19]; rfl) (by decide) ?_
      refine sr_ev (v := .bool false) (ev_pick_f rfl hg19 rfl) (by decide) ?_
      exact sr_weaken (l' := [(0, str s_0), (3, .int .i64 i_3), (27, .bool false)]) (.cons rfl (.cons rfl (.cons rfl (.nil _)))) (K20 false _ ⟨(Option.some.inj hS).symm, hj22⟩)
   ·intro K8
    clear hS
    have hj10 := Below.refl w5.heap.size w5
    rcases Bool.eq_false_or_eq_true (!y3) with hg7 | hg7
    ·have hS := ite_true' hz11 hg7
     refine sr_evg (b := true) (e := 15) rfl rfl hg7 (v := str s_0) (ev_move rfl) (by decide) ?_
     refine sr_evg (b := true) (e := 15) rfl rfl hg7 (v := .int .i64 i_3) (ev_move rfl) (by decide) ?_
     obtain ⟨hk14, hS⟩ := chk_some hS
     refine sr_evg (b := true) (e := 15) rfl rfl hg7 (v := .int .u8 (byteAt s_0 i_3)) (ev_sindex Try.underlying9 rfl rfl hk14) (by decide) ?_
     obtain ⟨y15, hy16, hS⟩ := bind_some' hS
     refine sr_callg (b := true) (e := 15) rfl rfl hg7 (vs := [.int .u8 (byteAt s_0 i_3)]) rfl Try.call71 rfl (ref01_digit_ok _ (hg.below hb) hy16) (by decide) ?_
     rintro _ w17 ⟨rfl, hbw18⟩
     replace hb := hb.trans (hbw18.mono hb.size)
     replace hj10 := hj10.trans (hbw18.mono hj10.size)
     refine sr_evg (b := true) (e := 15) rfl rfl hg7 (v := .bool (!y15)) (ev_not rfl) (by decide) ?_
     refine sr_ev (v := .bool (!y15)) (ev_pick_t rfl hg7 rfl) (by decide) ?_
     exact sr_weaken (l' := [(0, str s_0), (3, .int .i64 i_3), (21, .bool (!y15))]) (.cons rfl (.cons rfl (.cons rfl (.nil _)))) (K8 (!y15) _ ⟨(Option.some.inj hS).symm, hj10⟩)
    ·have hS := ite_false' hz11 hg7
     refine sr_pass (e := 15) rfl rfl (by rw [hg7]; rfl) (by decide) ?_
     refine sr_pass (e := 15) rfl rfl (by rw [hg7]; rfl) (by decide) ?_
     refine sr_pass (e := 15) rfl rfl (by rw [hg7]; rfl) (by decide) ?_
     refine sr_pass (e := 15) rfl rfl (by rw [hg7]; rfl) (by decide) ?_
     refine sr_pass (e := 15) rfl rfl (by rw [hg7]; rfl) (by decide) ?_
     refine sr_ev (v := .bool false) (ev_pick_f rfl hg7 rfl) (by decide) ?_
     exact sr_weaken (l' := [(0, str s_0), (3, .int .i64 i_3), (21, .bool false)]) (.cons rfl (.cons rfl (.cons rfl (.nil _)))) (K8 false _ ⟨(Option.some.inj hS).symm, hj10⟩)
  ·replace hS := ite_false' hS hc1
   refine ke_exit (k' := _) rfl ?_
   refine ke_seq ?_
   refine ke_region ?_
   refine sr_ev (v := str s_0) (ev_move rfl) (by decide) ?_
   refine sr_ev (v := .int .i64 (s_0.length : Int)) (ev_slen Try.underlying9 rfl) (by decide) ?_
   refine sr_ev (v := .bool (decide ((s_0.length : Int) ≥ 1))) (ev_ge rfl rfl) (by decide) ?_
   refine sr_ev (v := .bool (decide ((s_0.length : Int) ≥ 1))) (ev_move rfl) (by decide) ?_
   refine sr_join (m := 4) (C := fun (x : Bool) w1 => x = ((decide ((s_0.length : Int) ≥ 1)) && (decide ((s_0.length : Int) ≤ 64))) ∧ w = w1) (l' := fun x => [(53, .bool x)]) ?_ ?_
   ·rintro _ _ ⟨rfl, rfl⟩
    refine sr_ev (v := .bool ((decide ((s_0.length : Int) ≥ 1)) && (decide ((s_0.length : Int) ≤ 64)))) (ev_assign rfl) (by decide) ?_
    refine sr_end (l' := [(2, .bool ((decide ((s_0.length : Int) ≥ 1)) && (decide ((s_0.length : Int) ≤ 64))))]) (.cons rfl (.nil _)) ?_
    cases hS
    exact ke_ret1 Try.func52 rfl rfl ⟨_, rfl, rfl, hb⟩
   ·intro K53
    rcases Bool.eq_false_or_eq_true (decide ((s_0.length : Int) ≥ 1)) with hg52 | hg52
    ·refine sr_evg (b := true) (e := 49) rfl rfl hg52 (v := str s_0) (ev_move rfl) (by decide) ?_
     refine sr_evg (b := true) (e := 49) rfl rfl hg52 (v := .int .i64 (s_0.length : Int)) (ev_slen Try.underlying9 rfl) (by decide) ?_
     refine sr_evg (b := true) (e := 49) rfl rfl hg52 (v := .bool (decide ((s_0.length : Int) ≤ 64))) (ev_le rfl rfl) (by decide) ?_
     refine sr_ev (v := .bool (decide ((s_0.length : Int) ≤ 64))) (ev_pick_t rfl hg52 rfl) (by decide) ?_
     exact sr_weaken (l' := [(53, .bool (decide ((s_0.length : Int) ≤ 64)))]) (.cons rfl (.nil _)) (K53 (decide ((s_0.length : Int) ≤ 64)) _ ⟨by rw [hg52]; rfl, rfl⟩)
    ·refine sr_pass (e := 49) rfl rfl (by rw [hg52]; rfl) (by decide) ?_
     refine sr_pass (e := 49) rfl rfl (by rw [hg52]; rfl) (by decide) ?_
     refine sr_pass (e := 49) rfl rfl (by rw [hg52]; rfl) (by decide) ?_
     refine sr_ev (v := .bool false) (ev_pick_f rfl hg52 rfl) (by decide) ?_
     exact sr_weaken (l' := [(53, .bool false)]) (.cons rfl (.nil _)) (K53 false _ ⟨by rw [hg52]; rfl, rfl⟩)
theorem ref01_Word_ok (w0 : World) (hg : Gs w0) {s_0 : Str} {r : Bool} (hS : ref01_Word s_0 = some r) :
  Calls Try.prog 52 #[str s_0] w0 (Ret (fun v w' => v = .bool r ∧ Below w0.heap.size w0 w')) := by
 unfold ref01_Word at hS
 have hb := Below.refl w0.heap.size w0
 refine calls_of_ke Try.func52 rfl (n := 54) rfl rfl (l := [(0, str s_0)]) rfl ?_
 refine ke_seq ?_
 refine ke_region ?_
 refine sr_ev (v := .bool false) (ev_assign rfl) (by decide) ?_
 refine sr_end (l' := [(0, str s_0)]) (.cons rfl (.nil _)) ?_
 refine ke_seq ?_
 refine ke_seq ?_
 refine ke_region ?_
 refine sr_ev (v := .int .i64 0) (ev_assign rfl) (by decide) ?_
 refine sr_end (l' := [(0, str s_0), (3, .int .i64 0)]) (.cons rfl (.cons rfl (.nil _))) ?_
 refine ke_block ?_
 have hK := ref01_Word_L1_ok hg _ hS hb
 exact ke_weaken (l' := [(0, str s_0), (3, .int .i64 0)]) (.cons rfl (.cons rfl (.nil _))) (ke_loop hK)
theorem ref29_Valid_L1_ok {w0 : World} (hg : Gs w0) : ∀ (n : Nat), ∀ {r : Bool} {s_0 : Str} {i_3 : Int}, ref29_Valid_L1 n s_0 i_3 = some r → ∀ {w : World}, (Below w0.heap.size w0 w) → KE Try.prog 60 (Ret (fun v w' => v = .bool r ∧ Below w0.heap.size w0 w')) 37 [.code (sub (bodyOf Try.f60) [2, 2, 1, 2, 2, 1]), .inLoop (sub (bodyOf Try.f60) [2, 2, 1, 2, 2, 1]), .inBlock 0, .code (sub (bodyOf Try.f60) [2, 2, 2])] [(0, str s_0), (3, .int .i64 i_3)] w := by
 intro n
 induction n with
 | zero => intro r s_0 i_3 hS; cases hS
 | succ n ih =>
  have hr0 : ∀ {r : Bool} {s_0 : Str} {i_3 : Int}, ref29_Valid_L1 n s_0 i_3 = some r → ∀ {w : World}, (Below w0.heap.size w0 w) → KE Try.prog 60 (Ret (fun v w' => v = .bool r ∧ Below w0.heap.size w0 w')) 37 [.inLoop (sub (bodyOf Try.f60) [2, 2, 1, 2, 2, 1]), .inBlock 0, .code (sub (bodyOf Try.f60) [2, 2, 2])] [(0, str s_0), (3, .int .i64 i_3)] w := fun {r} {s_0} {i_3} hS {w} hb => ke_inLoop (ih hS hb)
  clear ih
  intro r s_0 i_3 hS w hb
  unfold ref29_Valid_L1 at hS
  refine ke_seq ?_
  refine ke_seq ?_
  refine ke_region ?_
  refine sr_ev (v := .int .i64 i_3) (ev_move rfl) (by decide) ?_
  refine sr_ev (v := str s_0) (ev_move rfl) (by decide) ?_
  refine sr_ev (v := .int .i64 (s_0.length : Int)) (ev_slen Try.underlying9 rfl) (by decide) ?_
  refine sr_ev (v := .bool (decide (i_3 < (s_0.length : Int)))) (ev_lt rfl rfl) (by decide) ?_
  refine sr_end (l' := [(0, str s_0), (3, .int .i64 i_3), (23, .bool (decide (i_3 < (s_0.length : Int))))]) (.cons rfl (.cons rfl (.cons rfl (.nil _)))) ?_
  refine ke_cond (t := decide (i_3 < (s_0.length : Int))) rfl (fun hc22 => ?_) (fun hc22 => ?_)
  ·replace hS := ite_true' hS hc22
   refine ke_skip ?_
   refine ke_seq ?_
   refine ke_block ?_
   refine ke_seq ?_
   refine ke_region ?_
   refine sr_ev (v := str s_0) (ev_move rfl) (by decide) ?_
   refine sr_ev (v := .int .i64 i_3) (ev_move rfl) (by decide) ?_
   obtain ⟨hk23, hS⟩ := chk_some hS
   refine sr_ev (v := .int .u8 (byteAt s_0 i_3)) (ev_sindex Try.underlying9 rfl rfl hk23) (by decide) ?_
   refine sr_ev (v := .bool ((byteAt s_0 i_3) == 46)) (ev_eq rfl rfl) (by decide) ?_
   refine sr_ev (v := .bool ((byteAt s_0 i_3) == 46)) (ev_move rfl) (by decide) ?_
   obtain ⟨z26, hz28, hS⟩ := bind_some' hS
   refine sr_join (m := 6) (C := fun (x : Bool) w1 => z26 = x ∧ Below w.heap.size w w1) (l' := fun x => [(0, str s_0), (3, .int .i64 i_3), (36, .bool x)]) ?_ ?_
   ·rintro _ w29 ⟨rfl, hbw30⟩
    replace hb := hb.trans (hbw30.mono hb.size)
    refine sr_end (l' := [(0, str s_0), (3, .int .i64 i_3), (36, .bool z26)]) (.cons rfl (.cons rfl (.cons rfl (.nil _)))) ?_
    refine ke_cond (t := z26) rfl (fun hc32 => ?_) (fun hc32 => ?_)
    ·replace hS := ite_true' hS hc32
     refine ke_seq ?_
     refine ke_region ?_
     refine sr_ev (v := .bool false) (ev_assign rfl) (by decide) ?_
     refine sr_end (l' := [(2, .bool false)]) (.cons rfl (.nil _)) ?_
     cases hS
     exact ke_ret1 Try.func60 rfl rfl ⟨_, rfl, rfl, hb⟩
    ·replace hS := ite_false' hS hc32
     refine ke_skip ?_
     refine ke_inBlock ?_
     refine ke_region ?_
     refine sr_ev (v := .int .i64 i_3) (ev_move rfl) (by decide) ?_
     refine sr_ev (v := .int .i64 (IntKind.i64.wrap (i_3 + 1))) (ev_add rfl rfl) (by decide) ?_
     refine sr_ev (v := .int .i64 (IntKind.i64.wrap (i_3 + 1))) (ev_assign rfl) (by decide) ?_
     refine sr_end (l' := [(0, str s_0), (3, .int .i64 (IntKind.i64.wrap (i_3 + 1)))]) (.cons rfl (.cons rfl (.nil _))) ?_
     have hK := hr0 hS hb
     exact ke_weaken (l' := [(0, str s_0), (3, .int .i64 (IntKind.i64.wrap (i_3 + 1)))]) (.cons rfl (.cons rfl (.nil _))) hK
   ·intro K25
    clear hS
    have hj27 := Below.refl w.heap.size w
    rcases Bool.eq_false_or_eq_true ((byteAt s_0 i_3) == 46) with hg24 | hg24
    ·have hS := ite_true' hz28 hg24
     refine sr_evg (b := true) (e := 30) rfl rfl hg24 (v := str s_0) (ev_move rfl) (by decide) ?_
     refine sr_evg (b := true) (e := 30) rfl rfl hg24 (v := .int .i64 i_3) (ev_move rfl) (by decide) ?_
     refine sr_evg (b := true) (e := 30) rfl rfl hg24 (v := .int .i64 (IntKind.i64.wrap (i_3 - 1))) (ev_sub rfl rfl) (by decide) ?_
     obtain ⟨hk31, hS⟩ := chk_some hS
     refine sr_evg (b := true) (e := 30) rfl rfl hg24 (v := .int .u8 (byteAt s_0 (IntKind.i64.wrap (i_3 - 1)))) (ev_sindex Try.underlying9 rfl rfl hk31) (by decide) ?_
     refine sr_evg (b := true) (e := 30) rfl rfl hg24 (v := .bool ((byteAt s_0 (IntKind.i64.wrap (i_3 - 1))) == 46)) (ev_eq rfl rfl) (by decide) ?_
     refine sr_ev (v := .bool ((byteAt s_0 (IntKind.i64.wrap (i_3 - 1))) == 46)) (ev_pick_t rfl hg24 rfl) (by decide) ?_
     exact sr_weaken (l' := [(0, str s_0), (3, .int .i64 i_3), (36, .bool ((byteAt s_0 (IntKind.i64.wrap (i_3 - 1))) == 46))]) (.cons rfl (.cons rfl (.cons rfl (.nil _)))) (K25 ((byteAt s_0 (IntKind.i64.wrap (i_3 - 1))) == 46) _ ⟨(Option.some.inj hS).symm, hj27⟩)
    ·have hS := ite_false' hz28 hg24
     refine sr_pass (e := 30) rfl rfl (by rw [hg24]; rfl) (by decide) ?_
     refine sr_pass (e := 30) rfl rfl (by rw [hg24]; rfl) (by decide) ?_
     refine sr_pass (e := 30) rfl rfl (by rw [hg24]; rfl) (by decide) ?_
     refine sr_pass (e := 30) rfl rfl (by rw [hg24]; rfl) (by decide) ?_
     refine sr_pass (e := 30) rfl rfl (by rw [hg24]; rfl) (by decide) ?_
     refine sr_ev (v := .bool false) (ev_pick_f rfl hg24 rfl) (by decide) ?_
     exact sr_weaken (l' := [(0, str s_0), (3, .int .i64 i_3), (36, .bool false)]) (.cons rfl (.cons rfl (.cons rfl (.nil _)))) (K25 false _ ⟨(Option.some.inj hS).symm, hj27⟩)
  ·replace hS := ite_false' hS hc22
   refine ke_exit (k' := _) rfl ?_
   refine ke_seq ?_
   refine ke_region ?_
   refine sr_ev (v := .bool true) (ev_assign rfl) (by decide) ?_
   refine sr_end (l' := [(2, .bool true)]) (.cons rfl (.nil _)) ?_
   cases hS
   exact ke_ret1 Try.func60 rfl rfl ⟨_, rfl, rfl, hb⟩
theorem ref29_Valid_ok (w0 : World) (hg : Gs w0) {s_0 : Str} {r : Bool} (hS : ref29_Valid s_0 = some r) :
  Calls Try.prog 60 #[str s_0] w0 (Ret (fun v w' => v = .bool r ∧ Below w0.heap.size w0 w')) := by
 unfold ref29_Valid at hS
 have hb := Below.refl w0.heap.size w0
 refine calls_of_ke Try.func60 rfl (n := 37) rfl rfl (l := [(0, str s_0)]) rfl ?_
 refine ke_seq ?_
 refine ke_region ?_
 refine sr_ev (v := .bool false) (ev_assign rfl) (by decide) ?_
 refine sr_end (l' := [(0, str s_0)]) (.cons rfl (.nil _)) ?_
 refine ke_seq ?_
 refine ke_seq ?_
 refine ke_region ?_
 refine sr_ev (v := str s_0) (ev_move rfl) (by decide) ?_
 obtain ⟨y1, hy2, hS⟩ := bind_some' hS
 refine sr_call (vs := [str s_0]) rfl Try.call52 rfl (ref01_Word_ok _ (hg.below hb) hy2) (by decide) ?_
 rintro _ w3 ⟨rfl, hbw4⟩
 replace hb := hb.trans (hbw4.mono hb.size)
 refine sr_ev (v := .bool (!y1)) (ev_not rfl) (by decide) ?_
 refine sr_ev (v := .bool (!y1)) (ev_move rfl) (by decide) ?_
 obtain ⟨z7, hz9, hS⟩ := bind_some' hS
 refine sr_join (m := 4) (C := fun (x : Bool) w1 => z7 = x ∧ Below w3.heap.size w3 w1) (l' := fun x => [(0, str s_0), (11, .bool x)]) ?_ ?_
 ·rintro _ w10 ⟨rfl, hbw11⟩
  replace hb := hb.trans (hbw11.mono hb.size)
  refine sr_ev (v := .bool z7) (ev_move rfl) (by decide) ?_
  obtain ⟨z15, hz17, hS⟩ := bind_some' hS
  refine sr_join (m := 7) (C := fun (x : Bool) w1 => z15 = x ∧ Below w10.heap.size w10 w1) (l' := fun x => [(0, str s_0), (19, .bool x)]) ?_ ?_
  ·rintro _ w18 ⟨rfl, hbw19⟩
   replace hb := hb.trans (hbw19.mono hb.size)
   refine sr_end (l' := [(0, str s_0), (19, .bool z15)]) (.cons rfl (.cons rfl (.nil _))) ?_
   refine ke_cond (t := z15) rfl (fun hc21 => ?_) (fun hc21 => ?_)
   ·replace hS := ite_true' hS hc21
    refine ke_seq ?_
    refine ke_region ?_
    refine sr_ev (v := .bool false) (ev_assign rfl) (by decide) ?_
    refine sr_end (l' := [(2, .bool false)]) (.cons rfl (.nil _)) ?_
    cases hS
    exact ke_ret1 Try.func60 rfl rfl ⟨_, rfl, rfl, hb⟩
   ·replace hS := ite_false' hS hc21
    refine ke_skip ?_
    refine ke_seq ?_
    refine ke_seq ?_
    refine ke_region ?_
    refine sr_ev (v := .int .i64 1) (ev_assign rfl) (by decide) ?_
    refine sr_end (l' := [(0, str s_0), (3, .int .i64 1)]) (.cons rfl (.cons rfl (.nil _))) ?_
    refine ke_block ?_
    have hK := ref29_Valid_L1_ok hg _ hS hb
    exact ke_weaken (l' := [(0, str s_0), (3, .int .i64 1)]) (.cons rfl (.cons rfl (.nil _))) (ke_loop hK)
  ·intro K14
   clear hS
   have hj16 := Below.refl w10.heap.size w10
   rcases Bool.eq_false_or_eq_true z7 with hg13 | hg13
   ·have hS := ite_true' hz17 hg13
    refine sr_pass (e := 12) rfl rfl (by rw [hg13]; rfl) (by decide) ?_
    refine sr_pass (e := 12) rfl rfl (by rw [hg13]; rfl) (by decide) ?_
    refine sr_pass (e := 12) rfl rfl (by rw [hg13]; rfl) (by decide) ?_
    refine sr_pass (e := 12) rfl rfl (by rw [hg13]; rfl) (by decide) ?_
    refine sr_pass (e := 12) rfl rfl (by rw [hg13]; rfl) (by decide) ?_
    refine sr_pass (e := 12) rfl rfl (by rw [hg13]; rfl) (by decide) ?_
    refine sr_ev (v := .bool true) (ev_pick_t rfl hg13 rfl) (by decide) ?_
    exact sr_weaken (l' := [(0, str s_0), (19, .bool true)]) (.cons rfl (.cons rfl (.nil _))) (K14 true _ ⟨(Option.some.inj hS).symm, hj16⟩)
   ·have hS := ite_false' hz17 hg13
    refine sr_evg (b := false) (e := 12) rfl rfl hg13 (v := str s_0) (ev_move rfl) (by decide) ?_
    refine sr_evg (b := false) (e := 12) rfl rfl hg13 (v := str s_0) (ev_move rfl) (by decide) ?_
    refine sr_evg (b := false) (e := 12) rfl rfl hg13 (v := .int .i64 (s_0.length : Int)) (ev_slen Try.underlying9 rfl) (by decide) ?_
    refine sr_evg (b := false) (e := 12) rfl rfl hg13 (v := .int .i64 (IntKind.i64.wrap ((s_0.length : Int) - 1))) (ev_sub rfl rfl) (by decide) ?_
    obtain ⟨hk20, hS⟩ := chk_some hS
    refine sr_evg (b := false) (e := 12) rfl rfl hg13 (v := .int .u8 (byteAt s_0 (IntKind.i64.wrap ((s_0.length : Int) - 1)))) (ev_sindex Try.underlying9 rfl rfl hk20) (by decide) ?_
    refine sr_evg (b := false) (e := 12) rfl rfl hg13 (v := .bool ((byteAt s_0 (IntKind.i64.wrap ((s_0.length : Int) - 1))) == 46)) (ev_eq rfl rfl) (by decide) ?_
    refine sr_ev (v := .bool ((byteAt s_0 (IntKind.i64.wrap ((s_0.length : Int) - 1))) == 46)) (ev_pick_f rfl hg13 rfl) (by decide) ?_
    exact sr_weaken (l' := [(0, str s_0), (19, .bool ((byteAt s_0 (IntKind.i64.wrap ((s_0.length : Int) - 1))) == 46))]) (.cons rfl (.cons rfl (.nil _))) (K14 ((byteAt s_0 (IntKind.i64.wrap ((s_0.length : Int) - 1))) == 46) _ ⟨(Option.some.inj hS).symm, hj16⟩)
 ·intro K6
  clear hS
  have hj8 := Below.refl w3.heap.size w3
  rcases Bool.eq_false_or_eq_true (!y1) with hg5 | hg5
  ·have hS := ite_true' hz9 hg5
   refine sr_pass (e := 7) rfl rfl (by rw [hg5]; rfl) (by decide) ?_
   refine sr_pass (e := 7) rfl rfl (by rw [hg5]; rfl) (by decide) ?_
   refine sr_pass (e := 7) rfl rfl (by rw [hg5]; rfl) (by decide) ?_
   refine sr_ev (v := .bool true) (ev_pick_t rfl hg5 rfl) (by decide) ?_
   exact sr_weaken (l' := [(0, str s_0), (11, .bool true)]) (.cons rfl (.cons rfl (.nil _))) (K6 true _ ⟨(Option.some.inj hS).symm, hj8⟩)
  ·have hS := ite_false' hz9 hg5
   refine sr_evg (b := false) (e := 7) rfl rfl hg5 (v := str s_0) (ev_move rfl) (by decide) ?_
   obtain ⟨hk12, hS⟩ := chk_some hS
   refine sr_evg (b := false) (e := 7) rfl rfl hg5 (v := .int .u8 (byteAt s_0 0)) (ev_sindex Try.underlying9 rfl rfl hk12) (by decide) ?_
   refine sr_evg (b := false) (e := 7) rfl rfl hg5 (v := .bool ((byteAt s_0 0) == 46)) (ev_eq rfl rfl) (by decide) ?_
   refine sr_ev (v := .bool ((byteAt s_0 0) == 46)) (ev_pick_f rfl hg5 rfl) (by decide) ?_
   exact sr_weaken (l' := [(0, str s_0), (11, .bool ((byteAt s_0 0) == 46))]) (.cons rfl (.cons rfl (.nil _))) (K6 ((byteAt s_0 0) == 46) _ ⟨(Option.some.inj hS).symm, hj8⟩)
theorem ref29_Check_L2_ok {w0 : World} (hg : Gs w0) {A0 : Nat → Prop} (hA0 : ∀ b, A0 b → b < w0.heap.size) (r0 : List Str → Int → Option (Int))
  (hr0 : ∀ {r : Int} {l_0 : List Str} {i_3 : Int} {vl_0 : Value}, r0 l_0 i_3 = some r → ∀ {w : World} {A : Nat → Prop}, (Below w0.heap.size w0 w) → (∀ b, A b → b < w.heap.size) → (∀ b, A0 b → A b) → (Hp A w0.heap.size w []) → (SlR strC A w vl_0 l_0) → KE Try.prog 53 (Ret (fun v w' => v = .int .i64 r ∧ Below w0.heap.size w0 w')) 34 [.inLoop (sub (bodyOf Try.f53) [2, 2, 1, 2, 2, 1]), .inBlock 0, .code (sub (bodyOf Try.f53) [2, 2, 2])] [(0, vl_0), (3, .int .i64 i_3)] w) : ∀ (n : Nat), ∀ {r : Int} {l_0 : List Str} {i_3 : Int} {k_4 : Int} {vl_0 : Value}, ref29_Check_L2 r0 n l_0 i_3 k_4 = some r → ∀ {w : World} {A : Nat → Prop}, (Below w0.heap.size w0 w) → (∀ b, A b → b < w.heap.size) → (∀ b, A0 b → A b) → (Hp A w0.heap.size w []) → (SlR strC A w vl_0 l_0) → KE Try.prog 53 (Ret (fun v w' => v = .int .i64 r ∧ Below w0.heap.size w0 w')) 34 [.code (sub (bodyOf Try.f53) [2, 2, 1, 2, 2, 1, 2, 1, 2, 2, 2, 2, 1]), .inLoop (sub (bodyOf Try.f53) [2, 2, 1, 2, 2, 1, 2, 1, 2, 2, 2, 2, 1]), .inBlock 2, .inBlock 1, .code (sub (bodyOf Try.f53) [2, 2, 1, 2, 2, 1, 2, 2]), .inLoop (sub (bodyOf Try.f53) [2, 2, 1, 2, 2, 1]), .inBlock 0, .code (sub (bodyOf Try.f53) [2, 2, 2])] [(0, vl_0), (3, .int .i64 i_3), (4, .int .i64 k_4)] w := by
 intro n
 induction n with
 | zero => intro r l_0 i_3 k_4 vl_0 hS; cases hS
 | succ n ih =>
  have hr1 : ∀ {r : Int} {l_0 : List Str} {i_3 : Int} {k_4 : Int} {vl_0 : Value}, ref29_Check_L2 r0 n l_0 i_3 k_4 = some r → ∀ {w : World} {A : Nat → Prop}, (Below w0.heap.size w0 w) → (∀ b, A b → b < w.heap.size) → (∀ b, A0 b → A b) → (Hp A w0.heap.size w []) → (SlR strC A w vl_0 l_0) → KE Try.prog 53 (Ret (fun v w' => v = .int .i64 r ∧ Below w0.heap.size w0 w')) 34 [.inLoop (sub (bodyOf Try.f53) [2, 2, 1, 2, 2, 1, 2, 1, 2, 2, 2, 2, 1]), .inBlock 2, .inBlock 1, .code (sub (bodyOf Try.f53) [2, 2, 1, 2, 2, 1, 2, 2]), .inLoop (sub (bodyOf Try.f53) [2, 2, 1, 2, 2, 1]), .inBlock 0, .code (sub (bodyOf Try.f53) [2, 2, 2])] [(0, vl_0), (3, .int .i64 i_3), (4, .int .i64 k_4)] w := fun {r} {l_0} {i_3} {k_4} {vl_0} hS {w} {A} hb hA hi hH hl_0 => ke_inLoop (ih hS hb hA hi hH hl_0)
  clear ih
  intro r l_0 i_3 k_4 vl_0 hS w A hb hA hi hH hl_0
  unfold ref29_Check_L2 at hS
  refine ke_seq ?_
  refine ke_seq ?_
  refine ke_region ?_
  refine sr_ev (v := .int .i64 k_4) (ev_move rfl) (by decide) ?_
  refine sr_ev (v := .int .i64 i_3) (ev_move rfl) (by decide) ?_
  refine sr_ev (v := .bool (decide (k_4 < i_3))) (ev_lt rfl rfl) (by decide) ?_
  refine sr_end (l' := [(0, vl_0), (3, .int .i64 i_3), (4, .int .i64 k_4), (22, .bool (decide (k_4 < i_3)))]) (.cons rfl (.cons rfl (.cons rfl (.cons rfl (.nil _))))) ?_
  refine ke_cond (t := decide (k_4 < i_3)) rfl (fun hc16 => ?_) (fun hc16 => ?_)
  ·replace hS := ite_true' hS hc16
   refine ke_skip ?_
   refine ke_seq ?_
   refine ke_block ?_
   refine ke_seq ?_
   refine ke_region_q Try.mixed (by kernel_rfl) ?_
   refine sq_ev (v := vl_0) (fun w1 hw1 => ev_move rfl) (by decide) ?_
   refine sq_ev (v := .int .i64 k_4) (fun w1 hw1 => ev_move rfl) (by decide) ?_
   obtain ⟨y19, hy20, hS⟩ := bind_some' hS
   obtain ⟨b21, o22, cs24, he23, hixhe23⟩ := hl_0.elem Try.underlying23 Try.info9 rfl (P := Try.prog) hy20
   obtain rfl : cs24 = [str y19] := he23.rd
   refine sq_ev (v := .pointer (some ⟨b21, o22, none⟩)) (fun w1 hw1 => hixhe23 w1 hw1 rfl rfl) (by decide) ?_
   refine sq_ev (v := str y19) (fun w1 hw1 => ev_load Try.isAgg9 rfl ((he23.step (.of_below hw1) (Nat.succ_pos _)).cell 0 _ rfl)) (by decide) ?_
   refine sq_ev (v := vl_0) (fun w1 hw1 => ev_move rfl) (by decide) ?_
   refine sq_ev (v := .int .i64 i_3) (fun w1 hw1 => ev_move rfl) (by decide) ?_
   obtain ⟨y25, hy26, hS⟩ := bind_some' hS
   obtain ⟨b27, o28, cs30, he29, hixhe29⟩ := hl_0.elem Try.underlying23 Try.info9 rfl (P := Try.prog) hy26
   obtain rfl : cs30 = [str y25] := he29.rd
   refine sq_ev (v := .pointer (some ⟨b27, o28, none⟩)) (fun w1 hw1 => hixhe29 w1 hw1 rfl rfl) (by decide) ?_
   refine sq_ev (v := str y25) (fun w1 hw1 => ev_load Try.isAgg9 rfl ((he29.step (.of_below hw1) (Nat.succ_pos _)).cell 0 _ rfl)) (by decide) ?_
   refine sq_ev (v := .bool (y19 == y25)) (fun w1 hw1 => ev_seq rfl rfl) (by decide) ?_
   refine sq_end (l' := [(0, vl_0), (3, .int .i64 i_3), (4, .int .i64 k_4), (33, .bool (y19 == y25))]) (.cons rfl (.cons rfl (.cons rfl (.cons rfl (.nil _))))) (fun w18 hw17 => ?_)
   replace hb := hb.trans (hw17.mono hb.size)
   replace hA := lt_mono hA hw17.size
   replace hH := hH.below hw17
   replace hl_0 := hl_0.below hw17
   refine ke_cond (t := y19 == y25) rfl (fun hc31 => ?_) (fun hc31 => ?_)
   ·replace hS := ite_true' hS hc31
    refine ke_seq ?_
    refine ke_region ?_
    refine sr_ev (v := .int .i64 7) (ev_assign rfl) (by decide) ?_
    refine sr_end (l' := [(2, .int .i64 7)]) (.cons rfl (.nil _)) ?_
    cases hS
    exact ke_ret1 Try.func53 rfl rfl ⟨_, rfl, rfl, hb⟩
   ·replace hS := ite_false' hS hc31
    refine ke_skip ?_
    refine ke_inBlock ?_
    refine ke_region ?_
    refine sr_ev (v := .int .i64 k_4) (ev_move rfl) (by decide) ?_
    refine sr_ev (v := .int .i64 (IntKind.i64.wrap (k_4 + 1))) (ev_add rfl rfl) (by decide) ?_
    refine sr_ev (v := .int .i64 (IntKind.i64.wrap (k_4 + 1))) (ev_assign rfl) (by decide) ?_
    refine sr_end (l' := [(0, vl_0), (3, .int .i64 i_3), (4, .int .i64 (IntKind.i64.wrap (k_4 + 1)))]) (.cons rfl (.cons rfl (.cons rfl (.nil _)))) ?_
    have hK := hr1 hS hb hA hi hH hl_0
    exact ke_weaken (l' := [(0, vl_0), (3, .int .i64 i_3), (4, .int .i64 (IntKind.i64.wrap (k_4 + 1)))]) (.cons rfl (.cons rfl (.cons rfl (.nil _)))) hK
  ·replace hS := ite_false' hS hc16
   refine ke_exit (k' := _) rfl ?_
   refine ke_inBlock ?_
   refine ke_region ?_
   refine sr_ev (v := .int .i64 i_3) (ev_move rfl) (by decide) ?_
   refine sr_ev (v := .int .i64 (IntKind.i64.wrap (i_3 + 1))) (ev_add rfl rfl) (by decide) ?_
   refine sr_ev (v := .int .i64 (IntKind.i64.wrap (i_3 + 1))) (ev_assign rfl) (by decide) ?_
   refine sr_end (l' := [(0, vl_0), (3, .int .i64 (IntKind.i64.wrap (i_3 + 1)))]) (.cons rfl (.cons rfl (.nil _))) ?_
   have hK := hr0 hS hb hA hi hH hl_0
   exact ke_weaken (l' := [(0, vl_0), (3, .int .i64 (IntKind.i64.wrap (i_3 + 1)))]) (.cons rfl (.cons rfl (.nil _))) hK
theorem ref29_Check_L1_ok {w0 : World} (hg : Gs w0) {A0 : Nat → Prop} (hA0 : ∀ b, A0 b → b < w0.heap.size) : ∀ (n : Nat), ∀ {r : Int} {l_0 : List Str} {i_3 : Int} {vl_0 : Value}, ref29_Check_L1 n l_0 i_3 = some r → ∀ {w : World} {A : Nat → Prop}, (Below w0.heap.size w0 w) → (∀ b, A b → b < w.heap.size) → (∀ b, A0 b → A b) → (Hp A w0.heap.size w []) → (SlR strC A w vl_0 l_0) → KE Try.prog 53 (Ret (fun v w' => v = .int .i64 r ∧ Below w0.heap.size w0 w')) 34 [.code (sub (bodyOf Try.f53) [2, 2, 1, 2, 2, 1]), .inLoop (sub (bodyOf Try.f53) [2, 2, 1, 2, 2, 1]), .inBlock 0, .code (sub (bodyOf Try.f53) [2, 2, 2])] [(0, vl_0), (3, .int .i64 i_3)] w := by
 intro n
 induction n with
 | zero => intro r l_0 i_3 vl_0 hS; cases hS
 | succ n ih =>
  have hr0 : ∀ {r : Int} {l_0 : List Str} {i_3 : Int} {vl_0 : Value}, ref29_Check_L1 n l_0 i_3 = some r → ∀ {w : World} {A : Nat → Prop}, (Below w0.heap.size w0 w) → (∀ b, A b → b < w.heap.size) → (∀ b, A0 b → A b) → (Hp A w0.heap.size w []) → (SlR strC A w vl_0 l_0) → KE Try.prog 53 (Ret (fun v w' => v = .int .i64 r ∧ Below w0.heap.size w0 w')) 34 [.inLoop (sub (bodyOf Try.f53) [2, 2, 1, 2, 2, 1]), .inBlock 0, .code (sub (bodyOf Try.f53) [2, 2, 2])] [(0, vl_0), (3, .int .i64 i_3)] w := fun {r} {l_0} {i_3} {vl_0} hS {w} {A} hb hA hi hH hl_0 => ke_inLoop (ih hS hb hA hi hH hl_0)
  clear ih
  intro r l_0 i_3 vl_0 hS w A hb hA hi hH hl_0
  unfold ref29_Check_L1 at hS
  refine ke_seq ?_
  refine ke_seq ?_
  refine ke_region ?_
  refine sr_ev (v := .int .i64 i_3) (ev_move rfl) (by decide) ?_
  refine sr_ev (v := vl_0) (ev_move rfl) (by decide) ?_
  refine sr_ev (v := .int .i64 (l_0.length : Int)) (ev_sllen Try.underlying23 rfl hl_0) (by decide) ?_
  refine sr_ev (v := .bool (decide (i_3 < (l_0.length : Int)))) (ev_lt rfl rfl) (by decide) ?_
  refine sr_end (l' := [(0, vl_0), (3, .int .i64 i_3), (11, .bool (decide (i_3 < (l_0.length : Int))))]) (.cons rfl (.cons rfl (.cons rfl (.nil _)))) ?_
  refine ke_cond (t := decide (i_3 < (l_0.length : Int))) rfl (fun hc4 => ?_) (fun hc4 => ?_)
  ·replace hS := ite_true' hS hc4
   refine ke_skip ?_
   refine ke_seq ?_
   refine ke_block ?_
   refine ke_seq ?_
   refine ke_seq ?_
   refine ke_region ?_
   refine sr_ev (v := vl_0) (ev_move rfl) (by decide) ?_
   refine sr_ev (v := .int .i64 i_3) (ev_move rfl) (by decide) ?_
   obtain ⟨y5, hy6, hS⟩ := bind_some' hS
   refine sr_index hl_0 Try.underlying23 Try.info9 rfl rfl rfl hy6 (by decide) ?_
   intro b7 o8 cs10 he9
   obtain rfl : cs10 = [str y5] := he9.rd
   refine sr_ev (v := str y5) (ev_load Try.isAgg9 rfl (he9.cell 0 _ rfl)) (by decide) ?_
   obtain ⟨y11, hy12, hS⟩ := bind_some' hS
   refine sr_call (vs := [str y5]) rfl Try.call60 rfl (ref29_Valid_ok _ (hg.below hb) hy12) (by decide) ?_
   rintro _ w13 ⟨rfl, hbw14⟩
   replace hb := hb.trans (hbw14.mono hb.size)
   replace hA := lt_mono hA hbw14.size
   replace hH := hH.below hbw14
   replace hl_0 := hl_0.below hbw14
   refine sr_ev (v := .bool (!y11)) (ev_not rfl) (by decide) ?_
   refine sr_end (l' := [(0, vl_0), (3, .int .i64 i_3), (19, .bool (!y11))]) (.cons rfl (.cons rfl (.cons rfl (.nil _)))) ?_
   refine ke_cond (t := !y11) rfl (fun hc15 => ?_) (fun hc15 => ?_)
   ·replace hS := ite_true' hS hc15
    refine ke_seq ?_
    refine ke_region ?_
    refine sr_ev (v := .int .i64 5) (ev_assign rfl) (by decide) ?_
    refine sr_end (l' := [(2, .int .i64 5)]) (.cons rfl (.nil _)) ?_
    cases hS
    exact ke_ret1 Try.func53 rfl rfl ⟨_, rfl, rfl, hb⟩
   ·replace hS := ite_false' hS hc15
    refine ke_skip ?_
    refine ke_seq ?_
    refine ke_region ?_
    refine sr_ev (v := .int .i64 0) (ev_assign rfl) (by decide) ?_
    refine sr_end (l' := [(0, vl_0), (3, .int .i64 i_3), (4, .int .i64 0)]) (.cons rfl (.cons rfl (.cons rfl (.nil _)))) ?_
    refine ke_block ?_
    have hK := ref29_Check_L2_ok hg hA0 _ hr0 _ hS hb hA hi hH hl_0
    exact ke_weaken (l' := [(0, vl_0), (3, .int .i64 i_3), (4, .int .i64 0)]) (.cons rfl (.cons rfl (.cons rfl (.nil _)))) (ke_loop hK)
  ·replace hS := ite_false' hS hc4
   refine ke_exit (k' := _) rfl ?_
   refine ke_seq ?_
   refine ke_region ?_
   refine sr_ev (v := .int .i64 0) (ev_assign rfl) (by decide) ?_
   refine sr_end (l' := [(2, .int .i64 0)]) (.cons rfl (.nil _)) ?_
   cases hS
   exact ke_ret1 Try.func53 rfl rfl ⟨_, rfl, rfl, hb⟩
theorem ref29_Check_ok {A0 : Nat → Prop} (w0 : World) (hg : Gs w0) {l_0 : List Str} {v1 : Value} {r : Int} (h2 : SlR strC A0 w0 v1 l_0) (hS : ref29_Check l_0 = some r) :
  Calls Try.prog 53 #[v1] w0 (Ret (fun v w' => v = .int .i64 r ∧ Below w0.heap.size w0 w')) := by
 unfold ref29_Check at hS
 have hb := Below.refl w0.heap.size w0
 replace h2 := h2.weak (A' := fun _ => False) (fun _ h => h.elim)
 obtain ⟨A0, hA0, hAe⟩ : ∃ A0 : Nat → Prop, (∀ b, A0 b → b < w0.heap.size) ∧ A0 = fun _ => False := ⟨_, fun _ h => h.elim, rfl⟩
 rw [← hAe] at h2
 clear hAe
 have hA := hA0
 have hi : ∀ b, A0 b → A0 b := fun _ h => h
 have hH := Hp.nil A0 w0.heap.size w0
 refine calls_of_ke Try.func53 rfl (n := 34) rfl rfl (l := [(0, v1)]) rfl ?_
 refine ke_seq ?_
 refine ke_region ?_
 refine sr_ev (v := .int .i64 0) (ev_assign rfl) (by decide) ?_
 refine sr_end (l' := [(0, v1)]) (.cons rfl (.nil _)) ?_
 refine ke_seq ?_
 refine ke_seq ?_
 refine ke_region ?_
 refine sr_ev (v := v1) (ev_move rfl) (by decide) ?_
 refine sr_ev (v := .int .i64 (l_0.length : Int)) (ev_sllen Try.underlying23 rfl h2) (by decide) ?_
 refine sr_ev (v := .bool (decide ((l_0.length : Int) > 16))) (ev_gt rfl rfl) (by decide) ?_
 refine sr_end (l' := [(0, v1), (7, .bool (decide ((l_0.length : Int) > 16)))]) (.cons rfl (.cons rfl (.nil _))) ?_
 refine ke_cond (t := decide ((l_0.length : Int) > 16)) rfl (fun hc3 => ?_) (fun hc3 => ?_)
 ·replace hS := ite_true' hS hc3
  refine ke_seq ?_
  refine ke_region ?_
  refine sr_ev (v := .int .i64 3) (ev_assign rfl) (by decide) ?_
  refine sr_end (l' := [(2, .int .i64 3)]) (.cons rfl (.nil _)) ?_
  cases hS
  exact ke_ret1 Try.func53 rfl rfl ⟨_, rfl, rfl, hb⟩
 ·replace hS := ite_false' hS hc3
  refine ke_skip ?_
  refine ke_seq ?_
  refine ke_seq ?_
  refine ke_region ?_
  refine sr_ev (v := .int .i64 0) (ev_assign rfl) (by decide) ?_
  refine sr_end (l' := [(0, v1), (3, .int .i64 0)]) (.cons rfl (.cons rfl (.nil _))) ?_
  refine ke_block ?_
  have hK := ref29_Check_L1_ok hg hA0 _ hS hb hA hi hH h2
  exact ke_weaken (l' := [(0, v1), (3, .int .i64 0)]) (.cons rfl (.cons rfl (.nil _))) (ke_loop hK)
theorem ref04_Valid_ok (w0 : World) (hg : Gs w0) {t_0 : Int} {r : Bool} (hS : ref04_Valid t_0 = some r) :
  Calls Try.prog 54 #[.int .i64 t_0] w0 (Ret (fun v w' => v = .bool r ∧ Below w0.heap.size w0 w')) := by
 unfold ref04_Valid at hS
 have hb := Below.refl w0.heap.size w0
 refine calls_of_ke Try.func54 rfl (n := 9) rfl rfl (l := [(0, .int .i64 t_0)]) rfl ?_
 refine ke_seq ?_
 refine ke_region ?_
 refine sr_ev (v := .bool false) (ev_assign rfl) (by decide) ?_
 refine sr_end (l' := [(0, .int .i64 t_0)]) (.cons rfl (.nil _)) ?_
 refine ke_seq ?_
 refine ke_region ?_
 refine sr_ev (v := .int .i64 t_0) (ev_move rfl) (by decide) ?_
 refine sr_ev (v := .bool (decide (t_0 ≥ 0))) (ev_ge rfl rfl) (by decide) ?_
 refine sr_ev (v := .bool (decide (t_0 ≥ 0))) (ev_move rfl) (by decide) ?_
 refine sr_join (m := 3) (C := fun (x : Bool) w1 => x = ((decide (t_0 ≥ 0)) && (decide (t_0 ≤ 1099511627776))) ∧ w0 = w1) (l' := fun x => [(8, .bool x)]) ?_ ?_
 ·rintro _ _ ⟨rfl, rfl⟩
  refine sr_ev (v := .bool ((decide (t_0 ≥ 0)) && (decide (t_0 ≤ 1099511627776)))) (ev_assign rfl) (by decide) ?_
  refine sr_end (l' := [(2, .bool ((decide (t_0 ≥ 0)) && (decide (t_0 ≤ 1099511627776))))]) (.cons rfl (.nil _)) ?_
  cases hS
  exact ke_ret1 Try.func54 rfl rfl ⟨_, rfl, rfl, hb⟩
 ·intro K2
  rcases Bool.eq_false_or_eq_true (decide (t_0 ≥ 0)) with hg1 | hg1
  ·refine sr_evg (b := true) (e := 5) rfl rfl hg1 (v := .int .i64 t_0) (ev_move rfl) (by decide) ?_
   refine sr_evg (b := true) (e := 5) rfl rfl hg1 (v := .bool (decide (t_0 ≤ 1099511627776))) (ev_le rfl rfl) (by decide) ?_
   refine sr_ev (v := .bool (decide (t_0 ≤ 1099511627776))) (ev_pick_t rfl hg1 rfl) (by decide) ?_
   exact sr_weaken (l' := [(8, .bool (decide (t_0 ≤ 1099511627776)))]) (.cons rfl (.nil _)) (K2 (decide (t_0 ≤ 1099511627776)) _ ⟨by rw [hg1]; rfl, rfl⟩)
  ·refine sr_pass (e := 5) rfl rfl (by rw [hg1]; rfl) (by decide) ?_
   refine sr_pass (e := 5) rfl rfl (by rw [hg1]; rfl) (by decide) ?_
   refine sr_ev (v := .bool false) (ev_pick_f rfl hg1 rfl) (by decide) ?_
   exact sr_weaken (l' := [(8, .bool false)]) (.cons rfl (.nil _)) (K2 false _ ⟨by rw [hg1]; rfl, rfl⟩)
theorem ref35_Delegations_find_L1_ok {w0 : World} (hg : Gs w0) {ρA : Tags} (hbd : ∀ b, ρA b ≠ 0 → b < w0.heap.size) (hz : Gz (flat1 ρA)) : ∀ (n : Nat), ∀ {r : Int} {od_0 : ref35_Delegations} {from_1 : Str} {to_2 : Str} {i_7 : Int} {gd_0 : Nat}, ref35_Delegations_find_L1 n od_0 from_1 to_2 i_7 = some r → ∀ {ρ : Tags} {w : World}, (Fr (flat1 ρA) w0 ρ w) → (ref35_Delegations.O (fun _ => 1) ρ w gd_0 od_0) → KE Try.prog 37 (Ret (fun v w' => v = .int .i64 r ∧ Below w0.heap.size w0 w')) 40 [.code (sub (bodyOf Try.f37) [2, 1, 2, 2, 1]), .inLoop (sub (bodyOf Try.f37) [2, 1, 2, 2, 1]), .inBlock 0, .code (sub (bodyOf Try.f37) [2, 2])] [(0, .pointer (some ⟨gd_0, 0, none⟩)), (1, str from_1), (2, str to_2), (7, .int .i64 i_7)] w := by
 intro n
 induction n with
 | zero => intro r od_0 from_1 to_2 i_7 gd_0 hS; cases hS
 | succ n ih =>
  have hr0 : ∀ {r : Int} {od_0 : ref35_Delegations} {from_1 : Str} {to_2 : Str} {i_7 : Int} {gd_0 : Nat}, ref35_Delegations_find_L1 n od_0 from_1 to_2 i_7 = some r → ∀ {ρ : Tags} {w : World}, (Fr (flat1 ρA) w0 ρ w) → (ref35_Delegations.O (fun _ => 1) ρ w gd_0 od_0) → KE Try.prog 37 (Ret (fun v w' => v = .int .i64 r ∧ Below w0.heap.size w0 w')) 40 [.inLoop (sub (bodyOf Try.f37) [2, 1, 2, 2, 1]), .inBlock 0, .code (sub (bodyOf Try.f37) [2, 2])] [(0, .pointer (some ⟨gd_0, 0, none⟩)), (1, str from_1), (2, str to_2), (7, .int .i64 i_7)] w := fun {r} {od_0} {from_1} {to_2} {i_7} {gd_0} hS {ρ} {w} hb hod_0 => ke_inLoop (ih hS hb hod_0)
  clear ih
  intro r od_0 from_1 to_2 i_7 gd_0 hS ρ w hb hod_0
  unfold ref35_Delegations_find_L1 at hS
  obtain ⟨v4, hB6, h5⟩ := hod_0
  replace hB6 : Blk ρ 1 w gd_0 (.cells #[.bool od_0.made, v4] 57 (0, 0)) := hB6
  replace h5 : OwnT ref35_one.c 65 ρ 1 w v4 od_0.l := h5
  refine ke_seq ?_
  refine ke_seq ?_
  refine ke_region ?_
  refine sr_ev (v := .int .i64 i_7) (ev_move rfl) (by decide) ?_
  refine sr_ev (v := .pointer (some ⟨gd_0, 0, none⟩)) (ev_move rfl) (by decide) ?_
  refine sr_ev (v := .pointer (some ⟨gd_0, 0, none⟩)) (ev_nilCheck rfl) (by decide) ?_
  refine sr_ev (v := .pointer (some ⟨gd_0, 1, none⟩)) (ev_fieldAddr (i := 1) Try.underlying57 rfl Try.info55 rfl rfl) (by decide) ?_
  refine sr_ev (v := v4) (ev_load Try.isAgg55 rfl (hB6.cell rfl)) (by decide) ?_
  refine sr_ev (v := .int .i64 (od_0.l.length : Int)) (ev_sllen Try.underlying55 rfl h5.asSl) (by decide) ?_
  refine sr_ev (v := .bool (decide (i_7 < (od_0.l.length : Int)))) (ev_lt rfl rfl) (by decide) ?_
  refine sr_end (l' := [(0, .pointer (some ⟨gd_0, 0, none⟩)), (1, str from_1), (2, str to_2), (7, .int .i64 i_7), (14, .bool (decide (i_7 < (od_0.l.length : Int))))]) (.cons rfl (.cons rfl (.cons rfl (.cons rfl (.cons rfl (.nil _)))))) ?_
  refine ke_cond (t := decide (i_7 < (od_0.l.length : Int))) rfl (fun hc7 => ?_) (fun hc7 => ?_)
  ·replace hS := ite_true' hS hc7
   refine ke_skip ?_
   refine ke_seq ?_
   refine ke_block ?_
   refine ke_seq ?_
   refine ke_region ?_
   refine sr_ev (v := .pointer (some ⟨gd_0, 0, none⟩)) (ev_move rfl) (by decide) ?_
   refine sr_ev (v := .pointer (some ⟨gd_0, 0, none⟩)) (ev_nilCheck rfl) (by decide) ?_
   refine sr_ev (v := .pointer (some ⟨gd_0, 1, none⟩)) (ev_fieldAddr (i := 1) Try.underlying57 rfl Try.info55 rfl rfl) (by decide) ?_
   refine sr_ev (v := v4) (ev_load Try.isAgg55 rfl (hB6.cell rfl)) (by decide) ?_
   refine sr_ev (v := .int .i64 i_7) (ev_move rfl) (by decide) ?_
   obtain ⟨y8, hy9, hS⟩ := bind_some' hS
   obtain ⟨b10, o11, cs13, hq14, he12, hg17, ho18⟩ := h5.elemQ (P := Try.prog) Try.underlying55 Try.info65 rfl hy9
   obtain ⟨v15, hcshe12, h16⟩ := he12.rd
   obtain rfl : cs13 = [str y8.from_, str y8.to_, v15, .int .i64 y8.window.From, .int .i64 y8.window.Until] := hcshe12
   refine sr_ev (v := .pointer (some ⟨b10, o11, none⟩)) (hq14 w rfl rfl) (by decide) ?_
   refine sr_ev (v := .pointer (some ⟨b10, o11 + 0, none⟩)) (ev_fieldAddr (i := 0) Try.underlying65 rfl Try.info9 rfl rfl) (by decide) ?_
   refine sr_ev (v := str y8.from_) (ev_load Try.isAgg9 rfl (he12.cell 0 _ rfl)) (by decide) ?_
   refine sr_ev (v := str from_1) (ev_move rfl) (by decide) ?_
   refine sr_ev (v := .bool (y8.from_ == from_1)) (ev_seq rfl rfl) (by decide) ?_
   refine sr_ev (v := .bool (y8.from_ == from_1)) (ev_move rfl) (by decide) ?_
   obtain ⟨z21, hz23, hS⟩ := bind_some' hS
   refine sr_join (m := 11) (C := fun (z : Bool) w1 => z21 = z ∧ ∃ ρ1, Tr ρ w (fun _ => false) ρ1 w1) (l' := fun z => [(0, .pointer (some ⟨gd_0, 0, none⟩)), (1, str from_1), (2, str to_2), (7, .int .i64 i_7), (38, .bool z)]) ?_ ?_
   ·rintro _ w24 ⟨rfl, ρ25, hj22⟩
    replace hB6 := hB6.mv (hj22.mv (i := 1) rfl)
    replace h5 := h5.mv (hj22.mv (i := 1) rfl) (by decide)
    replace hb := hb.trans hj22
    refine sr_end (l' := [(0, .pointer (some ⟨gd_0, 0, none⟩)), (1, str from_1), (2, str to_2), (7, .int .i64 i_7), (38, .bool z21)]) (.cons rfl (.cons rfl (.cons rfl (.cons rfl (.cons rfl (.nil _)))))) ?_
    refine ke_cond (t := z21) rfl (fun hc38 => ?_) (fun hc38 => ?_)
    ·replace hS := ite_true' hS hc38
     refine ke_seq ?_
     refine ke_region ?_
     refine sr_ev (v := .int .i64 i_7) (ev_move rfl) (by decide) ?_
     refine sr_ev (v := .int .i64 i_7) (ev_assign rfl) (by decide) ?_
     refine sr_end (l' := [(6, .int .i64 i_7)]) (.cons rfl (.nil _)) ?_
     cases hS
     exact ke_ret1 Try.func37 rfl rfl ⟨_, rfl, rfl, (hb.below (flat1_le _))⟩
    ·replace hS := ite_false' hS hc38
     refine ke_skip ?_
     refine ke_inBlock ?_
     refine ke_region ?_
     refine sr_ev (v := .int .i64 i_7) (ev_move rfl) (by decide) ?_
     refine sr_ev (v := .int .i64 (IntKind.i64.wrap (i_7 + 1))) (ev_add rfl rfl) (by decide) ?_
     refine sr_ev (v := .int .i64 (IntKind.i64.wrap (i_7 + 1))) (ev_assign rfl) (by decide) ?_
     refine sr_end (l' := [(0, .pointer (some ⟨gd_0, 0, none⟩)), (1, str from_1), (2, str to_2), (7, .int .i64 (IntKind.i64.wrap (i_7 + 1)))]) (.cons rfl (.cons rfl (.cons rfl (.cons rfl (.nil _))))) ?_
     have hK := hr0 hS hb ⟨_, hB6, h5⟩
     exact ke_weaken (l' := [(0, .pointer (some ⟨gd_0, 0, none⟩)), (1, str from_1), (2, str to_2), (7, .int .i64 (IntKind.i64.wrap (i_7 + 1)))]) (.cons rfl (.cons rfl (.cons rfl (.cons rfl (.nil _))))) hK
   ·intro K20
    clear hS
    have hj22 : Tr ρ w (fun _ => false) ρ w := (Tr.refl hb.bd).weak (fun _ _ => rfl) rfl rfl
    rcases Bool.eq_false_or_eq_true (y8.from_ == from_1) with hg19 | hg19
    ·have hS := ite_true' hz23 hg19
     refine sr_evg (b := true) (e := 27) rfl rfl hg19 (v := .pointer (some ⟨gd_0, 0, none⟩)) (ev_move rfl) (by decide) ?_
     refine sr_evg (b := true) (e := 27) rfl rfl hg19 (v := .pointer (some ⟨gd_0, 0, none⟩)) (ev_nilCheck rfl) (by decide) ?_
     refine sr_evg (b := true) (e := 27) rfl rfl hg19 (v := .pointer (some ⟨gd_0, 1, none⟩)) (ev_fieldAddr (i := 1) Try.underlying57 rfl Try.info55 rfl rfl) (by decide) ?_
     refine sr_evg (b := true) (e := 27) rfl rfl hg19 (v := v4) (ev_load Try.isAgg55 rfl (hB6.cell rfl)) (by decide) ?_
     refine sr_evg (b := true) (e := 27) rfl rfl hg19 (v := .int .i64 i_7) (ev_move rfl) (by decide) ?_
     obtain ⟨y27, hy28, hS⟩ := bind_some' hS
     obtain ⟨b29, o30, cs32, hq33, he31, hg36, ho37⟩ := h5.elemQ (P := Try.prog) Try.underlying55 Try.info65 rfl hy28
     obtain ⟨v34, hcshe31, h35⟩ := he31.rd
     obtain rfl : cs32 = [str y27.from_, str y27.to_, v34, .int .i64 y27.window.From, .int .i64 y27.window.Until] := hcshe31
     refine sr_evg (b := true) (e := 27) rfl rfl hg19 (v := .pointer (some ⟨b29, o30, none⟩)) (hq33 w rfl rfl) (by decide) ?_
     refine sr_evg (b := true) (e := 27) rfl rfl hg19 (v := .pointer (some ⟨b29, o30 + 1, none⟩)) (ev_fieldAddr (i := 1) Try.underlying65 rfl Try.info9 rfl rfl) (by decide) ?_
     refine sr_evg (b := true) (e := 27) rfl rfl hg19 (v := str y27.to_) (ev_load Try.isAgg9 rfl (he31.cell 1 _ rfl)) (by decide) ?_
     refine sr_evg (b := true) (e := 27) rfl rfl hg19 (v := str to_2) (ev_move rfl) (by decide) ?_
     refine sr_evg (b := true) (e := 27) rfl rfl hg19 (v := .bool (y27.to_ == to_2)) (ev_seq rfl rfl) (by decide) ?_
     refine sr_ev (v := .bool (y27.to_ == to_2)) (ev_pick_t rfl hg19 rfl) (by decide) ?_
     exact sr_weaken (l' := [(0, .pointer (some ⟨gd_0, 0, none⟩)), (1, str from_1), (2, str to_2), (7, .int .i64 i_7), (38, .bool (y27.to_ == to_2))]) (.cons rfl (.cons rfl (.cons rfl (.cons rfl (.cons rfl (.nil _)))))) (K20 (y27.to_ == to_2) _ ⟨(Option.some.inj hS).symm, _, hj22⟩)
    ·have hS := ite_false' hz23 hg19
     refine sr_pass (e := 27) rfl rfl (by rw [hg19]; rfl) (by decide) ?_
     refine sr_pass (e := 27) rfl rfl (by rw [hg19]; rfl) (by decide) ?_
     refine sr_pass (e := 27) rfl rfl (by rw [hg19]; rfl) (by decide) ?_
     refine sr_pass (e := 27) rfl rfl (by rw [hg19]; rfl) (by decide) ?_
     refine sr_pass (e := 27) rfl rfl (by rw [hg19]; rfl) (by decide) ?_
     refine sr_pass (e := 27) rfl rfl (by rw [hg19]; rfl) (by decide) ?_
     refine sr_pass (e := 27) rfl rfl (by rw [hg19]; rfl) (by decide) ?_
     refine sr_pass (e := 27) rfl rfl (by rw [hg19]; rfl) (by decide) ?_
     refine sr_pass (e := 27) rfl rfl (by rw [hg19]; rfl) (by decide) ?_
     refine sr_pass (e := 27) rfl rfl (by rw [hg19]; rfl) (by decide) ?_
     refine sr_ev (v := .bool false) (ev_pick_f rfl hg19 rfl) (by decide) ?_
     exact sr_weaken (l' := [(0, .pointer (some ⟨gd_0, 0, none⟩)), (1, str from_1), (2, str to_2), (7, .int .i64 i_7), (38, .bool false)]) (.cons rfl (.cons rfl (.cons rfl (.cons rfl (.cons rfl (.nil _)))))) (K20 false _ ⟨(Option.some.inj hS).symm, _, hj22⟩)
  ·replace hS := ite_false' hS hc7
   refine ke_exit (k' := _) rfl ?_
   refine ke_seq ?_
   refine ke_region ?_
   refine sr_ev (v := .int .i64 (-1)) (ev_assign rfl) (by decide) ?_
   refine sr_end (l' := [(6, .int .i64 (-1))]) (.cons rfl (.nil _)) ?_
   cases hS
   exact ke_ret1 Try.func37 rfl rfl ⟨_, rfl, rfl, (hb.below (flat1_le _))⟩
theorem ref35_Delegations_find_ok (w0 : World) (hg : Gs w0) {ρA : Tags} (hbd : ∀ b, ρA b ≠ 0 → b < w0.heap.size) (hz : Gz ρA) {τ0 : Nat → Nat} (hτ0 : ∀ p, 1 ≤ τ0 p) {d_0 : ref35_Delegations} {from_1 : Str} {to_2 : Str} {gd_0 : Nat} {r : Int} (ho0 : ref35_Delegations.O τ0 ρA w0 gd_0 d_0) (hS : ref35_Delegations_find d_0 from_1 to_2 = some r) :
  Calls Try.prog 37 #[.pointer (some ⟨gd_0, 0, none⟩), str from_1, str to_2] w0 (Ret (fun v w' => v = .int .i64 r ∧ Below w0.heap.size w0 w')) := by
 unfold ref35_Delegations_find at hS
 have hb := flat1_fr (ρ := ρA) (w := w0) hbd
 have hz := hz.flat1
 obtain ⟨v1, hB3, h2⟩ := ho0
 replace hB3 := hB3.mv (flat1_mv (hτ0 0))
 replace h2 := h2.mv (flat1_mv (hτ0 1)) (by decide)
 replace hB3 : Blk (flat1 ρA) 1 w0 gd_0 (.cells #[.bool d_0.made, v1] 57 (0, 0)) := hB3
 replace h2 : OwnT ref35_one.c 65 (flat1 ρA) 1 w0 v1 d_0.l := h2
 refine calls_of_ke Try.func37 rfl (n := 40) rfl rfl (l := [(0, .pointer (some ⟨gd_0, 0, none⟩)), (1, str from_1), (2, str to_2)]) rfl ?_
 refine ke_seq ?_
 refine ke_region ?_
 refine sr_ev (v := .int .i64 0) (ev_assign rfl) (by decide) ?_
 refine sr_end (l' := [(0, .pointer (some ⟨gd_0, 0, none⟩)), (1, str from_1), (2, str to_2)]) (.cons rfl (.cons rfl (.cons rfl (.nil _)))) ?_
 refine ke_seq ?_
 refine ke_seq ?_
 refine ke_region ?_
 refine sr_ev (v := .int .i64 0) (ev_assign rfl) (by decide) ?_
 refine sr_end (l' := [(0, .pointer (some ⟨gd_0, 0, none⟩)), (1, str from_1), (2, str to_2), (7, .int .i64 0)]) (.cons rfl (.cons rfl (.cons rfl (.cons rfl (.nil _))))) ?_
 refine ke_block ?_
 have hK := ref35_Delegations_find_L1_ok hg hbd hz _ hS hb ⟨_, hB3, h2⟩
 exact ke_weaken (l' := [(0, .pointer (some ⟨gd_0, 0, none⟩)), (1, str from_1), (2, str to_2), (7, .int .i64 0)]) (.cons rfl (.cons rfl (.cons rfl (.cons rfl (.nil _))))) (ke_loop hK)
theorem ref35_Delegations_Allow_B2_ok {w0 : World} (hg : Gs w0) {ρA : Tags} (hbd : ∀ b, ρA b ≠ 0 → b < w0.heap.size) {o : Nat} (ho2 : 2 ≤ o) {gd_0 : Nat} (hz : Gz (enter ρA o 2)) {r : Int × ref35_Delegations} {ogd_0 : ref35_Delegations} (hS : ref35_Delegations_Allow_B2 ogd_0 = some r) {ρ : Tags} {w : World} (hb : Fr (enter ρA o 2) w0 ρ w) (hogd_0 : ref35_Delegations.O (fun p => 100 + p) ρ w gd_0 ogd_0) :
  KE Try.prog 30 (Ret (fun v w' => ∃ ρ', v = .int .i64 r.1 ∧ ref35_Delegations.O (fun p => o + p) ρ' w' gd_0 r.2 ∧ Tr ρA w0 (rng o 2) ρ' w')) 89 [.code (sub (bodyOf Try.f30) [2, 2, 2, 2, 2, 2, 2, 2, 2, 2, 2])] [] w := by
 unfold ref35_Delegations_Allow_B2 at hS
 obtain ⟨v405, hB407, h406⟩ := hogd_0
 replace hB407 : Blk ρ 100 w gd_0 (.cells #[.bool ogd_0.made, v405] 57 (0, 0)) := hB407
 replace h406 : OwnT ref35_one.c 65 ρ 101 w v405 ogd_0.l := h406
 refine ke_seq ?_
 refine ke_region ?_
 refine sr_ev (v := .int .i64 0) (ev_assign rfl) (by decide) ?_
 refine sr_end (l' := [(10, .int .i64 0)]) (.cons rfl (.nil _)) ?_
 cases hS
 exact ke_ret1 Try.func30 rfl rfl ⟨_, rfl, leave ρA w0 o 2 ρ, rfl, ⟨_, (hB407.mv (leave_mv (p := 0) (by decide) hb)), (h406.mv (leave_mv (p := 1) (by decide) hb) (Nat.ne_of_gt (Nat.lt_of_lt_of_le (Nat.lt_of_lt_of_le Nat.zero_lt_two ho2) (Nat.le_add_right _ _))))⟩, (leave_tr ho2 hb)⟩
theorem ref35_Delegations_Allow_B1_ok {w0 : World} (hg : Gs w0) {ρA : Tags} (hbd : ∀ b, ρA b ≠ 0 → b < w0.heap.size) {o : Nat} (ho2 : 2 ≤ o) {gd_0 : Nat} (hz : Gz (enter ρA o 2)) {r : Int × ref35_Delegations} {od_0 : ref35_Delegations} {from_1 : Str} {to_2 : Str} {x_12_0 : Str} {x_12_1 : Str} {x_12_2 : List Str} {x_12_3 : Int} {x_12_4 : Int} {gx_12 : Nat} {vx_12_2 : Value} (hS : ref35_Delegations_Allow_B1 od_0 from_1 to_2 x_12_0 x_12_1 x_12_2 x_12_3 x_12_4 = some r) {ρ : Tags} {w : World} (hb : Fr (enter ρA o 2) w0 ρ w) (hod_0 : ref35_Delegations.O (fun p => 100 + p) ρ w gd_0 od_0) (hx_12_2 : OwnT strC 9 ρ 57 w vx_12_2 x_12_2) (hBx_12 : Blk ρ 14 w gx_12 (.cells #[str x_12_0, str x_12_1, vx_12_2, .int .i64 x_12_3, .int .i64 x_12_4] 65 (0, 0))) :
  KE Try.prog 30 (Ret (fun v w' => ∃ ρ', v = .int .i64 r.1 ∧ ref35_Delegations.O (fun p => o + p) ρ' w' gd_0 r.2 ∧ Tr ρA w0 (rng o 2) ρ' w')) 89 [.code (sub (bodyOf Try.f30) [2, 2, 2, 2, 2, 2, 2, 2])] [(0, .pointer (some ⟨gd_0, 0, none⟩)), (1, str from_1), (2, str to_2), (12, .pointer (some ⟨gx_12, 0, none⟩))] w := by
 unfold ref35_Delegations_Allow_B1 at hS
 obtain ⟨v246, hB248, h247⟩ := hod_0
 replace hB248 : Blk ρ 100 w gd_0 (.cells #[.bool od_0.made, v246] 57 (0, 0)) := hB248
 replace h247 : OwnT ref35_one.c 65 ρ 101 w v246 od_0.l := h247
 refine ke_seq ?_
 refine ke_seq ?_
 refine ke_region ?_
 refine sr_ev (v := .pointer (some ⟨gd_0, 0, none⟩)) (ev_move rfl) (by decide) ?_
 refine sr_ev (v := str from_1) (ev_move rfl) (by decide) ?_
 refine sr_ev (v := str to_2) (ev_move rfl) (by decide) ?_
 obtain ⟨y249, hy250, hS⟩ := bind_some' hS
 refine sr_call (vs := [.pointer (some ⟨gd_0, 0, none⟩), str from_1, str to_2]) rfl Try.call37 rfl (ref35_Delegations_find_ok _ (hg.fr hz hb) (ρA := ρ) hb.bd (hz.fr hg hb) (τ0 := (fun p => 100 + p)) (fun p => Nat.le_add_right_of_le (by decide)) (⟨_, hB248, h247⟩ : ref35_Delegations.O (fun p => 100 + p) ρ w gd_0 od_0) hy250) (by decide) ?_
 rintro _ w251 ⟨rfl, hbw252⟩
 have htr253 := Tr.of_below hbw252 hb.bd
 replace hB248 := hB248.mv (htr253.mv (i := 100) rfl)
 replace h247 := h247.mv (htr253.mv (i := 101) rfl) (by decide)
 replace hBx_12 := hBx_12.mv (htr253.mv (i := 14) rfl)
 replace hx_12_2 := hx_12_2.mv (htr253.mv (i := 57) rfl) (by decide)
 replace hb := hb.trans htr253
 refine sr_ev (v := .int .i64 y249) (ev_assign rfl) (by decide) ?_
 refine sr_end (l' := [(0, .pointer (some ⟨gd_0, 0, none⟩)), (12, .pointer (some ⟨gx_12, 0, none⟩)), (13, .int .i64 y249)]) (.cons rfl (.cons rfl (.cons rfl (.nil _)))) ?_
 refine ke_seq ?_
 refine ke_region ?_
 refine sr_ev (v := .int .i64 y249) (ev_move rfl) (by decide) ?_
 refine sr_ev (v := .bool (decide (y249 ≥ 0))) (ev_ge rfl rfl) (by decide) ?_
 refine sr_end (l' := [(0, .pointer (some ⟨gd_0, 0, none⟩)), (12, .pointer (some ⟨gx_12, 0, none⟩)), (13, .int .i64 y249), (65, .bool (decide (y249 ≥ 0)))]) (.cons rfl (.cons rfl (.cons rfl (.cons rfl (.nil _))))) ?_
 refine ke_cond (t := decide (y249 ≥ 0)) rfl (fun hc254 => ?_) (fun hc254 => ?_)
 ·replace hS := ite_true' hS hc254
  refine ke_seq ?_
  refine ke_region_j (ρ := ρ) (fun t => ([57, 101] : List Nat).contains t) 8 Try.mixed (fun w256 hw255 => ?_)
  have htr257 := Tr.of_below hw255 hb.bd
  replace hB248 := hB248.mv (htr257.mv (i := 100) rfl)
  replace h247 := h247.mv (htr257.mv (i := 101) rfl) (by decide)
  replace hBx_12 := hBx_12.mv (htr257.mv (i := 14) rfl)
  replace hx_12_2 := hx_12_2.mv (htr257.mv (i := 57) rfl) (by decide)
  replace hb := hb.trans htr257
  refine dj_H 0 (v := .pointer (some ⟨gd_0, 0, none⟩)) (by kernel_rfl) (by kernel_rfl) rfl (fun _ _ _ h => h) (sj_refl hb.bd rfl rfl) (fun w1 ρ1 hw1 => ev_move rfl) (by decide) ?_
  refine dj_H 1 (v := .pointer (some ⟨gd_0, 0, none⟩)) (by kernel_rfl) (by kernel_rfl) rfl (fun _ _ _ h => h) (sj_refl hb.bd rfl rfl) (fun w1 ρ1 hw1 => ev_nilCheck rfl) (by decide) ?_
  refine dj_H 2 (v := .pointer (some ⟨gd_0, 1, none⟩)) (by kernel_rfl) (by kernel_rfl) rfl (fun _ _ _ h => h) (sj_refl hb.bd rfl rfl) (fun w1 ρ1 hw1 => ev_fieldAddr (i := 1) Try.underlying57 rfl Try.info55 rfl rfl) (by decide) ?_
  refine dj_H 3 (v := v246) (by kernel_rfl) (by kernel_rfl) rfl (fun _ _ _ h => h) (sj_refl hb.bd rfl rfl) (fun w1 ρ1 hw1 => ev_load Try.isAgg55 rfl ((hB248.mv (hw1.mv (i := 100) rfl)).cell rfl)) (by decide) ?_
  refine dj_H 4 (v := .int .i64 y249) (by kernel_rfl) (by kernel_rfl) rfl (fun _ _ _ h => h) (sj_refl hb.bd rfl rfl) (fun w1 ρ1 hw1 => ev_move rfl) (by decide) ?_
  refine dj_H 5 (v := .agg #[str x_12_0, str x_12_1, vx_12_2, .int .i64 x_12_3, .int .i64 x_12_4]) (by kernel_rfl) (by kernel_rfl) rfl (fun _ _ _ h => h) (sj_refl hb.bd rfl rfl) (fun w1 ρ1 hw1 => ev_loads (cs := [str x_12_0, str x_12_1, vx_12_2, .int .i64 x_12_3, .int .i64 x_12_4]) Try.isAgg65 Try.sizeOf65 rfl ((hBx_12.mv (hw1.mv (i := 14) rfl)).cells (vs := [str x_12_0, str x_12_1, vx_12_2, .int .i64 x_12_3, .int .i64 x_12_4]) rfl)) (by decide) ?_
  obtain ⟨y291, hy292, hS⟩ := bind_some' hS
  obtain ⟨b293, o294, cs296, hq297, he295, hg300, ho301⟩ := h247.elemQ (P := Try.prog) Try.underlying55 Try.info65 rfl hy292
  obtain ⟨v298, hcshe295, h299⟩ := he295.rd
  obtain rfl : cs296 = [str y291.from_, str y291.to_, v298, .int .i64 y291.window.From, .int .i64 y291.window.Until] := hcshe295
  refine dj_H 6 (v := .pointer (some ⟨b293, o294, none⟩)) (by kernel_rfl) (by kernel_rfl) rfl (fun _ _ _ h => h) (sj_refl hb.bd rfl rfl) (fun w1 ρ1 hw1 => hq297 w1 rfl rfl) (by decide) ?_
  refine dj_E 7 (by kernel_rfl) rfl ?_
  have jt302 : Tr ρ w256 (fun t => ([57, 101] : List Nat).contains t) ρ w256 := (Tr.refl hb.bd).weak (fun _ _ => rfl) rfl rfl
  have htr303 := frz_tr (ρ := ρ) (w := w256) (i := 57) (by decide) hb.bd
  have h304 : SlR strC (Wb (frz ρ 57)) w256 vx_12_2 x_12_2 := (SlT.mv hx_12_2.sl (frz_mv (ρ := ρ) (w := w256) (i := 57))).sl
  replace he295 := he295.mv (htr303.mv (i := 101) rfl) (Nat.succ_pos _)
  replace hB248 := hB248.mv (htr303.mv (i := 100) rfl)
  replace h247 := h247.mv (htr303.mv (i := 101) rfl) (by decide)
  replace hb := hb.trans htr303
  replace jt302 := (jt302.trans htr303).weak (J' := (fun t => ([57, 101] : List Nat).contains t)) (by intro t h; simp [rng] at h ⊢ <;> omega) rfl rfl
  refine sr_storeEl (z' := (ref35_one.mk x_12_0 x_12_1 x_12_2 (api_Window.mk x_12_3 x_12_4))) (u := .agg #[str x_12_0, str x_12_1, vx_12_2, .int .i64 x_12_3, .int .i64 x_12_4]) (vs := [str x_12_0, str x_12_1, vx_12_2, .int .i64 x_12_3, .int .i64 x_12_4]) (cs' := [str x_12_0, str x_12_1, vx_12_2, .int .i64 x_12_3, .int .i64 x_12_4]) (off := 0) h247 hg300 ho301 hy292 he295 (by decide) hb.bd rfl rfl rfl Try.sizeOf65 (by first | rfl | (simp only [List.all_cons, List.all_nil, SlR.oneCell h304]; done) | (simp only [List.all_cons, List.all_nil, SlR.oneCell h304]; rfl)) rfl rfl ⟨_, rfl, h304⟩ ?_
  intro w305 h2471 htr306
  replace hB248 := hB248.mv (htr306.mv (i := 100) rfl)
  replace hb := hb.trans htr306
  replace jt302 := (jt302.trans htr306).weak (J' := (fun t => ([57, 101] : List Nat).contains t)) (by intro t h; simp [rng] at h ⊢ <;> omega) rfl rfl
  replace h247 := h2471
  clear h2471
  refine dj_next (l' := []) rfl (.nil _) jt302 (by intro t h; simp [rng] at h ⊢ <;> omega) rfl rfl ?_
  refine dj_done rfl (by kernel_rfl) ?_
  refine ke_weaken (l' := []) (.nil _) ?_
  refine ke_seq ?_
  refine ke_region ?_
  refine sr_ev (v := .int .i64 0) (ev_assign rfl) (by decide) ?_
  refine sr_end (l' := [(10, .int .i64 0)]) (.cons rfl (.nil _)) ?_
  cases hS
  exact ke_ret1 Try.func30 rfl rfl ⟨_, rfl, leave ρA w0 o 2 (frz ρ 57), rfl, ⟨_, (hB248.mv (leave_mv (p := 0) (by decide) hb)), (h247.mv (leave_mv (p := 1) (by decide) hb) (Nat.ne_of_gt (Nat.lt_of_lt_of_le (Nat.lt_of_lt_of_le Nat.zero_lt_two ho2) (Nat.le_add_right _ _))))⟩, (leave_tr ho2 hb)⟩
 ·replace hS := ite_false' hS hc254
  refine ke_skip ?_
  refine ke_seq ?_
  refine ke_seq ?_
  refine ke_region ?_
  refine sr_ev (v := .pointer (some ⟨gd_0, 0, none⟩)) (ev_move rfl) (by decide) ?_
  refine sr_ev (v := .pointer (some ⟨gd_0, 0, none⟩)) (ev_nilCheck rfl) (by decide) ?_
  refine sr_ev (v := .pointer (some ⟨gd_0, 1, none⟩)) (ev_fieldAddr (i := 1) Try.underlying57 rfl Try.info55 rfl rfl) (by decide) ?_
  refine sr_ev (v := v246) (ev_load Try.isAgg55 rfl (hB248.cell rfl)) (by decide) ?_
  refine sr_ev (v := .int .i64 (od_0.l.length : Int)) (ev_sllen Try.underlying55 rfl h247.asSl) (by decide) ?_
  refine sr_ev (v := .bool (decide ((od_0.l.length : Int) ≥ 256))) (ev_ge rfl rfl) (by decide) ?_
  refine sr_end (l' := [(0, .pointer (some ⟨gd_0, 0, none⟩)), (12, .pointer (some ⟨gx_12, 0, none⟩)), (78, .bool (decide ((od_0.l.length : Int) ≥ 256)))]) (.cons rfl (.cons rfl (.cons rfl (.nil _)))) ?_
  refine ke_cond (t := decide ((od_0.l.length : Int) ≥ 256)) rfl (fun hc307 => ?_) (fun hc307 => ?_)
  ·replace hS := ite_true' hS hc307
   refine ke_seq ?_
   refine ke_region ?_
   refine sr_ev (v := .int .i64 3) (ev_assign rfl) (by decide) ?_
   refine sr_end (l' := [(10, .int .i64 3)]) (.cons rfl (.nil _)) ?_
   cases hS
   exact ke_ret1 Try.func30 rfl rfl ⟨_, rfl, leave ρA w0 o 2 ρ, rfl, ⟨_, (hB248.mv (leave_mv (p := 0) (by decide) hb)), (h247.mv (leave_mv (p := 1) (by decide) hb) (Nat.ne_of_gt (Nat.lt_of_lt_of_le (Nat.lt_of_lt_of_le Nat.zero_lt_two ho2) (Nat.le_add_right _ _))))⟩, (leave_tr ho2 hb)⟩
  ·replace hS := ite_false' hS hc307
   refine ke_skip ?_
   refine ke_seq ?_
   refine ke_region_j (ρ := ρ) (fun t => ([57, 100, 101] : List Nat).contains t) 11 Try.mixed (fun w309 hw308 => ?_)
   have htr310 := Tr.of_below hw308 hb.bd
   replace hB248 := hB248.mv (htr310.mv (i := 100) rfl)
   replace h247 := h247.mv (htr310.mv (i := 101) rfl) (by decide)
   replace hBx_12 := hBx_12.mv (htr310.mv (i := 14) rfl)
   replace hx_12_2 := hx_12_2.mv (htr310.mv (i := 57) rfl) (by decide)
   replace hb := hb.trans htr310
   refine dj_H 0 (v := .pointer (some ⟨gd_0, 0, none⟩)) (by kernel_rfl) (by kernel_rfl) rfl (fun _ _ _ h => h) (sj_refl hb.bd rfl rfl) (fun w1 ρ1 hw1 => ev_move rfl) (by decide) ?_
   refine dj_H 1 (v := .pointer (some ⟨gd_0, 0, none⟩)) (by kernel_rfl) (by kernel_rfl) rfl (fun _ _ _ h => h) (sj_refl hb.bd rfl rfl) (fun w1 ρ1 hw1 => ev_move rfl) (by decide) ?_
   refine dj_H 2 (v := .pointer (some ⟨gd_0, 0, none⟩)) (by kernel_rfl) (by kernel_rfl) rfl (fun _ _ _ h => h) (sj_refl hb.bd rfl rfl) (fun w1 ρ1 hw1 => ev_nilCheck rfl) (by decide) ?_
   refine dj_H 3 (v := .pointer (some ⟨gd_0, 1, none⟩)) (by kernel_rfl) (by kernel_rfl) rfl (fun _ _ _ h => h) (sj_refl hb.bd rfl rfl) (fun w1 ρ1 hw1 => ev_fieldAddr (i := 1) Try.underlying57 rfl Try.info55 rfl rfl) (by decide) ?_
   refine dj_H 5 (v := .agg #[str x_12_0, str x_12_1, vx_12_2, .int .i64 x_12_3, .int .i64 x_12_4]) (by kernel_rfl) (by kernel_rfl) rfl (fun _ _ _ h => h) (sj_refl hb.bd rfl rfl) (fun w1 ρ1 hw1 => ev_loads (cs := [str x_12_0, str x_12_1, vx_12_2, .int .i64 x_12_3, .int .i64 x_12_4]) Try.isAgg65 Try.sizeOf65 rfl ((hBx_12.mv (hw1.mv (i := 14) rfl)).cells (vs := [str x_12_0, str x_12_1, vx_12_2, .int .i64 x_12_3, .int .i64 x_12_4]) rfl)) (by decide) ?_
   obtain ⟨hk378, hS⟩ := chk_some hS
   refine dj_all [4, 6] (by kernel_rfl) (fun i hi => ?_)
   simp only [List.mem_cons, List.not_mem_nil, or_false] at hi
   rcases hi with rfl | rfl
   ·refine ⟨_, rfl, ?_⟩
    have jt387 : Tr ρ w309 (fun t => ([57, 100, 101] : List Nat).contains t) ρ w309 := (Tr.refl hb.bd).weak (fun _ _ => rfl) rfl rfl
    refine sr_ev (v := v246) (ev_load Try.isAgg55 rfl (hB248.cell rfl)) (by decide) ?_
    refine dj_next (l' := [(79, .pointer (some ⟨gd_0, 0, none⟩)), (83, v246), (84, .agg #[str x_12_0, str x_12_1, vx_12_2, .int .i64 x_12_3, .int .i64 x_12_4])]) rfl (.cons rfl (.cons rfl (.cons rfl (.nil _)))) jt387 (by intro t h; simp [rng] at h ⊢ <;> omega) rfl rfl ?_
    refine dj_E 6 (by kernel_rfl) rfl ?_
    have jt388 : Tr ρ w309 (fun t => ([57, 100, 101] : List Nat).contains t) ρ w309 := (Tr.refl hb.bd).weak (fun _ _ => rfl) rfl rfl
    have htr389 := frz_tr (ρ := ρ) (w := w309) (i := 57) (by decide) hb.bd
    have h390 : SlR strC (Wb (frz ρ 57)) w309 vx_12_2 x_12_2 := (SlT.mv hx_12_2.sl (frz_mv (ρ := ρ) (w := w309) (i := 57))).sl
    replace h247 := h247.mv (htr389.mv (i := 101) rfl) (by decide)
    replace hB248 := hB248.mv (htr389.mv (i := 100) rfl)
    replace hb := hb.trans htr389
    replace jt388 := (jt388.trans htr389).weak (J' := (fun t => ([57, 100, 101] : List Nat).contains t)) (by intro t h; simp [rng] at h ⊢ <;> omega) rfl rfl
    refine sr_litT (c := ref35_one.c) (ρ := (frz ρ 57)) (E := 65) (xs := [(ref35_one.mk x_12_0 x_12_1 x_12_2 (api_Window.mk x_12_3 x_12_4))]) (vs := #[(0, .agg #[str x_12_0, str x_12_1, vx_12_2, .int .i64 x_12_3, .int .i64 x_12_4])]) (cs := #[str x_12_0, str x_12_1, vx_12_2, .int .i64 x_12_3, .int .i64 x_12_4]) (css := [[str x_12_0, str x_12_1, vx_12_2, .int .i64 x_12_3, .int .i64 x_12_4]]) rfl (fun _ => by kernel_rfl) rfl ⟨⟨_, rfl, h390⟩, trivial⟩ rfl (by decide) hb.bd (by decide) ?_
    intro v391 w393 h392 hbw395
    have htr394 := Tr.of_below hbw395 hb.bd
    replace h247 := h247.mv (htr394.mv (i := 101) rfl) (by decide)
    replace hB248 := hB248.mv (htr394.mv (i := 100) rfl)
    replace hb := hb.trans htr394
    replace jt388 := (jt388.trans htr394).weak (J' := (fun t => ([57, 100, 101] : List Nat).contains t)) (by intro t h; simp [rng] at h ⊢ <;> omega) rfl rfl
    refine dj_next (l' := [(79, .pointer (some ⟨gd_0, 0, none⟩)), (83, v246), (85, v391)]) rfl (.cons rfl (.cons rfl (.cons rfl (.nil _)))) jt388 (by intro t h; simp [rng] at h ⊢ <;> omega) rfl rfl ?_
    refine dj_E 7 (by kernel_rfl) rfl ?_
    have jt396 : Tr (frz ρ 57) w393 (fun t => ([57, 100, 101] : List Nat).contains t) (frz ρ 57) w393 := (Tr.refl hb.bd).weak (fun _ _ => rfl) rfl rfl
    refine sr_appendT (i := 101) (c := ref35_one.c) (ρ := (frz ρ 57)) (E := 65) (xs := od_0.l) (ys := ([(ref35_one.mk x_12_0 x_12_1 x_12_2 (api_Window.mk x_12_3 x_12_4))] : List ref35_one)) h247 ((SlT.of_sl (i := 0) h392)).x Try.underlying55 Try.info65 rfl rfl rfl (by decide) (by decide) (by decide) hb.bd hk378 rfl rfl (by decide) ?_
    intro v397 ρ399 w400 h398 htr401
    replace hB248 := hB248.mv (htr401.mv (i := 100) rfl)
    replace hb := hb.trans htr401
    replace jt396 := (jt396.trans htr401).weak (J' := (fun t => ([57, 100, 101] : List Nat).contains t)) (by intro t h; simp [rng] at h ⊢ <;> omega) rfl rfl
    refine dj_next (l' := [(79, .pointer (some ⟨gd_0, 0, none⟩)), (86, v397)]) rfl (.cons rfl (.cons rfl (.nil _))) jt396 (by intro t h; simp [rng] at h ⊢ <;> omega) rfl rfl ?_
    refine dj_H 8 (v := .pointer (some ⟨gd_0, 0, none⟩)) (by kernel_rfl) (by kernel_rfl) rfl (fun _ _ _ h => h) (sj_refl hb.bd rfl rfl) (fun w1 ρ1 hw1 => ev_nilCheck rfl) (by decide) ?_
    refine dj_H 9 (v := .pointer (some ⟨gd_0, 1, none⟩)) (by kernel_rfl) (by kernel_rfl) rfl (fun _ _ _ h => h) (sj_refl hb.bd rfl rfl) (fun w1 ρ1 hw1 => ev_fieldAddr (i := 1) Try.underlying57 rfl Try.info55 rfl rfl) (by decide) ?_
    refine dj_E 10 (by kernel_rfl) rfl ?_
    have jt402 : Tr ρ399 w400 (fun t => ([57, 100, 101] : List Nat).contains t) ρ399 w400 := (Tr.refl hb.bd).weak (fun _ _ => rfl) rfl rfl
    refine sr_storeT (v := v397) (vs := [v397]) (cs' := #[.bool od_0.made, v397]) hB248 (by decide) hb.bd rfl rfl (one_cells (OwnT.oneCell h398)) Try.sizeOf55 rfl (by first | rfl | (simp only [List.all_cons, List.all_nil, OwnT.oneCell h398]; done) | (simp only [List.all_cons, List.all_nil, OwnT.oneCell h398]; rfl)) rfl ?_
    intro w403 hB2481 htr404
    replace h398 := h398.mv (htr404.mv (i := 101) rfl) (by decide)
    replace hb := hb.trans htr404
    replace jt402 := (jt402.trans htr404).weak (J' := (fun t => ([57, 100, 101] : List Nat).contains t)) (by intro t h; simp [rng] at h ⊢ <;> omega) rfl rfl
    replace hB248 : Blk ρ399 100 w403 gd_0 (.cells #[.bool od_0.made, v397] 57 (0, 0)) := hB2481
    clear hB2481
    refine dj_next (l' := []) rfl (.nil _) jt402 (by intro t h; simp [rng] at h ⊢ <;> omega) rfl rfl ?_
    refine dj_done rfl (by kernel_rfl) ?_
    refine ke_weaken (l' := []) (.nil _) ?_
    have hK := ref35_Delegations_Allow_B2_ok hg hbd ho2 hz hS hb ⟨_, hB248, h398⟩
    exact ke_weaken (l' := []) (.nil _) hK
   ·refine ⟨_, rfl, ?_⟩
    have jt408 : Tr ρ w309 (fun t => ([57, 100, 101] : List Nat).contains t) ρ w309 := (Tr.refl hb.bd).weak (fun _ _ => rfl) rfl rfl
    have htr409 := frz_tr (ρ := ρ) (w := w309) (i := 57) (by decide) hb.bd
    have h410 : SlR strC (Wb (frz ρ 57)) w309 vx_12_2 x_12_2 := (SlT.mv hx_12_2.sl (frz_mv (ρ := ρ) (w := w309) (i := 57))).sl
    replace hB248 := hB248.mv (htr409.mv (i := 100) rfl)
    replace h247 := h247.mv (htr409.mv (i := 101) rfl) (by decide)
    replace hb := hb.trans htr409
    replace jt408 := (jt408.trans htr409).weak (J' := (fun t => ([57, 100, 101] : List Nat).contains t)) (by intro t h; simp [rng] at h ⊢ <;> omega) rfl rfl
    refine sr_litT (c := ref35_one.c) (ρ := (frz ρ 57)) (E := 65) (xs := [(ref35_one.mk x_12_0 x_12_1 x_12_2 (api_Window.mk x_12_3 x_12_4))]) (vs := #[(0, .agg #[str x_12_0, str x_12_1, vx_12_2, .int .i64 x_12_3, .int .i64 x_12_4])]) (cs := #[str x_12_0, str x_12_1, vx_12_2, .int .i64 x_12_3, .int .i64 x_12_4]) (css := [[str x_12_0, str x_12_1, vx_12_2, .int .i64 x_12_3, .int .i64 x_12_4]]) rfl (fun _ => by kernel_rfl) rfl ⟨⟨_, rfl, h410⟩, trivial⟩ rfl (by decide) hb.bd (by decide) ?_
    intro v411 w413 h412 hbw415
    have htr414 := Tr.of_below hbw415 hb.bd
    replace hB248 := hB248.mv (htr414.mv (i := 100) rfl)
    replace h247 := h247.mv (htr414.mv (i := 101) rfl) (by decide)
    replace hb := hb.trans htr414
    replace jt408 := (jt408.trans htr414).weak (J' := (fun t => ([57, 100, 101] : List Nat).contains t)) (by intro t h; simp [rng] at h ⊢ <;> omega) rfl rfl
    refine dj_next (l' := [(79, .pointer (some ⟨gd_0, 0, none⟩)), (82, .pointer (some ⟨gd_0, 1, none⟩)), (85, v411)]) rfl (.cons rfl (.cons rfl (.cons rfl (.nil _)))) jt408 (by intro t h; simp [rng] at h ⊢ <;> omega) rfl rfl ?_
    refine dj_E 4 (by kernel_rfl) rfl ?_
    have jt416 : Tr (frz ρ 57) w413 (fun t => ([57, 100, 101] : List Nat).contains t) (frz ρ 57) w413 := (Tr.refl hb.bd).weak (fun _ _ => rfl) rfl rfl
    refine sr_ev (v := v246) (ev_load Try.isAgg55 rfl (hB248.cell rfl)) (by decide) ?_
    refine dj_next (l' := [(79, .pointer (some ⟨gd_0, 0, none⟩)), (83, v246), (85, v411)]) rfl (.cons rfl (.cons rfl (.cons rfl (.nil _)))) jt416 (by intro t h; simp [rng] at h ⊢ <;> omega) rfl rfl ?_
    refine dj_E 7 (by kernel_rfl) rfl ?_
    have jt417 : Tr (frz ρ 57) w413 (fun t => ([57, 100, 101] : List Nat).contains t) (frz ρ 57) w413 := (Tr.refl hb.bd).weak (fun _ _ => rfl) rfl rfl
    refine sr_appendT (i := 101) (c := ref35_one.c) (ρ := (frz ρ 57)) (E := 65) (xs := od_0.l) (ys := ([(ref35_one.mk x_12_0 x_12_1 x_12_2 (api_Window.mk x_12_3 x_12_4))] : List ref35_one)) h247 ((SlT.of_sl (i := 0) h412)).x Try.underlying55 Try.info65 rfl rfl rfl (by decide) (by decide) (by decide) hb.bd hk378 rfl rfl (by decide) ?_
    intro v418 ρ420 w421 h419 htr422
    replace hB248 := hB248.mv (htr422.mv (i := 100) rfl)
    replace hb := hb.trans htr422
    replace jt417 := (jt417.trans htr422).weak (J' := (fun t => ([57, 100, 101] : List Nat).contains t)) (by intro t h; simp [rng] at h ⊢ <;> omega) rfl rfl
    refine dj_next (l' := [(79, .pointer (some ⟨gd_0, 0, none⟩)), (86, v418)]) rfl (.cons rfl (.cons rfl (.nil _))) jt417 (by intro t h; simp [rng] at h ⊢ <;> omega) rfl rfl ?_
    refine dj_H 8 (v := .pointer (some ⟨gd_0, 0, none⟩)) (by kernel_rfl) (by kernel_rfl) rfl (fun _ _ _ h => h) (sj_refl hb.bd rfl rfl) (fun w1 ρ1 hw1 => ev_nilCheck rfl) (by decide) ?_
    refine dj_H 9 (v := .pointer (some ⟨gd_0, 1, none⟩)) (by kernel_rfl) (by kernel_rfl) rfl (fun _ _ _ h => h) (sj_refl hb.bd rfl rfl) (fun w1 ρ1 hw1 => ev_fieldAddr (i := 1) Try.underlying57 rfl Try.info55 rfl rfl) (by decide) ?_
    refine dj_E 10 (by kernel_rfl) rfl ?_
    have jt423 : Tr ρ420 w421 (fun t => ([57, 100, 101] : List Nat).contains t) ρ420 w421 := (Tr.refl hb.bd).weak (fun _ _ => rfl) rfl rfl
    refine sr_storeT (v := v418) (vs := [v418]) (cs' := #[.bool od_0.made, v418]) hB248 (by decide) hb.bd rfl rfl (one_cells (OwnT.oneCell h419)) Try.sizeOf55 rfl (by first | rfl | (simp only [List.all_cons, List.all_nil, OwnT.oneCell h419]; done) | (simp only [List.all_cons, List.all_nil, OwnT.oneCell h419]; rfl)) rfl ?_
    intro w424 hB2481 htr425
    replace h419 := h419.mv (htr425.mv (i := 101) rfl) (by decide)
    replace hb := hb.trans htr425
    replace jt423 := (jt423.trans htr425).weak (J' := (fun t => ([57, 100, 101] : List Nat).contains t)) (by intro t h; simp [rng] at h ⊢ <;> omega) rfl rfl
    replace hB248 : Blk ρ420 100 w424 gd_0 (.cells #[.bool od_0.made, v418] 57 (0, 0)) := hB2481
    clear hB2481
    refine dj_next (l' := []) rfl (.nil _) jt423 (by intro t h; simp [rng] at h ⊢ <;> omega) rfl rfl ?_
    refine dj_done rfl (by kernel_rfl) ?_
    refine ke_weaken (l' := []) (.nil _) ?_
    have hK := ref35_Delegations_Allow_B2_ok hg hbd ho2 hz hS hb ⟨_, hB248, h419⟩
    exact ke_weaken (l' := []) (.nil _) hK
theorem ref35_Delegations_Allow_ok (w0 : World) (hg : Gs w0) {ρA : Tags} (hbd : ∀ b, ρA b ≠ 0 → b < w0.heap.size) (hz : Gz ρA) {o : Nat} (ho2 : 2 ≤ o) {d_0 : ref35_Delegations} {from_1 : Str} {to_2 : Str} {scopes_3 : List Str} {w_4 : api_Window} {v4 : Value} {gd_0 : Nat} {r : Int × ref35_Delegations} (h5 : SlR strC (Wb ρA) w0 v4 scopes_3) (ho0 : ref35_Delegations.O (fun p => o + p) ρA w0 gd_0 d_0) (hS : ref35_Delegations_Allow d_0 from_1 to_2 scopes_3 w_4 = some r) :
  Calls Try.prog 30 #[.pointer (some ⟨gd_0, 0, none⟩), str from_1, str to_2, v4, .agg #[.int .i64 w_4.From, .int .i64 w_4.Until]] w0 (Ret (fun v w' => ∃ ρ', v = .int .i64 r.1 ∧ ref35_Delegations.O (fun p => o + p) ρ' w' gd_0 r.2 ∧ Tr ρA w0 (rng o 2) ρ' w')) := by
 unfold ref35_Delegations_Allow at hS
 have hb := enter_fr (ρ := ρA) (w := w0) (n := 2) ho2 hbd
 have hz := hz.enter (n := 2) ho2
 replace h5 := SlR.mv h5 (enter_rd (n := 2) ho2)
 obtain ⟨v1, hB3, h2⟩ := ho0
 replace hB3 := hB3.mv (enter_mv (p := 0) (n := 2) (by decide) ho2)
 replace h2 := h2.mv (enter_mv (p := 1) (n := 2) (by decide) ho2) (by decide)
 replace hB3 : Blk (enter ρA o 2) 100 w0 gd_0 (.cells #[.bool d_0.made, v1] 57 (0, 0)) := hB3
 replace h2 : OwnT ref35_one.c 65 (enter ρA o 2) 101 w0 v1 d_0.l := h2
 refine calls_of_ke Try.func30 rfl (n := 89) rfl rfl (l := [(0, .pointer (some ⟨gd_0, 0, none⟩)), (1, str from_1), (2, str to_2), (3, v4), (4, .agg #[.int .i64 w_4.From, .int .i64 w_4.Until])]) rfl ?_
 refine ke_seq ?_
 refine ke_region ?_
 refine sr_boxT 11 (by decide) hb.bd rfl (by decide) ?_
 intro g6 ρ7 w8 hB10 htr9
 replace h5 := h5.mv htr9.rd
 replace hB3 := hB3.mv (htr9.mv (i := 100) rfl)
 replace h2 := h2.mv (htr9.mv (i := 101) rfl) (by decide)
 replace hb := hb.trans htr9
 replace hB10 : Blk ρ7 11 w8 g6 (.cells #[.int .i64 w_4.From, .int .i64 w_4.Until] 33 (0, 0)) := hB10
 refine sr_ev (v := .int .i64 0) (ev_assign rfl) (by decide) ?_
 refine sr_end (l' := [(0, .pointer (some ⟨gd_0, 0, none⟩)), (1, str from_1), (2, str to_2), (3, v4), (9, .pointer (some ⟨g6, 0, none⟩))]) (.cons rfl (.cons rfl (.cons rfl (.cons rfl (.cons rfl (.nil _)))))) ?_
 refine ke_seq ?_
 refine ke_seq ?_
 refine ke_region ?_
 refine sr_ev (v := .pointer (some ⟨gd_0, 0, none⟩)) (ev_move rfl) (by decide) ?_
 obtain ⟨y11, hy12, hS⟩ := bind_some' hS
 refine sr_call (vs := [.pointer (some ⟨gd_0, 0, none⟩)]) rfl Try.call35 rfl (ref35_Delegations_Made_ok _ (hg.fr hz hb) (ρA := ρ7) hb.bd (hz.fr hg hb) (τ0 := (fun p => 100 + p)) (fun p => Nat.le_add_right_of_le (by decide)) (⟨_, hB3, h2⟩ : ref35_Delegations.O (fun p => 100 + p) ρ7 w8 gd_0 d_0) hy12) (by decide) ?_
 rintro _ w13 ⟨rfl, hbw14⟩
 have htr15 := Tr.of_below hbw14 hb.bd
 replace h5 := h5.mv htr15.rd
 replace hB10 := hB10.mv (htr15.mv (i := 11) rfl)
 replace hB3 := hB3.mv (htr15.mv (i := 100) rfl)
 replace h2 := h2.mv (htr15.mv (i := 101) rfl) (by decide)
 replace hb := hb.trans htr15
 refine sr_ev (v := .bool (!y11)) (ev_not rfl) (by decide) ?_
 refine sr_end (l' := [(0, .pointer (some ⟨gd_0, 0, none⟩)), (1, str from_1), (2, str to_2), (3, v4), (9, .pointer (some ⟨g6, 0, none⟩)), (16, .bool (!y11))]) (.cons rfl (.cons rfl (.cons rfl (.cons rfl (.cons rfl (.cons rfl (.nil _))))))) ?_
 refine ke_cond (t := !y11) rfl (fun hc16 => ?_) (fun hc16 => ?_)
 ·replace hS := ite_true' hS hc16
  refine ke_seq ?_
  refine ke_region ?_
  refine sr_ev (v := .int .i64 1) (ev_assign rfl) (by decide) ?_
  refine sr_end (l' := [(10, .int .i64 1)]) (.cons rfl (.nil _)) ?_
  cases hS
  exact ke_ret1 Try.func30 rfl rfl ⟨_, rfl, leave ρA w0 o 2 ρ7, rfl, ⟨_, (hB3.mv (leave_mv (p := 0) (by decide) hb)), (h2.mv (leave_mv (p := 1) (by decide) hb) (Nat.ne_of_gt (Nat.lt_of_lt_of_le (Nat.lt_of_lt_of_le Nat.zero_lt_two ho2) (Nat.le_add_right _ _))))⟩, (leave_tr ho2 hb)⟩
 ·replace hS := ite_false' hS hc16
  refine ke_skip ?_
  refine ke_seq ?_
  refine ke_seq ?_
  refine ke_region ?_
  refine sr_ev (v := str from_1) (ev_move rfl) (by decide) ?_
  obtain ⟨y17, hy18, hS⟩ := bind_some' hS
  refine sr_call (vs := [str from_1]) rfl Try.call52 rfl (ref01_Word_ok _ (hg.fr hz hb) hy18) (by decide) ?_
  rintro _ w19 ⟨rfl, hbw20⟩
  have htr21 := Tr.of_below hbw20 hb.bd
  replace h5 := h5.mv htr21.rd
  replace hB10 := hB10.mv (htr21.mv (i := 11) rfl)
  replace hB3 := hB3.mv (htr21.mv (i := 100) rfl)
  replace h2 := h2.mv (htr21.mv (i := 101) rfl) (by decide)
  replace hb := hb.trans htr21
  refine sr_ev (v := .bool (!y17)) (ev_not rfl) (by decide) ?_
  refine sr_ev (v := .bool (!y17)) (ev_move rfl) (by decide) ?_
  obtain ⟨z24, hz26, hS⟩ := bind_some' hS
  refine sr_join (m := 4) (C := fun (z : Bool) w1 => z24 = z ∧ ∃ ρ1, Tr ρ7 w19 (fun _ => false) ρ1 w1) (l' := fun z => [(0, .pointer (some ⟨gd_0, 0, none⟩)), (1, str from_1), (2, str to_2), (3, v4), (9, .pointer (some ⟨g6, 0, none⟩)), (24, .bool z)]) ?_ ?_
  ·rintro _ w27 ⟨rfl, ρ28, hj25⟩
   replace h5 := h5.mv hj25.rd
   replace hB10 := hB10.mv (hj25.mv (i := 11) rfl)
   replace hB3 := hB3.mv (hj25.mv (i := 100) rfl)
   replace h2 := h2.mv (hj25.mv (i := 101) rfl) (by decide)
   replace hb := hb.trans hj25
   refine sr_end (l' := [(0, .pointer (some ⟨gd_0, 0, none⟩)), (1, str from_1), (2, str to_2), (3, v4), (9, .pointer (some ⟨g6, 0, none⟩)), (24, .bool z24)]) (.cons rfl (.cons rfl (.cons rfl (.cons rfl (.cons rfl (.cons rfl (.nil _))))))) ?_
   refine ke_cond (t := z24) rfl (fun hc35 => ?_) (fun hc35 => ?_)
   ·replace hS := ite_true' hS hc35
    refine ke_seq ?_
    refine ke_region ?_
    refine sr_ev (v := .int .i64 5) (ev_assign rfl) (by decide) ?_
    refine sr_end (l' := [(10, .int .i64 5)]) (.cons rfl (.nil _)) ?_
    cases hS
    exact ke_ret1 Try.func30 rfl rfl ⟨_, rfl, leave ρA w0 o 2 ρ28, rfl, ⟨_, (hB3.mv (leave_mv (p := 0) (by decide) hb)), (h2.mv (leave_mv (p := 1) (by decide) hb) (Nat.ne_of_gt (Nat.lt_of_lt_of_le (Nat.lt_of_lt_of_le Nat.zero_lt_two ho2) (Nat.le_add_right _ _))))⟩, (leave_tr ho2 hb)⟩
   ·replace hS := ite_false' hS hc35
    refine ke_skip ?_
    refine ke_seq ?_
    refine ke_seq ?_
    refine ke_region ?_
    refine sr_ev (v := str from_1) (ev_move rfl) (by decide) ?_
    refine sr_ev (v := str to_2) (ev_move rfl) (by decide) ?_
    refine sr_ev (v := .bool (from_1 == to_2)) (ev_seq rfl rfl) (by decide) ?_
    refine sr_end (l' := [(0, .pointer (some ⟨gd_0, 0, none⟩)), (1, str from_1), (2, str to_2), (3, v4), (9, .pointer (some ⟨g6, 0, none⟩)), (27, .bool (from_1 == to_2))]) (.cons rfl (.cons rfl (.cons rfl (.cons rfl (.cons rfl (.cons rfl (.nil _))))))) ?_
    refine ke_cond (t := from_1 == to_2) rfl (fun hc36 => ?_) (fun hc36 => ?_)
    ·replace hS := ite_true' hS hc36
     refine ke_seq ?_
     refine ke_region ?_
     refine sr_ev (v := .int .i64 28) (ev_assign rfl) (by decide) ?_
     refine sr_end (l' := [(10, .int .i64 28)]) (.cons rfl (.nil _)) ?_
     cases hS
     exact ke_ret1 Try.func30 rfl rfl ⟨_, rfl, leave ρA w0 o 2 ρ28, rfl, ⟨_, (hB3.mv (leave_mv (p := 0) (by decide) hb)), (h2.mv (leave_mv (p := 1) (by decide) hb) (Nat.ne_of_gt (Nat.lt_of_lt_of_le (Nat.lt_of_lt_of_le Nat.zero_lt_two ho2) (Nat.le_add_right _ _))))⟩, (leave_tr ho2 hb)⟩
    ·replace hS := ite_false' hS hc36
     refine ke_skip ?_
     refine ke_seq ?_
     refine ke_seq ?_
     refine ke_region ?_
     refine sr_ev (v := v4) (ev_move rfl) (by decide) ?_
     obtain ⟨y37, hy38, hS⟩ := bind_some' hS
     refine sr_call (vs := [v4]) rfl Try.call53 rfl (ref29_Check_ok _ (hg.fr hz hb) h5.asSl hy38) (by decide) ?_
     rintro _ w39 ⟨rfl, hbw40⟩
     have htr41 := Tr.of_below hbw40 hb.bd
     replace h5 := h5.mv htr41.rd
     replace hB10 := hB10.mv (htr41.mv (i := 11) rfl)
     replace hB3 := hB3.mv (htr41.mv (i := 100) rfl)
     replace h2 := h2.mv (htr41.mv (i := 101) rfl) (by decide)
     replace hb := hb.trans htr41
     refine sr_ev (v := .int .i64 y37) (ev_assign rfl) (by decide) ?_
     refine sr_end (l' := [(0, .pointer (some ⟨gd_0, 0, none⟩)), (1, str from_1), (2, str to_2), (3, v4), (9, .pointer (some ⟨g6, 0, none⟩)), (11, .int .i64 y37)]) (.cons rfl (.cons rfl (.cons rfl (.cons rfl (.cons rfl (.cons rfl (.nil _))))))) ?_
     refine ke_seq ?_
     refine ke_region ?_
     refine sr_ev (v := .int .i64 y37) (ev_move rfl) (by decide) ?_
     refine sr_ev (v := .bool (y37 != 0)) (ev_ne rfl rfl) (by decide) ?_
     refine sr_end (l' := [(0, .pointer (some ⟨gd_0, 0, none⟩)), (1, str from_1), (2, str to_2), (3, v4), (9, .pointer (some ⟨g6, 0, none⟩)), (11, .int .i64 y37), (31, .bool (y37 != 0))]) (.cons rfl (.cons rfl (.cons rfl (.cons rfl (.cons rfl (.cons rfl (.cons rfl (.nil _)))))))) ?_
     refine ke_cond (t := y37 != 0) rfl (fun hc42 => ?_) (fun hc42 => ?_)
     ·replace hS := ite_true' hS hc42
      refine ke_seq ?_
      refine ke_region ?_
      refine sr_ev (v := .int .i64 y37) (ev_move rfl) (by decide) ?_
      refine sr_ev (v := .int .i64 y37) (ev_assign rfl) (by decide) ?_
      refine sr_end (l' := [(10, .int .i64 y37)]) (.cons rfl (.nil _)) ?_
      cases hS
      exact ke_ret1 Try.func30 rfl rfl ⟨_, rfl, leave ρA w0 o 2 ρ28, rfl, ⟨_, (hB3.mv (leave_mv (p := 0) (by decide) hb)), (h2.mv (leave_mv (p := 1) (by decide) hb) (Nat.ne_of_gt (Nat.lt_of_lt_of_le (Nat.lt_of_lt_of_le Nat.zero_lt_two ho2) (Nat.le_add_right _ _))))⟩, (leave_tr ho2 hb)⟩
     ·replace hS := ite_false' hS hc42
      refine ke_skip ?_
      refine ke_seq ?_
      refine ke_seq ?_
      refine ke_region ?_
      refine sr_ev (v := v4) (ev_move rfl) (by decide) ?_
      refine sr_ev (v := .int .i64 (scopes_3.length : Int)) (ev_sllen Try.underlying23 rfl h5.asSl) (by decide) ?_
      refine sr_ev (v := .bool ((scopes_3.length : Int) == 0)) (ev_eq rfl rfl) (by decide) ?_
      refine sr_end (l' := [(0, .pointer (some ⟨gd_0, 0, none⟩)), (1, str from_1), (2, str to_2), (3, v4), (9, .pointer (some ⟨g6, 0, none⟩)), (35, .bool ((scopes_3.length : Int) == 0))]) (.cons rfl (.cons rfl (.cons rfl (.cons rfl (.cons rfl (.cons rfl (.nil _))))))) ?_
      refine ke_cond (t := (scopes_3.length : Int) == 0) rfl (fun hc43 => ?_) (fun hc43 => ?_)
      ·replace hS := ite_true' hS hc43
       refine ke_seq ?_
       refine ke_region ?_
       refine sr_ev (v := .int .i64 6) (ev_assign rfl) (by decide) ?_
       refine sr_end (l' := [(10, .int .i64 6)]) (.cons rfl (.nil _)) ?_
       cases hS
       exact ke_ret1 Try.func30 rfl rfl ⟨_, rfl, leave ρA w0 o 2 ρ28, rfl, ⟨_, (hB3.mv (leave_mv (p := 0) (by decide) hb)), (h2.mv (leave_mv (p := 1) (by decide) hb) (Nat.ne_of_gt (Nat.lt_of_lt_of_le (Nat.lt_of_lt_of_le Nat.zero_lt_two ho2) (Nat.le_add_right _ _))))⟩, (leave_tr ho2 hb)⟩
      ·replace hS := ite_false' hS hc43
       refine ke_skip ?_
       refine ke_seq ?_
       refine ke_seq ?_
       refine ke_region ?_
       refine sr_ev (v := .pointer (some ⟨g6, 0, none⟩)) (ev_fieldAddr (i := 0) Try.underlying33 rfl Try.info3 rfl rfl) (by decide) ?_
       refine sr_ev (v := .int .i64 w_4.From) (ev_load Try.isAgg3 rfl (hB10.cell rfl)) (by decide) ?_
       obtain ⟨y44, hy45, hS⟩ := bind_some' hS
       refine sr_call (vs := [.int .i64 w_4.From]) rfl Try.call54 rfl (ref04_Valid_ok _ (hg.fr hz hb) hy45) (by decide) ?_
       rintro _ w46 ⟨rfl, hbw47⟩
       have htr48 := Tr.of_below hbw47 hb.bd
       replace h5 := h5.mv htr48.rd
       replace hB10 := hB10.mv (htr48.mv (i := 11) rfl)
       replace hB3 := hB3.mv (htr48.mv (i := 100) rfl)
       replace h2 := h2.mv (htr48.mv (i := 101) rfl) (by decide)
       replace hb := hb.trans htr48
       refine sr_ev (v := .bool (!y44)) (ev_not rfl) (by decide) ?_
       refine sr_ev (v := .bool (!y44)) (ev_move rfl) (by decide) ?_
       obtain ⟨z51, hz53, hS⟩ := bind_some' hS
       refine sr_join (m := 5) (C := fun (z : Bool) w1 => z51 = z ∧ ∃ ρ1, Tr ρ28 w46 (fun _ => false) ρ1 w1) (l' := fun z => [(0, .pointer (some ⟨gd_0, 0, none⟩)), (1, str from_1), (2, str to_2), (3, v4), (9, .pointer (some ⟨g6, 0, none⟩)), (45, .bool z)]) ?_ ?_
       ·rintro _ w54 ⟨rfl, ρ55, hj52⟩
        replace h5 := h5.mv hj52.rd
        replace hB10 := hB10.mv (hj52.mv (i := 11) rfl)
        replace hB3 := hB3.mv (hj52.mv (i := 100) rfl)
        replace h2 := h2.mv (hj52.mv (i := 101) rfl) (by decide)
        replace hb := hb.trans hj52
        refine sr_ev (v := .bool z51) (ev_move rfl) (by decide) ?_
        refine sr_join (m := 6) (C := fun (x : Bool) w1 => x = (z51 || (decide (w_4.From ≥ w_4.Until))) ∧ w54 = w1) (l' := fun x => [(0, .pointer (some ⟨gd_0, 0, none⟩)), (1, str from_1), (2, str to_2), (3, v4), (9, .pointer (some ⟨g6, 0, none⟩)), (52, .bool x)]) ?_ ?_
        ·rintro _ _ ⟨rfl, rfl⟩
         refine sr_end (l' := [(0, .pointer (some ⟨gd_0, 0, none⟩)), (1, str from_1), (2, str to_2), (3, v4), (9, .pointer (some ⟨g6, 0, none⟩)), (52, .bool (z51 || (decide (w_4.From ≥ w_4.Until))))]) (.cons rfl (.cons rfl (.cons rfl (.cons rfl (.cons rfl (.cons rfl (.nil _))))))) ?_
         refine ke_cond (t := z51 || (decide (w_4.From ≥ w_4.Until))) rfl (fun hc70 => ?_) (fun hc70 => ?_)
         ·replace hS := ite_true' hS hc70
          refine ke_seq ?_
          refine ke_region ?_
          refine sr_ev (v := .int .i64 2) (ev_assign rfl) (by decide) ?_
          refine sr_end (l' := [(10, .int .i64 2)]) (.cons rfl (.nil _)) ?_
          cases hS
          exact ke_ret1 Try.func30 rfl rfl ⟨_, rfl, leave ρA w0 o 2 ρ55, rfl, ⟨_, (hB3.mv (leave_mv (p := 0) (by decide) hb)), (h2.mv (leave_mv (p := 1) (by decide) hb) (Nat.ne_of_gt (Nat.lt_of_lt_of_le (Nat.lt_of_lt_of_le Nat.zero_lt_two ho2) (Nat.le_add_right _ _))))⟩, (leave_tr ho2 hb)⟩
         ·replace hS := ite_false' hS hc70
          refine ke_skip ?_
          refine ke_seq ?_
          refine ke_region_j (ρ := ρ55) (fun t => ([14, 57] : List Nat).contains t) 9 Try.mixed (fun w72 hw71 => ?_)
          have htr73 := Tr.of_below hw71 hb.bd
          replace h5 := h5.mv htr73.rd
          replace hB10 := hB10.mv (htr73.mv (i := 11) rfl)
          replace hB3 := hB3.mv (htr73.mv (i := 100) rfl)
          replace h2 := h2.mv (htr73.mv (i := 101) rfl) (by decide)
          replace hb := hb.trans htr73
          refine dj_H 0 (v := str from_1) (by kernel_rfl) (by kernel_rfl) rfl (fun _ _ _ h => h) (sj_refl hb.bd rfl rfl) (fun w1 ρ1 hw1 => ev_move rfl) (by decide) ?_
          refine dj_H 1 (v := str to_2) (by kernel_rfl) (by kernel_rfl) rfl (fun _ _ _ h => h) (sj_refl hb.bd rfl rfl) (fun w1 ρ1 hw1 => ev_move rfl) (by decide) ?_
          refine dj_H 3 (v := v4) (by kernel_rfl) (by kernel_rfl) rfl (fun _ _ _ h => h) (sj_refl hb.bd rfl rfl) (fun w1 ρ1 hw1 => ev_move rfl) (by decide) ?_
          refine dj_H 5 (v := .agg #[.int .i64 w_4.From, .int .i64 w_4.Until]) (by kernel_rfl) (by kernel_rfl) rfl (fun _ _ _ h => h) (sj_refl hb.bd rfl rfl) (fun w1 ρ1 hw1 => ev_loads (cs := [.int .i64 w_4.From, .int .i64 w_4.Until]) Try.isAgg33 Try.sizeOf33 rfl ((hB10.mv (hw1.mv (i := 11) rfl)).cells (vs := [.int .i64 w_4.From, .int .i64 w_4.Until]) rfl)) (by decide) ?_
          obtain ⟨hk208, hS⟩ := chk_some hS
          refine dj_all [2, 7] (by kernel_rfl) (fun i hi => ?_)
          simp only [List.mem_cons, List.not_mem_nil, or_false] at hi
          rcases hi with rfl | rfl
          ·refine ⟨_, rfl, ?_⟩
           have jt224 : Tr ρ55 w72 (fun t => ([14, 57] : List Nat).contains t) ρ55 w72 := (Tr.refl hb.bd).weak (fun _ _ => rfl) rfl rfl
           refine sr_litOwnT (i := 57) (c := strC) (ρ := ρ55) (E := 9) (xs := []) (vs := #[]) (cs := #[]) (css := []) rfl (fun _ => by kernel_rfl) rfl trivial rfl (by decide) (by decide) hb.bd (by decide) ?_
           intro v225 ρ229 w227 h226 htr228
           replace h5 := h5.mv htr228.rd
           replace hB3 := hB3.mv (htr228.mv (i := 100) rfl)
           replace h2 := h2.mv (htr228.mv (i := 101) rfl) (by decide)
           replace hb := hb.trans htr228
           replace jt224 := (jt224.trans htr228).weak (J' := (fun t => ([14, 57] : List Nat).contains t)) (by intro t h; simp [rng] at h ⊢ <;> omega) rfl rfl
           refine dj_next (l' := [(0, .pointer (some ⟨gd_0, 0, none⟩)), (1, str from_1), (2, str to_2), (53, str from_1), (54, str to_2), (55, v225), (56, v4), (58, .agg #[.int .i64 w_4.From, .int .i64 w_4.Until])]) rfl (.cons rfl (.cons rfl (.cons rfl (.cons rfl (.cons rfl (.cons rfl (.cons rfl (.cons rfl (.nil _))))))))) jt224 (by intro t h; simp [rng] at h ⊢ <;> omega) rfl rfl ?_
           refine dj_all [4, 7] (by kernel_rfl) (fun i hi => ?_)
           simp only [List.mem_cons, List.not_mem_nil, or_false] at hi
           rcases hi with rfl | rfl
           ·refine ⟨_, rfl, ?_⟩
            have jt230 : Tr ρ229 w227 (fun t => ([14, 57] : List Nat).contains t) ρ229 w227 := (Tr.refl hb.bd).weak (fun _ _ => rfl) rfl rfl
            refine sr_appendT (i := 57) (c := strC) (ρ := ρ229) (E := 9) (xs := ([] : List Str)) (ys := scopes_3) h226 ((SlT.of_sl (i := 0) h5)).x Try.underlying23 Try.info9 rfl rfl rfl (by decide) (by decide) (by decide) hb.bd hk208 rfl rfl (by decide) ?_
            intro v231 ρ233 w234 h232 htr235
            replace hB3 := hB3.mv (htr235.mv (i := 100) rfl)
            replace h2 := h2.mv (htr235.mv (i := 101) rfl) (by decide)
            replace hb := hb.trans htr235
            replace jt230 := (jt230.trans htr235).weak (J' := (fun t => ([14, 57] : List Nat).contains t)) (by intro t h; simp [rng] at h ⊢ <;> omega) rfl rfl
            refine dj_next (l' := [(0, .pointer (some ⟨gd_0, 0, none⟩)), (1, str from_1), (2, str to_2), (53, str from_1), (54, str to_2), (57, v231), (58, .agg #[.int .i64 w_4.From, .int .i64 w_4.Until])]) rfl (.cons rfl (.cons rfl (.cons rfl (.cons rfl (.cons rfl (.cons rfl (.cons rfl (.nil _)))))))) jt230 (by intro t h; simp [rng] at h ⊢ <;> omega) rfl rfl ?_
            have hbl236 : ∀ w, (Instr.build 65 #[(0, str from_1), (1, str to_2), (2, v231), (3, .agg #[.int .i64 w_4.From, .int .i64 w_4.Until])]).run Try.prog w = .ok (.agg #[str from_1, str to_2, v231, .int .i64 w_4.From, .int .i64 w_4.Until]) w := by
             obtain ⟨_, _, _, rfl⟩ := OwnT.isSl h232
             first | exact fun _ => by kernel_rfl | (intro w; simp [Instr.build, Try.zeroValue65, run_underlying Try.underlying65, Try.sizeOf9, Try.sizeOf23, Try.sizeOf33]; first | done | kernel_rfl)
            refine dj_H 6 (v := .agg #[str from_1, str to_2, v231, .int .i64 w_4.From, .int .i64 w_4.Until]) (by kernel_rfl) (by kernel_rfl) rfl (fun _ _ _ h => h) (sj_refl hb.bd rfl rfl) (fun w1 ρ1 hw1 => ev_build (vs := #[(0, str from_1), (1, str to_2), (2, v231), (3, .agg #[.int .i64 w_4.From, .int .i64 w_4.Until])]) rfl hbl236) (by decide) ?_
            refine dj_E 7 (by kernel_rfl) rfl ?_
            have jt237 : Tr ρ233 w234 (fun t => ([14, 57] : List Nat).contains t) ρ233 w234 := (Tr.refl hb.bd).weak (fun _ _ => rfl) rfl rfl
            refine sr_allocT 14 (by decide) hb.bd Try.zeroValue65 (by decide) ?_
            intro g238 ρ239 w240 hB242 htr241
            replace h232 := h232.mv (htr241.mv (i := 57) rfl) (by decide)
            replace hB3 := hB3.mv (htr241.mv (i := 100) rfl)
            replace h2 := h2.mv (htr241.mv (i := 101) rfl) (by decide)
            replace hb := hb.trans htr241
            replace jt237 := (jt237.trans htr241).weak (J' := (fun t => ([14, 57] : List Nat).contains t)) (by intro t h; simp [rng] at h ⊢ <;> omega) rfl rfl
            replace hB242 : Blk ρ239 14 w240 g238 (.cells #[str ([]), str ([]), (.slice none 0 0), .int .i64 0, .int .i64 0] 65 (0, 0)) := hB242
            refine dj_next (l' := [(0, .pointer (some ⟨gd_0, 0, none⟩)), (1, str from_1), (2, str to_2), (12, .pointer (some ⟨g238, 0, none⟩)), (59, .agg #[str from_1, str to_2, v231, .int .i64 w_4.From, .int .i64 w_4.Until])]) rfl (.cons rfl (.cons rfl (.cons rfl (.cons rfl (.cons rfl (.nil _)))))) jt237 (by intro t h; simp [rng] at h ⊢ <;> omega) rfl rfl ?_
            refine dj_E 8 (by kernel_rfl) rfl ?_
            have jt243 : Tr ρ239 w240 (fun t => ([14, 57] : List Nat).contains t) ρ239 w240 := (Tr.refl hb.bd).weak (fun _ _ => rfl) rfl rfl
            refine sr_storeT (v := .agg #[str from_1, str to_2, v231, .int .i64 w_4.From, .int .i64 w_4.Until]) (vs := [str from_1, str to_2, v231, .int .i64 w_4.From, .int .i64 w_4.Until]) (cs' := #[str from_1, str to_2, v231, .int .i64 w_4.From, .int .i64 w_4.Until]) hB242 (by decide) hb.bd rfl rfl rfl Try.sizeOf65 rfl (by first | rfl | (simp only [List.all_cons, List.all_nil, OwnT.oneCell h232]; done) | (simp only [List.all_cons, List.all_nil, OwnT.oneCell h232]; rfl)) rfl ?_
            intro w244 hB2421 htr245
            replace h232 := h232.mv (htr245.mv (i := 57) rfl) (by decide)
            replace hB3 := hB3.mv (htr245.mv (i := 100) rfl)
            replace h2 := h2.mv (htr245.mv (i := 101) rfl) (by decide)
            replace hb := hb.trans htr245
            replace jt243 := (jt243.trans htr245).weak (J' := (fun t => ([14, 57] : List Nat).contains t)) (by intro t h; simp [rng] at h ⊢ <;> omega) rfl rfl
            replace hB242 : Blk ρ239 14 w244 g238 (.cells #[str from_1, str to_2, v231, .int .i64 w_4.From, .int .i64 w_4.Until] 65 (0, 0)) := hB2421
            clear hB2421
            refine dj_next (l' := [(0, .pointer (some ⟨gd_0, 0, none⟩)), (1, str from_1), (2, str to_2), (12, .pointer (some ⟨g238, 0, none⟩))]) rfl (.cons rfl (.cons rfl (.cons rfl (.cons rfl (.nil _))))) jt243 (by intro t h; simp [rng] at h ⊢ <;> omega) rfl rfl ?_
            refine dj_done rfl (by kernel_rfl) ?_
            refine ke_weaken (l' := [(0, .pointer (some ⟨gd_0, 0, none⟩)), (1, str from_1), (2, str to_2), (12, .pointer (some ⟨g238, 0, none⟩))]) (.cons rfl (.cons rfl (.cons rfl (.cons rfl (.nil _))))) ?_
            have hK := ref35_Delegations_Allow_B1_ok hg hbd ho2 hz hS hb ⟨_, hB3, h2⟩ h232 hB242
            exact ke_weaken (l' := [(0, .pointer (some ⟨gd_0, 0, none⟩)), (1, str from_1), (2, str to_2), (12, .pointer (some ⟨g238, 0, none⟩))]) (.cons rfl (.cons rfl (.cons rfl (.cons rfl (.nil _))))) hK
           ·refine ⟨_, rfl, ?_⟩
            have jt426 : Tr ρ229 w227 (fun t => ([14, 57] : List Nat).contains t) ρ229 w227 := (Tr.refl hb.bd).weak (fun _ _ => rfl) rfl rfl
            refine sr_allocT 14 (by decide) hb.bd Try.zeroValue65 (by decide) ?_
            intro g427 ρ428 w429 hB431 htr430
            replace h5 := h5.mv htr430.rd
            replace h226 := h226.mv (htr430.mv (i := 57) rfl) (by decide)
            replace hB3 := hB3.mv (htr430.mv (i := 100) rfl)
            replace h2 := h2.mv (htr430.mv (i := 101) rfl) (by decide)
            replace hb := hb.trans htr430
            replace jt426 := (jt426.trans htr430).weak (J' := (fun t => ([14, 57] : List Nat).contains t)) (by intro t h; simp [rng] at h ⊢ <;> omega) rfl rfl
            replace hB431 : Blk ρ428 14 w429 g427 (.cells #[str ([]), str ([]), (.slice none 0 0), .int .i64 0, .int .i64 0] 65 (0, 0)) := hB431
            refine dj_next (l' := [(0, .pointer (some ⟨gd_0, 0, none⟩)), (1, str from_1), (2, str to_2), (12, .pointer (some ⟨g427, 0, none⟩)), (53, str from_1), (54, str to_2), (55, v225), (56, v4), (58, .agg #[.int .i64 w_4.From, .int .i64 w_4.Until])]) rfl (.cons rfl (.cons rfl (.cons rfl (.cons rfl (.cons rfl (.cons rfl (.cons rfl (.cons rfl (.cons rfl (.nil _)))))))))) jt426 (by intro t h; simp [rng] at h ⊢ <;> omega) rfl rfl ?_
            refine dj_E 4 (by kernel_rfl) rfl ?_
            have jt432 : Tr ρ428 w429 (fun t => ([14, 57] : List Nat).contains t) ρ428 w429 := (Tr.refl hb.bd).weak (fun _ _ => rfl) rfl rfl
            refine sr_appendT (i := 57) (c := strC) (ρ := ρ428) (E := 9) (xs := ([] : List Str)) (ys := scopes_3) h226 ((SlT.of_sl (i := 0) h5)).x Try.underlying23 Try.info9 rfl rfl rfl (by decide) (by decide) (by decide) hb.bd hk208 rfl rfl (by decide) ?_
            intro v433 ρ435 w436 h434 htr437
            replace hB431 := hB431.mv (htr437.mv (i := 14) rfl)
            replace hB3 := hB3.mv (htr437.mv (i := 100) rfl)
            replace h2 := h2.mv (htr437.mv (i := 101) rfl) (by decide)
            replace hb := hb.trans htr437
            replace jt432 := (jt432.trans htr437).weak (J' := (fun t => ([14, 57] : List Nat).contains t)) (by intro t h; simp [rng] at h ⊢ <;> omega) rfl rfl
            refine dj_next (l' := [(0, .pointer (some ⟨gd_0, 0, none⟩)), (1, str from_1), (2, str to_2), (12, .pointer (some ⟨g427, 0, none⟩)), (53, str from_1), (54, str to_2), (57, v433), (58, .agg #[.int .i64 w_4.From, .int .i64 w_4.Until])]) rfl (.cons rfl (.cons rfl (.cons rfl (.cons rfl (.cons rfl (.cons rfl (.cons rfl (.cons rfl (.nil _))))))))) jt432 (by intro t h; simp [rng] at h ⊢ <;> omega) rfl rfl ?_
            have hbl438 : ∀ w, (Instr.build 65 #[(0, str from_1), (1, str to_2), (2, v433), (3, .agg #[.int .i64 w_4.From, .int .i64 w_4.Until])]).run Try.prog w = .ok (.agg #[str from_1, str to_2, v433, .int .i64 w_4.From, .int .i64 w_4.Until]) w := by
             obtain ⟨_, _, _, rfl⟩ := OwnT.isSl h434
             first | exact fun _ => by kernel_rfl | (intro w; simp [Instr.build, Try.zeroValue65, run_underlying Try.underlying65, Try.sizeOf9, Try.sizeOf23, Try.sizeOf33]; first | done | kernel_rfl)
            refine dj_H 6 (v := .agg #[str from_1, str to_2, v433, .int .i64 w_4.From, .int .i64 w_4.Until]) (by kernel_rfl) (by kernel_rfl) rfl (fun _ _ _ h => h) (sj_refl hb.bd rfl rfl) (fun w1 ρ1 hw1 => ev_build (vs := #[(0, str from_1), (1, str to_2), (2, v433), (3, .agg #[.int .i64 w_4.From, .int .i64 w_4.Until])]) rfl hbl438) (by decide) ?_
            refine dj_E 8 (by kernel_rfl) rfl ?_
            have jt439 : Tr ρ435 w436 (fun t => ([14, 57] : List Nat).contains t) ρ435 w436 := (Tr.refl hb.bd).weak (fun _ _ => rfl) rfl rfl
            refine sr_storeT (v := .agg #[str from_1, str to_2, v433, .int .i64 w_4.From, .int .i64 w_4.Until]) (vs := [str from_1, str to_2, v433, .int .i64 w_4.From, .int .i64 w_4.Until]) (cs' := #[str from_1, str to_2, v433, .int .i64 w_4.From, .int .i64 w_4.Until]) hB431 (by decide) hb.bd rfl rfl rfl Try.sizeOf65 rfl (by first | rfl | (simp only [List.all_cons, List.all_nil, OwnT.oneCell h434]; done) | (simp only [List.all_cons, List.all_nil, OwnT.oneCell h434]; rfl)) rfl ?_
            intro w440 hB4311 htr441
            replace h434 := h434.mv (htr441.mv (i := 57) rfl) (by decide)
            replace hB3 := hB3.mv (htr441.mv (i := 100) rfl)
            replace h2 := h2.mv (htr441.mv (i := 101) rfl) (by decide)
            replace hb := hb.trans htr441
            replace jt439 := (jt439.trans htr441).weak (J' := (fun t => ([14, 57] : List Nat).contains t)) (by intro t h; simp [rng] at h ⊢ <;> omega) rfl rfl
            replace hB431 : Blk ρ435 14 w440 g427 (.cells #[str from_1, str to_2, v433, .int .i64 w_4.From, .int .i64 w_4.Until] 65 (0, 0)) := hB4311
            clear hB4311
            refine dj_next (l' := [(0, .pointer (some ⟨gd_0, 0, none⟩)), (1, str from_1), (2, str to_2), (12, .pointer (some ⟨g427, 0, none⟩))]) rfl (.cons rfl (.cons rfl (.cons rfl (.cons rfl (.nil _))))) jt439 (by intro t h; simp [rng] at h ⊢ <;> omega) rfl rfl ?_
            refine dj_done rfl (by kernel_rfl) ?_
            refine ke_weaken (l' := [(0, .pointer (some ⟨gd_0, 0, none⟩)), (1, str from_1), (2, str to_2), (12, .pointer (some ⟨g427, 0, none⟩))]) (.cons rfl (.cons rfl (.cons rfl (.cons rfl (.nil _))))) ?_
            have hK := ref35_Delegations_Allow_B1_ok hg hbd ho2 hz hS hb ⟨_, hB3, h2⟩ h434 hB431
            exact ke_weaken (l' := [(0, .pointer (some ⟨gd_0, 0, none⟩)), (1, str from_1), (2, str to_2), (12, .pointer (some ⟨g427, 0, none⟩))]) (.cons rfl (.cons rfl (.cons rfl (.cons rfl (.nil _))))) hK
          ·refine ⟨_, rfl, ?_⟩
           have jt442 : Tr ρ55 w72 (fun t => ([14, 57] : List Nat).contains t) ρ55 w72 := (Tr.refl hb.bd).weak (fun _ _ => rfl) rfl rfl
           refine sr_allocT 14 (by decide) hb.bd Try.zeroValue65 (by decide) ?_
           intro g443 ρ444 w445 hB447 htr446
           replace h5 := h5.mv htr446.rd
           replace hB3 := hB3.mv (htr446.mv (i := 100) rfl)
           replace h2 := h2.mv (htr446.mv (i := 101) rfl) (by decide)
           replace hb := hb.trans htr446
           replace jt442 := (jt442.trans htr446).weak (J' := (fun t => ([14, 57] : List Nat).contains t)) (by intro t h; simp [rng] at h ⊢ <;> omega) rfl rfl
           replace hB447 : Blk ρ444 14 w445 g443 (.cells #[str ([]), str ([]), (.slice none 0 0), .int .i64 0, .int .i64 0] 65 (0, 0)) := hB447
           refine dj_next (l' := [(0, .pointer (some ⟨gd_0, 0, none⟩)), (1, str from_1), (2, str to_2), (12, .pointer (some ⟨g443, 0, none⟩)), (53, str from_1), (54, str to_2), (56, v4), (58, .agg #[.int .i64 w_4.From, .int .i64 w_4.Until])]) rfl (.cons rfl (.cons rfl (.cons rfl (.cons rfl (.cons rfl (.cons rfl (.cons rfl (.cons rfl (.nil _))))))))) jt442 (by intro t h; simp [rng] at h ⊢ <;> omega) rfl rfl ?_
           refine dj_E 2 (by kernel_rfl) rfl ?_
           have jt448 : Tr ρ444 w445 (fun t => ([14, 57] : List Nat).contains t) ρ444 w445 := (Tr.refl hb.bd).weak (fun _ _ => rfl) rfl rfl
           refine sr_litOwnT (i := 57) (c := strC) (ρ := ρ444) (E := 9) (xs := []) (vs := #[]) (cs := #[]) (css := []) rfl (fun _ => by kernel_rfl) rfl trivial rfl (by decide) (by decide) hb.bd (by decide) ?_
           intro v449 ρ453 w451 h450 htr452
           replace h5 := h5.mv htr452.rd
           replace hB447 := hB447.mv (htr452.mv (i := 14) rfl)
           replace hB3 := hB3.mv (htr452.mv (i := 100) rfl)
           replace h2 := h2.mv (htr452.mv (i := 101) rfl) (by decide)
           replace hb := hb.trans htr452
           replace jt448 := (jt448.trans htr452).weak (J' := (fun t => ([14, 57] : List Nat).contains t)) (by intro t h; simp [rng] at h ⊢ <;> omega) rfl rfl
           refine dj_next (l' := [(0, .pointer (some ⟨gd_0, 0, none⟩)), (1, str from_1), (2, str to_2), (12, .pointer (some ⟨g443, 0, none⟩)), (53, str from_1), (54, str to_2), (55, v449), (56, v4), (58, .agg #[.int .i64 w_4.From, .int .i64 w_4.Until])]) rfl (.cons rfl (.cons rfl (.cons rfl (.cons rfl (.cons rfl (.cons rfl (.cons rfl (.cons rfl (.cons rfl (.nil _)))))))))) jt448 (by intro t h; simp [rng] at h ⊢ <;> omega) rfl rfl ?_
           refine dj_E 4 (by kernel_rfl) rfl ?_
           have jt454 : Tr ρ453 w451 (fun t => ([14, 57] : List Nat).contains t) ρ453 w451 := (Tr.refl hb.bd).weak (fun _ _ => rfl) rfl rfl
           refine sr_appendT (i := 57) (c := strC) (ρ := ρ453) (E := 9) (xs := ([] : List Str)) (ys := scopes_3) h450 ((SlT.of_sl (i := 0) h5)).x Try.underlying23 Try.info9 rfl rfl rfl (by decide) (by decide) (by decide) hb.bd hk208 rfl rfl (by decide) ?_
           intro v455 ρ457 w458 h456 htr459
           replace hB447 := hB447.mv (htr459.mv (i := 14) rfl)
           replace hB3 := hB3.mv (htr459.mv (i := 100) rfl)
           replace h2 := h2.mv (htr459.mv (i := 101) rfl) (by decide)
           replace hb := hb.trans htr459
           replace jt454 := (jt454.trans htr459).weak (J' := (fun t => ([14, 57] : List Nat).contains t)) (by intro t h; simp [rng] at h ⊢ <;> omega) rfl rfl
           refine dj_next (l' := [(0, .pointer (some ⟨gd_0, 0, none⟩)), (1, str from_1), (2, str to_2), (12, .pointer (some ⟨g443, 0, none⟩)), (53, str from_1), (54, str to_2), (57, v455), (58, .agg #[.int .i64 w_4.From, .int .i64 w_4.Until])]) rfl (.cons rfl (.cons rfl (.cons rfl (.cons rfl (.cons rfl (.cons rfl (.cons rfl (.cons rfl (.nil _))))))))) jt454 (by intro t h; simp [rng] at h ⊢ <;> omega) rfl rfl ?_
           have hbl460 : ∀ w, (Instr.build 65 #[(0, str from_1), (1, str to_2), (2, v455), (3, .agg #[.int .i64 w_4.From, .int .i64 w_4.Until])]).run Try.prog w = .ok (.agg #[str from_1, str to_2, v455, .int .i64 w_4.From, .int .i64 w_4.Until]) w := by
            obtain ⟨_, _, _, rfl⟩ := OwnT.isSl h456
            first | exact fun _ => by kernel_rfl | (intro w; simp [Instr.build, Try.zeroValue65, run_underlying Try.underlying65, Try.sizeOf9, Try.sizeOf23, Try.sizeOf33]; first | done | kernel_rfl)
           refine dj_H 6 (v := .agg #[str from_1, str to_2, v455, .int .i64 w_4.From, .int .i64 w_4.Until]) (by kernel_rfl) (by kernel_rfl) rfl (fun _ _ _ h => h) (sj_refl hb.bd rfl rfl) (fun w1 ρ1 hw1 => ev_build (vs := #[(0, str from_1), (1, str to_2), (2, v455), (3, .agg #[.int .i64 w_4.From, .int .i64 w_4.Until])]) rfl hbl460) (by decide) ?_
           refine dj_E 8 (by kernel_rfl) rfl ?_
           have jt461 : Tr ρ457 w458 (fun t => ([14, 57] : List Nat).contains t) ρ457 w458 := (Tr.refl hb.bd).weak (fun _ _ => rfl) rfl rfl
           refine sr_storeT (v := .agg #[str from_1, str to_2, v455, .int .i64 w_4.From, .int .i64 w_4.Until]) (vs := [str from_1, str to_2, v455, .int .i64 w_4.From, .int .i64 w_4.Until]) (cs' := #[str from_1, str to_2, v455, .int .i64 w_4.From, .int .i64 w_4.Until]) hB447 (by decide) hb.bd rfl rfl rfl Try.sizeOf65 rfl (by first | rfl | (simp only [List.all_cons, List.all_nil, OwnT.oneCell h456]; done) | (simp only [List.all_cons, List.all_nil, OwnT.oneCell h456]; rfl)) rfl ?_
           intro w462 hB4471 htr463
           replace h456 := h456.mv (htr463.mv (i := 57) rfl) (by decide)
           replace hB3 := hB3.mv (htr463.mv (i := 100) rfl)
           replace h2 := h2.mv (htr463.mv (i := 101) rfl) (by decide)
           replace hb := hb.trans htr463
           replace jt461 := (jt461.trans htr463).weak (J' := (fun t => ([14, 57] : List Nat).contains t)) (by intro t h; simp [rng] at h ⊢ <;> omega) rfl rfl
           replace hB447 : Blk ρ457 14 w462 g443 (.cells #[str from_1, str to_2, v455, .int .i64 w_4.From, .int .i64 w_4.Until] 65 (0, 0)) := hB4471
           clear hB4471
           refine dj_next (l' := [(0, .pointer (some ⟨gd_0, 0, none⟩)), (1, str from_1), (2, str to_2), (12, .pointer (some ⟨g443, 0, none⟩))]) rfl (.cons rfl (.cons rfl (.cons rfl (.cons rfl (.nil _))))) jt461 (by intro t h; simp [rng] at h ⊢ <;> omega) rfl rfl ?_
           refine dj_done rfl (by kernel_rfl) ?_
           refine ke_weaken (l' := [(0, .pointer (some ⟨gd_0, 0, none⟩)), (1, str from_1), (2, str to_2), (12, .pointer (some ⟨g443, 0, none⟩))]) (.cons rfl (.cons rfl (.cons rfl (.cons rfl (.nil _))))) ?_
           have hK := ref35_Delegations_Allow_B1_ok hg hbd ho2 hz hS hb ⟨_, hB3, h2⟩ h456 hB447
           exact ke_weaken (l' := [(0, .pointer (some ⟨gd_0, 0, none⟩)), (1, str from_1), (2, str to_2), (12, .pointer (some ⟨g443, 0, none⟩))]) (.cons rfl (.cons rfl (.cons rfl (.cons rfl (.nil _))))) hK
        ·intro K63
         rcases Bool.eq_false_or_eq_true z51 with hg62 | hg62
         all_goals try have hj65 : Tr ρ55 w54 (fun _ => false) ρ55 w54 := Tr.refl hb.bd
         ·refine sr_pass (e := 46) rfl rfl (by rw [hg62]; rfl) (by decide) ?_
          refine sr_pass (e := 46) rfl rfl (by rw [hg62]; rfl) (by decide) ?_
          refine sr_pass (e := 46) rfl rfl (by rw [hg62]; rfl) (by decide) ?_
          refine sr_pass (e := 46) rfl rfl (by rw [hg62]; rfl) (by decide) ?_
          refine sr_pass (e := 46) rfl rfl (by rw [hg62]; rfl) (by decide) ?_
          refine sr_ev (v := .bool true) (ev_pick_t rfl hg62 rfl) (by decide) ?_
          exact sr_weaken (l' := [(0, .pointer (some ⟨gd_0, 0, none⟩)), (1, str from_1), (2, str to_2), (3, v4), (9, .pointer (some ⟨g6, 0, none⟩)), (52, .bool true)]) (.cons rfl (.cons rfl (.cons rfl (.cons rfl (.cons rfl (.cons rfl (.nil _))))))) (K63 true _ ⟨by rw [hg62]; rfl, rfl⟩)
         ·refine sr_evg (b := false) (e := 46) rfl rfl hg62 (v := .pointer (some ⟨g6, 0, none⟩)) (ev_fieldAddr (i := 0) Try.underlying33 rfl Try.info3 rfl rfl) (by decide) ?_
          refine sr_evg (b := false) (e := 46) rfl rfl hg62 (v := .int .i64 w_4.From) (ev_load Try.isAgg3 rfl (hB10.cell rfl)) (by decide) ?_
          refine sr_evg (b := false) (e := 46) rfl rfl hg62 (v := .pointer (some ⟨g6, 1, none⟩)) (ev_fieldAddr (i := 1) Try.underlying33 rfl Try.info3 rfl rfl) (by decide) ?_
          refine sr_evg (b := false) (e := 46) rfl rfl hg62 (v := .int .i64 w_4.Until) (ev_load Try.isAgg3 rfl (hB10.cell rfl)) (by decide) ?_
          refine sr_evg (b := false) (e := 46) rfl rfl hg62 (v := .bool (decide (w_4.From ≥ w_4.Until))) (ev_ge rfl rfl) (by decide) ?_
          refine sr_ev (v := .bool (decide (w_4.From ≥ w_4.Until))) (ev_pick_f rfl hg62 rfl) (by decide) ?_
          exact sr_weaken (l' := [(0, .pointer (some ⟨gd_0, 0, none⟩)), (1, str from_1), (2, str to_2), (3, v4), (9, .pointer (some ⟨g6, 0, none⟩)), (52, .bool (decide (w_4.From ≥ w_4.Until)))]) (.cons rfl (.cons rfl (.cons rfl (.cons rfl (.cons rfl (.cons rfl (.nil _))))))) (K63 (decide (w_4.From ≥ w_4.Until)) _ ⟨by rw [hg62]; rfl, rfl⟩)
       ·intro K50
        clear hS
        have hj52 : Tr ρ28 w46 (fun _ => false) ρ28 w46 := (Tr.refl hb.bd).weak (fun _ _ => rfl) rfl rfl
        rcases Bool.eq_false_or_eq_true (!y44) with hg49 | hg49
        ·have hS := ite_true' hz53 hg49
         refine sr_pass (e := 40) rfl rfl (by rw [hg49]; rfl) (by decide) ?_
         refine sr_pass (e := 40) rfl rfl (by rw [hg49]; rfl) (by decide) ?_
         refine sr_pass (e := 40) rfl rfl (by rw [hg49]; rfl) (by decide) ?_
         refine sr_pass (e := 40) rfl rfl (by rw [hg49]; rfl) (by decide) ?_
         refine sr_ev (v := .bool true) (ev_pick_t rfl hg49 rfl) (by decide) ?_
         exact sr_weaken (l' := [(0, .pointer (some ⟨gd_0, 0, none⟩)), (1, str from_1), (2, str to_2), (3, v4), (9, .pointer (some ⟨g6, 0, none⟩)), (45, .bool true)]) (.cons rfl (.cons rfl (.cons rfl (.cons rfl (.cons rfl (.cons rfl (.nil _))))))) (K50 true _ ⟨(Option.some.inj hS).symm, _, hj52⟩)
        ·have hS := ite_false' hz53 hg49
         refine sr_evg (b := false) (e := 40) rfl rfl hg49 (v := .pointer (some ⟨g6, 1, none⟩)) (ev_fieldAddr (i := 1) Try.underlying33 rfl Try.info3 rfl rfl) (by decide) ?_
         refine sr_evg (b := false) (e := 40) rfl rfl hg49 (v := .int .i64 w_4.Until) (ev_load Try.isAgg3 rfl (hB10.cell rfl)) (by decide) ?_
         obtain ⟨y57, hy58, hS⟩ := bind_some' hS
         refine sr_callg (b := false) (e := 40) rfl rfl hg49 (vs := [.int .i64 w_4.Until]) rfl Try.call54 rfl (ref04_Valid_ok _ (hg.fr hz hb) hy58) (by decide) ?_
         rintro _ w59 ⟨rfl, hbw60⟩
         have htr61 := Tr.of_below hbw60 hb.bd
         replace h5 := h5.mv htr61.rd
         replace hB10 := hB10.mv (htr61.mv (i := 11) rfl)
         replace hB3 := hB3.mv (htr61.mv (i := 100) rfl)
         replace h2 := h2.mv (htr61.mv (i := 101) rfl) (by decide)
         replace hb := hb.trans htr61
         replace hj52 := (hj52.trans htr61).weak (J' := (fun _ => false)) (by intro t h; simp [rng] at h ⊢ <;> omega) rfl rfl
         refine sr_evg (b := false) (e := 40) rfl rfl hg49 (v := .bool (!y57)) (ev_not rfl) (by decide) ?_
         refine sr_ev (v := .bool (!y57)) (ev_pick_f rfl hg49 rfl) (by decide) ?_
         exact sr_weaken (l' := [(0, .pointer (some ⟨gd_0, 0, none⟩)), (1, str from_1), (2, str to_2), (3, v4), (9, .pointer (some ⟨g6, 0, none⟩)), (45, .bool (!y57))]) (.cons rfl (.cons rfl (.cons rfl (.cons rfl (.cons rfl (.cons rfl (.nil _))))))) (K50 (!y57) _ ⟨(Option.some.inj hS).symm, _, hj52⟩)
  ·intro K23
   clear hS
   have hj25 : Tr ρ7 w19 (fun _ => false) ρ7 w19 := (Tr.refl hb.bd).weak (fun _ _ => rfl) rfl rfl
   rcases Bool.eq_false_or_eq_true (!y17) with hg22 | hg22
   ·have hS := ite_true' hz26 hg22
    refine sr_pass (e := 20) rfl rfl (by rw [hg22]; rfl) (by decide) ?_
    refine sr_pass (e := 20) rfl rfl (by rw [hg22]; rfl) (by decide) ?_
    refine sr_pass (e := 20) rfl rfl (by rw [hg22]; rfl) (by decide) ?_
    refine sr_ev (v := .bool true) (ev_pick_t rfl hg22 rfl) (by decide) ?_
    exact sr_weaken (l' := [(0, .pointer (some ⟨gd_0, 0, none⟩)), (1, str from_1), (2, str to_2), (3, v4), (9, .pointer (some ⟨g6, 0, none⟩)), (24, .bool true)]) (.cons rfl (.cons rfl (.cons rfl (.cons rfl (.cons rfl (.cons rfl (.nil _))))))) (K23 true _ ⟨(Option.some.inj hS).symm, _, hj25⟩)
   ·have hS := ite_false' hz26 hg22
    refine sr_evg (b := false) (e := 20) rfl rfl hg22 (v := str to_2) (ev_move rfl) (by decide) ?_
    obtain ⟨y30, hy31, hS⟩ := bind_some' hS
    refine sr_callg (b := false) (e := 20) rfl rfl hg22 (vs := [str to_2]) rfl Try.call52 rfl (ref01_Word_ok _ (hg.fr hz hb) hy31) (by decide) ?_
    rintro _ w32 ⟨rfl, hbw33⟩
    have htr34 := Tr.of_below hbw33 hb.bd
    replace h5 := h5.mv htr34.rd
    replace hB10 := hB10.mv (htr34.mv (i := 11) rfl)
    replace hB3 := hB3.mv (htr34.mv (i := 100) rfl)
    replace h2 := h2.mv (htr34.mv (i := 101) rfl) (by decide)
    replace hb := hb.trans htr34
    replace hj25 := (hj25.trans htr34).weak (J' := (fun _ => false)) (by intro t h; simp [rng] at h ⊢ <;> omega) rfl rfl
    refine sr_evg (b := false) (e := 20) rfl rfl hg22 (v := .bool (!y30)) (ev_not rfl) (by decide) ?_
    refine sr_ev (v := .bool (!y30)) (ev_pick_f rfl hg22 rfl) (by decide) ?_
    exact sr_weaken (l' := [(0, .pointer (some ⟨gd_0, 0, none⟩)), (1, str from_1), (2, str to_2), (3, v4), (9, .pointer (some ⟨g6, 0, none⟩)), (24, .bool (!y30))]) (.cons rfl (.cons rfl (.cons rfl (.cons rfl (.cons rfl (.cons rfl (.nil _))))))) (K23 (!y30) _ ⟨(Option.some.inj hS).symm, _, hj25⟩)
theorem ref35_Delegations_Revoke_B1_ok {w0 : World} (hg : Gs w0) {ρA : Tags} (hbd : ∀ b, ρA b ≠ 0 → b < w0.heap.size) {o : Nat} (ho2 : 2 ≤ o) {gd_0 : Nat} (hz : Gz (enter ρA o 2)) {r : Bool × ref35_Delegations} {gd_0_0 : Bool} {gd_0_1 : List ref35_one} {vgd_0_1 : Value} (hS : ref35_Delegations_Revoke_B1 gd_0_0 gd_0_1 = some r) {ρ : Tags} {w : World} (hb : Fr (enter ρA o 2) w0 ρ w) (hgd_0_1 : OwnT ref35_one.c 65 ρ 20 w vgd_0_1 gd_0_1) (hBgd_0 : Blk ρ 100 w gd_0 (.cells #[.bool gd_0_0, vgd_0_1] 57 (0, 0))) :
  KE Try.prog 31 (Ret (fun v w' => ∃ ρ', v = .bool r.1 ∧ ref35_Delegations.O (fun p => o + p) ρ' w' gd_0 r.2 ∧ Tr ρA w0 (rng o 2) ρ' w')) 36 [.code (sub (bodyOf Try.f31) [2, 2, 2, 2, 2])] [] w := by
 unfold ref35_Delegations_Revoke_B1 at hS
 refine ke_seq ?_
 refine ke_region ?_
 refine sr_ev (v := .bool true) (ev_assign rfl) (by decide) ?_
 refine sr_end (l' := [(6, .bool true)]) (.cons rfl (.nil _)) ?_
 have htr339 := rtg_tr (ρ := ρ) (w := w) (i := 20) 101 (by decide) hb.bd
 have hmv340 : Mv ρ w 20 (rtg ρ 20 101) w 101 := rtg_mv (by decide)
 replace hBgd_0 := hBgd_0.mv (htr339.mv (i := 100) rfl)
 replace hb := hb.trans htr339
 replace hgd_0_1 := hgd_0_1.mv hmv340 (by decide)
 cases hS
 exact ke_ret1 Try.func31 rfl rfl ⟨_, rfl, leave ρA w0 o 2 (rtg ρ 20 101), rfl, ⟨_, (hBgd_0.mv (leave_mv (p := 0) (by decide) hb)), (hgd_0_1.mv (leave_mv (p := 1) (by decide) hb) (Nat.ne_of_gt (Nat.lt_of_lt_of_le (Nat.lt_of_lt_of_le Nat.zero_lt_two ho2) (Nat.le_add_right _ _))))⟩, (leave_tr ho2 hb)⟩

end Ytibmfjehbmdbkaa
end Go.Proofs
