/- Own work: a part of the proofs of this seat. -/
import Derived.Test.YtibmfjehbmdbkaaProg
import Derived.Test.YtibmfjehbmdbkaaShelf
import Derived.Test.YtibmfjehbmdbkaaIter
import Derived.Test.YtibmfjehbmdbkaaKwHS
import Derived.KernelRfl
import Derived.Test.YtibmfjehbmdbkaaKwHDelegateChainsW1
set_option linter.unusedVariables false
set_option linter.unusedSimpArgs false
set_option linter.unusedSectionVars false
set_option maxHeartbeats 8000000
set_option maxRecDepth 8000
namespace Go.Proofs
namespace Ytibmfjehbmdbkaa
open Go Go.KW Go.KW.S Go.RowKit
theorem delegate_Delegations_Scopes_ok (w0 : World) (hg : Gs w0) {ρA : Tags} (hbd : ∀ b, ρA b ≠ 0 → b < w0.heap.size) (hz : Gz ρA) {τ0 : Nat → Nat} (hτ0 : ∀ p, 1 ≤ τ0 p) {d_0 : delegate_Delegations} {from_1 : Str} {to_2 : Str} {now_3 : Int} {gd_0 : Nat} {r : List Str} (ho0 : delegate_Delegations.O τ0 ρA w0 gd_0 d_0) (hS : delegate_Delegations_Scopes d_0 from_1 to_2 now_3 = some r) :
  Calls Try.prog 16 #[.pointer (some ⟨gd_0, 0, none⟩), str from_1, str to_2, .int .i64 now_3] w0 (Ret (fun v w' => ∃ x1, v = x1 ∧ SlR strC (Wb ρA) w' x1 r ∧ Below w0.heap.size w0 w')) := by
 unfold delegate_Delegations_Scopes at hS
 have hb := flat1_fr (ρ := ρA) (w := w0) hbd
 have hz := hz.flat1
 obtain ⟨v1, hB3, h2⟩ := ho0
 replace hB3 := hB3.mv (flat1_mv (hτ0 0))
 replace h2 := h2.mv (flat1_mv (hτ0 1))
 replace hB3 : Blk (flat1 ρA) 1 w0 gd_0 (.cells #[v1] 54 (0, 0)) := hB3
 replace h2 : MapT delegate_way.ek delegate_delegation.c true (flat1 ρA) 1 w0 v1 d_0.ways := h2
 refine calls_of_ke Try.func16 rfl (n := 25) rfl rfl (l := [(0, .pointer (some ⟨gd_0, 0, none⟩)), (1, str from_1), (2, str to_2), (3, .int .i64 now_3)]) rfl ?_
 refine ke_seq ?_
 refine ke_region ?_
 refine sr_ev (v := .slice none 0 0) (ev_assign rfl) (by decide) ?_
 refine sr_end (l' := [(0, .pointer (some ⟨gd_0, 0, none⟩)), (1, str from_1), (2, str to_2), (3, .int .i64 now_3)]) (.cons rfl (.cons rfl (.cons rfl (.cons rfl (.nil _))))) ?_
 refine ke_seq ?_
 refine ke_seq ?_
 refine ke_region ?_
 refine sr_ev (v := .pointer (some ⟨gd_0, 0, none⟩)) (ev_move rfl) (by decide) ?_
 refine sr_ev (v := str from_1) (ev_move rfl) (by decide) ?_
 refine sr_ev (v := str to_2) (ev_move rfl) (by decide) ?_
 refine sr_ev (v := .int .i64 now_3) (ev_move rfl) (by decide) ?_
 obtain ⟨y6, hy7, hS⟩ := bind_some' hS
 refine sr_call (vs := [.pointer (some ⟨gd_0, 0, none⟩), str from_1, str to_2, (.slice none 0 0), .int .i64 now_3]) rfl Try.call26 rfl (delegate_Delegations_May_ok _ (hg.fr hz hb) (ρA := (flat1 ρA)) hb.bd (hz.fr hg hb) (τ0 := (fun _ => 1)) (fun _ => Nat.le_refl 1) (SlR.nil (A := Wb (flat1 ρA))) (⟨_, hB3, h2⟩ : delegate_Delegations.O (fun _ => 1) (flat1 ρA) w0 gd_0 d_0) hy7) (by decide) ?_
 rintro _ w8 ⟨rfl, hbw9⟩
 have htr10 := Tr.of_below hbw9 hb.bd
 replace hB3 := hB3.mv (htr10.mv (i := 1) rfl)
 replace h2 := h2.mv (htr10.mv (i := 1) rfl)
 replace hb := hb.trans htr10
 refine sr_ev (v := .bool (y6 != 0)) (ev_ne rfl rfl) (by decide) ?_
 refine sr_end (l' := [(0, .pointer (some ⟨gd_0, 0, none⟩)), (1, str from_1), (2, str to_2), (14, .bool (y6 != 0))]) (.cons rfl (.cons rfl (.cons rfl (.cons rfl (.nil _))))) ?_
 refine ke_cond (t := y6 != 0) rfl (fun hc11 => ?_) (fun hc11 => ?_)
 ·replace hS := ite_true' hS hc11
  refine ke_seq ?_
  refine ke_region ?_
  refine sr_ev (v := .slice none 0 0) (ev_assign rfl) (by decide) ?_
  refine sr_end (l' := [(8, .slice none 0 0)]) (.cons rfl (.nil _)) ?_
  cases hS
  exact ke_ret1 Try.func16 rfl rfl ⟨_, rfl, _, rfl, SlR.nil, (hb.below (flat1_le _))⟩
 ·replace hS := ite_false' hS hc11
  refine ke_skip ?_
  refine ke_seq ?_
  refine ke_region ?_
  refine sr_ev (v := .pointer (some ⟨gd_0, 0, none⟩)) (ev_move rfl) (by decide) ?_
  refine sr_ev (v := .pointer (some ⟨gd_0, 0, none⟩)) (ev_nilCheck rfl) (by decide) ?_
  refine sr_ev (v := .pointer (some ⟨gd_0, 0, none⟩)) (ev_fieldAddr (i := 0) Try.underlying54 rfl Try.info52 rfl rfl) (by decide) ?_
  refine sr_ev (v := v1) (ev_load Try.isAgg52 rfl (hB3.cell rfl)) (by decide) ?_
  refine sr_ev (v := str from_1) (ev_move rfl) (by decide) ?_
  refine sr_ev (v := str to_2) (ev_move rfl) (by decide) ?_
  refine sr_ev (v := .agg #[str from_1, str to_2]) (ev_build (vs := #[(0, str from_1), (1, str to_2)]) rfl (fun _ => by kernel_rfl)) (by decide) ?_
  obtain ⟨y16, hy17, hS⟩ := bind_some' hS
  replace hy17 := Option.some.inj hy17
  obtain ⟨cs12, hrd13, hl14, hl15⟩ := h2.look (zcs := [(.slice none 0 0), .int .i64 0, .int .i64 0]) (z := (delegate_delegation.mk ([] : List Str) (api_Window.mk 0 0))) Try.keyB63 Try.underlying52 Try.zeroValue61 ⟨_, rfl, SlR.nil⟩ (delegate_way.mk from_1 to_2)
  rw [hy17] at hrd13
  obtain ⟨v18, hcshrd13, h19⟩ := hrd13
  obtain rfl : cs12 = [v18, .int .i64 y16.window.From, .int .i64 y16.window.Until] := hcshrd13
  refine sr_ev (v := .agg #[v18, .int .i64 y16.window.From, .int .i64 y16.window.Until]) (hl14 w8 _ _ (Mv.of_below (i := 1) (ρ := (flat1 ρA)) (Below.refl _ _)) rfl rfl) (by decide) ?_
  refine sr_ev (v := v18) (ev_field rfl (fun _ => by kernel_rfl)) (by decide) ?_
  obtain ⟨y20, hy21, hS⟩ := bind_some' hS
  refine sr_call (vs := [v18]) rfl Try.call34 rfl (scope_Sorted_ok (A0 := Wb (flat1 ρA)) _ (hg.fr hz hb) h19 hb.bd hy21) (by decide) ?_
  rintro v25 w22 ⟨_, rfl, h26, hbw23⟩
  have htr24 := Tr.of_below hbw23 hb.bd
  replace hb := hb.trans htr24
  refine sr_ev (v := v25) (ev_assign rfl) (by decide) ?_
  refine sr_end (l' := [(8, v25)]) (.cons rfl (.nil _)) ?_
  cases hS
  exact ke_ret1 Try.func16 rfl rfl ⟨_, rfl, _, rfl, (SlR.mv h26 (flat1_back hb hbd)), (hb.below (flat1_le _))⟩
theorem ref03_Same_L1_ok {w0 : World} (hg : Gs w0) {A0 : Nat → Prop} (hA0 : ∀ b, A0 b → b < w0.heap.size) : ∀ (n : Nat), ∀ {r : Bool} {a_0 : List Str} {b_1 : List Str} {i_5 : Int} {va_0 : Value} {vb_1 : Value}, ref03_Same_L1 n a_0 b_1 i_5 = some r → ∀ {w : World} {A : Nat → Prop}, (Below w0.heap.size w0 w) → (∀ b, A b → b < w.heap.size) → (∀ b, A0 b → A b) → (Hp A w0.heap.size w []) → (SlR strC A w va_0 a_0) → (SlR strC A w vb_1 b_1) → KE Try.prog 15 (Ret (fun v w' => v = .bool r ∧ Below w0.heap.size w0 w')) 26 [.code (sub (bodyOf Try.f15) [2, 2, 1, 2, 2, 1]), .inLoop (sub (bodyOf Try.f15) [2, 2, 1, 2, 2, 1]), .inBlock 0, .code (sub (bodyOf Try.f15) [2, 2, 2])] [(0, va_0), (1, vb_1), (5, .int .i64 i_5)] w := by
 intro n
 induction n with
 | zero => intro r a_0 b_1 i_5 va_0 vb_1 hS; cases hS
 | succ n ih =>
  have hr0 : ∀ {r : Bool} {a_0 : List Str} {b_1 : List Str} {i_5 : Int} {va_0 : Value} {vb_1 : Value}, ref03_Same_L1 n a_0 b_1 i_5 = some r → ∀ {w : World} {A : Nat → Prop}, (Below w0.heap.size w0 w) → (∀ b, A b → b < w.heap.size) → (∀ b, A0 b → A b) → (Hp A w0.heap.size w []) → (SlR strC A w va_0 a_0) → (SlR strC A w vb_1 b_1) → KE Try.prog 15 (Ret (fun v w' => v = .bool r ∧ Below w0.heap.size w0 w')) 26 [.inLoop (sub (bodyOf Try.f15) [2, 2, 1, 2, 2, 1]), .inBlock 0, .code (sub (bodyOf Try.f15) [2, 2, 2])] [(0, va_0), (1, vb_1), (5, .int .i64 i_5)] w := fun {r} {a_0} {b_1} {i_5} {va_0} {vb_1} hS {w} {A} hb hA hi hH ha_0 hb_1 => ke_inLoop (ih hS hb hA hi hH ha_0 hb_1)
  clear ih
  intro r a_0 b_1 i_5 va_0 vb_1 hS w A hb hA hi hH ha_0 hb_1
  unfold ref03_Same_L1 at hS
  refine ke_seq ?_
  refine ke_seq ?_
  refine ke_region ?_
  refine sr_ev (v := .int .i64 i_5) (ev_move rfl) (by decide) ?_
  refine sr_ev (v := va_0) (ev_move rfl) (by decide) ?_
  refine sr_ev (v := .int .i64 (a_0.length : Int)) (ev_sllen Try.underlying23 rfl ha_0) (by decide) ?_
  refine sr_ev (v := .bool (decide (i_5 < (a_0.length : Int)))) (ev_lt rfl rfl) (by decide) ?_
  refine sr_end (l' := [(0, va_0), (1, vb_1), (5, .int .i64 i_5), (14, .bool (decide (i_5 < (a_0.length : Int))))]) (.cons rfl (.cons rfl (.cons rfl (.cons rfl (.nil _))))) ?_
  refine ke_cond (t := decide (i_5 < (a_0.length : Int))) rfl (fun hc6 => ?_) (fun hc6 => ?_)
  ·replace hS := ite_true' hS hc6
   refine ke_skip ?_
   refine ke_seq ?_
   refine ke_block ?_
   refine ke_seq ?_
   refine ke_region_q Try.mixed (by kernel_rfl) ?_
   refine sq_ev (v := va_0) (fun w1 hw1 => ev_move rfl) (by decide) ?_
   refine sq_ev (v := .int .i64 i_5) (fun w1 hw1 => ev_move rfl) (by decide) ?_
   obtain ⟨y9, hy10, hS⟩ := bind_some' hS
   obtain ⟨b11, o12, cs14, he13, hixhe13⟩ := ha_0.elem Try.underlying23 Try.info9 rfl (P := Try.prog) hy10
   obtain rfl : cs14 = [str y9] := he13.rd
   refine sq_ev (v := .pointer (some ⟨b11, o12, none⟩)) (fun w1 hw1 => hixhe13 w1 hw1 rfl rfl) (by decide) ?_
   refine sq_ev (v := str y9) (fun w1 hw1 => ev_load Try.isAgg9 rfl ((he13.step (.of_below hw1) (Nat.succ_pos _)).cell 0 _ rfl)) (by decide) ?_
   refine sq_ev (v := vb_1) (fun w1 hw1 => ev_move rfl) (by decide) ?_
   refine sq_ev (v := .int .i64 i_5) (fun w1 hw1 => ev_move rfl) (by decide) ?_
   obtain ⟨y15, hy16, hS⟩ := bind_some' hS
   obtain ⟨b17, o18, cs20, he19, hixhe19⟩ := hb_1.elem Try.underlying23 Try.info9 rfl (P := Try.prog) hy16
   obtain rfl : cs20 = [str y15] := he19.rd
   refine sq_ev (v := .pointer (some ⟨b17, o18, none⟩)) (fun w1 hw1 => hixhe19 w1 hw1 rfl rfl) (by decide) ?_
   refine sq_ev (v := str y15) (fun w1 hw1 => ev_load Try.isAgg9 rfl ((he19.step (.of_below hw1) (Nat.succ_pos _)).cell 0 _ rfl)) (by decide) ?_
   refine sq_ev (v := .bool (!(y9 == y15))) (fun w1 hw1 => ev_sne rfl rfl) (by decide) ?_
   refine sq_end (l' := [(0, va_0), (1, vb_1), (5, .int .i64 i_5), (25, .bool (!(y9 == y15)))]) (.cons rfl (.cons rfl (.cons rfl (.cons rfl (.nil _))))) (fun w8 hw7 => ?_)
   replace hb := hb.trans (hw7.mono hb.size)
   replace hA := lt_mono hA hw7.size
   replace hH := hH.below hw7
   replace ha_0 := ha_0.below hw7
   replace hb_1 := hb_1.below hw7
   refine ke_cond (t := !(y9 == y15)) rfl (fun hc21 => ?_) (fun hc21 => ?_)
   ·replace hS := ite_true' hS hc21
    refine ke_seq ?_
    refine ke_region ?_
    refine sr_ev (v := .bool false) (ev_assign rfl) (by decide) ?_
    refine sr_end (l' := [(4, .bool false)]) (.cons rfl (.nil _)) ?_
    cases hS
    exact ke_ret1 Try.func15 rfl rfl ⟨_, rfl, rfl, hb⟩
   ·replace hS := ite_false' hS hc21
    refine ke_skip ?_
    refine ke_inBlock ?_
    refine ke_region ?_
    refine sr_ev (v := .int .i64 i_5) (ev_move rfl) (by decide) ?_
    refine sr_ev (v := .int .i64 (IntKind.i64.wrap (i_5 + 1))) (ev_add rfl rfl) (by decide) ?_
    refine sr_ev (v := .int .i64 (IntKind.i64.wrap (i_5 + 1))) (ev_assign rfl) (by decide) ?_
    refine sr_end (l' := [(0, va_0), (1, vb_1), (5, .int .i64 (IntKind.i64.wrap (i_5 + 1)))]) (.cons rfl (.cons rfl (.cons rfl (.nil _)))) ?_
    have hK := hr0 hS hb hA hi hH ha_0 hb_1
    exact ke_weaken (l' := [(0, va_0), (1, vb_1), (5, .int .i64 (IntKind.i64.wrap (i_5 + 1)))]) (.cons rfl (.cons rfl (.cons rfl (.nil _)))) hK
  ·replace hS := ite_false' hS hc6
   refine ke_exit (k' := _) rfl ?_
   refine ke_seq ?_
   refine ke_region ?_
   refine sr_ev (v := .bool true) (ev_assign rfl) (by decide) ?_
   refine sr_end (l' := [(4, .bool true)]) (.cons rfl (.nil _)) ?_
   cases hS
   exact ke_ret1 Try.func15 rfl rfl ⟨_, rfl, rfl, hb⟩
theorem ref03_Same_ok {A0 : Nat → Prop} (w0 : World) (hg : Gs w0) {a_0 : List Str} {b_1 : List Str} {v1 : Value} {v3 : Value} {r : Bool} (h2 : SlR strC A0 w0 v1 a_0) (h4 : SlR strC A0 w0 v3 b_1) (hS : ref03_Same a_0 b_1 = some r) :
  Calls Try.prog 15 #[v1, v3] w0 (Ret (fun v w' => v = .bool r ∧ Below w0.heap.size w0 w')) := by
 unfold ref03_Same at hS
 have hb := Below.refl w0.heap.size w0
 replace h2 := h2.weak (A' := fun _ => False) (fun _ h => h.elim)
 replace h4 := h4.weak (A' := fun _ => False) (fun _ h => h.elim)
 obtain ⟨A0, hA0, hAe⟩ : ∃ A0 : Nat → Prop, (∀ b, A0 b → b < w0.heap.size) ∧ A0 = fun _ => False := ⟨_, fun _ h => h.elim, rfl⟩
 rw [← hAe] at h2
 rw [← hAe] at h4
 clear hAe
 have hA := hA0
 have hi : ∀ b, A0 b → A0 b := fun _ h => h
 have hH := Hp.nil A0 w0.heap.size w0
 refine calls_of_ke Try.func15 rfl (n := 26) rfl rfl (l := [(0, v1), (1, v3)]) rfl ?_
 refine ke_seq ?_
 refine ke_region ?_
 refine sr_ev (v := .bool false) (ev_assign rfl) (by decide) ?_
 refine sr_end (l' := [(0, v1), (1, v3)]) (.cons rfl (.cons rfl (.nil _))) ?_
 refine ke_seq ?_
 refine ke_seq ?_
 refine ke_region ?_
 refine sr_ev (v := v1) (ev_move rfl) (by decide) ?_
 refine sr_ev (v := .int .i64 (a_0.length : Int)) (ev_sllen Try.underlying23 rfl h2) (by decide) ?_
 refine sr_ev (v := v3) (ev_move rfl) (by decide) ?_
 refine sr_ev (v := .int .i64 (b_1.length : Int)) (ev_sllen Try.underlying23 rfl h4) (by decide) ?_
 refine sr_ev (v := .bool ((a_0.length : Int) != (b_1.length : Int))) (ev_ne rfl rfl) (by decide) ?_
 refine sr_end (l' := [(0, v1), (1, v3), (10, .bool ((a_0.length : Int) != (b_1.length : Int)))]) (.cons rfl (.cons rfl (.cons rfl (.nil _)))) ?_
 refine ke_cond (t := (a_0.length : Int) != (b_1.length : Int)) rfl (fun hc5 => ?_) (fun hc5 => ?_)
 ·replace hS := ite_true' hS hc5
  refine ke_seq ?_
  refine ke_region ?_
  refine sr_ev (v := .bool false) (ev_assign rfl) (by decide) ?_
  refine sr_end (l' := [(4, .bool false)]) (.cons rfl (.nil _)) ?_
  cases hS
  exact ke_ret1 Try.func15 rfl rfl ⟨_, rfl, rfl, hb⟩
 ·replace hS := ite_false' hS hc5
  refine ke_skip ?_
  refine ke_seq ?_
  refine ke_seq ?_
  refine ke_region ?_
  refine sr_ev (v := .int .i64 0) (ev_assign rfl) (by decide) ?_
  refine sr_end (l' := [(0, v1), (1, v3), (5, .int .i64 0)]) (.cons rfl (.cons rfl (.cons rfl (.nil _)))) ?_
  refine ke_block ?_
  have hK := ref03_Same_L1_ok hg hA0 _ hS hb hA hi hH h2 h4
  exact ke_weaken (l' := [(0, v1), (1, v3), (5, .int .i64 0)]) (.cons rfl (.cons rfl (.cons rfl (.nil _)))) (ke_loop hK)
theorem delegate_Delegations_Revoke_ok (w0 : World) (hg : Gs w0) {ρA : Tags} (hbd : ∀ b, ρA b ≠ 0 → b < w0.heap.size) (hz : Gz ρA) {o : Nat} (ho2 : 2 ≤ o) {d_0 : delegate_Delegations} {from_1 : Str} {to_2 : Str} {gd_0 : Nat} {r : Bool × delegate_Delegations} (ho0 : delegate_Delegations.O (fun p => o + p) ρA w0 gd_0 d_0) (hS : delegate_Delegations_Revoke d_0 from_1 to_2 = some r) :
  Calls Try.prog 28 #[.pointer (some ⟨gd_0, 0, none⟩), str from_1, str to_2] w0 (Ret (fun v w' => ∃ ρ', v = .bool r.1 ∧ delegate_Delegations.O (fun p => o + p) ρ' w' gd_0 r.2 ∧ Tr ρA w0 (rng o 2) ρ' w')) := by
 unfold delegate_Delegations_Revoke at hS
 have hb := enter_fr (ρ := ρA) (w := w0) (n := 2) ho2 hbd
 have hz := hz.enter (n := 2) ho2
 obtain ⟨v1, hB3, h2⟩ := ho0
 replace hB3 := hB3.mv (enter_mv (p := 0) (n := 2) (by decide) ho2)
 replace h2 := h2.mv (enter_mv (p := 1) (n := 2) (by decide) ho2)
 replace hB3 : Blk (enter ρA o 2) 100 w0 gd_0 (.cells #[v1] 54 (0, 0)) := hB3
 replace h2 : MapT delegate_way.ek delegate_delegation.c true (enter ρA o 2) 101 w0 v1 d_0.ways := h2
 refine calls_of_ke Try.func28 rfl (n := 31) rfl rfl (l := [(0, .pointer (some ⟨gd_0, 0, none⟩)), (1, str from_1), (2, str to_2)]) rfl ?_
 refine ke_seq ?_
 refine ke_region ?_
 refine sr_ev (v := .bool false) (ev_assign rfl) (by decide) ?_
 refine sr_end (l' := [(0, .pointer (some ⟨gd_0, 0, none⟩)), (1, str from_1), (2, str to_2)]) (.cons rfl (.cons rfl (.cons rfl (.nil _)))) ?_
 refine ke_seq ?_
 refine ke_seq ?_
 refine ke_region ?_
 refine sr_ev (v := .pointer (some ⟨gd_0, 0, none⟩)) (ev_move rfl) (by decide) ?_
 obtain ⟨y4, hy5, hS⟩ := bind_some' hS
 refine sr_call (vs := [.pointer (some ⟨gd_0, 0, none⟩)]) rfl Try.call38 rfl (delegate_Delegations_made_ok _ (hg.fr hz hb) (ρA := (enter ρA o 2)) hb.bd (hz.fr hg hb) (τ0 := (fun p => 100 + p)) (fun p => Nat.le_add_right_of_le (by decide)) (⟨_, hB3, h2⟩ : delegate_Delegations.O (fun p => 100 + p) (enter ρA o 2) w0 gd_0 d_0) hy5) (by decide) ?_
 rintro _ w6 ⟨rfl, hbw7⟩
 have htr8 := Tr.of_below hbw7 hb.bd
 replace hB3 := hB3.mv (htr8.mv (i := 100) rfl)
 replace h2 := h2.mv (htr8.mv (i := 101) rfl)
 replace hb := hb.trans htr8
 refine sr_ev (v := .bool (!y4)) (ev_not rfl) (by decide) ?_
 refine sr_end (l' := [(0, .pointer (some ⟨gd_0, 0, none⟩)), (1, str from_1), (2, str to_2), (11, .bool (!y4))]) (.cons rfl (.cons rfl (.cons rfl (.cons rfl (.nil _))))) ?_
 refine ke_cond (t := !y4) rfl (fun hc9 => ?_) (fun hc9 => ?_)
 ·replace hS := ite_true' hS hc9
  refine ke_seq ?_
  refine ke_region ?_
  refine sr_ev (v := .bool false) (ev_assign rfl) (by decide) ?_
  refine sr_end (l' := [(6, .bool false)]) (.cons rfl (.nil _)) ?_
  cases hS
  exact ke_ret1 Try.func28 rfl rfl ⟨_, rfl, leave ρA w0 o 2 (enter ρA o 2), rfl, ⟨_, (hB3.mv (leave_mv (p := 0) (by decide) hb)), (h2.mv (leave_mv (p := 1) (by decide) hb))⟩, (leave_tr ho2 hb)⟩
 ·replace hS := ite_false' hS hc9
  refine ke_skip ?_
  refine ke_seq ?_
  refine ke_region ?_
  refine sr_ev (v := .pointer (some ⟨gd_0, 0, none⟩)) (ev_move rfl) (by decide) ?_
  refine sr_ev (v := .pointer (some ⟨gd_0, 0, none⟩)) (ev_nilCheck rfl) (by decide) ?_
  refine sr_ev (v := .pointer (some ⟨gd_0, 0, none⟩)) (ev_fieldAddr (i := 0) Try.underlying54 rfl Try.info52 rfl rfl) (by decide) ?_
  refine sr_ev (v := v1) (ev_load Try.isAgg52 rfl (hB3.cell rfl)) (by decide) ?_
  refine sr_ev (v := str from_1) (ev_move rfl) (by decide) ?_
  refine sr_ev (v := str to_2) (ev_move rfl) (by decide) ?_
  refine sr_ev (v := .agg #[str from_1, str to_2]) (ev_build (vs := #[(0, str from_1), (1, str to_2)]) rfl (fun _ => by kernel_rfl)) (by decide) ?_
  obtain ⟨y14, hy15, hS⟩ := bind_some' hS
  replace hy15 := Option.some.inj hy15
  obtain ⟨cs10, hrd11, hl12, hl13⟩ := h2.look (zcs := [(.slice none 0 0), .int .i64 0, .int .i64 0]) (z := (delegate_delegation.mk ([] : List Str) (api_Window.mk 0 0))) Try.keyB63 Try.underlying52 Try.zeroValue61 ⟨_, rfl, SlR.nil⟩ (delegate_way.mk from_1 to_2)
  rw [hy15] at hrd11
  obtain ⟨v16, hcshrd11, h17⟩ := hrd11
  obtain rfl : cs10 = [v16, .int .i64 y14.window.From, .int .i64 y14.window.Until] := hcshrd11
  refine sr_ev (v := .tuple #[.agg #[v16, .int .i64 y14.window.From, .int .i64 y14.window.Until], .bool (mhas d_0.ways (delegate_way.mk from_1 to_2))]) (hl13 w6 _ _ (Mv.of_below (i := 101) (ρ := (enter ρA o 2)) (Below.refl _ _)) rfl rfl) (by decide) ?_
  refine sr_ev (v := .tuple #[.agg #[v16, .int .i64 y14.window.From, .int .i64 y14.window.Until], .bool (mhas d_0.ways (delegate_way.mk from_1 to_2))]) (ev_move rfl) (by decide) ?_
  refine sr_ev (v := .agg #[v16, .int .i64 y14.window.From, .int .i64 y14.window.Until]) (ev_extract rfl rfl) (by decide) ?_
  refine sr_ev (v := .bool (mhas d_0.ways (delegate_way.mk from_1 to_2))) (ev_extract rfl rfl) (by decide) ?_
  refine sr_allocT 9 (by decide) hb.bd Try.zeroValue61 (by decide) ?_
  intro g18 ρ19 w20 hB22 htr21
  replace h17 := h17.mv htr21.rd
  replace hB3 := hB3.mv (htr21.mv (i := 100) rfl)
  replace h2 := h2.mv (htr21.mv (i := 101) rfl)
  replace hb := hb.trans htr21
  replace hB22 : Blk ρ19 9 w20 g18 (.cells #[(.slice none 0 0), .int .i64 0, .int .i64 0] 61 (0, 0)) := hB22
  refine sr_storeT (v := .agg #[v16, .int .i64 y14.window.From, .int .i64 y14.window.Until]) (vs := [v16, .int .i64 y14.window.From, .int .i64 y14.window.Until]) (cs' := #[v16, .int .i64 y14.window.From, .int .i64 y14.window.Until]) hB22 (by decide) hb.bd rfl rfl rfl Try.sizeOf61 rfl (by first | rfl | (simp only [List.all_cons, List.all_nil, SlR.oneCell h17]; done) | (simp only [List.all_cons, List.all_nil, SlR.oneCell h17]; rfl)) rfl ?_
  intro w23 hB221 htr24
  replace h17 := h17.mv htr24.rd
  replace hB3 := hB3.mv (htr24.mv (i := 100) rfl)
  replace h2 := h2.mv (htr24.mv (i := 101) rfl)
  replace hb := hb.trans htr24
  replace hB22 : Blk ρ19 9 w23 g18 (.cells #[v16, .int .i64 y14.window.From, .int .i64 y14.window.Until] 61 (0, 0)) := hB221
  clear hB221
  refine sr_ev (v := .bool (mhas d_0.ways (delegate_way.mk from_1 to_2))) (ev_assign rfl) (by decide) ?_
  refine sr_end (l' := [(0, .pointer (some ⟨gd_0, 0, none⟩)), (1, str from_1), (2, str to_2), (8, .bool (mhas d_0.ways (delegate_way.mk from_1 to_2)))]) (.cons rfl (.cons rfl (.cons rfl (.cons rfl (.nil _))))) ?_
  refine ke_seq ?_
  refine ke_region ?_
  refine sr_ev (v := .pointer (some ⟨gd_0, 0, none⟩)) (ev_move rfl) (by decide) ?_
  refine sr_ev (v := .pointer (some ⟨gd_0, 0, none⟩)) (ev_nilCheck rfl) (by decide) ?_
  refine sr_ev (v := .pointer (some ⟨gd_0, 0, none⟩)) (ev_fieldAddr (i := 0) Try.underlying54 rfl Try.info52 rfl rfl) (by decide) ?_
  refine sr_ev (v := v1) (ev_load Try.isAgg52 rfl (hB3.cell rfl)) (by decide) ?_
  refine sr_ev (v := str from_1) (ev_move rfl) (by decide) ?_
  refine sr_ev (v := str to_2) (ev_move rfl) (by decide) ?_
  refine sr_ev (v := .agg #[str from_1, str to_2]) (ev_build (vs := #[(0, str from_1), (1, str to_2)]) rfl (fun _ => by kernel_rfl)) (by decide) ?_
  refine sr_mapDel0 (k := (delegate_way.mk from_1 to_2)) h2 Try.keyB63 Try.underlying52 (by decide) hb.bd rfl rfl ?_
  intro w25 h21 htr26
  replace hB3 := hB3.mv (htr26.mv (i := 100) rfl)
  replace hb := hb.trans htr26
  replace h2 := h21
  clear h21
  refine sr_end (l' := [(8, .bool (mhas d_0.ways (delegate_way.mk from_1 to_2)))]) (.cons rfl (.nil _)) ?_
  refine ke_seq ?_
  refine ke_region ?_
  refine sr_ev (v := .bool (mhas d_0.ways (delegate_way.mk from_1 to_2))) (ev_move rfl) (by decide) ?_
  refine sr_ev (v := .bool (mhas d_0.ways (delegate_way.mk from_1 to_2))) (ev_assign rfl) (by decide) ?_
  refine sr_end (l' := [(6, .bool (mhas d_0.ways (delegate_way.mk from_1 to_2)))]) (.cons rfl (.nil _)) ?_
  cases hS
  exact ke_ret1 Try.func28 rfl rfl ⟨_, rfl, leave ρA w0 o 2 ρ19, rfl, ⟨_, (hB3.mv (leave_mv (p := 0) (by decide) hb)), (h2.mv (leave_mv (p := 1) (by decide) hb))⟩, (leave_tr ho2 hb)⟩
theorem delegate_Delegations_Drop_1_ok (w0 : World) (hg : Gs w0) {ρA : Tags} (hbd : ∀ b, ρA b ≠ 0 → b < w0.heap.size) (hz : Gz ρA) {k_0 : delegate_way} {__1 : delegate_delegation} {c2 : Str} {v1 : Value} {b3 : Nat} {r : Bool} (h2 : SlR strC (Wb ρA) w0 v1 __1.scopes) (he4 : ElT strC ρA 0 w0 b3 0 [str c2] c2) (hS : delegate_Delegations_Drop_1 k_0 __1 c2 = some r) :
  Calls Try.prog 49 #[.agg #[str k_0.from_, str k_0.to_], .agg #[v1, .int .i64 __1.window.From, .int .i64 __1.window.Until], .pointer (some ⟨b3, 0, none⟩)] w0 (Ret (fun v w' => v = .bool r ∧ Below w0.heap.size w0 w')) := by
 unfold delegate_Delegations_Drop_1 at hS
 have hb := flat1_fr (ρ := ρA) (w := w0) hbd
 have hz := hz.flat1
 replace h2 := SlR.mv h2 flat1_rd
 replace he4 := he4.mv flat1_rd (Nat.succ_pos _)
 refine calls_of_ke Try.func49 rfl (n := 16) rfl rfl (l := [(0, .agg #[str k_0.from_, str k_0.to_]), (1, .agg #[v1, .int .i64 __1.window.From, .int .i64 __1.window.Until]), (2, .pointer (some ⟨b3, 0, none⟩))]) rfl ?_
 refine ke_seq ?_
 refine ke_region ?_
 refine sr_boxT 5 (by decide) hb.bd rfl (by decide) ?_
 intro g5 ρ6 w7 hB9 htr8
 replace h2 := h2.mv htr8.rd
 replace he4 := he4.mv (htr8.mv (i := 0) rfl) (Nat.succ_pos _)
 replace hb := hb.trans htr8
 replace hB9 : Blk ρ6 5 w7 g5 (.cells #[str k_0.from_, str k_0.to_] 63 (0, 0)) := hB9
 refine sr_boxT 6 (by decide) hb.bd rfl (by decide) ?_
 intro g10 ρ11 w12 hB14 htr13
 replace he4 := he4.mv (htr13.mv (i := 0) rfl) (Nat.succ_pos _)
 replace hB9 := hB9.mv (htr13.mv (i := 5) rfl)
 replace hb := hb.trans htr13
 replace hB14 : Blk ρ11 6 w12 g10 (.cells #[v1, .int .i64 __1.window.From, .int .i64 __1.window.Until] 61 (0, 0)) := hB14
 refine sr_ev (v := .bool false) (ev_assign rfl) (by decide) ?_
 refine sr_end (l' := [(2, .pointer (some ⟨b3, 0, none⟩)), (3, .pointer (some ⟨g5, 0, none⟩))]) (.cons rfl (.cons rfl (.nil _))) ?_
 refine ke_seq ?_
 refine ke_region ?_
 refine sr_ev (v := .pointer (some ⟨g5, 0, none⟩)) (ev_fieldAddr (i := 0) Try.underlying63 rfl Try.info9 rfl rfl) (by decide) ?_
 refine sr_ev (v := str k_0.from_) (ev_load Try.isAgg9 rfl (hB9.cell rfl)) (by decide) ?_
 refine sr_ev (v := str c2) (ev_load Try.isAgg9 rfl (he4.cell 0 _ rfl)) (by decide) ?_
 refine sr_ev (v := .bool (k_0.from_ == c2)) (ev_seq rfl rfl) (by decide) ?_
 refine sr_ev (v := .bool (k_0.from_ == c2)) (ev_move rfl) (by decide) ?_
 refine sr_join (m := 5) (C := fun (x : Bool) w1 => x = ((k_0.from_ == c2) || (k_0.to_ == c2)) ∧ w12 = w1) (l' := fun x => [(15, .bool x)]) ?_ ?_
 ·rintro _ _ ⟨rfl, rfl⟩
  refine sr_ev (v := .bool ((k_0.from_ == c2) || (k_0.to_ == c2))) (ev_assign rfl) (by decide) ?_
  refine sr_end (l' := [(5, .bool ((k_0.from_ == c2) || (k_0.to_ == c2)))]) (.cons rfl (.nil _)) ?_
  cases hS
  exact ke_ret1 Try.func49 rfl rfl ⟨_, rfl, rfl, (hb.below (flat1_le _))⟩
 ·intro K16
  rcases Bool.eq_false_or_eq_true (k_0.from_ == c2) with hg15 | hg15
  all_goals try have hj18 : Tr ρ11 w12 (fun _ => false) ρ11 w12 := Tr.refl hb.bd
  ·refine sr_pass (e := 10) rfl rfl (by rw [hg15]; rfl) (by decide) ?_
   refine sr_pass (e := 10) rfl rfl (by rw [hg15]; rfl) (by decide) ?_
   refine sr_pass (e := 10) rfl rfl (by rw [hg15]; rfl) (by decide) ?_
   refine sr_pass (e := 10) rfl rfl (by rw [hg15]; rfl) (by decide) ?_
   refine sr_ev (v := .bool true) (ev_pick_t rfl hg15 rfl) (by decide) ?_
   exact sr_weaken (l' := [(15, .bool true)]) (.cons rfl (.nil _)) (K16 true _ ⟨by rw [hg15]; rfl, rfl⟩)
  ·refine sr_evg (b := false) (e := 10) rfl rfl hg15 (v := .pointer (some ⟨g5, 1, none⟩)) (ev_fieldAddr (i := 1) Try.underlying63 rfl Try.info9 rfl rfl) (by decide) ?_
   refine sr_evg (b := false) (e := 10) rfl rfl hg15 (v := str k_0.to_) (ev_load Try.isAgg9 rfl (hB9.cell rfl)) (by decide) ?_
   refine sr_evg (b := false) (e := 10) rfl rfl hg15 (v := str c2) (ev_load Try.isAgg9 rfl (he4.cell 0 _ rfl)) (by decide) ?_
   refine sr_evg (b := false) (e := 10) rfl rfl hg15 (v := .bool (k_0.to_ == c2)) (ev_seq rfl rfl) (by decide) ?_
   refine sr_ev (v := .bool (k_0.to_ == c2)) (ev_pick_f rfl hg15 rfl) (by decide) ?_
   exact sr_weaken (l' := [(15, .bool (k_0.to_ == c2))]) (.cons rfl (.nil _)) (K16 (k_0.to_ == c2) _ ⟨by rw [hg15]; rfl, rfl⟩)
theorem maps_DeleteFunc_map_delegate_way_delegate_delegation_delegate_way_delegate_delegation__Delegations_Drop_1_B2_ok {w0 : World} (hg : Gs w0) {ρA : Tags} (hbd : ∀ b, ρA b ≠ 0 → b < w0.heap.size) {o : Nat} (ho2 : 2 ≤ o) {v1 : Value} (hz : Gz (enter ρA o 1)) (r0 : GMap delegate_way delegate_delegation → Str → List delegate_way → Option (GMap delegate_way delegate_delegation))
  (hr0 : ∀ {r : GMap delegate_way delegate_delegation} {m_0 : GMap delegate_way delegate_delegation} {del_1_c0 : Str} {t_7 : List delegate_way} {bdel_1_c0 : Nat} {rt_7 : Nat}, r0 m_0 del_1_c0 t_7 = some r → ∀ {ρ : Tags} {w : World}, (Fr (enter ρA o 1) w0 ρ w) → (MapT delegate_way.ek delegate_delegation.c true ρ 100 w v1 m_0) → (ElT strC ρ 0 w bdel_1_c0 0 [str del_1_c0] del_1_c0) → (IterT delegate_way.ek delegate_delegation.c true ρ 100 9 w rt_7 v1 m_0 t_7) → KE Try.prog 48 (Ret (fun v w' => ∃ ρ', v = .tuple #[] ∧ MapT delegate_way.ek delegate_delegation.c true ρ' o w' v1 r ∧ Tr ρA w0 (rng o 1) ρ' w')) 19 [.inLoop (sub (bodyOf Try.f48) [2, 2, 1]), .inBlock 0] [(0, v1), (1, .func (.func 49) #[] #[.pointer (some ⟨bdel_1_c0, 0, none⟩)]), (7, .pointer (some ⟨rt_7, 0, none⟩))] w) {r : GMap delegate_way delegate_delegation} {m_0 : GMap delegate_way delegate_delegation} {del_1_c0 : Str} {t_7 : List delegate_way} {bdel_1_c0 : Nat} {rt_7 : Nat} (hS : maps_DeleteFunc_map_delegate_way_delegate_delegation_delegate_way_delegate_delegation__Delegations_Drop_1_B2 r0 m_0 del_1_c0 t_7 = some r) {ρ : Tags} {w : World} (hb : Fr (enter ρA o 1) w0 ρ w) (hm_0 : MapT delegate_way.ek delegate_delegation.c true ρ 100 w v1 m_0) (hedel_1_c0 : ElT strC ρ 0 w bdel_1_c0 0 [str del_1_c0] del_1_c0) (ht_7 : IterT delegate_way.ek delegate_delegation.c true ρ 100 9 w rt_7 v1 m_0 t_7) :
  KE Try.prog 48 (Ret (fun v w' => ∃ ρ', v = .tuple #[] ∧ MapT delegate_way.ek delegate_delegation.c true ρ' o w' v1 r ∧ Tr ρA w0 (rng o 1) ρ' w')) 19 [.inBlock 1, .inLoop (sub (bodyOf Try.f48) [2, 2, 1]), .inBlock 0] [(0, v1), (1, .func (.func 49) #[] #[.pointer (some ⟨bdel_1_c0, 0, none⟩)]), (7, .pointer (some ⟨rt_7, 0, none⟩))] w := by
 unfold maps_DeleteFunc_map_delegate_way_delegate_delegation_delegate_way_delegate_delegation__Delegations_Drop_1_B2 at hS
 refine ke_inBlock ?_
 have hK := hr0 hS hb hm_0 hedel_1_c0 ht_7
 exact ke_weaken (l' := [(0, v1), (1, .func (.func 49) #[] #[.pointer (some ⟨bdel_1_c0, 0, none⟩)]), (7, .pointer (some ⟨rt_7, 0, none⟩))]) (.cons rfl (.cons rfl (.cons rfl (.nil _)))) hK
theorem maps_DeleteFunc_map_delegate_way_delegate_delegation_delegate_way_delegate_delegation__Delegations_Drop_1_L1_ok {w0 : World} (hg : Gs w0) {ρA : Tags} (hbd : ∀ b, ρA b ≠ 0 → b < w0.heap.size) {o : Nat} (ho2 : 2 ≤ o) {v1 : Value} (hz : Gz (enter ρA o 1)) : ∀ (n : Nat), ∀ {r : GMap delegate_way delegate_delegation} {m_0 : GMap delegate_way delegate_delegation} {del_1_c0 : Str} {t_7 : List delegate_way} {bdel_1_c0 : Nat} {rt_7 : Nat}, maps_DeleteFunc_map_delegate_way_delegate_delegation_delegate_way_delegate_delegation__Delegations_Drop_1_L1 n m_0 del_1_c0 t_7 = some r → ∀ {ρ : Tags} {w : World}, (Fr (enter ρA o 1) w0 ρ w) → (MapT delegate_way.ek delegate_delegation.c true ρ 100 w v1 m_0) → (ElT strC ρ 0 w bdel_1_c0 0 [str del_1_c0] del_1_c0) → (IterT delegate_way.ek delegate_delegation.c true ρ 100 9 w rt_7 v1 m_0 t_7) → KE Try.prog 48 (Ret (fun v w' => ∃ ρ', v = .tuple #[] ∧ MapT delegate_way.ek delegate_delegation.c true ρ' o w' v1 r ∧ Tr ρA w0 (rng o 1) ρ' w')) 19 [.code (sub (bodyOf Try.f48) [2, 2, 1]), .inLoop (sub (bodyOf Try.f48) [2, 2, 1]), .inBlock 0] [(0, v1), (1, .func (.func 49) #[] #[.pointer (some ⟨bdel_1_c0, 0, none⟩)]), (7, .pointer (some ⟨rt_7, 0, none⟩))] w := by
 intro n
 induction n with
 | zero => intro r m_0 del_1_c0 t_7 bdel_1_c0 rt_7 hS; cases hS
 | succ n ih =>
  have hr0 : ∀ {r : GMap delegate_way delegate_delegation} {m_0 : GMap delegate_way delegate_delegation} {del_1_c0 : Str} {t_7 : List delegate_way} {bdel_1_c0 : Nat} {rt_7 : Nat}, maps_DeleteFunc_map_delegate_way_delegate_delegation_delegate_way_delegate_delegation__Delegations_Drop_1_L1 n m_0 del_1_c0 t_7 = some r → ∀ {ρ : Tags} {w : World}, (Fr (enter ρA o 1) w0 ρ w) → (MapT delegate_way.ek delegate_delegation.c true ρ 100 w v1 m_0) → (ElT strC ρ 0 w bdel_1_c0 0 [str del_1_c0] del_1_c0) → (IterT delegate_way.ek delegate_delegation.c true ρ 100 9 w rt_7 v1 m_0 t_7) → KE Try.prog 48 (Ret (fun v w' => ∃ ρ', v = .tuple #[] ∧ MapT delegate_way.ek delegate_delegation.c true ρ' o w' v1 r ∧ Tr ρA w0 (rng o 1) ρ' w')) 19 [.inLoop (sub (bodyOf Try.f48) [2, 2, 1]), .inBlock 0] [(0, v1), (1, .func (.func 49) #[] #[.pointer (some ⟨bdel_1_c0, 0, none⟩)]), (7, .pointer (some ⟨rt_7, 0, none⟩))] w := fun {r} {m_0} {del_1_c0} {t_7} {bdel_1_c0} {rt_7} hS {ρ} {w} hb hm_0 hedel_1_c0 ht_7 => ke_inLoop (ih hS hb hm_0 hedel_1_c0 ht_7)
  clear ih
  intro r m_0 del_1_c0 t_7 bdel_1_c0 rt_7 hS ρ w hb hm_0 hedel_1_c0 ht_7
  unfold maps_DeleteFunc_map_delegate_way_delegate_delegation_delegate_way_delegate_delegation__Delegations_Drop_1_L1 at hS
  refine ke_seq ?_
  refine ke_region ?_
  refine sr_nextM ht_7 rfl (by decide) hb.bd hS rfl (by decide) (fun hS => ?_) (fun e10 cs11 w12 hS hrd14 ht_71 htr13 hent15 => ?_)
  ·refine sr_ev (v := .bool false) (ev_extract rfl rfl) (by decide) ?_
   refine sr_end (l' := [(0, v1), (1, .func (.func 49) #[] #[.pointer (some ⟨bdel_1_c0, 0, none⟩)]), (7, .pointer (some ⟨rt_7, 0, none⟩)), (9, .bool false)]) (.cons rfl (.cons rfl (.cons rfl (.cons rfl (.nil _))))) ?_
   refine ke_seq ?_
   refine ke_cond (t := false) rfl (fun h => by cases h) (fun _ => ?_)
   refine ke_exit (k' := _) rfl ?_
   cases hS
   exact ke_end0 Try.func48 rfl ⟨_, rfl, leave ρA w0 o 1 ρ, rfl, (hm_0.mv (leave_mv (p := 0) (by decide) hb)), (leave_tr ho2 hb)⟩
  ·skip
   replace hm_0 := hm_0.mv (htr13.mv (i := 100) rfl)
   replace hedel_1_c0 := hedel_1_c0.mv (htr13.mv (i := 0) rfl) (Nat.succ_pos _)
   replace hb := hb.trans htr13
   replace ht_7 := ht_71
   clear ht_71
   obtain ⟨v16, hcshrd14, h17⟩ := hrd14
   obtain rfl : cs11 = [v16, .int .i64 e10.2.window.From, .int .i64 e10.2.window.Until] := hcshrd14
   refine sr_ev (v := .bool true) (ev_extract rfl rfl) (by decide) ?_
   refine sr_end (l' := [(0, v1), (1, .func (.func 49) #[] #[.pointer (some ⟨bdel_1_c0, 0, none⟩)]), (7, .pointer (some ⟨rt_7, 0, none⟩)), (9, .bool true)]) (.cons rfl (.cons rfl (.cons rfl (.cons rfl (.nil _))))) ?_
   refine ke_seq ?_
   refine ke_cond (t := true) rfl (fun _ => ?_) (fun h => by cases h)
   refine ke_skip ?_
   refine ke_block ?_
   refine ke_seq ?_
   refine ke_region ?_
   refine sr_ev (v := .tuple #[.agg #[str e10.1.from_, str e10.1.to_], .agg #[v16, .int .i64 e10.2.window.From, .int .i64 e10.2.window.Until]]) (hent15 rfl) (by decide) ?_
   refine sr_ev (v := .agg #[str e10.1.from_, str e10.1.to_]) (ev_extract rfl rfl) (by decide) ?_
   refine sr_ev (v := .agg #[v16, .int .i64 e10.2.window.From, .int .i64 e10.2.window.Until]) (ev_extract rfl rfl) (by decide) ?_
   refine sr_allocT 6 (by decide) hb.bd Try.zeroValue63 (by decide) ?_
   intro g18 ρ19 w20 hB22 htr21
   replace hm_0 := hm_0.mv (htr21.mv (i := 100) rfl)
   replace hedel_1_c0 := hedel_1_c0.mv (htr21.mv (i := 0) rfl) (Nat.succ_pos _)
   replace ht_7 := ht_7.mv (htr21.mv (i := 100) rfl) (htr21.mv (i := 9) rfl)
   replace h17 := h17.mv htr21.rd
   replace hb := hb.trans htr21
   replace hB22 : Blk ρ19 6 w20 g18 (.cells #[str ([]), str ([])] 63 (0, 0)) := hB22
   refine sr_allocT 7 (by decide) hb.bd Try.zeroValue61 (by decide) ?_
   intro g23 ρ24 w25 hB27 htr26
   replace hm_0 := hm_0.mv (htr26.mv (i := 100) rfl)
   replace hedel_1_c0 := hedel_1_c0.mv (htr26.mv (i := 0) rfl) (Nat.succ_pos _)
   replace ht_7 := ht_7.mv (htr26.mv (i := 100) rfl) (htr26.mv (i := 9) rfl)
   replace h17 := h17.mv htr26.rd
   replace hB22 := hB22.mv (htr26.mv (i := 6) rfl)
   replace hb := hb.trans htr26
   replace hB27 : Blk ρ24 7 w25 g23 (.cells #[(.slice none 0 0), .int .i64 0, .int .i64 0] 61 (0, 0)) := hB27
   refine sr_storeT (v := .agg #[str e10.1.from_, str e10.1.to_]) (vs := [str e10.1.from_, str e10.1.to_]) (cs' := #[str e10.1.from_, str e10.1.to_]) hB22 (by decide) hb.bd rfl rfl rfl Try.sizeOf63 rfl rfl rfl ?_
   intro w28 hB221 htr29
   replace hm_0 := hm_0.mv (htr29.mv (i := 100) rfl)
   replace hedel_1_c0 := hedel_1_c0.mv (htr29.mv (i := 0) rfl) (Nat.succ_pos _)
   replace ht_7 := ht_7.mv (htr29.mv (i := 100) rfl) (htr29.mv (i := 9) rfl)
   replace h17 := h17.mv htr29.rd
   replace hB27 := hB27.mv (htr29.mv (i := 7) rfl)
   replace hb := hb.trans htr29
   replace hB22 : Blk ρ24 6 w28 g18 (.cells #[str e10.1.from_, str e10.1.to_] 63 (0, 0)) := hB221
   clear hB221
   refine sr_storeT (v := .agg #[v16, .int .i64 e10.2.window.From, .int .i64 e10.2.window.Until]) (vs := [v16, .int .i64 e10.2.window.From, .int .i64 e10.2.window.Until]) (cs' := #[v16, .int .i64 e10.2.window.From, .int .i64 e10.2.window.Until]) hB27 (by decide) hb.bd rfl rfl rfl Try.sizeOf61 rfl (by first | rfl | (simp only [List.all_cons, List.all_nil, SlR.oneCell h17]; done) | (simp only [List.all_cons, List.all_nil, SlR.oneCell h17]; rfl)) rfl ?_
   intro w30 hB271 htr31
   replace hm_0 := hm_0.mv (htr31.mv (i := 100) rfl)
   replace hedel_1_c0 := hedel_1_c0.mv (htr31.mv (i := 0) rfl) (Nat.succ_pos _)
   replace ht_7 := ht_7.mv (htr31.mv (i := 100) rfl) (htr31.mv (i := 9) rfl)
   replace h17 := h17.mv htr31.rd
   replace hB22 := hB22.mv (htr31.mv (i := 6) rfl)
   replace hb := hb.trans htr31
   replace hB27 : Blk ρ24 7 w30 g23 (.cells #[v16, .int .i64 e10.2.window.From, .int .i64 e10.2.window.Until] 61 (0, 0)) := hB271
   clear hB271
   refine sr_end (l' := [(0, v1), (1, .func (.func 49) #[] #[.pointer (some ⟨bdel_1_c0, 0, none⟩)]), (4, .pointer (some ⟨g18, 0, none⟩)), (5, .pointer (some ⟨g23, 0, none⟩)), (7, .pointer (some ⟨rt_7, 0, none⟩))]) (.cons rfl (.cons rfl (.cons rfl (.cons rfl (.cons rfl (.nil _)))))) ?_
   refine ke_seq ?_
   refine ke_region ?_
   refine sr_ev (v := .func (.func 49) #[] #[.pointer (some ⟨bdel_1_c0, 0, none⟩)]) (ev_move rfl) (by decide) ?_
   refine sr_ev (v := .agg #[str e10.1.from_, str e10.1.to_]) (ev_loads (cs := [str e10.1.from_, str e10.1.to_]) Try.isAgg63 Try.sizeOf63 rfl (hB22.cells (vs := [str e10.1.from_, str e10.1.to_]) rfl)) (by decide) ?_
   refine sr_ev (v := .agg #[v16, .int .i64 e10.2.window.From, .int .i64 e10.2.window.Until]) (ev_loads (cs := [v16, .int .i64 e10.2.window.From, .int .i64 e10.2.window.Until]) Try.isAgg61 Try.sizeOf61 rfl (hB27.cells (vs := [v16, .int .i64 e10.2.window.From, .int .i64 e10.2.window.Until]) rfl)) (by decide) ?_
   obtain ⟨y32, hy33, hS⟩ := bind_some' hS
   refine sr_callc (vs := [.agg #[str e10.1.from_, str e10.1.to_], .agg #[v16, .int .i64 e10.2.window.From, .int .i64 e10.2.window.Until]]) rfl Try.call49 rfl (delegate_Delegations_Drop_1_ok _ (hg.fr hz hb) (ρA := ρ24) hb.bd (hz.fr hg hb) h17 hedel_1_c0 hy33) (by decide) ?_
   rintro _ w34 ⟨rfl, hbw35⟩
   have htr36 := Tr.of_below hbw35 hb.bd
   replace hm_0 := hm_0.mv (htr36.mv (i := 100) rfl)
   replace hedel_1_c0 := hedel_1_c0.mv (htr36.mv (i := 0) rfl) (Nat.succ_pos _)
   replace ht_7 := ht_7.mv (htr36.mv (i := 100) rfl) (htr36.mv (i := 9) rfl)
   replace hB22 := hB22.mv (htr36.mv (i := 6) rfl)
   replace hb := hb.trans htr36
   refine sr_end (l' := [(0, v1), (1, .func (.func 49) #[] #[.pointer (some ⟨bdel_1_c0, 0, none⟩)]), (4, .pointer (some ⟨g18, 0, none⟩)), (7, .pointer (some ⟨rt_7, 0, none⟩)), (16, .bool y32)]) (.cons rfl (.cons rfl (.cons rfl (.cons rfl (.cons rfl (.nil _)))))) ?_
   refine ke_cond (t := y32) rfl (fun hc37 => ?_) (fun hc37 => ?_)
   ·replace hS := ite_true' hS hc37
    refine ke_region ?_
    refine sr_ev (v := v1) (ev_move rfl) (by decide) ?_
    refine sr_ev (v := .agg #[str e10.1.from_, str e10.1.to_]) (ev_loads (cs := [str e10.1.from_, str e10.1.to_]) Try.isAgg63 Try.sizeOf63 rfl (hB22.cells (vs := [str e10.1.from_, str e10.1.to_]) rfl)) (by decide) ?_
    obtain ⟨w38, hrunw38, ht_71, htr39⟩ := sr_mapDelIt (n := 19) (l := [(0, v1), (1, .func (.func 49) #[] #[.pointer (some ⟨bdel_1_c0, 0, none⟩)]), (4, .pointer (some ⟨g18, 0, none⟩)), (7, .pointer (some ⟨rt_7, 0, none⟩)), (16, .bool y32), (17, v1), (18, .agg #[str e10.1.from_, str e10.1.to_])]) (d := none) (x := _) (y := _) (pos := _) (after := _) (t := _) (k := e10.1) ht_7 rfl Try.keyB63 Try.underlying52 (by decide) hb.bd
    refine sr_run0 (fun a ha => hrunw38 (ha.weaken (.cons rfl (.cons rfl (.cons rfl (.cons rfl (.cons rfl (.cons rfl (.cons rfl (.nil _))))))))) rfl rfl) ?_
    replace hedel_1_c0 := hedel_1_c0.mv (htr39.mv (i := 0) rfl) (Nat.succ_pos _)
    replace hb := hb.trans htr39
    replace ht_7 := ht_71
    clear ht_71
    replace hm_0 := ht_7.map
    refine sr_end (l' := [(0, v1), (1, .func (.func 49) #[] #[.pointer (some ⟨bdel_1_c0, 0, none⟩)]), (7, .pointer (some ⟨rt_7, 0, none⟩))]) (.cons rfl (.cons rfl (.cons rfl (.nil _)))) ?_
    have hK := maps_DeleteFunc_map_delegate_way_delegate_delegation_delegate_way_delegate_delegation__Delegations_Drop_1_B2_ok hg hbd ho2 hz _ hr0 hS hb hm_0 hedel_1_c0 ht_7
    exact ke_weaken (l' := [(0, v1), (1, .func (.func 49) #[] #[.pointer (some ⟨bdel_1_c0, 0, none⟩)]), (7, .pointer (some ⟨rt_7, 0, none⟩))]) (.cons rfl (.cons rfl (.cons rfl (.nil _)))) hK
   ·replace hS := ite_false' hS hc37
    refine ke_skip ?_
    have hK := maps_DeleteFunc_map_delegate_way_delegate_delegation_delegate_way_delegate_delegation__Delegations_Drop_1_B2_ok hg hbd ho2 hz _ hr0 hS hb hm_0 hedel_1_c0 ht_7
    exact ke_weaken (l' := [(0, v1), (1, .func (.func 49) #[] #[.pointer (some ⟨bdel_1_c0, 0, none⟩)]), (7, .pointer (some ⟨rt_7, 0, none⟩))]) (.cons rfl (.cons rfl (.cons rfl (.nil _)))) hK
theorem maps_DeleteFunc_map_delegate_way_delegate_delegation_delegate_way_delegate_delegation__Delegations_Drop_1_ok (w0 : World) (hg : Gs w0) {ρA : Tags} (hbd : ∀ b, ρA b ≠ 0 → b < w0.heap.size) (hz : Gz ρA) {o : Nat} (ho2 : 2 ≤ o) {m_0 : GMap delegate_way delegate_delegation} {c1_0 : Str} {v1 : Value} {b3 : Nat} {r : GMap delegate_way delegate_delegation} (h2 : MapT delegate_way.ek delegate_delegation.c true ρA o w0 v1 m_0) (he4 : ElT strC ρA 0 w0 b3 0 [str c1_0] c1_0) (hS : maps_DeleteFunc_map_delegate_way_delegate_delegation_delegate_way_delegate_delegation__Delegations_Drop_1 m_0 c1_0 = some r) :
  Calls Try.prog 48 #[v1, .func (.func 49) #[] #[.pointer (some ⟨b3, 0, none⟩)]] w0 (Ret (fun v w' => ∃ ρ', v = .tuple #[] ∧ MapT delegate_way.ek delegate_delegation.c true ρ' o w' v1 r ∧ Tr ρA w0 (rng o 1) ρ' w')) := by
 unfold maps_DeleteFunc_map_delegate_way_delegate_delegation_delegate_way_delegate_delegation__Delegations_Drop_1 at hS
 have hb := enter_fr (ρ := ρA) (w := w0) (n := 1) ho2 hbd
 have hz := hz.enter (n := 1) ho2
 replace he4 := he4.mv (enter_rd (n := 1) ho2) (Nat.succ_pos _)
 replace h2 := h2.mv (enter_mv (p := 0) (n := 1) (by decide) ho2)
 replace h2 : MapT delegate_way.ek delegate_delegation.c true (enter ρA o 1) 100 w0 v1 m_0 := h2
 refine calls_of_ke Try.func48 rfl (n := 19) rfl rfl (l := [(0, v1), (1, .func (.func 49) #[] #[.pointer (some ⟨b3, 0, none⟩)])]) rfl ?_
 refine ke_seq ?_
 refine ke_region ?_
 refine sr_ev (v := v1) (ev_move rfl) (by decide) ?_
 refine sr_rangeM 9 (by decide) h2 rfl Try.underlying52 hb.bd rfl (by decide) ?_
 intro r5 ρ6 w7 h8 htr9
 replace h2 := h2.mv (htr9.mv (i := 100) rfl)
 replace he4 := he4.mv (htr9.mv (i := 0) rfl) (Nat.succ_pos _)
 replace hb := hb.trans htr9
 refine sr_end (l' := [(0, v1), (1, .func (.func 49) #[] #[.pointer (some ⟨b3, 0, none⟩)]), (7, .pointer (some ⟨r5, 0, none⟩))]) (.cons rfl (.cons rfl (.cons rfl (.nil _)))) ?_
 refine ke_block ?_
 have hK := maps_DeleteFunc_map_delegate_way_delegate_delegation_delegate_way_delegate_delegation__Delegations_Drop_1_L1_ok hg hbd ho2 hz _ hS hb h2 he4 h8
 exact ke_weaken (l' := [(0, v1), (1, .func (.func 49) #[] #[.pointer (some ⟨b3, 0, none⟩)]), (7, .pointer (some ⟨r5, 0, none⟩))]) (.cons rfl (.cons rfl (.cons rfl (.nil _)))) (ke_loop hK)
theorem delegate_Delegations_Drop_ok (w0 : World) (hg : Gs w0) {ρA : Tags} (hbd : ∀ b, ρA b ≠ 0 → b < w0.heap.size) (hz : Gz ρA) {o : Nat} (ho2 : 2 ≤ o) {d_0 : delegate_Delegations} {user_1 : Str} {gd_0 : Nat} {r : Int × delegate_Delegations} (ho0 : delegate_Delegations.O (fun p => o + p) ρA w0 gd_0 d_0) (hS : delegate_Delegations_Drop d_0 user_1 = some r) :
  Calls Try.prog 24 #[.pointer (some ⟨gd_0, 0, none⟩), str user_1] w0 (Ret (fun v w' => ∃ ρ', v = .int .i64 r.1 ∧ delegate_Delegations.O (fun p => o + p) ρ' w' gd_0 r.2 ∧ Tr ρA w0 (rng o 2) ρ' w')) := by
 unfold delegate_Delegations_Drop at hS
 have hb := enter_fr (ρ := ρA) (w := w0) (n := 2) ho2 hbd
 have hz := hz.enter (n := 2) ho2
 obtain ⟨v1, hB3, h2⟩ := ho0
 replace hB3 := hB3.mv (enter_mv (p := 0) (n := 2) (by decide) ho2)
 replace h2 := h2.mv (enter_mv (p := 1) (n := 2) (by decide) ho2)
 replace hB3 : Blk (enter ρA o 2) 100 w0 gd_0 (.cells #[v1] 54 (0, 0)) := hB3
 replace h2 : MapT delegate_way.ek delegate_delegation.c true (enter ρA o 2) 101 w0 v1 d_0.ways := h2
 refine calls_of_ke Try.func24 rfl (n := 27) rfl rfl (l := [(0, .pointer (some ⟨gd_0, 0, none⟩)), (1, str user_1)]) rfl ?_
 refine ke_seq ?_
 refine ke_region ?_
 refine sr_boxT 5 (by decide) hb.bd rfl (by decide) ?_
 intro g4 ρ5 w6 hB8 htr7
 replace hB3 := hB3.mv (htr7.mv (i := 100) rfl)
 replace h2 := h2.mv (htr7.mv (i := 101) rfl)
 replace hb := hb.trans htr7
 replace hB8 : Blk ρ5 5 w6 g4 (.cells #[str user_1] 9 (0, 0)) := hB8
 refine sr_ev (v := .int .i64 0) (ev_assign rfl) (by decide) ?_
 refine sr_end (l' := [(0, .pointer (some ⟨gd_0, 0, none⟩)), (3, .pointer (some ⟨g4, 0, none⟩))]) (.cons rfl (.cons rfl (.nil _))) ?_
 refine ke_seq ?_
 refine ke_seq ?_
 refine ke_region ?_
 refine sr_ev (v := .pointer (some ⟨gd_0, 0, none⟩)) (ev_move rfl) (by decide) ?_
 obtain ⟨y9, hy10, hS⟩ := bind_some' hS
 refine sr_call (vs := [.pointer (some ⟨gd_0, 0, none⟩)]) rfl Try.call38 rfl (delegate_Delegations_made_ok _ (hg.fr hz hb) (ρA := ρ5) hb.bd (hz.fr hg hb) (τ0 := (fun p => 100 + p)) (fun p => Nat.le_add_right_of_le (by decide)) (⟨_, hB3, h2⟩ : delegate_Delegations.O (fun p => 100 + p) ρ5 w6 gd_0 d_0) hy10) (by decide) ?_
 rintro _ w11 ⟨rfl, hbw12⟩
 have htr13 := Tr.of_below hbw12 hb.bd
 replace hB8 := hB8.mv (htr13.mv (i := 5) rfl)
 replace hB3 := hB3.mv (htr13.mv (i := 100) rfl)
 replace h2 := h2.mv (htr13.mv (i := 101) rfl)
 replace hb := hb.trans htr13
 refine sr_ev (v := .bool (!y9)) (ev_not rfl) (by decide) ?_
 refine sr_end (l' := [(0, .pointer (some ⟨gd_0, 0, none⟩)), (3, .pointer (some ⟨g4, 0, none⟩)), (8, .bool (!y9))]) (.cons rfl (.cons rfl (.cons rfl (.nil _)))) ?_
 refine ke_cond (t := !y9) rfl (fun hc14 => ?_) (fun hc14 => ?_)
 ·replace hS := ite_true' hS hc14
  refine ke_seq ?_
  refine ke_region ?_
  refine sr_ev (v := .int .i64 0) (ev_assign rfl) (by decide) ?_
  refine sr_end (l' := [(4, .int .i64 0)]) (.cons rfl (.nil _)) ?_
  cases hS
  exact ke_ret1 Try.func24 rfl rfl ⟨_, rfl, leave ρA w0 o 2 ρ5, rfl, ⟨_, (hB3.mv (leave_mv (p := 0) (by decide) hb)), (h2.mv (leave_mv (p := 1) (by decide) hb))⟩, (leave_tr ho2 hb)⟩
 ·replace hS := ite_false' hS hc14
  refine ke_skip ?_
  refine ke_seq ?_
  refine ke_region ?_
  refine sr_ev (v := .pointer (some ⟨gd_0, 0, none⟩)) (ev_move rfl) (by decide) ?_
  refine sr_ev (v := .pointer (some ⟨gd_0, 0, none⟩)) (ev_nilCheck rfl) (by decide) ?_
  refine sr_ev (v := .pointer (some ⟨gd_0, 0, none⟩)) (ev_fieldAddr (i := 0) Try.underlying54 rfl Try.info52 rfl rfl) (by decide) ?_
  refine sr_ev (v := v1) (ev_load Try.isAgg52 rfl (hB3.cell rfl)) (by decide) ?_
  refine sr_ev (v := .int .i64 (mlen d_0.ways)) (ev_mapLen h2 Try.underlying52 (Mv.of_below (i := 101) (ρ := ρ5) (Below.refl _ _)) rfl) (by decide) ?_
  refine sr_ev (v := .int .i64 (mlen d_0.ways)) (ev_assign rfl) (by decide) ?_
  refine sr_end (l' := [(0, .pointer (some ⟨gd_0, 0, none⟩)), (3, .pointer (some ⟨g4, 0, none⟩)), (5, .int .i64 (mlen d_0.ways))]) (.cons rfl (.cons rfl (.cons rfl (.nil _)))) ?_
  refine ke_seq ?_
  refine ke_region ?_
  refine sr_ev (v := .pointer (some ⟨gd_0, 0, none⟩)) (ev_move rfl) (by decide) ?_
  refine sr_ev (v := .pointer (some ⟨gd_0, 0, none⟩)) (ev_nilCheck rfl) (by decide) ?_
  refine sr_ev (v := .pointer (some ⟨gd_0, 0, none⟩)) (ev_fieldAddr (i := 0) Try.underlying54 rfl Try.info52 rfl rfl) (by decide) ?_
  refine sr_ev (v := v1) (ev_load Try.isAgg52 rfl (hB3.cell rfl)) (by decide) ?_
  have htr15 := frz_tr (ρ := ρ5) (w := w11) (i := 5) (by decide) hb.bd
  have he16 : ElT strC (frz ρ5 5) 0 w11 g4 0 [str user_1] user_1 := Blk.frzEl hB8 rfl rfl
  replace h2 := h2.mv (htr15.mv (i := 101) rfl)
  replace hB3 := hB3.mv (htr15.mv (i := 100) rfl)
  replace hb := hb.trans htr15
  refine sr_ev (v := .func (.func 49) #[] #[.pointer (some ⟨g4, 0, none⟩)]) (ev_makeFunc rfl) (by decide) ?_
  obtain ⟨y17, hy18, hS⟩ := bind_some' hS
  refine sr_call (vs := [v1, .func (.func 49) #[] #[.pointer (some ⟨g4, 0, none⟩)]]) rfl Try.call48 rfl (maps_DeleteFunc_map_delegate_way_delegate_delegation_delegate_way_delegate_delegation__Delegations_Drop_1_ok _ (hg.fr hz hb) (ρA := (frz ρ5 5)) hb.bd (hz.fr hg hb) (o := 101) (by decide) h2 he16 hy18) (by decide) ?_
  rintro _ w19 ⟨ρ22, rfl, h21, htr21⟩
  replace hB3 := hB3.mv (htr21.mv (i := 100) rfl)
  replace hb := hb.trans htr21
  replace h2 := h21
  clear h21
  refine sr_end (l' := [(0, .pointer (some ⟨gd_0, 0, none⟩)), (5, .int .i64 (mlen d_0.ways))]) (.cons rfl (.cons rfl (.nil _))) ?_
  refine ke_seq ?_
  refine ke_region ?_
  refine sr_ev (v := .int .i64 (mlen d_0.ways)) (ev_move rfl) (by decide) ?_
  refine sr_ev (v := .pointer (some ⟨gd_0, 0, none⟩)) (ev_move rfl) (by decide) ?_
  refine sr_ev (v := .pointer (some ⟨gd_0, 0, none⟩)) (ev_nilCheck rfl) (by decide) ?_
  refine sr_ev (v := .pointer (some ⟨gd_0, 0, none⟩)) (ev_fieldAddr (i := 0) Try.underlying54 rfl Try.info52 rfl rfl) (by decide) ?_
  refine sr_ev (v := v1) (ev_load Try.isAgg52 rfl (hB3.cell rfl)) (by decide) ?_
  refine sr_ev (v := .int .i64 (mlen y17)) (ev_mapLen h2 Try.underlying52 (Mv.of_below (i := 101) (ρ := ρ22) (Below.refl _ _)) rfl) (by decide) ?_
  refine sr_ev (v := .int .i64 (IntKind.i64.wrap ((mlen d_0.ways) - (mlen y17)))) (ev_sub rfl rfl) (by decide) ?_
  refine sr_ev (v := .int .i64 (IntKind.i64.wrap ((mlen d_0.ways) - (mlen y17)))) (ev_assign rfl) (by decide) ?_
  refine sr_end (l' := [(4, .int .i64 (IntKind.i64.wrap ((mlen d_0.ways) - (mlen y17))))]) (.cons rfl (.nil _)) ?_
  cases hS
  exact ke_ret1 Try.func24 rfl rfl ⟨_, rfl, leave ρA w0 o 2 ρ22, rfl, ⟨_, (hB3.mv (leave_mv (p := 0) (by decide) hb)), (h2.mv (leave_mv (p := 1) (by decide) hb))⟩, (leave_tr ho2 hb)⟩
theorem delegate_Delegations_made__nil_ok (w0 : World) (hg : Gs w0) {ρA : Tags} (hbd : ∀ b, ρA b ≠ 0 → b < w0.heap.size) (hz : Gz ρA) {r : Bool} (hS : delegate_Delegations_made__nil = some r) :
  Calls Try.prog 38 #[.pointer none] w0 (Ret (fun v w' => v = .bool r ∧ Below w0.heap.size w0 w')) := by
 unfold delegate_Delegations_made__nil at hS
 have hb := flat1_fr (ρ := ρA) (w := w0) hbd
 have hz := hz.flat1
 refine calls_of_ke Try.func38 rfl (n := 12) rfl rfl (l := [(0, .pointer none)]) rfl ?_
 refine ke_seq ?_
 refine ke_region ?_
 refine sr_ev (v := .bool false) (ev_assign rfl) (by decide) ?_
 refine sr_end (l' := [(0, .pointer none)]) (.cons rfl (.nil _)) ?_
 refine ke_seq ?_
 refine ke_region ?_
 refine sr_ev (v := .pointer none) (ev_move rfl) (by decide) ?_
 refine sr_ev (v := .bool false) (ev_pneT_nil Try.underlying27 rfl rfl) (by decide) ?_
 refine sr_ev (v := .bool false) (ev_move rfl) (by decide) ?_
 refine sr_pass (e := 5) rfl rfl rfl (by decide) ?_
 refine sr_pass (e := 5) rfl rfl rfl (by decide) ?_
 refine sr_pass (e := 5) rfl rfl rfl (by decide) ?_
 refine sr_pass (e := 5) rfl rfl rfl (by decide) ?_
 refine sr_pass (e := 5) rfl rfl rfl (by decide) ?_
 refine sr_ev (v := .bool false) (ev_pick_f rfl rfl rfl) (by decide) ?_
 refine sr_ev (v := .bool false) (ev_assign rfl) (by decide) ?_
 refine sr_end (l' := [(2, .bool false)]) (.cons rfl (.nil _)) ?_
 cases hS
 exact ke_ret1 Try.func38 rfl rfl ⟨_, rfl, rfl, (hb.below (flat1_le _))⟩
theorem delegate_Delegations_May__nil_ok (w0 : World) (hg : Gs w0) {ρA : Tags} (hbd : ∀ b, ρA b ≠ 0 → b < w0.heap.size) (hz : Gz ρA) {from_1 : Str} {to_2 : Str} {scopes_3 : List Str} {now_4 : Int} {v1 : Value} {r : Int} (h2 : SlR strC (Wb ρA) w0 v1 scopes_3) (hS : delegate_Delegations_May__nil from_1 to_2 scopes_3 now_4 = some r) :
  Calls Try.prog 26 #[.pointer none, str from_1, str to_2, v1, .int .i64 now_4] w0 (Ret (fun v w' => v = .int .i64 r ∧ Below w0.heap.size w0 w')) := by
 unfold delegate_Delegations_May__nil at hS
 have hb := flat1_fr (ρ := ρA) (w := w0) hbd
 have hz := hz.flat1
 replace h2 := SlR.mv h2 flat1_rd
 refine calls_of_ke Try.func26 rfl (n := 42) rfl rfl (l := [(0, .pointer none), (1, str from_1), (2, str to_2), (3, v1), (4, .int .i64 now_4)]) rfl ?_
 refine ke_seq ?_
 refine ke_region ?_
 refine sr_ev (v := .int .i64 0) (ev_assign rfl) (by decide) ?_
 refine sr_end (l' := [(0, .pointer none), (1, str from_1), (2, str to_2), (3, v1), (4, .int .i64 now_4)]) (.cons rfl (.cons rfl (.cons rfl (.cons rfl (.cons rfl (.nil _)))))) ?_
 refine ke_seq ?_
 refine ke_seq ?_
 refine ke_region ?_
 refine sr_ev (v := .pointer none) (ev_move rfl) (by decide) ?_
 obtain ⟨y3, hy4, hS⟩ := bind_some' hS
 obtain rfl : y3 = false := (Option.some.inj hy4).symm
 refine sr_call (vs := [.pointer none]) rfl Try.call38 rfl (delegate_Delegations_made__nil_ok _ (hg.fr hz hb) (ρA := (flat1 ρA)) hb.bd (hz.fr hg hb) hy4) (by decide) ?_
 rintro _ w5 ⟨rfl, hbw6⟩
 have htr7 := Tr.of_below hbw6 hb.bd
 replace h2 := h2.mv htr7.rd
 replace hb := hb.trans htr7
 refine sr_ev (v := .bool true) (ev_notc rfl rfl) (by decide) ?_
 refine sr_end (l' := [(0, .pointer none), (1, str from_1), (2, str to_2), (3, v1), (4, .int .i64 now_4), (16, .bool true)]) (.cons rfl (.cons rfl (.cons rfl (.cons rfl (.cons rfl (.cons rfl (.nil _))))))) ?_
 refine ke_cond (t := true) rfl (fun _ => ?_) (fun h => by cases h)
 refine ke_seq ?_
 refine ke_region ?_
 refine sr_ev (v := .int .i64 1) (ev_assign rfl) (by decide) ?_
 refine sr_end (l' := [(10, .int .i64 1)]) (.cons rfl (.nil _)) ?_
 cases hS
 exact ke_ret1 Try.func26 rfl rfl ⟨_, rfl, rfl, (hb.below (flat1_le _))⟩
theorem delegate_Delegations_Drop__nil_ok (w0 : World) (hg : Gs w0) {ρA : Tags} (hbd : ∀ b, ρA b ≠ 0 → b < w0.heap.size) (hz : Gz ρA) {user_1 : Str} {r : Int} (hS : delegate_Delegations_Drop__nil user_1 = some r) :
  Calls Try.prog 24 #[.pointer none, str user_1] w0 (Ret (fun v w' => v = .int .i64 r ∧ Below w0.heap.size w0 w')) := by
 unfold delegate_Delegations_Drop__nil at hS
 have hb := flat1_fr (ρ := ρA) (w := w0) hbd
 have hz := hz.flat1
 refine calls_of_ke Try.func24 rfl (n := 27) rfl rfl (l := [(0, .pointer none), (1, str user_1)]) rfl ?_
 refine ke_seq ?_
 refine ke_region ?_
 refine sr_boxT 5 (by decide) hb.bd rfl (by decide) ?_
 intro g1 ρ2 w3 hB5 htr4
 replace hb := hb.trans htr4
 replace hB5 : Blk ρ2 5 w3 g1 (.cells #[str user_1] 9 (0, 0)) := hB5
 refine sr_ev (v := .int .i64 0) (ev_assign rfl) (by decide) ?_
 refine sr_end (l' := [(0, .pointer none), (3, .pointer (some ⟨g1, 0, none⟩))]) (.cons rfl (.cons rfl (.nil _))) ?_
 refine ke_seq ?_
 refine ke_seq ?_
 refine ke_region ?_
 refine sr_ev (v := .pointer none) (ev_move rfl) (by decide) ?_
 obtain ⟨y6, hy7, hS⟩ := bind_some' hS
 obtain rfl : y6 = false := (Option.some.inj hy7).symm
 refine sr_call (vs := [.pointer none]) rfl Try.call38 rfl (delegate_Delegations_made__nil_ok _ (hg.fr hz hb) (ρA := ρ2) hb.bd (hz.fr hg hb) hy7) (by decide) ?_
 rintro _ w8 ⟨rfl, hbw9⟩
 have htr10 := Tr.of_below hbw9 hb.bd
 replace hB5 := hB5.mv (htr10.mv (i := 5) rfl)
 replace hb := hb.trans htr10
 refine sr_ev (v := .bool true) (ev_notc rfl rfl) (by decide) ?_
 refine sr_end (l' := [(0, .pointer none), (3, .pointer (some ⟨g1, 0, none⟩)), (8, .bool true)]) (.cons rfl (.cons rfl (.cons rfl (.nil _)))) ?_
 refine ke_cond (t := true) rfl (fun _ => ?_) (fun h => by cases h)
 refine ke_seq ?_
 refine ke_region ?_
 refine sr_ev (v := .int .i64 0) (ev_assign rfl) (by decide) ?_
 refine sr_end (l' := [(4, .int .i64 0)]) (.cons rfl (.nil _)) ?_
 cases hS
 exact ke_ret1 Try.func24 rfl rfl ⟨_, rfl, rfl, (hb.below (flat1_le _))⟩
theorem law35_awake_ok (w0 : World) (hg : Gs w0) {ρA : Tags} (hbd : ∀ b, ρA b ≠ 0 → b < w0.heap.size) (hz : Gz ρA) {r : Bool} (hS : law35_awake = some r) :
  Calls Try.prog 10 #[] w0 (Ret (fun v w' => v = .bool r ∧ Below w0.heap.size w0 w')) := by
 unfold law35_awake at hS
 have hb := flat1_fr (ρ := ρA) (w := w0) hbd
 have hz := hz.flat1
 refine calls_of_ke Try.func10 rfl (n := 115) rfl rfl (l := []) rfl ?_
 refine ke_seq ?_
 refine ke_region ?_
 refine sr_ev (v := .bool false) (ev_assign rfl) (by decide) ?_
 refine sr_end (l' := []) (.nil _) ?_
 refine ke_seq ?_
 refine ke_region ?_
 obtain ⟨y1, hy2, hS⟩ := bind_some' hS
 refine sr_call (vs := []) rfl Try.call11 rfl (delegate_New_ok _ (hg.fr hz hb) (ρA := (flat1 ρA)) hb.bd (hz.fr hg hb) (o := 100) (by decide) hy2) (by decide) ?_
 rintro _ w3 ⟨ρ10, g6, rfl, ⟨v7, hB9, h8⟩, htr5⟩
 replace hb := hb.trans htr5
 replace hB9 : Blk ρ10 100 w3 g6 (.cells #[v7] 54 (0, 0)) := hB9
 replace h8 : MapT delegate_way.ek delegate_delegation.c true ρ10 101 w3 v7 y1.ways := h8
 refine sr_ev (v := .pointer (some ⟨g6, 0, none⟩)) (ev_assign rfl) (by decide) ?_
 refine sr_end (l' := [(1, .pointer (some ⟨g6, 0, none⟩))]) (.cons rfl (.nil _)) ?_
 refine ke_seq ?_
 refine ke_seq ?_
 refine ke_region ?_
 refine sr_ev (v := .pointer (some ⟨g6, 0, none⟩)) (ev_move rfl) (by decide) ?_
 refine sr_ev (v := .bool false) (ev_peqT_some Try.underlying27 rfl rfl) (by decide) ?_
 refine sr_end (l' := [(1, .pointer (some ⟨g6, 0, none⟩)), (13, .bool false)]) (.cons rfl (.cons rfl (.nil _))) ?_
 refine ke_cond (t := false) rfl (fun h => by cases h) (fun _ => ?_)
 refine ke_skip ?_
 refine ke_seq ?_
 refine ke_region ?_
 refine sr_ev (v := .agg #[.int .i64 5, .int .i64 20]) (ev_build (vs := #[(0, .int .i64 5), (1, .int .i64 20)]) rfl (fun _ => by kernel_rfl)) (by decide) ?_
 refine sr_allocT 4 (by decide) hb.bd Try.zeroValue33 (by decide) ?_
 intro g11 ρ12 w13 hB15 htr14
 replace hB9 := hB9.mv (htr14.mv (i := 100) rfl)
 replace h8 := h8.mv (htr14.mv (i := 101) rfl)
 replace hb := hb.trans htr14
 replace hB15 : Blk ρ12 4 w13 g11 (.cells #[.int .i64 0, .int .i64 0] 33 (0, 0)) := hB15
 refine sr_storeT (v := .agg #[.int .i64 5, .int .i64 20]) (vs := [.int .i64 5, .int .i64 20]) (cs' := #[.int .i64 5, .int .i64 20]) hB15 (by decide) hb.bd rfl rfl rfl Try.sizeOf33 rfl rfl rfl ?_
 intro w16 hB151 htr17
 replace hB9 := hB9.mv (htr17.mv (i := 100) rfl)
 replace h8 := h8.mv (htr17.mv (i := 101) rfl)
 replace hb := hb.trans htr17
 replace hB15 : Blk ρ12 4 w16 g11 (.cells #[.int .i64 5, .int .i64 20] 33 (0, 0)) := hB151
 clear hB151
 refine sr_end (l' := [(1, .pointer (some ⟨g6, 0, none⟩)), (2, .pointer (some ⟨g11, 0, none⟩))]) (.cons rfl (.cons rfl (.nil _))) ?_
 refine ke_seq ?_
 refine ke_region ?_
 refine sr_ev (v := .pointer (some ⟨g6, 0, none⟩)) (ev_move rfl) (by decide) ?_
 refine sr_litT (c := strC) (ρ := ρ12) (E := 9) (xs := [[109, 97, 105, 108]]) (vs := #[(0, str ([109, 97, 105, 108]))]) (cs := #[str ([109, 97, 105, 108])]) (css := [[str ([109, 97, 105, 108])]]) rfl (fun _ => by kernel_rfl) rfl ⟨rfl, trivial⟩ rfl (by decide) hb.bd (by decide) ?_
 intro v18 w20 h19 hbw22
 have htr21 := Tr.of_below hbw22 hb.bd
 replace hB15 := hB15.mv (htr21.mv (i := 4) rfl)
 replace hB9 := hB9.mv (htr21.mv (i := 100) rfl)
 replace h8 := h8.mv (htr21.mv (i := 101) rfl)
 replace hb := hb.trans htr21
 refine sr_ev (v := .agg #[.int .i64 5, .int .i64 20]) (ev_loads (cs := [.int .i64 5, .int .i64 20]) Try.isAgg33 Try.sizeOf33 rfl (hB15.cells (vs := [.int .i64 5, .int .i64 20]) rfl)) (by decide) ?_
 obtain ⟨y23, hy24, hS⟩ := bind_some' hS
 refine sr_call (vs := [.pointer (some ⟨g6, 0, none⟩), str ([97, 110, 110]), str ([97, 110, 110]), v18, .agg #[.int .i64 5, .int .i64 20]]) rfl Try.call22 rfl (delegate_Delegations_Allow_ok (w_4 := (api_Window.mk 5 20)) _ (hg.fr hz hb) (ρA := ρ12) hb.bd (hz.fr hg hb) (o := 100) (by decide) h19 (⟨_, hB9, h8⟩ : delegate_Delegations.O (fun p => 100 + p) ρ12 w20 g6 y1) hy24) (by decide) ?_
 rintro _ w25 ⟨ρ31, rfl, ⟨v28, hB30, h29⟩, htr27⟩
 replace hB15 := hB15.mv (htr27.mv (i := 4) rfl)
 replace hb := hb.trans htr27
 replace hB30 : Blk ρ31 100 w25 g6 (.cells #[v28] 54 (0, 0)) := hB30
 replace h29 : MapT delegate_way.ek delegate_delegation.c true ρ31 101 w25 v28 y23.2.ways := h29
 refine sr_ev (v := .int .i64 y23.1) (ev_assign rfl) (by decide) ?_
 refine sr_end (l' := [(1, .pointer (some ⟨g6, 0, none⟩)), (2, .pointer (some ⟨g11, 0, none⟩)), (3, .int .i64 y23.1)]) (.cons rfl (.cons rfl (.cons rfl (.nil _)))) ?_
 refine ke_seq ?_
 refine ke_region ?_
 refine sr_ev (v := .pointer (some ⟨g6, 0, none⟩)) (ev_move rfl) (by decide) ?_
 refine sr_litT (c := strC) (ρ := ρ31) (E := 9) (xs := [[109, 97, 105, 108]]) (vs := #[(0, str ([109, 97, 105, 108]))]) (cs := #[str ([109, 97, 105, 108])]) (css := [[str ([109, 97, 105, 108])]]) rfl (fun _ => by kernel_rfl) rfl ⟨rfl, trivial⟩ rfl (by decide) hb.bd (by decide) ?_
 intro v32 w34 h33 hbw36
 have htr35 := Tr.of_below hbw36 hb.bd
 replace hB15 := hB15.mv (htr35.mv (i := 4) rfl)
 replace hB30 := hB30.mv (htr35.mv (i := 100) rfl)
 replace h29 := h29.mv (htr35.mv (i := 101) rfl)
 replace hb := hb.trans htr35
 refine sr_ev (v := .agg #[.int .i64 5, .int .i64 20]) (ev_loads (cs := [.int .i64 5, .int .i64 20]) Try.isAgg33 Try.sizeOf33 rfl (hB15.cells (vs := [.int .i64 5, .int .i64 20]) rfl)) (by decide) ?_
 obtain ⟨y37, hy38, hS⟩ := bind_some' hS
 refine sr_call (vs := [.pointer (some ⟨g6, 0, none⟩), str ([97, 110, 110]), str ([98, 111, 98]), v32, .agg #[.int .i64 5, .int .i64 20]]) rfl Try.call22 rfl (delegate_Delegations_Allow_ok (w_4 := (api_Window.mk 5 20)) _ (hg.fr hz hb) (ρA := ρ31) hb.bd (hz.fr hg hb) (o := 100) (by decide) h33 (⟨_, hB30, h29⟩ : delegate_Delegations.O (fun p => 100 + p) ρ31 w34 g6 y23.2) hy38) (by decide) ?_
 rintro _ w39 ⟨ρ45, rfl, ⟨v42, hB44, h43⟩, htr41⟩
 replace hB15 := hB15.mv (htr41.mv (i := 4) rfl)
 replace hb := hb.trans htr41
 replace hB44 : Blk ρ45 100 w39 g6 (.cells #[v42] 54 (0, 0)) := hB44
 replace h43 : MapT delegate_way.ek delegate_delegation.c true ρ45 101 w39 v42 y37.2.ways := h43
 refine sr_ev (v := .int .i64 y37.1) (ev_assign rfl) (by decide) ?_
 refine sr_end (l' := [(1, .pointer (some ⟨g6, 0, none⟩)), (2, .pointer (some ⟨g11, 0, none⟩)), (3, .int .i64 y23.1), (4, .int .i64 y37.1)]) (.cons rfl (.cons rfl (.cons rfl (.cons rfl (.nil _))))) ?_
 refine ke_seq ?_
 refine ke_region ?_
 refine sr_ev (v := .pointer (some ⟨g6, 0, none⟩)) (ev_move rfl) (by decide) ?_
 refine sr_litT (c := strC) (ρ := ρ45) (E := 9) (xs := [[109, 97, 105, 108, 46, 114, 101, 97, 100]]) (vs := #[(0, str ([109, 97, 105, 108, 46, 114, 101, 97, 100]))]) (cs := #[str ([109, 97, 105, 108, 46, 114, 101, 97, 100])]) (css := [[str ([109, 97, 105, 108, 46, 114, 101, 97, 100])]]) rfl (fun _ => by kernel_rfl) rfl ⟨rfl, trivial⟩ rfl (by decide) hb.bd (by decide) ?_
 intro v46 w48 h47 hbw50
 have htr49 := Tr.of_below hbw50 hb.bd
 replace hB15 := hB15.mv (htr49.mv (i := 4) rfl)
 replace hB44 := hB44.mv (htr49.mv (i := 100) rfl)
 replace h43 := h43.mv (htr49.mv (i := 101) rfl)
 replace hb := hb.trans htr49
 refine sr_ev (v := .agg #[.int .i64 5, .int .i64 20]) (ev_loads (cs := [.int .i64 5, .int .i64 20]) Try.isAgg33 Try.sizeOf33 rfl (hB15.cells (vs := [.int .i64 5, .int .i64 20]) rfl)) (by decide) ?_
 obtain ⟨y51, hy52, hS⟩ := bind_some' hS
 refine sr_call (vs := [.pointer (some ⟨g6, 0, none⟩), str ([98, 111, 98]), str ([99, 121, 100]), v46, .agg #[.int .i64 5, .int .i64 20]]) rfl Try.call22 rfl (delegate_Delegations_Allow_ok (w_4 := (api_Window.mk 5 20)) _ (hg.fr hz hb) (ρA := ρ45) hb.bd (hz.fr hg hb) (o := 100) (by decide) h47 (⟨_, hB44, h43⟩ : delegate_Delegations.O (fun p => 100 + p) ρ45 w48 g6 y37.2) hy52) (by decide) ?_
 rintro _ w53 ⟨ρ59, rfl, ⟨v56, hB58, h57⟩, htr55⟩
 replace hb := hb.trans htr55
 replace hB58 : Blk ρ59 100 w53 g6 (.cells #[v56] 54 (0, 0)) := hB58
 replace h57 : MapT delegate_way.ek delegate_delegation.c true ρ59 101 w53 v56 y51.2.ways := h57
 refine sr_ev (v := .int .i64 y51.1) (ev_assign rfl) (by decide) ?_
 refine sr_end (l' := [(1, .pointer (some ⟨g6, 0, none⟩)), (3, .int .i64 y23.1), (4, .int .i64 y37.1), (5, .int .i64 y51.1)]) (.cons rfl (.cons rfl (.cons rfl (.cons rfl (.nil _))))) ?_
 refine ke_seq ?_
 refine ke_region ?_
 refine sr_ev (v := .pointer (some ⟨g6, 0, none⟩)) (ev_move rfl) (by decide) ?_
 refine sr_litT (c := strC) (ρ := ρ59) (E := 9) (xs := [[109, 97, 105, 108, 46, 114, 101, 97, 100]]) (vs := #[(0, str ([109, 97, 105, 108, 46, 114, 101, 97, 100]))]) (cs := #[str ([109, 97, 105, 108, 46, 114, 101, 97, 100])]) (css := [[str ([109, 97, 105, 108, 46, 114, 101, 97, 100])]]) rfl (fun _ => by kernel_rfl) rfl ⟨rfl, trivial⟩ rfl (by decide) hb.bd (by decide) ?_
 intro v60 w62 h61 hbw64
 have htr63 := Tr.of_below hbw64 hb.bd
 replace hB58 := hB58.mv (htr63.mv (i := 100) rfl)
 replace h57 := h57.mv (htr63.mv (i := 101) rfl)
 replace hb := hb.trans htr63
 refine sr_ev (v := .agg #[.int .i64 5, .int .i64 5]) (ev_build (vs := #[(0, .int .i64 5), (1, .int .i64 5)]) rfl (fun _ => by kernel_rfl)) (by decide) ?_
 obtain ⟨y65, hy66, hS⟩ := bind_some' hS
 refine sr_call (vs := [.pointer (some ⟨g6, 0, none⟩), str ([98, 111, 98]), str ([99, 121, 100]), v60, .agg #[.int .i64 5, .int .i64 5]]) rfl Try.call22 rfl (delegate_Delegations_Allow_ok (w_4 := (api_Window.mk 5 5)) _ (hg.fr hz hb) (ρA := ρ59) hb.bd (hz.fr hg hb) (o := 100) (by decide) h61 (⟨_, hB58, h57⟩ : delegate_Delegations.O (fun p => 100 + p) ρ59 w62 g6 y51.2) hy66) (by decide) ?_
 rintro _ w67 ⟨ρ73, rfl, ⟨v70, hB72, h71⟩, htr69⟩
 replace hb := hb.trans htr69
 replace hB72 : Blk ρ73 100 w67 g6 (.cells #[v70] 54 (0, 0)) := hB72
 replace h71 : MapT delegate_way.ek delegate_delegation.c true ρ73 101 w67 v70 y65.2.ways := h71
 refine sr_ev (v := .int .i64 y65.1) (ev_assign rfl) (by decide) ?_
 refine sr_end (l' := [(1, .pointer (some ⟨g6, 0, none⟩)), (3, .int .i64 y23.1), (4, .int .i64 y37.1), (5, .int .i64 y51.1), (6, .int .i64 y65.1)]) (.cons rfl (.cons rfl (.cons rfl (.cons rfl (.cons rfl (.nil _)))))) ?_
 refine ke_seq ?_
 refine ke_region ?_
 refine sr_litT (c := strC) (ρ := ρ73) (E := 9) (xs := [[97, 110, 110], [98, 111, 98], [99, 121, 100]]) (vs := #[(0, str ([97, 110, 110])), (1, str ([98, 111, 98])), (2, str ([99, 121, 100]))]) (cs := #[str ([97, 110, 110]), str ([98, 111, 98]), str ([99, 121, 100])]) (css := [[str ([97, 110, 110])], [str ([98, 111, 98])], [str ([99, 121, 100])]]) rfl (fun _ => by kernel_rfl) rfl ⟨rfl, ⟨rfl, ⟨rfl, trivial⟩⟩⟩ rfl (by decide) hb.bd (by decide) ?_
 intro v74 w76 h75 hbw78
 have htr77 := Tr.of_below hbw78 hb.bd
 replace hB72 := hB72.mv (htr77.mv (i := 100) rfl)
 replace h71 := h71.mv (htr77.mv (i := 101) rfl)
 replace hb := hb.trans htr77
 refine sr_ev (v := v74) (ev_assign rfl) (by decide) ?_
 refine sr_end (l' := [(1, .pointer (some ⟨g6, 0, none⟩)), (3, .int .i64 y23.1), (4, .int .i64 y37.1), (5, .int .i64 y51.1), (6, .int .i64 y65.1), (7, v74)]) (.cons rfl (.cons rfl (.cons rfl (.cons rfl (.cons rfl (.cons rfl (.nil _))))))) ?_
 refine ke_seq ?_
 refine ke_seq ?_
 refine ke_region ?_
 refine sr_ev (v := .int .i64 y23.1) (ev_move rfl) (by decide) ?_
 refine sr_ev (v := .bool (y23.1 != 28)) (ev_ne rfl rfl) (by decide) ?_
 refine sr_ev (v := .bool (y23.1 != 28)) (ev_move rfl) (by decide) ?_
 refine sr_join (m := 3) (C := fun (x : Bool) w1 => x = ((y23.1 != 28) || (y37.1 != 0)) ∧ w76 = w1) (l' := fun x => [(1, .pointer (some ⟨g6, 0, none⟩)), (5, .int .i64 y51.1), (6, .int .i64 y65.1), (7, v74), (37, .bool x)]) ?_ ?_
 ·rintro _ _ ⟨rfl, rfl⟩
  refine sr_ev (v := .bool ((y23.1 != 28) || (y37.1 != 0))) (ev_move rfl) (by decide) ?_
  refine sr_join (m := 3) (C := fun (x : Bool) w1 => x = (((y23.1 != 28) || (y37.1 != 0)) || (y51.1 != 0)) ∧ w76 = w1) (l' := fun x => [(1, .pointer (some ⟨g6, 0, none⟩)), (6, .int .i64 y65.1), (7, v74), (41, .bool x)]) ?_ ?_
  ·rintro _ _ ⟨rfl, rfl⟩
   refine sr_ev (v := .bool (((y23.1 != 28) || (y37.1 != 0)) || (y51.1 != 0))) (ev_move rfl) (by decide) ?_
   refine sr_join (m := 3) (C := fun (x : Bool) w1 => x = ((((y23.1 != 28) || (y37.1 != 0)) || (y51.1 != 0)) || (y65.1 != 2)) ∧ w76 = w1) (l' := fun x => [(1, .pointer (some ⟨g6, 0, none⟩)), (7, v74), (45, .bool x)]) ?_ ?_
   ·rintro _ _ ⟨rfl, rfl⟩
    refine sr_ev (v := .bool ((((y23.1 != 28) || (y37.1 != 0)) || (y51.1 != 0)) || (y65.1 != 2))) (ev_move rfl) (by decide) ?_
    obtain ⟨z105, hz107, hS⟩ := bind_some' hS
    refine sr_join (m := 5) (C := fun (z : Bool) w1 => z105 = z ∧ ∃ ρ1, Tr ρ73 w76 (fun _ => false) ρ1 w1) (l' := fun z => [(1, .pointer (some ⟨g6, 0, none⟩)), (7, v74), (51, .bool z)]) ?_ ?_
    ·rintro _ w108 ⟨rfl, ρ109, hj106⟩
     replace h75 := h75.mv hj106.rd
     replace hB72 := hB72.mv (hj106.mv (i := 100) rfl)
     replace h71 := h71.mv (hj106.mv (i := 101) rfl)
     replace hb := hb.trans hj106
     refine sr_ev (v := .bool z105) (ev_move rfl) (by decide) ?_
     obtain ⟨z123, hz125, hS⟩ := bind_some' hS
     refine sr_join (m := 5) (C := fun (z : Bool) w1 => z123 = z ∧ ∃ ρ1, Tr ρ109 w108 (fun _ => false) ρ1 w1) (l' := fun z => [(1, .pointer (some ⟨g6, 0, none⟩)), (7, v74), (57, .bool z)]) ?_ ?_
     ·rintro _ w126 ⟨rfl, ρ127, hj124⟩
      replace h75 := h75.mv hj124.rd
      replace hB72 := hB72.mv (hj124.mv (i := 100) rfl)
      replace h71 := h71.mv (hj124.mv (i := 101) rfl)
      replace hb := hb.trans hj124
      refine sr_ev (v := .bool z123) (ev_move rfl) (by decide) ?_
      obtain ⟨z141, hz143, hS⟩ := bind_some' hS
      refine sr_join (m := 6) (C := fun (z : Bool) w1 => z141 = z ∧ ∃ ρ1, Tr ρ127 w126 (fun _ => false) ρ1 w1) (l' := fun z => [(1, .pointer (some ⟨g6, 0, none⟩)), (7, v74), (64, .bool z)]) ?_ ?_
      ·rintro _ w144 ⟨rfl, ρ145, hj142⟩
       replace h75 := h75.mv hj142.rd
       replace hB72 := hB72.mv (hj142.mv (i := 100) rfl)
       replace h71 := h71.mv (hj142.mv (i := 101) rfl)
       replace hb := hb.trans hj142
       refine sr_ev (v := .bool z141) (ev_move rfl) (by decide) ?_
       obtain ⟨z159, hz161, hS⟩ := bind_some' hS
       refine sr_join (m := 6) (C := fun (z : Bool) w1 => z159 = z ∧ ∃ ρ1, Tr ρ145 w144 (fun _ => false) ρ1 w1) (l' := fun z => [(1, .pointer (some ⟨g6, 0, none⟩)), (7, v74), (71, .bool z)]) ?_ ?_
       ·rintro _ w162 ⟨rfl, ρ163, hj160⟩
        replace h75 := h75.mv hj160.rd
        replace hB72 := hB72.mv (hj160.mv (i := 100) rfl)
        replace h71 := h71.mv (hj160.mv (i := 101) rfl)
        replace hb := hb.trans hj160
        refine sr_ev (v := .bool z159) (ev_move rfl) (by decide) ?_
        obtain ⟨z177, hz179, hS⟩ := bind_some' hS
        refine sr_join (m := 6) (C := fun (z : Bool) w1 => z177 = z ∧ ∃ ρ1, Tr ρ163 w162 (fun _ => false) ρ1 w1) (l' := fun z => [(1, .pointer (some ⟨g6, 0, none⟩)), (78, .bool z)]) ?_ ?_
        ·rintro _ w180 ⟨rfl, ρ181, hj178⟩
         replace hB72 := hB72.mv (hj178.mv (i := 100) rfl)
         replace h71 := h71.mv (hj178.mv (i := 101) rfl)
         replace hb := hb.trans hj178
         refine sr_end (l' := [(1, .pointer (some ⟨g6, 0, none⟩)), (78, .bool z177)]) (.cons rfl (.cons rfl (.nil _))) ?_
         refine ke_cond (t := z177) rfl (fun hc192 => ?_) (fun hc192 => ?_)
         ·replace hS := ite_true' hS hc192
          refine ke_seq ?_
          refine ke_region ?_
          refine sr_ev (v := .bool false) (ev_assign rfl) (by decide) ?_
          refine sr_end (l' := [(0, .bool false)]) (.cons rfl (.nil _)) ?_
          cases hS
          exact ke_ret1 Try.func10 rfl rfl ⟨_, rfl, rfl, (hb.below (flat1_le _))⟩
         ·replace hS := ite_false' hS hc192
          refine ke_skip ?_
          refine ke_seq ?_
          refine ke_region ?_
          refine sr_ev (v := .pointer (some ⟨g6, 0, none⟩)) (ev_move rfl) (by decide) ?_
          obtain ⟨y193, hy194, hS⟩ := bind_some' hS
          refine sr_call (vs := [.pointer (some ⟨g6, 0, none⟩), str ([99, 121, 100]), str ([109, 97, 105, 108, 46, 114, 101, 97, 100]), .int .i64 6]) rfl Try.call20 rfl (delegate_Delegations_Reach_ok _ (hg.fr hz hb) (ρA := ρ181) hb.bd (hz.fr hg hb) (τ0 := (fun p => 100 + p)) (fun p => Nat.le_add_right_of_le (by decide)) (⟨_, hB72, h71⟩ : delegate_Delegations.O (fun p => 100 + p) ρ181 w180 g6 y65.2) hy194) (by decide) ?_
          rintro v198 w195 ⟨_, rfl, h199, hbw196⟩
          have htr197 := Tr.of_below hbw196 hb.bd
          replace hB72 := hB72.mv (htr197.mv (i := 100) rfl)
          replace h71 := h71.mv (htr197.mv (i := 101) rfl)
          replace hb := hb.trans htr197
          refine sr_ev (v := v198) (ev_assign rfl) (by decide) ?_
          refine sr_end (l' := [(1, .pointer (some ⟨g6, 0, none⟩)), (8, v198)]) (.cons rfl (.cons rfl (.nil _))) ?_
          refine ke_seq ?_
          refine ke_region ?_
          refine sr_ev (v := .pointer (some ⟨g6, 0, none⟩)) (ev_move rfl) (by decide) ?_
          obtain ⟨y200, hy201, hS⟩ := bind_some' hS
          refine sr_call (vs := [.pointer (some ⟨g6, 0, none⟩), str ([97, 110, 110]), str ([98, 111, 98]), .int .i64 6]) rfl Try.call16 rfl (delegate_Delegations_Scopes_ok _ (hg.fr hz hb) (ρA := ρ181) hb.bd (hz.fr hg hb) (τ0 := (fun p => 100 + p)) (fun p => Nat.le_add_right_of_le (by decide)) (⟨_, hB72, h71⟩ : delegate_Delegations.O (fun p => 100 + p) ρ181 w195 g6 y65.2) hy201) (by decide) ?_
          rintro v205 w202 ⟨_, rfl, h206, hbw203⟩
          have htr204 := Tr.of_below hbw203 hb.bd
          replace h199 := h199.mv htr204.rd
          replace hB72 := hB72.mv (htr204.mv (i := 100) rfl)
          replace h71 := h71.mv (htr204.mv (i := 101) rfl)
          replace hb := hb.trans htr204
          refine sr_ev (v := v205) (ev_assign rfl) (by decide) ?_
          refine sr_end (l' := [(1, .pointer (some ⟨g6, 0, none⟩)), (8, v198), (9, v205)]) (.cons rfl (.cons rfl (.cons rfl (.nil _)))) ?_
          refine ke_seq ?_
          refine ke_region ?_
          refine sr_ev (v := .pointer none) (ev_assign rfl) (by decide) ?_
          refine sr_end (l' := [(1, .pointer (some ⟨g6, 0, none⟩)), (8, v198), (9, v205), (10, .pointer none)]) (.cons rfl (.cons rfl (.cons rfl (.cons rfl (.nil _))))) ?_
          refine ke_seq ?_
          refine ke_region ?_
          refine sr_ev (v := v198) (ev_move rfl) (by decide) ?_
          refine sr_litT (c := strC) (ρ := ρ181) (E := 9) (xs := [[97, 110, 110], [98, 111, 98]]) (vs := #[(0, str ([97, 110, 110])), (1, str ([98, 111, 98]))]) (cs := #[str ([97, 110, 110]), str ([98, 111, 98])]) (css := [[str ([97, 110, 110])], [str ([98, 111, 98])]]) rfl (fun _ => by kernel_rfl) rfl ⟨rfl, ⟨rfl, trivial⟩⟩ rfl (by decide) hb.bd (by decide) ?_
          intro v207 w209 h208 hbw211
          have htr210 := Tr.of_below hbw211 hb.bd
          replace h206 := h206.mv htr210.rd
          replace h199 := h199.mv htr210.rd
          replace hB72 := hB72.mv (htr210.mv (i := 100) rfl)
          replace h71 := h71.mv (htr210.mv (i := 101) rfl)
          replace hb := hb.trans htr210
          obtain ⟨y212, hy213, hS⟩ := bind_some' hS
          refine sr_call (vs := [v198, v207]) rfl Try.call15 rfl (ref03_Same_ok _ (hg.fr hz hb) h199.asSl h208.asSl hy213) (by decide) ?_
          rintro _ w214 ⟨rfl, hbw215⟩
          have htr216 := Tr.of_below hbw215 hb.bd
          replace h206 := h206.mv htr216.rd
          replace hB72 := hB72.mv (htr216.mv (i := 100) rfl)
          replace h71 := h71.mv (htr216.mv (i := 101) rfl)
          replace hb := hb.trans htr216
          refine sr_ev (v := .bool y212) (ev_move rfl) (by decide) ?_
          obtain ⟨z219, hz221, hS⟩ := bind_some' hS
          refine sr_join (m := 4) (C := fun (z : Bool) w1 => z219 = z ∧ ∃ ρ1, Tr ρ181 w214 (fun _ => false) ρ1 w1) (l' := fun z => [(1, .pointer (some ⟨g6, 0, none⟩)), (10, .pointer none), (90, .bool z)]) ?_ ?_
          ·rintro _ w222 ⟨rfl, ρ223, hj220⟩
           replace hB72 := hB72.mv (hj220.mv (i := 100) rfl)
           replace h71 := h71.mv (hj220.mv (i := 101) rfl)
           replace hb := hb.trans hj220
           refine sr_ev (v := .bool z219) (ev_move rfl) (by decide) ?_
           obtain ⟨z237, hz239, hS⟩ := bind_some' hS
           refine sr_join (m := 3) (C := fun (z : Bool × delegate_Delegations) w1 => z237 = z ∧ ∃ ρ1, delegate_Delegations.O (fun p => 100 + p) ρ1 w1 g6 z.2 ∧ Tr ρ223 w222 (fun t => ([100, 101] : List Nat).contains t) ρ1 w1) (l' := fun z => [(1, .pointer (some ⟨g6, 0, none⟩)), (10, .pointer none), (94, .bool z.1)]) ?_ ?_
           ·rintro _ w240 ⟨rfl, ρ241, ⟨v252, hB254, h253⟩, hj238⟩
            replace hb := hb.trans hj238
            replace hB254 : Blk ρ241 100 w240 g6 (.cells #[v252] 54 (0, 0)) := hB254
            replace h253 : MapT delegate_way.ek delegate_delegation.c true ρ241 101 w240 v252 z237.2.ways := h253
            refine sr_ev (v := .bool z237.1) (ev_move rfl) (by decide) ?_
            obtain ⟨z257, hz259, hS⟩ := bind_some' hS
            refine sr_join (m := 4) (C := fun (z : Bool) w1 => z257 = z ∧ ∃ ρ1, Tr ρ241 w240 (fun _ => false) ρ1 w1) (l' := fun z => [(1, .pointer (some ⟨g6, 0, none⟩)), (10, .pointer none), (99, .bool z)]) ?_ ?_
            ·rintro _ w260 ⟨rfl, ρ261, hj258⟩
             replace hB254 := hB254.mv (hj258.mv (i := 100) rfl)
             replace h253 := h253.mv (hj258.mv (i := 101) rfl)
             replace hb := hb.trans hj258
             refine sr_ev (v := .bool z257) (ev_move rfl) (by decide) ?_
             obtain ⟨z270, hz272, hS⟩ := bind_some' hS
             refine sr_join (m := 4) (C := fun (z : Bool × delegate_Delegations) w1 => z270 = z ∧ ∃ ρ1, delegate_Delegations.O (fun p => 100 + p) ρ1 w1 g6 z.2 ∧ Tr ρ261 w260 (fun t => ([100, 101] : List Nat).contains t) ρ1 w1) (l' := fun z => [(10, .pointer none), (104, .bool z.1)]) ?_ ?_
             ·rintro _ w273 ⟨rfl, ρ274, ⟨v285, hB287, h286⟩, hj271⟩
              replace hb := hb.trans hj271
              replace hB287 : Blk ρ274 100 w273 g6 (.cells #[v285] 54 (0, 0)) := hB287
              replace h286 : MapT delegate_way.ek delegate_delegation.c true ρ274 101 w273 v285 z270.2.ways := h286
              refine sr_ev (v := .bool z270.1) (ev_move rfl) (by decide) ?_
              obtain ⟨z290, hz292, hS⟩ := bind_some' hS
              refine sr_join (m := 4) (C := fun (z : Bool) w1 => z290 = z ∧ ∃ ρ1, Tr ρ274 w273 (fun _ => false) ρ1 w1) (l' := fun z => [(10, .pointer none), (109, .bool z)]) ?_ ?_
              ·rintro _ w293 ⟨rfl, ρ294, hj291⟩
               replace hb := hb.trans hj291
               refine sr_ev (v := .bool z290) (ev_move rfl) (by decide) ?_
               obtain ⟨z303, hz305, hS⟩ := bind_some' hS
               refine sr_join (m := 4) (C := fun (z : Bool) w1 => z303 = z ∧ ∃ ρ1, Tr ρ294 w293 (fun _ => false) ρ1 w1) (l' := fun z => [(114, .bool z)]) ?_ ?_
               ·rintro _ w306 ⟨rfl, ρ307, hj304⟩
                replace hb := hb.trans hj304
                refine sr_ev (v := .bool z303) (ev_assign rfl) (by decide) ?_
                refine sr_end (l' := [(0, .bool z303)]) (.cons rfl (.nil _)) ?_
                cases hS
                exact ke_ret1 Try.func10 rfl rfl ⟨_, rfl, rfl, (hb.below (flat1_le _))⟩
               ·intro K302
                clear hS
                have hj304 : Tr ρ294 w293 (fun _ => false) ρ294 w293 := (Tr.refl hb.bd).weak (fun _ _ => rfl) rfl rfl
                rcases Bool.eq_false_or_eq_true z290 with hg301 | hg301
                ·have hS := ite_true' hz305 hg301
                 refine sr_evg (b := true) (e := 110) rfl rfl hg301 (v := .pointer none) (ev_move rfl) (by decide) ?_
                 obtain ⟨y309, hy310, hS⟩ := bind_some' hS
                 refine sr_callg (b := true) (e := 110) rfl rfl hg301 (vs := [.pointer none, str ([97, 110, 110])]) rfl Try.call24 rfl (delegate_Delegations_Drop__nil_ok _ (hg.fr hz hb) (ρA := ρ294) hb.bd (hz.fr hg hb) hy310) (by decide) ?_
                 rintro _ w311 ⟨rfl, hbw312⟩
                 have htr313 := Tr.of_below hbw312 hb.bd
                 replace hb := hb.trans htr313
                 replace hj304 := (hj304.trans htr313).weak (J' := (fun _ => false)) (by intro t h; simp [rng] at h ⊢ <;> omega) rfl rfl
                 refine sr_evg (b := true) (e := 110) rfl rfl hg301 (v := .bool (y309 == 0)) (ev_eq rfl rfl) (by decide) ?_
                 refine sr_ev (v := .bool (y309 == 0)) (ev_pick_t rfl hg301 rfl) (by decide) ?_
                 exact sr_weaken (l' := [(114, .bool (y309 == 0))]) (.cons rfl (.nil _)) (K302 (y309 == 0) _ ⟨(Option.some.inj hS).symm, _, hj304⟩)
                ·have hS := ite_false' hz305 hg301
                 refine sr_pass (e := 110) rfl rfl (by rw [hg301]; rfl) (by decide) ?_
                 refine sr_pass (e := 110) rfl rfl (by rw [hg301]; rfl) (by decide) ?_
                 refine sr_pass (e := 110) rfl rfl (by rw [hg301]; rfl) (by decide) ?_
                 refine sr_ev (v := .bool false) (ev_pick_f rfl hg301 rfl) (by decide) ?_
                 exact sr_weaken (l' := [(114, .bool false)]) (.cons rfl (.nil _)) (K302 false _ ⟨(Option.some.inj hS).symm, _, hj304⟩)
              ·intro K289
               clear hS
               have hj291 : Tr ρ274 w273 (fun _ => false) ρ274 w273 := (Tr.refl hb.bd).weak (fun _ _ => rfl) rfl rfl
               rcases Bool.eq_false_or_eq_true z270.1 with hg288 | hg288
               ·have hS := ite_true' hz292 hg288
                refine sr_evg (b := true) (e := 105) rfl rfl hg288 (v := .pointer none) (ev_move rfl) (by decide) ?_
                obtain ⟨y296, hy297, hS⟩ := bind_some' hS
                refine sr_callg (b := true) (e := 105) rfl rfl hg288 (vs := [.pointer none, str ([97, 110, 110]), str ([98, 111, 98]), (.slice none 0 0), .int .i64 6]) rfl Try.call26 rfl (delegate_Delegations_May__nil_ok _ (hg.fr hz hb) (ρA := ρ274) hb.bd (hz.fr hg hb) (SlR.nil (A := Wb ρ274)) hy297) (by decide) ?_
                rintro _ w298 ⟨rfl, hbw299⟩
                have htr300 := Tr.of_below hbw299 hb.bd
                replace hb := hb.trans htr300
                replace hj291 := (hj291.trans htr300).weak (J' := (fun _ => false)) (by intro t h; simp [rng] at h ⊢ <;> omega) rfl rfl
                refine sr_evg (b := true) (e := 105) rfl rfl hg288 (v := .bool (y296 == 1)) (ev_eq rfl rfl) (by decide) ?_
                refine sr_ev (v := .bool (y296 == 1)) (ev_pick_t rfl hg288 rfl) (by decide) ?_
                exact sr_weaken (l' := [(10, .pointer none), (109, .bool (y296 == 1))]) (.cons rfl (.cons rfl (.nil _))) (K289 (y296 == 1) _ ⟨(Option.some.inj hS).symm, _, hj291⟩)
               ·have hS := ite_false' hz292 hg288
                refine sr_pass (e := 105) rfl rfl (by rw [hg288]; rfl) (by decide) ?_
                refine sr_pass (e := 105) rfl rfl (by rw [hg288]; rfl) (by decide) ?_
                refine sr_pass (e := 105) rfl rfl (by rw [hg288]; rfl) (by decide) ?_
                refine sr_ev (v := .bool false) (ev_pick_f rfl hg288 rfl) (by decide) ?_
                exact sr_weaken (l' := [(10, .pointer none), (109, .bool false)]) (.cons rfl (.cons rfl (.nil _))) (K289 false _ ⟨(Option.some.inj hS).symm, _, hj291⟩)
             ·intro K269
              clear hS
              have hj271 : Tr ρ261 w260 (fun t => ([100, 101] : List Nat).contains t) ρ261 w260 := (Tr.refl hb.bd).weak (fun _ _ => rfl) rfl rfl
              rcases Bool.eq_false_or_eq_true z257 with hg268 | hg268
              ·have hS := ite_true' hz272 hg268
               refine sr_evg (b := true) (e := 100) rfl rfl hg268 (v := .pointer (some ⟨g6, 0, none⟩)) (ev_move rfl) (by decide) ?_
               obtain ⟨y276, hy277, hS⟩ := bind_some' hS
               refine sr_callg (b := true) (e := 100) rfl rfl hg268 (vs := [.pointer (some ⟨g6, 0, none⟩), str ([99, 121, 100])]) rfl Try.call24 rfl (delegate_Delegations_Drop_ok _ (hg.fr hz hb) (ρA := ρ261) hb.bd (hz.fr hg hb) (o := 100) (by decide) (⟨_, hB254, h253⟩ : delegate_Delegations.O (fun p => 100 + p) ρ261 w260 g6 z237.2) hy277) (by decide) ?_
               rintro _ w278 ⟨ρ284, rfl, ⟨v281, hB283, h282⟩, htr280⟩
               replace hb := hb.trans htr280
               replace hj271 := (hj271.trans htr280).weak (J' := (fun t => ([100, 101] : List Nat).contains t)) (by intro t h; simp [rng] at h ⊢ <;> omega) rfl rfl
               replace hB283 : Blk ρ284 100 w278 g6 (.cells #[v281] 54 (0, 0)) := hB283
               replace h282 : MapT delegate_way.ek delegate_delegation.c true ρ284 101 w278 v281 y276.2.ways := h282
               refine sr_evg (b := true) (e := 100) rfl rfl hg268 (v := .bool (y276.1 == 1)) (ev_eq rfl rfl) (by decide) ?_
               refine sr_ev (v := .bool (y276.1 == 1)) (ev_pick_t rfl hg268 rfl) (by decide) ?_
               exact sr_weaken (l' := [(10, .pointer none), (104, .bool (y276.1 == 1))]) (.cons rfl (.cons rfl (.nil _))) (K269 (y276.1 == 1, y276.2) _ ⟨(Option.some.inj hS).symm, _, ⟨_, hB283, h282⟩, hj271⟩)
              ·have hS := ite_false' hz272 hg268
               refine sr_pass (e := 100) rfl rfl (by rw [hg268]; rfl) (by decide) ?_
               refine sr_pass (e := 100) rfl rfl (by rw [hg268]; rfl) (by decide) ?_
               refine sr_pass (e := 100) rfl rfl (by rw [hg268]; rfl) (by decide) ?_
               refine sr_ev (v := .bool false) (ev_pick_f rfl hg268 rfl) (by decide) ?_
               exact sr_weaken (l' := [(10, .pointer none), (104, .bool false)]) (.cons rfl (.cons rfl (.nil _))) (K269 (false, z237.2) _ ⟨(Option.some.inj hS).symm, _, ⟨_, hB254, h253⟩, hj271⟩)
            ·intro K256
             clear hS
             have hj258 : Tr ρ241 w240 (fun _ => false) ρ241 w240 := (Tr.refl hb.bd).weak (fun _ _ => rfl) rfl rfl
             rcases Bool.eq_false_or_eq_true z237.1 with hg255 | hg255
             ·have hS := ite_true' hz259 hg255
              refine sr_evg (b := true) (e := 95) rfl rfl hg255 (v := .pointer (some ⟨g6, 0, none⟩)) (ev_move rfl) (by decide) ?_
              obtain ⟨y263, hy264, hS⟩ := bind_some' hS
              refine sr_callg (b := true) (e := 95) rfl rfl hg255 (vs := [.pointer (some ⟨g6, 0, none⟩), str ([97, 110, 110]), str ([98, 111, 98]), (.slice none 0 0), .int .i64 6]) rfl Try.call26 rfl (delegate_Delegations_May_ok _ (hg.fr hz hb) (ρA := ρ241) hb.bd (hz.fr hg hb) (τ0 := (fun p => 100 + p)) (fun p => Nat.le_add_right_of_le (by decide)) (SlR.nil (A := Wb ρ241)) (⟨_, hB254, h253⟩ : delegate_Delegations.O (fun p => 100 + p) ρ241 w240 g6 z237.2) hy264) (by decide) ?_
              rintro _ w265 ⟨rfl, hbw266⟩
              have htr267 := Tr.of_below hbw266 hb.bd
              replace hB254 := hB254.mv (htr267.mv (i := 100) rfl)
              replace h253 := h253.mv (htr267.mv (i := 101) rfl)
              replace hb := hb.trans htr267
              replace hj258 := (hj258.trans htr267).weak (J' := (fun _ => false)) (by intro t h; simp [rng] at h ⊢ <;> omega) rfl rfl
              refine sr_evg (b := true) (e := 95) rfl rfl hg255 (v := .bool (y263 == 11)) (ev_eq rfl rfl) (by decide) ?_
              refine sr_ev (v := .bool (y263 == 11)) (ev_pick_t rfl hg255 rfl) (by decide) ?_
              exact sr_weaken (l' := [(1, .pointer (some ⟨g6, 0, none⟩)), (10, .pointer none), (99, .bool (y263 == 11))]) (.cons rfl (.cons rfl (.cons rfl (.nil _)))) (K256 (y263 == 11) _ ⟨(Option.some.inj hS).symm, _, hj258⟩)
             ·have hS := ite_false' hz259 hg255
              refine sr_pass (e := 95) rfl rfl (by rw [hg255]; rfl) (by decide) ?_
              refine sr_pass (e := 95) rfl rfl (by rw [hg255]; rfl) (by decide) ?_
              refine sr_pass (e := 95) rfl rfl (by rw [hg255]; rfl) (by decide) ?_
              refine sr_ev (v := .bool false) (ev_pick_f rfl hg255 rfl) (by decide) ?_
              exact sr_weaken (l' := [(1, .pointer (some ⟨g6, 0, none⟩)), (10, .pointer none), (99, .bool false)]) (.cons rfl (.cons rfl (.cons rfl (.nil _)))) (K256 false _ ⟨(Option.some.inj hS).symm, _, hj258⟩)
           ·intro K236
            clear hS
            have hj238 : Tr ρ223 w222 (fun t => ([100, 101] : List Nat).contains t) ρ223 w222 := (Tr.refl hb.bd).weak (fun _ _ => rfl) rfl rfl
            rcases Bool.eq_false_or_eq_true z219 with hg235 | hg235
            ·have hS := ite_true' hz239 hg235
             refine sr_evg (b := true) (e := 91) rfl rfl hg235 (v := .pointer (some ⟨g6, 0, none⟩)) (ev_move rfl) (by decide) ?_
             obtain ⟨y243, hy244, hS⟩ := bind_some' hS
             refine sr_callg (b := true) (e := 91) rfl rfl hg235 (vs := [.pointer (some ⟨g6, 0, none⟩), str ([97, 110, 110]), str ([98, 111, 98])]) rfl Try.call28 rfl (delegate_Delegations_Revoke_ok _ (hg.fr hz hb) (ρA := ρ223) hb.bd (hz.fr hg hb) (o := 100) (by decide) (⟨_, hB72, h71⟩ : delegate_Delegations.O (fun p => 100 + p) ρ223 w222 g6 y65.2) hy244) (by decide) ?_
             rintro _ w245 ⟨ρ251, rfl, ⟨v248, hB250, h249⟩, htr247⟩
             replace hb := hb.trans htr247
             replace hj238 := (hj238.trans htr247).weak (J' := (fun t => ([100, 101] : List Nat).contains t)) (by intro t h; simp [rng] at h ⊢ <;> omega) rfl rfl
             replace hB250 : Blk ρ251 100 w245 g6 (.cells #[v248] 54 (0, 0)) := hB250
             replace h249 : MapT delegate_way.ek delegate_delegation.c true ρ251 101 w245 v248 y243.2.ways := h249
             refine sr_ev (v := .bool y243.1) (ev_pick_t rfl hg235 rfl) (by decide) ?_
             exact sr_weaken (l' := [(1, .pointer (some ⟨g6, 0, none⟩)), (10, .pointer none), (94, .bool y243.1)]) (.cons rfl (.cons rfl (.cons rfl (.nil _)))) (K236 (y243.1, y243.2) _ ⟨(Option.some.inj hS).symm, _, ⟨_, hB250, h249⟩, hj238⟩)
            ·have hS := ite_false' hz239 hg235
             refine sr_pass (e := 91) rfl rfl (by rw [hg235]; rfl) (by decide) ?_
             refine sr_pass (e := 91) rfl rfl (by rw [hg235]; rfl) (by decide) ?_
             refine sr_ev (v := .bool false) (ev_pick_f rfl hg235 rfl) (by decide) ?_
             exact sr_weaken (l' := [(1, .pointer (some ⟨g6, 0, none⟩)), (10, .pointer none), (94, .bool false)]) (.cons rfl (.cons rfl (.cons rfl (.nil _)))) (K236 (false, y65.2) _ ⟨(Option.some.inj hS).symm, _, ⟨_, hB72, h71⟩, hj238⟩)
          ·intro K218
           clear hS
           have hj220 : Tr ρ181 w214 (fun _ => false) ρ181 w214 := (Tr.refl hb.bd).weak (fun _ _ => rfl) rfl rfl
           rcases Bool.eq_false_or_eq_true y212 with hg217 | hg217
           ·have hS := ite_true' hz221 hg217
            refine sr_evg (b := true) (e := 86) rfl rfl hg217 (v := v205) (ev_move rfl) (by decide) ?_
            refine sr_unguard rfl rfl hg217 ?_
            refine sr_litT (c := strC) (ρ := ρ181) (E := 9) (xs := [[109, 97, 105, 108]]) (vs := #[(0, str ([109, 97, 105, 108]))]) (cs := #[str ([109, 97, 105, 108])]) (css := [[str ([109, 97, 105, 108])]]) rfl (fun _ => by kernel_rfl) rfl ⟨rfl, trivial⟩ rfl (by decide) hb.bd (by decide) ?_
            intro v225 w227 h226 hbw229
            have htr228 := Tr.of_below hbw229 hb.bd
            replace h206 := h206.mv htr228.rd
            replace hB72 := hB72.mv (htr228.mv (i := 100) rfl)
            replace h71 := h71.mv (htr228.mv (i := 101) rfl)
            replace hb := hb.trans htr228
            replace hj220 := (hj220.trans htr228).weak (J' := (fun _ => false)) (by intro t h; simp [rng] at h ⊢ <;> omega) rfl rfl
            obtain ⟨y230, hy231, hS⟩ := bind_some' hS
            refine sr_callg (b := true) (e := 86) rfl rfl hg217 (vs := [v205, v225]) rfl Try.call15 rfl (ref03_Same_ok _ (hg.fr hz hb) h206.asSl h226.asSl hy231) (by decide) ?_
            rintro _ w232 ⟨rfl, hbw233⟩
            have htr234 := Tr.of_below hbw233 hb.bd
            replace hB72 := hB72.mv (htr234.mv (i := 100) rfl)
            replace h71 := h71.mv (htr234.mv (i := 101) rfl)
            replace hb := hb.trans htr234
            replace hj220 := (hj220.trans htr234).weak (J' := (fun _ => false)) (by intro t h; simp [rng] at h ⊢ <;> omega) rfl rfl
            refine sr_ev (v := .bool y230) (ev_pick_t rfl hg217 rfl) (by decide) ?_
            exact sr_weaken (l' := [(1, .pointer (some ⟨g6, 0, none⟩)), (10, .pointer none), (90, .bool y230)]) (.cons rfl (.cons rfl (.cons rfl (.nil _)))) (K218 y230 _ ⟨(Option.some.inj hS).symm, _, hj220⟩)
           ·have hS := ite_false' hz221 hg217
            refine sr_pass (e := 86) rfl rfl (by rw [hg217]; rfl) (by decide) ?_
            refine sr_pass (e := 86) rfl rfl (by rw [hg217]; rfl) (by decide) ?_
            refine sr_pass (e := 86) rfl rfl (by rw [hg217]; rfl) (by decide) ?_
            refine sr_ev (v := .bool false) (ev_pick_f rfl hg217 rfl) (by decide) ?_
            exact sr_weaken (l' := [(1, .pointer (some ⟨g6, 0, none⟩)), (10, .pointer none), (90, .bool false)]) (.cons rfl (.cons rfl (.cons rfl (.nil _)))) (K218 false _ ⟨(Option.some.inj hS).symm, _, hj220⟩)
        ·intro K176
         clear hS
         have hj178 : Tr ρ163 w162 (fun _ => false) ρ163 w162 := (Tr.refl hb.bd).weak (fun _ _ => rfl) rfl rfl
         rcases Bool.eq_false_or_eq_true z159 with hg175 | hg175
         ·have hS := ite_true' hz179 hg175
          refine sr_pass (e := 72) rfl rfl (by rw [hg175]; rfl) (by decide) ?_
          refine sr_pass (e := 72) rfl rfl (by rw [hg175]; rfl) (by decide) ?_
          refine sr_pass (e := 72) rfl rfl (by rw [hg175]; rfl) (by decide) ?_
          refine sr_pass (e := 72) rfl rfl (by rw [hg175]; rfl) (by decide) ?_
          refine sr_pass (e := 72) rfl rfl (by rw [hg175]; rfl) (by decide) ?_
          refine sr_ev (v := .bool true) (ev_pick_t rfl hg175 rfl) (by decide) ?_
          exact sr_weaken (l' := [(1, .pointer (some ⟨g6, 0, none⟩)), (78, .bool true)]) (.cons rfl (.cons rfl (.nil _))) (K176 true _ ⟨(Option.some.inj hS).symm, _, hj178⟩)
         ·have hS := ite_false' hz179 hg175
          refine sr_evg (b := false) (e := 72) rfl rfl hg175 (v := .pointer (some ⟨g6, 0, none⟩)) (ev_move rfl) (by decide) ?_
          refine sr_evg (b := false) (e := 72) rfl rfl hg175 (v := v74) (ev_move rfl) (by decide) ?_
          obtain ⟨hk183, hS⟩ := chk_some hS
          obtain ⟨v184, h185, hq186⟩ := ((SlT.of_sl (i := 0) h75)).cutT_h (P := Try.prog) Try.underlying23 Try.info9 rfl hk183
          replace h185 := h185.sl
          refine sr_evg (b := false) (e := 72) rfl rfl hg175 (v := v184) (hq186 w162 rfl rfl) (by decide) ?_
          obtain ⟨y187, hy188, hS⟩ := bind_some' hS
          refine sr_callg (b := false) (e := 72) rfl rfl hg175 (vs := [.pointer (some ⟨g6, 0, none⟩), v184, (.slice none 0 0), .int .i64 6]) rfl Try.call18 rfl (delegate_Delegations_Chain_ok _ (hg.fr hz hb) (ρA := ρ163) hb.bd (hz.fr hg hb) (τ0 := (fun p => 100 + p)) (fun p => Nat.le_add_right_of_le (by decide)) h185 (SlR.nil (A := Wb ρ163)) (⟨_, hB72, h71⟩ : delegate_Delegations.O (fun p => 100 + p) ρ163 w162 g6 y65.2) hy188) (by decide) ?_
          rintro _ w189 ⟨rfl, hbw190⟩
          have htr191 := Tr.of_below hbw190 hb.bd
          replace hB72 := hB72.mv (htr191.mv (i := 100) rfl)
          replace h71 := h71.mv (htr191.mv (i := 101) rfl)
          replace hb := hb.trans htr191
          replace hj178 := (hj178.trans htr191).weak (J' := (fun _ => false)) (by intro t h; simp [rng] at h ⊢ <;> omega) rfl rfl
          refine sr_evg (b := false) (e := 72) rfl rfl hg175 (v := .bool (y187 != 0)) (ev_ne rfl rfl) (by decide) ?_
          refine sr_ev (v := .bool (y187 != 0)) (ev_pick_f rfl hg175 rfl) (by decide) ?_
          exact sr_weaken (l' := [(1, .pointer (some ⟨g6, 0, none⟩)), (78, .bool (y187 != 0))]) (.cons rfl (.cons rfl (.nil _))) (K176 (y187 != 0) _ ⟨(Option.some.inj hS).symm, _, hj178⟩)
       ·intro K158
        clear hS
        have hj160 : Tr ρ145 w144 (fun _ => false) ρ145 w144 := (Tr.refl hb.bd).weak (fun _ _ => rfl) rfl rfl
        rcases Bool.eq_false_or_eq_true z141 with hg157 | hg157
        ·have hS := ite_true' hz161 hg157
         refine sr_pass (e := 65) rfl rfl (by rw [hg157]; rfl) (by decide) ?_
         refine sr_pass (e := 65) rfl rfl (by rw [hg157]; rfl) (by decide) ?_
         refine sr_pass (e := 65) rfl rfl (by rw [hg157]; rfl) (by decide) ?_
         refine sr_pass (e := 65) rfl rfl (by rw [hg157]; rfl) (by decide) ?_
         refine sr_pass (e := 65) rfl rfl (by rw [hg157]; rfl) (by decide) ?_
         refine sr_ev (v := .bool true) (ev_pick_t rfl hg157 rfl) (by decide) ?_
         exact sr_weaken (l' := [(1, .pointer (some ⟨g6, 0, none⟩)), (7, v74), (71, .bool true)]) (.cons rfl (.cons rfl (.cons rfl (.nil _)))) (K158 true _ ⟨(Option.some.inj hS).symm, _, hj160⟩)
        ·have hS := ite_false' hz161 hg157
         refine sr_evg (b := false) (e := 65) rfl rfl hg157 (v := .pointer (some ⟨g6, 0, none⟩)) (ev_move rfl) (by decide) ?_
         refine sr_evg (b := false) (e := 65) rfl rfl hg157 (v := v74) (ev_move rfl) (by decide) ?_
         refine sr_unguard rfl rfl hg157 ?_
         refine sr_litT (c := strC) (ρ := ρ145) (E := 9) (xs := [[109, 97, 105, 108]]) (vs := #[(0, str ([109, 97, 105, 108]))]) (cs := #[str ([109, 97, 105, 108])]) (css := [[str ([109, 97, 105, 108])]]) rfl (fun _ => by kernel_rfl) rfl ⟨rfl, trivial⟩ rfl (by decide) hb.bd (by decide) ?_
         intro v165 w167 h166 hbw169
         have htr168 := Tr.of_below hbw169 hb.bd
         replace h75 := h75.mv htr168.rd
         replace hB72 := hB72.mv (htr168.mv (i := 100) rfl)
         replace h71 := h71.mv (htr168.mv (i := 101) rfl)
         replace hb := hb.trans htr168
         replace hj160 := (hj160.trans htr168).weak (J' := (fun _ => false)) (by intro t h; simp [rng] at h ⊢ <;> omega) rfl rfl
         obtain ⟨y170, hy171, hS⟩ := bind_some' hS
         refine sr_callg (b := false) (e := 65) rfl rfl hg157 (vs := [.pointer (some ⟨g6, 0, none⟩), v74, v165, .int .i64 6]) rfl Try.call18 rfl (delegate_Delegations_Chain_ok _ (hg.fr hz hb) (ρA := ρ145) hb.bd (hz.fr hg hb) (τ0 := (fun p => 100 + p)) (fun p => Nat.le_add_right_of_le (by decide)) h75 h166 (⟨_, hB72, h71⟩ : delegate_Delegations.O (fun p => 100 + p) ρ145 w167 g6 y65.2) hy171) (by decide) ?_
         rintro _ w172 ⟨rfl, hbw173⟩
         have htr174 := Tr.of_below hbw173 hb.bd
         replace h75 := h75.mv htr174.rd
         replace hB72 := hB72.mv (htr174.mv (i := 100) rfl)
         replace h71 := h71.mv (htr174.mv (i := 101) rfl)
         replace hb := hb.trans htr174
         replace hj160 := (hj160.trans htr174).weak (J' := (fun _ => false)) (by intro t h; simp [rng] at h ⊢ <;> omega) rfl rfl
         refine sr_evg (b := false) (e := 65) rfl rfl hg157 (v := .bool (y170 != 19)) (ev_ne rfl rfl) (by decide) ?_
         refine sr_ev (v := .bool (y170 != 19)) (ev_pick_f rfl hg157 rfl) (by decide) ?_
         exact sr_weaken (l' := [(1, .pointer (some ⟨g6, 0, none⟩)), (7, v74), (71, .bool (y170 != 19))]) (.cons rfl (.cons rfl (.cons rfl (.nil _)))) (K158 (y170 != 19) _ ⟨(Option.some.inj hS).symm, _, hj160⟩)
      ·intro K140
       clear hS
       have hj142 : Tr ρ127 w126 (fun _ => false) ρ127 w126 := (Tr.refl hb.bd).weak (fun _ _ => rfl) rfl rfl
       rcases Bool.eq_false_or_eq_true z123 with hg139 | hg139
       ·have hS := ite_true' hz143 hg139
        refine sr_pass (e := 58) rfl rfl (by rw [hg139]; rfl) (by decide) ?_
        refine sr_pass (e := 58) rfl rfl (by rw [hg139]; rfl) (by decide) ?_
        refine sr_pass (e := 58) rfl rfl (by rw [hg139]; rfl) (by decide) ?_
        refine sr_pass (e := 58) rfl rfl (by rw [hg139]; rfl) (by decide) ?_
        refine sr_pass (e := 58) rfl rfl (by rw [hg139]; rfl) (by decide) ?_
        refine sr_ev (v := .bool true) (ev_pick_t rfl hg139 rfl) (by decide) ?_
        exact sr_weaken (l' := [(1, .pointer (some ⟨g6, 0, none⟩)), (7, v74), (64, .bool true)]) (.cons rfl (.cons rfl (.cons rfl (.nil _)))) (K140 true _ ⟨(Option.some.inj hS).symm, _, hj142⟩)
       ·have hS := ite_false' hz143 hg139
        refine sr_evg (b := false) (e := 58) rfl rfl hg139 (v := .pointer (some ⟨g6, 0, none⟩)) (ev_move rfl) (by decide) ?_
        refine sr_evg (b := false) (e := 58) rfl rfl hg139 (v := v74) (ev_move rfl) (by decide) ?_
        refine sr_unguard rfl rfl hg139 ?_
        refine sr_litT (c := strC) (ρ := ρ127) (E := 9) (xs := [[109, 97, 105, 108, 46, 114, 101, 97, 100]]) (vs := #[(0, str ([109, 97, 105, 108, 46, 114, 101, 97, 100]))]) (cs := #[str ([109, 97, 105, 108, 46, 114, 101, 97, 100])]) (css := [[str ([109, 97, 105, 108, 46, 114, 101, 97, 100])]]) rfl (fun _ => by kernel_rfl) rfl ⟨rfl, trivial⟩ rfl (by decide) hb.bd (by decide) ?_
        intro v147 w149 h148 hbw151
        have htr150 := Tr.of_below hbw151 hb.bd
        replace h75 := h75.mv htr150.rd
        replace hB72 := hB72.mv (htr150.mv (i := 100) rfl)
        replace h71 := h71.mv (htr150.mv (i := 101) rfl)
        replace hb := hb.trans htr150
        replace hj142 := (hj142.trans htr150).weak (J' := (fun _ => false)) (by intro t h; simp [rng] at h ⊢ <;> omega) rfl rfl
        obtain ⟨y152, hy153, hS⟩ := bind_some' hS
        refine sr_callg (b := false) (e := 58) rfl rfl hg139 (vs := [.pointer (some ⟨g6, 0, none⟩), v74, v147, .int .i64 6]) rfl Try.call18 rfl (delegate_Delegations_Chain_ok _ (hg.fr hz hb) (ρA := ρ127) hb.bd (hz.fr hg hb) (τ0 := (fun p => 100 + p)) (fun p => Nat.le_add_right_of_le (by decide)) h75 h148 (⟨_, hB72, h71⟩ : delegate_Delegations.O (fun p => 100 + p) ρ127 w149 g6 y65.2) hy153) (by decide) ?_
        rintro _ w154 ⟨rfl, hbw155⟩
        have htr156 := Tr.of_below hbw155 hb.bd
        replace h75 := h75.mv htr156.rd
        replace hB72 := hB72.mv (htr156.mv (i := 100) rfl)
        replace h71 := h71.mv (htr156.mv (i := 101) rfl)
        replace hb := hb.trans htr156
        replace hj142 := (hj142.trans htr156).weak (J' := (fun _ => false)) (by intro t h; simp [rng] at h ⊢ <;> omega) rfl rfl
        refine sr_evg (b := false) (e := 58) rfl rfl hg139 (v := .bool (y152 != 0)) (ev_ne rfl rfl) (by decide) ?_
        refine sr_ev (v := .bool (y152 != 0)) (ev_pick_f rfl hg139 rfl) (by decide) ?_
        exact sr_weaken (l' := [(1, .pointer (some ⟨g6, 0, none⟩)), (7, v74), (64, .bool (y152 != 0))]) (.cons rfl (.cons rfl (.cons rfl (.nil _)))) (K140 (y152 != 0) _ ⟨(Option.some.inj hS).symm, _, hj142⟩)
     ·intro K122
      clear hS
      have hj124 : Tr ρ109 w108 (fun _ => false) ρ109 w108 := (Tr.refl hb.bd).weak (fun _ _ => rfl) rfl rfl
      rcases Bool.eq_false_or_eq_true z105 with hg121 | hg121
      ·have hS := ite_true' hz125 hg121
       refine sr_pass (e := 52) rfl rfl (by rw [hg121]; rfl) (by decide) ?_
       refine sr_pass (e := 52) rfl rfl (by rw [hg121]; rfl) (by decide) ?_
       refine sr_pass (e := 52) rfl rfl (by rw [hg121]; rfl) (by decide) ?_
       refine sr_pass (e := 52) rfl rfl (by rw [hg121]; rfl) (by decide) ?_
       refine sr_ev (v := .bool true) (ev_pick_t rfl hg121 rfl) (by decide) ?_
       exact sr_weaken (l' := [(1, .pointer (some ⟨g6, 0, none⟩)), (7, v74), (57, .bool true)]) (.cons rfl (.cons rfl (.cons rfl (.nil _)))) (K122 true _ ⟨(Option.some.inj hS).symm, _, hj124⟩)
      ·have hS := ite_false' hz125 hg121
       refine sr_evg (b := false) (e := 52) rfl rfl hg121 (v := .pointer (some ⟨g6, 0, none⟩)) (ev_move rfl) (by decide) ?_
       refine sr_unguard rfl rfl hg121 ?_
       refine sr_litT (c := strC) (ρ := ρ109) (E := 9) (xs := [[109, 97, 105, 108, 46, 120]]) (vs := #[(0, str ([109, 97, 105, 108, 46, 120]))]) (cs := #[str ([109, 97, 105, 108, 46, 120])]) (css := [[str ([109, 97, 105, 108, 46, 120])]]) rfl (fun _ => by kernel_rfl) rfl ⟨rfl, trivial⟩ rfl (by decide) hb.bd (by decide) ?_
       intro v129 w131 h130 hbw133
       have htr132 := Tr.of_below hbw133 hb.bd
       replace h75 := h75.mv htr132.rd
       replace hB72 := hB72.mv (htr132.mv (i := 100) rfl)
       replace h71 := h71.mv (htr132.mv (i := 101) rfl)
       replace hb := hb.trans htr132
       replace hj124 := (hj124.trans htr132).weak (J' := (fun _ => false)) (by intro t h; simp [rng] at h ⊢ <;> omega) rfl rfl
       obtain ⟨y134, hy135, hS⟩ := bind_some' hS
       refine sr_callg (b := false) (e := 52) rfl rfl hg121 (vs := [.pointer (some ⟨g6, 0, none⟩), str ([97, 110, 110]), str ([98, 111, 98]), v129, .int .i64 5]) rfl Try.call26 rfl (delegate_Delegations_May_ok _ (hg.fr hz hb) (ρA := ρ109) hb.bd (hz.fr hg hb) (τ0 := (fun p => 100 + p)) (fun p => Nat.le_add_right_of_le (by decide)) h130 (⟨_, hB72, h71⟩ : delegate_Delegations.O (fun p => 100 + p) ρ109 w131 g6 y65.2) hy135) (by decide) ?_
       rintro _ w136 ⟨rfl, hbw137⟩
       have htr138 := Tr.of_below hbw137 hb.bd
       replace h75 := h75.mv htr138.rd
       replace hB72 := hB72.mv (htr138.mv (i := 100) rfl)
       replace h71 := h71.mv (htr138.mv (i := 101) rfl)
       replace hb := hb.trans htr138
       replace hj124 := (hj124.trans htr138).weak (J' := (fun _ => false)) (by intro t h; simp [rng] at h ⊢ <;> omega) rfl rfl
       refine sr_evg (b := false) (e := 52) rfl rfl hg121 (v := .bool (y134 != 0)) (ev_ne rfl rfl) (by decide) ?_
       refine sr_ev (v := .bool (y134 != 0)) (ev_pick_f rfl hg121 rfl) (by decide) ?_
       exact sr_weaken (l' := [(1, .pointer (some ⟨g6, 0, none⟩)), (7, v74), (57, .bool (y134 != 0))]) (.cons rfl (.cons rfl (.cons rfl (.nil _)))) (K122 (y134 != 0) _ ⟨(Option.some.inj hS).symm, _, hj124⟩)
    ·intro K104
     clear hS
     have hj106 : Tr ρ73 w76 (fun _ => false) ρ73 w76 := (Tr.refl hb.bd).weak (fun _ _ => rfl) rfl rfl
     rcases Bool.eq_false_or_eq_true ((((y23.1 != 28) || (y37.1 != 0)) || (y51.1 != 0)) || (y65.1 != 2)) with hg103 | hg103
     ·have hS := ite_true' hz107 hg103
      refine sr_pass (e := 46) rfl rfl (by rw [hg103]; rfl) (by decide) ?_
      refine sr_pass (e := 46) rfl rfl (by rw [hg103]; rfl) (by decide) ?_
      refine sr_pass (e := 46) rfl rfl (by rw [hg103]; rfl) (by decide) ?_
      refine sr_pass (e := 46) rfl rfl (by rw [hg103]; rfl) (by decide) ?_
      refine sr_ev (v := .bool true) (ev_pick_t rfl hg103 rfl) (by decide) ?_
      exact sr_weaken (l' := [(1, .pointer (some ⟨g6, 0, none⟩)), (7, v74), (51, .bool true)]) (.cons rfl (.cons rfl (.cons rfl (.nil _)))) (K104 true _ ⟨(Option.some.inj hS).symm, _, hj106⟩)
     ·have hS := ite_false' hz107 hg103
      refine sr_evg (b := false) (e := 46) rfl rfl hg103 (v := .pointer (some ⟨g6, 0, none⟩)) (ev_move rfl) (by decide) ?_
      refine sr_unguard rfl rfl hg103 ?_
      refine sr_litT (c := strC) (ρ := ρ73) (E := 9) (xs := [[109, 97, 105, 108, 46, 120]]) (vs := #[(0, str ([109, 97, 105, 108, 46, 120]))]) (cs := #[str ([109, 97, 105, 108, 46, 120])]) (css := [[str ([109, 97, 105, 108, 46, 120])]]) rfl (fun _ => by kernel_rfl) rfl ⟨rfl, trivial⟩ rfl (by decide) hb.bd (by decide) ?_
      intro v111 w113 h112 hbw115
      have htr114 := Tr.of_below hbw115 hb.bd
      replace h75 := h75.mv htr114.rd
      replace hB72 := hB72.mv (htr114.mv (i := 100) rfl)
      replace h71 := h71.mv (htr114.mv (i := 101) rfl)
      replace hb := hb.trans htr114
      replace hj106 := (hj106.trans htr114).weak (J' := (fun _ => false)) (by intro t h; simp [rng] at h ⊢ <;> omega) rfl rfl
      obtain ⟨y116, hy117, hS⟩ := bind_some' hS
      refine sr_callg (b := false) (e := 46) rfl rfl hg103 (vs := [.pointer (some ⟨g6, 0, none⟩), str ([97, 110, 110]), str ([98, 111, 98]), v111, .int .i64 4]) rfl Try.call26 rfl (delegate_Delegations_May_ok _ (hg.fr hz hb) (ρA := ρ73) hb.bd (hz.fr hg hb) (τ0 := (fun p => 100 + p)) (fun p => Nat.le_add_right_of_le (by decide)) h112 (⟨_, hB72, h71⟩ : delegate_Delegations.O (fun p => 100 + p) ρ73 w113 g6 y65.2) hy117) (by decide) ?_
      rintro _ w118 ⟨rfl, hbw119⟩
      have htr120 := Tr.of_below hbw119 hb.bd
      replace h75 := h75.mv htr120.rd
      replace hB72 := hB72.mv (htr120.mv (i := 100) rfl)
      replace h71 := h71.mv (htr120.mv (i := 101) rfl)
      replace hb := hb.trans htr120
      replace hj106 := (hj106.trans htr120).weak (J' := (fun _ => false)) (by intro t h; simp [rng] at h ⊢ <;> omega) rfl rfl
      refine sr_evg (b := false) (e := 46) rfl rfl hg103 (v := .bool (y116 != 14)) (ev_ne rfl rfl) (by decide) ?_
      refine sr_ev (v := .bool (y116 != 14)) (ev_pick_f rfl hg103 rfl) (by decide) ?_
      exact sr_weaken (l' := [(1, .pointer (some ⟨g6, 0, none⟩)), (7, v74), (51, .bool (y116 != 14))]) (.cons rfl (.cons rfl (.cons rfl (.nil _)))) (K104 (y116 != 14) _ ⟨(Option.some.inj hS).symm, _, hj106⟩)
   ·intro K96
    rcases Bool.eq_false_or_eq_true (((y23.1 != 28) || (y37.1 != 0)) || (y51.1 != 0)) with hg95 | hg95
    all_goals try have hj98 : Tr ρ73 w76 (fun _ => false) ρ73 w76 := Tr.refl hb.bd
    ·refine sr_pass (e := 42) rfl rfl (by rw [hg95]; rfl) (by decide) ?_
     refine sr_pass (e := 42) rfl rfl (by rw [hg95]; rfl) (by decide) ?_
     refine sr_ev (v := .bool true) (ev_pick_t rfl hg95 rfl) (by decide) ?_
     exact sr_weaken (l' := [(1, .pointer (some ⟨g6, 0, none⟩)), (7, v74), (45, .bool true)]) (.cons rfl (.cons rfl (.cons rfl (.nil _)))) (K96 true _ ⟨by rw [hg95]; rfl, rfl⟩)
    ·refine sr_evg (b := false) (e := 42) rfl rfl hg95 (v := .int .i64 y65.1) (ev_move rfl) (by decide) ?_
     refine sr_evg (b := false) (e := 42) rfl rfl hg95 (v := .bool (y65.1 != 2)) (ev_ne rfl rfl) (by decide) ?_
     refine sr_ev (v := .bool (y65.1 != 2)) (ev_pick_f rfl hg95 rfl) (by decide) ?_
     exact sr_weaken (l' := [(1, .pointer (some ⟨g6, 0, none⟩)), (7, v74), (45, .bool (y65.1 != 2))]) (.cons rfl (.cons rfl (.cons rfl (.nil _)))) (K96 (y65.1 != 2) _ ⟨by rw [hg95]; rfl, rfl⟩)
  ·intro K88
   rcases Bool.eq_false_or_eq_true ((y23.1 != 28) || (y37.1 != 0)) with hg87 | hg87
   all_goals try have hj90 : Tr ρ73 w76 (fun _ => false) ρ73 w76 := Tr.refl hb.bd
   ·refine sr_pass (e := 38) rfl rfl (by rw [hg87]; rfl) (by decide) ?_
    refine sr_pass (e := 38) rfl rfl (by rw [hg87]; rfl) (by decide) ?_
    refine sr_ev (v := .bool true) (ev_pick_t rfl hg87 rfl) (by decide) ?_
    exact sr_weaken (l' := [(1, .pointer (some ⟨g6, 0, none⟩)), (6, .int .i64 y65.1), (7, v74), (41, .bool true)]) (.cons rfl (.cons rfl (.cons rfl (.cons rfl (.nil _))))) (K88 true _ ⟨by rw [hg87]; rfl, rfl⟩)
   ·refine sr_evg (b := false) (e := 38) rfl rfl hg87 (v := .int .i64 y51.1) (ev_move rfl) (by decide) ?_
    refine sr_evg (b := false) (e := 38) rfl rfl hg87 (v := .bool (y51.1 != 0)) (ev_ne rfl rfl) (by decide) ?_
    refine sr_ev (v := .bool (y51.1 != 0)) (ev_pick_f rfl hg87 rfl) (by decide) ?_
    exact sr_weaken (l' := [(1, .pointer (some ⟨g6, 0, none⟩)), (6, .int .i64 y65.1), (7, v74), (41, .bool (y51.1 != 0))]) (.cons rfl (.cons rfl (.cons rfl (.cons rfl (.nil _))))) (K88 (y51.1 != 0) _ ⟨by rw [hg87]; rfl, rfl⟩)
 ·intro K80
  rcases Bool.eq_false_or_eq_true (y23.1 != 28) with hg79 | hg79
  all_goals try have hj82 : Tr ρ73 w76 (fun _ => false) ρ73 w76 := Tr.refl hb.bd
  ·refine sr_pass (e := 34) rfl rfl (by rw [hg79]; rfl) (by decide) ?_
   refine sr_pass (e := 34) rfl rfl (by rw [hg79]; rfl) (by decide) ?_
   refine sr_ev (v := .bool true) (ev_pick_t rfl hg79 rfl) (by decide) ?_
   exact sr_weaken (l' := [(1, .pointer (some ⟨g6, 0, none⟩)), (5, .int .i64 y51.1), (6, .int .i64 y65.1), (7, v74), (37, .bool true)]) (.cons rfl (.cons rfl (.cons rfl (.cons rfl (.cons rfl (.nil _)))))) (K80 true _ ⟨by rw [hg79]; rfl, rfl⟩)
  ·refine sr_evg (b := false) (e := 34) rfl rfl hg79 (v := .int .i64 y37.1) (ev_move rfl) (by decide) ?_
   refine sr_evg (b := false) (e := 34) rfl rfl hg79 (v := .bool (y37.1 != 0)) (ev_ne rfl rfl) (by decide) ?_
   refine sr_ev (v := .bool (y37.1 != 0)) (ev_pick_f rfl hg79 rfl) (by decide) ?_
   exact sr_weaken (l' := [(1, .pointer (some ⟨g6, 0, none⟩)), (5, .int .i64 y51.1), (6, .int .i64 y65.1), (7, v74), (37, .bool (y37.1 != 0))]) (.cons rfl (.cons rfl (.cons rfl (.cons rfl (.cons rfl (.nil _)))))) (K80 (y37.1 != 0) _ ⟨by rw [hg79]; rfl, rfl⟩)
theorem law35_yes_ok (w0 : World) (hg : Gs w0) {b_0 : Bool} {r : Int} (hS : law35_yes b_0 = some r) :
  Calls Try.prog 29 #[.bool b_0] w0 (Ret (fun v w' => v = .int .i64 r ∧ Below w0.heap.size w0 w')) := by
 unfold law35_yes at hS
 have hb := Below.refl w0.heap.size w0
 refine calls_of_ke Try.func29 rfl (n := 4) rfl rfl (l := [(0, .bool b_0)]) rfl ?_
 refine ke_seq ?_
 refine ke_region ?_
 refine sr_ev (v := .int .i64 0) (ev_assign rfl) (by decide) ?_
 refine sr_end (l' := [(0, .bool b_0)]) (.cons rfl (.nil _)) ?_
 refine ke_seq ?_
 refine ke_seq ?_
 refine ke_region ?_
 refine sr_ev (v := .bool b_0) (ev_move rfl) (by decide) ?_
 refine sr_end (l' := [(3, .bool b_0)]) (.cons rfl (.nil _)) ?_
 refine ke_cond (t := b_0) rfl (fun hc1 => ?_) (fun hc1 => ?_)
 ·replace hS := ite_true' hS hc1
  refine ke_seq ?_
  refine ke_region ?_
  refine sr_ev (v := .int .i64 1) (ev_assign rfl) (by decide) ?_
  refine sr_end (l' := [(2, .int .i64 1)]) (.cons rfl (.nil _)) ?_
  cases hS
  exact ke_ret1 Try.func29 rfl rfl ⟨_, rfl, rfl, hb⟩
 ·replace hS := ite_false' hS hc1
  refine ke_skip ?_
  refine ke_seq ?_
  refine ke_region ?_
  refine sr_ev (v := .int .i64 0) (ev_assign rfl) (by decide) ?_
  refine sr_end (l' := [(2, .int .i64 0)]) (.cons rfl (.nil _)) ?_
  cases hS
  exact ke_ret1 Try.func29 rfl rfl ⟨_, rfl, rfl, hb⟩
theorem law35_do_ok (w0 : World) (hg : Gs w0) {ρA : Tags} (hbd : ∀ b, ρA b ≠ 0 → b < w0.heap.size) (hz : Gz ρA) {o : Nat} (ho2 : 2 ≤ o) {d_0 : delegate_Delegations} {x_1 : law35_Op} {v4 : Value} {gd_0 : Nat} {r : Int × delegate_Delegations} (h5 : SlR strC (Wb ρA) w0 v4 x_1.Scopes) (ho0 : delegate_Delegations.O (fun p => o + p) ρA w0 gd_0 d_0) (hS : law35_do d_0 x_1 = some r) :
  Calls Try.prog 13 #[.pointer (some ⟨gd_0, 0, none⟩), .agg #[.int .i64 x_1.Call, .int .i64 x_1.Now, str x_1.From, str x_1.To, v4, .int .i64 x_1.Window.From, .int .i64 x_1.Window.Until]] w0 (Ret (fun v w' => ∃ ρ', v = .int .i64 r.1 ∧ delegate_Delegations.O (fun p => o + p) ρ' w' gd_0 r.2 ∧ Tr ρA w0 (rng o 2) ρ' w')) := by
 unfold law35_do at hS
 have hb := enter_fr (ρ := ρA) (w := w0) (n := 2) ho2 hbd
 have hz := hz.enter (n := 2) ho2
 replace h5 := SlR.mv h5 (enter_rd (n := 2) ho2)
 obtain ⟨v1, hB3, h2⟩ := ho0
 replace hB3 := hB3.mv (enter_mv (p := 0) (n := 2) (by decide) ho2)
 replace h2 := h2.mv (enter_mv (p := 1) (n := 2) (by decide) ho2)
 replace hB3 : Blk (enter ρA o 2) 100 w0 gd_0 (.cells #[v1] 54 (0, 0)) := hB3
 replace h2 : MapT delegate_way.ek delegate_delegation.c true (enter ρA o 2) 101 w0 v1 d_0.ways := h2
 refine calls_of_ke Try.func13 rfl (n := 44) rfl rfl (l := [(0, .pointer (some ⟨gd_0, 0, none⟩)), (1, .agg #[.int .i64 x_1.Call, .int .i64 x_1.Now, str x_1.From, str x_1.To, v4, .int .i64 x_1.Window.From, .int .i64 x_1.Window.Until])]) rfl ?_
 refine ke_seq ?_
 refine ke_region ?_
 refine sr_boxT 5 (by decide) hb.bd rfl (by decide) ?_
 intro g6 ρ7 w8 hB10 htr9
 replace h5 := h5.mv htr9.rd
 replace hB3 := hB3.mv (htr9.mv (i := 100) rfl)
 replace h2 := h2.mv (htr9.mv (i := 101) rfl)
 replace hb := hb.trans htr9
 replace hB10 : Blk ρ7 5 w8 g6 (.cells #[.int .i64 x_1.Call, .int .i64 x_1.Now, str x_1.From, str x_1.To, v4, .int .i64 x_1.Window.From, .int .i64 x_1.Window.Until] 35 (0, 0)) := hB10
 refine sr_ev (v := .int .i64 0) (ev_assign rfl) (by decide) ?_
 refine sr_end (l' := [(0, .pointer (some ⟨gd_0, 0, none⟩)), (3, .pointer (some ⟨g6, 0, none⟩))]) (.cons rfl (.cons rfl (.nil _))) ?_
 refine ke_seq ?_
 refine ke_seq ?_
 refine ke_region ?_
 refine sr_ev (v := .pointer (some ⟨g6, 0, none⟩)) (ev_fieldAddr (i := 0) Try.underlying35 rfl Try.info3 rfl rfl) (by decide) ?_
 refine sr_ev (v := .int .i64 x_1.Call) (ev_load Try.isAgg3 rfl (hB10.cell rfl)) (by decide) ?_
 refine sr_end (l' := [(0, .pointer (some ⟨gd_0, 0, none⟩)), (3, .pointer (some ⟨g6, 0, none⟩)), (6, .int .i64 x_1.Call)]) (.cons rfl (.cons rfl (.cons rfl (.nil _)))) ?_
 refine ke_block ?_
 refine ke_seq ?_
 refine ke_region ?_
 refine sr_ev (v := .bool (x_1.Call == 0)) (ev_eq rfl rfl) (by decide) ?_
 refine sr_ev (v := .bool (x_1.Call == 0)) (ev_assign rfl) (by decide) ?_
 refine sr_end (l' := [(0, .pointer (some ⟨gd_0, 0, none⟩)), (3, .pointer (some ⟨g6, 0, none⟩)), (6, .int .i64 x_1.Call), (7, .bool (x_1.Call == 0))]) (.cons rfl (.cons rfl (.cons rfl (.cons rfl (.nil _))))) ?_
 refine ke_cond (t := x_1.Call == 0) rfl (fun hc11 => ?_) (fun hc11 => ?_)
 ·replace hS := ite_true' hS hc11
  refine ke_seq ?_
  refine ke_region ?_
  refine sr_ev (v := .pointer (some ⟨gd_0, 0, none⟩)) (ev_move rfl) (by decide) ?_
  refine sr_ev (v := .pointer (some ⟨g6, 2, none⟩)) (ev_fieldAddr (i := 2) Try.underlying35 rfl Try.info9 rfl rfl) (by decide) ?_
  refine sr_ev (v := str x_1.From) (ev_load Try.isAgg9 rfl (hB10.cell rfl)) (by decide) ?_
  refine sr_ev (v := .pointer (some ⟨g6, 3, none⟩)) (ev_fieldAddr (i := 3) Try.underlying35 rfl Try.info9 rfl rfl) (by decide) ?_
  refine sr_ev (v := str x_1.To) (ev_load Try.isAgg9 rfl (hB10.cell rfl)) (by decide) ?_
  refine sr_ev (v := .pointer (some ⟨g6, 4, none⟩)) (ev_fieldAddr (i := 4) Try.underlying35 rfl Try.info23 rfl rfl) (by decide) ?_
  refine sr_ev (v := v4) (ev_load Try.isAgg23 rfl (hB10.cell rfl)) (by decide) ?_
  refine sr_ev (v := .pointer (some ⟨g6, 5, none⟩)) (ev_fieldAddr (i := 5) Try.underlying35 rfl Try.info33 rfl rfl) (by decide) ?_
  refine sr_ev (v := .agg #[.int .i64 x_1.Window.From, .int .i64 x_1.Window.Until]) (ev_loads (cs := [.int .i64 x_1.Window.From, .int .i64 x_1.Window.Until]) Try.isAgg33 Try.sizeOf33 rfl (hB10.cells (vs := [.int .i64 x_1.Window.From, .int .i64 x_1.Window.Until]) rfl)) (by decide) ?_
  obtain ⟨y12, hy13, hS⟩ := bind_some' hS
  refine sr_call (vs := [.pointer (some ⟨gd_0, 0, none⟩), str x_1.From, str x_1.To, v4, .agg #[.int .i64 x_1.Window.From, .int .i64 x_1.Window.Until]]) rfl Try.call22 rfl (delegate_Delegations_Allow_ok _ (hg.fr hz hb) (ρA := ρ7) hb.bd (hz.fr hg hb) (o := 100) (by decide) h5 (⟨_, hB3, h2⟩ : delegate_Delegations.O (fun p => 100 + p) ρ7 w8 gd_0 d_0) hy13) (by decide) ?_
  rintro _ w14 ⟨ρ20, rfl, ⟨v17, hB19, h18⟩, htr16⟩
  replace hb := hb.trans htr16
  replace hB19 : Blk ρ20 100 w14 gd_0 (.cells #[v17] 54 (0, 0)) := hB19
  replace h18 : MapT delegate_way.ek delegate_delegation.c true ρ20 101 w14 v17 y12.2.ways := h18
  refine sr_ev (v := .int .i64 y12.1) (ev_assign rfl) (by decide) ?_
  refine sr_end (l' := [(4, .int .i64 y12.1)]) (.cons rfl (.nil _)) ?_
  cases hS
  exact ke_ret1 Try.func13 rfl rfl ⟨_, rfl, leave ρA w0 o 2 ρ20, rfl, ⟨_, (hB19.mv (leave_mv (p := 0) (by decide) hb)), (h18.mv (leave_mv (p := 1) (by decide) hb))⟩, (leave_tr ho2 hb)⟩
 ·replace hS := ite_false' hS hc11
  refine ke_seq ?_
  refine ke_region ?_
  refine sr_ev (v := .bool (x_1.Call == 1)) (ev_eq rfl rfl) (by decide) ?_
  refine sr_ev (v := .bool (x_1.Call == 1)) (ev_assign rfl) (by decide) ?_
  refine sr_end (l' := [(0, .pointer (some ⟨gd_0, 0, none⟩)), (3, .pointer (some ⟨g6, 0, none⟩)), (6, .int .i64 x_1.Call), (19, .bool (x_1.Call == 1))]) (.cons rfl (.cons rfl (.cons rfl (.cons rfl (.nil _))))) ?_
  refine ke_cond (t := x_1.Call == 1) rfl (fun hc21 => ?_) (fun hc21 => ?_)
  ·replace hS := ite_true' hS hc21
   refine ke_seq ?_
   refine ke_region ?_
   refine sr_ev (v := .pointer (some ⟨gd_0, 0, none⟩)) (ev_move rfl) (by decide) ?_
   refine sr_ev (v := .pointer (some ⟨g6, 2, none⟩)) (ev_fieldAddr (i := 2) Try.underlying35 rfl Try.info9 rfl rfl) (by decide) ?_
   refine sr_ev (v := str x_1.From) (ev_load Try.isAgg9 rfl (hB10.cell rfl)) (by decide) ?_
   refine sr_ev (v := .pointer (some ⟨g6, 3, none⟩)) (ev_fieldAddr (i := 3) Try.underlying35 rfl Try.info9 rfl rfl) (by decide) ?_
   refine sr_ev (v := str x_1.To) (ev_load Try.isAgg9 rfl (hB10.cell rfl)) (by decide) ?_
   obtain ⟨y22, hy23, hS⟩ := bind_some' hS
   refine sr_call (vs := [.pointer (some ⟨gd_0, 0, none⟩), str x_1.From, str x_1.To]) rfl Try.call28 rfl (delegate_Delegations_Revoke_ok _ (hg.fr hz hb) (ρA := ρ7) hb.bd (hz.fr hg hb) (o := 100) (by decide) (⟨_, hB3, h2⟩ : delegate_Delegations.O (fun p => 100 + p) ρ7 w8 gd_0 d_0) hy23) (by decide) ?_
   rintro _ w24 ⟨ρ30, rfl, ⟨v27, hB29, h28⟩, htr26⟩
   replace hb := hb.trans htr26
   replace hB29 : Blk ρ30 100 w24 gd_0 (.cells #[v27] 54 (0, 0)) := hB29
   replace h28 : MapT delegate_way.ek delegate_delegation.c true ρ30 101 w24 v27 y22.2.ways := h28
   obtain ⟨y31, hy32, hS⟩ := bind_some' hS
   refine sr_call (vs := [.bool y22.1]) rfl Try.call29 rfl (law35_yes_ok _ (hg.fr hz hb) hy32) (by decide) ?_
   rintro _ w33 ⟨rfl, hbw34⟩
   have htr35 := Tr.of_below hbw34 hb.bd
   replace hB29 := hB29.mv (htr35.mv (i := 100) rfl)
   replace h28 := h28.mv (htr35.mv (i := 101) rfl)
   replace hb := hb.trans htr35
   refine sr_ev (v := .int .i64 y31) (ev_assign rfl) (by decide) ?_
   refine sr_end (l' := [(4, .int .i64 y31)]) (.cons rfl (.nil _)) ?_
   cases hS
   exact ke_ret1 Try.func13 rfl rfl ⟨_, rfl, leave ρA w0 o 2 ρ30, rfl, ⟨_, (hB29.mv (leave_mv (p := 0) (by decide) hb)), (h28.mv (leave_mv (p := 1) (by decide) hb))⟩, (leave_tr ho2 hb)⟩
  ·replace hS := ite_false' hS hc21
   refine ke_seq ?_
   refine ke_region ?_
   refine sr_ev (v := .bool (x_1.Call == 2)) (ev_eq rfl rfl) (by decide) ?_
   refine sr_ev (v := .bool (x_1.Call == 2)) (ev_assign rfl) (by decide) ?_
   refine sr_end (l' := [(0, .pointer (some ⟨gd_0, 0, none⟩)), (3, .pointer (some ⟨g6, 0, none⟩)), (28, .bool (x_1.Call == 2))]) (.cons rfl (.cons rfl (.cons rfl (.nil _)))) ?_
   refine ke_cond (t := x_1.Call == 2) rfl (fun hc36 => ?_) (fun hc36 => ?_)
   ·replace hS := ite_true' hS hc36
    refine ke_seq ?_
    refine ke_region ?_
    refine sr_ev (v := .pointer (some ⟨gd_0, 0, none⟩)) (ev_move rfl) (by decide) ?_
    refine sr_ev (v := .pointer (some ⟨g6, 2, none⟩)) (ev_fieldAddr (i := 2) Try.underlying35 rfl Try.info9 rfl rfl) (by decide) ?_
    refine sr_ev (v := str x_1.From) (ev_load Try.isAgg9 rfl (hB10.cell rfl)) (by decide) ?_
    obtain ⟨y37, hy38, hS⟩ := bind_some' hS
    refine sr_call (vs := [.pointer (some ⟨gd_0, 0, none⟩), str x_1.From]) rfl Try.call24 rfl (delegate_Delegations_Drop_ok _ (hg.fr hz hb) (ρA := ρ7) hb.bd (hz.fr hg hb) (o := 100) (by decide) (⟨_, hB3, h2⟩ : delegate_Delegations.O (fun p => 100 + p) ρ7 w8 gd_0 d_0) hy38) (by decide) ?_
    rintro _ w39 ⟨ρ45, rfl, ⟨v42, hB44, h43⟩, htr41⟩
    replace hb := hb.trans htr41
    replace hB44 : Blk ρ45 100 w39 gd_0 (.cells #[v42] 54 (0, 0)) := hB44
    replace h43 : MapT delegate_way.ek delegate_delegation.c true ρ45 101 w39 v42 y37.2.ways := h43
    refine sr_ev (v := .int .i64 y37.1) (ev_assign rfl) (by decide) ?_
    refine sr_end (l' := [(4, .int .i64 y37.1)]) (.cons rfl (.nil _)) ?_
    cases hS
    exact ke_ret1 Try.func13 rfl rfl ⟨_, rfl, leave ρA w0 o 2 ρ45, rfl, ⟨_, (hB44.mv (leave_mv (p := 0) (by decide) hb)), (h43.mv (leave_mv (p := 1) (by decide) hb))⟩, (leave_tr ho2 hb)⟩
   ·replace hS := ite_false' hS hc36
    refine ke_skip ?_
    refine ke_inBlock ?_
    refine ke_seq ?_
    refine ke_region ?_
    refine sr_ev (v := .pointer (some ⟨gd_0, 0, none⟩)) (ev_move rfl) (by decide) ?_
    refine sr_ev (v := .pointer (some ⟨g6, 2, none⟩)) (ev_fieldAddr (i := 2) Try.underlying35 rfl Try.info9 rfl rfl) (by decide) ?_
    refine sr_ev (v := str x_1.From) (ev_load Try.isAgg9 rfl (hB10.cell rfl)) (by decide) ?_
    refine sr_ev (v := .pointer (some ⟨g6, 3, none⟩)) (ev_fieldAddr (i := 3) Try.underlying35 rfl Try.info9 rfl rfl) (by decide) ?_
    refine sr_ev (v := str x_1.To) (ev_load Try.isAgg9 rfl (hB10.cell rfl)) (by decide) ?_
    refine sr_ev (v := .pointer (some ⟨g6, 4, none⟩)) (ev_fieldAddr (i := 4) Try.underlying35 rfl Try.info23 rfl rfl) (by decide) ?_
    refine sr_ev (v := v4) (ev_load Try.isAgg23 rfl (hB10.cell rfl)) (by decide) ?_
    refine sr_ev (v := .pointer (some ⟨g6, 1, none⟩)) (ev_fieldAddr (i := 1) Try.underlying35 rfl Try.info3 rfl rfl) (by decide) ?_
    refine sr_ev (v := .int .i64 x_1.Now) (ev_load Try.isAgg3 rfl (hB10.cell rfl)) (by decide) ?_
    obtain ⟨y46, hy47, hS⟩ := bind_some' hS
    refine sr_call (vs := [.pointer (some ⟨gd_0, 0, none⟩), str x_1.From, str x_1.To, v4, .int .i64 x_1.Now]) rfl Try.call26 rfl (delegate_Delegations_May_ok _ (hg.fr hz hb) (ρA := ρ7) hb.bd (hz.fr hg hb) (τ0 := (fun p => 100 + p)) (fun p => Nat.le_add_right_of_le (by decide)) h5 (⟨_, hB3, h2⟩ : delegate_Delegations.O (fun p => 100 + p) ρ7 w8 gd_0 d_0) hy47) (by decide) ?_
    rintro _ w48 ⟨rfl, hbw49⟩
    have htr50 := Tr.of_below hbw49 hb.bd
    replace hB3 := hB3.mv (htr50.mv (i := 100) rfl)
    replace h2 := h2.mv (htr50.mv (i := 101) rfl)
    replace hb := hb.trans htr50
    refine sr_ev (v := .int .i64 y46) (ev_assign rfl) (by decide) ?_
    refine sr_end (l' := [(4, .int .i64 y46)]) (.cons rfl (.nil _)) ?_
    cases hS
    exact ke_ret1 Try.func13 rfl rfl ⟨_, rfl, leave ρA w0 o 2 ρ7, rfl, ⟨_, (hB3.mv (leave_mv (p := 0) (by decide) hb)), (h2.mv (leave_mv (p := 1) (by decide) hb))⟩, (leave_tr ho2 hb)⟩
theorem law35_holds_L1_ok {w0 : World} (hg : Gs w0) {A0 : Nat → Prop} (hA0 : ∀ b, A0 b → b < w0.heap.size) : ∀ (n : Nat), ∀ {r : Bool} {l_0 : List Str} {s_1 : Str} {i_5 : Int} {vl_0 : Value}, law35_holds_L1 n l_0 s_1 i_5 = some r → ∀ {w : World} {A : Nat → Prop}, (Below w0.heap.size w0 w) → (∀ b, A b → b < w.heap.size) → (∀ b, A0 b → A b) → (Hp A w0.heap.size w []) → (SlR strC A w vl_0 l_0) → KE Try.prog 27 (Ret (fun v w' => v = .bool r ∧ Below w0.heap.size w0 w')) 18 [.code (sub (bodyOf Try.f27) [2, 1, 2, 2, 1]), .inLoop (sub (bodyOf Try.f27) [2, 1, 2, 2, 1]), .inBlock 0, .code (sub (bodyOf Try.f27) [2, 2])] [(0, vl_0), (1, str s_1), (5, .int .i64 i_5)] w := by
 intro n
 induction n with
 | zero => intro r l_0 s_1 i_5 vl_0 hS; cases hS
 | succ n ih =>
  have hr0 : ∀ {r : Bool} {l_0 : List Str} {s_1 : Str} {i_5 : Int} {vl_0 : Value}, law35_holds_L1 n l_0 s_1 i_5 = some r → ∀ {w : World} {A : Nat → Prop}, (Below w0.heap.size w0 w) → (∀ b, A b → b < w.heap.size) → (∀ b, A0 b → A b) → (Hp A w0.heap.size w []) → (SlR strC A w vl_0 l_0) → KE Try.prog 27 (Ret (fun v w' => v = .bool r ∧ Below w0.heap.size w0 w')) 18 [.inLoop (sub (bodyOf Try.f27) [2, 1, 2, 2, 1]), .inBlock 0, .code (sub (bodyOf Try.f27) [2, 2])] [(0, vl_0), (1, str s_1), (5, .int .i64 i_5)] w := fun {r} {l_0} {s_1} {i_5} {vl_0} hS {w} {A} hb hA hi hH hl_0 => ke_inLoop (ih hS hb hA hi hH hl_0)
  clear ih
  intro r l_0 s_1 i_5 vl_0 hS w A hb hA hi hH hl_0
  unfold law35_holds_L1 at hS
  refine ke_seq ?_
  refine ke_seq ?_
  refine ke_region ?_
  refine sr_ev (v := .int .i64 i_5) (ev_move rfl) (by decide) ?_
  refine sr_ev (v := vl_0) (ev_move rfl) (by decide) ?_
  refine sr_ev (v := .int .i64 (l_0.length : Int)) (ev_sllen Try.underlying23 rfl hl_0) (by decide) ?_
  refine sr_ev (v := .bool (decide (i_5 < (l_0.length : Int)))) (ev_lt rfl rfl) (by decide) ?_
  refine sr_end (l' := [(0, vl_0), (1, str s_1), (5, .int .i64 i_5), (9, .bool (decide (i_5 < (l_0.length : Int))))]) (.cons rfl (.cons rfl (.cons rfl (.cons rfl (.nil _))))) ?_
  refine ke_cond (t := decide (i_5 < (l_0.length : Int))) rfl (fun hc3 => ?_) (fun hc3 => ?_)
  ·replace hS := ite_true' hS hc3
   refine ke_skip ?_
   refine ke_seq ?_
   refine ke_block ?_
   refine ke_seq ?_
   refine ke_region ?_
   refine sr_ev (v := vl_0) (ev_move rfl) (by decide) ?_
   refine sr_ev (v := .int .i64 i_5) (ev_move rfl) (by decide) ?_
   obtain ⟨y4, hy5, hS⟩ := bind_some' hS
   refine sr_index hl_0 Try.underlying23 Try.info9 rfl rfl rfl hy5 (by decide) ?_
   intro b6 o7 cs9 he8
   obtain rfl : cs9 = [str y4] := he8.rd
   refine sr_ev (v := str y4) (ev_load Try.isAgg9 rfl (he8.cell 0 _ rfl)) (by decide) ?_
   refine sr_ev (v := str s_1) (ev_move rfl) (by decide) ?_
   refine sr_ev (v := .bool (y4 == s_1)) (ev_seq rfl rfl) (by decide) ?_
   refine sr_end (l' := [(0, vl_0), (1, str s_1), (5, .int .i64 i_5), (17, .bool (y4 == s_1))]) (.cons rfl (.cons rfl (.cons rfl (.cons rfl (.nil _))))) ?_
   refine ke_cond (t := y4 == s_1) rfl (fun hc10 => ?_) (fun hc10 => ?_)
   ·replace hS := ite_true' hS hc10
    refine ke_seq ?_
    refine ke_region ?_
    refine sr_ev (v := .bool true) (ev_assign rfl) (by decide) ?_
    refine sr_end (l' := [(4, .bool true)]) (.cons rfl (.nil _)) ?_
    cases hS
    exact ke_ret1 Try.func27 rfl rfl ⟨_, rfl, rfl, hb⟩
   ·replace hS := ite_false' hS hc10
    refine ke_skip ?_
    refine ke_inBlock ?_
    refine ke_region ?_
    refine sr_ev (v := .int .i64 i_5) (ev_move rfl) (by decide) ?_
    refine sr_ev (v := .int .i64 (IntKind.i64.wrap (i_5 + 1))) (ev_add rfl rfl) (by decide) ?_
    refine sr_ev (v := .int .i64 (IntKind.i64.wrap (i_5 + 1))) (ev_assign rfl) (by decide) ?_
    refine sr_end (l' := [(0, vl_0), (1, str s_1), (5, .int .i64 (IntKind.i64.wrap (i_5 + 1)))]) (.cons rfl (.cons rfl (.cons rfl (.nil _)))) ?_
    have hK := hr0 hS hb hA hi hH hl_0
    exact ke_weaken (l' := [(0, vl_0), (1, str s_1), (5, .int .i64 (IntKind.i64.wrap (i_5 + 1)))]) (.cons rfl (.cons rfl (.cons rfl (.nil _)))) hK
  ·replace hS := ite_false' hS hc3
   refine ke_exit (k' := _) rfl ?_
   refine ke_seq ?_
   refine ke_region ?_
   refine sr_ev (v := .bool false) (ev_assign rfl) (by decide) ?_
   refine sr_end (l' := [(4, .bool false)]) (.cons rfl (.nil _)) ?_
   cases hS
   exact ke_ret1 Try.func27 rfl rfl ⟨_, rfl, rfl, hb⟩
theorem law35_holds_ok {A0 : Nat → Prop} (w0 : World) (hg : Gs w0) {l_0 : List Str} {s_1 : Str} {v1 : Value} {r : Bool} (h2 : SlR strC A0 w0 v1 l_0) (hS : law35_holds l_0 s_1 = some r) :
  Calls Try.prog 27 #[v1, str s_1] w0 (Ret (fun v w' => v = .bool r ∧ Below w0.heap.size w0 w')) := by
 unfold law35_holds at hS
 have hb := Below.refl w0.heap.size w0
 replace h2 := h2.weak (A' := fun _ => False) (fun _ h => h.elim)
 obtain ⟨A0, hA0, hAe⟩ : ∃ A0 : Nat → Prop, (∀ b, A0 b → b < w0.heap.size) ∧ A0 = fun _ => False := ⟨_, fun _ h => h.elim, rfl⟩
 rw [← hAe] at h2
 clear hAe
 have hA := hA0
 have hi : ∀ b, A0 b → A0 b := fun _ h => h
 have hH := Hp.nil A0 w0.heap.size w0
 refine calls_of_ke Try.func27 rfl (n := 18) rfl rfl (l := [(0, v1), (1, str s_1)]) rfl ?_
 refine ke_seq ?_
 refine ke_region ?_
 refine sr_ev (v := .bool false) (ev_assign rfl) (by decide) ?_
 refine sr_end (l' := [(0, v1), (1, str s_1)]) (.cons rfl (.cons rfl (.nil _))) ?_
 refine ke_seq ?_
 refine ke_seq ?_
 refine ke_region ?_
 refine sr_ev (v := .int .i64 0) (ev_assign rfl) (by decide) ?_
 refine sr_end (l' := [(0, v1), (1, str s_1), (5, .int .i64 0)]) (.cons rfl (.cons rfl (.cons rfl (.nil _)))) ?_
 refine ke_block ?_
 have hK := law35_holds_L1_ok hg hA0 _ hS hb hA hi hH h2
 exact ke_weaken (l' := [(0, v1), (1, str s_1), (5, .int .i64 0)]) (.cons rfl (.cons rfl (.cons rfl (.nil _)))) (ke_loop hK)
theorem law35_DelegateChains_L3_ok {w0 : World} (hg : Gs w0) {ρA : Tags} (hbd : ∀ b, ρA b ≠ 0 → b < w0.heap.size) (hz : Gz (flat1 ρA)) (r0 : List law35_Op → List Str → List Str → Int → delegate_Delegations → Int → Option (Bool)) (r1 : List Str → List Str → Int → delegate_Delegations → Int → Option (Bool))
  (hr0 : ∀ {r : Bool} {l_0 : List law35_Op} {users_1 : List Str} {scopes_2 : List Str} {now_3 : Int} {od_9 : delegate_Delegations} {i_10 : Int} {vl_0 : Value} {vusers_1 : Value} {vscopes_2 : Value} {gd_9 : Nat}, r0 l_0 users_1 scopes_2 now_3 od_9 i_10 = some r → ∀ {ρ : Tags} {w : World}, (Fr (flat1 ρA) w0 ρ w) → (SlR law35_Op.c (Wb ρ) w vl_0 l_0) → (SlR strC (Wb ρ) w vusers_1 users_1) → (SlR strC (Wb ρ) w vscopes_2 scopes_2) → (delegate_Delegations.O (fun p => 100 + p) ρ w gd_9 od_9) → KE Try.prog 6 (Ret (fun v w' => v = .bool r ∧ Below w0.heap.size w0 w')) 106 [.inLoop (sub (bodyOf Try.f6) [2, 2, 2, 2, 1, 2, 2, 1]), .inBlock 0, .code (sub (bodyOf Try.f6) [2, 2, 2, 2, 2])] [(0, vl_0), (1, vusers_1), (2, vscopes_2), (3, .int .i64 now_3), (9, .pointer (some ⟨gd_9, 0, none⟩)), (10, .int .i64 i_10)] w)
  (hr1 : ∀ {r : Bool} {users_1 : List Str} {scopes_2 : List Str} {now_3 : Int} {od_9 : delegate_Delegations} {i_11 : Int} {vusers_1 : Value} {vscopes_2 : Value} {gd_9 : Nat}, r1 users_1 scopes_2 now_3 od_9 i_11 = some r → ∀ {ρ : Tags} {w : World}, (Fr (flat1 ρA) w0 ρ w) → (SlR strC (Wb ρ) w vusers_1 users_1) → (SlR strC (Wb ρ) w vscopes_2 scopes_2) → (delegate_Delegations.O (fun p => 100 + p) ρ w gd_9 od_9) → KE Try.prog 6 (Ret (fun v w' => v = .bool r ∧ Below w0.heap.size w0 w')) 106 [.inLoop (sub (bodyOf Try.f6) [2, 2, 2, 2, 2, 2, 1, 2, 2, 1]), .inBlock 2, .code (sub (bodyOf Try.f6) [2, 2, 2, 2, 2, 2, 2])] [(1, vusers_1), (2, vscopes_2), (3, .int .i64 now_3), (9, .pointer (some ⟨gd_9, 0, none⟩)), (11, .int .i64 i_11)] w) : ∀ (n : Nat), ∀ {r : Bool} {users_1 : List Str} {scopes_2 : List Str} {now_3 : Int} {od_9 : delegate_Delegations} {i_11 : Int} {k_12 : Int} {vusers_1 : Value} {vscopes_2 : Value} {gd_9 : Nat}, law35_DelegateChains_L3 r0 r1 n users_1 scopes_2 now_3 od_9 i_11 k_12 = some r → ∀ {ρ : Tags} {w : World}, (Fr (flat1 ρA) w0 ρ w) → (SlR strC (Wb ρ) w vusers_1 users_1) → (SlR strC (Wb ρ) w vscopes_2 scopes_2) → (delegate_Delegations.O (fun p => 100 + p) ρ w gd_9 od_9) → KE Try.prog 6 (Ret (fun v w' => v = .bool r ∧ Below w0.heap.size w0 w')) 106 [.code (sub (bodyOf Try.f6) [2, 2, 2, 2, 2, 2, 1, 2, 2, 1, 2, 1, 2, 2, 2, 2, 1]), .inLoop (sub (bodyOf Try.f6) [2, 2, 2, 2, 2, 2, 1, 2, 2, 1, 2, 1, 2, 2, 2, 2, 1]), .inBlock 4, .inBlock 3, .code (sub (bodyOf Try.f6) [2, 2, 2, 2, 2, 2, 1, 2, 2, 1, 2, 2]), .inLoop (sub (bodyOf Try.f6) [2, 2, 2, 2, 2, 2, 1, 2, 2, 1]), .inBlock 2, .code (sub (bodyOf Try.f6) [2, 2, 2, 2, 2, 2, 2])] [(1, vusers_1), (2, vscopes_2), (3, .int .i64 now_3), (9, .pointer (some ⟨gd_9, 0, none⟩)), (11, .int .i64 i_11), (12, .int .i64 k_12)] w := by
 intro n
 induction n with
 | zero => intro r users_1 scopes_2 now_3 od_9 i_11 k_12 vusers_1 vscopes_2 gd_9 hS; cases hS
 | succ n ih =>
  have hr2 : ∀ {r : Bool} {users_1 : List Str} {scopes_2 : List Str} {now_3 : Int} {od_9 : delegate_Delegations} {i_11 : Int} {k_12 : Int} {vusers_1 : Value} {vscopes_2 : Value} {gd_9 : Nat}, law35_DelegateChains_L3 r0 r1 n users_1 scopes_2 now_3 od_9 i_11 k_12 = some r → ∀ {ρ : Tags} {w : World}, (Fr (flat1 ρA) w0 ρ w) → (SlR strC (Wb ρ) w vusers_1 users_1) → (SlR strC (Wb ρ) w vscopes_2 scopes_2) → (delegate_Delegations.O (fun p => 100 + p) ρ w gd_9 od_9) → KE Try.prog 6 (Ret (fun v w' => v = .bool r ∧ Below w0.heap.size w0 w')) 106 [.inLoop (sub (bodyOf Try.f6) [2, 2, 2, 2, 2, 2, 1, 2, 2, 1, 2, 1, 2, 2, 2, 2, 1]), .inBlock 4, .inBlock 3, .code (sub (bodyOf Try.f6) [2, 2, 2, 2, 2, 2, 1, 2, 2, 1, 2, 2]), .inLoop (sub (bodyOf Try.f6) [2, 2, 2, 2, 2, 2, 1, 2, 2, 1]), .inBlock 2, .code (sub (bodyOf Try.f6) [2, 2, 2, 2, 2, 2, 2])] [(1, vusers_1), (2, vscopes_2), (3, .int .i64 now_3), (9, .pointer (some ⟨gd_9, 0, none⟩)), (11, .int .i64 i_11), (12, .int .i64 k_12)] w := fun {r} {users_1} {scopes_2} {now_3} {od_9} {i_11} {k_12} {vusers_1} {vscopes_2} {gd_9} hS {ρ} {w} hb husers_1 hscopes_2 hod_9 => ke_inLoop (ih hS hb husers_1 hscopes_2 hod_9)
  clear ih
  intro r users_1 scopes_2 now_3 od_9 i_11 k_12 vusers_1 vscopes_2 gd_9 hS ρ w hb husers_1 hscopes_2 hod_9
  unfold law35_DelegateChains_L3 at hS
  obtain ⟨v118, hB120, h119⟩ := hod_9
  replace hB120 : Blk ρ 100 w gd_9 (.cells #[v118] 54 (0, 0)) := hB120
  replace h119 : MapT delegate_way.ek delegate_delegation.c true ρ 101 w v118 od_9.ways := h119
  refine ke_seq ?_
  refine ke_seq ?_
  refine ke_region ?_
  refine sr_ev (v := .int .i64 k_12) (ev_move rfl) (by decide) ?_
  refine sr_ev (v := vscopes_2) (ev_move rfl) (by decide) ?_
  refine sr_ev (v := .int .i64 (scopes_2.length : Int)) (ev_sllen Try.underlying23 rfl hscopes_2.asSl) (by decide) ?_
  refine sr_ev (v := .bool (decide (k_12 < (scopes_2.length : Int)))) (ev_lt rfl rfl) (by decide) ?_
  refine sr_ev (v := .bool (decide (k_12 < (scopes_2.length : Int)))) (ev_move rfl) (by decide) ?_
  refine sr_join (m := 6) (C := fun (x : Bool) w1 => x = ((decide (k_12 < (scopes_2.length : Int))) && (decide ((IntKind.i64.wrap (i_11 + 1)) < (users_1.length : Int)))) ∧ w = w1) (l' := fun x => [(1, vusers_1), (2, vscopes_2), (3, .int .i64 now_3), (9, .pointer (some ⟨gd_9, 0, none⟩)), (11, .int .i64 i_11), (12, .int .i64 k_12), (83, .bool x)]) ?_ ?_
  ·rintro _ _ ⟨rfl, rfl⟩
   refine sr_end (l' := [(1, vusers_1), (2, vscopes_2), (3, .int .i64 now_3), (9, .pointer (some ⟨gd_9, 0, none⟩)), (11, .int .i64 i_11), (12, .int .i64 k_12), (83, .bool ((decide (k_12 < (scopes_2.length : Int))) && (decide ((IntKind.i64.wrap (i_11 + 1)) < (users_1.length : Int)))))]) (.cons rfl (.cons rfl (.cons rfl (.cons rfl (.cons rfl (.cons rfl (.cons rfl (.nil _)))))))) ?_
   refine ke_cond (t := (decide (k_12 < (scopes_2.length : Int))) && (decide ((IntKind.i64.wrap (i_11 + 1)) < (users_1.length : Int)))) rfl (fun hc129 => ?_) (fun hc129 => ?_)
   ·replace hS := ite_true' hS hc129
    refine ke_skip ?_
    refine ke_seq ?_
    refine ke_block ?_
    refine ke_seq ?_
    refine ke_region_j (ρ := ρ) (fun _ => false) 19 Try.mixed (fun w131 hw130 => ?_)
    have htr132 := Tr.of_below hw130 hb.bd
    replace husers_1 := husers_1.mv htr132.rd
    replace hscopes_2 := hscopes_2.mv htr132.rd
    replace hB120 := hB120.mv (htr132.mv (i := 100) rfl)
    replace h119 := h119.mv (htr132.mv (i := 101) rfl)
    replace hb := hb.trans htr132
    refine dj_H 0 (v := .pointer (some ⟨gd_9, 0, none⟩)) (by kernel_rfl) (by kernel_rfl) rfl (fun _ _ _ h => h) (sj_refl hb.bd rfl rfl) (fun w1 ρ1 hw1 => ev_move rfl) (by decide) ?_
    refine dj_H 1 (v := vusers_1) (by kernel_rfl) (by kernel_rfl) rfl (fun _ _ _ h => h) (sj_refl hb.bd rfl rfl) (fun w1 ρ1 hw1 => ev_move rfl) (by decide) ?_
    refine dj_H 2 (v := vusers_1) (by kernel_rfl) (by kernel_rfl) rfl (fun _ _ _ h => h) (sj_refl hb.bd rfl rfl) (fun w1 ρ1 hw1 => ev_move rfl) (by decide) ?_
    refine dj_H 3 (v := .int .i64 (users_1.length : Int)) (by kernel_rfl) (by kernel_rfl) rfl (fun _ _ _ h => h) (sj_refl hb.bd rfl rfl) (fun w1 ρ1 hw1 => ev_sllen Try.underlying23 rfl (husers_1.mv hw1.rd).asSl) (by decide) ?_
    refine dj_H 4 (v := .int .i64 (IntKind.i64.wrap ((users_1.length : Int) - 1))) (by kernel_rfl) (by kernel_rfl) rfl (fun _ _ _ h => h) (sj_refl hb.bd rfl rfl) (fun w1 ρ1 hw1 => ev_sub rfl rfl) (by decide) ?_
    obtain ⟨y204, hy205, hS⟩ := bind_some' hS
    obtain ⟨b206, o207, cs209, hq210, he208⟩ := ((SlT.of_sl (i := 0) husers_1)).elem (P := Try.prog) Try.underlying23 Try.info9 rfl hy205
    obtain rfl : cs209 = [str y204] := he208.rd
    refine dj_H 5 (v := .pointer (some ⟨b206, o207, none⟩)) (by kernel_rfl) (by kernel_rfl) rfl (fun _ _ _ h => h) (sj_refl hb.bd rfl rfl) (fun w1 ρ1 hw1 => hq210 w1 rfl rfl) (by decide) ?_
    refine dj_H 6 (v := str y204) (by kernel_rfl) (by kernel_rfl) rfl (fun _ _ _ h => h) (sj_refl hb.bd rfl rfl) (fun w1 ρ1 hw1 => ev_load Try.isAgg9 rfl ((he208.mv (hw1.mv (i := 0) rfl) (Nat.succ_pos _)).cell 0 _ rfl)) (by decide) ?_
    refine dj_H 7 (v := vscopes_2) (by kernel_rfl) (by kernel_rfl) rfl (fun _ _ _ h => h) (sj_refl hb.bd rfl rfl) (fun w1 ρ1 hw1 => ev_move rfl) (by decide) ?_
    refine dj_H 8 (v := .int .i64 k_12) (by kernel_rfl) (by kernel_rfl) rfl (fun _ _ _ h => h) (sj_refl hb.bd rfl rfl) (fun w1 ρ1 hw1 => ev_move rfl) (by decide) ?_
    obtain ⟨y211, hy212, hS⟩ := bind_some' hS
    obtain ⟨b213, o214, cs216, hq217, he215⟩ := ((SlT.of_sl (i := 0) hscopes_2)).elem (P := Try.prog) Try.underlying23 Try.info9 rfl hy212
    obtain rfl : cs216 = [str y211] := he215.rd
    refine dj_H 9 (v := .pointer (some ⟨b213, o214, none⟩)) (by kernel_rfl) (by kernel_rfl) rfl (fun _ _ _ h => h) (sj_refl hb.bd rfl rfl) (fun w1 ρ1 hw1 => hq217 w1 rfl rfl) (by decide) ?_
    refine dj_H 10 (v := str y211) (by kernel_rfl) (by kernel_rfl) rfl (fun _ _ _ h => h) (sj_refl hb.bd rfl rfl) (fun w1 ρ1 hw1 => ev_load Try.isAgg9 rfl ((he215.mv (hw1.mv (i := 0) rfl) (Nat.succ_pos _)).cell 0 _ rfl)) (by decide) ?_
    refine dj_H 11 (v := .int .i64 now_3) (by kernel_rfl) (by kernel_rfl) rfl (fun _ _ _ h => h) (sj_refl hb.bd rfl rfl) (fun w1 ρ1 hw1 => ev_move rfl) (by decide) ?_
    refine dj_H 13 (v := vusers_1) (by kernel_rfl) (by kernel_rfl) rfl (fun _ _ _ h => h) (sj_refl hb.bd rfl rfl) (fun w1 ρ1 hw1 => ev_move rfl) (by decide) ?_
    refine dj_H 14 (v := .int .i64 i_11) (by kernel_rfl) (by kernel_rfl) rfl (fun _ _ _ h => h) (sj_refl hb.bd rfl rfl) (fun w1 ρ1 hw1 => ev_move rfl) (by decide) ?_
    obtain ⟨y218, hy219, hS⟩ := bind_some' hS
    obtain ⟨b220, o221, cs223, hq224, he222⟩ := ((SlT.of_sl (i := 0) husers_1)).elem (P := Try.prog) Try.underlying23 Try.info9 rfl hy219
    obtain rfl : cs223 = [str y218] := he222.rd
    refine dj_H 15 (v := .pointer (some ⟨b220, o221, none⟩)) (by kernel_rfl) (by kernel_rfl) rfl (fun _ _ _ h => h) (sj_refl hb.bd rfl rfl) (fun w1 ρ1 hw1 => hq224 w1 rfl rfl) (by decide) ?_
    refine dj_H 16 (v := str y218) (by kernel_rfl) (by kernel_rfl) rfl (fun _ _ _ h => h) (sj_refl hb.bd rfl rfl) (fun w1 ρ1 hw1 => ev_load Try.isAgg9 rfl ((he222.mv (hw1.mv (i := 0) rfl) (Nat.succ_pos _)).cell 0 _ rfl)) (by decide) ?_
    refine dj_E 12 (by kernel_rfl) rfl ?_
    have jt225 : Tr ρ w131 (fun _ => false) ρ w131 := (Tr.refl hb.bd).weak (fun _ _ => rfl) rfl rfl
    obtain ⟨y226, hy227, hS⟩ := bind_some' hS
    refine sr_call (vs := [.pointer (some ⟨gd_9, 0, none⟩), str y204, str y211, .int .i64 now_3]) rfl Try.call20 rfl (delegate_Delegations_Reach_ok _ (hg.fr hz hb) (ρA := ρ) hb.bd (hz.fr hg hb) (τ0 := (fun p => 100 + p)) (fun p => Nat.le_add_right_of_le (by decide)) (⟨_, hB120, h119⟩ : delegate_Delegations.O (fun p => 100 + p) ρ w131 gd_9 od_9) hy227) (by decide) ?_
    rintro v231 w228 ⟨_, rfl, h232, hbw229⟩
    have htr230 := Tr.of_below hbw229 hb.bd
    replace husers_1 := husers_1.mv htr230.rd
    replace hscopes_2 := hscopes_2.mv htr230.rd
    replace hB120 := hB120.mv (htr230.mv (i := 100) rfl)
    replace h119 := h119.mv (htr230.mv (i := 101) rfl)
    replace hb := hb.trans htr230
    replace jt225 := (jt225.trans htr230).weak (J' := (fun _ => false)) (by intro t h; simp [rng] at h ⊢ <;> omega) rfl rfl
    refine dj_next (l' := [(1, vusers_1), (2, vscopes_2), (3, .int .i64 now_3), (9, .pointer (some ⟨gd_9, 0, none⟩)), (11, .int .i64 i_11), (12, .int .i64 k_12), (98, v231), (102, str y218)]) rfl (.cons rfl (.cons rfl (.cons rfl (.cons rfl (.cons rfl (.cons rfl (.cons rfl (.cons rfl (.nil _))))))))) jt225 (by intro t h; simp [rng] at h ⊢ <;> omega) rfl rfl ?_
    refine dj_E 17 (by kernel_rfl) rfl ?_
    have jt233 : Tr ρ w228 (fun _ => false) ρ w228 := (Tr.refl hb.bd).weak (fun _ _ => rfl) rfl rfl
    obtain ⟨y234, hy235, hS⟩ := bind_some' hS
    refine sr_call (vs := [v231, str y218]) rfl Try.call27 rfl (law35_holds_ok _ (hg.fr hz hb) h232.asSl hy235) (by decide) ?_
    rintro _ w236 ⟨rfl, hbw237⟩
    have htr238 := Tr.of_below hbw237 hb.bd
    replace husers_1 := husers_1.mv htr238.rd
    replace hscopes_2 := hscopes_2.mv htr238.rd
    replace hB120 := hB120.mv (htr238.mv (i := 100) rfl)
    replace h119 := h119.mv (htr238.mv (i := 101) rfl)
    replace hb := hb.trans htr238
    replace jt233 := (jt233.trans htr238).weak (J' := (fun _ => false)) (by intro t h; simp [rng] at h ⊢ <;> omega) rfl rfl
    refine dj_next (l' := [(1, vusers_1), (2, vscopes_2), (3, .int .i64 now_3), (9, .pointer (some ⟨gd_9, 0, none⟩)), (11, .int .i64 i_11), (12, .int .i64 k_12), (103, .bool y234)]) rfl (.cons rfl (.cons rfl (.cons rfl (.cons rfl (.cons rfl (.cons rfl (.cons rfl (.nil _)))))))) jt233 (by intro t h; simp [rng] at h ⊢ <;> omega) rfl rfl ?_
    refine dj_H 18 (v := .bool (!y234)) (by kernel_rfl) (by kernel_rfl) rfl (fun _ _ _ h => h) (sj_refl hb.bd rfl rfl) (fun w1 ρ1 hw1 => ev_not rfl) (by decide) ?_
    refine dj_done rfl (by kernel_rfl) ?_
    refine ke_weaken (l' := [(1, vusers_1), (2, vscopes_2), (3, .int .i64 now_3), (9, .pointer (some ⟨gd_9, 0, none⟩)), (11, .int .i64 i_11), (12, .int .i64 k_12), (104, .bool (!y234))]) (.cons rfl (.cons rfl (.cons rfl (.cons rfl (.cons rfl (.cons rfl (.cons rfl (.nil _)))))))) ?_
    refine ke_cond (t := !y234) rfl (fun hc239 => ?_) (fun hc239 => ?_)
    ·replace hS := ite_true' hS hc239
     refine ke_seq ?_
     refine ke_region ?_
     refine sr_ev (v := .bool false) (ev_assign rfl) (by decide) ?_
     refine sr_end (l' := [(8, .bool false)]) (.cons rfl (.nil _)) ?_
     cases hS
     exact ke_ret1 Try.func6 rfl rfl ⟨_, rfl, rfl, (hb.below (flat1_le _))⟩
    ·replace hS := ite_false' hS hc239
     refine ke_skip ?_
     refine ke_inBlock ?_
     refine ke_region ?_
     refine sr_ev (v := .int .i64 k_12) (ev_move rfl) (by decide) ?_
     refine sr_ev (v := .int .i64 (IntKind.i64.wrap (k_12 + 1))) (ev_add rfl rfl) (by decide) ?_
     refine sr_ev (v := .int .i64 (IntKind.i64.wrap (k_12 + 1))) (ev_assign rfl) (by decide) ?_
     refine sr_end (l' := [(1, vusers_1), (2, vscopes_2), (3, .int .i64 now_3), (9, .pointer (some ⟨gd_9, 0, none⟩)), (11, .int .i64 i_11), (12, .int .i64 (IntKind.i64.wrap (k_12 + 1)))]) (.cons rfl (.cons rfl (.cons rfl (.cons rfl (.cons rfl (.cons rfl (.nil _))))))) ?_
     have hK := hr2 hS hb husers_1 hscopes_2 ⟨_, hB120, h119⟩
     exact ke_weaken (l' := [(1, vusers_1), (2, vscopes_2), (3, .int .i64 now_3), (9, .pointer (some ⟨gd_9, 0, none⟩)), (11, .int .i64 i_11), (12, .int .i64 (IntKind.i64.wrap (k_12 + 1)))]) (.cons rfl (.cons rfl (.cons rfl (.cons rfl (.cons rfl (.cons rfl (.nil _))))))) hK
   ·replace hS := ite_false' hS hc129
    refine ke_exit (k' := _) rfl ?_
    refine ke_inBlock ?_
    refine ke_region ?_
    refine sr_ev (v := .int .i64 i_11) (ev_move rfl) (by decide) ?_
    refine sr_ev (v := .int .i64 (IntKind.i64.wrap (i_11 + 1))) (ev_add rfl rfl) (by decide) ?_
    refine sr_ev (v := .int .i64 (IntKind.i64.wrap (i_11 + 1))) (ev_assign rfl) (by decide) ?_
    refine sr_end (l' := [(1, vusers_1), (2, vscopes_2), (3, .int .i64 now_3), (9, .pointer (some ⟨gd_9, 0, none⟩)), (11, .int .i64 (IntKind.i64.wrap (i_11 + 1)))]) (.cons rfl (.cons rfl (.cons rfl (.cons rfl (.cons rfl (.nil _)))))) ?_
    have hK := hr1 hS hb husers_1 hscopes_2 ⟨_, hB120, h119⟩
    exact ke_weaken (l' := [(1, vusers_1), (2, vscopes_2), (3, .int .i64 now_3), (9, .pointer (some ⟨gd_9, 0, none⟩)), (11, .int .i64 (IntKind.i64.wrap (i_11 + 1)))]) (.cons rfl (.cons rfl (.cons rfl (.cons rfl (.cons rfl (.nil _)))))) hK
  ·intro K122
   rcases Bool.eq_false_or_eq_true (decide (k_12 < (scopes_2.length : Int))) with hg121 | hg121
   all_goals try have hj124 : Tr ρ w (fun _ => false) ρ w := Tr.refl hb.bd
   ·refine sr_evg (b := true) (e := 77) rfl rfl hg121 (v := .int .i64 i_11) (ev_move rfl) (by decide) ?_
    refine sr_evg (b := true) (e := 77) rfl rfl hg121 (v := .int .i64 (IntKind.i64.wrap (i_11 + 1))) (ev_add rfl rfl) (by decide) ?_
    refine sr_evg (b := true) (e := 77) rfl rfl hg121 (v := vusers_1) (ev_move rfl) (by decide) ?_
    refine sr_evg (b := true) (e := 77) rfl rfl hg121 (v := .int .i64 (users_1.length : Int)) (ev_sllen Try.underlying23 rfl husers_1.asSl) (by decide) ?_
    refine sr_evg (b := true) (e := 77) rfl rfl hg121 (v := .bool (decide ((IntKind.i64.wrap (i_11 + 1)) < (users_1.length : Int)))) (ev_lt rfl rfl) (by decide) ?_
    refine sr_ev (v := .bool (decide ((IntKind.i64.wrap (i_11 + 1)) < (users_1.length : Int)))) (ev_pick_t rfl hg121 rfl) (by decide) ?_
    exact sr_weaken (l' := [(1, vusers_1), (2, vscopes_2), (3, .int .i64 now_3), (9, .pointer (some ⟨gd_9, 0, none⟩)), (11, .int .i64 i_11), (12, .int .i64 k_12), (83, .bool (decide ((IntKind.i64.wrap (i_11 + 1)) < (users_1.length : Int))))]) (.cons rfl (.cons rfl (.cons rfl (.cons rfl (.cons rfl (.cons rfl (.cons rfl (.nil _)))))))) (K122 (decide ((IntKind.i64.wrap (i_11 + 1)) < (users_1.length : Int))) _ ⟨by rw [hg121]; rfl, rfl⟩)
   ·refine sr_pass (e := 77) rfl rfl (by rw [hg121]; rfl) (by decide) ?_
    refine sr_pass (e := 77) rfl rfl (by rw [hg121]; rfl) (by decide) ?_
    refine sr_pass (e := 77) rfl rfl (by rw [hg121]; rfl) (by decide) ?_
    refine sr_pass (e := 77) rfl rfl (by rw [hg121]; rfl) (by decide) ?_
    refine sr_pass (e := 77) rfl rfl (by rw [hg121]; rfl) (by decide) ?_
    refine sr_ev (v := .bool false) (ev_pick_f rfl hg121 rfl) (by decide) ?_
    exact sr_weaken (l' := [(1, vusers_1), (2, vscopes_2), (3, .int .i64 now_3), (9, .pointer (some ⟨gd_9, 0, none⟩)), (11, .int .i64 i_11), (12, .int .i64 k_12), (83, .bool false)]) (.cons rfl (.cons rfl (.cons rfl (.cons rfl (.cons rfl (.cons rfl (.cons rfl (.nil _)))))))) (K122 false _ ⟨by rw [hg121]; rfl, rfl⟩)
theorem law35_DelegateChains_L2_ok {w0 : World} (hg : Gs w0) {ρA : Tags} (hbd : ∀ b, ρA b ≠ 0 → b < w0.heap.size) (hz : Gz (flat1 ρA)) (r0 : List law35_Op → List Str → List Str → Int → delegate_Delegations → Int → Option (Bool))
  (hr0 : ∀ {r : Bool} {l_0 : List law35_Op} {users_1 : List Str} {scopes_2 : List Str} {now_3 : Int} {od_9 : delegate_Delegations} {i_10 : Int} {vl_0 : Value} {vusers_1 : Value} {vscopes_2 : Value} {gd_9 : Nat}, r0 l_0 users_1 scopes_2 now_3 od_9 i_10 = some r → ∀ {ρ : Tags} {w : World}, (Fr (flat1 ρA) w0 ρ w) → (SlR law35_Op.c (Wb ρ) w vl_0 l_0) → (SlR strC (Wb ρ) w vusers_1 users_1) → (SlR strC (Wb ρ) w vscopes_2 scopes_2) → (delegate_Delegations.O (fun p => 100 + p) ρ w gd_9 od_9) → KE Try.prog 6 (Ret (fun v w' => v = .bool r ∧ Below w0.heap.size w0 w')) 106 [.inLoop (sub (bodyOf Try.f6) [2, 2, 2, 2, 1, 2, 2, 1]), .inBlock 0, .code (sub (bodyOf Try.f6) [2, 2, 2, 2, 2])] [(0, vl_0), (1, vusers_1), (2, vscopes_2), (3, .int .i64 now_3), (9, .pointer (some ⟨gd_9, 0, none⟩)), (10, .int .i64 i_10)] w) : ∀ (n : Nat), ∀ {r : Bool} {users_1 : List Str} {scopes_2 : List Str} {now_3 : Int} {od_9 : delegate_Delegations} {i_11 : Int} {vusers_1 : Value} {vscopes_2 : Value} {gd_9 : Nat}, law35_DelegateChains_L2 r0 n users_1 scopes_2 now_3 od_9 i_11 = some r → ∀ {ρ : Tags} {w : World}, (Fr (flat1 ρA) w0 ρ w) → (SlR strC (Wb ρ) w vusers_1 users_1) → (SlR strC (Wb ρ) w vscopes_2 scopes_2) → (delegate_Delegations.O (fun p => 100 + p) ρ w gd_9 od_9) → KE Try.prog 6 (Ret (fun v w' => v = .bool r ∧ Below w0.heap.size w0 w')) 106 [.code (sub (bodyOf Try.f6) [2, 2, 2, 2, 2, 2, 1, 2, 2, 1]), .inLoop (sub (bodyOf Try.f6) [2, 2, 2, 2, 2, 2, 1, 2, 2, 1]), .inBlock 2, .code (sub (bodyOf Try.f6) [2, 2, 2, 2, 2, 2, 2])] [(1, vusers_1), (2, vscopes_2), (3, .int .i64 now_3), (9, .pointer (some ⟨gd_9, 0, none⟩)), (11, .int .i64 i_11)] w := by
 intro n
 induction n with
 | zero => intro r users_1 scopes_2 now_3 od_9 i_11 vusers_1 vscopes_2 gd_9 hS; cases hS
 | succ n ih =>
  have hr1 : ∀ {r : Bool} {users_1 : List Str} {scopes_2 : List Str} {now_3 : Int} {od_9 : delegate_Delegations} {i_11 : Int} {vusers_1 : Value} {vscopes_2 : Value} {gd_9 : Nat}, law35_DelegateChains_L2 r0 n users_1 scopes_2 now_3 od_9 i_11 = some r → ∀ {ρ : Tags} {w : World}, (Fr (flat1 ρA) w0 ρ w) → (SlR strC (Wb ρ) w vusers_1 users_1) → (SlR strC (Wb ρ) w vscopes_2 scopes_2) → (delegate_Delegations.O (fun p => 100 + p) ρ w gd_9 od_9) → KE Try.prog 6 (Ret (fun v w' => v = .bool r ∧ Below w0.heap.size w0 w')) 106 [.inLoop (sub (bodyOf Try.f6) [2, 2, 2, 2, 2, 2, 1, 2, 2, 1]), .inBlock 2, .code (sub (bodyOf Try.f6) [2, 2, 2, 2, 2, 2, 2])] [(1, vusers_1), (2, vscopes_2), (3, .int .i64 now_3), (9, .pointer (some ⟨gd_9, 0, none⟩)), (11, .int .i64 i_11)] w := fun {r} {users_1} {scopes_2} {now_3} {od_9} {i_11} {vusers_1} {vscopes_2} {gd_9} hS {ρ} {w} hb husers_1 hscopes_2 hod_9 => ke_inLoop (ih hS hb husers_1 hscopes_2 hod_9)
  clear ih
  intro r users_1 scopes_2 now_3 od_9 i_11 vusers_1 vscopes_2 gd_9 hS ρ w hb husers_1 hscopes_2 hod_9
  unfold law35_DelegateChains_L2 at hS
  obtain ⟨v87, hB89, h88⟩ := hod_9
  replace hB89 : Blk ρ 100 w gd_9 (.cells #[v87] 54 (0, 0)) := hB89
  replace h88 : MapT delegate_way.ek delegate_delegation.c true ρ 101 w v87 od_9.ways := h88
  refine ke_seq ?_
  refine ke_seq ?_
  refine ke_region ?_
  refine sr_ev (v := .int .i64 i_11) (ev_move rfl) (by decide) ?_
  refine sr_ev (v := vusers_1) (ev_move rfl) (by decide) ?_
  refine sr_ev (v := .int .i64 (users_1.length : Int)) (ev_sllen Try.underlying23 rfl husers_1.asSl) (by decide) ?_
  refine sr_ev (v := .bool (decide (i_11 < (users_1.length : Int)))) (ev_lt rfl rfl) (by decide) ?_
  refine sr_end (l' := [(1, vusers_1), (2, vscopes_2), (3, .int .i64 now_3), (9, .pointer (some ⟨gd_9, 0, none⟩)), (11, .int .i64 i_11), (52, .bool (decide (i_11 < (users_1.length : Int))))]) (.cons rfl (.cons rfl (.cons rfl (.cons rfl (.cons rfl (.cons rfl (.nil _))))))) ?_
  refine ke_cond (t := decide (i_11 < (users_1.length : Int))) rfl (fun hc90 => ?_) (fun hc90 => ?_)
  ·replace hS := ite_true' hS hc90
   refine ke_skip ?_
   refine ke_seq ?_
   refine ke_block ?_
   refine ke_seq ?_
   refine ke_seq ?_
   refine ke_region ?_
   refine sr_ev (v := .pointer (some ⟨gd_9, 0, none⟩)) (ev_move rfl) (by decide) ?_
   refine sr_ev (v := vusers_1) (ev_move rfl) (by decide) ?_
   refine sr_ev (v := .int .i64 i_11) (ev_move rfl) (by decide) ?_
   obtain ⟨hk91, hS⟩ := chk_some hS
   obtain ⟨v92, h93, hq94⟩ := ((SlT.of_sl (i := 0) husers_1)).cutT_l (P := Try.prog) Try.underlying23 Try.info9 rfl hk91
   replace h93 := h93.sl
   refine sr_ev (v := v92) (hq94 w rfl rfl) (by decide) ?_
   refine sr_ev (v := vscopes_2) (ev_move rfl) (by decide) ?_
   refine sr_ev (v := .int .i64 now_3) (ev_move rfl) (by decide) ?_
   obtain ⟨y95, hy96, hS⟩ := bind_some' hS
   refine sr_call (vs := [.pointer (some ⟨gd_9, 0, none⟩), v92, vscopes_2, .int .i64 now_3]) rfl Try.call18 rfl (delegate_Delegations_Chain_ok _ (hg.fr hz hb) (ρA := ρ) hb.bd (hz.fr hg hb) (τ0 := (fun p => 100 + p)) (fun p => Nat.le_add_right_of_le (by decide)) h93 hscopes_2 (⟨_, hB89, h88⟩ : delegate_Delegations.O (fun p => 100 + p) ρ w gd_9 od_9) hy96) (by decide) ?_
   rintro _ w97 ⟨rfl, hbw98⟩
   have htr99 := Tr.of_below hbw98 hb.bd
   replace husers_1 := husers_1.mv htr99.rd
   replace hscopes_2 := hscopes_2.mv htr99.rd
   replace hB89 := hB89.mv (htr99.mv (i := 100) rfl)
   replace h88 := h88.mv (htr99.mv (i := 101) rfl)
   replace hb := hb.trans htr99
   refine sr_ev (v := .bool (y95 != 0)) (ev_ne rfl rfl) (by decide) ?_
   refine sr_ev (v := .bool (y95 != 0)) (ev_move rfl) (by decide) ?_
   obtain ⟨z102, hz104, hS⟩ := bind_some' hS
   refine sr_join (m := 9) (C := fun (z : Bool) w1 => z102 = z ∧ ∃ ρ1, Tr ρ w97 (fun _ => false) ρ1 w1) (l' := fun z => [(1, vusers_1), (2, vscopes_2), (3, .int .i64 now_3), (9, .pointer (some ⟨gd_9, 0, none⟩)), (11, .int .i64 i_11), (72, .bool z)]) ?_ ?_
   ·rintro _ w105 ⟨rfl, ρ106, hj103⟩
    replace husers_1 := husers_1.mv hj103.rd
    replace hscopes_2 := hscopes_2.mv hj103.rd
    replace hB89 := hB89.mv (hj103.mv (i := 100) rfl)
    replace h88 := h88.mv (hj103.mv (i := 101) rfl)
    replace hb := hb.trans hj103
    refine sr_end (l' := [(1, vusers_1), (2, vscopes_2), (3, .int .i64 now_3), (9, .pointer (some ⟨gd_9, 0, none⟩)), (11, .int .i64 i_11), (72, .bool z102)]) (.cons rfl (.cons rfl (.cons rfl (.cons rfl (.cons rfl (.cons rfl (.nil _))))))) ?_
    refine ke_cond (t := z102) rfl (fun hc117 => ?_) (fun hc117 => ?_)
    ·replace hS := ite_true' hS hc117
     refine ke_seq ?_
     refine ke_region ?_
     refine sr_ev (v := .bool false) (ev_assign rfl) (by decide) ?_
     refine sr_end (l' := [(8, .bool false)]) (.cons rfl (.nil _)) ?_
     cases hS
     exact ke_ret1 Try.func6 rfl rfl ⟨_, rfl, rfl, (hb.below (flat1_le _))⟩
    ·replace hS := ite_false' hS hc117
     refine ke_skip ?_
     refine ke_seq ?_
     refine ke_region ?_
     refine sr_ev (v := .int .i64 0) (ev_assign rfl) (by decide) ?_
     refine sr_end (l' := [(1, vusers_1), (2, vscopes_2), (3, .int .i64 now_3), (9, .pointer (some ⟨gd_9, 0, none⟩)), (11, .int .i64 i_11), (12, .int .i64 0)]) (.cons rfl (.cons rfl (.cons rfl (.cons rfl (.cons rfl (.cons rfl (.nil _))))))) ?_
     refine ke_block ?_
     have hK := law35_DelegateChains_L3_ok hg hbd hz _ _ hr0 hr1 _ hS hb husers_1 hscopes_2 ⟨_, hB89, h88⟩
     exact ke_weaken (l' := [(1, vusers_1), (2, vscopes_2), (3, .int .i64 now_3), (9, .pointer (some ⟨gd_9, 0, none⟩)), (11, .int .i64 i_11), (12, .int .i64 0)]) (.cons rfl (.cons rfl (.cons rfl (.cons rfl (.cons rfl (.cons rfl (.nil _))))))) (ke_loop hK)
   ·intro K101
    clear hS
    have hj103 : Tr ρ w97 (fun _ => false) ρ w97 := (Tr.refl hb.bd).weak (fun _ _ => rfl) rfl rfl
    rcases Bool.eq_false_or_eq_true (y95 != 0) with hg100 | hg100
    ·have hS := ite_true' hz104 hg100
     refine sr_pass (e := 63) rfl rfl (by rw [hg100]; rfl) (by decide) ?_
     refine sr_pass (e := 63) rfl rfl (by rw [hg100]; rfl) (by decide) ?_
     refine sr_pass (e := 63) rfl rfl (by rw [hg100]; rfl) (by decide) ?_
     refine sr_pass (e := 63) rfl rfl (by rw [hg100]; rfl) (by decide) ?_
     refine sr_pass (e := 63) rfl rfl (by rw [hg100]; rfl) (by decide) ?_
     refine sr_pass (e := 63) rfl rfl (by rw [hg100]; rfl) (by decide) ?_
     refine sr_pass (e := 63) rfl rfl (by rw [hg100]; rfl) (by decide) ?_
     refine sr_pass (e := 63) rfl rfl (by rw [hg100]; rfl) (by decide) ?_
     refine sr_ev (v := .bool true) (ev_pick_t rfl hg100 rfl) (by decide) ?_
     exact sr_weaken (l' := [(1, vusers_1), (2, vscopes_2), (3, .int .i64 now_3), (9, .pointer (some ⟨gd_9, 0, none⟩)), (11, .int .i64 i_11), (72, .bool true)]) (.cons rfl (.cons rfl (.cons rfl (.cons rfl (.cons rfl (.cons rfl (.nil _))))))) (K101 true _ ⟨(Option.some.inj hS).symm, _, hj103⟩)
    ·have hS := ite_false' hz104 hg100
     refine sr_evg (b := false) (e := 63) rfl rfl hg100 (v := .pointer (some ⟨gd_9, 0, none⟩)) (ev_move rfl) (by decide) ?_
     refine sr_evg (b := false) (e := 63) rfl rfl hg100 (v := vusers_1) (ev_move rfl) (by decide) ?_
     refine sr_evg (b := false) (e := 63) rfl rfl hg100 (v := .int .i64 i_11) (ev_move rfl) (by decide) ?_
     obtain ⟨hk108, hS⟩ := chk_some hS
     obtain ⟨v109, h110, hq111⟩ := ((SlT.of_sl (i := 0) husers_1)).cutT_h (P := Try.prog) Try.underlying23 Try.info9 rfl hk108
     replace h110 := h110.sl
     refine sr_evg (b := false) (e := 63) rfl rfl hg100 (v := v109) (hq111 w97 rfl rfl) (by decide) ?_
     refine sr_evg (b := false) (e := 63) rfl rfl hg100 (v := vscopes_2) (ev_move rfl) (by decide) ?_
     refine sr_evg (b := false) (e := 63) rfl rfl hg100 (v := .int .i64 now_3) (ev_move rfl) (by decide) ?_
     obtain ⟨y112, hy113, hS⟩ := bind_some' hS
     refine sr_callg (b := false) (e := 63) rfl rfl hg100 (vs := [.pointer (some ⟨gd_9, 0, none⟩), v109, vscopes_2, .int .i64 now_3]) rfl Try.call18 rfl (delegate_Delegations_Chain_ok _ (hg.fr hz hb) (ρA := ρ) hb.bd (hz.fr hg hb) (τ0 := (fun p => 100 + p)) (fun p => Nat.le_add_right_of_le (by decide)) h110 hscopes_2 (⟨_, hB89, h88⟩ : delegate_Delegations.O (fun p => 100 + p) ρ w97 gd_9 od_9) hy113) (by decide) ?_
     rintro _ w114 ⟨rfl, hbw115⟩
     have htr116 := Tr.of_below hbw115 hb.bd
     replace husers_1 := husers_1.mv htr116.rd
     replace hscopes_2 := hscopes_2.mv htr116.rd
     replace hB89 := hB89.mv (htr116.mv (i := 100) rfl)
     replace h88 := h88.mv (htr116.mv (i := 101) rfl)
     replace hb := hb.trans htr116
     replace hj103 := (hj103.trans htr116).weak (J' := (fun _ => false)) (by intro t h; simp [rng] at h ⊢ <;> omega) rfl rfl
     refine sr_evg (b := false) (e := 63) rfl rfl hg100 (v := .bool (y112 != 0)) (ev_ne rfl rfl) (by decide) ?_
     refine sr_ev (v := .bool (y112 != 0)) (ev_pick_f rfl hg100 rfl) (by decide) ?_
     exact sr_weaken (l' := [(1, vusers_1), (2, vscopes_2), (3, .int .i64 now_3), (9, .pointer (some ⟨gd_9, 0, none⟩)), (11, .int .i64 i_11), (72, .bool (y112 != 0))]) (.cons rfl (.cons rfl (.cons rfl (.cons rfl (.cons rfl (.cons rfl (.nil _))))))) (K101 (y112 != 0) _ ⟨(Option.some.inj hS).symm, _, hj103⟩)
  ·replace hS := ite_false' hS hc90
   refine ke_exit (k' := _) rfl ?_
   refine ke_seq ?_
   refine ke_region ?_
   obtain ⟨y240, hy241, hS⟩ := bind_some' hS
   refine sr_call (vs := []) rfl Try.call10 rfl (law35_awake_ok _ (hg.fr hz hb) (ρA := ρ) hb.bd (hz.fr hg hb) hy241) (by decide) ?_
   rintro _ w242 ⟨rfl, hbw243⟩
   have htr244 := Tr.of_below hbw243 hb.bd
   replace hb := hb.trans htr244
   refine sr_ev (v := .bool y240) (ev_assign rfl) (by decide) ?_
   refine sr_end (l' := [(8, .bool y240)]) (.cons rfl (.nil _)) ?_
   cases hS
   exact ke_ret1 Try.func6 rfl rfl ⟨_, rfl, rfl, (hb.below (flat1_le _))⟩
theorem law35_DelegateChains_L1_ok {w0 : World} (hg : Gs w0) {ρA : Tags} (hbd : ∀ b, ρA b ≠ 0 → b < w0.heap.size) (hz : Gz (flat1 ρA)) : ∀ (n : Nat), ∀ {r : Bool} {l_0 : List law35_Op} {users_1 : List Str} {scopes_2 : List Str} {now_3 : Int} {od_9 : delegate_Delegations} {i_10 : Int} {vl_0 : Value} {vusers_1 : Value} {vscopes_2 : Value} {gd_9 : Nat}, law35_DelegateChains_L1 n l_0 users_1 scopes_2 now_3 od_9 i_10 = some r → ∀ {ρ : Tags} {w : World}, (Fr (flat1 ρA) w0 ρ w) → (SlR law35_Op.c (Wb ρ) w vl_0 l_0) → (SlR strC (Wb ρ) w vusers_1 users_1) → (SlR strC (Wb ρ) w vscopes_2 scopes_2) → (delegate_Delegations.O (fun p => 100 + p) ρ w gd_9 od_9) → KE Try.prog 6 (Ret (fun v w' => v = .bool r ∧ Below w0.heap.size w0 w')) 106 [.code (sub (bodyOf Try.f6) [2, 2, 2, 2, 1, 2, 2, 1]), .inLoop (sub (bodyOf Try.f6) [2, 2, 2, 2, 1, 2, 2, 1]), .inBlock 0, .code (sub (bodyOf Try.f6) [2, 2, 2, 2, 2])] [(0, vl_0), (1, vusers_1), (2, vscopes_2), (3, .int .i64 now_3), (9, .pointer (some ⟨gd_9, 0, none⟩)), (10, .int .i64 i_10)] w := by
 intro n
 induction n with
 | zero => intro r l_0 users_1 scopes_2 now_3 od_9 i_10 vl_0 vusers_1 vscopes_2 gd_9 hS; cases hS
 | succ n ih =>
  have hr0 : ∀ {r : Bool} {l_0 : List law35_Op} {users_1 : List Str} {scopes_2 : List Str} {now_3 : Int} {od_9 : delegate_Delegations} {i_10 : Int} {vl_0 : Value} {vusers_1 : Value} {vscopes_2 : Value} {gd_9 : Nat}, law35_DelegateChains_L1 n l_0 users_1 scopes_2 now_3 od_9 i_10 = some r → ∀ {ρ : Tags} {w : World}, (Fr (flat1 ρA) w0 ρ w) → (SlR law35_Op.c (Wb ρ) w vl_0 l_0) → (SlR strC (Wb ρ) w vusers_1 users_1) → (SlR strC (Wb ρ) w vscopes_2 scopes_2) → (delegate_Delegations.O (fun p => 100 + p) ρ w gd_9 od_9) → KE Try.prog 6 (Ret (fun v w' => v = .bool r ∧ Below w0.heap.size w0 w')) 106 [.inLoop (sub (bodyOf Try.f6) [2, 2, 2, 2, 1, 2, 2, 1]), .inBlock 0, .code (sub (bodyOf Try.f6) [2, 2, 2, 2, 2])] [(0, vl_0), (1, vusers_1), (2, vscopes_2), (3, .int .i64 now_3), (9, .pointer (some ⟨gd_9, 0, none⟩)), (10, .int .i64 i_10)] w := fun {r} {l_0} {users_1} {scopes_2} {now_3} {od_9} {i_10} {vl_0} {vusers_1} {vscopes_2} {gd_9} hS {ρ} {w} hb hl_0 husers_1 hscopes_2 hod_9 => ke_inLoop (ih hS hb hl_0 husers_1 hscopes_2 hod_9)
  clear ih
  intro r l_0 users_1 scopes_2 now_3 od_9 i_10 vl_0 vusers_1 vscopes_2 gd_9 hS ρ w hb hl_0 husers_1 hscopes_2 hod_9
  unfold law35_DelegateChains_L1 at hS
  obtain ⟨v54, hB56, h55⟩ := hod_9
  replace hB56 : Blk ρ 100 w gd_9 (.cells #[v54] 54 (0, 0)) := hB56
  replace h55 : MapT delegate_way.ek delegate_delegation.c true ρ 101 w v54 od_9.ways := h55
  refine ke_seq ?_
  refine ke_seq ?_
  refine ke_region ?_
  refine sr_ev (v := .int .i64 i_10) (ev_move rfl) (by decide) ?_
  refine sr_ev (v := vl_0) (ev_move rfl) (by decide) ?_
  refine sr_ev (v := .int .i64 (l_0.length : Int)) (ev_sllen Try.underlying22 rfl hl_0.asSl) (by decide) ?_
  refine sr_ev (v := .bool (decide (i_10 < (l_0.length : Int)))) (ev_lt rfl rfl) (by decide) ?_
  refine sr_end (l' := [(0, vl_0), (1, vusers_1), (2, vscopes_2), (3, .int .i64 now_3), (9, .pointer (some ⟨gd_9, 0, none⟩)), (10, .int .i64 i_10), (33, .bool (decide (i_10 < (l_0.length : Int))))]) (.cons rfl (.cons rfl (.cons rfl (.cons rfl (.cons rfl (.cons rfl (.cons rfl (.nil _)))))))) ?_
  refine ke_cond (t := decide (i_10 < (l_0.length : Int))) rfl (fun hc57 => ?_) (fun hc57 => ?_)
  ·replace hS := ite_true' hS hc57
   refine ke_skip ?_
   refine ke_seq ?_
   refine ke_block ?_
   refine ke_region ?_
   refine sr_ev (v := .pointer (some ⟨gd_9, 0, none⟩)) (ev_move rfl) (by decide) ?_
   refine sr_ev (v := vl_0) (ev_move rfl) (by decide) ?_
   refine sr_ev (v := .int .i64 i_10) (ev_move rfl) (by decide) ?_
   obtain ⟨y58, hy59, hS⟩ := bind_some' hS
   obtain ⟨b60, o61, cs63, hq64, he62⟩ := ((SlT.of_sl (i := 0) hl_0)).elem (P := Try.prog) Try.underlying22 Try.info35 rfl hy59
   obtain ⟨v65, hcshe62, h66⟩ := he62.rd
   obtain rfl : cs63 = [.int .i64 y58.Call, .int .i64 y58.Now, str y58.From, str y58.To, v65, .int .i64 y58.Window.From, .int .i64 y58.Window.Until] := hcshe62
   refine sr_ev (v := .pointer (some ⟨b60, o61, none⟩)) (hq64 w rfl rfl) (by decide) ?_
   refine sr_ev (v := .agg #[.int .i64 y58.Call, .int .i64 y58.Now, str y58.From, str y58.To, v65, .int .i64 y58.Window.From, .int .i64 y58.Window.Until]) (ev_loads (cs := [.int .i64 y58.Call, .int .i64 y58.Now, str y58.From, str y58.To, v65, .int .i64 y58.Window.From, .int .i64 y58.Window.Until]) Try.isAgg35 Try.sizeOf35 rfl he62.cell) (by decide) ?_
   obtain ⟨y67, hy68, hS⟩ := bind_some' hS
   refine sr_call (vs := [.pointer (some ⟨gd_9, 0, none⟩), .agg #[.int .i64 y58.Call, .int .i64 y58.Now, str y58.From, str y58.To, v65, .int .i64 y58.Window.From, .int .i64 y58.Window.Until]]) rfl Try.call13 rfl (law35_do_ok _ (hg.fr hz hb) (ρA := ρ) hb.bd (hz.fr hg hb) (o := 100) (by decide) h66 (⟨_, hB56, h55⟩ : delegate_Delegations.O (fun p => 100 + p) ρ w gd_9 od_9) hy68) (by decide) ?_
   rintro _ w69 ⟨ρ75, rfl, ⟨v72, hB74, h73⟩, htr71⟩
   replace hl_0 := hl_0.mv htr71.rd
   replace husers_1 := husers_1.mv htr71.rd
   replace hscopes_2 := hscopes_2.mv htr71.rd
   replace hb := hb.trans htr71
   replace hB74 : Blk ρ75 100 w69 gd_9 (.cells #[v72] 54 (0, 0)) := hB74
   replace h73 : MapT delegate_way.ek delegate_delegation.c true ρ75 101 w69 v72 y67.2.ways := h73
   refine sr_end (l' := [(0, vl_0), (1, vusers_1), (2, vscopes_2), (3, .int .i64 now_3), (9, .pointer (some ⟨gd_9, 0, none⟩)), (10, .int .i64 i_10)]) (.cons rfl (.cons rfl (.cons rfl (.cons rfl (.cons rfl (.cons rfl (.nil _))))))) ?_
   refine ke_inBlock ?_
   refine ke_region ?_
   refine sr_ev (v := .int .i64 i_10) (ev_move rfl) (by decide) ?_
   refine sr_ev (v := .int .i64 (IntKind.i64.wrap (i_10 + 1))) (ev_add rfl rfl) (by decide) ?_
   refine sr_ev (v := .int .i64 (IntKind.i64.wrap (i_10 + 1))) (ev_assign rfl) (by decide) ?_
   refine sr_end (l' := [(0, vl_0), (1, vusers_1), (2, vscopes_2), (3, .int .i64 now_3), (9, .pointer (some ⟨gd_9, 0, none⟩)), (10, .int .i64 (IntKind.i64.wrap (i_10 + 1)))]) (.cons rfl (.cons rfl (.cons rfl (.cons rfl (.cons rfl (.cons rfl (.nil _))))))) ?_
   have hK := hr0 hS hb hl_0 husers_1 hscopes_2 ⟨_, hB74, h73⟩
   exact ke_weaken (l' := [(0, vl_0), (1, vusers_1), (2, vscopes_2), (3, .int .i64 now_3), (9, .pointer (some ⟨gd_9, 0, none⟩)), (10, .int .i64 (IntKind.i64.wrap (i_10 + 1)))]) (.cons rfl (.cons rfl (.cons rfl (.cons rfl (.cons rfl (.cons rfl (.nil _))))))) hK
  ·replace hS := ite_false' hS hc57
   refine ke_exit (k' := _) rfl ?_
   refine ke_seq ?_
   refine ke_seq ?_
   refine ke_region ?_
   refine sr_ev (v := .pointer (some ⟨gd_9, 0, none⟩)) (ev_move rfl) (by decide) ?_
   refine sr_ev (v := vusers_1) (ev_move rfl) (by decide) ?_
   refine sr_ev (v := vscopes_2) (ev_move rfl) (by decide) ?_
   refine sr_ev (v := .int .i64 now_3) (ev_move rfl) (by decide) ?_
   obtain ⟨y76, hy77, hS⟩ := bind_some' hS
   refine sr_call (vs := [.pointer (some ⟨gd_9, 0, none⟩), vusers_1, vscopes_2, .int .i64 now_3]) rfl Try.call18 rfl (delegate_Delegations_Chain_ok _ (hg.fr hz hb) (ρA := ρ) hb.bd (hz.fr hg hb) (τ0 := (fun p => 100 + p)) (fun p => Nat.le_add_right_of_le (by decide)) husers_1 hscopes_2 (⟨_, hB56, h55⟩ : delegate_Delegations.O (fun p => 100 + p) ρ w gd_9 od_9) hy77) (by decide) ?_
   rintro _ w78 ⟨rfl, hbw79⟩
   have htr80 := Tr.of_below hbw79 hb.bd
   replace husers_1 := husers_1.mv htr80.rd
   replace hscopes_2 := hscopes_2.mv htr80.rd
   replace hB56 := hB56.mv (htr80.mv (i := 100) rfl)
   replace h55 := h55.mv (htr80.mv (i := 101) rfl)
   replace hb := hb.trans htr80
   refine sr_ev (v := .bool (y76 != 0)) (ev_ne rfl rfl) (by decide) ?_
   refine sr_end (l' := [(1, vusers_1), (2, vscopes_2), (3, .int .i64 now_3), (9, .pointer (some ⟨gd_9, 0, none⟩)), (47, .bool (y76 != 0))]) (.cons rfl (.cons rfl (.cons rfl (.cons rfl (.cons rfl (.nil _)))))) ?_
   refine ke_cond (t := y76 != 0) rfl (fun hc81 => ?_) (fun hc81 => ?_)
   ·replace hS := ite_true' hS hc81
    refine ke_seq ?_
    refine ke_region ?_
    obtain ⟨y82, hy83, hS⟩ := bind_some' hS
    refine sr_call (vs := []) rfl Try.call10 rfl (law35_awake_ok _ (hg.fr hz hb) (ρA := ρ) hb.bd (hz.fr hg hb) hy83) (by decide) ?_
    rintro _ w84 ⟨rfl, hbw85⟩
    have htr86 := Tr.of_below hbw85 hb.bd
    replace hb := hb.trans htr86
    refine sr_ev (v := .bool y82) (ev_assign rfl) (by decide) ?_
    refine sr_end (l' := [(8, .bool y82)]) (.cons rfl (.nil _)) ?_
    cases hS
    exact ke_ret1 Try.func6 rfl rfl ⟨_, rfl, rfl, (hb.below (flat1_le _))⟩
   ·replace hS := ite_false' hS hc81
    refine ke_skip ?_
    refine ke_seq ?_
    refine ke_seq ?_
    refine ke_region ?_
    refine sr_ev (v := .int .i64 0) (ev_assign rfl) (by decide) ?_
    refine sr_end (l' := [(1, vusers_1), (2, vscopes_2), (3, .int .i64 now_3), (9, .pointer (some ⟨gd_9, 0, none⟩)), (11, .int .i64 0)]) (.cons rfl (.cons rfl (.cons rfl (.cons rfl (.cons rfl (.nil _)))))) ?_
    refine ke_block ?_
    have hK := law35_DelegateChains_L2_ok hg hbd hz _ hr0 _ hS hb husers_1 hscopes_2 ⟨_, hB56, h55⟩
    exact ke_weaken (l' := [(1, vusers_1), (2, vscopes_2), (3, .int .i64 now_3), (9, .pointer (some ⟨gd_9, 0, none⟩)), (11, .int .i64 0)]) (.cons rfl (.cons rfl (.cons rfl (.cons rfl (.cons rfl (.nil _)))))) (ke_loop hK)
theorem law35_DelegateChains_ok (w0 : World) (hg : Gs w0) {ρA : Tags} (hbd : ∀ b, ρA b ≠ 0 → b < w0.heap.size) (hz : Gz ρA) {l_0 : List law35_Op} {users_1 : List Str} {scopes_2 : List Str} {now_3 : Int} {v1 : Value} {v3 : Value} {v5 : Value} {r : Bool} (h2 : SlR law35_Op.c (Wb ρA) w0 v1 l_0) (h4 : SlR strC (Wb ρA) w0 v3 users_1) (h6 : SlR strC (Wb ρA) w0 v5 scopes_2) (hS : law35_DelegateChains l_0 users_1 scopes_2 now_3 = some r) :
  Calls Try.prog 6 #[v1, v3, v5, .int .i64 now_3] w0 (Ret (fun v w' => v = .bool r ∧ Below w0.heap.size w0 w')) := by
 unfold law35_DelegateChains at hS
 have hb := flat1_fr (ρ := ρA) (w := w0) hbd
 have hz := hz.flat1
 replace h2 := SlR.mv h2 flat1_rd
 replace h4 := SlR.mv h4 flat1_rd
 replace h6 := SlR.mv h6 flat1_rd
 refine calls_of_ke Try.func6 rfl (n := 106) rfl rfl (l := [(0, v1), (1, v3), (2, v5), (3, .int .i64 now_3)]) rfl ?_
 refine ke_seq ?_
 refine ke_region ?_
 refine sr_ev (v := .bool false) (ev_assign rfl) (by decide) ?_
 refine sr_end (l' := [(0, v1), (1, v3), (2, v5), (3, .int .i64 now_3)]) (.cons rfl (.cons rfl (.cons rfl (.cons rfl (.nil _))))) ?_
 refine ke_seq ?_
 refine ke_seq ?_
 refine ke_region ?_
 refine sr_ev (v := v1) (ev_move rfl) (by decide) ?_
 obtain ⟨y7, hy8, hS⟩ := bind_some' hS
 refine sr_call (vs := [v1]) rfl Try.call8 rfl (law35_light_ok _ (hg.fr hz hb) h2.asSl hy8) (by decide) ?_
 rintro _ w9 ⟨rfl, hbw10⟩
 have htr11 := Tr.of_below hbw10 hb.bd
 replace h2 := h2.mv htr11.rd
 replace h4 := h4.mv htr11.rd
 replace h6 := h6.mv htr11.rd
 replace hb := hb.trans htr11
 refine sr_ev (v := .bool (!y7)) (ev_not rfl) (by decide) ?_
 refine sr_ev (v := .bool (!y7)) (ev_move rfl) (by decide) ?_
 obtain ⟨z14, hz16, hS⟩ := bind_some' hS
 refine sr_join (m := 4) (C := fun (z : Bool) w1 => z14 = z ∧ ∃ ρ1, Tr (flat1 ρA) w9 (fun _ => false) ρ1 w1) (l' := fun z => [(0, v1), (1, v3), (2, v5), (3, .int .i64 now_3), (20, .bool z)]) ?_ ?_
 ·rintro _ w17 ⟨rfl, ρ18, hj15⟩
  replace h2 := h2.mv hj15.rd
  replace h4 := h4.mv hj15.rd
  replace h6 := h6.mv hj15.rd
  replace hb := hb.trans hj15
  refine sr_ev (v := .bool z14) (ev_move rfl) (by decide) ?_
  obtain ⟨z27, hz29, hS⟩ := bind_some' hS
  refine sr_join (m := 4) (C := fun (z : Bool) w1 => z27 = z ∧ ∃ ρ1, Tr ρ18 w17 (fun _ => false) ρ1 w1) (l' := fun z => [(0, v1), (1, v3), (2, v5), (3, .int .i64 now_3), (25, .bool z)]) ?_ ?_
  ·rintro _ w30 ⟨rfl, ρ31, hj28⟩
   replace h2 := h2.mv hj28.rd
   replace h4 := h4.mv hj28.rd
   replace h6 := h6.mv hj28.rd
   replace hb := hb.trans hj28
   refine sr_end (l' := [(0, v1), (1, v3), (2, v5), (3, .int .i64 now_3), (25, .bool z27)]) (.cons rfl (.cons rfl (.cons rfl (.cons rfl (.cons rfl (.nil _)))))) ?_
   refine ke_cond (t := z27) rfl (fun hc38 => ?_) (fun hc38 => ?_)
   ·replace hS := ite_true' hS hc38
    refine ke_seq ?_
    refine ke_region ?_
    obtain ⟨y39, hy40, hS⟩ := bind_some' hS
    refine sr_call (vs := []) rfl Try.call10 rfl (law35_awake_ok _ (hg.fr hz hb) (ρA := ρ31) hb.bd (hz.fr hg hb) hy40) (by decide) ?_
    rintro _ w41 ⟨rfl, hbw42⟩
    have htr43 := Tr.of_below hbw42 hb.bd
    replace hb := hb.trans htr43
    refine sr_ev (v := .bool y39) (ev_assign rfl) (by decide) ?_
    refine sr_end (l' := [(8, .bool y39)]) (.cons rfl (.nil _)) ?_
    cases hS
    exact ke_ret1 Try.func6 rfl rfl ⟨_, rfl, rfl, (hb.below (flat1_le _))⟩
   ·replace hS := ite_false' hS hc38
    refine ke_skip ?_
    refine ke_seq ?_
    refine ke_region ?_
    obtain ⟨y44, hy45, hS⟩ := bind_some' hS
    refine sr_call (vs := []) rfl Try.call11 rfl (delegate_New_ok _ (hg.fr hz hb) (ρA := ρ31) hb.bd (hz.fr hg hb) (o := 100) (by decide) hy45) (by decide) ?_
    rintro _ w46 ⟨ρ53, g49, rfl, ⟨v50, hB52, h51⟩, htr48⟩
    replace h2 := h2.mv htr48.rd
    replace h4 := h4.mv htr48.rd
    replace h6 := h6.mv htr48.rd
    replace hb := hb.trans htr48
    replace hB52 : Blk ρ53 100 w46 g49 (.cells #[v50] 54 (0, 0)) := hB52
    replace h51 : MapT delegate_way.ek delegate_delegation.c true ρ53 101 w46 v50 y44.ways := h51
    refine sr_ev (v := .pointer (some ⟨g49, 0, none⟩)) (ev_assign rfl) (by decide) ?_
    refine sr_end (l' := [(0, v1), (1, v3), (2, v5), (3, .int .i64 now_3), (9, .pointer (some ⟨g49, 0, none⟩))]) (.cons rfl (.cons rfl (.cons rfl (.cons rfl (.cons rfl (.nil _)))))) ?_
    refine ke_seq ?_
    refine ke_seq ?_
    refine ke_region ?_
    refine sr_ev (v := .pointer (some ⟨g49, 0, none⟩)) (ev_move rfl) (by decide) ?_
    refine sr_ev (v := .bool false) (ev_peqT_some Try.underlying27 rfl rfl) (by decide) ?_
    refine sr_end (l' := [(0, v1), (1, v3), (2, v5), (3, .int .i64 now_3), (9, .pointer (some ⟨g49, 0, none⟩)), (29, .bool false)]) (.cons rfl (.cons rfl (.cons rfl (.cons rfl (.cons rfl (.cons rfl (.nil _))))))) ?_
    refine ke_cond (t := false) rfl (fun h => by cases h) (fun _ => ?_)
    refine ke_skip ?_
    refine ke_seq ?_
    refine ke_seq ?_
    refine ke_region ?_
    refine sr_ev (v := .int .i64 0) (ev_assign rfl) (by decide) ?_
    refine sr_end (l' := [(0, v1), (1, v3), (2, v5), (3, .int .i64 now_3), (9, .pointer (some ⟨g49, 0, none⟩)), (10, .int .i64 0)]) (.cons rfl (.cons rfl (.cons rfl (.cons rfl (.cons rfl (.cons rfl (.nil _))))))) ?_
    refine ke_block ?_
    have hK := law35_DelegateChains_L1_ok hg hbd hz _ hS hb h2 h4 h6 ⟨_, hB52, h51⟩
    exact ke_weaken (l' := [(0, v1), (1, v3), (2, v5), (3, .int .i64 now_3), (9, .pointer (some ⟨g49, 0, none⟩)), (10, .int .i64 0)]) (.cons rfl (.cons rfl (.cons rfl (.cons rfl (.cons rfl (.cons rfl (.nil _))))))) (ke_loop hK)
  ·intro K26
   clear hS
   have hj28 : Tr ρ18 w17 (fun _ => false) ρ18 w17 := (Tr.refl hb.bd).weak (fun _ _ => rfl) rfl rfl
   rcases Bool.eq_false_or_eq_true z14 with hg25 | hg25
   ·have hS := ite_true' hz29 hg25
    refine sr_pass (e := 21) rfl rfl (by rw [hg25]; rfl) (by decide) ?_
    refine sr_pass (e := 21) rfl rfl (by rw [hg25]; rfl) (by decide) ?_
    refine sr_pass (e := 21) rfl rfl (by rw [hg25]; rfl) (by decide) ?_
    refine sr_ev (v := .bool true) (ev_pick_t rfl hg25 rfl) (by decide) ?_
    exact sr_weaken (l' := [(0, v1), (1, v3), (2, v5), (3, .int .i64 now_3), (25, .bool true)]) (.cons rfl (.cons rfl (.cons rfl (.cons rfl (.cons rfl (.nil _)))))) (K26 true _ ⟨(Option.some.inj hS).symm, _, hj28⟩)
   ·have hS := ite_false' hz29 hg25
    refine sr_evg (b := false) (e := 21) rfl rfl hg25 (v := v5) (ev_move rfl) (by decide) ?_
    obtain ⟨y33, hy34, hS⟩ := bind_some' hS
    refine sr_callg (b := false) (e := 21) rfl rfl hg25 (vs := [v5]) rfl Try.call9 rfl (law35_few_ok _ (hg.fr hz hb) h6.asSl hy34) (by decide) ?_
    rintro _ w35 ⟨rfl, hbw36⟩
    have htr37 := Tr.of_below hbw36 hb.bd
    replace h2 := h2.mv htr37.rd
    replace h4 := h4.mv htr37.rd
    replace h6 := h6.mv htr37.rd
    replace hb := hb.trans htr37
    replace hj28 := (hj28.trans htr37).weak (J' := (fun _ => false)) (by intro t h; simp [rng] at h ⊢ <;> omega) rfl rfl
    refine sr_evg (b := false) (e := 21) rfl rfl hg25 (v := .bool (!y33)) (ev_not rfl) (by decide) ?_
    refine sr_ev (v := .bool (!y33)) (ev_pick_f rfl hg25 rfl) (by decide) ?_
    exact sr_weaken (l' := [(0, v1), (1, v3), (2, v5), (3, .int .i64 now_3), (25, .bool (!y33))]) (.cons rfl (.cons rfl (.cons rfl (.cons rfl (.cons rfl (.nil _)))))) (K26 (!y33) _ ⟨(Option.some.inj hS).symm, _, hj28⟩)
 ·intro K13
  clear hS
  have hj15 : Tr (flat1 ρA) w9 (fun _ => false) (flat1 ρA) w9 := (Tr.refl hb.bd).weak (fun _ _ => rfl) rfl rfl
  rcases Bool.eq_false_or_eq_true (!y7) with hg12 | hg12
  ·have hS := ite_true' hz16 hg12
   refine sr_pass (e := 16) rfl rfl (by rw [hg12]; rfl) (by decide) ?_
   refine sr_pass (e := 16) rfl rfl (by rw [hg12]; rfl) (by decide) ?_
   refine sr_pass (e := 16) rfl rfl (by rw [hg12]; rfl) (by decide) ?_
   refine sr_ev (v := .bool true) (ev_pick_t rfl hg12 rfl) (by decide) ?_
   exact sr_weaken (l' := [(0, v1), (1, v3), (2, v5), (3, .int .i64 now_3), (20, .bool true)]) (.cons rfl (.cons rfl (.cons rfl (.cons rfl (.cons rfl (.nil _)))))) (K13 true _ ⟨(Option.some.inj hS).symm, _, hj15⟩)
  ·have hS := ite_false' hz16 hg12
   refine sr_evg (b := false) (e := 16) rfl rfl hg12 (v := v3) (ev_move rfl) (by decide) ?_
   obtain ⟨y20, hy21, hS⟩ := bind_some' hS
   refine sr_callg (b := false) (e := 16) rfl rfl hg12 (vs := [v3]) rfl Try.call9 rfl (law35_few_ok _ (hg.fr hz hb) h4.asSl hy21) (by decide) ?_
   rintro _ w22 ⟨rfl, hbw23⟩
   have htr24 := Tr.of_below hbw23 hb.bd
   replace h2 := h2.mv htr24.rd
   replace h4 := h4.mv htr24.rd
   replace h6 := h6.mv htr24.rd
   replace hb := hb.trans htr24
   replace hj15 := (hj15.trans htr24).weak (J' := (fun _ => false)) (by intro t h; simp [rng] at h ⊢ <;> omega) rfl rfl
   refine sr_evg (b := false) (e := 16) rfl rfl hg12 (v := .bool (!y20)) (ev_not rfl) (by decide) ?_
   refine sr_ev (v := .bool (!y20)) (ev_pick_f rfl hg12 rfl) (by decide) ?_
   exact sr_weaken (l' := [(0, v1), (1, v3), (2, v5), (3, .int .i64 now_3), (20, .bool (!y20))]) (.cons rfl (.cons rfl (.cons rfl (.cons rfl (.cons rfl (.nil _)))))) (K13 (!y20) _ ⟨(Option.some.inj hS).symm, _, hj15⟩)
end Ytibmfjehbmdbkaa
end Go.Proofs
