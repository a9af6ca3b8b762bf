/- Own work: a part of the proofs of this seat. -/
import Derived.Test.YtibmfjehbmdbkaaProg
import Derived.Test.YtibmfjehbmdbkaaShelf
import Derived.Test.YtibmfjehbmdbkaaIter
import Derived.Test.YtibmfjehbmdbkaaKwHS
import Derived.KernelRfl
import Derived.Test.YtibmfjehbmdbkaaKwHDelegateLimitsW1
set_option linter.unusedVariables false
set_option linter.unusedSimpArgs false
set_option linter.unusedSectionVars false
set_option maxHeartbeats 8000000
set_option maxRecDepth 8000
namespace Go.Proofs
namespace Ytibmfjehbmdbkaa
open Go Go.KW Go.KW.S Go.RowKit
theorem scope_Sorted_L1_ok {w0 : World} (hg : Gs w0) {A0 : Nat → Prop} (hA0 : ∀ b, A0 b → b < w0.heap.size) : ∀ (n : Nat), ∀ {r : List Str} {l_0 : List Str} {out_3 : List Str} {t_8 : List Str} {t_9 : Int} {t_10 : Int} {vl_0 : Value} {vout_3 : Value} {vt_8 : Value}, scope_Sorted_L1 n l_0 out_3 t_8 t_9 t_10 = some r → ∀ {w : World} {A : Nat → Prop}, (Below w0.heap.size w0 w) → (∀ b, A b → b < w.heap.size) → (∀ b, A0 b → A b) → (Hp A w0.heap.size w []) → (SlR strC A w vl_0 l_0) → (OwnS strC 9 A w0.heap.size w vout_3 out_3) → (Dj vout_3 []) → (SlR strC A w vt_8 t_8) → KE Try.prog 34 (Ret (fun v w' => ∃ x1, v = x1 ∧ SlR strC A0 w' x1 r ∧ Below w0.heap.size w0 w')) 48 [.code (sub (bodyOf Try.f34) [2, 1, 2, 2, 1, 2, 2, 1]), .inLoop (sub (bodyOf Try.f34) [2, 1, 2, 2, 1, 2, 2, 1]), .inBlock 0, .code (sub (bodyOf Try.f34) [2, 1, 2, 2, 2]), .inScope (sub (bodyOf Try.f34) [2, 1])] [(0, vl_0), (3, vout_3), (8, vt_8), (9, .int .i64 t_9), (10, .int .i64 t_10)] w := by
 intro n
 induction n with
 | zero => intro r l_0 out_3 t_8 t_9 t_10 vl_0 vout_3 vt_8 hS; cases hS
 | succ n ih =>
  have hr0 : ∀ {r : List Str} {l_0 : List Str} {out_3 : List Str} {t_8 : List Str} {t_9 : Int} {t_10 : Int} {vl_0 : Value} {vout_3 : Value} {vt_8 : Value}, scope_Sorted_L1 n l_0 out_3 t_8 t_9 t_10 = some r → ∀ {w : World} {A : Nat → Prop}, (Below w0.heap.size w0 w) → (∀ b, A b → b < w.heap.size) → (∀ b, A0 b → A b) → (Hp A w0.heap.size w []) → (SlR strC A w vl_0 l_0) → (OwnS strC 9 A w0.heap.size w vout_3 out_3) → (Dj vout_3 []) → (SlR strC A w vt_8 t_8) → KE Try.prog 34 (Ret (fun v w' => ∃ x1, v = x1 ∧ SlR strC A0 w' x1 r ∧ Below w0.heap.size w0 w')) 48 [.inLoop (sub (bodyOf Try.f34) [2, 1, 2, 2, 1, 2, 2, 1]), .inBlock 0, .code (sub (bodyOf Try.f34) [2, 1, 2, 2, 2]), .inScope (sub (bodyOf Try.f34) [2, 1])] [(0, vl_0), (3, vout_3), (8, vt_8), (9, .int .i64 t_9), (10, .int .i64 t_10)] w := fun {r} {l_0} {out_3} {t_8} {t_9} {t_10} {vl_0} {vout_3} {vt_8} hS {w} {A} hb hA hi hH hl_0 hout_3 dout_3 ht_8 => ke_inLoop (ih hS hb hA hi hH hl_0 hout_3 dout_3 ht_8)
  clear ih
  intro r l_0 out_3 t_8 t_9 t_10 vl_0 vout_3 vt_8 hS w A hb hA hi hH hl_0 hout_3 dout_3 ht_8
  unfold scope_Sorted_L1 at hS
  refine ke_seq ?_
  refine ke_region ?_
  refine sr_ev (v := .bool (decide (t_10 < t_9))) (ev_lt rfl rfl) (by decide) ?_
  refine sr_end (l' := [(0, vl_0), (3, vout_3), (8, vt_8), (9, .int .i64 t_9), (10, .int .i64 t_10), (11, .bool (decide (t_10 < t_9)))]) (.cons rfl (.cons rfl (.cons rfl (.cons rfl (.cons rfl (.cons rfl (.nil _))))))) ?_
  refine ke_seq ?_
  refine ke_cond (t := decide (t_10 < t_9)) rfl (fun hc7 => ?_) (fun hc7 => ?_)
  ·replace hS := ite_true' hS hc7
   refine ke_skip ?_
   refine ke_seq ?_
   refine ke_block ?_
   refine ke_seq ?_
   refine ke_region ?_
   refine sr_ev (v := .int .i64 t_10) (ev_move rfl) (by decide) ?_
   obtain ⟨y8, hy9, hS⟩ := bind_some' hS
   refine sr_index ht_8 Try.underlying23 Try.info9 rfl rfl rfl hy9 (by decide) ?_
   intro b10 o11 cs13 he12
   obtain rfl : cs13 = [str y8] := he12.rd
   refine sr_ev (v := str y8) (ev_load Try.isAgg9 rfl (he12.cell 0 _ rfl)) (by decide) ?_
   refine sr_ev (v := .int .i64 t_10) (ev_assign rfl) (by decide) ?_
   refine sr_ev (v := str y8) (ev_assign rfl) (by decide) ?_
   refine sr_end (l' := [(0, vl_0), (3, vout_3), (4, .int .i64 t_10), (5, str y8), (8, vt_8), (9, .int .i64 t_9), (10, .int .i64 t_10)]) (.cons rfl (.cons rfl (.cons rfl (.cons rfl (.cons rfl (.cons rfl (.cons rfl (.nil _)))))))) ?_
   refine ke_seq ?_
   refine ke_seq ?_
   refine ke_region ?_
   refine sr_ev (v := str y8) (ev_move rfl) (by decide) ?_
   obtain ⟨y14, hy15, hS⟩ := bind_some' hS
   refine sr_call (vs := [str y8]) rfl Try.call57 rfl (scope_valid_ok _ (hg.below hb) hy15) (by decide) ?_
   rintro _ w16 ⟨rfl, hbw17⟩
   replace hb := hb.trans (hbw17.mono hb.size)
   replace hA := lt_mono hA hbw17.size
   replace hH := hH.below hbw17
   replace hl_0 := hl_0.below hbw17
   replace hout_3 := hout_3.below hbw17
   replace ht_8 := ht_8.below hbw17
   refine sr_ev (v := .bool (!y14)) (ev_not rfl) (by decide) ?_
   refine sr_ev (v := .bool (!y14)) (ev_move rfl) (by decide) ?_
   obtain ⟨z20, hz22, hS⟩ := bind_some' hS
   refine sr_join (m := 6) (C := fun (x : Bool) w1 => z20 = x ∧ Below w16.heap.size w16 w1) (l' := fun x => [(0, vl_0), (3, vout_3), (5, str y8), (8, vt_8), (9, .int .i64 t_9), (10, .int .i64 t_10), (24, .bool x)]) ?_ ?_
   ·rintro _ w23 ⟨rfl, hbw24⟩
    replace hb := hb.trans (hbw24.mono hb.size)
    replace hA := lt_mono hA hbw24.size
    replace hH := hH.below hbw24
    replace hl_0 := hl_0.below hbw24
    replace hout_3 := hout_3.below hbw24
    replace ht_8 := ht_8.below hbw24
    refine sr_end (l' := [(0, vl_0), (3, vout_3), (5, str y8), (8, vt_8), (9, .int .i64 t_9), (10, .int .i64 t_10), (24, .bool z20)]) (.cons rfl (.cons rfl (.cons rfl (.cons rfl (.cons rfl (.cons rfl (.cons rfl (.nil _)))))))) ?_
    refine ke_cond (t := z20) rfl (fun hc32 => ?_) (fun hc32 => ?_)
    ·replace hS := ite_true' hS hc32
     refine ke_exit (k' := _) rfl ?_
     have hK := scope_Sorted_B2_ok hg hA0 _ hr0 hS hb hA hi hH hl_0 hout_3 dout_3 ht_8
     exact ke_weaken (l' := [(0, vl_0), (3, vout_3), (8, vt_8), (9, .int .i64 t_9), (10, .int .i64 t_10)]) (.cons rfl (.cons rfl (.cons rfl (.cons rfl (.cons rfl (.nil _)))))) hK
    ·replace hS := ite_false' hS hc32
     refine ke_skip ?_
     refine ke_seq ?_
     refine ke_seq ?_
     refine ke_region ?_
     refine sr_ev (v := vl_0) (ev_move rfl) (by decide) ?_
     refine sr_ev (v := .int .i64 (l_0.length : Int)) (ev_sllen Try.underlying23 rfl hl_0) (by decide) ?_
     refine sr_ev (v := .int .i64 0) (ev_move rfl) (by decide) ?_
     refine sr_end (l' := [(0, vl_0), (3, vout_3), (5, str y8), (8, vt_8), (9, .int .i64 t_9), (10, .int .i64 t_10), (25, vl_0), (26, .int .i64 (l_0.length : Int)), (27, .int .i64 0)]) (.cons rfl (.cons rfl (.cons rfl (.cons rfl (.cons rfl (.cons rfl (.cons rfl (.cons rfl (.cons rfl (.nil _)))))))))) ?_
     refine ke_block ?_
     have hK := scope_Sorted_L3_ok hg hA0 _ hr0 _ hS hb hA hi hH hl_0 hout_3 dout_3 ht_8 hl_0
     exact ke_weaken (l' := [(0, vl_0), (3, vout_3), (5, str y8), (8, vt_8), (9, .int .i64 t_9), (10, .int .i64 t_10), (25, vl_0), (26, .int .i64 (l_0.length : Int)), (27, .int .i64 0)]) (.cons rfl (.cons rfl (.cons rfl (.cons rfl (.cons rfl (.cons rfl (.cons rfl (.cons rfl (.cons rfl (.nil _)))))))))) (ke_loop hK)
   ·intro K19
    clear hS
    have hj21 := Below.refl w16.heap.size w16
    rcases Bool.eq_false_or_eq_true (!y14) with hg18 | hg18
    ·have hS := ite_true' hz22 hg18
     refine sr_pass (e := 18) rfl rfl (by rw [hg18]; rfl) (by decide) ?_
     refine sr_pass (e := 18) rfl rfl (by rw [hg18]; rfl) (by decide) ?_
     refine sr_pass (e := 18) rfl rfl (by rw [hg18]; rfl) (by decide) ?_
     refine sr_pass (e := 18) rfl rfl (by rw [hg18]; rfl) (by decide) ?_
     refine sr_pass (e := 18) rfl rfl (by rw [hg18]; rfl) (by decide) ?_
     refine sr_ev (v := .bool true) (ev_pick_t rfl hg18 rfl) (by decide) ?_
     exact sr_weaken (l' := [(0, vl_0), (3, vout_3), (5, str y8), (8, vt_8), (9, .int .i64 t_9), (10, .int .i64 t_10), (24, .bool true)]) (.cons rfl (.cons rfl (.cons rfl (.cons rfl (.cons rfl (.cons rfl (.cons rfl (.nil _)))))))) (K19 true _ ⟨(Option.some.inj hS).symm, hj21⟩)
    ·have hS := ite_false' hz22 hg18
     refine sr_evg (b := false) (e := 18) rfl rfl hg18 (v := vl_0) (ev_move rfl) (by decide) ?_
     refine sr_evg (b := false) (e := 18) rfl rfl hg18 (v := .int .i64 t_10) (ev_move rfl) (by decide) ?_
     obtain ⟨hk25, hS⟩ := chk_some hS
     refine sr_unguard rfl rfl hg18 ?_
     refine sr_slice_h hl_0 Try.underlying23 Try.info9 rfl rfl rfl  hk25 (by decide) ?_
     intro v26 h27
     refine sr_evg (b := false) (e := 18) rfl rfl hg18 (v := str y8) (ev_move rfl) (by decide) ?_
     obtain ⟨y28, hy29, hS⟩ := bind_some' hS
     refine sr_callg (b := false) (e := 18) rfl rfl hg18 (vs := [v26, str y8]) rfl Try.call39 rfl (slices_Contains_string_string_ok _ (hg.below hb) h27 hy29) (by decide) ?_
     rintro _ w30 ⟨rfl, hbw31⟩
     replace hb := hb.trans (hbw31.mono hb.size)
     replace hj21 := hj21.trans (hbw31.mono hj21.size)
     replace hA := lt_mono hA hbw31.size
     replace hH := hH.below hbw31
     replace hl_0 := hl_0.below hbw31
     replace hout_3 := hout_3.below hbw31
     replace ht_8 := ht_8.below hbw31
     refine sr_ev (v := .bool y28) (ev_pick_f rfl hg18 rfl) (by decide) ?_
     exact sr_weaken (l' := [(0, vl_0), (3, vout_3), (5, str y8), (8, vt_8), (9, .int .i64 t_9), (10, .int .i64 t_10), (24, .bool y28)]) (.cons rfl (.cons rfl (.cons rfl (.cons rfl (.cons rfl (.cons rfl (.cons rfl (.nil _)))))))) (K19 y28 _ ⟨(Option.some.inj hS).symm, hj21⟩)
  ·replace hS := ite_false' hS hc7
   refine ke_exit (k' := _) rfl ?_
   refine ke_seq ?_
   refine ke_region ?_
   refine sr_ev (v := vout_3) (ev_move rfl) (by decide) ?_
   obtain ⟨y74, hy75, hS⟩ := bind_some' hS
   refine sr_call (vs := [vout_3]) rfl Try.call59 rfl (lib_Sort_ok hout_3 hb.size hy75) (by decide) ?_
   rintro _ w77 ⟨rfl, h76, hst78, hbB79, hoth80⟩
   replace hb := hb.trans hbB79
   replace hH := hH.keep (fun _ h => h) (fun p hp => hoth80 _ (hH.lt hp) (dout_3 p hp))
   replace hA := lt_mono hA hst78.size
   refine sr_end (l' := [(3, vout_3)]) (.cons rfl (.nil _)) ?_
   refine ke_seq ?_
   refine ke_region ?_
   refine sr_ev (v := vout_3) (ev_move rfl) (by decide) ?_
   refine sr_ev (v := vout_3) (ev_assign rfl) (by decide) ?_
   refine sr_end (l' := [(2, vout_3)]) (.cons rfl (.nil _)) ?_
   cases hS
   exact ke_ret1 Try.func34 rfl rfl ⟨_, rfl, _, rfl, h76.toSl (fun b hb => ⟨hi b hb, hA0 b hb⟩), hb⟩
theorem scope_Sorted_ok {A0 : Nat → Prop} (w0 : World) (hg : Gs w0) {l_0 : List Str} {v1 : Value} {r : List Str} (h2 : SlR strC A0 w0 v1 l_0) (hA0 : ∀ b, A0 b → b < w0.heap.size) (hS : scope_Sorted l_0 = some r) :
  Calls Try.prog 34 #[v1] w0 (Ret (fun v w' => ∃ x1, v = x1 ∧ SlR strC A0 w' x1 r ∧ Below w0.heap.size w0 w')) := by
 unfold scope_Sorted at hS
 have hb := Below.refl w0.heap.size w0
 have hA := hA0
 have hi : ∀ b, A0 b → A0 b := fun _ h => h
 have hH := Hp.nil A0 w0.heap.size w0
 refine calls_of_ke Try.func34 rfl (n := 48) rfl rfl (l := [(0, v1)]) rfl ?_
 refine ke_seq ?_
 refine ke_region ?_
 refine sr_ev (v := .slice none 0 0) (ev_assign rfl) (by decide) ?_
 refine sr_end (l' := [(0, v1)]) (.cons rfl (.nil _)) ?_
 refine ke_scope ?_
 refine ke_seq ?_
 refine ke_region ?_
 refine sr_ev (v := .slice none 0 0) (ev_assign rfl) (by decide) ?_
 refine sr_end (l' := [(0, v1), (3, .slice none 0 0)]) (.cons rfl (.cons rfl (.nil _))) ?_
 refine ke_seq ?_
 refine ke_label ?_
 refine ke_seq ?_
 refine ke_seq ?_
 refine ke_region ?_
 refine sr_ev (v := v1) (ev_move rfl) (by decide) ?_
 refine sr_ev (v := .int .i64 (l_0.length : Int)) (ev_sllen Try.underlying23 rfl h2) (by decide) ?_
 refine sr_ev (v := .int .i64 0) (ev_move rfl) (by decide) ?_
 refine sr_end (l' := [(0, v1), (3, .slice none 0 0), (8, v1), (9, .int .i64 (l_0.length : Int)), (10, .int .i64 0)]) (.cons rfl (.cons rfl (.cons rfl (.cons rfl (.cons rfl (.nil _)))))) ?_
 refine ke_block ?_
 have hK := scope_Sorted_L1_ok hg hA0 _ hS hb hA hi hH h2 OwnS.nil (Dj.nil _) h2
 exact ke_weaken (l' := [(0, v1), (3, (.slice none 0 0)), (8, v1), (9, .int .i64 (l_0.length : Int)), (10, .int .i64 0)]) (.cons rfl (.cons rfl (.cons rfl (.cons rfl (.cons rfl (.nil _)))))) (ke_loop hK)
theorem delegate_Delegations_Scopes_ok (w0 : World) (hg : Gs w0) {ρA : Tags} (hbd : ∀ b, ρA b ≠ 0 → b < w0.heap.size) (hz : Gz ρA) {τ0 : Nat → Nat} (hτ0 : ∀ p, 1 ≤ τ0 p) {d_0 : delegate_Delegations} {from_1 : Str} {to_2 : Str} {now_3 : Int} {gd_0 : Nat} {r : List Str} (ho0 : delegate_Delegations.O τ0 ρA w0 gd_0 d_0) (hS : delegate_Delegations_Scopes d_0 from_1 to_2 now_3 = some r) :
  Calls Try.prog 16 #[.pointer (some ⟨gd_0, 0, none⟩), str from_1, str to_2, .int .i64 now_3] w0 (Ret (fun v w' => ∃ x1, v = x1 ∧ SlR strC (Wb ρA) w' x1 r ∧ Below w0.heap.size w0 w')) := by
 unfold delegate_Delegations_Scopes at hS
 have hb := flat1_fr (ρ := ρA) (w := w0) hbd
 have hz := hz.flat1
 obtain ⟨v1, hB3, h2⟩ := ho0
 replace hB3 := hB3.mv (flat1_mv (hτ0 0))
 replace h2 := h2.mv (flat1_mv (hτ0 1))
 replace hB3 : Blk (flat1 ρA) 1 w0 gd_0 (.cells #[v1] 54 (0, 0)) := hB3
 replace h2 : MapT delegate_way.ek delegate_delegation.c true (flat1 ρA) 1 w0 v1 d_0.ways := h2
 refine calls_of_ke Try.func16 rfl (n := 25) rfl rfl (l := [(0, .pointer (some ⟨gd_0, 0, none⟩)), (1, str from_1), (2, str to_2), (3, .int .i64 now_3)]) rfl ?_
 refine ke_seq ?_
 refine ke_region ?_
 refine sr_ev (v := .slice none 0 0) (ev_assign rfl) (by decide) ?_
 refine sr_end (l' := [(0, .pointer (some ⟨gd_0, 0, none⟩)), (1, str from_1), (2, str to_2), (3, .int .i64 now_3)]) (.cons rfl (.cons rfl (.cons rfl (.cons rfl (.nil _))))) ?_
 refine ke_seq ?_
 refine ke_seq ?_
 refine ke_region ?_
 refine sr_ev (v := .pointer (some ⟨gd_0, 0, none⟩)) (ev_move rfl) (by decide) ?_
 refine sr_ev (v := str from_1) (ev_move rfl) (by decide) ?_
 refine sr_ev (v := str to_2) (ev_move rfl) (by decide) ?_
 refine sr_ev (v := .int .i64 now_3) (ev_move rfl) (by decide) ?_
 obtain ⟨y6, hy7, hS⟩ := bind_some' hS
 refine sr_call (vs := [.pointer (some ⟨gd_0, 0, none⟩), str from_1, str to_2, (.slice none 0 0), .int .i64 now_3]) rfl Try.call26 rfl (delegate_Delegations_May_ok _ (hg.fr hz hb) (ρA := (flat1 ρA)) hb.bd (hz.fr hg hb) (τ0 := (fun _ => 1)) (fun _ => Nat.le_refl 1) (SlR.nil (A := Wb (flat1 ρA))) (⟨_, hB3, h2⟩ : delegate_Delegations.O (fun _ => 1) (flat1 ρA) w0 gd_0 d_0) hy7) (by decide) ?_
 rintro _ w8 ⟨rfl, hbw9⟩
 have htr10 := Tr.of_below hbw9 hb.bd
 replace hB3 := hB3.mv (htr10.mv (i := 1) rfl)
 replace h2 := h2.mv (htr10.mv (i := 1) rfl)
 replace hb := hb.trans htr10
 refine sr_ev (v := .bool (y6 != 0)) (ev_ne rfl rfl) (by decide) ?_
 refine sr_end (l' := [(0, .pointer (some ⟨gd_0, 0, none⟩)), (1, str from_1), (2, str to_2), (14, .bool (y6 != 0))]) (.cons rfl (.cons rfl (.cons rfl (.cons rfl (.nil _))))) ?_
 refine ke_cond (t := y6 != 0) rfl (fun hc11 => ?_) (fun hc11 => ?_)
 ·replace hS := ite_true' hS hc11
  refine ke_seq ?_
  refine ke_region ?_
  refine sr_ev (v := .slice none 0 0) (ev_assign rfl) (by decide) ?_
  refine sr_end (l' := [(8, .slice none 0 0)]) (.cons rfl (.nil _)) ?_
  cases hS
  exact ke_ret1 Try.func16 rfl rfl ⟨_, rfl, _, rfl, SlR.nil, (hb.below (flat1_le _))⟩
 ·replace hS := ite_false' hS hc11
  refine ke_skip ?_
  refine ke_seq ?_
  refine ke_region ?_
  refine sr_ev (v := .pointer (some ⟨gd_0, 0, none⟩)) (ev_move rfl) (by decide) ?_
  refine sr_ev (v := .pointer (some ⟨gd_0, 0, none⟩)) (ev_nilCheck rfl) (by decide) ?_
  refine sr_ev (v := .pointer (some ⟨gd_0, 0, none⟩)) (ev_fieldAddr (i := 0) Try.underlying54 rfl Try.info52 rfl rfl) (by decide) ?_
  refine sr_ev (v := v1) (ev_load Try.isAgg52 rfl (hB3.cell rfl)) (by decide) ?_
  refine sr_ev (v := str from_1) (ev_move rfl) (by decide) ?_
  refine sr_ev (v := str to_2) (ev_move rfl) (by decide) ?_
  refine sr_ev (v := .agg #[str from_1, str to_2]) (ev_build (vs := #[(0, str from_1), (1, str to_2)]) rfl (fun _ => by kernel_rfl)) (by decide) ?_
  obtain ⟨y16, hy17, hS⟩ := bind_some' hS
  replace hy17 := Option.some.inj hy17
  obtain ⟨cs12, hrd13, hl14, hl15⟩ := h2.look (zcs := [(.slice none 0 0), .int .i64 0, .int .i64 0]) (z := (delegate_delegation.mk ([] : List Str) (api_Window.mk 0 0))) Try.keyB63 Try.underlying52 Try.zeroValue61 ⟨_, rfl, SlR.nil⟩ (delegate_way.mk from_1 to_2)
  rw [hy17] at hrd13
  obtain ⟨v18, hcshrd13, h19⟩ := hrd13
  obtain rfl : cs12 = [v18, .int .i64 y16.window.From, .int .i64 y16.window.Until] := hcshrd13
  refine sr_ev (v := .agg #[v18, .int .i64 y16.window.From, .int .i64 y16.window.Until]) (hl14 w8 _ _ (Mv.of_below (i := 1) (ρ := (flat1 ρA)) (Below.refl _ _)) rfl rfl) (by decide) ?_
  refine sr_ev (v := v18) (ev_field rfl (fun _ => by kernel_rfl)) (by decide) ?_
  obtain ⟨y20, hy21, hS⟩ := bind_some' hS
  refine sr_call (vs := [v18]) rfl Try.call34 rfl (scope_Sorted_ok (A0 := Wb (flat1 ρA)) _ (hg.fr hz hb) h19 hb.bd hy21) (by decide) ?_
  rintro v25 w22 ⟨_, rfl, h26, hbw23⟩
  have htr24 := Tr.of_below hbw23 hb.bd
  replace hb := hb.trans htr24
  refine sr_ev (v := v25) (ev_assign rfl) (by decide) ?_
  refine sr_end (l' := [(8, v25)]) (.cons rfl (.nil _)) ?_
  cases hS
  exact ke_ret1 Try.func16 rfl rfl ⟨_, rfl, _, rfl, (SlR.mv h26 (flat1_back hb hbd)), (hb.below (flat1_le _))⟩
theorem ref03_Same_L1_ok {w0 : World} (hg : Gs w0) {A0 : Nat → Prop} (hA0 : ∀ b, A0 b → b < w0.heap.size) : ∀ (n : Nat), ∀ {r : Bool} {a_0 : List Str} {b_1 : List Str} {i_5 : Int} {va_0 : Value} {vb_1 : Value}, ref03_Same_L1 n a_0 b_1 i_5 = some r → ∀ {w : World} {A : Nat → Prop}, (Below w0.heap.size w0 w) → (∀ b, A b → b < w.heap.size) → (∀ b, A0 b → A b) → (Hp A w0.heap.size w []) → (SlR strC A w va_0 a_0) → (SlR strC A w vb_1 b_1) → KE Try.prog 15 (Ret (fun v w' => v = .bool r ∧ Below w0.heap.size w0 w')) 26 [.code (sub (bodyOf Try.f15) [2, 2, 1, 2, 2, 1]), .inLoop (sub (bodyOf Try.f15) [2, 2, 1, 2, 2, 1]), .inBlock 0, .code (sub (bodyOf Try.f15) [2, 2, 2])] [(0, va_0), (1, vb_1), (5, .int .i64 i_5)] w := by
 intro n
 induction n with
 | zero => intro r a_0 b_1 i_5 va_0 vb_1 hS; cases hS
 | succ n ih =>
  have hr0 : ∀ {r : Bool} {a_0 : List Str} {b_1 : List Str} {i_5 : Int} {va_0 : Value} {vb_1 : Value}, ref03_Same_L1 n a_0 b_1 i_5 = some r → ∀ {w : World} {A : Nat → Prop}, (Below w0.heap.size w0 w) → (∀ b, A b → b < w.heap.size) → (∀ b, A0 b → A b) → (Hp A w0.heap.size w []) → (SlR strC A w va_0 a_0) → (SlR strC A w vb_1 b_1) → KE Try.prog 15 (Ret (fun v w' => v = .bool r ∧ Below w0.heap.size w0 w')) 26 [.inLoop (sub (bodyOf Try.f15) [2, 2, 1, 2, 2, 1]), .inBlock 0, .code (sub (bodyOf Try.f15) [2, 2, 2])] [(0, va_0), (1, vb_1), (5, .int .i64 i_5)] w := fun {r} {a_0} {b_1} {i_5} {va_0} {vb_1} hS {w} {A} hb hA hi hH ha_0 hb_1 => ke_inLoop (ih hS hb hA hi hH ha_0 hb_1)
  clear ih
  intro r a_0 b_1 i_5 va_0 vb_1 hS w A hb hA hi hH ha_0 hb_1
  unfold ref03_Same_L1 at hS
  refine ke_seq ?_
  refine ke_seq ?_
  refine ke_region ?_
  refine sr_ev (v := .int .i64 i_5) (ev_move rfl) (by decide) ?_
  refine sr_ev (v := va_0) (ev_move rfl) (by decide) ?_
  refine sr_ev (v := .int .i64 (a_0.length : Int)) (ev_sllen Try.underlying23 rfl ha_0) (by decide) ?_
  refine sr_ev (v := .bool (decide (i_5 < (a_0.length : Int)))) (ev_lt rfl rfl) (by decide) ?_
  refine sr_end (l' := [(0, va_0), (1, vb_1), (5, .int .i64 i_5), (14, .bool (decide (i_5 < (a_0.length : Int))))]) (.cons rfl (.cons rfl (.cons rfl (.cons rfl (.nil _))))) ?_
  refine ke_cond (t := decide (i_5 < (a_0.length : Int))) rfl (fun hc6 => ?_) (fun hc6 => ?_)
  ·replace hS := ite_true' hS hc6
   refine ke_skip ?_
   refine ke_seq ?_
   refine ke_block ?_
   refine ke_seq ?_
   refine ke_region_q Try.mixed (by kernel_rfl) ?_
   refine sq_ev (v := va_0) (fun w1 hw1 => ev_move rfl) (by decide) ?_
   refine sq_ev (v := .int .i64 i_5) (fun w1 hw1 => ev_move rfl) (by decide) ?_
   obtain ⟨y9, hy10, hS⟩ := bind_some' hS
   obtain ⟨b11, o12, cs14, he13, hixhe13⟩ := ha_0.elem Try.underlying23 Try.info9 rfl (P := Try.prog) hy10
   obtain rfl : cs14 = [str y9] := he13.rd
   refine sq_ev (v := .pointer (some ⟨b11, o12, none⟩)) (fun w1 hw1 => hixhe13 w1 hw1 rfl rfl) (by decide) ?_
   refine sq_ev (v := str y9) (fun w1 hw1 => ev_load Try.isAgg9 rfl ((he13.step (.of_below hw1) (Nat.succ_pos _)).cell 0 _ rfl)) (by decide) ?_
   refine sq_ev (v := vb_1) (fun w1 hw1 => ev_move rfl) (by decide) ?_
   refine sq_ev (v := .int .i64 i_5) (fun w1 hw1 => ev_move rfl) (by decide) ?_
   obtain ⟨y15, hy16, hS⟩ := bind_some' hS
   obtain ⟨b17, o18, cs20, he19, hixhe19⟩ := hb_1.elem Try.underlying23 Try.info9 rfl (P := Try.prog) hy16
   obtain rfl : cs20 = [str y15] := he19.rd
   refine sq_ev (v := .pointer (some ⟨b17, o18, none⟩)) (fun w1 hw1 => hixhe19 w1 hw1 rfl rfl) (by decide) ?_
   refine sq_ev (v := str y15) (fun w1 hw1 => ev_load Try.isAgg9 rfl ((he19.step (.of_below hw1) (Nat.succ_pos _)).cell 0 _ rfl)) (by decide) ?_
   refine sq_ev (v := .bool (!(y9 == y15))) (fun w1 hw1 => ev_sne rfl rfl) (by decide) ?_
   refine sq_end (l' := [(0, va_0), (1, vb_1), (5, .int .i64 i_5), (25, .bool (!(y9 == y15)))]) (.cons rfl (.cons rfl (.cons rfl (.cons rfl (.nil _))))) (fun w8 hw7 => ?_)
   replace hb := hb.trans (hw7.mono hb.size)
   replace hA := lt_mono hA hw7.size
   replace hH := hH.below hw7
   replace ha_0 := ha_0.below hw7
   replace hb_1 := hb_1.below hw7
   refine ke_cond (t := !(y9 == y15)) rfl (fun hc21 => ?_) (fun hc21 => ?_)
   ·replace hS := ite_true' hS hc21
    refine ke_seq ?_
    refine ke_region ?_
    refine sr_ev (v := .bool false) (ev_assign rfl) (by decide) ?_
    refine sr_end (l' := [(4, .bool false)]) (.cons rfl (.nil _)) ?_
    cases hS
    exact ke_ret1 Try.func15 rfl rfl ⟨_, rfl, rfl, hb⟩
   ·replace hS := ite_false' hS hc21
    refine ke_skip ?_
    refine ke_inBlock ?_
    refine ke_region ?_
    refine sr_ev (v := .int .i64 i_5) (ev_move rfl) (by decide) ?_
    refine sr_ev (v := .int .i64 (IntKind.i64.wrap (i_5 + 1))) (ev_add rfl rfl) (by decide) ?_
    refine sr_ev (v := .int .i64 (IntKind.i64.wrap (i_5 + 1))) (ev_assign rfl) (by decide) ?_
    refine sr_end (l' := [(0, va_0), (1, vb_1), (5, .int .i64 (IntKind.i64.wrap (i_5 + 1)))]) (.cons rfl (.cons rfl (.cons rfl (.nil _)))) ?_
    have hK := hr0 hS hb hA hi hH ha_0 hb_1
    exact ke_weaken (l' := [(0, va_0), (1, vb_1), (5, .int .i64 (IntKind.i64.wrap (i_5 + 1)))]) (.cons rfl (.cons rfl (.cons rfl (.nil _)))) hK
  ·replace hS := ite_false' hS hc6
   refine ke_exit (k' := _) rfl ?_
   refine ke_seq ?_
   refine ke_region ?_
   refine sr_ev (v := .bool true) (ev_assign rfl) (by decide) ?_
   refine sr_end (l' := [(4, .bool true)]) (.cons rfl (.nil _)) ?_
   cases hS
   exact ke_ret1 Try.func15 rfl rfl ⟨_, rfl, rfl, hb⟩
theorem ref03_Same_ok {A0 : Nat → Prop} (w0 : World) (hg : Gs w0) {a_0 : List Str} {b_1 : List Str} {v1 : Value} {v3 : Value} {r : Bool} (h2 : SlR strC A0 w0 v1 a_0) (h4 : SlR strC A0 w0 v3 b_1) (hS : ref03_Same a_0 b_1 = some r) :
  Calls Try.prog 15 #[v1, v3] w0 (Ret (fun v w' => v = .bool r ∧ Below w0.heap.size w0 w')) := by
 unfold ref03_Same at hS
 have hb := Below.refl w0.heap.size w0
 replace h2 := h2.weak (A' := fun _ => False) (fun _ h => h.elim)
 replace h4 := h4.weak (A' := fun _ => False) (fun _ h => h.elim)
 obtain ⟨A0, hA0, hAe⟩ : ∃ A0 : Nat → Prop, (∀ b, A0 b → b < w0.heap.size) ∧ A0 = fun _ => False := ⟨_, fun _ h => h.elim, rfl⟩
 rw [← hAe] at h2
 rw [← hAe] at h4
 clear hAe
 have hA := hA0
 have hi : ∀ b, A0 b → A0 b := fun _ h => h
 have hH := Hp.nil A0 w0.heap.size w0
 refine calls_of_ke Try.func15 rfl (n := 26) rfl rfl (l := [(0, v1), (1, v3)]) rfl ?_
 refine ke_seq ?_
 refine ke_region ?_
 refine sr_ev (v := .bool false) (ev_assign rfl) (by decide) ?_
 refine sr_end (l' := [(0, v1), (1, v3)]) (.cons rfl (.cons rfl (.nil _))) ?_
 refine ke_seq ?_
 refine ke_seq ?_
 refine ke_region ?_
 refine sr_ev (v := v1) (ev_move rfl) (by decide) ?_
 refine sr_ev (v := .int .i64 (a_0.length : Int)) (ev_sllen Try.underlying23 rfl h2) (by decide) ?_
 refine sr_ev (v := v3) (ev_move rfl) (by decide) ?_
 refine sr_ev (v := .int .i64 (b_1.length : Int)) (ev_sllen Try.underlying23 rfl h4) (by decide) ?_
 refine sr_ev (v := .bool ((a_0.length : Int) != (b_1.length : Int))) (ev_ne rfl rfl) (by decide) ?_
 refine sr_end (l' := [(0, v1), (1, v3), (10, .bool ((a_0.length : Int) != (b_1.length : Int)))]) (.cons rfl (.cons rfl (.cons rfl (.nil _)))) ?_
 refine ke_cond (t := (a_0.length : Int) != (b_1.length : Int)) rfl (fun hc5 => ?_) (fun hc5 => ?_)
 ·replace hS := ite_true' hS hc5
  refine ke_seq ?_
  refine ke_region ?_
  refine sr_ev (v := .bool false) (ev_assign rfl) (by decide) ?_
  refine sr_end (l' := [(4, .bool false)]) (.cons rfl (.nil _)) ?_
  cases hS
  exact ke_ret1 Try.func15 rfl rfl ⟨_, rfl, rfl, hb⟩
 ·replace hS := ite_false' hS hc5
  refine ke_skip ?_
  refine ke_seq ?_
  refine ke_seq ?_
  refine ke_region ?_
  refine sr_ev (v := .int .i64 0) (ev_assign rfl) (by decide) ?_
  refine sr_end (l' := [(0, v1), (1, v3), (5, .int .i64 0)]) (.cons rfl (.cons rfl (.cons rfl (.nil _)))) ?_
  refine ke_block ?_
  have hK := ref03_Same_L1_ok hg hA0 _ hS hb hA hi hH h2 h4
  exact ke_weaken (l' := [(0, v1), (1, v3), (5, .int .i64 0)]) (.cons rfl (.cons rfl (.cons rfl (.nil _)))) (ke_loop hK)
theorem delegate_Delegations_Revoke_ok (w0 : World) (hg : Gs w0) {ρA : Tags} (hbd : ∀ b, ρA b ≠ 0 → b < w0.heap.size) (hz : Gz ρA) {o : Nat} (ho2 : 2 ≤ o) {d_0 : delegate_Delegations} {from_1 : Str} {to_2 : Str} {gd_0 : Nat} {r : Bool × delegate_Delegations} (ho0 : delegate_Delegations.O (fun p => o + p) ρA w0 gd_0 d_0) (hS : delegate_Delegations_Revoke d_0 from_1 to_2 = some r) :
  Calls Try.prog 28 #[.pointer (some ⟨gd_0, 0, none⟩), str from_1, str to_2] w0 (Ret (fun v w' => ∃ ρ', v = .bool r.1 ∧ delegate_Delegations.O (fun p => o + p) ρ' w' gd_0 r.2 ∧ Tr ρA w0 (rng o 2) ρ' w')) := by
 unfold delegate_Delegations_Revoke at hS
 have hb := enter_fr (ρ := ρA) (w := w0) (n := 2) ho2 hbd
 have hz := hz.enter (n := 2) ho2
 obtain ⟨v1, hB3, h2⟩ := ho0
 replace hB3 := hB3.mv (enter_mv (p := 0) (n := 2) (by decide) ho2)
 replace h2 := h2.mv (enter_mv (p := 1) (n := 2) (by decide) ho2)
 replace hB3 : Blk (enter ρA o 2) 100 w0 gd_0 (.cells #[v1] 54 (0, 0)) := hB3
 replace h2 : MapT delegate_way.ek delegate_delegation.c true (enter ρA o 2) 101 w0 v1 d_0.ways := h2
 refine calls_of_ke Try.func28 rfl (n := 31) rfl rfl (l := [(0, .pointer (some ⟨gd_0, 0, none⟩)), (1, str from_1), (2, str to_2)]) rfl ?_
 refine ke_seq ?_
 refine ke_region ?_
 refine sr_ev (v := .bool false) (ev_assign rfl) (by decide) ?_
 refine sr_end (l' := [(0, .pointer (some ⟨gd_0, 0, none⟩)), (1, str from_1), (2, str to_2)]) (.cons rfl (.cons rfl (.cons rfl (.nil _)))) ?_
 refine ke_seq ?_
 refine ke_seq ?_
 refine ke_region ?_
 refine sr_ev (v := .pointer (some ⟨gd_0, 0, none⟩)) (ev_move rfl) (by decide) ?_
 obtain ⟨y4, hy5, hS⟩ := bind_some' hS
 refine sr_call (vs := [.pointer (some ⟨gd_0, 0, none⟩)]) rfl Try.call38 rfl (delegate_Delegations_made_ok _ (hg.fr hz hb) (ρA := (enter ρA o 2)) hb.bd (hz.fr hg hb) (τ0 := (fun p => 100 + p)) (fun p => Nat.le_add_right_of_le (by decide)) (⟨_, hB3, h2⟩ : delegate_Delegations.O (fun p => 100 + p) (enter ρA o 2) w0 gd_0 d_0) hy5) (by decide) ?_
 rintro _ w6 ⟨rfl, hbw7⟩
 have htr8 := Tr.of_below hbw7 hb.bd
 replace hB3 := hB3.mv (htr8.mv (i := 100) rfl)
 replace h2 := h2.mv (htr8.mv (i := 101) rfl)
 replace hb := hb.trans htr8
 refine sr_ev (v := .bool (!y4)) (ev_not rfl) (by decide) ?_
 refine sr_end (l' := [(0, .pointer (some ⟨gd_0, 0, none⟩)), (1, str from_1), (2, str to_2), (11, .bool (!y4))]) (.cons rfl (.cons rfl (.cons rfl (.cons rfl (.nil _))))) ?_
 refine ke_cond (t := !y4) rfl (fun hc9 => ?_) (fun hc9 => ?_)
 ·replace hS := ite_true' hS hc9
  refine ke_seq ?_
  refine ke_region ?_
  refine sr_ev (v := .bool false) (ev_assign rfl) (by decide) ?_
  refine sr_end (l' := [(6, .bool false)]) (.cons rfl (.nil _)) ?_
  cases hS
  exact ke_ret1 Try.func28 rfl rfl ⟨_, rfl, leave ρA w0 o 2 (enter ρA o 2), rfl, ⟨_, (hB3.mv (leave_mv (p := 0) (by decide) hb)), (h2.mv (leave_mv (p := 1) (by decide) hb))⟩, (leave_tr ho2 hb)⟩
 ·replace hS := ite_false' hS hc9
  refine ke_skip ?_
  refine ke_seq ?_
  refine ke_region ?_
  refine sr_ev (v := .pointer (some ⟨gd_0, 0, none⟩)) (ev_move rfl) (by decide) ?_
  refine sr_ev (v := .pointer (some ⟨gd_0, 0, none⟩)) (ev_nilCheck rfl) (by decide) ?_
  refine sr_ev (v := .pointer (some ⟨gd_0, 0, none⟩)) (ev_fieldAddr (i := 0) Try.underlying54 rfl Try.info52 rfl rfl) (by decide) ?_
  refine sr_ev (v := v1) (ev_load Try.isAgg52 rfl (hB3.cell rfl)) (by decide) ?_
  refine sr_ev (v := str from_1) (ev_move rfl) (by decide) ?_
  refine sr_ev (v := str to_2) (ev_move rfl) (by decide) ?_
  refine sr_ev (v := .agg #[str from_1, str to_2]) (ev_build (vs := #[(0, str from_1), (1, str to_2)]) rfl (fun _ => by kernel_rfl)) (by decide) ?_
  obtain ⟨y14, hy15, hS⟩ := bind_some' hS
  replace hy15 := Option.some.inj hy15
  obtain ⟨cs10, hrd11, hl12, hl13⟩ := h2.look (zcs := [(.slice none 0 0), .int .i64 0, .int .i64 0]) (z := (delegate_delegation.mk ([] : List Str) (api_Window.mk 0 0))) Try.keyB63 Try.underlying52 Try.zeroValue61 ⟨_, rfl, SlR.nil⟩ (delegate_way.mk from_1 to_2)
  rw [hy15] at hrd11
  obtain ⟨v16, hcshrd11, h17⟩ := hrd11
  obtain rfl : cs10 = [v16, .int .i64 y14.window.From, .int .i64 y14.window.Until] := hcshrd11
  refine sr_ev (v := .tuple #[.agg #[v16, .int .i64 y14.window.From, .int .i64 y14.window.Until], .bool (mhas d_0.ways (delegate_way.mk from_1 to_2))]) (hl13 w6 _ _ (Mv.of_below (i := 101) (ρ := (enter ρA o 2)) (Below.refl _ _)) rfl rfl) (by decide) ?_
  refine sr_ev (v := .tuple #[.agg #[v16, .int .i64 y14.window.From, .int .i64 y14.window.Until], .bool (mhas d_0.ways (delegate_way.mk from_1 to_2))]) (ev_move rfl) (by decide) ?_
  refine sr_ev (v := .agg #[v16, .int .i64 y14.window.From, .int .i64 y14.window.Until]) (ev_extract rfl rfl) (by decide) ?_
  refine sr_ev (v := .bool (mhas d_0.ways (delegate_way.mk from_1 to_2))) (ev_extract rfl rfl) (by decide) ?_
  refine sr_allocT 9 (by decide) hb.bd Try.zeroValue61 (by decide) ?_
  intro g18 ρ19 w20 hB22 htr21
  replace h17 := h17.mv htr21.rd
  replace hB3 := hB3.mv (htr21.mv (i := 100) rfl)
  replace h2 := h2.mv (htr21.mv (i := 101) rfl)
  replace hb := hb.trans htr21
  replace hB22 : Blk ρ19 9 w20 g18 (.cells #[(.slice none 0 0), .int .i64 0, .int .i64 0] 61 (0, 0)) := hB22
  refine sr_storeT (v := .agg #[v16, .int .i64 y14.window.From, .int .i64 y14.window.Until]) (vs := [v16, .int .i64 y14.window.From, .int .i64 y14.window.Until]) (cs' := #[v16, .int .i64 y14.window.From, .int .i64 y14.window.Until]) hB22 (by decide) hb.bd rfl rfl rfl Try.sizeOf61 rfl (by first | rfl | (simp only [List.all_cons, List.all_nil, SlR.oneCell h17]; done) | (simp only [List.all_cons, List.all_nil, SlR.oneCell h17]; rfl)) rfl ?_
  intro w23 hB221 htr24
  replace h17 := h17.mv htr24.rd
  replace hB3 := hB3.mv (htr24.mv (i := 100) rfl)
  replace h2 := h2.mv (htr24.mv (i := 101) rfl)
  replace hb := hb.trans htr24
  replace hB22 : Blk ρ19 9 w23 g18 (.cells #[v16, .int .i64 y14.window.From, .int .i64 y14.window.Until] 61 (0, 0)) := hB221
  clear hB221
  refine sr_ev (v := .bool (mhas d_0.ways (delegate_way.mk from_1 to_2))) (ev_assign rfl) (by decide) ?_
  refine sr_end (l' := [(0, .pointer (some ⟨gd_0, 0, none⟩)), (1, str from_1), (2, str to_2), (8, .bool (mhas d_0.ways (delegate_way.mk from_1 to_2)))]) (.cons rfl (.cons rfl (.cons rfl (.cons rfl (.nil _))))) ?_
  refine ke_seq ?_
  refine ke_region ?_
  refine sr_ev (v := .pointer (some ⟨gd_0, 0, none⟩)) (ev_move rfl) (by decide) ?_
  refine sr_ev (v := .pointer (some ⟨gd_0, 0, none⟩)) (ev_nilCheck rfl) (by decide) ?_
  refine sr_ev (v := .pointer (some ⟨gd_0, 0, none⟩)) (ev_fieldAddr (i := 0) Try.underlying54 rfl Try.info52 rfl rfl) (by decide) ?_
  refine sr_ev (v := v1) (ev_load Try.isAgg52 rfl (hB3.cell rfl)) (by decide) ?_
  refine sr_ev (v := str from_1) (ev_move rfl) (by decide) ?_
  refine sr_ev (v := str to_2) (ev_move rfl) (by decide) ?_
  refine sr_ev (v := .agg #[str from_1, str to_2]) (ev_build (vs := #[(0, str from_1), (1, str to_2)]) rfl (fun _ => by kernel_rfl)) (by decide) ?_
  refine sr_mapDel0 (k := (delegate_way.mk from_1 to_2)) h2 Try.keyB63 Try.underlying52 (by decide) hb.bd rfl rfl ?_
  intro w25 h21 htr26
  replace hB3 := hB3.mv (htr26.mv (i := 100) rfl)
  replace hb := hb.trans htr26
  replace h2 := h21
  clear h21
  refine sr_end (l' := [(8, .bool (mhas d_0.ways (delegate_way.mk from_1 to_2)))]) (.cons rfl (.nil _)) ?_
  refine ke_seq ?_
  refine ke_region ?_
  refine sr_ev (v := .bool (mhas d_0.ways (delegate_way.mk from_1 to_2))) (ev_move rfl) (by decide) ?_
  refine sr_ev (v := .bool (mhas d_0.ways (delegate_way.mk from_1 to_2))) (ev_assign rfl) (by decide) ?_
  refine sr_end (l' := [(6, .bool (mhas d_0.ways (delegate_way.mk from_1 to_2)))]) (.cons rfl (.nil _)) ?_
  cases hS
  exact ke_ret1 Try.func28 rfl rfl ⟨_, rfl, leave ρA w0 o 2 ρ19, rfl, ⟨_, (hB3.mv (leave_mv (p := 0) (by decide) hb)), (h2.mv (leave_mv (p := 1) (by decide) hb))⟩, (leave_tr ho2 hb)⟩
theorem delegate_Delegations_made__nil_ok (w0 : World) (hg : Gs w0) {ρA : Tags} (hbd : ∀ b, ρA b ≠ 0 → b < w0.heap.size) (hz : Gz ρA) {r : Bool} (hS : delegate_Delegations_made__nil = some r) :
  Calls Try.prog 38 #[.pointer none] w0 (Ret (fun v w' => v = .bool r ∧ Below w0.heap.size w0 w')) := by
 unfold delegate_Delegations_made__nil at hS
 have hb := flat1_fr (ρ := ρA) (w := w0) hbd
 have hz := hz.flat1
 refine calls_of_ke Try.func38 rfl (n := 12) rfl rfl (l := [(0, .pointer none)]) rfl ?_
 refine ke_seq ?_
 refine ke_region ?_
 refine sr_ev (v := .bool false) (ev_assign rfl) (by decide) ?_
 refine sr_end (l' := [(0, .pointer none)]) (.cons rfl (.nil _)) ?_
 refine ke_seq ?_
 refine ke_region ?_
 refine sr_ev (v := .pointer none) (ev_move rfl) (by decide) ?_
 refine sr_ev (v := .bool false) (ev_pneT_nil Try.underlying27 rfl rfl) (by decide) ?_
 refine sr_ev (v := .bool false) (ev_move rfl) (by decide) ?_
 refine sr_pass (e := 5) rfl rfl rfl (by decide) ?_
 refine sr_pass (e := 5) rfl rfl rfl (by decide) ?_
 refine sr_pass (e := 5) rfl rfl rfl (by decide) ?_
 refine sr_pass (e := 5) rfl rfl rfl (by decide) ?_
 refine sr_pass (e := 5) rfl rfl rfl (by decide) ?_
 refine sr_ev (v := .bool false) (ev_pick_f rfl rfl rfl) (by decide) ?_
 refine sr_ev (v := .bool false) (ev_assign rfl) (by decide) ?_
 refine sr_end (l' := [(2, .bool false)]) (.cons rfl (.nil _)) ?_
 cases hS
 exact ke_ret1 Try.func38 rfl rfl ⟨_, rfl, rfl, (hb.below (flat1_le _))⟩
theorem delegate_Delegations_May__nil_ok (w0 : World) (hg : Gs w0) {ρA : Tags} (hbd : ∀ b, ρA b ≠ 0 → b < w0.heap.size) (hz : Gz ρA) {from_1 : Str} {to_2 : Str} {scopes_3 : List Str} {now_4 : Int} {v1 : Value} {r : Int} (h2 : SlR strC (Wb ρA) w0 v1 scopes_3) (hS : delegate_Delegations_May__nil from_1 to_2 scopes_3 now_4 = some r) :
  Calls Try.prog 26 #[.pointer none, str from_1, str to_2, v1, .int .i64 now_4] w0 (Ret (fun v w' => v = .int .i64 r ∧ Below w0.heap.size w0 w')) := by
 unfold delegate_Delegations_May__nil at hS
 have hb := flat1_fr (ρ := ρA) (w := w0) hbd
 have hz := hz.flat1
 replace h2 := SlR.mv h2 flat1_rd
 refine calls_of_ke Try.func26 rfl (n := 42) rfl rfl (l := [(0, .pointer none), (1, str from_1), (2, str to_2), (3, v1), (4, .int .i64 now_4)]) rfl ?_
 refine ke_seq ?_
 refine ke_region ?_
 refine sr_ev (v := .int .i64 0) (ev_assign rfl) (by decide) ?_
 refine sr_end (l' := [(0, .pointer none), (1, str from_1), (2, str to_2), (3, v1), (4, .int .i64 now_4)]) (.cons rfl (.cons rfl (.cons rfl (.cons rfl (.cons rfl (.nil _)))))) ?_
 refine ke_seq ?_
 refine ke_seq ?_
 refine ke_region ?_
 refine sr_ev (v := .pointer none) (ev_move rfl) (by decide) ?_
 obtain ⟨y3, hy4, hS⟩ := bind_some' hS
 obtain rfl : y3 = false := (Option.some.inj hy4).symm
 refine sr_call (vs := [.pointer none]) rfl Try.call38 rfl (delegate_Delegations_made__nil_ok _ (hg.fr hz hb) (ρA := (flat1 ρA)) hb.bd (hz.fr hg hb) hy4) (by decide) ?_
 rintro _ w5 ⟨rfl, hbw6⟩
 have htr7 := Tr.of_below hbw6 hb.bd
 replace h2 := h2.mv htr7.rd
 replace hb := hb.trans htr7
 refine sr_ev (v := .bool true) (ev_notc rfl rfl) (by decide) ?_
 refine sr_end (l' := [(0, .pointer none), (1, str from_1), (2, str to_2), (3, v1), (4, .int .i64 now_4), (16, .bool true)]) (.cons rfl (.cons rfl (.cons rfl (.cons rfl (.cons rfl (.cons rfl (.nil _))))))) ?_
 refine ke_cond (t := true) rfl (fun _ => ?_) (fun h => by cases h)
 refine ke_seq ?_
 refine ke_region ?_
 refine sr_ev (v := .int .i64 1) (ev_assign rfl) (by decide) ?_
 refine sr_end (l' := [(10, .int .i64 1)]) (.cons rfl (.nil _)) ?_
 cases hS
 exact ke_ret1 Try.func26 rfl rfl ⟨_, rfl, rfl, (hb.below (flat1_le _))⟩
theorem delegate_Delegations_Drop__nil_ok (w0 : World) (hg : Gs w0) {ρA : Tags} (hbd : ∀ b, ρA b ≠ 0 → b < w0.heap.size) (hz : Gz ρA) {user_1 : Str} {r : Int} (hS : delegate_Delegations_Drop__nil user_1 = some r) :
  Calls Try.prog 24 #[.pointer none, str user_1] w0 (Ret (fun v w' => v = .int .i64 r ∧ Below w0.heap.size w0 w')) := by
 unfold delegate_Delegations_Drop__nil at hS
 have hb := flat1_fr (ρ := ρA) (w := w0) hbd
 have hz := hz.flat1
 refine calls_of_ke Try.func24 rfl (n := 27) rfl rfl (l := [(0, .pointer none), (1, str user_1)]) rfl ?_
 refine ke_seq ?_
 refine ke_region ?_
 refine sr_boxT 5 (by decide) hb.bd rfl (by decide) ?_
 intro g1 ρ2 w3 hB5 htr4
 replace hb := hb.trans htr4
 replace hB5 : Blk ρ2 5 w3 g1 (.cells #[str user_1] 9 (0, 0)) := hB5
 refine sr_ev (v := .int .i64 0) (ev_assign rfl) (by decide) ?_
 refine sr_end (l' := [(0, .pointer none), (3, .pointer (some ⟨g1, 0, none⟩))]) (.cons rfl (.cons rfl (.nil _))) ?_
 refine ke_seq ?_
 refine ke_seq ?_
 refine ke_region ?_
 refine sr_ev (v := .pointer none) (ev_move rfl) (by decide) ?_
 obtain ⟨y6, hy7, hS⟩ := bind_some' hS
 obtain rfl : y6 = false := (Option.some.inj hy7).symm
 refine sr_call (vs := [.pointer none]) rfl Try.call38 rfl (delegate_Delegations_made__nil_ok _ (hg.fr hz hb) (ρA := ρ2) hb.bd (hz.fr hg hb) hy7) (by decide) ?_
 rintro _ w8 ⟨rfl, hbw9⟩
 have htr10 := Tr.of_below hbw9 hb.bd
 replace hB5 := hB5.mv (htr10.mv (i := 5) rfl)
 replace hb := hb.trans htr10
 refine sr_ev (v := .bool true) (ev_notc rfl rfl) (by decide) ?_
 refine sr_end (l' := [(0, .pointer none), (3, .pointer (some ⟨g1, 0, none⟩)), (8, .bool true)]) (.cons rfl (.cons rfl (.cons rfl (.nil _)))) ?_
 refine ke_cond (t := true) rfl (fun _ => ?_) (fun h => by cases h)
 refine ke_seq ?_
 refine ke_region ?_
 refine sr_ev (v := .int .i64 0) (ev_assign rfl) (by decide) ?_
 refine sr_end (l' := [(4, .int .i64 0)]) (.cons rfl (.nil _)) ?_
 cases hS
 exact ke_ret1 Try.func24 rfl rfl ⟨_, rfl, rfl, (hb.below (flat1_le _))⟩
theorem law35_awake_ok (w0 : World) (hg : Gs w0) {ρA : Tags} (hbd : ∀ b, ρA b ≠ 0 → b < w0.heap.size) (hz : Gz ρA) {r : Bool} (hS : law35_awake = some r) :
  Calls Try.prog 10 #[] w0 (Ret (fun v w' => v = .bool r ∧ Below w0.heap.size w0 w')) := by
 unfold law35_awake at hS
 have hb := flat1_fr (ρ := ρA) (w := w0) hbd
 have hz := hz.flat1
 refine calls_of_ke Try.func10 rfl (n := 115) rfl rfl (l := []) rfl ?_
 refine ke_seq ?_
 refine ke_region ?_
 refine sr_ev (v := .bool false) (ev_assign rfl) (by decide) ?_
 refine sr_end (l' := []) (.nil _) ?_
 refine ke_seq ?_
 refine ke_region ?_
 obtain ⟨y1, hy2, hS⟩ := bind_some' hS
 refine sr_call (vs := []) rfl Try.call11 rfl (delegate_New_ok _ (hg.fr hz hb) (ρA := (flat1 ρA)) hb.bd (hz.fr hg hb) (o := 100) (by decide) hy2) (by decide) ?_
 rintro _ w3 ⟨ρ10, g6, rfl, ⟨v7, hB9, h8⟩, htr5⟩
 replace hb := hb.trans htr5
 replace hB9 : Blk ρ10 100 w3 g6 (.cells #[v7] 54 (0, 0)) := hB9
 replace h8 : MapT delegate_way.ek delegate_delegation.c true ρ10 101 w3 v7 y1.ways := h8
 refine sr_ev (v := .pointer (some ⟨g6, 0, none⟩)) (ev_assign rfl) (by decide) ?_
 refine sr_end (l' := [(1, .pointer (some ⟨g6, 0, none⟩))]) (.cons rfl (.nil _)) ?_
 refine ke_seq ?_
 refine ke_seq ?_
 refine ke_region ?_
 refine sr_ev (v := .pointer (some ⟨g6, 0, none⟩)) (ev_move rfl) (by decide) ?_
 refine sr_ev (v := .bool false) (ev_peqT_some Try.underlying27 rfl rfl) (by decide) ?_
 refine sr_end (l' := [(1, .pointer (some ⟨g6, 0, none⟩)), (13, .bool false)]) (.cons rfl (.cons rfl (.nil _))) ?_
 refine ke_cond (t := false) rfl (fun h => by cases h) (fun _ => ?_)
 refine ke_skip ?_
 refine ke_seq ?_
 refine ke_region ?_
 refine sr_ev (v := .agg #[.int .i64 5, .int .i64 20]) (ev_build (vs := #[(0, .int .i64 5), (1, .int .i64 20)]) rfl (fun _ => by kernel_rfl)) (by decide) ?_
 refine sr_allocT 4 (by decide) hb.bd Try.zeroValue33 (by decide) ?_
 intro g11 ρ12 w13 hB15 htr14
 replace hB9 := hB9.mv (htr14.mv (i := 100) rfl)
 replace h8 := h8.mv (htr14.mv (i := 101) rfl)
 replace hb := hb.trans htr14
 replace hB15 : Blk ρ12 4 w13 g11 (.cells #[.int .i64 0, .int .i64 0] 33 (0, 0)) := hB15
 refine sr_storeT (v := .agg #[.int .i64 5, .int .i64 20]) (vs := [.int .i64 5, .int .i64 20]) (cs' := #[.int .i64 5, .int .i64 20]) hB15 (by decide) hb.bd rfl rfl rfl Try.sizeOf33 rfl rfl rfl ?_
 intro w16 hB151 htr17
 replace hB9 := hB9.mv (htr17.mv (i := 100) rfl)
 replace h8 := h8.mv (htr17.mv (i := 101) rfl)
 replace hb := hb.trans htr17
 replace hB15 : Blk ρ12 4 w16 g11 (.cells #[.int .i64 5, .int .i64 20] 33 (0, 0)) := hB151
 clear hB151
 refine sr_end (l' := [(1, .pointer (some ⟨g6, 0, none⟩)), (2, .pointer (some ⟨g11, 0, none⟩))]) (.cons rfl (.cons rfl (.nil _))) ?_
 refine ke_seq ?_
 refine ke_region ?_
 refine sr_ev (v := .pointer (some ⟨g6, 0, none⟩)) (ev_move rfl) (by decide) ?_
 refine sr_litT (c := strC) (ρ := ρ12) (E := 9) (xs := [[109, 97, 105, 108]]) (vs := #[(0, str ([109, 97, 105, 108]))]) (cs := #[str ([109, 97, 105, 108])]) (css := [[str ([109, 97, 105, 108])]]) rfl (fun _ => by kernel_rfl) rfl ⟨rfl, trivial⟩ rfl (by decide) hb.bd (by decide) ?_
 intro v18 w20 h19 hbw22
 have htr21 := Tr.of_below hbw22 hb.bd
 replace hB15 := hB15.mv (htr21.mv (i := 4) rfl)
 replace hB9 := hB9.mv (htr21.mv (i := 100) rfl)
 replace h8 := h8.mv (htr21.mv (i := 101) rfl)
 replace hb := hb.trans htr21
 refine sr_ev (v := .agg #[.int .i64 5, .int .i64 20]) (ev_loads (cs := [.int .i64 5, .int .i64 20]) Try.isAgg33 Try.sizeOf33 rfl (hB15.cells (vs := [.int .i64 5, .int .i64 20]) rfl)) (by decide) ?_
 obtain ⟨y23, hy24, hS⟩ := bind_some' hS
 refine sr_call (vs := [.pointer (some ⟨g6, 0, none⟩), str ([97, 110, 110]), str ([97, 110, 110]), v18, .agg #[.int .i64 5, .int .i64 20]]) rfl Try.call22 rfl (delegate_Delegations_Allow_ok (w_4 := (api_Window.mk 5 20)) _ (hg.fr hz hb) (ρA := ρ12) hb.bd (hz.fr hg hb) (o := 100) (by decide) h19 (⟨_, hB9, h8⟩ : delegate_Delegations.O (fun p => 100 + p) ρ12 w20 g6 y1) hy24) (by decide) ?_
 rintro _ w25 ⟨ρ31, rfl, ⟨v28, hB30, h29⟩, htr27⟩
 replace hB15 := hB15.mv (htr27.mv (i := 4) rfl)
 replace hb := hb.trans htr27
 replace hB30 : Blk ρ31 100 w25 g6 (.cells #[v28] 54 (0, 0)) := hB30
 replace h29 : MapT delegate_way.ek delegate_delegation.c true ρ31 101 w25 v28 y23.2.ways := h29
 refine sr_ev (v := .int .i64 y23.1) (ev_assign rfl) (by decide) ?_
 refine sr_end (l' := [(1, .pointer (some ⟨g6, 0, none⟩)), (2, .pointer (some ⟨g11, 0, none⟩)), (3, .int .i64 y23.1)]) (.cons rfl (.cons rfl (.cons rfl (.nil _)))) ?_
 refine ke_seq ?_
 refine ke_region ?_
 refine sr_ev (v := .pointer (some ⟨g6, 0, none⟩)) (ev_move rfl) (by decide) ?_
 refine sr_litT (c := strC) (ρ := ρ31) (E := 9) (xs := [[109, 97, 105, 108]]) (vs := #[(0, str ([109, 97, 105, 108]))]) (cs := #[str ([109, 97, 105, 108])]) (css := [[str ([109, 97, 105, 108])]]) rfl (fun _ => by kernel_rfl) rfl ⟨rfl, trivial⟩ rfl (by decide) hb.bd (by decide) ?_
 intro v32 w34 h33 hbw36
 have htr35 := Tr.of_below hbw36 hb.bd
 replace hB15 := hB15.mv (htr35.mv (i := 4) rfl)
 replace hB30 := hB30.mv (htr35.mv (i := 100) rfl)
 replace h29 := h29.mv (htr35.mv (i := 101) rfl)
 replace hb := hb.trans htr35
 refine sr_ev (v := .agg #[.int .i64 5, .int .i64 20]) (ev_loads (cs := [.int .i64 5, .int .i64 20]) Try.isAgg33 Try.sizeOf33 rfl (hB15.cells (vs := [.int .i64 5, .int .i64 20]) rfl)) (by decide) ?_
 obtain ⟨y37, hy38, hS⟩ := bind_some' hS
 refine sr_call (vs := [.pointer (some ⟨g6, 0, none⟩), str ([97, 110, 110]), str ([98, 111, 98]), v32, .agg #[.int .i64 5, .int .i64 20]]) rfl Try.call22 rfl (delegate_Delegations_Allow_ok (w_4 := (api_Window.mk 5 20)) _ (hg.fr hz hb) (ρA := ρ31) hb.bd (hz.fr hg hb) (o := 100) (by decide) h33 (⟨_, hB30, h29⟩ : delegate_Delegations.O (fun p => 100 + p) ρ31 w34 g6 y23.2) hy38) (by decide) ?_
 rintro _ w39 ⟨ρ45, rfl, ⟨v42, hB44, h43⟩, htr41⟩
 replace hB15 := hB15.mv (htr41.mv (i := 4) rfl)
 replace hb := hb.trans htr41
 replace hB44 : Blk ρ45 100 w39 g6 (.cells #[v42] 54 (0, 0)) := hB44
 replace h43 : MapT delegate_way.ek delegate_delegation.c true ρ45 101 w39 v42 y37.2.ways := h43
 refine sr_ev (v := .int .i64 y37.1) (ev_assign rfl) (by decide) ?_
 refine sr_end (l' := [(1, .pointer (some ⟨g6, 0, none⟩)), (2, .pointer (some ⟨g11, 0, none⟩)), (3, .int .i64 y23.1), (4, .int .i64 y37.1)]) (.cons rfl (.cons rfl (.cons rfl (.cons rfl (.nil _))))) ?_
 refine ke_seq ?_
 refine ke_region ?_
 refine sr_ev (v := .pointer (some ⟨g6, 0, none⟩)) (ev_move rfl) (by decide) ?_
 refine sr_litT (c := strC) (ρ := ρ45) (E := 9) (xs := [[109, 97, 105, 108, 46, 114, 101, 97, 100]]) (vs := #[(0, str ([109, 97, 105, 108, 46, 114, 101, 97, 100]))]) (cs := #[str ([109, 97, 105, 108, 46, 114, 101, 97, 100])]) (css := [[str ([109, 97, 105, 108, 46, 114, 101, 97, 100])]]) rfl (fun _ => by kernel_rfl) rfl ⟨rfl, trivial⟩ rfl (by decide) hb.bd (by decide) ?_
 intro v46 w48 h47 hbw50
 have htr49 := Tr.of_below hbw50 hb.bd
 replace hB15 := hB15.mv (htr49.mv (i := 4) rfl)
 replace hB44 := hB44.mv (htr49.mv (i := 100) rfl)
 replace h43 := h43.mv (htr49.mv (i := 101) rfl)
 replace hb := hb.trans htr49
 refine sr_ev (v := .agg #[.int .i64 5, .int .i64 20]) (ev_loads (cs := [.int .i64 5, .int .i64 20]) Try.isAgg33 Try.sizeOf33 rfl (hB15.cells (vs := [.int .i64 5, .int .i64 20]) rfl)) (by decide) ?_
 obtain ⟨y51, hy52, hS⟩ := bind_some' hS
 refine sr_call (vs := [.pointer (some ⟨g6, 0, none⟩), str ([98, 111, 98]), str ([99, 121, 100]), v46, .agg #[.int .i64 5, .int .i64 20]]) rfl Try.call22 rfl (delegate_Delegations_Allow_ok (w_4 := (api_Window.mk 5 20)) _ (hg.fr hz hb) (ρA := ρ45) hb.bd (hz.fr hg hb) (o := 100) (by decide) h47 (⟨_, hB44, h43⟩ : delegate_Delegations.O (fun p => 100 + p) ρ45 w48 g6 y37.2) hy52) (by decide) ?_
 rintro _ w53 ⟨ρ59, rfl, ⟨v56, hB58, h57⟩, htr55⟩
 replace hb := hb.trans htr55
 replace hB58 : Blk ρ59 100 w53 g6 (.cells #[v56] 54 (0, 0)) := hB58
 replace h57 : MapT delegate_way.ek delegate_delegation.c true ρ59 101 w53 v56 y51.2.ways := h57
 refine sr_ev (v := .int .i64 y51.1) (ev_assign rfl) (by decide) ?_
 refine sr_end (l' := [(1, .pointer (some ⟨g6, 0, none⟩)), (3, .int .i64 y23.1), (4, .int .i64 y37.1), (5, .int .i64 y51.1)]) (.cons rfl (.cons rfl (.cons rfl (.cons rfl (.nil _))))) ?_
 refine ke_seq ?_
 refine ke_region ?_
 refine sr_ev (v := .pointer (some ⟨g6, 0, none⟩)) (ev_move rfl) (by decide) ?_
 refine sr_litT (c := strC) (ρ := ρ59) (E := 9) (xs := [[109, 97, 105, 108, 46, 114, 101, 97, 100]]) (vs := #[(0, str ([109, 97, 105, 108, 46, 114, 101, 97, 100]))]) (cs := #[str ([109, 97, 105, 108, 46, 114, 101, 97, 100])]) (css := [[str ([109, 97, 105, 108, 46, 114, 101, 97, 100])]]) rfl (fun _ => by kernel_rfl) rfl ⟨rfl, trivial⟩ rfl (by decide) hb.bd (by decide) ?_
 intro v60 w62 h61 hbw64
 have htr63 := Tr.of_below hbw64 hb.bd
 replace hB58 := hB58.mv (htr63.mv (i := 100) rfl)
 replace h57 := h57.mv (htr63.mv (i := 101) rfl)
 replace hb := hb.trans htr63
 refine sr_ev (v := .agg #[.int .i64 5, .int .i64 5]) (ev_build (vs := #[(0, .int .i64 5), (1, .int .i64 5)]) rfl (fun _ => by kernel_rfl)) (by decide) ?_
 obtain ⟨y65, hy66, hS⟩ := bind_some' hS
 refine sr_call (vs := [.pointer (some ⟨g6, 0, none⟩), str ([98, 111, 98]), str ([99, 121, 100]), v60, .agg #[.int .i64 5, .int .i64 5]]) rfl Try.call22 rfl (delegate_Delegations_Allow_ok (w_4 := (api_Window.mk 5 5)) _ (hg.fr hz hb) (ρA := ρ59) hb.bd (hz.fr hg hb) (o := 100) (by decide) h61 (⟨_, hB58, h57⟩ : delegate_Delegations.O (fun p => 100 + p) ρ59 w62 g6 y51.2) hy66) (by decide) ?_
 rintro _ w67 ⟨ρ73, rfl, ⟨v70, hB72, h71⟩, htr69⟩
 replace hb := hb.trans htr69
 replace hB72 : Blk ρ73 100 w67 g6 (.cells #[v70] 54 (0, 0)) := hB72
 replace h71 : MapT delegate_way.ek delegate_delegation.c true ρ73 101 w67 v70 y65.2.ways := h71
 refine sr_ev (v := .int .i64 y65.1) (ev_assign rfl) (by decide) ?_
 refine sr_end (l' := [(1, .pointer (some ⟨g6, 0, none⟩)), (3, .int .i64 y23.1), (4, .int .i64 y37.1), (5, .int .i64 y51.1), (6, .int .i64 y65.1)]) (.cons rfl (.cons rfl (.cons rfl (.cons rfl (.cons rfl (.nil _)))))) ?_
 refine ke_seq ?_
 refine ke_region ?_
 refine sr_litT (c := strC) (ρ := ρ73) (E := 9) (xs := [[97, 110, 110], [98, 111, 98], [99, 121, 100]]) (vs := #[(0, str ([97, 110, 110])), (1, str ([98, 111, 98])), (2, str ([99, 121, 100]))]) (cs := #[str ([97, 110, 110]), str ([98, 111, 98]), str ([99, 121, 100])]) (css := [[str ([97, 110, 110])], [str ([98, 111, 98])], [str ([99, 121, 100])]]) rfl (fun _ => by kernel_rfl) rfl ⟨rfl, ⟨rfl, ⟨rfl, trivial⟩⟩⟩ rfl (by decide) hb.bd (by decide) ?_
 intro v74 w76 h75 hbw78
 have htr77 := Tr.of_below hbw78 hb.bd
 replace hB72 := hB72.mv (htr77.mv (i := 100) rfl)
 replace h71 := h71.mv (htr77.mv (i := 101) rfl)
 replace hb := hb.trans htr77
 refine sr_ev (v := v74) (ev_assign rfl) (by decide) ?_
 refine sr_end (l' := [(1, .pointer (some ⟨g6, 0, none⟩)), (3, .int .i64 y23.1), (4, .int .i64 y37.1), (5, .int .i64 y51.1), (6, .int .i64 y65.1), (7, v74)]) (.cons rfl (.cons rfl (.cons rfl (.cons rfl (.cons rfl (.cons rfl (.nil _))))))) ?_
 refine ke_seq ?_
 refine ke_seq ?_
 refine ke_region ?_
 refine sr_ev (v := .int .i64 y23.1) (ev_move rfl) (by decide) ?_
 refine sr_ev (v := .bool (y23.1 != 28)) (ev_ne rfl rfl) (by decide) ?_
 refine sr_ev (v := .bool (y23.1 != 28)) (ev_move rfl) (by decide) ?_
 refine sr_join (m := 3) (C := fun (x : Bool) w1 => x = ((y23.1 != 28) || (y37.1 != 0)) ∧ w76 = w1) (l' := fun x => [(1, .pointer (some ⟨g6, 0, none⟩)), (5, .int .i64 y51.1), (6, .int .i64 y65.1), (7, v74), (37, .bool x)]) ?_ ?_
 ·rintro _ _ ⟨rfl, rfl⟩
  refine sr_ev (v := .bool ((y23.1 != 28) || (y37.1 != 0))) (ev_move rfl) (by decide) ?_
  refine sr_join (m := 3) (C := fun (x : Bool) w1 => x = (((y23.1 != 28) || (y37.1 != 0)) || (y51.1 != 0)) ∧ w76 = w1) (l' := fun x => [(1, .pointer (some ⟨g6, 0, none⟩)), (6, .int .i64 y65.1), (7, v74), (41, .bool x)]) ?_ ?_
  ·rintro _ _ ⟨rfl, rfl⟩
   refine sr_ev (v := .bool (((y23.1 != 28) || (y37.1 != 0)) || (y51.1 != 0))) (ev_move rfl) (by decide) ?_
   refine sr_join (m := 3) (C := fun (x : Bool) w1 => x = ((((y23.1 != 28) || (y37.1 != 0)) || (y51.1 != 0)) || (y65.1 != 2)) ∧ w76 = w1) (l' := fun x => [(1, .pointer (some ⟨g6, 0, none⟩)), (7, v74), (45, .bool x)]) ?_ ?_
   ·rintro _ _ ⟨rfl, rfl⟩
    refine sr_ev (v := .bool ((((y23.1 != 28) || (y37.1 != 0)) || (y51.1 != 0)) || (y65.1 != 2))) (ev_move rfl) (by decide) ?_
    obtain ⟨z105, hz107, hS⟩ := bind_some' hS
    refine sr_join (m := 5) (C := fun (z : Bool) w1 => z105 = z ∧ ∃ ρ1, Tr ρ73 w76 (fun _ => false) ρ1 w1) (l' := fun z => [(1, .pointer (some ⟨g6, 0, none⟩)), (7, v74), (51, .bool z)]) ?_ ?_
    ·rintro _ w108 ⟨rfl, ρ109, hj106⟩
     replace h75 := h75.mv hj106.rd
     replace hB72 := hB72.mv (hj106.mv (i := 100) rfl)
     replace h71 := h71.mv (hj106.mv (i := 101) rfl)
     replace hb := hb.trans hj106
     refine sr_ev (v := .bool z105) (ev_move rfl) (by decide) ?_
     obtain ⟨z123, hz125, hS⟩ := bind_some' hS
     refine sr_join (m := 5) (C := fun (z : Bool) w1 => z123 = z ∧ ∃ ρ1, Tr ρ109 w108 (fun _ => false) ρ1 w1) (l' := fun z => [(1, .pointer (some ⟨g6, 0, none⟩)), (7, v74), (57, .bool z)]) ?_ ?_
     ·rintro _ w126 ⟨rfl, ρ127, hj124⟩
      replace h75 := h75.mv hj124.rd
      replace hB72 := hB72.mv (hj124.mv (i := 100) rfl)
      replace h71 := h71.mv (hj124.mv (i := 101) rfl)
      replace hb := hb.trans hj124
      refine sr_ev (v := .bool z123) (ev_move rfl) (by decide) ?_
      obtain ⟨z141, hz143, hS⟩ := bind_some' hS
      refine sr_join (m := 6) (C := fun (z : Bool) w1 => z141 = z ∧ ∃ ρ1, Tr ρ127 w126 (fun _ => false) ρ1 w1) (l' := fun z => [(1, .pointer (some ⟨g6, 0, none⟩)), (7, v74), (64, .bool z)]) ?_ ?_
      ·rintro _ w144 ⟨rfl, ρ145, hj142⟩
       replace h75 := h75.mv hj142.rd
       replace hB72 := hB72.mv (hj142.mv (i := 100) rfl)
       replace h71 := h71.mv (hj142.mv (i := 101) rfl)
       replace hb := hb.trans hj142
       refine sr_ev (v := .bool z141) (ev_move rfl) (by decide) ?_
       obtain ⟨z159, hz161, hS⟩ := bind_some' hS
       refine sr_join (m := 6) (C := fun (z : Bool) w1 => z159 = z ∧ ∃ ρ1, Tr ρ145 w144 (fun _ => false) ρ1 w1) (l' := fun z => [(1, .pointer (some ⟨g6, 0, none⟩)), (7, v74), (71, .bool z)]) ?_ ?_
       ·rintro _ w162 ⟨rfl, ρ163, hj160⟩
        replace h75 := h75.mv hj160.rd
        replace hB72 := hB72.mv (hj160.mv (i := 100) rfl)
        replace h71 := h71.mv (hj160.mv (i := 101) rfl)
        replace hb := hb.trans hj160
        refine sr_ev (v := .bool z159) (ev_move rfl) (by decide) ?_
        obtain ⟨z177, hz179, hS⟩ := bind_some' hS
        refine sr_join (m := 6) (C := fun (z : Bool) w1 => z177 = z ∧ ∃ ρ1, Tr ρ163 w162 (fun _ => false) ρ1 w1) (l' := fun z => [(1, .pointer (some ⟨g6, 0, none⟩)), (78, .bool z)]) ?_ ?_
        ·rintro _ w180 ⟨rfl, ρ181, hj178⟩
         replace hB72 := hB72.mv (hj178.mv (i := 100) rfl)
         replace h71 := h71.mv (hj178.mv (i := 101) rfl)
         replace hb := hb.trans hj178
         refine sr_end (l' := [(1, .pointer (some ⟨g6, 0, none⟩)), (78, .bool z177)]) (.cons rfl (.cons rfl (.nil _))) ?_
         refine ke_cond (t := z177) rfl (fun hc192 => ?_) (fun hc192 => ?_)
         ·replace hS := ite_true' hS hc192
          refine ke_seq ?_
          refine ke_region ?_
          refine sr_ev (v := .bool false) (ev_assign rfl) (by decide) ?_
          refine sr_end (l' := [(0, .bool false)]) (.cons rfl (.nil _)) ?_
          cases hS
          exact ke_ret1 Try.func10 rfl rfl ⟨_, rfl, rfl, (hb.below (flat1_le _))⟩
         ·replace hS := ite_false' hS hc192
          refine ke_skip ?_
          refine ke_seq ?_
          refine ke_region ?_
          refine sr_ev (v := .pointer (some ⟨g6, 0, none⟩)) (ev_move rfl) (by decide) ?_
          obtain ⟨y193, hy194, hS⟩ := bind_some' hS
          refine sr_call (vs := [.pointer (some ⟨g6, 0, none⟩), str ([99, 121, 100]), str ([109, 97, 105, 108, 46, 114, 101, 97, 100]), .int .i64 6]) rfl Try.call20 rfl (delegate_Delegations_Reach_ok _ (hg.fr hz hb) (ρA := ρ181) hb.bd (hz.fr hg hb) (τ0 := (fun p => 100 + p)) (fun p => Nat.le_add_right_of_le (by decide)) (⟨_, hB72, h71⟩ : delegate_Delegations.O (fun p => 100 + p) ρ181 w180 g6 y65.2) hy194) (by decide) ?_
          rintro v198 w195 ⟨_, rfl, h199, hbw196⟩
          have htr197 := Tr.of_below hbw196 hb.bd
          replace hB72 := hB72.mv (htr197.mv (i := 100) rfl)
          replace h71 := h71.mv (htr197.mv (i := 101) rfl)
          replace hb := hb.trans htr197
          refine sr_ev (v := v198) (ev_assign rfl) (by decide) ?_
          refine sr_end (l' := [(1, .pointer (some ⟨g6, 0, none⟩)), (8, v198)]) (.cons rfl (.cons rfl (.nil _))) ?_
          refine ke_seq ?_
          refine ke_region ?_
          refine sr_ev (v := .pointer (some ⟨g6, 0, none⟩)) (ev_move rfl) (by decide) ?_
          obtain ⟨y200, hy201, hS⟩ := bind_some' hS
          refine sr_call (vs := [.pointer (some ⟨g6, 0, none⟩), str ([97, 110, 110]), str ([98, 111, 98]), .int .i64 6]) rfl Try.call16 rfl (delegate_Delegations_Scopes_ok _ (hg.fr hz hb) (ρA := ρ181) hb.bd (hz.fr hg hb) (τ0 := (fun p => 100 + p)) (fun p => Nat.le_add_right_of_le (by decide)) (⟨_, hB72, h71⟩ : delegate_Delegations.O (fun p => 100 + p) ρ181 w195 g6 y65.2) hy201) (by decide) ?_
          rintro v205 w202 ⟨_, rfl, h206, hbw203⟩
          have htr204 := Tr.of_below hbw203 hb.bd
          replace h199 := h199.mv htr204.rd
          replace hB72 := hB72.mv (htr204.mv (i := 100) rfl)
          replace h71 := h71.mv (htr204.mv (i := 101) rfl)
          replace hb := hb.trans htr204
          refine sr_ev (v := v205) (ev_assign rfl) (by decide) ?_
          refine sr_end (l' := [(1, .pointer (some ⟨g6, 0, none⟩)), (8, v198), (9, v205)]) (.cons rfl (.cons rfl (.cons rfl (.nil _)))) ?_
          refine ke_seq ?_
          refine ke_region ?_
          refine sr_ev (v := .pointer none) (ev_assign rfl) (by decide) ?_
          refine sr_end (l' := [(1, .pointer (some ⟨g6, 0, none⟩)), (8, v198), (9, v205), (10, .pointer none)]) (.cons rfl (.cons rfl (.cons rfl (.cons rfl (.nil _))))) ?_
          refine ke_seq ?_
          refine ke_region ?_
          refine sr_ev (v := v198) (ev_move rfl) (by decide) ?_
          refine sr_litT (c := strC) (ρ := ρ181) (E := 9) (xs := [[97, 110, 110], [98, 111, 98]]) (vs := #[(0, str ([97, 110, 110])), (1, str ([98, 111, 98]))]) (cs := #[str ([97, 110, 110]), str ([98, 111, 98])]) (css := [[str ([97, 110, 110])], [str ([98, 111, 98])]]) rfl (fun _ => by kernel_rfl) rfl ⟨rfl, ⟨rfl, trivial⟩⟩ rfl (by decide) hb.bd (by decide) ?_
          intro v207 w209 h208 hbw211
          have htr210 := Tr.of_below hbw211 hb.bd
          replace h206 := h206.mv htr210.rd
          replace h199 := h199.mv htr210.rd
          replace hB72 := hB72.mv (htr210.mv (i := 100) rfl)
          replace h71 := h71.mv (htr210.mv (i := 101) rfl)
          replace hb := hb.trans htr210
          obtain ⟨y212, hy213, hS⟩ := bind_some' hS
          refine sr_call (vs := [v198, v207]) rfl Try.call15 rfl (ref03_Same_ok _ (hg.fr hz hb) h199.asSl h208.asSl hy213) (by decide) ?_
          rintro _ w214 ⟨rfl, hbw215⟩
          have htr216 := Tr.of_below hbw215 hb.bd
          replace h206 := h206.mv htr216.rd
          replace hB72 := hB72.mv (htr216.mv (i := 100) rfl)
          replace h71 := h71.mv (htr216.mv (i := 101) rfl)
          replace hb := hb.trans htr216
          refine sr_ev (v := .bool y212) (ev_move rfl) (by decide) ?_
          obtain ⟨z219, hz221, hS⟩ := bind_some' hS
          refine sr_join (m := 4) (C := fun (z : Bool) w1 => z219 = z ∧ ∃ ρ1, Tr ρ181 w214 (fun _ => false) ρ1 w1) (l' := fun z => [(1, .pointer (some ⟨g6, 0, none⟩)), (10, .pointer none), (90, .bool z)]) ?_ ?_
          ·rintro _ w222 ⟨rfl, ρ223, hj220⟩
           replace hB72 := hB72.mv (hj220.mv (i := 100) rfl)
           replace h71 := h71.mv (hj220.mv (i := 101) rfl)
           replace hb := hb.trans hj220
           refine sr_ev (v := .bool z219) (ev_move rfl) (by decide) ?_
           obtain ⟨z237, hz239, hS⟩ := bind_some' hS
           refine sr_join (m := 3) (C := fun (z : Bool × delegate_Delegations) w1 => z237 = z ∧ ∃ ρ1, delegate_Delegations.O (fun p => 100 + p) ρ1 w1 g6 z.2 ∧ Tr ρ223 w222 (fun t => ([100, 101] : List Nat).contains t) ρ1 w1) (l' := fun z => [(1, .pointer (some ⟨g6, 0, none⟩)), (10, .pointer none), (94, .bool z.1)]) ?_ ?_
           ·rintro _ w240 ⟨rfl, ρ241, ⟨v252, hB254, h253⟩, hj238⟩
            replace hb := hb.trans hj238
            replace hB254 : Blk ρ241 100 w240 g6 (.cells #[v252] 54 (0, 0)) := hB254
            replace h253 : MapT delegate_way.ek delegate_delegation.c true ρ241 101 w240 v252 z237.2.ways := h253
            refine sr_ev (v := .bool z237.1) (ev_move rfl) (by decide) ?_
            obtain ⟨z257, hz259, hS⟩ := bind_some' hS
            refine sr_join (m := 4) (C := fun (z : Bool) w1 => z257 = z ∧ ∃ ρ1, Tr ρ241 w240 (fun _ => false) ρ1 w1) (l' := fun z => [(1, .pointer (some ⟨g6, 0, none⟩)), (10, .pointer none), (99, .bool z)]) ?_ ?_
            ·rintro _ w260 ⟨rfl, ρ261, hj258⟩
             replace hB254 := hB254.mv (hj258.mv (i := 100) rfl)
             replace h253 := h253.mv (hj258.mv (i := 101) rfl)
             replace hb := hb.trans hj258
             refine sr_ev (v := .bool z257) (ev_move rfl) (by decide) ?_
             obtain ⟨z270, hz272, hS⟩ := bind_some' hS
             refine sr_join (m := 4) (C := fun (z : Bool × delegate_Delegations) w1 => z270 = z ∧ ∃ ρ1, delegate_Delegations.O (fun p => 100 + p) ρ1 w1 g6 z.2 ∧ Tr ρ261 w260 (fun t => ([100, 101] : List Nat).contains t) ρ1 w1) (l' := fun z => [(10, .pointer none), (104, .bool z.1)]) ?_ ?_
             ·rintro _ w273 ⟨rfl, ρ274, ⟨v285, hB287, h286⟩, hj271⟩
              replace hb := hb.trans hj271
              replace hB287 : Blk ρ274 100 w273 g6 (.cells #[v285] 54 (0, 0)) := hB287
              replace h286 : MapT delegate_way.ek delegate_delegation.c true ρ274 101 w273 v285 z270.2.ways := h286
              refine sr_ev (v := .bool z270.1) (ev_move rfl) (by decide) ?_
              obtain ⟨z290, hz292, hS⟩ := bind_some' hS
              refine sr_join (m := 4) (C := fun (z : Bool) w1 => z290 = z ∧ ∃ ρ1, Tr ρ274 w273 (fun _ => false) ρ1 w1) (l' := fun z => [(10, .pointer none), (109, .bool z)]) ?_ ?_
              ·rintro _ w293 ⟨rfl, ρ294, hj291⟩
               replace hb := hb.trans hj291
               refine sr_ev (v := .bool z290) (ev_move rfl) (by decide) ?_
               obtain ⟨z303, hz305, hS⟩ := bind_some' hS
               refine sr_join (m := 4) (C := fun (z : Bool) w1 => z303 = z ∧ ∃ ρ1, Tr ρ294 w293 (fun _ => false) ρ1 w1) (l' := fun z => [(114, .bool z)]) ?_ ?_
               ·rintro _ w306 ⟨rfl, ρ307, hj304⟩
                replace hb := hb.trans hj304
                refine sr_ev (v := .bool z303) (ev_assign rfl) (by decide) ?_
                refine sr_end (l' := [(0, .bool z303)]) (.cons rfl (.nil _)) ?_
                cases hS
                exact ke_ret1 Try.func10 rfl rfl ⟨_, rfl, rfl, (hb.below (flat1_le _))⟩
               ·intro K302
                clear hS
                have hj304 : Tr ρ294 w293 (fun _ => false) ρ294 w293 := (Tr.refl hb.bd).weak (fun _ _ => rfl) rfl rfl
                rcases Bool.eq_false_or_eq_true z290 with hg301 | hg301
                ·have hS := ite_true' hz305 hg301
                 refine sr_evg (b := true) (e := 110) rfl rfl hg301 (v := .pointer none) (ev_move rfl) (by decide) ?_
                 obtain ⟨y309, hy310, hS⟩ := bind_some' hS
                 refine sr_callg (b := true) (e := 110) rfl rfl hg301 (vs := [.pointer none, str ([97, 110, 110])]) rfl Try.call24 rfl (delegate_Delegations_Drop__nil_ok _ (hg.fr hz hb) (ρA := ρ294) hb.bd (hz.fr hg hb) hy310) (by decide) ?_
                 rintro _ w311 ⟨rfl, hbw312⟩
                 have htr313 := Tr.of_below hbw312 hb.bd
                 replace hb := hb.trans htr313
                 replace hj304 := (hj304.trans htr313).weak (J' := (fun _ => false)) (by intro t h; simp [rng] at h ⊢ <;> omega) rfl rfl
                 refine sr_evg (b := true) (e := 110) rfl rfl hg301 (v := .bool (y309 == 0)) (ev_eq rfl rfl) (by decide) ?_
                 refine sr_ev (v := .bool (y309 == 0)) (ev_pick_t rfl hg301 rfl) (by decide) ?_
                 exact sr_weaken (l' := [(114, .bool (y309 == 0))]) (.cons rfl (.nil _)) (K302 (y309 == 0) _ ⟨(Option.some.inj hS).symm, _, hj304⟩)
                ·have hS := ite_false' hz305 hg301
                 refine sr_pass (e := 110) rfl rfl (by rw [hg301]; rfl) (by decide) ?_
                 refine sr_pass (e := 110) rfl rfl (by rw [hg301]; rfl) (by decide) ?_
                 refine sr_pass (e := 110) rfl rfl (by rw [hg301]; rfl) (by decide) ?_
                 refine sr_ev (v := .bool false) (ev_pick_f rfl hg301 rfl) (by decide) ?_
                 exact sr_weaken (l' := [(114, .bool false)]) (.cons rfl (.nil _)) (K302 false _ ⟨(Option.some.inj hS).symm, _, hj304⟩)
              ·intro K289
               clear hS
               have hj291 : Tr ρ274 w273 (fun _ => false) ρ274 w273 := (Tr.refl hb.bd).weak (fun _ _ => rfl) rfl rfl
               rcases Bool.eq_false_or_eq_true z270.1 with hg288 | hg288
               ·have hS := ite_true' hz292 hg288
                refine sr_evg (b := true) (e := 105) rfl rfl hg288 (v := .pointer none) (ev_move rfl) (by decide) ?_
                obtain ⟨y296, hy297, hS⟩ := bind_some' hS
                refine sr_callg (b := true) (e := 105) rfl rfl hg288 (vs := [.pointer none, str ([97, 110, 110]), str ([98, 111, 98]), (.slice none 0 0), .int .i64 6]) rfl Try.call26 rfl (delegate_Delegations_May__nil_ok _ (hg.fr hz hb) (ρA := ρ274) hb.bd (hz.fr hg hb) (SlR.nil (A := Wb ρ274)) hy297) (by decide) ?_
                rintro _ w298 ⟨rfl, hbw299⟩
                have htr300 := Tr.of_below hbw299 hb.bd
                replace hb := hb.trans htr300
                replace hj291 := (hj291.trans htr300).weak (J' := (fun _ => false)) (by intro t h; simp [rng] at h ⊢ <;> omega) rfl rfl
                refine sr_evg (b := true) (e := 105) rfl rfl hg288 (v := .bool (y296 == 1)) (ev_eq rfl rfl) (by decide) ?_
                refine sr_ev (v := .bool (y296 == 1)) (ev_pick_t rfl hg288 rfl) (by decide) ?_
                exact sr_weaken (l' := [(10, .pointer none), (109, .bool (y296 == 1))]) (.cons rfl (.cons rfl (.nil _))) (K289 (y296 == 1) _ ⟨(Option.some.inj hS).symm, _, hj291⟩)
               ·have hS := ite_false' hz292 hg288
                refine sr_pass (e := 105) rfl rfl (by rw [hg288]; rfl) (by decide) ?_
                refine sr_pass (e := 105) rfl rfl (by rw [hg288]; rfl) (by decide) ?_
                refine sr_pass (e := 105) rfl rfl (by rw [hg288]; rfl) (by decide) ?_
                refine sr_ev (v := .bool false) (ev_pick_f rfl hg288 rfl) (by decide) ?_
                exact sr_weaken (l' := [(10, .pointer none), (109, .bool false)]) (.cons rfl (.cons rfl (.nil _))) (K289 false _ ⟨(Option.some.inj hS).symm, _, hj291⟩)
             ·intro K269
              clear hS
              have hj271 : Tr ρ261 w260 (fun t => ([100, 101] : List Nat).contains t) ρ261 w260 := (Tr.refl hb.bd).weak (fun _ _ => rfl) rfl rfl
              rcases Bool.eq_false_or_eq_true z257 with hg268 | hg268
              ·have hS := ite_true' hz272 hg268
               refine sr_evg (b := true) (e := 100) rfl rfl hg268 (v := .pointer (some ⟨g6, 0, none⟩)) (ev_move rfl) (by decide) ?_
               obtain ⟨y276, hy277, hS⟩ := bind_some' hS
               refine sr_callg (b := true) (e := 100) rfl rfl hg268 (vs := [.pointer (some ⟨g6, 0, none⟩), str ([99, 121, 100])]) rfl Try.call24 rfl (delegate_Delegations_Drop_ok _ (hg.fr hz hb) (ρA := ρ261) hb.bd (hz.fr hg hb) (o := 100) (by decide) (⟨_, hB254, h253⟩ : delegate_Delegations.O (fun p => 100 + p) ρ261 w260 g6 z237.2) hy277) (by decide) ?_
               rintro _ w278 ⟨ρ284, rfl, ⟨v281, hB283, h282⟩, htr280⟩
               replace hb := hb.trans htr280
               replace hj271 := (hj271.trans htr280).weak (J' := (fun t => ([100, 101] : List Nat).contains t)) (by intro t h; simp [rng] at h ⊢ <;> omega) rfl rfl
               replace hB283 : Blk ρ284 100 w278 g6 (.cells #[v281] 54 (0, 0)) := hB283
               replace h282 : MapT delegate_way.ek delegate_delegation.c true ρ284 101 w278 v281 y276.2.ways := h282
               refine sr_evg (b := true) (e := 100) rfl rfl hg268 (v := .bool (y276.1 == 1)) (ev_eq rfl rfl) (by decide) ?_
               refine sr_ev (v := .bool (y276.1 == 1)) (ev_pick_t rfl hg268 rfl) (by decide) ?_
               exact sr_weaken (l' := [(10, .pointer none), (104, .bool (y276.1 == 1))]) (.cons rfl (.cons rfl (.nil _))) (K269 (y276.1 == 1, y276.2) _ ⟨(Option.some.inj hS).symm, _, ⟨_, hB283, h282⟩, hj271⟩)
              ·have hS := ite_false' hz272 hg268
               refine sr_pass (e := 100) rfl rfl (by rw [hg268]; rfl) (by decide) ?_
               refine sr_pass (e := 100) rfl rfl (by rw [hg268]; rfl) (by decide) ?_
               refine sr_pass (e := 100) rfl rfl (by rw [hg268]; rfl) (by decide) ?_
               refine sr_ev (v := .bool false) (ev_pick_f rfl hg268 rfl) (by decide) ?_
               exact sr_weaken (l' := [(10, .pointer none), (104, .bool false)]) (.cons rfl (.cons rfl (.nil _))) (K269 (false, z237.2) _ ⟨(Option.some.inj hS).symm, _, ⟨_, hB254, h253⟩, hj271⟩)
            ·intro K256
             clear hS
             have hj258 : Tr ρ241 w240 (fun _ => false) ρ241 w240 := (Tr.refl hb.bd).weak (fun _ _ => rfl) rfl rfl
             rcases Bool.eq_false_or_eq_true z237.1 with hg255 | hg255
             ·have hS := ite_true' hz259 hg255
              refine sr_evg (b := true) (e := 95) rfl rfl hg255 (v := .pointer (some ⟨g6, 0, none⟩)) (ev_move rfl) (by decide) ?_
              obtain ⟨y263, hy264, hS⟩ := bind_some' hS
              refine sr_callg (b := true) (e := 95) rfl rfl hg255 (vs := [.pointer (some ⟨g6, 0, none⟩), str ([97, 110, 110]), str ([98, 111, 98]), (.slice none 0 0), .int .i64 6]) rfl Try.call26 rfl (delegate_Delegations_May_ok _ (hg.fr hz hb) (ρA := ρ241) hb.bd (hz.fr hg hb) (τ0 := (fun p => 100 + p)) (fun p => Nat.le_add_right_of_le (by decide)) (SlR.nil (A := Wb ρ241)) (⟨_, hB254, h253⟩ : delegate_Delegations.O (fun p => 100 + p) ρ241 w240 g6 z237.2) hy264) (by decide) ?_
              rintro _ w265 ⟨rfl, hbw266⟩
              have htr267 := Tr.of_below hbw266 hb.bd
              replace hB254 := hB254.mv (htr267.mv (i := 100) rfl)
              replace h253 := h253.mv (htr267.mv (i := 101) rfl)
              replace hb := hb.trans htr267
              replace hj258 := (hj258.trans htr267).weak (J' := (fun _ => false)) (by intro t h; simp [rng] at h ⊢ <;> omega) rfl rfl
              refine sr_evg (b := true) (e := 95) rfl rfl hg255 (v := .bool (y263 == 11)) (ev_eq rfl rfl) (by decide) ?_
              refine sr_ev (v := .bool (y263 == 11)) (ev_pick_t rfl hg255 rfl) (by decide) ?_
              exact sr_weaken (l' := [(1, .pointer (some ⟨g6, 0, none⟩)), (10, .pointer none), (99, .bool (y263 == 11))]) (.cons rfl (.cons rfl (.cons rfl (.nil _)))) (K256 (y263 == 11) _ ⟨(Option.some.inj hS).symm, _, hj258⟩)
             ·have hS := ite_false' hz259 hg255
              refine sr_pass (e := 95) rfl rfl (by rw [hg255]; rfl) (by decide) ?_
              refine sr_pass (e := 95) rfl rfl (by rw [hg255]; rfl) (by decide) ?_
              refine sr_pass (e := 95) rfl rfl (by rw [hg255]; rfl) (by decide) ?_
              refine sr_ev (v := .bool false) (ev_pick_f rfl hg255 rfl) (by decide) ?_
              exact sr_weaken (l' := [(1, .pointer (some ⟨g6, 0, none⟩)), (10, .pointer none), (99, .bool false)]) (.cons rfl (.cons rfl (.cons rfl (.nil _)))) (K256 false _ ⟨(Option.some.inj hS).symm, _, hj258⟩)
           ·intro K236
            clear hS
            have hj238 : Tr ρ223 w222 (fun t => ([100, 101] : List Nat).contains t) ρ223 w222 := (Tr.refl hb.bd).weak (fun _ _ => rfl) rfl rfl
            rcases Bool.eq_false_or_eq_true z219 with hg235 | hg235
            ·have hS := ite_true' hz239 hg235
             refine sr_evg (b := true) (e := 91) rfl rfl hg235 (v := .pointer (some ⟨g6, 0, none⟩)) (ev_move rfl) (by decide) ?_
             obtain ⟨y243, hy244, hS⟩ := bind_some' hS
             refine sr_callg (b := true) (e := 91) rfl rfl hg235 (vs := [.pointer (some ⟨g6, 0, none⟩), str ([97, 110, 110]), str ([98, 111, 98])]) rfl Try.call28 rfl (delegate_Delegations_Revoke_ok _ (hg.fr hz hb) (ρA := ρ223) hb.bd (hz.fr hg hb) (o := 100) (by decide) (⟨_, hB72, h71⟩ : delegate_Delegations.O (fun p => 100 + p) ρ223 w222 g6 y65.2) hy244) (by decide) ?_
             rintro _ w245 ⟨ρ251, rfl, ⟨v248, hB250, h249⟩, htr247⟩
             replace hb := hb.trans htr247
             replace hj238 := (hj238.trans htr247).weak (J' := (fun t => ([100, 101] : List Nat).contains t)) (by intro t h; simp [rng] at h ⊢ <;> omega) rfl rfl
             replace hB250 : Blk ρ251 100 w245 g6 (.cells #[v248] 54 (0, 0)) := hB250
             replace h249 : MapT delegate_way.ek delegate_delegation.c true ρ251 101 w245 v248 y243.2.ways := h249
             refine sr_ev (v := .bool y243.1) (ev_pick_t rfl hg235 rfl) (by decide) ?_
             exact sr_weaken (l' := [(1, .pointer (some ⟨g6, 0, none⟩)), (10, .pointer none), (94, .bool y243.1)]) (.cons rfl (.cons rfl (.cons rfl (.nil _)))) (K236 (y243.1, y243.2) _ ⟨(Option.some.inj hS).symm, _, ⟨_, hB250, h249⟩, hj238⟩)
            ·have hS := ite_false' hz239 hg235
             refine sr_pass (e := 91) rfl rfl (by rw [hg235]; rfl) (by decide) ?_
             refine sr_pass (e := 91) rfl rfl (by rw [hg235]; rfl) (by decide) ?_
             refine sr_ev (v := .bool false) (ev_pick_f rfl hg235 rfl) (by decide) ?_
             exact sr_weaken (l' := [(1, .pointer (some ⟨g6, 0, none⟩)), (10, .pointer none), (94, .bool false)]) (.cons rfl (.cons rfl (.cons rfl (.nil _)))) (K236 (false, y65.2) _ ⟨(Option.some.inj hS).symm, _, ⟨_, hB72, h71⟩, hj238⟩)
          ·intro K218
           clear hS
           have hj220 : Tr ρ181 w214 (fun _ => false) ρ181 w214 := (Tr.refl hb.bd).weak (fun _ _ => rfl) rfl rfl
           rcases Bool.eq_false_or_eq_true y212 with hg217 | hg217
           ·have hS := ite_true' hz221 hg217
            refine sr_evg (b := true) (e := 86) rfl rfl hg217 (v := v205) (ev_move rfl) (by decide) ?_
            refine sr_unguard rfl rfl hg217 ?_
            refine sr_litT (c := strC) (ρ := ρ181) (E := 9) (xs := [[109, 97, 105, 108]]) (vs := #[(0, str ([109, 97, 105, 108]))]) (cs := #[str ([109, 97, 105, 108])]) (css := [[str ([109, 97, 105, 108])]]) rfl (fun _ => by kernel_rfl) rfl ⟨rfl, trivial⟩ rfl (by decide) hb.bd (by decide) ?_
            intro v225 w227 h226 hbw229
            have htr228 := Tr.of_below hbw229 hb.bd
            replace h206 := h206.mv htr228.rd
            replace hB72 := hB72.mv (htr228.mv (i := 100) rfl)
            replace h71 := h71.mv (htr228.mv (i := 101) rfl)
            replace hb := hb.trans htr228
            replace hj220 := (hj220.trans htr228).weak (J' := (fun _ => false)) (by intro t h; simp [rng] at h ⊢ <;> omega) rfl rfl
            obtain ⟨y230, hy231, hS⟩ := bind_some' hS
            refine sr_callg (b := true) (e := 86) rfl rfl hg217 (vs := [v205, v225]) rfl Try.call15 rfl (ref03_Same_ok _ (hg.fr hz hb) h206.asSl h226.asSl hy231) (by decide) ?_
            rintro _ w232 ⟨rfl, hbw233⟩
            have htr234 := Tr.of_below hbw233 hb.bd
            replace hB72 := hB72.mv (htr234.mv (i := 100) rfl)
            replace h71 := h71.mv (htr234.mv (i := 101) rfl)
            replace hb := hb.trans htr234
            replace hj220 := (hj220.trans htr234).weak (J' := (fun _ => false)) (by intro t h; simp [rng] at h ⊢ <;> omega) rfl rfl
            refine sr_ev (v := .bool y230) (ev_pick_t rfl hg217 rfl) (by decide) ?_
            exact sr_weaken (l' := [(1, .pointer (some ⟨g6, 0, none⟩)), (10, .pointer none), (90, .bool y230)]) (.cons rfl (.cons rfl (.cons rfl (.nil _)))) (K218 y230 _ ⟨(Option.some.inj hS).symm, _, hj220⟩)
           ·have hS := ite_false' hz221 hg217
            refine sr_pass (e := 86) rfl rfl (by rw [hg217]; rfl) (by decide) ?_
            refine sr_pass (e := 86) rfl rfl (by rw [hg217]; rfl) (by decide) ?_
            refine sr_pass (e := 86) rfl rfl (by rw [hg217]; rfl) (by decide) ?_
            refine sr_ev (v := .bool false) (ev_pick_f rfl hg217 rfl) (by decide) ?_
            exact sr_weaken (l' := [(1, .pointer (some ⟨g6, 0, none⟩)), (10, .pointer none), (90, .bool false)]) (.cons rfl (.cons rfl (.cons rfl (.nil _)))) (K218 false _ ⟨(Option.some.inj hS).symm, _, hj220⟩)
        ·intro K176
         clear hS
         have hj178 : Tr ρ163 w162 (fun _ => false) ρ163 w162 := (Tr.refl hb.bd).weak (fun _ _ => rfl) rfl rfl
         rcases Bool.eq_false_or_eq_true z159 with hg175 | hg175
         ·have hS := ite_true' hz179 hg175
          refine sr_pass (e := 72) rfl rfl (by rw [hg175]; rfl) (by decide) ?_
          refine sr_pass (e := 72) rfl rfl (by rw [hg175]; rfl) (by decide) ?_
          refine sr_pass (e := 72) rfl rfl (by rw [hg175]; rfl) (by decide) ?_
          refine sr_pass (e := 72) rfl rfl (by rw [hg175]; rfl) (by decide) ?_
          refine sr_pass (e := 72) rfl rfl (by rw [hg175]; rfl) (by decide) ?_
          refine sr_ev (v := .bool true) (ev_pick_t rfl hg175 rfl) (by decide) ?_
          exact sr_weaken (l' := [(1, .pointer (some ⟨g6, 0, none⟩)), (78, .bool true)]) (.cons rfl (.cons rfl (.nil _))) (K176 true _ ⟨(Option.some.inj hS).symm, _, hj178⟩)
         ·have hS := ite_false' hz179 hg175
          refine sr_evg (b := false) (e := 72) rfl rfl hg175 (v := .pointer (some ⟨g6, 0, none⟩)) (ev_move rfl) (by decide) ?_
          refine sr_evg (b := false) (e := 72) rfl rfl hg175 (v := v74) (ev_move rfl) (by decide) ?_
          obtain ⟨hk183, hS⟩ := chk_some hS
          obtain ⟨v184, h185, hq186⟩ := ((SlT.of_sl (i := 0) h75)).cutT_h (P := Try.prog) Try.underlying23 Try.info9 rfl hk183
          replace h185 := h185.sl
          refine sr_evg (b := false) (e := 72) rfl rfl hg175 (v := v184) (hq186 w162 rfl rfl) (by decide) ?_
          obtain ⟨y187, hy188, hS⟩ := bind_some' hS
          refine sr_callg (b := false) (e := 72) rfl rfl hg175 (vs := [.pointer (some ⟨g6, 0, none⟩), v184, (.slice none 0 0), .int .i64 6]) rfl Try.call18 rfl (delegate_Delegations_Chain_ok _ (hg.fr hz hb) (ρA := ρ163) hb.bd (hz.fr hg hb) (τ0 := (fun p => 100 + p)) (fun p => Nat.le_add_right_of_le (by decide)) h185 (SlR.nil (A := Wb ρ163)) (⟨_, hB72, h71⟩ : delegate_Delegations.O (fun p => 100 + p) ρ163 w162 g6 y65.2) hy188) (by decide) ?_
          rintro _ w189 ⟨rfl, hbw190⟩
          have htr191 := Tr.of_below hbw190 hb.bd
          replace hB72 := hB72.mv (htr191.mv (i := 100) rfl)
          replace h71 := h71.mv (htr191.mv (i := 101) rfl)
          replace hb := hb.trans htr191
          replace hj178 := (hj178.trans htr191).weak (J' := (fun _ => false)) (by intro t h; simp [rng] at h ⊢ <;> omega) rfl rfl
          refine sr_evg (b := false) (e := 72) rfl rfl hg175 (v := .bool (y187 != 0)) (ev_ne rfl rfl) (by decide) ?_
          refine sr_ev (v := .bool (y187 != 0)) (ev_pick_f rfl hg175 rfl) (by decide) ?_
          exact sr_weaken (l' := [(1, .pointer (some ⟨g6, 0, none⟩)), (78, .bool (y187 != 0))]) (.cons rfl (.cons rfl (.nil _))) (K176 (y187 != 0) _ ⟨(Option.some.inj hS).symm, _, hj178⟩)
       ·intro K158
        clear hS
        have hj160 : Tr ρ145 w144 (fun _ => false) ρ145 w144 := (Tr.refl hb.bd).weak (fun _ _ => rfl) rfl rfl
        rcases Bool.eq_false_or_eq_true z141 with hg157 | hg157
        ·have hS := ite_true' hz161 hg157
         refine sr_pass (e := 65) rfl rfl (by rw [hg157]; rfl) (by decide) ?_
         refine sr_pass (e := 65) rfl rfl (by rw [hg157]; rfl) (by decide) ?_
         refine sr_pass (e := 65) rfl rfl (by rw [hg157]; rfl) (by decide) ?_
         refine sr_pass (e := 65) rfl rfl (by rw [hg157]; rfl) (by decide) ?_
         refine sr_pass (e := 65) rfl rfl (by rw [hg157]; rfl) (by decide) ?_
         refine sr_ev (v := .bool true) (ev_pick_t rfl hg157 rfl) (by decide) ?_
         exact sr_weaken (l' := [(1, .pointer (some ⟨g6, 0, none⟩)), (7, v74), (71, .bool true)]) (.cons rfl (.cons rfl (.cons rfl (.nil _)))) (K158 true _ ⟨(Option.some.inj hS).symm, _, hj160⟩)
        ·have hS := ite_false' hz161 hg157
         refine sr_evg (b := false) (e := 65) rfl rfl hg157 (v := .pointer (some ⟨g6, 0, none⟩)) (ev_move rfl) (by decide) ?_
         refine sr_evg (b := false) (e := 65) rfl rfl hg157 (v := v74) (ev_move rfl) (by decide) ?_
         refine sr_unguard rfl rfl hg157 ?_
         refine sr_litT (c := strC) (ρ := ρ145) (E := 9) (xs := [[109, 97, 105, 108]]) (vs := #[(0, str ([109, 97, 105, 108]))]) (cs := #[str ([109, 97, 105, 108])]) (css := [[str ([109, 97, 105, 108])]]) rfl (fun _ => by kernel_rfl) rfl ⟨rfl, trivial⟩ rfl (by decide) hb.bd (by decide) ?_
         intro v165 w167 h166 hbw169
         have htr168 := Tr.of_below hbw169 hb.bd
         replace h75 := h75.mv htr168.rd
         replace hB72 := hB72.mv (htr168.mv (i := 100) rfl)
         replace h71 := h71.mv (htr168.mv (i := 101) rfl)
         replace hb := hb.trans htr168
         replace hj160 := (hj160.trans htr168).weak (J' := (fun _ => false)) (by intro t h; simp [rng] at h ⊢ <;> omega) rfl rfl
         obtain ⟨y170, hy171, hS⟩ := bind_some' hS
         refine sr_callg (b := false) (e := 65) rfl rfl hg157 (vs := [.pointer (some ⟨g6, 0, none⟩), v74, v165, .int .i64 6]) rfl Try.call18 rfl (delegate_Delegations_Chain_ok _ (hg.fr hz hb) (ρA := ρ145) hb.bd (hz.fr hg hb) (τ0 := (fun p => 100 + p)) (fun p => Nat.le_add_right_of_le (by decide)) h75 h166 (⟨_, hB72, h71⟩ : delegate_Delegations.O (fun p => 100 + p) ρ145 w167 g6 y65.2) hy171) (by decide) ?_
         rintro _ w172 ⟨rfl, hbw173⟩
         have htr174 := Tr.of_below hbw173 hb.bd
         replace h75 := h75.mv htr174.rd
         replace hB72 := hB72.mv (htr174.mv (i := 100) rfl)
         replace h71 := h71.mv (htr174.mv (i := 101) rfl)
         replace hb := hb.trans htr174
         replace hj160 := (hj160.trans htr174).weak (J' := (fun _ => false)) (by intro t h; simp [rng] at h ⊢ <;> omega) rfl rfl
         refine sr_evg (b := false) (e := 65) rfl rfl hg157 (v := .bool (y170 != 19)) (ev_ne rfl rfl) (by decide) ?_
         refine sr_ev (v := .bool (y170 != 19)) (ev_pick_f rfl hg157 rfl) (by decide) ?_
         exact sr_weaken (l' := [(1, .pointer (some ⟨g6, 0, none⟩)), (7, v74), (71, .bool (y170 != 19))]) (.cons rfl (.cons rfl (.cons rfl (.nil _)))) (K158 (y170 != 19) _ ⟨(Option.some.inj hS).symm, _, hj160⟩)
      ·intro K140
       clear hS
       have hj142 : Tr ρ127 w126 (fun _ => false) ρ127 w126 := (Tr.refl hb.bd).weak (fun _ _ => rfl) rfl rfl
       rcases Bool.eq_false_or_eq_true z123 with hg139 | hg139
       ·have hS := ite_true' hz143 hg139
        refine sr_pass (e := 58) rfl rfl (by rw [hg139]; rfl) (by decide) ?_
        refine sr_pass (e := 58) rfl rfl (by rw [hg139]; rfl) (by decide) ?_
        refine sr_pass (e := 58) rfl rfl (by rw [hg139]; rfl) (by decide) ?_
        refine sr_pass (e := 58) rfl rfl (by rw [hg139]; rfl) (by decide) ?_
        refine sr_pass (e := 58) rfl rfl (by rw [hg139]; rfl) (by decide) ?_
        refine sr_ev (v := .bool true) (ev_pick_t rfl hg139 rfl) (by decide) ?_
        exact sr_weaken (l' := [(1, .pointer (some ⟨g6, 0, none⟩)), (7, v74), (64, .bool true)]) (.cons rfl (.cons rfl (.cons rfl (.nil _)))) (K140 true _ ⟨(Option.some.inj hS).symm, _, hj142⟩)
       ·have hS := ite_false' hz143 hg139
        refine sr_evg (b := false) (e := 58) rfl rfl hg139 (v := .pointer (some ⟨g6, 0, none⟩)) (ev_move rfl) (by decide) ?_
        refine sr_evg (b := false) (e := 58) rfl rfl hg139 (v := v74) (ev_move rfl) (by decide) ?_
        refine sr_unguard rfl rfl hg139 ?_
        refine sr_litT (c := strC) (ρ := ρ127) (E := 9) (xs := [[109, 97, 105, 108, 46, 114, 101, 97, 100]]) (vs := #[(0, str ([109, 97, 105, 108, 46, 114, 101, 97, 100]))]) (cs := #[str ([109, 97, 105, 108, 46, 114, 101, 97, 100])]) (css := [[str ([109, 97, 105, 108, 46, 114, 101, 97, 100])]]) rfl (fun _ => by kernel_rfl) rfl ⟨rfl, trivial⟩ rfl (by decide) hb.bd (by decide) ?_
        intro v147 w149 h148 hbw151
        have htr150 := Tr.of_below hbw151 hb.bd
        replace h75 := h75.mv htr150.rd
        replace hB72 := hB72.mv (htr150.mv (i := 100) rfl)
        replace h71 := h71.mv (htr150.mv (i := 101) rfl)
        replace hb := hb.trans htr150
        replace hj142 := (hj142.trans htr150).weak (J' := (fun _ => false)) (by intro t h; simp [rng] at h ⊢ <;> omega) rfl rfl
        obtain ⟨y152, hy153, hS⟩ := bind_some' hS
        refine sr_callg (b := false) (e := 58) rfl rfl hg139 (vs := [.pointer (some ⟨g6, 0, none⟩), v74, v147, .int .i64 6]) rfl Try.call18 rfl (delegate_Delegations_Chain_ok _ (hg.fr hz hb) (ρA := ρ127) hb.bd (hz.fr hg hb) (τ0 := (fun p => 100 + p)) (fun p => Nat.le_add_right_of_le (by decide)) h75 h148 (⟨_, hB72, h71⟩ : delegate_Delegations.O (fun p => 100 + p) ρ127 w149 g6 y65.2) hy153) (by decide) ?_
        rintro _ w154 ⟨rfl, hbw155⟩
        have htr156 := Tr.of_below hbw155 hb.bd
        replace h75 := h75.mv htr156.rd
        replace hB72 := hB72.mv (htr156.mv (i := 100) rfl)
        replace h71 := h71.mv (htr156.mv (i := 101) rfl)
        replace hb := hb.trans htr156
        replace hj142 := (hj142.trans htr156).weak (J' := (fun _ => false)) (by intro t h; simp [rng] at h ⊢ <;> omega) rfl rfl
        refine sr_evg (b := false) (e := 58) rfl rfl hg139 (v := .bool (y152 != 0)) (ev_ne rfl rfl) (by decide) ?_
        refine sr_ev (v := .bool (y152 != 0)) (ev_pick_f rfl hg139 rfl) (by decide) ?_
        exact sr_weaken (l' := [(1, .pointer (some ⟨g6, 0, none⟩)), (7, v74), (64, .bool (y152 != 0))]) (.cons rfl (.cons rfl (.cons rfl (.nil _)))) (K140 (y152 != 0) _ ⟨(Option.some.inj hS).symm, _, hj142⟩)
     ·intro K122
      clear hS
      have hj124 : Tr ρ109 w108 (fun _ => false) ρ109 w108 := (Tr.refl hb.bd).weak (fun _ _ => rfl) rfl rfl
      rcases Bool.eq_false_or_eq_true z105 with hg121 | hg121
      ·have hS := ite_true' hz125 hg121
       refine sr_pass (e := 52) rfl rfl (by rw [hg121]; rfl) (by decide) ?_
       refine sr_pass (e := 52) rfl rfl (by rw [hg121]; rfl) (by decide) ?_
       refine sr_pass (e := 52) rfl rfl (by rw [hg121]; rfl) (by decide) ?_
       refine sr_pass (e := 52) rfl rfl (by rw [hg121]; rfl) (by decide) ?_
       refine sr_ev (v := .bool true) (ev_pick_t rfl hg121 rfl) (by decide) ?_
       exact sr_weaken (l' := [(1, .pointer (some ⟨g6, 0, none⟩)), (7, v74), (57, .bool true)]) (.cons rfl (.cons rfl (.cons rfl (.nil _)))) (K122 true _ ⟨(Option.some.inj hS).symm, _, hj124⟩)
      ·have hS := ite_false' hz125 hg121
       refine sr_evg (b := false) (e := 52) rfl rfl hg121 (v := .pointer (some ⟨g6, 0, none⟩)) (ev_move rfl) (by decide) ?_
       refine sr_unguard rfl rfl hg121 ?_
       refine sr_litT (c := strC) (ρ := ρ109) (E := 9) (xs := [[109, 97, 105, 108, 46, 120]]) (vs := #[(0, str ([109, 97, 105, 108, 46, 120]))]) (cs := #[str ([109, 97, 105, 108, 46, 120])]) (css := [[str ([109, 97, 105, 108, 46, 120])]]) rfl (fun _ => by kernel_rfl) rfl ⟨rfl, trivial⟩ rfl (by decide) hb.bd (by decide) ?_
       intro v129 w131 h130 hbw133
       have htr132 := Tr.of_below hbw133 hb.bd
       replace h75 := h75.mv htr132.rd
       replace hB72 := hB72.mv (htr132.mv (i := 100) rfl)
       replace h71 := h71.mv (htr132.mv (i := 101) rfl)
       replace hb := hb.trans htr132
       replace hj124 := (hj124.trans htr132).weak (J' := (fun _ => false)) (by intro t h; simp [rng] at h ⊢ <;> omega) rfl rfl
       obtain ⟨y134, hy135, hS⟩ := bind_some' hS
       refine sr_callg (b := false) (e := 52) rfl rfl hg121 (vs := [.pointer (some ⟨g6, 0, none⟩), str ([97, 110, 110]), str ([98, 111, 98]), v129, .int .i64 5]) rfl Try.call26 rfl (delegate_Delegations_May_ok _ (hg.fr hz hb) (ρA := ρ109) hb.bd (hz.fr hg hb) (τ0 := (fun p => 100 + p)) (fun p => Nat.le_add_right_of_le (by decide)) h130 (⟨_, hB72, h71⟩ : delegate_Delegations.O (fun p => 100 + p) ρ109 w131 g6 y65.2) hy135) (by decide) ?_
       rintro _ w136 ⟨rfl, hbw137⟩
       have htr138 := Tr.of_below hbw137 hb.bd
       replace h75 := h75.mv htr138.rd
       replace hB72 := hB72.mv (htr138.mv (i := 100) rfl)
       replace h71 := h71.mv (htr138.mv (i := 101) rfl)
       replace hb := hb.trans htr138
       replace hj124 := (hj124.trans htr138).weak (J' := (fun _ => false)) (by intro t h; simp [rng] at h ⊢ <;> omega) rfl rfl
       refine sr_evg (b := false) (e := 52) rfl rfl hg121 (v := .bool (y134 != 0)) (ev_ne rfl rfl) (by decide) ?_
       refine sr_ev (v := .bool (y134 != 0)) (ev_pick_f rfl hg121 rfl) (by decide) ?_
       exact sr_weaken (l' := [(1, .pointer (some ⟨g6, 0, none⟩)), (7, v74), (57, .bool (y134 != 0))]) (.cons rfl (.cons rfl (.cons rfl (.nil _)))) (K122 (y134 != 0) _ ⟨(Option.some.inj hS).symm, _, hj124⟩)
    ·intro K104
     clear hS
     have hj106 : Tr ρ73 w76 (fun _ => false) ρ73 w76 := (Tr.refl hb.bd).weak (fun _ _ => rfl) rfl rfl
     rcases Bool.eq_false_or_eq_true ((((y23.1 != 28) || (y37.1 != 0)) || (y51.1 != 0)) || (y65.1 != 2)) with hg103 | hg103
     ·have hS := ite_true' hz107 hg103
      refine sr_pass (e := 46) rfl rfl (by rw [hg103]; rfl) (by decide) ?_
      refine sr_pass (e := 46) rfl rfl (by rw [hg103]; rfl) (by decide) ?_
      refine sr_pass (e := 46) rfl rfl (by rw [hg103]; rfl) (by decide) ?_
      refine sr_pass (e := 46) rfl rfl (by rw [hg103]; rfl) (by decide) ?_
      refine sr_ev (v := .bool true) (ev_pick_t rfl hg103 rfl) (by decide) ?_
      exact sr_weaken (l' := [(1, .pointer (some ⟨g6, 0, none⟩)), (7, v74), (51, .bool true)]) (.cons rfl (.cons rfl (.cons rfl (.nil _)))) (K104 true _ ⟨(Option.some.inj hS).symm, _, hj106⟩)
     ·have hS := ite_false' hz107 hg103
      refine sr_evg (b := false) (e := 46) rfl rfl hg103 (v := .pointer (some ⟨g6, 0, none⟩)) (ev_move rfl) (by decide) ?_
      refine sr_unguard rfl rfl hg103 ?_
      refine sr_litT (c := strC) (ρ := ρ73) (E := 9) (xs := [[109, 97, 105, 108, 46, 120]]) (vs := #[(0, str ([109, 97, 105, 108, 46, 120]))]) (cs := #[str ([109, 97, 105, 108, 46, 120])]) (css := [[str ([109, 97, 105, 108, 46, 120])]]) rfl (fun _ => by kernel_rfl) rfl ⟨rfl, trivial⟩ rfl (by decide) hb.bd (by decide) ?_
      intro v111 w113 h112 hbw115
      have htr114 := Tr.of_below hbw115 hb.bd
      replace h75 := h75.mv htr114.rd
      replace hB72 := hB72.mv (htr114.mv (i := 100) rfl)
      replace h71 := h71.mv (htr114.mv (i := 101) rfl)
      replace hb := hb.trans htr114
      replace hj106 := (hj106.trans htr114).weak (J' := (fun _ => false)) (by intro t h; simp [rng] at h ⊢ <;> omega) rfl rfl
      obtain ⟨y116, hy117, hS⟩ := bind_some' hS
      refine sr_callg (b := false) (e := 46) rfl rfl hg103 (vs := [.pointer (some ⟨g6, 0, none⟩), str ([97, 110, 110]), str ([98, 111, 98]), v111, .int .i64 4]) rfl Try.call26 rfl (delegate_Delegations_May_ok _ (hg.fr hz hb) (ρA := ρ73) hb.bd (hz.fr hg hb) (τ0 := (fun p => 100 + p)) (fun p => Nat.le_add_right_of_le (by decide)) h112 (⟨_, hB72, h71⟩ : delegate_Delegations.O (fun p => 100 + p) ρ73 w113 g6 y65.2) hy117) (by decide) ?_
      rintro _ w118 ⟨rfl, hbw119⟩
      have htr120 := Tr.of_below hbw119 hb.bd
      replace h75 := h75.mv htr120.rd
      replace hB72 := hB72.mv (htr120.mv (i := 100) rfl)
      replace h71 := h71.mv (htr120.mv (i := 101) rfl)
      replace hb := hb.trans htr120
      replace hj106 := (hj106.trans htr120).weak (J' := (fun _ => false)) (by intro t h; simp [rng] at h ⊢ <;> omega) rfl rfl
      refine sr_evg (b := false) (e := 46) rfl rfl hg103 (v := .bool (y116 != 14)) (ev_ne rfl rfl) (by decide) ?_
      refine sr_ev (v := .bool (y116 != 14)) (ev_pick_f rfl hg103 rfl) (by decide) ?_
      exact sr_weaken (l' := [(1, .pointer (some ⟨g6, 0, none⟩)), (7, v74), (51, .bool (y116 != 14))]) (.cons rfl (.cons rfl (.cons rfl (.nil _)))) (K104 (y116 != 14) _ ⟨(Option.some.inj hS).symm, _, hj106⟩)
   ·intro K96
    rcases Bool.eq_false_or_eq_true (((y23.1 != 28) || (y37.1 != 0)) || (y51.1 != 0)) with hg95 | hg95
    all_goals try have hj98 : Tr ρ73 w76 (fun _ => false) ρ73 w76 := Tr.refl hb.bd
    ·refine sr_pass (e := 42) rfl rfl (by rw [hg95]; rfl) (by decide) ?_
     refine sr_pass (e := 42) rfl rfl (by rw [hg95]; rfl) (by decide) ?_
     refine sr_ev (v := .bool true) (ev_pick_t rfl hg95 rfl) (by decide) ?_
     exact sr_weaken (l' := [(1, .pointer (some ⟨g6, 0, none⟩)), (7, v74), (45, .bool true)]) (.cons rfl (.cons rfl (.cons rfl (.nil _)))) (K96 true _ ⟨by rw [hg95]; rfl, rfl⟩)
    ·refine sr_evg (b := false) (e := 42) rfl rfl hg95 (v := .int .i64 y65.1) (ev_move rfl) (by decide) ?_
     refine sr_evg (b := false) (e := 42) rfl rfl hg95 (v := .bool (y65.1 != 2)) (ev_ne rfl rfl) (by decide) ?_
     refine sr_ev (v := .bool (y65.1 != 2)) (ev_pick_f rfl hg95 rfl) (by decide) ?_
     exact sr_weaken (l' := [(1, .pointer (some ⟨g6, 0, none⟩)), (7, v74), (45, .bool (y65.1 != 2))]) (.cons rfl (.cons rfl (.cons rfl (.nil _)))) (K96 (y65.1 != 2) _ ⟨by rw [hg95]; rfl, rfl⟩)
  ·intro K88
   rcases Bool.eq_false_or_eq_true ((y23.1 != 28) || (y37.1 != 0)) with hg87 | hg87
   all_goals try have hj90 : Tr ρ73 w76 (fun _ => false) ρ73 w76 := Tr.refl hb.bd
   ·refine sr_pass (e := 38) rfl rfl (by rw [hg87]; rfl) (by decide) ?_
    refine sr_pass (e := 38) rfl rfl (by rw [hg87]; rfl) (by decide) ?_
    refine sr_ev (v := .bool true) (ev_pick_t rfl hg87 rfl) (by decide) ?_
    exact sr_weaken (l' := [(1, .pointer (some ⟨g6, 0, none⟩)), (6, .int .i64 y65.1), (7, v74), (41, .bool true)]) (.cons rfl (.cons rfl (.cons rfl (.cons rfl (.nil _))))) (K88 true _ ⟨by rw [hg87]; rfl, rfl⟩)
   ·refine sr_evg (b := false) (e := 38) rfl rfl hg87 (v := .int .i64 y51.1) (ev_move rfl) (by decide) ?_
    refine sr_evg (b := false) (e := 38) rfl rfl hg87 (v := .bool (y51.1 != 0)) (ev_ne rfl rfl) (by decide) ?_
    refine sr_ev (v := .bool (y51.1 != 0)) (ev_pick_f rfl hg87 rfl) (by decide) ?_
    exact sr_weaken (l' := [(1, .pointer (some ⟨g6, 0, none⟩)), (6, .int .i64 y65.1), (7, v74), (41, .bool (y51.1 != 0))]) (.cons rfl (.cons rfl (.cons rfl (.cons rfl (.nil _))))) (K88 (y51.1 != 0) _ ⟨by rw [hg87]; rfl, rfl⟩)
 ·intro K80
  rcases Bool.eq_false_or_eq_true (y23.1 != 28) with hg79 | hg79
  all_goals try have hj82 : Tr ρ73 w76 (fun _ => false) ρ73 w76 := Tr.refl hb.bd
  ·refine sr_pass (e := 34) rfl rfl (by rw [hg79]; rfl) (by decide) ?_
   refine sr_pass (e := 34) rfl rfl (by rw [hg79]; rfl) (by decide) ?_
   refine sr_ev (v := .bool true) (ev_pick_t rfl hg79 rfl) (by decide) ?_
   exact sr_weaken (l' := [(1, .pointer (some ⟨g6, 0, none⟩)), (5, .int .i64 y51.1), (6, .int .i64 y65.1), (7, v74), (37, .bool true)]) (.cons rfl (.cons rfl (.cons rfl (.cons rfl (.cons rfl (.nil _)))))) (K80 true _ ⟨by rw [hg79]; rfl, rfl⟩)
  ·refine sr_evg (b := false) (e := 34) rfl rfl hg79 (v := .int .i64 y37.1) (ev_move rfl) (by decide) ?_
   refine sr_evg (b := false) (e := 34) rfl rfl hg79 (v := .bool (y37.1 != 0)) (ev_ne rfl rfl) (by decide) ?_
   refine sr_ev (v := .bool (y37.1 != 0)) (ev_pick_f rfl hg79 rfl) (by decide) ?_
   exact sr_weaken (l' := [(1, .pointer (some ⟨g6, 0, none⟩)), (5, .int .i64 y51.1), (6, .int .i64 y65.1), (7, v74), (37, .bool (y37.1 != 0))]) (.cons rfl (.cons rfl (.cons rfl (.cons rfl (.cons rfl (.nil _)))))) (K80 (y37.1 != 0) _ ⟨by rw [hg79]; rfl, rfl⟩)
theorem law35_DelegateLimits_B3_ok {w0 : World} (hg : Gs w0) {ρA : Tags} (hbd : ∀ b, ρA b ≠ 0 → b < w0.heap.size) (hz : Gz (flat1 ρA)) (r0 : Int → delegate_Delegations → Int → Int → Int → Option (Bool))
  (hr0 : ∀ {r : Bool} {n_0 : Int} {od_3 : delegate_Delegations} {w_4_0 : Int} {w_4_1 : Int} {i_5 : Int} {gd_3 : Nat} {gw_4 : Nat}, r0 n_0 od_3 w_4_0 w_4_1 i_5 = some r → ∀ {ρ : Tags} {w : World}, (Fr (flat1 ρA) w0 ρ w) → (delegate_Delegations.O (fun p => 100 + p) ρ w gd_3 od_3) → (Blk ρ 6 w gw_4 (.cells #[.int .i64 w_4_0, .int .i64 w_4_1] 33 (0, 0))) → KE Try.prog 4 (Ret (fun v w' => v = .bool r ∧ Below w0.heap.size w0 w')) 60 [.inLoop (sub (bodyOf Try.f4) [2, 2, 2, 2, 2, 1, 2, 2, 1]), .inBlock 0, .code (sub (bodyOf Try.f4) [2, 2, 2, 2, 2, 2])] [(0, .int .i64 n_0), (3, .pointer (some ⟨gd_3, 0, none⟩)), (4, .pointer (some ⟨gw_4, 0, none⟩)), (5, .int .i64 i_5)] w) {r : Bool} {n_0 : Int} {od_3 : delegate_Delegations} {w_4_0 : Int} {w_4_1 : Int} {i_5 : Int} {t_28 : Bool} {gd_3 : Nat} {gw_4 : Nat} (hS : law35_DelegateLimits_B3 r0 n_0 od_3 w_4_0 w_4_1 i_5 t_28 = some r) {ρ : Tags} {w : World} (hb : Fr (flat1 ρA) w0 ρ w) (hod_3 : delegate_Delegations.O (fun p => 100 + p) ρ w gd_3 od_3) (hBw_4 : Blk ρ 6 w gw_4 (.cells #[.int .i64 w_4_0, .int .i64 w_4_1] 33 (0, 0))) :
  KE Try.prog 4 (Ret (fun v w' => v = .bool r ∧ Below w0.heap.size w0 w')) 60 [.code (sub (bodyOf Try.f4) [2, 2, 2, 2, 2, 1, 2, 2, 1, 2, 1, 2, 2, 2, 2]), .inBlock 1, .code (sub (bodyOf Try.f4) [2, 2, 2, 2, 2, 1, 2, 2, 1, 2, 2]), .inLoop (sub (bodyOf Try.f4) [2, 2, 2, 2, 2, 1, 2, 2, 1]), .inBlock 0, .code (sub (bodyOf Try.f4) [2, 2, 2, 2, 2, 2])] [(0, .int .i64 n_0), (3, .pointer (some ⟨gd_3, 0, none⟩)), (4, .pointer (some ⟨gw_4, 0, none⟩)), (5, .int .i64 i_5), (28, .bool t_28)] w := by
 unfold law35_DelegateLimits_B3 at hS
 obtain ⟨v162, hB164, h163⟩ := hod_3
 replace hB164 : Blk ρ 100 w gd_3 (.cells #[v162] 54 (0, 0)) := hB164
 replace h163 : MapT delegate_way.ek delegate_delegation.c true ρ 101 w v162 od_3.ways := h163
 refine ke_cond (t := t_28) rfl (fun hc165 => ?_) (fun hc165 => ?_)
 ·replace hS := ite_true' hS hc165
  refine ke_seq ?_
  refine ke_region ?_
  refine sr_ev (v := .bool false) (ev_assign rfl) (by decide) ?_
  refine sr_end (l' := [(2, .bool false)]) (.cons rfl (.nil _)) ?_
  cases hS
  exact ke_ret1 Try.func4 rfl rfl ⟨_, rfl, rfl, (hb.below (flat1_le _))⟩
 ·replace hS := ite_false' hS hc165
  refine ke_skip ?_
  refine ke_inBlock ?_
  refine ke_region ?_
  refine sr_ev (v := .int .i64 i_5) (ev_move rfl) (by decide) ?_
  refine sr_ev (v := .int .i64 (IntKind.i64.wrap (i_5 + 1))) (ev_add rfl rfl) (by decide) ?_
  refine sr_ev (v := .int .i64 (IntKind.i64.wrap (i_5 + 1))) (ev_assign rfl) (by decide) ?_
  refine sr_end (l' := [(0, .int .i64 n_0), (3, .pointer (some ⟨gd_3, 0, none⟩)), (4, .pointer (some ⟨gw_4, 0, none⟩)), (5, .int .i64 (IntKind.i64.wrap (i_5 + 1)))]) (.cons rfl (.cons rfl (.cons rfl (.cons rfl (.nil _))))) ?_
  have hK := hr0 hS hb ⟨_, hB164, h163⟩ hBw_4
  exact ke_weaken (l' := [(0, .int .i64 n_0), (3, .pointer (some ⟨gd_3, 0, none⟩)), (4, .pointer (some ⟨gw_4, 0, none⟩)), (5, .int .i64 (IntKind.i64.wrap (i_5 + 1)))]) (.cons rfl (.cons rfl (.cons rfl (.cons rfl (.nil _))))) hK
theorem law35_DelegateLimits_B2_ok {w0 : World} (hg : Gs w0) {ρA : Tags} (hbd : ∀ b, ρA b ≠ 0 → b < w0.heap.size) (hz : Gz (flat1 ρA)) (r0 : Int → delegate_Delegations → Int → Int → Int → Option (Bool))
  (hr0 : ∀ {r : Bool} {n_0 : Int} {od_3 : delegate_Delegations} {w_4_0 : Int} {w_4_1 : Int} {i_5 : Int} {gd_3 : Nat} {gw_4 : Nat}, r0 n_0 od_3 w_4_0 w_4_1 i_5 = some r → ∀ {ρ : Tags} {w : World}, (Fr (flat1 ρA) w0 ρ w) → (delegate_Delegations.O (fun p => 100 + p) ρ w gd_3 od_3) → (Blk ρ 6 w gw_4 (.cells #[.int .i64 w_4_0, .int .i64 w_4_1] 33 (0, 0))) → KE Try.prog 4 (Ret (fun v w' => v = .bool r ∧ Below w0.heap.size w0 w')) 60 [.inLoop (sub (bodyOf Try.f4) [2, 2, 2, 2, 2, 1, 2, 2, 1]), .inBlock 0, .code (sub (bodyOf Try.f4) [2, 2, 2, 2, 2, 2])] [(0, .int .i64 n_0), (3, .pointer (some ⟨gd_3, 0, none⟩)), (4, .pointer (some ⟨gw_4, 0, none⟩)), (5, .int .i64 i_5)] w) {r : Bool} {n_0 : Int} {od_3 : delegate_Delegations} {w_4_0 : Int} {w_4_1 : Int} {i_5 : Int} {want_6 : Int} {gd_3 : Nat} {gw_4 : Nat} (hS : law35_DelegateLimits_B2 r0 n_0 od_3 w_4_0 w_4_1 i_5 want_6 = some r) {ρ : Tags} {w : World} (hb : Fr (flat1 ρA) w0 ρ w) (hod_3 : delegate_Delegations.O (fun p => 100 + p) ρ w gd_3 od_3) (hBw_4 : Blk ρ 6 w gw_4 (.cells #[.int .i64 w_4_0, .int .i64 w_4_1] 33 (0, 0))) :
  KE Try.prog 4 (Ret (fun v w' => v = .bool r ∧ Below w0.heap.size w0 w')) 60 [.code (sub (bodyOf Try.f4) [2, 2, 2, 2, 2, 1, 2, 2, 1, 2, 1, 2, 2, 2]), .inBlock 1, .code (sub (bodyOf Try.f4) [2, 2, 2, 2, 2, 1, 2, 2, 1, 2, 2]), .inLoop (sub (bodyOf Try.f4) [2, 2, 2, 2, 2, 1, 2, 2, 1]), .inBlock 0, .code (sub (bodyOf Try.f4) [2, 2, 2, 2, 2, 2])] [(0, .int .i64 n_0), (3, .pointer (some ⟨gd_3, 0, none⟩)), (4, .pointer (some ⟨gw_4, 0, none⟩)), (5, .int .i64 i_5), (6, .int .i64 want_6)] w := by
 unfold law35_DelegateLimits_B2 at hS
 obtain ⟨v23, hB25, h24⟩ := hod_3
 replace hB25 : Blk ρ 100 w gd_3 (.cells #[v23] 54 (0, 0)) := hB25
 replace h24 : MapT delegate_way.ek delegate_delegation.c true ρ 101 w v23 od_3.ways := h24
 refine ke_seq ?_
 refine ke_region_j (ρ := ρ) (fun t => ([100, 101] : List Nat).contains t) 8 Try.mixed (fun w27 hw26 => ?_)
 have htr28 := Tr.of_below hw26 hb.bd
 replace hB25 := hB25.mv (htr28.mv (i := 100) rfl)
 replace h24 := h24.mv (htr28.mv (i := 101) rfl)
 replace hBw_4 := hBw_4.mv (htr28.mv (i := 6) rfl)
 replace hb := hb.trans htr28
 refine dj_H 0 (v := .pointer (some ⟨gd_3, 0, none⟩)) (by kernel_rfl) (by kernel_rfl) rfl (fun _ _ _ h => h) (sj_refl hb.bd rfl rfl) (fun w1 ρ1 hw1 => ev_move rfl) (by decide) ?_
 refine dj_H 1 (v := .int .i64 i_5) (by kernel_rfl) (by kernel_rfl) rfl (fun _ _ _ h => h) (sj_refl hb.bd rfl rfl) (fun w1 ρ1 hw1 => ev_move rfl) (by decide) ?_
 refine dj_H 4 (v := .agg #[.int .i64 w_4_0, .int .i64 w_4_1]) (by kernel_rfl) (by kernel_rfl) rfl (fun _ _ _ h => h) (sj_refl hb.bd rfl rfl) (fun w1 ρ1 hw1 => ev_loads (cs := [.int .i64 w_4_0, .int .i64 w_4_1]) Try.isAgg33 Try.sizeOf33 rfl ((hBw_4.mv (hw1.mv (i := 6) rfl)).cells (vs := [.int .i64 w_4_0, .int .i64 w_4_1]) rfl)) (by decide) ?_
 refine dj_H 6 (v := .int .i64 want_6) (by kernel_rfl) (by kernel_rfl) rfl (fun _ _ _ h => h) (sj_refl hb.bd rfl rfl) (fun w1 ρ1 hw1 => ev_move rfl) (by decide) ?_
 obtain ⟨y119, hy120, hS⟩ := bind_some' hS
 obtain ⟨y131, hy132, hS⟩ := bind_some' hS
 refine dj_all [2, 3] (by kernel_rfl) (fun i hi => ?_)
 simp only [List.mem_cons, List.not_mem_nil, or_false] at hi
 rcases hi with rfl | rfl
 ·refine ⟨_, rfl, ?_⟩
  have jt140 : Tr ρ w27 (fun t => ([100, 101] : List Nat).contains t) ρ w27 := (Tr.refl hb.bd).weak (fun _ _ => rfl) rfl rfl
  refine sr_call (vs := [.int .i64 i_5]) rfl Try.call23 rfl (law35_name_ok _ (hg.fr hz hb) hy120) (by decide) ?_
  rintro _ w143 ⟨rfl, hbw144⟩
  have htr145 := Tr.of_below hbw144 hb.bd
  replace hB25 := hB25.mv (htr145.mv (i := 100) rfl)
  replace h24 := h24.mv (htr145.mv (i := 101) rfl)
  replace hBw_4 := hBw_4.mv (htr145.mv (i := 6) rfl)
  replace hb := hb.trans htr145
  replace jt140 := (jt140.trans htr145).weak (J' := (fun t => ([100, 101] : List Nat).contains t)) (by intro t h; simp [rng] at h ⊢ <;> omega) rfl rfl
  refine dj_next (l' := [(0, .int .i64 n_0), (3, .pointer (some ⟨gd_3, 0, none⟩)), (4, .pointer (some ⟨gw_4, 0, none⟩)), (5, .int .i64 i_5), (21, .pointer (some ⟨gd_3, 0, none⟩)), (23, str y119), (25, .agg #[.int .i64 w_4_0, .int .i64 w_4_1]), (27, .int .i64 want_6)]) rfl (.cons rfl (.cons rfl (.cons rfl (.cons rfl (.cons rfl (.cons rfl (.cons rfl (.cons rfl (.nil _))))))))) jt140 (by intro t h; simp [rng] at h ⊢ <;> omega) rfl rfl ?_
  refine dj_E 3 (by kernel_rfl) rfl ?_
  have jt146 : Tr ρ w143 (fun t => ([100, 101] : List Nat).contains t) ρ w143 := (Tr.refl hb.bd).weak (fun _ _ => rfl) rfl rfl
  refine sr_litT (c := strC) (ρ := ρ) (E := 9) (xs := [[97]]) (vs := #[(0, str ([97]))]) (cs := #[str ([97])]) (css := [[str ([97])]]) rfl (fun _ => by kernel_rfl) rfl ⟨rfl, trivial⟩ rfl (by decide) hb.bd (by decide) ?_
  intro v147 w149 h148 hbw151
  have htr150 := Tr.of_below hbw151 hb.bd
  replace hB25 := hB25.mv (htr150.mv (i := 100) rfl)
  replace h24 := h24.mv (htr150.mv (i := 101) rfl)
  replace hBw_4 := hBw_4.mv (htr150.mv (i := 6) rfl)
  replace hb := hb.trans htr150
  replace jt146 := (jt146.trans htr150).weak (J' := (fun t => ([100, 101] : List Nat).contains t)) (by intro t h; simp [rng] at h ⊢ <;> omega) rfl rfl
  refine dj_next (l' := [(0, .int .i64 n_0), (3, .pointer (some ⟨gd_3, 0, none⟩)), (4, .pointer (some ⟨gw_4, 0, none⟩)), (5, .int .i64 i_5), (21, .pointer (some ⟨gd_3, 0, none⟩)), (23, str y119), (24, v147), (25, .agg #[.int .i64 w_4_0, .int .i64 w_4_1]), (27, .int .i64 want_6)]) rfl (.cons rfl (.cons rfl (.cons rfl (.cons rfl (.cons rfl (.cons rfl (.cons rfl (.cons rfl (.cons rfl (.nil _)))))))))) jt146 (by intro t h; simp [rng] at h ⊢ <;> omega) rfl rfl ?_
  refine dj_E 5 (by kernel_rfl) rfl ?_
  have jt152 : Tr ρ w149 (fun t => ([100, 101] : List Nat).contains t) ρ w149 := (Tr.refl hb.bd).weak (fun _ _ => rfl) rfl rfl
  refine sr_call (vs := [.pointer (some ⟨gd_3, 0, none⟩), str ([97, 110, 110]), str y119, v147, .agg #[.int .i64 w_4_0, .int .i64 w_4_1]]) rfl Try.call22 rfl (delegate_Delegations_Allow_ok (w_4 := (api_Window.mk w_4_0 w_4_1)) _ (hg.fr hz hb) (ρA := ρ) hb.bd (hz.fr hg hb) (o := 100) (by decide) h148 (⟨_, hB25, h24⟩ : delegate_Delegations.O (fun p => 100 + p) ρ w149 gd_3 od_3) hy132) (by decide) ?_
  rintro _ w155 ⟨ρ161, rfl, ⟨v158, hB160, h159⟩, htr157⟩
  replace hBw_4 := hBw_4.mv (htr157.mv (i := 6) rfl)
  replace hb := hb.trans htr157
  replace jt152 := (jt152.trans htr157).weak (J' := (fun t => ([100, 101] : List Nat).contains t)) (by intro t h; simp [rng] at h ⊢ <;> omega) rfl rfl
  replace hB160 : Blk ρ161 100 w155 gd_3 (.cells #[v158] 54 (0, 0)) := hB160
  replace h159 : MapT delegate_way.ek delegate_delegation.c true ρ161 101 w155 v158 y131.2.ways := h159
  refine dj_next (l' := [(0, .int .i64 n_0), (3, .pointer (some ⟨gd_3, 0, none⟩)), (4, .pointer (some ⟨gw_4, 0, none⟩)), (5, .int .i64 i_5), (26, .int .i64 y131.1), (27, .int .i64 want_6)]) rfl (.cons rfl (.cons rfl (.cons rfl (.cons rfl (.cons rfl (.cons rfl (.nil _))))))) jt152 (by intro t h; simp [rng] at h ⊢ <;> omega) rfl rfl ?_
  refine dj_H 7 (v := .bool (y131.1 != want_6)) (by kernel_rfl) (by kernel_rfl) rfl (fun _ _ _ h => h) (sj_refl hb.bd rfl rfl) (fun w1 ρ1 hw1 => ev_ne rfl rfl) (by decide) ?_
  refine dj_done rfl (by kernel_rfl) ?_
  refine ke_weaken (l' := [(0, .int .i64 n_0), (3, .pointer (some ⟨gd_3, 0, none⟩)), (4, .pointer (some ⟨gw_4, 0, none⟩)), (5, .int .i64 i_5), (28, .bool (y131.1 != want_6))]) (.cons rfl (.cons rfl (.cons rfl (.cons rfl (.cons rfl (.nil _)))))) ?_
  have hK := law35_DelegateLimits_B3_ok hg hbd hz _ hr0 hS hb ⟨_, hB160, h159⟩ hBw_4
  exact ke_weaken (l' := [(0, .int .i64 n_0), (3, .pointer (some ⟨gd_3, 0, none⟩)), (4, .pointer (some ⟨gw_4, 0, none⟩)), (5, .int .i64 i_5), (28, .bool (y131.1 != want_6))]) (.cons rfl (.cons rfl (.cons rfl (.cons rfl (.cons rfl (.nil _)))))) hK
 ·refine ⟨_, rfl, ?_⟩
  have jt166 : Tr ρ w27 (fun t => ([100, 101] : List Nat).contains t) ρ w27 := (Tr.refl hb.bd).weak (fun _ _ => rfl) rfl rfl
  refine sr_litT (c := strC) (ρ := ρ) (E := 9) (xs := [[97]]) (vs := #[(0, str ([97]))]) (cs := #[str ([97])]) (css := [[str ([97])]]) rfl (fun _ => by kernel_rfl) rfl ⟨rfl, trivial⟩ rfl (by decide) hb.bd (by decide) ?_
  intro v167 w169 h168 hbw171
  have htr170 := Tr.of_below hbw171 hb.bd
  replace hB25 := hB25.mv (htr170.mv (i := 100) rfl)
  replace h24 := h24.mv (htr170.mv (i := 101) rfl)
  replace hBw_4 := hBw_4.mv (htr170.mv (i := 6) rfl)
  replace hb := hb.trans htr170
  replace jt166 := (jt166.trans htr170).weak (J' := (fun t => ([100, 101] : List Nat).contains t)) (by intro t h; simp [rng] at h ⊢ <;> omega) rfl rfl
  refine dj_next (l' := [(0, .int .i64 n_0), (3, .pointer (some ⟨gd_3, 0, none⟩)), (4, .pointer (some ⟨gw_4, 0, none⟩)), (5, .int .i64 i_5), (21, .pointer (some ⟨gd_3, 0, none⟩)), (22, .int .i64 i_5), (24, v167), (25, .agg #[.int .i64 w_4_0, .int .i64 w_4_1]), (27, .int .i64 want_6)]) rfl (.cons rfl (.cons rfl (.cons rfl (.cons rfl (.cons rfl (.cons rfl (.cons rfl (.cons rfl (.cons rfl (.nil _)))))))))) jt166 (by intro t h; simp [rng] at h ⊢ <;> omega) rfl rfl ?_
  refine dj_E 2 (by kernel_rfl) rfl ?_
  have jt172 : Tr ρ w169 (fun t => ([100, 101] : List Nat).contains t) ρ w169 := (Tr.refl hb.bd).weak (fun _ _ => rfl) rfl rfl
  refine sr_call (vs := [.int .i64 i_5]) rfl Try.call23 rfl (law35_name_ok _ (hg.fr hz hb) hy120) (by decide) ?_
  rintro _ w175 ⟨rfl, hbw176⟩
  have htr177 := Tr.of_below hbw176 hb.bd
  replace h168 := h168.mv htr177.rd
  replace hB25 := hB25.mv (htr177.mv (i := 100) rfl)
  replace h24 := h24.mv (htr177.mv (i := 101) rfl)
  replace hBw_4 := hBw_4.mv (htr177.mv (i := 6) rfl)
  replace hb := hb.trans htr177
  replace jt172 := (jt172.trans htr177).weak (J' := (fun t => ([100, 101] : List Nat).contains t)) (by intro t h; simp [rng] at h ⊢ <;> omega) rfl rfl
  refine dj_next (l' := [(0, .int .i64 n_0), (3, .pointer (some ⟨gd_3, 0, none⟩)), (4, .pointer (some ⟨gw_4, 0, none⟩)), (5, .int .i64 i_5), (21, .pointer (some ⟨gd_3, 0, none⟩)), (23, str y119), (24, v167), (25, .agg #[.int .i64 w_4_0, .int .i64 w_4_1]), (27, .int .i64 want_6)]) rfl (.cons rfl (.cons rfl (.cons rfl (.cons rfl (.cons rfl (.cons rfl (.cons rfl (.cons rfl (.cons rfl (.nil _)))))))))) jt172 (by intro t h; simp [rng] at h ⊢ <;> omega) rfl rfl ?_
  refine dj_E 5 (by kernel_rfl) rfl ?_
  have jt178 : Tr ρ w175 (fun t => ([100, 101] : List Nat).contains t) ρ w175 := (Tr.refl hb.bd).weak (fun _ _ => rfl) rfl rfl
  refine sr_call (vs := [.pointer (some ⟨gd_3, 0, none⟩), str ([97, 110, 110]), str y119, v167, .agg #[.int .i64 w_4_0, .int .i64 w_4_1]]) rfl Try.call22 rfl (delegate_Delegations_Allow_ok (w_4 := (api_Window.mk w_4_0 w_4_1)) _ (hg.fr hz hb) (ρA := ρ) hb.bd (hz.fr hg hb) (o := 100) (by decide) h168 (⟨_, hB25, h24⟩ : delegate_Delegations.O (fun p => 100 + p) ρ w175 gd_3 od_3) hy132) (by decide) ?_
  rintro _ w181 ⟨ρ187, rfl, ⟨v184, hB186, h185⟩, htr183⟩
  replace hBw_4 := hBw_4.mv (htr183.mv (i := 6) rfl)
  replace hb := hb.trans htr183
  replace jt178 := (jt178.trans htr183).weak (J' := (fun t => ([100, 101] : List Nat).contains t)) (by intro t h; simp [rng] at h ⊢ <;> omega) rfl rfl
  replace hB186 : Blk ρ187 100 w181 gd_3 (.cells #[v184] 54 (0, 0)) := hB186
  replace h185 : MapT delegate_way.ek delegate_delegation.c true ρ187 101 w181 v184 y131.2.ways := h185
  refine dj_next (l' := [(0, .int .i64 n_0), (3, .pointer (some ⟨gd_3, 0, none⟩)), (4, .pointer (some ⟨gw_4, 0, none⟩)), (5, .int .i64 i_5), (26, .int .i64 y131.1), (27, .int .i64 want_6)]) rfl (.cons rfl (.cons rfl (.cons rfl (.cons rfl (.cons rfl (.cons rfl (.nil _))))))) jt178 (by intro t h; simp [rng] at h ⊢ <;> omega) rfl rfl ?_
  refine dj_H 7 (v := .bool (y131.1 != want_6)) (by kernel_rfl) (by kernel_rfl) rfl (fun _ _ _ h => h) (sj_refl hb.bd rfl rfl) (fun w1 ρ1 hw1 => ev_ne rfl rfl) (by decide) ?_
  refine dj_done rfl (by kernel_rfl) ?_
  refine ke_weaken (l' := [(0, .int .i64 n_0), (3, .pointer (some ⟨gd_3, 0, none⟩)), (4, .pointer (some ⟨gw_4, 0, none⟩)), (5, .int .i64 i_5), (28, .bool (y131.1 != want_6))]) (.cons rfl (.cons rfl (.cons rfl (.cons rfl (.cons rfl (.nil _)))))) ?_
  have hK := law35_DelegateLimits_B3_ok hg hbd hz _ hr0 hS hb ⟨_, hB186, h185⟩ hBw_4
  exact ke_weaken (l' := [(0, .int .i64 n_0), (3, .pointer (some ⟨gd_3, 0, none⟩)), (4, .pointer (some ⟨gw_4, 0, none⟩)), (5, .int .i64 i_5), (28, .bool (y131.1 != want_6))]) (.cons rfl (.cons rfl (.cons rfl (.cons rfl (.cons rfl (.nil _)))))) hK
theorem law35_DelegateLimits_L1_ok {w0 : World} (hg : Gs w0) {ρA : Tags} (hbd : ∀ b, ρA b ≠ 0 → b < w0.heap.size) (hz : Gz (flat1 ρA)) : ∀ (n : Nat), ∀ {r : Bool} {n_0 : Int} {od_3 : delegate_Delegations} {w_4_0 : Int} {w_4_1 : Int} {i_5 : Int} {gd_3 : Nat} {gw_4 : Nat}, law35_DelegateLimits_L1 n n_0 od_3 w_4_0 w_4_1 i_5 = some r → ∀ {ρ : Tags} {w : World}, (Fr (flat1 ρA) w0 ρ w) → (delegate_Delegations.O (fun p => 100 + p) ρ w gd_3 od_3) → (Blk ρ 6 w gw_4 (.cells #[.int .i64 w_4_0, .int .i64 w_4_1] 33 (0, 0))) → KE Try.prog 4 (Ret (fun v w' => v = .bool r ∧ Below w0.heap.size w0 w')) 60 [.code (sub (bodyOf Try.f4) [2, 2, 2, 2, 2, 1, 2, 2, 1]), .inLoop (sub (bodyOf Try.f4) [2, 2, 2, 2, 2, 1, 2, 2, 1]), .inBlock 0, .code (sub (bodyOf Try.f4) [2, 2, 2, 2, 2, 2])] [(0, .int .i64 n_0), (3, .pointer (some ⟨gd_3, 0, none⟩)), (4, .pointer (some ⟨gw_4, 0, none⟩)), (5, .int .i64 i_5)] w := by
 intro n
 induction n with
 | zero => intro r n_0 od_3 w_4_0 w_4_1 i_5 gd_3 gw_4 hS; cases hS
 | succ n ih =>
  have hr0 : ∀ {r : Bool} {n_0 : Int} {od_3 : delegate_Delegations} {w_4_0 : Int} {w_4_1 : Int} {i_5 : Int} {gd_3 : Nat} {gw_4 : Nat}, law35_DelegateLimits_L1 n n_0 od_3 w_4_0 w_4_1 i_5 = some r → ∀ {ρ : Tags} {w : World}, (Fr (flat1 ρA) w0 ρ w) → (delegate_Delegations.O (fun p => 100 + p) ρ w gd_3 od_3) → (Blk ρ 6 w gw_4 (.cells #[.int .i64 w_4_0, .int .i64 w_4_1] 33 (0, 0))) → KE Try.prog 4 (Ret (fun v w' => v = .bool r ∧ Below w0.heap.size w0 w')) 60 [.inLoop (sub (bodyOf Try.f4) [2, 2, 2, 2, 2, 1, 2, 2, 1]), .inBlock 0, .code (sub (bodyOf Try.f4) [2, 2, 2, 2, 2, 2])] [(0, .int .i64 n_0), (3, .pointer (some ⟨gd_3, 0, none⟩)), (4, .pointer (some ⟨gw_4, 0, none⟩)), (5, .int .i64 i_5)] w := fun {r} {n_0} {od_3} {w_4_0} {w_4_1} {i_5} {gd_3} {gw_4} hS {ρ} {w} hb hod_3 hBw_4 => ke_inLoop (ih hS hb hod_3 hBw_4)
  clear ih
  intro r n_0 od_3 w_4_0 w_4_1 i_5 gd_3 gw_4 hS ρ w hb hod_3 hBw_4
  unfold law35_DelegateLimits_L1 at hS
  obtain ⟨v18, hB20, h19⟩ := hod_3
  replace hB20 : Blk ρ 100 w gd_3 (.cells #[v18] 54 (0, 0)) := hB20
  replace h19 : MapT delegate_way.ek delegate_delegation.c true ρ 101 w v18 od_3.ways := h19
  refine ke_seq ?_
  refine ke_seq ?_
  refine ke_region ?_
  refine sr_ev (v := .int .i64 i_5) (ev_move rfl) (by decide) ?_
  refine sr_ev (v := .int .i64 n_0) (ev_move rfl) (by decide) ?_
  refine sr_ev (v := .bool (decide (i_5 < n_0))) (ev_lt rfl rfl) (by decide) ?_
  refine sr_end (l' := [(0, .int .i64 n_0), (3, .pointer (some ⟨gd_3, 0, none⟩)), (4, .pointer (some ⟨gw_4, 0, none⟩)), (5, .int .i64 i_5), (16, .bool (decide (i_5 < n_0)))]) (.cons rfl (.cons rfl (.cons rfl (.cons rfl (.cons rfl (.nil _)))))) ?_
  refine ke_cond (t := decide (i_5 < n_0)) rfl (fun hc21 => ?_) (fun hc21 => ?_)
  ·replace hS := ite_true' hS hc21
   refine ke_skip ?_
   refine ke_seq ?_
   refine ke_block ?_
   refine ke_seq ?_
   refine ke_region ?_
   refine sr_ev (v := .int .i64 0) (ev_assign rfl) (by decide) ?_
   refine sr_end (l' := [(0, .int .i64 n_0), (3, .pointer (some ⟨gd_3, 0, none⟩)), (4, .pointer (some ⟨gw_4, 0, none⟩)), (5, .int .i64 i_5), (6, .int .i64 0)]) (.cons rfl (.cons rfl (.cons rfl (.cons rfl (.cons rfl (.nil _)))))) ?_
   refine ke_seq ?_
   refine ke_seq ?_
   refine ke_region ?_
   refine sr_ev (v := .int .i64 i_5) (ev_move rfl) (by decide) ?_
   refine sr_ev (v := .bool (decide (i_5 ≥ 256))) (ev_ge rfl rfl) (by decide) ?_
   refine sr_end (l' := [(0, .int .i64 n_0), (3, .pointer (some ⟨gd_3, 0, none⟩)), (4, .pointer (some ⟨gw_4, 0, none⟩)), (5, .int .i64 i_5), (6, .int .i64 0), (20, .bool (decide (i_5 ≥ 256)))]) (.cons rfl (.cons rfl (.cons rfl (.cons rfl (.cons rfl (.cons rfl (.nil _))))))) ?_
   refine ke_cond (t := decide (i_5 ≥ 256)) rfl (fun hc22 => ?_) (fun hc22 => ?_)
   ·replace hS := ite_true' hS hc22
    refine ke_region ?_
    refine sr_ev (v := .int .i64 3) (ev_assign rfl) (by decide) ?_
    refine sr_end (l' := [(0, .int .i64 n_0), (3, .pointer (some ⟨gd_3, 0, none⟩)), (4, .pointer (some ⟨gw_4, 0, none⟩)), (5, .int .i64 i_5), (6, .int .i64 3)]) (.cons rfl (.cons rfl (.cons rfl (.cons rfl (.cons rfl (.nil _)))))) ?_
    have hK := law35_DelegateLimits_B2_ok hg hbd hz _ hr0 hS hb ⟨_, hB20, h19⟩ hBw_4
    exact ke_weaken (l' := [(0, .int .i64 n_0), (3, .pointer (some ⟨gd_3, 0, none⟩)), (4, .pointer (some ⟨gw_4, 0, none⟩)), (5, .int .i64 i_5), (6, .int .i64 3)]) (.cons rfl (.cons rfl (.cons rfl (.cons rfl (.cons rfl (.nil _)))))) hK
   ·replace hS := ite_false' hS hc22
    refine ke_skip ?_
    have hK := law35_DelegateLimits_B2_ok hg hbd hz _ hr0 hS hb ⟨_, hB20, h19⟩ hBw_4
    exact ke_weaken (l' := [(0, .int .i64 n_0), (3, .pointer (some ⟨gd_3, 0, none⟩)), (4, .pointer (some ⟨gw_4, 0, none⟩)), (5, .int .i64 i_5), (6, .int .i64 0)]) (.cons rfl (.cons rfl (.cons rfl (.cons rfl (.cons rfl (.nil _)))))) hK
  ·replace hS := ite_false' hS hc21
   refine ke_exit (k' := _) rfl ?_
   refine ke_seq ?_
   refine ke_seq ?_
   refine ke_region ?_
   refine sr_ev (v := .int .i64 n_0) (ev_move rfl) (by decide) ?_
   refine sr_ev (v := .bool (n_0 == 0)) (ev_eq rfl rfl) (by decide) ?_
   refine sr_end (l' := [(0, .int .i64 n_0), (3, .pointer (some ⟨gd_3, 0, none⟩)), (4, .pointer (some ⟨gw_4, 0, none⟩)), (30, .bool (n_0 == 0))]) (.cons rfl (.cons rfl (.cons rfl (.cons rfl (.nil _))))) ?_
   refine ke_cond (t := n_0 == 0) rfl (fun hc188 => ?_) (fun hc188 => ?_)
   ·replace hS := ite_true' hS hc188
    refine ke_seq ?_
    refine ke_region ?_
    refine sr_ev (v := .pointer (some ⟨gd_3, 0, none⟩)) (ev_move rfl) (by decide) ?_
    obtain ⟨y189, hy190, hS⟩ := bind_some' hS
    refine sr_call (vs := [.pointer (some ⟨gd_3, 0, none⟩), str ([97, 110, 110])]) rfl Try.call24 rfl (delegate_Delegations_Drop_ok _ (hg.fr hz hb) (ρA := ρ) hb.bd (hz.fr hg hb) (o := 100) (by decide) (⟨_, hB20, h19⟩ : delegate_Delegations.O (fun p => 100 + p) ρ w gd_3 od_3) hy190) (by decide) ?_
    rintro _ w191 ⟨ρ197, rfl, ⟨v194, hB196, h195⟩, htr193⟩
    replace hb := hb.trans htr193
    replace hB196 : Blk ρ197 100 w191 gd_3 (.cells #[v194] 54 (0, 0)) := hB196
    replace h195 : MapT delegate_way.ek delegate_delegation.c true ρ197 101 w191 v194 y189.2.ways := h195
    refine sr_ev (v := .bool (y189.1 == 0)) (ev_eq rfl rfl) (by decide) ?_
    refine sr_ev (v := .bool (y189.1 == 0)) (ev_move rfl) (by decide) ?_
    obtain ⟨z200, hz202, hS⟩ := bind_some' hS
    refine sr_join (m := 2) (C := fun (z : Bool) w1 => z200 = z ∧ ∃ ρ1, Tr ρ197 w191 (fun _ => false) ρ1 w1) (l' := fun z => [(36, .bool z)]) ?_ ?_
    ·rintro _ w203 ⟨rfl, ρ204, hj201⟩
     replace hb := hb.trans hj201
     refine sr_ev (v := .bool z200) (ev_assign rfl) (by decide) ?_
     refine sr_end (l' := [(2, .bool z200)]) (.cons rfl (.nil _)) ?_
     cases hS
     exact ke_ret1 Try.func4 rfl rfl ⟨_, rfl, rfl, (hb.below (flat1_le _))⟩
    ·intro K199
     clear hS
     have hj201 : Tr ρ197 w191 (fun _ => false) ρ197 w191 := (Tr.refl hb.bd).weak (fun _ _ => rfl) rfl rfl
     rcases Bool.eq_false_or_eq_true (y189.1 == 0) with hg198 | hg198
     ·have hS := ite_true' hz202 hg198
      obtain ⟨y206, hy207, hS⟩ := bind_some' hS
      refine sr_callg (b := true) (e := 34) rfl rfl hg198 (vs := []) rfl Try.call10 rfl (law35_awake_ok _ (hg.fr hz hb) (ρA := ρ197) hb.bd (hz.fr hg hb) hy207) (by decide) ?_
      rintro _ w208 ⟨rfl, hbw209⟩
      have htr210 := Tr.of_below hbw209 hb.bd
      replace hb := hb.trans htr210
      replace hj201 := (hj201.trans htr210).weak (J' := (fun _ => false)) (by intro t h; simp [rng] at h ⊢ <;> omega) rfl rfl
      refine sr_ev (v := .bool y206) (ev_pick_t rfl hg198 rfl) (by decide) ?_
      exact sr_weaken (l' := [(36, .bool y206)]) (.cons rfl (.nil _)) (K199 y206 _ ⟨(Option.some.inj hS).symm, _, hj201⟩)
     ·have hS := ite_false' hz202 hg198
      refine sr_pass (e := 34) rfl rfl (by rw [hg198]; rfl) (by decide) ?_
      refine sr_ev (v := .bool false) (ev_pick_f rfl hg198 rfl) (by decide) ?_
      exact sr_weaken (l' := [(36, .bool false)]) (.cons rfl (.nil _)) (K199 false _ ⟨(Option.some.inj hS).symm, _, hj201⟩)
   ·replace hS := ite_false' hS hc188
    refine ke_skip ?_
    refine ke_seq ?_
    refine ke_region_j (ρ := ρ) (fun t => ([100, 101] : List Nat).contains t) 24 Try.mixed (fun w212 hw211 => ?_)
    have htr213 := Tr.of_below hw211 hb.bd
    replace hB20 := hB20.mv (htr213.mv (i := 100) rfl)
    replace h19 := h19.mv (htr213.mv (i := 101) rfl)
    replace hBw_4 := hBw_4.mv (htr213.mv (i := 6) rfl)
    replace hb := hb.trans htr213
    refine dj_H 0 (v := .pointer (some ⟨gd_3, 0, none⟩)) (by kernel_rfl) (by kernel_rfl) rfl (fun _ _ _ h => h) (sj_refl hb.bd rfl rfl) (fun w1 ρ1 hw1 => ev_move rfl) (by decide) ?_
    refine dj_H 3 (v := .agg #[.int .i64 w_4_0, .int .i64 w_4_1]) (by kernel_rfl) (by kernel_rfl) rfl (fun _ _ _ h => h) (sj_refl hb.bd rfl rfl) (fun w1 ρ1 hw1 => ev_loads (cs := [.int .i64 w_4_0, .int .i64 w_4_1]) Try.isAgg33 Try.sizeOf33 rfl ((hBw_4.mv (hw1.mv (i := 6) rfl)).cells (vs := [.int .i64 w_4_0, .int .i64 w_4_1]) rfl)) (by decide) ?_
    obtain ⟨y812, hy813, hS⟩ := bind_some' hS
    obtain ⟨y824, hy825, hS⟩ := bind_some' hS
    refine dj_all [1, 2] (by kernel_rfl) (fun i hi => ?_)
    simp only [List.mem_cons, List.not_mem_nil, or_false] at hi
    rcases hi with rfl | rfl
    ·refine ⟨_, rfl, ?_⟩
     have jt833 : Tr ρ w212 (fun t => ([100, 101] : List Nat).contains t) ρ w212 := (Tr.refl hb.bd).weak (fun _ _ => rfl) rfl rfl
     refine sr_call (vs := [.int .i64 0]) rfl Try.call23 rfl (law35_name_ok _ (hg.fr hz hb) hy813) (by decide) ?_
     rintro _ w836 ⟨rfl, hbw837⟩
     have htr838 := Tr.of_below hbw837 hb.bd
     replace hB20 := hB20.mv (htr838.mv (i := 100) rfl)
     replace h19 := h19.mv (htr838.mv (i := 101) rfl)
     replace hb := hb.trans htr838
     replace jt833 := (jt833.trans htr838).weak (J' := (fun t => ([100, 101] : List Nat).contains t)) (by intro t h; simp [rng] at h ⊢ <;> omega) rfl rfl
     refine dj_next (l' := [(0, .int .i64 n_0), (3, .pointer (some ⟨gd_3, 0, none⟩)), (37, .pointer (some ⟨gd_3, 0, none⟩)), (38, str y812), (40, .agg #[.int .i64 w_4_0, .int .i64 w_4_1])]) rfl (.cons rfl (.cons rfl (.cons rfl (.cons rfl (.cons rfl (.nil _)))))) jt833 (by intro t h; simp [rng] at h ⊢ <;> omega) rfl rfl ?_
     refine dj_E 2 (by kernel_rfl) rfl ?_
     have jt839 : Tr ρ w836 (fun t => ([100, 101] : List Nat).contains t) ρ w836 := (Tr.refl hb.bd).weak (fun _ _ => rfl) rfl rfl
     refine sr_litT (c := strC) (ρ := ρ) (E := 9) (xs := [[98]]) (vs := #[(0, str ([98]))]) (cs := #[str ([98])]) (css := [[str ([98])]]) rfl (fun _ => by kernel_rfl) rfl ⟨rfl, trivial⟩ rfl (by decide) hb.bd (by decide) ?_
     intro v840 w842 h841 hbw844
     have htr843 := Tr.of_below hbw844 hb.bd
     replace hB20 := hB20.mv (htr843.mv (i := 100) rfl)
     replace h19 := h19.mv (htr843.mv (i := 101) rfl)
     replace hb := hb.trans htr843
     replace jt839 := (jt839.trans htr843).weak (J' := (fun t => ([100, 101] : List Nat).contains t)) (by intro t h; simp [rng] at h ⊢ <;> omega) rfl rfl
     refine dj_next (l' := [(0, .int .i64 n_0), (3, .pointer (some ⟨gd_3, 0, none⟩)), (37, .pointer (some ⟨gd_3, 0, none⟩)), (38, str y812), (39, v840), (40, .agg #[.int .i64 w_4_0, .int .i64 w_4_1])]) rfl (.cons rfl (.cons rfl (.cons rfl (.cons rfl (.cons rfl (.cons rfl (.nil _))))))) jt839 (by intro t h; simp [rng] at h ⊢ <;> omega) rfl rfl ?_
     refine dj_E 4 (by kernel_rfl) rfl ?_
     have jt845 : Tr ρ w842 (fun t => ([100, 101] : List Nat).contains t) ρ w842 := (Tr.refl hb.bd).weak (fun _ _ => rfl) rfl rfl
     refine sr_call (vs := [.pointer (some ⟨gd_3, 0, none⟩), str ([97, 110, 110]), str y812, v840, .agg #[.int .i64 w_4_0, .int .i64 w_4_1]]) rfl Try.call22 rfl (delegate_Delegations_Allow_ok (w_4 := (api_Window.mk w_4_0 w_4_1)) _ (hg.fr hz hb) (ρA := ρ) hb.bd (hz.fr hg hb) (o := 100) (by decide) h841 (⟨_, hB20, h19⟩ : delegate_Delegations.O (fun p => 100 + p) ρ w842 gd_3 od_3) hy825) (by decide) ?_
     rintro _ w848 ⟨ρ854, rfl, ⟨v851, hB853, h852⟩, htr850⟩
     replace hb := hb.trans htr850
     replace jt845 := (jt845.trans htr850).weak (J' := (fun t => ([100, 101] : List Nat).contains t)) (by intro t h; simp [rng] at h ⊢ <;> omega) rfl rfl
     replace hB853 : Blk ρ854 100 w848 gd_3 (.cells #[v851] 54 (0, 0)) := hB853
     replace h852 : MapT delegate_way.ek delegate_delegation.c true ρ854 101 w848 v851 y824.2.ways := h852
     refine dj_next (l' := [(0, .int .i64 n_0), (3, .pointer (some ⟨gd_3, 0, none⟩)), (41, .int .i64 y824.1)]) rfl (.cons rfl (.cons rfl (.cons rfl (.nil _)))) jt845 (by intro t h; simp [rng] at h ⊢ <;> omega) rfl rfl ?_
     refine dj_H 5 (v := .bool (y824.1 == 0)) (by kernel_rfl) (by kernel_rfl) rfl (fun _ _ _ h => h) (sj_refl hb.bd rfl rfl) (fun w1 ρ1 hw1 => ev_eq rfl rfl) (by decide) ?_
     refine dj_H 6 (v := .bool (y824.1 == 0)) (by kernel_rfl) (by kernel_rfl) rfl (fun _ _ _ h => h) (sj_refl hb.bd rfl rfl) (fun w1 ρ1 hw1 => ev_move rfl) (by decide) ?_
     rcases Bool.eq_false_or_eq_true (y824.1 == 0) with hg855 | hg855
     ·replace hS := ite_true' hS hg855
      refine dj_Hg 7 (v := .pointer (some ⟨gd_3, 0, none⟩)) (by kernel_rfl) (by kernel_rfl) rfl rfl rfl hg855 (fun _ _ _ h => h) (sj_refl hb.bd rfl rfl) (fun w1 ρ1 hw1 => ev_move rfl) (by decide) ?_
      refine dj_all [8, 10] (by kernel_rfl) (fun i hi => ?_)
      simp only [List.mem_cons, List.not_mem_nil, or_false] at hi
      rcases hi with rfl | rfl
      ·refine ⟨_, rfl, ?_⟩
       have jt856 : Tr ρ854 w848 (fun t => ([100, 101] : List Nat).contains t) ρ854 w848 := (Tr.refl hb.bd).weak (fun _ _ => rfl) rfl rfl
       refine sr_callg (b := true) (e := 43) rfl rfl hg855 (vs := [.int .i64 0]) rfl Try.call23 rfl (law35_name_ok _ (hg.fr hz hb) hy813) (by decide) ?_
       rintro _ w859 ⟨rfl, hbw860⟩
       have htr861 := Tr.of_below hbw860 hb.bd
       replace hB853 := hB853.mv (htr861.mv (i := 100) rfl)
       replace h852 := h852.mv (htr861.mv (i := 101) rfl)
       replace hb := hb.trans htr861
       replace jt856 := (jt856.trans htr861).weak (J' := (fun t => ([100, 101] : List Nat).contains t)) (by intro t h; simp [rng] at h ⊢ <;> omega) rfl rfl
       refine dj_next (l' := [(0, .int .i64 n_0), (3, .pointer (some ⟨gd_3, 0, none⟩)), (43, .bool (y824.1 == 0)), (44, .pointer (some ⟨gd_3, 0, none⟩)), (45, str y812)]) rfl (.cons rfl (.cons rfl (.cons rfl (.cons rfl (.cons rfl (.nil _)))))) jt856 (by intro t h; simp [rng] at h ⊢ <;> omega) rfl rfl ?_
       refine dj_all [9, 10] (by kernel_rfl) (fun i hi => ?_)
       simp only [List.mem_cons, List.not_mem_nil, or_false] at hi
       rcases hi with rfl | rfl
       ·refine ⟨_, rfl, ?_⟩
        have jt862 : Tr ρ854 w859 (fun t => ([100, 101] : List Nat).contains t) ρ854 w859 := (Tr.refl hb.bd).weak (fun _ _ => rfl) rfl rfl
        obtain ⟨y863, hy864, hS⟩ := bind_some' hS
        refine sr_callg (b := true) (e := 43) rfl rfl hg855 (vs := [.pointer (some ⟨gd_3, 0, none⟩), str ([97, 110, 110]), str y812, .int .i64 1]) rfl Try.call16 rfl (delegate_Delegations_Scopes_ok _ (hg.fr hz hb) (ρA := ρ854) hb.bd (hz.fr hg hb) (τ0 := (fun p => 100 + p)) (fun p => Nat.le_add_right_of_le (by decide)) (⟨_, hB853, h852⟩ : delegate_Delegations.O (fun p => 100 + p) ρ854 w859 gd_3 y824.2) hy864) (by decide) ?_
        rintro v868 w865 ⟨_, rfl, h869, hbw866⟩
        have htr867 := Tr.of_below hbw866 hb.bd
        replace hB853 := hB853.mv (htr867.mv (i := 100) rfl)
        replace h852 := h852.mv (htr867.mv (i := 101) rfl)
        replace hb := hb.trans htr867
        replace jt862 := (jt862.trans htr867).weak (J' := (fun t => ([100, 101] : List Nat).contains t)) (by intro t h; simp [rng] at h ⊢ <;> omega) rfl rfl
        refine dj_next (l' := [(0, .int .i64 n_0), (3, .pointer (some ⟨gd_3, 0, none⟩)), (43, .bool (y824.1 == 0)), (46, v868)]) rfl (.cons rfl (.cons rfl (.cons rfl (.cons rfl (.nil _))))) jt862 (by intro t h; simp [rng] at h ⊢ <;> omega) rfl rfl ?_
        refine dj_E 10 (by kernel_rfl) rfl ?_
        have jt870 : Tr ρ854 w865 (fun t => ([100, 101] : List Nat).contains t) ρ854 w865 := (Tr.refl hb.bd).weak (fun _ _ => rfl) rfl rfl
        refine sr_unguard rfl rfl hg855 ?_
        refine sr_litT (c := strC) (ρ := ρ854) (E := 9) (xs := [[98]]) (vs := #[(0, str ([98]))]) (cs := #[str ([98])]) (css := [[str ([98])]]) rfl (fun _ => by kernel_rfl) rfl ⟨rfl, trivial⟩ rfl (by decide) hb.bd (by decide) ?_
        intro v871 w873 h872 hbw875
        have htr874 := Tr.of_below hbw875 hb.bd
        replace h869 := h869.mv htr874.rd
        replace hB853 := hB853.mv (htr874.mv (i := 100) rfl)
        replace h852 := h852.mv (htr874.mv (i := 101) rfl)
        replace hb := hb.trans htr874
        replace jt870 := (jt870.trans htr874).weak (J' := (fun t => ([100, 101] : List Nat).contains t)) (by intro t h; simp [rng] at h ⊢ <;> omega) rfl rfl
        refine dj_next (l' := [(0, .int .i64 n_0), (3, .pointer (some ⟨gd_3, 0, none⟩)), (43, .bool (y824.1 == 0)), (46, v868), (47, v871)]) rfl (.cons rfl (.cons rfl (.cons rfl (.cons rfl (.cons rfl (.nil _)))))) jt870 (by intro t h; simp [rng] at h ⊢ <;> omega) rfl rfl ?_
        refine dj_E 11 (by kernel_rfl) rfl ?_
        have jt876 : Tr ρ854 w873 (fun t => ([100, 101] : List Nat).contains t) ρ854 w873 := (Tr.refl hb.bd).weak (fun _ _ => rfl) rfl rfl
        obtain ⟨y877, hy878, hS⟩ := bind_some' hS
        refine sr_callg (b := true) (e := 43) rfl rfl hg855 (vs := [v868, v871]) rfl Try.call15 rfl (ref03_Same_ok _ (hg.fr hz hb) h869.asSl h872.asSl hy878) (by decide) ?_
        rintro _ w879 ⟨rfl, hbw880⟩
        have htr881 := Tr.of_below hbw880 hb.bd
        replace hB853 := hB853.mv (htr881.mv (i := 100) rfl)
        replace h852 := h852.mv (htr881.mv (i := 101) rfl)
        replace hb := hb.trans htr881
        replace jt876 := (jt876.trans htr881).weak (J' := (fun t => ([100, 101] : List Nat).contains t)) (by intro t h; simp [rng] at h ⊢ <;> omega) rfl rfl
        refine dj_next (l' := [(0, .int .i64 n_0), (3, .pointer (some ⟨gd_3, 0, none⟩)), (43, .bool (y824.1 == 0)), (48, .bool y877)]) rfl (.cons rfl (.cons rfl (.cons rfl (.cons rfl (.nil _))))) jt876 (by intro t h; simp [rng] at h ⊢ <;> omega) rfl rfl ?_
        refine dj_H 12 (v := .bool y877) (by kernel_rfl) (by kernel_rfl) rfl (fun _ _ _ h => h) (sj_refl hb.bd rfl rfl) (fun w1 ρ1 hw1 => ev_pick_t rfl hg855 rfl) (by decide) ?_
        refine dj_H 13 (v := .bool y877) (by kernel_rfl) (by kernel_rfl) rfl (fun _ _ _ h => h) (sj_refl hb.bd rfl rfl) (fun w1 ρ1 hw1 => ev_move rfl) (by decide) ?_
        rcases Bool.eq_false_or_eq_true (y877) with hg882 | hg882
        ·replace hS := ite_true' hS hg882
         refine dj_Hg 14 (v := .pointer (some ⟨gd_3, 0, none⟩)) (by kernel_rfl) (by kernel_rfl) rfl rfl rfl hg882 (fun _ _ _ h => h) (sj_refl hb.bd rfl rfl) (fun w1 ρ1 hw1 => ev_move rfl) (by decide) ?_
         refine dj_Hg 16 (v := .int .i64 n_0) (by kernel_rfl) (by kernel_rfl) rfl rfl rfl hg882 (fun _ _ _ h => h) (sj_refl hb.bd rfl rfl) (fun w1 ρ1 hw1 => ev_move rfl) (by decide) ?_
         refine dj_Hg 17 (v := .int .i64 (gmin n_0 256)) (by kernel_rfl) (by kernel_rfl) rfl rfl rfl hg882 (fun _ _ _ h => h) (sj_refl hb.bd rfl rfl) (fun w1 ρ1 hw1 => ev_min rfl rfl) (by decide) ?_
         refine dj_E 15 (by kernel_rfl) rfl ?_
         have jt883 : Tr ρ854 w879 (fun t => ([100, 101] : List Nat).contains t) ρ854 w879 := (Tr.refl hb.bd).weak (fun _ _ => rfl) rfl rfl
         obtain ⟨y884, hy885, hS⟩ := bind_some' hS
         refine sr_callg (b := true) (e := 50) rfl rfl hg882 (vs := [.pointer (some ⟨gd_3, 0, none⟩), str ([97, 110, 110])]) rfl Try.call24 rfl (delegate_Delegations_Drop_ok _ (hg.fr hz hb) (ρA := ρ854) hb.bd (hz.fr hg hb) (o := 100) (by decide) (⟨_, hB853, h852⟩ : delegate_Delegations.O (fun p => 100 + p) ρ854 w879 gd_3 y824.2) hy885) (by decide) ?_
         rintro _ w886 ⟨ρ892, rfl, ⟨v889, hB891, h890⟩, htr888⟩
         replace hb := hb.trans htr888
         replace jt883 := (jt883.trans htr888).weak (J' := (fun t => ([100, 101] : List Nat).contains t)) (by intro t h; simp [rng] at h ⊢ <;> omega) rfl rfl
         replace hB891 : Blk ρ892 100 w886 gd_3 (.cells #[v889] 54 (0, 0)) := hB891
         replace h890 : MapT delegate_way.ek delegate_delegation.c true ρ892 101 w886 v889 y884.2.ways := h890
         refine dj_next (l' := [(50, .bool y877), (52, .int .i64 y884.1), (54, .int .i64 (gmin n_0 256))]) rfl (.cons rfl (.cons rfl (.cons rfl (.nil _)))) jt883 (by intro t h; simp [rng] at h ⊢ <;> omega) rfl rfl ?_
         refine dj_Hg 18 (v := .bool (y884.1 == (gmin n_0 256))) (by kernel_rfl) (by kernel_rfl) rfl rfl rfl hg882 (fun _ _ _ h => h) (sj_refl hb.bd rfl rfl) (fun w1 ρ1 hw1 => ev_eq rfl rfl) (by decide) ?_
         refine dj_H 19 (v := .bool (y884.1 == (gmin n_0 256))) (by kernel_rfl) (by kernel_rfl) rfl (fun _ _ _ h => h) (sj_refl hb.bd rfl rfl) (fun w1 ρ1 hw1 => ev_pick_t rfl hg882 rfl) (by decide) ?_
         refine dj_H 20 (v := .bool (y884.1 == (gmin n_0 256))) (by kernel_rfl) (by kernel_rfl) rfl (fun _ _ _ h => h) (sj_refl hb.bd rfl rfl) (fun w1 ρ1 hw1 => ev_move rfl) (by decide) ?_
         rcases Bool.eq_false_or_eq_true (y884.1 == (gmin n_0 256)) with hg893 | hg893
         ·replace hS := ite_true' hS hg893
          refine dj_E 21 (by kernel_rfl) rfl ?_
          have jt894 : Tr ρ892 w886 (fun t => ([100, 101] : List Nat).contains t) ρ892 w886 := (Tr.refl hb.bd).weak (fun _ _ => rfl) rfl rfl
          obtain ⟨y895, hy896, hS⟩ := bind_some' hS
          refine sr_callg (b := true) (e := 57) rfl rfl hg893 (vs := []) rfl Try.call10 rfl (law35_awake_ok _ (hg.fr hz hb) (ρA := ρ892) hb.bd (hz.fr hg hb) hy896) (by decide) ?_
          rintro _ w897 ⟨rfl, hbw898⟩
          have htr899 := Tr.of_below hbw898 hb.bd
          replace hb := hb.trans htr899
          replace jt894 := (jt894.trans htr899).weak (J' := (fun t => ([100, 101] : List Nat).contains t)) (by intro t h; simp [rng] at h ⊢ <;> omega) rfl rfl
          refine dj_next (l' := [(57, .bool (y884.1 == (gmin n_0 256))), (58, .bool y895)]) rfl (.cons rfl (.cons rfl (.nil _))) jt894 (by intro t h; simp [rng] at h ⊢ <;> omega) rfl rfl ?_
          refine dj_H 22 (v := .bool y895) (by kernel_rfl) (by kernel_rfl) rfl (fun _ _ _ h => h) (sj_refl hb.bd rfl rfl) (fun w1 ρ1 hw1 => ev_pick_t rfl hg893 rfl) (by decide) ?_
          refine dj_H 23 (v := .bool y895) (by kernel_rfl) (by kernel_rfl) rfl (fun _ _ _ h => h) (sj_refl hb.bd rfl rfl) (fun w1 ρ1 hw1 => ev_assign rfl) (by decide) ?_
          refine dj_done rfl (by kernel_rfl) ?_
          refine ke_weaken (l' := [(2, .bool y895)]) (.cons rfl (.nil _)) ?_
          cases hS
          exact ke_ret1 Try.func4 rfl rfl ⟨_, rfl, rfl, (hb.below (flat1_le _))⟩
         ·replace hS := ite_false' hS hg893
          refine dj_pass 21 (e := 57) (by kernel_rfl) (by kernel_rfl) rfl rfl rfl rfl rfl (by rw [hg893]; rfl) (fun _ _ _ h => h) (sj_refl hb.bd rfl rfl) (by decide) ?_
          refine dj_H 22 (v := .bool false) (by kernel_rfl) (by kernel_rfl) rfl (fun _ _ _ h => h) (sj_refl hb.bd rfl rfl) (fun w1 ρ1 hw1 => ev_pick_f rfl hg893 rfl) (by decide) ?_
          refine dj_H 23 (v := .bool false) (by kernel_rfl) (by kernel_rfl) rfl (fun _ _ _ h => h) (sj_refl hb.bd rfl rfl) (fun w1 ρ1 hw1 => ev_assign rfl) (by decide) ?_
          refine dj_done rfl (by kernel_rfl) ?_
          refine ke_weaken (l' := [(2, .bool false)]) (.cons rfl (.nil _)) ?_
          cases hS
          exact ke_ret1 Try.func4 rfl rfl ⟨_, rfl, rfl, (hb.below (flat1_le _))⟩
        ·replace hS := ite_false' hS hg882
         refine dj_pass 14 (e := 50) (by kernel_rfl) (by kernel_rfl) rfl rfl rfl rfl rfl (by rw [hg882]; rfl) (fun _ _ _ h => h) (sj_refl hb.bd rfl rfl) (by decide) ?_
         refine dj_pass 15 (e := 50) (by kernel_rfl) (by kernel_rfl) rfl rfl rfl rfl rfl (by rw [hg882]; rfl) (fun _ _ _ h => h) (sj_refl hb.bd rfl rfl) (by decide) ?_
         refine dj_pass 16 (e := 50) (by kernel_rfl) (by kernel_rfl) rfl rfl rfl rfl rfl (by rw [hg882]; rfl) (fun _ _ _ h => h) (sj_refl hb.bd rfl rfl) (by decide) ?_
         refine dj_pass 17 (e := 50) (by kernel_rfl) (by kernel_rfl) rfl rfl rfl rfl rfl (by rw [hg882]; rfl) (fun _ _ _ h => h) (sj_refl hb.bd rfl rfl) (by decide) ?_
         refine dj_pass 18 (e := 50) (by kernel_rfl) (by kernel_rfl) rfl rfl rfl rfl rfl (by rw [hg882]; rfl) (fun _ _ _ h => h) (sj_refl hb.bd rfl rfl) (by decide) ?_
         refine dj_H 19 (v := .bool false) (by kernel_rfl) (by kernel_rfl) rfl (fun _ _ _ h => h) (sj_refl hb.bd rfl rfl) (fun w1 ρ1 hw1 => ev_pick_f rfl hg882 rfl) (by decide) ?_
         refine dj_H 20 (v := .bool false) (by kernel_rfl) (by kernel_rfl) rfl (fun _ _ _ h => h) (sj_refl hb.bd rfl rfl) (fun w1 ρ1 hw1 => ev_move rfl) (by decide) ?_
         refine dj_pass 21 (e := 57) (by kernel_rfl) (by kernel_rfl) rfl rfl rfl rfl rfl rfl (fun _ _ _ h => h) (sj_refl hb.bd rfl rfl) (by decide) ?_
         refine dj_H 22 (v := .bool false) (by kernel_rfl) (by kernel_rfl) rfl (fun _ _ _ h => h) (sj_refl hb.bd rfl rfl) (fun w1 ρ1 hw1 => ev_pick_f rfl rfl rfl) (by decide) ?_
         refine dj_H 23 (v := .bool false) (by kernel_rfl) (by kernel_rfl) rfl (fun _ _ _ h => h) (sj_refl hb.bd rfl rfl) (fun w1 ρ1 hw1 => ev_assign rfl) (by decide) ?_
         refine dj_done rfl (by kernel_rfl) ?_
         refine ke_weaken (l' := [(2, .bool false)]) (.cons rfl (.nil _)) ?_
         cases hS
         exact ke_ret1 Try.func4 rfl rfl ⟨_, rfl, rfl, (hb.below (flat1_le _))⟩
       ·refine ⟨_, rfl, ?_⟩
        have jt900 : Tr ρ854 w859 (fun t => ([100, 101] : List Nat).contains t) ρ854 w859 := (Tr.refl hb.bd).weak (fun _ _ => rfl) rfl rfl
        refine sr_unguard rfl rfl hg855 ?_
        refine sr_litT (c := strC) (ρ := ρ854) (E := 9) (xs := [[98]]) (vs := #[(0, str ([98]))]) (cs := #[str ([98])]) (css := [[str ([98])]]) rfl (fun _ => by kernel_rfl) rfl ⟨rfl, trivial⟩ rfl (by decide) hb.bd (by decide) ?_
        intro v901 w903 h902 hbw905
        have htr904 := Tr.of_below hbw905 hb.bd
        replace hB853 := hB853.mv (htr904.mv (i := 100) rfl)
        replace h852 := h852.mv (htr904.mv (i := 101) rfl)
        replace hb := hb.trans htr904
        replace jt900 := (jt900.trans htr904).weak (J' := (fun t => ([100, 101] : List Nat).contains t)) (by intro t h; simp [rng] at h ⊢ <;> omega) rfl rfl
        refine dj_next (l' := [(0, .int .i64 n_0), (3, .pointer (some ⟨gd_3, 0, none⟩)), (43, .bool (y824.1 == 0)), (44, .pointer (some ⟨gd_3, 0, none⟩)), (45, str y812), (47, v901)]) rfl (.cons rfl (.cons rfl (.cons rfl (.cons rfl (.cons rfl (.cons rfl (.nil _))))))) jt900 (by intro t h; simp [rng] at h ⊢ <;> omega) rfl rfl ?_
        refine dj_E 9 (by kernel_rfl) rfl ?_
        have jt906 : Tr ρ854 w903 (fun t => ([100, 101] : List Nat).contains t) ρ854 w903 := (Tr.refl hb.bd).weak (fun _ _ => rfl) rfl rfl
        obtain ⟨y907, hy908, hS⟩ := bind_some' hS
        refine sr_callg (b := true) (e := 43) rfl rfl hg855 (vs := [.pointer (some ⟨gd_3, 0, none⟩), str ([97, 110, 110]), str y812, .int .i64 1]) rfl Try.call16 rfl (delegate_Delegations_Scopes_ok _ (hg.fr hz hb) (ρA := ρ854) hb.bd (hz.fr hg hb) (τ0 := (fun p => 100 + p)) (fun p => Nat.le_add_right_of_le (by decide)) (⟨_, hB853, h852⟩ : delegate_Delegations.O (fun p => 100 + p) ρ854 w903 gd_3 y824.2) hy908) (by decide) ?_
        rintro v912 w909 ⟨_, rfl, h913, hbw910⟩
        have htr911 := Tr.of_below hbw910 hb.bd
        replace h902 := h902.mv htr911.rd
        replace hB853 := hB853.mv (htr911.mv (i := 100) rfl)
        replace h852 := h852.mv (htr911.mv (i := 101) rfl)
        replace hb := hb.trans htr911
        replace jt906 := (jt906.trans htr911).weak (J' := (fun t => ([100, 101] : List Nat).contains t)) (by intro t h; simp [rng] at h ⊢ <;> omega) rfl rfl
        refine dj_next (l' := [(0, .int .i64 n_0), (3, .pointer (some ⟨gd_3, 0, none⟩)), (43, .bool (y824.1 == 0)), (46, v912), (47, v901)]) rfl (.cons rfl (.cons rfl (.cons rfl (.cons rfl (.cons rfl (.nil _)))))) jt906 (by intro t h; simp [rng] at h ⊢ <;> omega) rfl rfl ?_
        refine dj_E 11 (by kernel_rfl) rfl ?_
        have jt914 : Tr ρ854 w909 (fun t => ([100, 101] : List Nat).contains t) ρ854 w909 := (Tr.refl hb.bd).weak (fun _ _ => rfl) rfl rfl
        obtain ⟨y915, hy916, hS⟩ := bind_some' hS
        refine sr_callg (b := true) (e := 43) rfl rfl hg855 (vs := [v912, v901]) rfl Try.call15 rfl (ref03_Same_ok _ (hg.fr hz hb) h913.asSl h902.asSl hy916) (by decide) ?_
        rintro _ w917 ⟨rfl, hbw918⟩
        have htr919 := Tr.of_below hbw918 hb.bd
        replace hB853 := hB853.mv (htr919.mv (i := 100) rfl)
        replace h852 := h852.mv (htr919.mv (i := 101) rfl)
        replace hb := hb.trans htr919
        replace jt914 := (jt914.trans htr919).weak (J' := (fun t => ([100, 101] : List Nat).contains t)) (by intro t h; simp [rng] at h ⊢ <;> omega) rfl rfl
        refine dj_next (l' := [(0, .int .i64 n_0), (3, .pointer (some ⟨gd_3, 0, none⟩)), (43, .bool (y824.1 == 0)), (48, .bool y915)]) rfl (.cons rfl (.cons rfl (.cons rfl (.cons rfl (.nil _))))) jt914 (by intro t h; simp [rng] at h ⊢ <;> omega) rfl rfl ?_
        refine dj_H 12 (v := .bool y915) (by kernel_rfl) (by kernel_rfl) rfl (fun _ _ _ h => h) (sj_refl hb.bd rfl rfl) (fun w1 ρ1 hw1 => ev_pick_t rfl hg855 rfl) (by decide) ?_
        refine dj_H 13 (v := .bool y915) (by kernel_rfl) (by kernel_rfl) rfl (fun _ _ _ h => h) (sj_refl hb.bd rfl rfl) (fun w1 ρ1 hw1 => ev_move rfl) (by decide) ?_
        rcases Bool.eq_false_or_eq_true (y915) with hg920 | hg920
        ·replace hS := ite_true' hS hg920
         refine dj_Hg 14 (v := .pointer (some ⟨gd_3, 0, none⟩)) (by kernel_rfl) (by kernel_rfl) rfl rfl rfl hg920 (fun _ _ _ h => h) (sj_refl hb.bd rfl rfl) (fun w1 ρ1 hw1 => ev_move rfl) (by decide) ?_
         refine dj_Hg 16 (v := .int .i64 n_0) (by kernel_rfl) (by kernel_rfl) rfl rfl rfl hg920 (fun _ _ _ h => h) (sj_refl hb.bd rfl rfl) (fun w1 ρ1 hw1 => ev_move rfl) (by decide) ?_
         refine dj_Hg 17 (v := .int .i64 (gmin n_0 256)) (by kernel_rfl) (by kernel_rfl) rfl rfl rfl hg920 (fun _ _ _ h => h) (sj_refl hb.bd rfl rfl) (fun w1 ρ1 hw1 => ev_min rfl rfl) (by decide) ?_
         refine dj_E 15 (by kernel_rfl) rfl ?_
         have jt921 : Tr ρ854 w917 (fun t => ([100, 101] : List Nat).contains t) ρ854 w917 := (Tr.refl hb.bd).weak (fun _ _ => rfl) rfl rfl
         obtain ⟨y922, hy923, hS⟩ := bind_some' hS
         refine sr_callg (b := true) (e := 50) rfl rfl hg920 (vs := [.pointer (some ⟨gd_3, 0, none⟩), str ([97, 110, 110])]) rfl Try.call24 rfl (delegate_Delegations_Drop_ok _ (hg.fr hz hb) (ρA := ρ854) hb.bd (hz.fr hg hb) (o := 100) (by decide) (⟨_, hB853, h852⟩ : delegate_Delegations.O (fun p => 100 + p) ρ854 w917 gd_3 y824.2) hy923) (by decide) ?_
         rintro _ w924 ⟨ρ930, rfl, ⟨v927, hB929, h928⟩, htr926⟩
         replace hb := hb.trans htr926
         replace jt921 := (jt921.trans htr926).weak (J' := (fun t => ([100, 101] : List Nat).contains t)) (by intro t h; simp [rng] at h ⊢ <;> omega) rfl rfl
         replace hB929 : Blk ρ930 100 w924 gd_3 (.cells #[v927] 54 (0, 0)) := hB929
         replace h928 : MapT delegate_way.ek delegate_delegation.c true ρ930 101 w924 v927 y922.2.ways := h928
         refine dj_next (l' := [(50, .bool y915), (52, .int .i64 y922.1), (54, .int .i64 (gmin n_0 256))]) rfl (.cons rfl (.cons rfl (.cons rfl (.nil _)))) jt921 (by intro t h; simp [rng] at h ⊢ <;> omega) rfl rfl ?_
         refine dj_Hg 18 (v := .bool (y922.1 == (gmin n_0 256))) (by kernel_rfl) (by kernel_rfl) rfl rfl rfl hg920 (fun _ _ _ h => h) (sj_refl hb.bd rfl rfl) (fun w1 ρ1 hw1 => ev_eq rfl rfl) (by decide) ?_
         refine dj_H 19 (v := .bool (y922.1 == (gmin n_0 256))) (by kernel_rfl) (by kernel_rfl) rfl (fun _ _ _ h => h) (sj_refl hb.bd rfl rfl) (fun w1 ρ1 hw1 => ev_pick_t rfl hg920 rfl) (by decide) ?_
         refine dj_H 20 (v := .bool (y922.1 == (gmin n_0 256))) (by kernel_rfl) (by kernel_rfl) rfl (fun _ _ _ h => h) (sj_refl hb.bd rfl rfl) (fun w1 ρ1 hw1 => ev_move rfl) (by decide) ?_
         rcases Bool.eq_false_or_eq_true (y922.1 == (gmin n_0 256)) with hg931 | hg931
         ·replace hS := ite_true' hS hg931
          refine dj_E 21 (by kernel_rfl) rfl ?_
          have jt932 : Tr ρ930 w924 (fun t => ([100, 101] : List Nat).contains t) ρ930 w924 := (Tr.refl hb.bd).weak (fun _ _ => rfl) rfl rfl
          obtain ⟨y933, hy934, hS⟩ := bind_some' hS
          refine sr_callg (b := true) (e := 57) rfl rfl hg931 (vs := []) rfl Try.call10 rfl (law35_awake_ok _ (hg.fr hz hb) (ρA := ρ930) hb.bd (hz.fr hg hb) hy934) (by decide) ?_
          rintro _ w935 ⟨rfl, hbw936⟩
          have htr937 := Tr.of_below hbw936 hb.bd
          replace hb := hb.trans htr937
          replace jt932 := (jt932.trans htr937).weak (J' := (fun t => ([100, 101] : List Nat).contains t)) (by intro t h; simp [rng] at h ⊢ <;> omega) rfl rfl
          refine dj_next (l' := [(57, .bool (y922.1 == (gmin n_0 256))), (58, .bool y933)]) rfl (.cons rfl (.cons rfl (.nil _))) jt932 (by intro t h; simp [rng] at h ⊢ <;> omega) rfl rfl ?_
          refine dj_H 22 (v := .bool y933) (by kernel_rfl) (by kernel_rfl) rfl (fun _ _ _ h => h) (sj_refl hb.bd rfl rfl) (fun w1 ρ1 hw1 => ev_pick_t rfl hg931 rfl) (by decide) ?_
          refine dj_H 23 (v := .bool y933) (by kernel_rfl) (by kernel_rfl) rfl (fun _ _ _ h => h) (sj_refl hb.bd rfl rfl) (fun w1 ρ1 hw1 => ev_assign rfl) (by decide) ?_
          refine dj_done rfl (by kernel_rfl) ?_
          refine ke_weaken (l' := [(2, .bool y933)]) (.cons rfl (.nil _)) ?_
          cases hS
          exact ke_ret1 Try.func4 rfl rfl ⟨_, rfl, rfl, (hb.below (flat1_le _))⟩
         ·replace hS := ite_false' hS hg931
          refine dj_pass 21 (e := 57) (by kernel_rfl) (by kernel_rfl) rfl rfl rfl rfl rfl (by rw [hg931]; rfl) (fun _ _ _ h => h) (sj_refl hb.bd rfl rfl) (by decide) ?_
          refine dj_H 22 (v := .bool false) (by kernel_rfl) (by kernel_rfl) rfl (fun _ _ _ h => h) (sj_refl hb.bd rfl rfl) (fun w1 ρ1 hw1 => ev_pick_f rfl hg931 rfl) (by decide) ?_
          refine dj_H 23 (v := .bool false) (by kernel_rfl) (by kernel_rfl) rfl (fun _ _ _ h => h) (sj_refl hb.bd rfl rfl) (fun w1 ρ1 hw1 => ev_assign rfl) (by decide) ?_
          refine dj_done rfl (by kernel_rfl) ?_
          refine ke_weaken (l' := [(2, .bool false)]) (.cons rfl (.nil _)) ?_
          cases hS
          exact ke_ret1 Try.func4 rfl rfl ⟨_, rfl, rfl, (hb.below (flat1_le _))⟩
        ·replace hS := ite_false' hS hg920
         refine dj_pass 14 (e := 50) (by kernel_rfl) (by kernel_rfl) rfl rfl rfl rfl rfl (by rw [hg920]; rfl) (fun _ _ _ h => h) (sj_refl hb.bd rfl rfl) (by decide) ?_
         refine dj_pass 15 (e := 50) (by kernel_rfl) (by kernel_rfl) rfl rfl rfl rfl rfl (by rw [hg920]; rfl) (fun _ _ _ h => h) (sj_refl hb.bd rfl rfl) (by decide) ?_
         refine dj_pass 16 (e := 50) (by kernel_rfl) (by kernel_rfl) rfl rfl rfl rfl rfl (by rw [hg920]; rfl) (fun _ _ _ h => h) (sj_refl hb.bd rfl rfl) (by decide) ?_
         refine dj_pass 17 (e := 50) (by kernel_rfl) (by kernel_rfl) rfl rfl rfl rfl rfl (by rw [hg920]; rfl) (fun _ _ _ h => h) (sj_refl hb.bd rfl rfl) (by decide) ?_
         refine dj_pass 18 (e := 50) (by kernel_rfl) (by kernel_rfl) rfl rfl rfl rfl rfl (by rw [hg920]; rfl) (fun _ _ _ h => h) (sj_refl hb.bd rfl rfl) (by decide) ?_
         refine dj_H 19 (v := .bool false) (by kernel_rfl) (by kernel_rfl) rfl (fun _ _ _ h => h) (sj_refl hb.bd rfl rfl) (fun w1 ρ1 hw1 => ev_pick_f rfl hg920 rfl) (by decide) ?_
         refine dj_H 20 (v := .bool false) (by kernel_rfl) (by kernel_rfl) rfl (fun _ _ _ h => h) (sj_refl hb.bd rfl rfl) (fun w1 ρ1 hw1 => ev_move rfl) (by decide) ?_
         refine dj_pass 21 (e := 57) (by kernel_rfl) (by kernel_rfl) rfl rfl rfl rfl rfl rfl (fun _ _ _ h => h) (sj_refl hb.bd rfl rfl) (by decide) ?_
         refine dj_H 22 (v := .bool false) (by kernel_rfl) (by kernel_rfl) rfl (fun _ _ _ h => h) (sj_refl hb.bd rfl rfl) (fun w1 ρ1 hw1 => ev_pick_f rfl rfl rfl) (by decide) ?_
         refine dj_H 23 (v := .bool false) (by kernel_rfl) (by kernel_rfl) rfl (fun _ _ _ h => h) (sj_refl hb.bd rfl rfl) (fun w1 ρ1 hw1 => ev_assign rfl) (by decide) ?_
         refine dj_done rfl (by kernel_rfl) ?_
         refine ke_weaken (l' := [(2, .bool false)]) (.cons rfl (.nil _)) ?_
         cases hS
         exact ke_ret1 Try.func4 rfl rfl ⟨_, rfl, rfl, (hb.below (flat1_le _))⟩
      ·refine ⟨_, rfl, ?_⟩
       have jt938 : Tr ρ854 w848 (fun t => ([100, 101] : List Nat).contains t) ρ854 w848 := (Tr.refl hb.bd).weak (fun _ _ => rfl) rfl rfl
       refine sr_unguard rfl rfl hg855 ?_
       refine sr_litT (c := strC) (ρ := ρ854) (E := 9) (xs := [[98]]) (vs := #[(0, str ([98]))]) (cs := #[str ([98])]) (css := [[str ([98])]]) rfl (fun _ => by kernel_rfl) rfl ⟨rfl, trivial⟩ rfl (by decide) hb.bd (by decide) ?_
       intro v939 w941 h940 hbw943
       have htr942 := Tr.of_below hbw943 hb.bd
       replace hB853 := hB853.mv (htr942.mv (i := 100) rfl)
       replace h852 := h852.mv (htr942.mv (i := 101) rfl)
       replace hb := hb.trans htr942
       replace jt938 := (jt938.trans htr942).weak (J' := (fun t => ([100, 101] : List Nat).contains t)) (by intro t h; simp [rng] at h ⊢ <;> omega) rfl rfl
       refine dj_next (l' := [(0, .int .i64 n_0), (3, .pointer (some ⟨gd_3, 0, none⟩)), (43, .bool (y824.1 == 0)), (44, .pointer (some ⟨gd_3, 0, none⟩)), (47, v939)]) rfl (.cons rfl (.cons rfl (.cons rfl (.cons rfl (.cons rfl (.nil _)))))) jt938 (by intro t h; simp [rng] at h ⊢ <;> omega) rfl rfl ?_
       refine dj_E 8 (by kernel_rfl) rfl ?_
       have jt944 : Tr ρ854 w941 (fun t => ([100, 101] : List Nat).contains t) ρ854 w941 := (Tr.refl hb.bd).weak (fun _ _ => rfl) rfl rfl
       refine sr_callg (b := true) (e := 43) rfl rfl hg855 (vs := [.int .i64 0]) rfl Try.call23 rfl (law35_name_ok _ (hg.fr hz hb) hy813) (by decide) ?_
       rintro _ w947 ⟨rfl, hbw948⟩
       have htr949 := Tr.of_below hbw948 hb.bd
       replace h940 := h940.mv htr949.rd
       replace hB853 := hB853.mv (htr949.mv (i := 100) rfl)
       replace h852 := h852.mv (htr949.mv (i := 101) rfl)
       replace hb := hb.trans htr949
       replace jt944 := (jt944.trans htr949).weak (J' := (fun t => ([100, 101] : List Nat).contains t)) (by intro t h; simp [rng] at h ⊢ <;> omega) rfl rfl
       refine dj_next (l' := [(0, .int .i64 n_0), (3, .pointer (some ⟨gd_3, 0, none⟩)), (43, .bool (y824.1 == 0)), (44, .pointer (some ⟨gd_3, 0, none⟩)), (45, str y812), (47, v939)]) rfl (.cons rfl (.cons rfl (.cons rfl (.cons rfl (.cons rfl (.cons rfl (.nil _))))))) jt944 (by intro t h; simp [rng] at h ⊢ <;> omega) rfl rfl ?_
       refine dj_E 9 (by kernel_rfl) rfl ?_
       have jt950 : Tr ρ854 w947 (fun t => ([100, 101] : List Nat).contains t) ρ854 w947 := (Tr.refl hb.bd).weak (fun _ _ => rfl) rfl rfl
       obtain ⟨y951, hy952, hS⟩ := bind_some' hS
       refine sr_callg (b := true) (e := 43) rfl rfl hg855 (vs := [.pointer (some ⟨gd_3, 0, none⟩), str ([97, 110, 110]), str y812, .int .i64 1]) rfl Try.call16 rfl (delegate_Delegations_Scopes_ok _ (hg.fr hz hb) (ρA := ρ854) hb.bd (hz.fr hg hb) (τ0 := (fun p => 100 + p)) (fun p => Nat.le_add_right_of_le (by decide)) (⟨_, hB853, h852⟩ : delegate_Delegations.O (fun p => 100 + p) ρ854 w947 gd_3 y824.2) hy952) (by decide) ?_
       rintro v956 w953 ⟨_, rfl, h957, hbw954⟩
       have htr955 := Tr.of_below hbw954 hb.bd
       replace h940 := h940.mv htr955.rd
       replace hB853 := hB853.mv (htr955.mv (i := 100) rfl)
       replace h852 := h852.mv (htr955.mv (i := 101) rfl)
       replace hb := hb.trans htr955
       replace jt950 := (jt950.trans htr955).weak (J' := (fun t => ([100, 101] : List Nat).contains t)) (by intro t h; simp [rng] at h ⊢ <;> omega) rfl rfl
       refine dj_next (l' := [(0, .int .i64 n_0), (3, .pointer (some ⟨gd_3, 0, none⟩)), (43, .bool (y824.1 == 0)), (46, v956), (47, v939)]) rfl (.cons rfl (.cons rfl (.cons rfl (.cons rfl (.cons rfl (.nil _)))))) jt950 (by intro t h; simp [rng] at h ⊢ <;> omega) rfl rfl ?_
       refine dj_E 11 (by kernel_rfl) rfl ?_
       have jt958 : Tr ρ854 w953 (fun t => ([100, 101] : List Nat).contains t) ρ854 w953 := (Tr.refl hb.bd).weak (fun _ _ => rfl) rfl rfl
       obtain ⟨y959, hy960, hS⟩ := bind_some' hS
       refine sr_callg (b := true) (e := 43) rfl rfl hg855 (vs := [v956, v939]) rfl Try.call15 rfl (ref03_Same_ok _ (hg.fr hz hb) h957.asSl h940.asSl hy960) (by decide) ?_
       rintro _ w961 ⟨rfl, hbw962⟩
       have htr963 := Tr.of_below hbw962 hb.bd
       replace hB853 := hB853.mv (htr963.mv (i := 100) rfl)
       replace h852 := h852.mv (htr963.mv (i := 101) rfl)
       replace hb := hb.trans htr963
       replace jt958 := (jt958.trans htr963).weak (J' := (fun t => ([100, 101] : List Nat).contains t)) (by intro t h; simp [rng] at h ⊢ <;> omega) rfl rfl
       refine dj_next (l' := [(0, .int .i64 n_0), (3, .pointer (some ⟨gd_3, 0, none⟩)), (43, .bool (y824.1 == 0)), (48, .bool y959)]) rfl (.cons rfl (.cons rfl (.cons rfl (.cons rfl (.nil _))))) jt958 (by intro t h; simp [rng] at h ⊢ <;> omega) rfl rfl ?_
       refine dj_H 12 (v := .bool y959) (by kernel_rfl) (by kernel_rfl) rfl (fun _ _ _ h => h) (sj_refl hb.bd rfl rfl) (fun w1 ρ1 hw1 => ev_pick_t rfl hg855 rfl) (by decide) ?_
       refine dj_H 13 (v := .bool y959) (by kernel_rfl) (by kernel_rfl) rfl (fun _ _ _ h => h) (sj_refl hb.bd rfl rfl) (fun w1 ρ1 hw1 => ev_move rfl) (by decide) ?_
       rcases Bool.eq_false_or_eq_true (y959) with hg964 | hg964
       ·replace hS := ite_true' hS hg964
        refine dj_Hg 14 (v := .pointer (some ⟨gd_3, 0, none⟩)) (by kernel_rfl) (by kernel_rfl) rfl rfl rfl hg964 (fun _ _ _ h => h) (sj_refl hb.bd rfl rfl) (fun w1 ρ1 hw1 => ev_move rfl) (by decide) ?_
        refine dj_Hg 16 (v := .int .i64 n_0) (by kernel_rfl) (by kernel_rfl) rfl rfl rfl hg964 (fun _ _ _ h => h) (sj_refl hb.bd rfl rfl) (fun w1 ρ1 hw1 => ev_move rfl) (by decide) ?_
        refine dj_Hg 17 (v := .int .i64 (gmin n_0 256)) (by kernel_rfl) (by kernel_rfl) rfl rfl rfl hg964 (fun _ _ _ h => h) (sj_refl hb.bd rfl rfl) (fun w1 ρ1 hw1 => ev_min rfl rfl) (by decide) ?_
        refine dj_E 15 (by kernel_rfl) rfl ?_
        have jt965 : Tr ρ854 w961 (fun t => ([100, 101] : List Nat).contains t) ρ854 w961 := (Tr.refl hb.bd).weak (fun _ _ => rfl) rfl rfl
        obtain ⟨y966, hy967, hS⟩ := bind_some' hS
        refine sr_callg (b := true) (e := 50) rfl rfl hg964 (vs := [.pointer (some ⟨gd_3, 0, none⟩), str ([97, 110, 110])]) rfl Try.call24 rfl (delegate_Delegations_Drop_ok _ (hg.fr hz hb) (ρA := ρ854) hb.bd (hz.fr hg hb) (o := 100) (by decide) (⟨_, hB853, h852⟩ : delegate_Delegations.O (fun p => 100 + p) ρ854 w961 gd_3 y824.2) hy967) (by decide) ?_
        rintro _ w968 ⟨ρ974, rfl, ⟨v971, hB973, h972⟩, htr970⟩
        replace hb := hb.trans htr970
        replace jt965 := (jt965.trans htr970).weak (J' := (fun t => ([100, 101] : List Nat).contains t)) (by intro t h; simp [rng] at h ⊢ <;> omega) rfl rfl
        replace hB973 : Blk ρ974 100 w968 gd_3 (.cells #[v971] 54 (0, 0)) := hB973
        replace h972 : MapT delegate_way.ek delegate_delegation.c true ρ974 101 w968 v971 y966.2.ways := h972
        refine dj_next (l' := [(50, .bool y959), (52, .int .i64 y966.1), (54, .int .i64 (gmin n_0 256))]) rfl (.cons rfl (.cons rfl (.cons rfl (.nil _)))) jt965 (by intro t h; simp [rng] at h ⊢ <;> omega) rfl rfl ?_
        refine dj_Hg 18 (v := .bool (y966.1 == (gmin n_0 256))) (by kernel_rfl) (by kernel_rfl) rfl rfl rfl hg964 (fun _ _ _ h => h) (sj_refl hb.bd rfl rfl) (fun w1 ρ1 hw1 => ev_eq rfl rfl) (by decide) ?_
        refine dj_H 19 (v := .bool (y966.1 == (gmin n_0 256))) (by kernel_rfl) (by kernel_rfl) rfl (fun _ _ _ h => h) (sj_refl hb.bd rfl rfl) (fun w1 ρ1 hw1 => ev_pick_t rfl hg964 rfl) (by decide) ?_
        refine dj_H 20 (v := .bool (y966.1 == (gmin n_0 256))) (by kernel_rfl) (by kernel_rfl) rfl (fun _ _ _ h => h) (sj_refl hb.bd rfl rfl) (fun w1 ρ1 hw1 => ev_move rfl) (by decide) ?_
        rcases Bool.eq_false_or_eq_true (y966.1 == (gmin n_0 256)) with hg975 | hg975
        ·replace hS := ite_true' hS hg975
         refine dj_E 21 (by kernel_rfl) rfl ?_
         have jt976 : Tr ρ974 w968 (fun t => ([100, 101] : List Nat).contains t) ρ974 w968 := (Tr.refl hb.bd).weak (fun _ _ => rfl) rfl rfl
         obtain ⟨y977, hy978, hS⟩ := bind_some' hS
         refine sr_callg (b := true) (e := 57) rfl rfl hg975 (vs := []) rfl Try.call10 rfl (law35_awake_ok _ (hg.fr hz hb) (ρA := ρ974) hb.bd (hz.fr hg hb) hy978) (by decide) ?_
         rintro _ w979 ⟨rfl, hbw980⟩
         have htr981 := Tr.of_below hbw980 hb.bd
         replace hb := hb.trans htr981
         replace jt976 := (jt976.trans htr981).weak (J' := (fun t => ([100, 101] : List Nat).contains t)) (by intro t h; simp [rng] at h ⊢ <;> omega) rfl rfl
         refine dj_next (l' := [(57, .bool (y966.1 == (gmin n_0 256))), (58, .bool y977)]) rfl (.cons rfl (.cons rfl (.nil _))) jt976 (by intro t h; simp [rng] at h ⊢ <;> omega) rfl rfl ?_
         refine dj_H 22 (v := .bool y977) (by kernel_rfl) (by kernel_rfl) rfl (fun _ _ _ h => h) (sj_refl hb.bd rfl rfl) (fun w1 ρ1 hw1 => ev_pick_t rfl hg975 rfl) (by decide) ?_
         refine dj_H 23 (v := .bool y977) (by kernel_rfl) (by kernel_rfl) rfl (fun _ _ _ h => h) (sj_refl hb.bd rfl rfl) (fun w1 ρ1 hw1 => ev_assign rfl) (by decide) ?_
         refine dj_done rfl (by kernel_rfl) ?_
         refine ke_weaken (l' := [(2, .bool y977)]) (.cons rfl (.nil _)) ?_
         cases hS
         exact ke_ret1 Try.func4 rfl rfl ⟨_, rfl, rfl, (hb.below (flat1_le _))⟩
        ·replace hS := ite_false' hS hg975
         refine dj_pass 21 (e := 57) (by kernel_rfl) (by kernel_rfl) rfl rfl rfl rfl rfl (by rw [hg975]; rfl) (fun _ _ _ h => h) (sj_refl hb.bd rfl rfl) (by decide) ?_
         refine dj_H 22 (v := .bool false) (by kernel_rfl) (by kernel_rfl) rfl (fun _ _ _ h => h) (sj_refl hb.bd rfl rfl) (fun w1 ρ1 hw1 => ev_pick_f rfl hg975 rfl) (by decide) ?_
         refine dj_H 23 (v := .bool false) (by kernel_rfl) (by kernel_rfl) rfl (fun _ _ _ h => h) (sj_refl hb.bd rfl rfl) (fun w1 ρ1 hw1 => ev_assign rfl) (by decide) ?_
         refine dj_done rfl (by kernel_rfl) ?_
         refine ke_weaken (l' := [(2, .bool false)]) (.cons rfl (.nil _)) ?_
         cases hS
         exact ke_ret1 Try.func4 rfl rfl ⟨_, rfl, rfl, (hb.below (flat1_le _))⟩
       ·replace hS := ite_false' hS hg964
        refine dj_pass 14 (e := 50) (by kernel_rfl) (by kernel_rfl) rfl rfl rfl rfl rfl (by rw [hg964]; rfl) (fun _ _ _ h => h) (sj_refl hb.bd rfl rfl) (by decide) ?_
        refine dj_pass 15 (e := 50) (by kernel_rfl) (by kernel_rfl) rfl rfl rfl rfl rfl (by rw [hg964]; rfl) (fun _ _ _ h => h) (sj_refl hb.bd rfl rfl) (by decide) ?_
        refine dj_pass 16 (e := 50) (by kernel_rfl) (by kernel_rfl) rfl rfl rfl rfl rfl (by rw [hg964]; rfl) (fun _ _ _ h => h) (sj_refl hb.bd rfl rfl) (by decide) ?_
        refine dj_pass 17 (e := 50) (by kernel_rfl) (by kernel_rfl) rfl rfl rfl rfl rfl (by rw [hg964]; rfl) (fun _ _ _ h => h) (sj_refl hb.bd rfl rfl) (by decide) ?_
        refine dj_pass 18 (e := 50) (by kernel_rfl) (by kernel_rfl) rfl rfl rfl rfl rfl (by rw [hg964]; rfl) (fun _ _ _ h => h) (sj_refl hb.bd rfl rfl) (by decide) ?_
        refine dj_H 19 (v := .bool false) (by kernel_rfl) (by kernel_rfl) rfl (fun _ _ _ h => h) (sj_refl hb.bd rfl rfl) (fun w1 ρ1 hw1 => ev_pick_f rfl hg964 rfl) (by decide) ?_
        refine dj_H 20 (v := .bool false) (by kernel_rfl) (by kernel_rfl) rfl (fun _ _ _ h => h) (sj_refl hb.bd rfl rfl) (fun w1 ρ1 hw1 => ev_move rfl) (by decide) ?_
        refine dj_pass 21 (e := 57) (by kernel_rfl) (by kernel_rfl) rfl rfl rfl rfl rfl rfl (fun _ _ _ h => h) (sj_refl hb.bd rfl rfl) (by decide) ?_
        refine dj_H 22 (v := .bool false) (by kernel_rfl) (by kernel_rfl) rfl (fun _ _ _ h => h) (sj_refl hb.bd rfl rfl) (fun w1 ρ1 hw1 => ev_pick_f rfl rfl rfl) (by decide) ?_
        refine dj_H 23 (v := .bool false) (by kernel_rfl) (by kernel_rfl) rfl (fun _ _ _ h => h) (sj_refl hb.bd rfl rfl) (fun w1 ρ1 hw1 => ev_assign rfl) (by decide) ?_
        refine dj_done rfl (by kernel_rfl) ?_
        refine ke_weaken (l' := [(2, .bool false)]) (.cons rfl (.nil _)) ?_
        cases hS
        exact ke_ret1 Try.func4 rfl rfl ⟨_, rfl, rfl, (hb.below (flat1_le _))⟩
     ·replace hS := ite_false' hS hg855
      refine dj_pass 7 (e := 43) (by kernel_rfl) (by kernel_rfl) rfl rfl rfl rfl rfl (by rw [hg855]; rfl) (fun _ _ _ h => h) (sj_refl hb.bd rfl rfl) (by decide) ?_
      refine dj_pass 8 (e := 43) (by kernel_rfl) (by kernel_rfl) rfl rfl rfl rfl rfl (by rw [hg855]; rfl) (fun _ _ _ h => h) (sj_refl hb.bd rfl rfl) (by decide) ?_
      refine dj_pass 9 (e := 43) (by kernel_rfl) (by kernel_rfl) rfl rfl rfl rfl rfl (by rw [hg855]; rfl) (fun _ _ _ h => h) (sj_refl hb.bd rfl rfl) (by decide) ?_
      refine dj_pass 10 (e := 43) (by kernel_rfl) (by kernel_rfl) rfl rfl rfl rfl rfl (by rw [hg855]; rfl) (fun _ _ _ h => h) (sj_refl hb.bd rfl rfl) (by decide) ?_
      refine dj_pass 11 (e := 43) (by kernel_rfl) (by kernel_rfl) rfl rfl rfl rfl rfl (by rw [hg855]; rfl) (fun _ _ _ h => h) (sj_refl hb.bd rfl rfl) (by decide) ?_
      refine dj_H 12 (v := .bool false) (by kernel_rfl) (by kernel_rfl) rfl (fun _ _ _ h => h) (sj_refl hb.bd rfl rfl) (fun w1 ρ1 hw1 => ev_pick_f rfl hg855 rfl) (by decide) ?_
      refine dj_H 13 (v := .bool false) (by kernel_rfl) (by kernel_rfl) rfl (fun _ _ _ h => h) (sj_refl hb.bd rfl rfl) (fun w1 ρ1 hw1 => ev_move rfl) (by decide) ?_
      refine dj_pass 14 (e := 50) (by kernel_rfl) (by kernel_rfl) rfl rfl rfl rfl rfl rfl (fun _ _ _ h => h) (sj_refl hb.bd rfl rfl) (by decide) ?_
      refine dj_pass 15 (e := 50) (by kernel_rfl) (by kernel_rfl) rfl rfl rfl rfl rfl rfl (fun _ _ _ h => h) (sj_refl hb.bd rfl rfl) (by decide) ?_
      refine dj_pass 16 (e := 50) (by kernel_rfl) (by kernel_rfl) rfl rfl rfl rfl rfl rfl (fun _ _ _ h => h) (sj_refl hb.bd rfl rfl) (by decide) ?_
      refine dj_pass 17 (e := 50) (by kernel_rfl) (by kernel_rfl) rfl rfl rfl rfl rfl rfl (fun _ _ _ h => h) (sj_refl hb.bd rfl rfl) (by decide) ?_
      refine dj_pass 18 (e := 50) (by kernel_rfl) (by kernel_rfl) rfl rfl rfl rfl rfl rfl (fun _ _ _ h => h) (sj_refl hb.bd rfl rfl) (by decide) ?_
      refine dj_H 19 (v := .bool false) (by kernel_rfl) (by kernel_rfl) rfl (fun _ _ _ h => h) (sj_refl hb.bd rfl rfl) (fun w1 ρ1 hw1 => ev_pick_f rfl rfl rfl) (by decide) ?_
      refine dj_H 20 (v := .bool false) (by kernel_rfl) (by kernel_rfl) rfl (fun _ _ _ h => h) (sj_refl hb.bd rfl rfl) (fun w1 ρ1 hw1 => ev_move rfl) (by decide) ?_
      refine dj_pass 21 (e := 57) (by kernel_rfl) (by kernel_rfl) rfl rfl rfl rfl rfl rfl (fun _ _ _ h => h) (sj_refl hb.bd rfl rfl) (by decide) ?_
      refine dj_H 22 (v := .bool false) (by kernel_rfl) (by kernel_rfl) rfl (fun _ _ _ h => h) (sj_refl hb.bd rfl rfl) (fun w1 ρ1 hw1 => ev_pick_f rfl rfl rfl) (by decide) ?_
      refine dj_H 23 (v := .bool false) (by kernel_rfl) (by kernel_rfl) rfl (fun _ _ _ h => h) (sj_refl hb.bd rfl rfl) (fun w1 ρ1 hw1 => ev_assign rfl) (by decide) ?_
      refine dj_done rfl (by kernel_rfl) ?_
      refine ke_weaken (l' := [(2, .bool false)]) (.cons rfl (.nil _)) ?_
      cases hS
      exact ke_ret1 Try.func4 rfl rfl ⟨_, rfl, rfl, (hb.below (flat1_le _))⟩
    ·refine ⟨_, rfl, ?_⟩
     have jt982 : Tr ρ w212 (fun t => ([100, 101] : List Nat).contains t) ρ w212 := (Tr.refl hb.bd).weak (fun _ _ => rfl) rfl rfl
     refine sr_litT (c := strC) (ρ := ρ) (E := 9) (xs := [[98]]) (vs := #[(0, str ([98]))]) (cs := #[str ([98])]) (css := [[str ([98])]]) rfl (fun _ => by kernel_rfl) rfl ⟨rfl, trivial⟩ rfl (by decide) hb.bd (by decide) ?_
     intro v983 w985 h984 hbw987
     have htr986 := Tr.of_below hbw987 hb.bd
     replace hB20 := hB20.mv (htr986.mv (i := 100) rfl)
     replace h19 := h19.mv (htr986.mv (i := 101) rfl)
     replace hBw_4 := hBw_4.mv (htr986.mv (i := 6) rfl)
     replace hb := hb.trans htr986
     replace jt982 := (jt982.trans htr986).weak (J' := (fun t => ([100, 101] : List Nat).contains t)) (by intro t h; simp [rng] at h ⊢ <;> omega) rfl rfl
     refine dj_next (l' := [(0, .int .i64 n_0), (3, .pointer (some ⟨gd_3, 0, none⟩)), (37, .pointer (some ⟨gd_3, 0, none⟩)), (39, v983), (40, .agg #[.int .i64 w_4_0, .int .i64 w_4_1])]) rfl (.cons rfl (.cons rfl (.cons rfl (.cons rfl (.cons rfl (.nil _)))))) jt982 (by intro t h; simp [rng] at h ⊢ <;> omega) rfl rfl ?_
     refine dj_E 1 (by kernel_rfl) rfl ?_
     have jt988 : Tr ρ w985 (fun t => ([100, 101] : List Nat).contains t) ρ w985 := (Tr.refl hb.bd).weak (fun _ _ => rfl) rfl rfl
     refine sr_call (vs := [.int .i64 0]) rfl Try.call23 rfl (law35_name_ok _ (hg.fr hz hb) hy813) (by decide) ?_
     rintro _ w991 ⟨rfl, hbw992⟩
     have htr993 := Tr.of_below hbw992 hb.bd
     replace h984 := h984.mv htr993.rd
     replace hB20 := hB20.mv (htr993.mv (i := 100) rfl)
     replace h19 := h19.mv (htr993.mv (i := 101) rfl)
     replace hb := hb.trans htr993
     replace jt988 := (jt988.trans htr993).weak (J' := (fun t => ([100, 101] : List Nat).contains t)) (by intro t h; simp [rng] at h ⊢ <;> omega) rfl rfl
     refine dj_next (l' := [(0, .int .i64 n_0), (3, .pointer (some ⟨gd_3, 0, none⟩)), (37, .pointer (some ⟨gd_3, 0, none⟩)), (38, str y812), (39, v983), (40, .agg #[.int .i64 w_4_0, .int .i64 w_4_1])]) rfl (.cons rfl (.cons rfl (.cons rfl (.cons rfl (.cons rfl (.cons rfl (.nil _))))))) jt988 (by intro t h; simp [rng] at h ⊢ <;> omega) rfl rfl ?_
     refine dj_E 4 (by kernel_rfl) rfl ?_
     have jt994 : Tr ρ w991 (fun t => ([100, 101] : List Nat).contains t) ρ w991 := (Tr.refl hb.bd).weak (fun _ _ => rfl) rfl rfl
     refine sr_call (vs := [.pointer (some ⟨gd_3, 0, none⟩), str ([97, 110, 110]), str y812, v983, .agg #[.int .i64 w_4_0, .int .i64 w_4_1]]) rfl Try.call22 rfl (delegate_Delegations_Allow_ok (w_4 := (api_Window.mk w_4_0 w_4_1)) _ (hg.fr hz hb) (ρA := ρ) hb.bd (hz.fr hg hb) (o := 100) (by decide) h984 (⟨_, hB20, h19⟩ : delegate_Delegations.O (fun p => 100 + p) ρ w991 gd_3 od_3) hy825) (by decide) ?_
     rintro _ w997 ⟨ρ1003, rfl, ⟨v1000, hB1002, h1001⟩, htr999⟩
     replace hb := hb.trans htr999
     replace jt994 := (jt994.trans htr999).weak (J' := (fun t => ([100, 101] : List Nat).contains t)) (by intro t h; simp [rng] at h ⊢ <;> omega) rfl rfl
     replace hB1002 : Blk ρ1003 100 w997 gd_3 (.cells #[v1000] 54 (0, 0)) := hB1002
     replace h1001 : MapT delegate_way.ek delegate_delegation.c true ρ1003 101 w997 v1000 y824.2.ways := h1001
     refine dj_next (l' := [(0, .int .i64 n_0), (3, .pointer (some ⟨gd_3, 0, none⟩)), (41, .int .i64 y824.1)]) rfl (.cons rfl (.cons rfl (.cons rfl (.nil _)))) jt994 (by intro t h; simp [rng] at h ⊢ <;> omega) rfl rfl ?_
     refine dj_H 5 (v := .bool (y824.1 == 0)) (by kernel_rfl) (by kernel_rfl) rfl (fun _ _ _ h => h) (sj_refl hb.bd rfl rfl) (fun w1 ρ1 hw1 => ev_eq rfl rfl) (by decide) ?_
     refine dj_H 6 (v := .bool (y824.1 == 0)) (by kernel_rfl) (by kernel_rfl) rfl (fun _ _ _ h => h) (sj_refl hb.bd rfl rfl) (fun w1 ρ1 hw1 => ev_move rfl) (by decide) ?_
     rcases Bool.eq_false_or_eq_true (y824.1 == 0) with hg1004 | hg1004
     ·replace hS := ite_true' hS hg1004
      refine dj_Hg 7 (v := .pointer (some ⟨gd_3, 0, none⟩)) (by kernel_rfl) (by kernel_rfl) rfl rfl rfl hg1004 (fun _ _ _ h => h) (sj_refl hb.bd rfl rfl) (fun w1 ρ1 hw1 => ev_move rfl) (by decide) ?_
      refine dj_all [8, 10] (by kernel_rfl) (fun i hi => ?_)
      simp only [List.mem_cons, List.not_mem_nil, or_false] at hi
      rcases hi with rfl | rfl
      ·refine ⟨_, rfl, ?_⟩
       have jt1005 : Tr ρ1003 w997 (fun t => ([100, 101] : List Nat).contains t) ρ1003 w997 := (Tr.refl hb.bd).weak (fun _ _ => rfl) rfl rfl
       refine sr_callg (b := true) (e := 43) rfl rfl hg1004 (vs := [.int .i64 0]) rfl Try.call23 rfl (law35_name_ok _ (hg.fr hz hb) hy813) (by decide) ?_
       rintro _ w1008 ⟨rfl, hbw1009⟩
       have htr1010 := Tr.of_below hbw1009 hb.bd
       replace hB1002 := hB1002.mv (htr1010.mv (i := 100) rfl)
       replace h1001 := h1001.mv (htr1010.mv (i := 101) rfl)
       replace hb := hb.trans htr1010
       replace jt1005 := (jt1005.trans htr1010).weak (J' := (fun t => ([100, 101] : List Nat).contains t)) (by intro t h; simp [rng] at h ⊢ <;> omega) rfl rfl
       refine dj_next (l' := [(0, .int .i64 n_0), (3, .pointer (some ⟨gd_3, 0, none⟩)), (43, .bool (y824.1 == 0)), (44, .pointer (some ⟨gd_3, 0, none⟩)), (45, str y812)]) rfl (.cons rfl (.cons rfl (.cons rfl (.cons rfl (.cons rfl (.nil _)))))) jt1005 (by intro t h; simp [rng] at h ⊢ <;> omega) rfl rfl ?_
       refine dj_all [9, 10] (by kernel_rfl) (fun i hi => ?_)
       simp only [List.mem_cons, List.not_mem_nil, or_false] at hi
       rcases hi with rfl | rfl
       ·refine ⟨_, rfl, ?_⟩
        have jt1011 : Tr ρ1003 w1008 (fun t => ([100, 101] : List Nat).contains t) ρ1003 w1008 := (Tr.refl hb.bd).weak (fun _ _ => rfl) rfl rfl
        obtain ⟨y1012, hy1013, hS⟩ := bind_some' hS
        refine sr_callg (b := true) (e := 43) rfl rfl hg1004 (vs := [.pointer (some ⟨gd_3, 0, none⟩), str ([97, 110, 110]), str y812, .int .i64 1]) rfl Try.call16 rfl (delegate_Delegations_Scopes_ok _ (hg.fr hz hb) (ρA := ρ1003) hb.bd (hz.fr hg hb) (τ0 := (fun p => 100 + p)) (fun p => Nat.le_add_right_of_le (by decide)) (⟨_, hB1002, h1001⟩ : delegate_Delegations.O (fun p => 100 + p) ρ1003 w1008 gd_3 y824.2) hy1013) (by decide) ?_
        rintro v1017 w1014 ⟨_, rfl, h1018, hbw1015⟩
        have htr1016 := Tr.of_below hbw1015 hb.bd
        replace hB1002 := hB1002.mv (htr1016.mv (i := 100) rfl)
        replace h1001 := h1001.mv (htr1016.mv (i := 101) rfl)
        replace hb := hb.trans htr1016
        replace jt1011 := (jt1011.trans htr1016).weak (J' := (fun t => ([100, 101] : List Nat).contains t)) (by intro t h; simp [rng] at h ⊢ <;> omega) rfl rfl
        refine dj_next (l' := [(0, .int .i64 n_0), (3, .pointer (some ⟨gd_3, 0, none⟩)), (43, .bool (y824.1 == 0)), (46, v1017)]) rfl (.cons rfl (.cons rfl (.cons rfl (.cons rfl (.nil _))))) jt1011 (by intro t h; simp [rng] at h ⊢ <;> omega) rfl rfl ?_
        refine dj_E 10 (by kernel_rfl) rfl ?_
        have jt1019 : Tr ρ1003 w1014 (fun t => ([100, 101] : List Nat).contains t) ρ1003 w1014 := (Tr.refl hb.bd).weak (fun _ _ => rfl) rfl rfl
        refine sr_unguard rfl rfl hg1004 ?_
        refine sr_litT (c := strC) (ρ := ρ1003) (E := 9) (xs := [[98]]) (vs := #[(0, str ([98]))]) (cs := #[str ([98])]) (css := [[str ([98])]]) rfl (fun _ => by kernel_rfl) rfl ⟨rfl, trivial⟩ rfl (by decide) hb.bd (by decide) ?_
        intro v1020 w1022 h1021 hbw1024
        have htr1023 := Tr.of_below hbw1024 hb.bd
        replace h1018 := h1018.mv htr1023.rd
        replace hB1002 := hB1002.mv (htr1023.mv (i := 100) rfl)
        replace h1001 := h1001.mv (htr1023.mv (i := 101) rfl)
        replace hb := hb.trans htr1023
        replace jt1019 := (jt1019.trans htr1023).weak (J' := (fun t => ([100, 101] : List Nat).contains t)) (by intro t h; simp [rng] at h ⊢ <;> omega) rfl rfl
        refine dj_next (l' := [(0, .int .i64 n_0), (3, .pointer (some ⟨gd_3, 0, none⟩)), (43, .bool (y824.1 == 0)), (46, v1017), (47, v1020)]) rfl (.cons rfl (.cons rfl (.cons rfl (.cons rfl (.cons rfl (.nil _)))))) jt1019 (by intro t h; simp [rng] at h ⊢ <;> omega) rfl rfl ?_
        refine dj_E 11 (by kernel_rfl) rfl ?_
        have jt1025 : Tr ρ1003 w1022 (fun t => ([100, 101] : List Nat).contains t) ρ1003 w1022 := (Tr.refl hb.bd).weak (fun _ _ => rfl) rfl rfl
        obtain ⟨y1026, hy1027, hS⟩ := bind_some' hS
        refine sr_callg (b := true) (e := 43) rfl rfl hg1004 (vs := [v1017, v1020]) rfl Try.call15 rfl (ref03_Same_ok _ (hg.fr hz hb) h1018.asSl h1021.asSl hy1027) (by decide) ?_
        rintro _ w1028 ⟨rfl, hbw1029⟩
        have htr1030 := Tr.of_below hbw1029 hb.bd
        replace hB1002 := hB1002.mv (htr1030.mv (i := 100) rfl)
        replace h1001 := h1001.mv (htr1030.mv (i := 101) rfl)
        replace hb := hb.trans htr1030
        replace jt1025 := (jt1025.trans htr1030).weak (J' := (fun t => ([100, 101] : List Nat).contains t)) (by intro t h; simp [rng] at h ⊢ <;> omega) rfl rfl
        refine dj_next (l' := [(0, .int .i64 n_0), (3, .pointer (some ⟨gd_3, 0, none⟩)), (43, .bool (y824.1 == 0)), (48, .bool y1026)]) rfl (.cons rfl (.cons rfl (.cons rfl (.cons rfl (.nil _))))) jt1025 (by intro t h; simp [rng] at h ⊢ <;> omega) rfl rfl ?_
        refine dj_H 12 (v := .bool y1026) (by kernel_rfl) (by kernel_rfl) rfl (fun _ _ _ h => h) (sj_refl hb.bd rfl rfl) (fun w1 ρ1 hw1 => ev_pick_t rfl hg1004 rfl) (by decide) ?_
        refine dj_H 13 (v := .bool y1026) (by kernel_rfl) (by kernel_rfl) rfl (fun _ _ _ h => h) (sj_refl hb.bd rfl rfl) (fun w1 ρ1 hw1 => ev_move rfl) (by decide) ?_
        rcases Bool.eq_false_or_eq_true (y1026) with hg1031 | hg1031
        ·replace hS := ite_true' hS hg1031
         refine dj_Hg 14 (v := .pointer (some ⟨gd_3, 0, none⟩)) (by kernel_rfl) (by kernel_rfl) rfl rfl rfl hg1031 (fun _ _ _ h => h) (sj_refl hb.bd rfl rfl) (fun w1 ρ1 hw1 => ev_move rfl) (by decide) ?_
         refine dj_Hg 16 (v := .int .i64 n_0) (by kernel_rfl) (by kernel_rfl) rfl rfl rfl hg1031 (fun _ _ _ h => h) (sj_refl hb.bd rfl rfl) (fun w1 ρ1 hw1 => ev_move rfl) (by decide) ?_
         refine dj_Hg 17 (v := .int .i64 (gmin n_0 256)) (by kernel_rfl) (by kernel_rfl) rfl rfl rfl hg1031 (fun _ _ _ h => h) (sj_refl hb.bd rfl rfl) (fun w1 ρ1 hw1 => ev_min rfl rfl) (by decide) ?_
         refine dj_E 15 (by kernel_rfl) rfl ?_
         have jt1032 : Tr ρ1003 w1028 (fun t => ([100, 101] : List Nat).contains t) ρ1003 w1028 := (Tr.refl hb.bd).weak (fun _ _ => rfl) rfl rfl
         obtain ⟨y1033, hy1034, hS⟩ := bind_some' hS
         refine sr_callg (b := true) (e := 50) rfl rfl hg1031 (vs := [.pointer (some ⟨gd_3, 0, none⟩), str ([97, 110, 110])]) rfl Try.call24 rfl (delegate_Delegations_Drop_ok _ (hg.fr hz hb) (ρA := ρ1003) hb.bd (hz.fr hg hb) (o := 100) (by decide) (⟨_, hB1002, h1001⟩ : delegate_Delegations.O (fun p => 100 + p) ρ1003 w1028 gd_3 y824.2) hy1034) (by decide) ?_
         rintro _ w1035 ⟨ρ1041, rfl, ⟨v1038, hB1040, h1039⟩, htr1037⟩
         replace hb := hb.trans htr1037
         replace jt1032 := (jt1032.trans htr1037).weak (J' := (fun t => ([100, 101] : List Nat).contains t)) (by intro t h; simp [rng] at h ⊢ <;> omega) rfl rfl
         replace hB1040 : Blk ρ1041 100 w1035 gd_3 (.cells #[v1038] 54 (0, 0)) := hB1040
         replace h1039 : MapT delegate_way.ek delegate_delegation.c true ρ1041 101 w1035 v1038 y1033.2.ways := h1039
         refine dj_next (l' := [(50, .bool y1026), (52, .int .i64 y1033.1), (54, .int .i64 (gmin n_0 256))]) rfl (.cons rfl (.cons rfl (.cons rfl (.nil _)))) jt1032 (by intro t h; simp [rng] at h ⊢ <;> omega) rfl rfl ?_
         refine dj_Hg 18 (v := .bool (y1033.1 == (gmin n_0 256))) (by kernel_rfl) (by kernel_rfl) rfl rfl rfl hg1031 (fun _ _ _ h => h) (sj_refl hb.bd rfl rfl) (fun w1 ρ1 hw1 => ev_eq rfl rfl) (by decide) ?_
         refine dj_H 19 (v := .bool (y1033.1 == (gmin n_0 256))) (by kernel_rfl) (by kernel_rfl) rfl (fun _ _ _ h => h) (sj_refl hb.bd rfl rfl) (fun w1 ρ1 hw1 => ev_pick_t rfl hg1031 rfl) (by decide) ?_
         refine dj_H 20 (v := .bool (y1033.1 == (gmin n_0 256))) (by kernel_rfl) (by kernel_rfl) rfl (fun _ _ _ h => h) (sj_refl hb.bd rfl rfl) (fun w1 ρ1 hw1 => ev_move rfl) (by decide) ?_
         rcases Bool.eq_false_or_eq_true (y1033.1 == (gmin n_0 256)) with hg1042 | hg1042
         ·replace hS := ite_true' hS hg1042
          refine dj_E 21 (by kernel_rfl) rfl ?_
          have jt1043 : Tr ρ1041 w1035 (fun t => ([100, 101] : List Nat).contains t) ρ1041 w1035 := (Tr.refl hb.bd).weak (fun _ _ => rfl) rfl rfl
          obtain ⟨y1044, hy1045, hS⟩ := bind_some' hS
          refine sr_callg (b := true) (e := 57) rfl rfl hg1042 (vs := []) rfl Try.call10 rfl (law35_awake_ok _ (hg.fr hz hb) (ρA := ρ1041) hb.bd (hz.fr hg hb) hy1045) (by decide) ?_
          rintro _ w1046 ⟨rfl, hbw1047⟩
          have htr1048 := Tr.of_below hbw1047 hb.bd
          replace hb := hb.trans htr1048
          replace jt1043 := (jt1043.trans htr1048).weak (J' := (fun t => ([100, 101] : List Nat).contains t)) (by intro t h; simp [rng] at h ⊢ <;> omega) rfl rfl
          refine dj_next (l' := [(57, .bool (y1033.1 == (gmin n_0 256))), (58, .bool y1044)]) rfl (.cons rfl (.cons rfl (.nil _))) jt1043 (by intro t h; simp [rng] at h ⊢ <;> omega) rfl rfl ?_
          refine dj_H 22 (v := .bool y1044) (by kernel_rfl) (by kernel_rfl) rfl (fun _ _ _ h => h) (sj_refl hb.bd rfl rfl) (fun w1 ρ1 hw1 => ev_pick_t rfl hg1042 rfl) (by decide) ?_
          refine dj_H 23 (v := .bool y1044) (by kernel_rfl) (by kernel_rfl) rfl (fun _ _ _ h => h) (sj_refl hb.bd rfl rfl) (fun w1 ρ1 hw1 => ev_assign rfl) (by decide) ?_
          refine dj_done rfl (by kernel_rfl) ?_
          refine ke_weaken (l' := [(2, .bool y1044)]) (.cons rfl (.nil _)) ?_
          cases hS
          exact ke_ret1 Try.func4 rfl rfl ⟨_, rfl, rfl, (hb.below (flat1_le _))⟩
         ·replace hS := ite_false' hS hg1042
          refine dj_pass 21 (e := 57) (by kernel_rfl) (by kernel_rfl) rfl rfl rfl rfl rfl (by rw [hg1042]; rfl) (fun _ _ _ h => h) (sj_refl hb.bd rfl rfl) (by decide) ?_
          refine dj_H 22 (v := .bool false) (by kernel_rfl) (by kernel_rfl) rfl (fun _ _ _ h => h) (sj_refl hb.bd rfl rfl) (fun w1 ρ1 hw1 => ev_pick_f rfl hg1042 rfl) (by decide) ?_
          refine dj_H 23 (v := .bool false) (by kernel_rfl) (by kernel_rfl) rfl (fun _ _ _ h => h) (sj_refl hb.bd rfl rfl) (fun w1 ρ1 hw1 => ev_assign rfl) (by decide) ?_
          refine dj_done rfl (by kernel_rfl) ?_
          refine ke_weaken (l' := [(2, .bool false)]) (.cons rfl (.nil _)) ?_
          cases hS
          exact ke_ret1 Try.func4 rfl rfl ⟨_, rfl, rfl, (hb.below (flat1_le _))⟩
        ·replace hS := ite_false' hS hg1031
         refine dj_pass 14 (e := 50) (by kernel_rfl) (by kernel_rfl) rfl rfl rfl rfl rfl (by rw [hg1031]; rfl) (fun _ _ _ h => h) (sj_refl hb.bd rfl rfl) (by decide) ?_
         refine dj_pass 15 (e := 50) (by kernel_rfl) (by kernel_rfl) rfl rfl rfl rfl rfl (by rw [hg1031]; rfl) (fun _ _ _ h => h) (sj_refl hb.bd rfl rfl) (by decide) ?_
         refine dj_pass 16 (e := 50) (by kernel_rfl) (by kernel_rfl) rfl rfl rfl rfl rfl (by rw [hg1031]; rfl) (fun _ _ _ h => h) (sj_refl hb.bd rfl rfl) (by decide) ?_
         refine dj_pass 17 (e := 50) (by kernel_rfl) (by kernel_rfl) rfl rfl rfl rfl rfl (by rw [hg1031]; rfl) (fun _ _ _ h => h) (sj_refl hb.bd rfl rfl) (by decide) ?_
         refine dj_pass 18 (e := 50) (by kernel_rfl) (by kernel_rfl) rfl rfl rfl rfl rfl (by rw [hg1031]; rfl) (fun _ _ _ h => h) (sj_refl hb.bd rfl rfl) (by decide) ?_
         refine dj_H 19 (v := .bool false) (by kernel_rfl) (by kernel_rfl) rfl (fun _ _ _ h => h) (sj_refl hb.bd rfl rfl) (fun w1 ρ1 hw1 => ev_pick_f rfl hg1031 rfl) (by decide) ?_
         refine dj_H 20 (v := .bool false) (by kernel_rfl) (by kernel_rfl) rfl (fun _ _ _ h => h) (sj_refl hb.bd rfl rfl) (fun w1 ρ1 hw1 => ev_move rfl) (by decide) ?_
         refine dj_pass 21 (e := 57) (by kernel_rfl) (by kernel_rfl) rfl rfl rfl rfl rfl rfl (fun _ _ _ h => h) (sj_refl hb.bd rfl rfl) (by decide) ?_
         refine dj_H 22 (v := .bool false) (by kernel_rfl) (by kernel_rfl) rfl (fun _ _ _ h => h) (sj_refl hb.bd rfl rfl) (fun w1 ρ1 hw1 => ev_pick_f rfl rfl rfl) (by decide) ?_
         refine dj_H 23 (v := .bool false) (by kernel_rfl) (by kernel_rfl) rfl (fun _ _ _ h => h) (sj_refl hb.bd rfl rfl) (fun w1 ρ1 hw1 => ev_assign rfl) (by decide) ?_
         refine dj_done rfl (by kernel_rfl) ?_
         refine ke_weaken (l' := [(2, .bool false)]) (.cons rfl (.nil _)) ?_
         cases hS
         exact ke_ret1 Try.func4 rfl rfl ⟨_, rfl, rfl, (hb.below (flat1_le _))⟩
       ·refine ⟨_, rfl, ?_⟩
        have jt1049 : Tr ρ1003 w1008 (fun t => ([100, 101] : List Nat).contains t) ρ1003 w1008 := (Tr.refl hb.bd).weak (fun _ _ => rfl) rfl rfl
        refine sr_unguard rfl rfl hg1004 ?_
        refine sr_litT (c := strC) (ρ := ρ1003) (E := 9) (xs := [[98]]) (vs := #[(0, str ([98]))]) (cs := #[str ([98])]) (css := [[str ([98])]]) rfl (fun _ => by kernel_rfl) rfl ⟨rfl, trivial⟩ rfl (by decide) hb.bd (by decide) ?_
        intro v1050 w1052 h1051 hbw1054
        have htr1053 := Tr.of_below hbw1054 hb.bd
        replace hB1002 := hB1002.mv (htr1053.mv (i := 100) rfl)
        replace h1001 := h1001.mv (htr1053.mv (i := 101) rfl)
        replace hb := hb.trans htr1053
        replace jt1049 := (jt1049.trans htr1053).weak (J' := (fun t => ([100, 101] : List Nat).contains t)) (by intro t h; simp [rng] at h ⊢ <;> omega) rfl rfl
        refine dj_next (l' := [(0, .int .i64 n_0), (3, .pointer (some ⟨gd_3, 0, none⟩)), (43, .bool (y824.1 == 0)), (44, .pointer (some ⟨gd_3, 0, none⟩)), (45, str y812), (47, v1050)]) rfl (.cons rfl (.cons rfl (.cons rfl (.cons rfl (.cons rfl (.cons rfl (.nil _))))))) jt1049 (by intro t h; simp [rng] at h ⊢ <;> omega) rfl rfl ?_
        refine dj_E 9 (by kernel_rfl) rfl ?_
        have jt1055 : Tr ρ1003 w1052 (fun t => ([100, 101] : List Nat).contains t) ρ1003 w1052 := (Tr.refl hb.bd).weak (fun _ _ => rfl) rfl rfl
        obtain ⟨y1056, hy1057, hS⟩ := bind_some' hS
        refine sr_callg (b := true) (e := 43) rfl rfl hg1004 (vs := [.pointer (some ⟨gd_3, 0, none⟩), str ([97, 110, 110]), str y812, .int .i64 1]) rfl Try.call16 rfl (delegate_Delegations_Scopes_ok _ (hg.fr hz hb) (ρA := ρ1003) hb.bd (hz.fr hg hb) (τ0 := (fun p => 100 + p)) (fun p => Nat.le_add_right_of_le (by decide)) (⟨_, hB1002, h1001⟩ : delegate_Delegations.O (fun p => 100 + p) ρ1003 w1052 gd_3 y824.2) hy1057) (by decide) ?_
        rintro v1061 w1058 ⟨_, rfl, h1062, hbw1059⟩
        have htr1060 := Tr.of_below hbw1059 hb.bd
        replace h1051 := h1051.mv htr1060.rd
        replace hB1002 := hB1002.mv (htr1060.mv (i := 100) rfl)
        replace h1001 := h1001.mv (htr1060.mv (i := 101) rfl)
        replace hb := hb.trans htr1060
        replace jt1055 := (jt1055.trans htr1060).weak (J' := (fun t => ([100, 101] : List Nat).contains t)) (by intro t h; simp [rng] at h ⊢ <;> omega) rfl rfl
        refine dj_next (l' := [(0, .int .i64 n_0), (3, .pointer (some ⟨gd_3, 0, none⟩)), (43, .bool (y824.1 == 0)), (46, v1061), (47, v1050)]) rfl (.cons rfl (.cons rfl (.cons rfl (.cons rfl (.cons rfl (.nil _)))))) jt1055 (by intro t h; simp [rng] at h ⊢ <;> omega) rfl rfl ?_
        refine dj_E 11 (by kernel_rfl) rfl ?_
        have jt1063 : Tr ρ1003 w1058 (fun t => ([100, 101] : List Nat).contains t) ρ1003 w1058 := (Tr.refl hb.bd).weak (fun _ _ => rfl) rfl rfl
        obtain ⟨y1064, hy1065, hS⟩ := bind_some' hS
        refine sr_callg (b := true) (e := 43) rfl rfl hg1004 (vs := [v1061, v1050]) rfl Try.call15 rfl (ref03_Same_ok _ (hg.fr hz hb) h1062.asSl h1051.asSl hy1065) (by decide) ?_
        rintro _ w1066 ⟨rfl, hbw1067⟩
        have htr1068 := Tr.of_below hbw1067 hb.bd
        replace hB1002 := hB1002.mv (htr1068.mv (i := 100) rfl)
        replace h1001 := h1001.mv (htr1068.mv (i := 101) rfl)
        replace hb := hb.trans htr1068
        replace jt1063 := (jt1063.trans htr1068).weak (J' := (fun t => ([100, 101] : List Nat).contains t)) (by intro t h; simp [rng] at h ⊢ <;> omega) rfl rfl
        refine dj_next (l' := [(0, .int .i64 n_0), (3, .pointer (some ⟨gd_3, 0, none⟩)), (43, .bool (y824.1 == 0)), (48, .bool y1064)]) rfl (.cons rfl (.cons rfl (.cons rfl (.cons rfl (.nil _))))) jt1063 (by intro t h; simp [rng] at h ⊢ <;> omega) rfl rfl ?_
        refine dj_H 12 (v := .bool y1064) (by kernel_rfl) (by kernel_rfl) rfl (fun _ _ _ h => h) (sj_refl hb.bd rfl rfl) (fun w1 ρ1 hw1 => ev_pick_t rfl hg1004 rfl) (by decide) ?_
        refine dj_H 13 (v := .bool y1064) (by kernel_rfl) (by kernel_rfl) rfl (fun _ _ _ h => h) (sj_refl hb.bd rfl rfl) (fun w1 ρ1 hw1 => ev_move rfl) (by decide) ?_
        rcases Bool.eq_false_or_eq_true (y1064) with hg1069 | hg1069
        ·replace hS := ite_true' hS hg1069
         refine dj_Hg 14 (v := .pointer (some ⟨gd_3, 0, none⟩)) (by kernel_rfl) (by kernel_rfl) rfl rfl rfl hg1069 (fun _ _ _ h => h) (sj_refl hb.bd rfl rfl) (fun w1 ρ1 hw1 => ev_move rfl) (by decide) ?_
         refine dj_Hg 16 (v := .int .i64 n_0) (by kernel_rfl) (by kernel_rfl) rfl rfl rfl hg1069 (fun _ _ _ h => h) (sj_refl hb.bd rfl rfl) (fun w1 ρ1 hw1 => ev_move rfl) (by decide) ?_
         refine dj_Hg 17 (v := .int .i64 (gmin n_0 256)) (by kernel_rfl) (by kernel_rfl) rfl rfl rfl hg1069 (fun _ _ _ h => h) (sj_refl hb.bd rfl rfl) (fun w1 ρ1 hw1 => ev_min rfl rfl) (by decide) ?_
         refine dj_E 15 (by kernel_rfl) rfl ?_
         have jt1070 : Tr ρ1003 w1066 (fun t => ([100, 101] : List Nat).contains t) ρ1003 w1066 := (Tr.refl hb.bd).weak (fun _ _ => rfl) rfl rfl
         obtain ⟨y1071, hy1072, hS⟩ := bind_some' hS
         refine sr_callg (b := true) (e := 50) rfl rfl hg1069 (vs := [.pointer (some ⟨gd_3, 0, none⟩), str ([97, 110, 110])]) rfl Try.call24 rfl (delegate_Delegations_Drop_ok _ (hg.fr hz hb) (ρA := ρ1003) hb.bd (hz.fr hg hb) (o := 100) (by decide) (⟨_, hB1002, h1001⟩ : delegate_Delegations.O (fun p => 100 + p) ρ1003 w1066 gd_3 y824.2) hy1072) (by decide) ?_
         rintro _ w1073 ⟨ρ1079, rfl, ⟨v1076, hB1078, h1077⟩, htr1075⟩
         replace hb := hb.trans htr1075
         replace jt1070 := (jt1070.trans htr1075).weak (J' := (fun t => ([100, 101] : List Nat).contains t)) (by intro t h; simp [rng] at h ⊢ <;> omega) rfl rfl
         replace hB1078 : Blk ρ1079 100 w1073 gd_3 (.cells #[v1076] 54 (0, 0)) := hB1078
         replace h1077 : MapT delegate_way.ek delegate_delegation.c true ρ1079 101 w1073 v1076 y1071.2.ways := h1077
         refine dj_next (l' := [(50, .bool y1064), (52, .int .i64 y1071.1), (54, .int .i64 (gmin n_0 256))]) rfl (.cons rfl (.cons rfl (.cons rfl (.nil _)))) jt1070 (by intro t h; simp [rng] at h ⊢ <;> omega) rfl rfl ?_
         refine dj_Hg 18 (v := .bool (y1071.1 == (gmin n_0 256))) (by kernel_rfl) (by kernel_rfl) rfl rfl rfl hg1069 (fun _ _ _ h => h) (sj_refl hb.bd rfl rfl) (fun w1 ρ1 hw1 => ev_eq rfl rfl) (by decide) ?_
         refine dj_H 19 (v := .bool (y1071.1 == (gmin n_0 256))) (by kernel_rfl) (by kernel_rfl) rfl (fun _ _ _ h => h) (sj_refl hb.bd rfl rfl) (fun w1 ρ1 hw1 => ev_pick_t rfl hg1069 rfl) (by decide) ?_
         refine dj_H 20 (v := .bool (y1071.1 == (gmin n_0 256))) (by kernel_rfl) (by kernel_rfl) rfl (fun _ _ _ h => h) (sj_refl hb.bd rfl rfl) (fun w1 ρ1 hw1 => ev_move rfl) (by decide) ?_
         rcases Bool.eq_false_or_eq_true (y1071.1 == (gmin n_0 256)) with hg1080 | hg1080
         ·replace hS := ite_true' hS hg1080
          refine dj_E 21 (by kernel_rfl) rfl ?_
          have jt1081 : Tr ρ1079 w1073 (fun t => ([100, 101] : List Nat).contains t) ρ1079 w1073 := (Tr.refl hb.bd).weak (fun _ _ => rfl) rfl rfl
          obtain ⟨y1082, hy1083, hS⟩ := bind_some' hS
          refine sr_callg (b := true) (e := 57) rfl rfl hg1080 (vs := []) rfl Try.call10 rfl (law35_awake_ok _ (hg.fr hz hb) (ρA := ρ1079) hb.bd (hz.fr hg hb) hy1083) (by decide) ?_
          rintro _ w1084 ⟨rfl, hbw1085⟩
          have htr1086 := Tr.of_below hbw1085 hb.bd
          replace hb := hb.trans htr1086
          replace jt1081 := (jt1081.trans htr1086).weak (J' := (fun t => ([100, 101] : List Nat).contains t)) (by intro t h; simp [rng] at h ⊢ <;> omega) rfl rfl
          refine dj_next (l' := [(57, .bool (y1071.1 == (gmin n_0 256))), (58, .bool y1082)]) rfl (.cons rfl (.cons rfl (.nil _))) jt1081 (by intro t h; simp [rng] at h ⊢ <;> omega) rfl rfl ?_
          refine dj_H 22 (v := .bool y1082) (by kernel_rfl) (by kernel_rfl) rfl (fun _ _ _ h => h) (sj_refl hb.bd rfl rfl) (fun w1 ρ1 hw1 => ev_pick_t rfl hg1080 rfl) (by decide) ?_
          refine dj_H 23 (v := .bool y1082) (by kernel_rfl) (by kernel_rfl) rfl (fun _ _ _ h => h) (sj_refl hb.bd rfl rfl) (fun w1 ρ1 hw1 => ev_assign rfl) (by decide) ?_
          refine dj_done rfl (by kernel_rfl) ?_
          refine ke_weaken (l' := [(2, .bool y1082)]) (.cons rfl (.nil _)) ?_
          cases hS
          exact ke_ret1 Try.func4 rfl rfl ⟨_, rfl, rfl, (hb.below (flat1_le _))⟩
         ·replace hS := ite_false' hS hg1080
          refine dj_pass 21 (e := 57) (by kernel_rfl) (by kernel_rfl) rfl rfl rfl rfl rfl (by rw [hg1080]; rfl) (fun _ _ _ h => h) (sj_refl hb.bd rfl rfl) (by decide) ?_
          refine dj_H 22 (v := .bool false) (by kernel_rfl) (by kernel_rfl) rfl (fun _ _ _ h => h) (sj_refl hb.bd rfl rfl) (fun w1 ρ1 hw1 => ev_pick_f rfl hg1080 rfl) (by decide) ?_
          refine dj_H 23 (v := .bool false) (by kernel_rfl) (by kernel_rfl) rfl (fun _ _ _ h => h) (sj_refl hb.bd rfl rfl) (fun w1 ρ1 hw1 => ev_assign rfl) (by decide) ?_
          refine dj_done rfl (by kernel_rfl) ?_
          refine ke_weaken (l' := [(2, .bool false)]) (.cons rfl (.nil _)) ?_
          cases hS
          exact ke_ret1 Try.func4 rfl rfl ⟨_, rfl, rfl, (hb.below (flat1_le _))⟩
        ·replace hS := ite_false' hS hg1069
         refine dj_pass 14 (e := 50) (by kernel_rfl) (by kernel_rfl) rfl rfl rfl rfl rfl (by rw [hg1069]; rfl) (fun _ _ _ h => h) (sj_refl hb.bd rfl rfl) (by decide) ?_
         refine dj_pass 15 (e := 50) (by kernel_rfl) (by kernel_rfl) rfl rfl rfl rfl rfl (by rw [hg1069]; rfl) (fun _ _ _ h => h) (sj_refl hb.bd rfl rfl) (by decide) ?_
         refine dj_pass 16 (e := 50) (by kernel_rfl) (by kernel_rfl) rfl rfl rfl rfl rfl (by rw [hg1069]; rfl) (fun _ _ _ h => h) (sj_refl hb.bd rfl rfl) (by decide) ?_
         refine dj_pass 17 (e := 50) (by kernel_rfl) (by kernel_rfl) rfl rfl rfl rfl rfl (by rw [hg1069]; rfl) (fun _ _ _ h => h) (sj_refl hb.bd rfl rfl) (by decide) ?_
         refine dj_pass 18 (e := 50) (by kernel_rfl) (by kernel_rfl) rfl rfl rfl rfl rfl (by rw [hg1069]; rfl) (fun _ _ _ h => h) (sj_refl hb.bd rfl rfl) (by decide) ?_
         refine dj_H 19 (v := .bool false) (by kernel_rfl) (by kernel_rfl) rfl (fun _ _ _ h => h) (sj_refl hb.bd rfl rfl) (fun w1 ρ1 hw1 => ev_pick_f rfl hg1069 rfl) (by decide) ?_
         refine dj_H 20 (v := .bool false) (by kernel_rfl) (by kernel_rfl) rfl (fun _ _ _ h => h) (sj_refl hb.bd rfl rfl) (fun w1 ρ1 hw1 => ev_move rfl) (by decide) ?_
         refine dj_pass 21 (e := 57) (by kernel_rfl) (by kernel_rfl) rfl rfl rfl rfl rfl rfl (fun _ _ _ h => h) (sj_refl hb.bd rfl rfl) (by decide) ?_
         refine dj_H 22 (v := .bool false) (by kernel_rfl) (by kernel_rfl) rfl (fun _ _ _ h => h) (sj_refl hb.bd rfl rfl) (fun w1 ρ1 hw1 => ev_pick_f rfl rfl rfl) (by decide) ?_
         refine dj_H 23 (v := .bool false) (by kernel_rfl) (by kernel_rfl) rfl (fun _ _ _ h => h) (sj_refl hb.bd rfl rfl) (fun w1 ρ1 hw1 => ev_assign rfl) (by decide) ?_
         refine dj_done rfl (by kernel_rfl) ?_
         refine ke_weaken (l' := [(2, .bool false)]) (.cons rfl (.nil _)) ?_
         cases hS
         exact ke_ret1 Try.func4 rfl rfl ⟨_, rfl, rfl, (hb.below (flat1_le _))⟩
      ·refine ⟨_, rfl, ?_⟩
       have jt1087 : Tr ρ1003 w997 (fun t => ([100, 101] : List Nat).contains t) ρ1003 w997 := (Tr.refl hb.bd).weak (fun _ _ => rfl) rfl rfl
       refine sr_unguard rfl rfl hg1004 ?_
       refine sr_litT (c := strC) (ρ := ρ1003) (E := 9) (xs := [[98]]) (vs := #[(0, str ([98]))]) (cs := #[str ([98])]) (css := [[str ([98])]]) rfl (fun _ => by kernel_rfl) rfl ⟨rfl, trivial⟩ rfl (by decide) hb.bd (by decide) ?_
       intro v1088 w1090 h1089 hbw1092
       have htr1091 := Tr.of_below hbw1092 hb.bd
       replace hB1002 := hB1002.mv (htr1091.mv (i := 100) rfl)
       replace h1001 := h1001.mv (htr1091.mv (i := 101) rfl)
       replace hb := hb.trans htr1091
       replace jt1087 := (jt1087.trans htr1091).weak (J' := (fun t => ([100, 101] : List Nat).contains t)) (by intro t h; simp [rng] at h ⊢ <;> omega) rfl rfl
       refine dj_next (l' := [(0, .int .i64 n_0), (3, .pointer (some ⟨gd_3, 0, none⟩)), (43, .bool (y824.1 == 0)), (44, .pointer (some ⟨gd_3, 0, none⟩)), (47, v1088)]) rfl (.cons rfl (.cons rfl (.cons rfl (.cons rfl (.cons rfl (.nil _)))))) jt1087 (by intro t h; simp [rng] at h ⊢ <;> omega) rfl rfl ?_
       refine dj_E 8 (by kernel_rfl) rfl ?_
       have jt1093 : Tr ρ1003 w1090 (fun t => ([100, 101] : List Nat).contains t) ρ1003 w1090 := (Tr.refl hb.bd).weak (fun _ _ => rfl) rfl rfl
       refine sr_callg (b := true) (e := 43) rfl rfl hg1004 (vs := [.int .i64 0]) rfl Try.call23 rfl (law35_name_ok _ (hg.fr hz hb) hy813) (by decide) ?_
       rintro _ w1096 ⟨rfl, hbw1097⟩
       have htr1098 := Tr.of_below hbw1097 hb.bd
       replace h1089 := h1089.mv htr1098.rd
       replace hB1002 := hB1002.mv (htr1098.mv (i := 100) rfl)
       replace h1001 := h1001.mv (htr1098.mv (i := 101) rfl)
       replace hb := hb.trans htr1098
       replace jt1093 := (jt1093.trans htr1098).weak (J' := (fun t => ([100, 101] : List Nat).contains t)) (by intro t h; simp [rng] at h ⊢ <;> omega) rfl rfl
       refine dj_next (l' := [(0, .int .i64 n_0), (3, .pointer (some ⟨gd_3, 0, none⟩)), (43, .bool (y824.1 == 0)), (44, .pointer (some ⟨gd_3, 0, none⟩)), (45, str y812), (47, v1088)]) rfl (.cons rfl (.cons rfl (.cons rfl (.cons rfl (.cons rfl (.cons rfl (.nil _))))))) jt1093 (by intro t h; simp [rng] at h ⊢ <;> omega) rfl rfl ?_
       refine dj_E 9 (by kernel_rfl) rfl ?_
       have jt1099 : Tr ρ1003 w1096 (fun t => ([100, 101] : List Nat).contains t) ρ1003 w1096 := (Tr.refl hb.bd).weak (fun _ _ => rfl) rfl rfl
       obtain ⟨y1100, hy1101, hS⟩ := bind_some' hS
       refine sr_callg (b := true) (e := 43) rfl rfl hg1004 (vs := [.pointer (some ⟨gd_3, 0, none⟩), str ([97, 110, 110]), str y812, .int .i64 1]) rfl Try.call16 rfl (delegate_Delegations_Scopes_ok _ (hg.fr hz hb) (ρA := ρ1003) hb.bd (hz.fr hg hb) (τ0 := (fun p => 100 + p)) (fun p => Nat.le_add_right_of_le (by decide)) (⟨_, hB1002, h1001⟩ : delegate_Delegations.O (fun p => 100 + p) ρ1003 w1096 gd_3 y824.2) hy1101) (by decide) ?_
       rintro v1105 w1102 ⟨_, rfl, h1106, hbw1103⟩
       have htr1104 := Tr.of_below hbw1103 hb.bd
       replace h1089 := h1089.mv htr1104.rd
       replace hB1002 := hB1002.mv (htr1104.mv (i := 100) rfl)
       replace h1001 := h1001.mv (htr1104.mv (i := 101) rfl)
       replace hb := hb.trans htr1104
       replace jt1099 := (jt1099.trans htr1104).weak (J' := (fun t => ([100, 101] : List Nat).contains t)) (by intro t h; simp [rng] at h ⊢ <;> omega) rfl rfl
       refine dj_next (l' := [(0, .int .i64 n_0), (3, .pointer (some ⟨gd_3, 0, none⟩)), (43, .bool (y824.1 == 0)), (46, v1105), (47, v1088)]) rfl (.cons rfl (.cons rfl (.cons rfl (.cons rfl (.cons rfl (.nil _)))))) jt1099 (by intro t h; simp [rng] at h ⊢ <;> omega) rfl rfl ?_
       refine dj_E 11 (by kernel_rfl) rfl ?_
       have jt1107 : Tr ρ1003 w1102 (fun t => ([100, 101] : List Nat).contains t) ρ1003 w1102 := (Tr.refl hb.bd).weak (fun _ _ => rfl) rfl rfl
       obtain ⟨y1108, hy1109, hS⟩ := bind_some' hS
       refine sr_callg (b := true) (e := 43) rfl rfl hg1004 (vs := [v1105, v1088]) rfl Try.call15 rfl (ref03_Same_ok _ (hg.fr hz hb) h1106.asSl h1089.asSl hy1109) (by decide) ?_
       rintro _ w1110 ⟨rfl, hbw1111⟩
       have htr1112 := Tr.of_below hbw1111 hb.bd
       replace hB1002 := hB1002.mv (htr1112.mv (i := 100) rfl)
       replace h1001 := h1001.mv (htr1112.mv (i := 101) rfl)
       replace hb := hb.trans htr1112
       replace jt1107 := (jt1107.trans htr1112).weak (J' := (fun t => ([100, 101] : List Nat).contains t)) (by intro t h; simp [rng] at h ⊢ <;> omega) rfl rfl
       refine dj_next (l' := [(0, .int .i64 n_0), (3, .pointer (some ⟨gd_3, 0, none⟩)), (43, .bool (y824.1 == 0)), (48, .bool y1108)]) rfl (.cons rfl (.cons rfl (.cons rfl (.cons rfl (.nil _))))) jt1107 (by intro t h; simp [rng] at h ⊢ <;> omega) rfl rfl ?_
       refine dj_H 12 (v := .bool y1108) (by kernel_rfl) (by kernel_rfl) rfl (fun _ _ _ h => h) (sj_refl hb.bd rfl rfl) (fun w1 ρ1 hw1 => ev_pick_t rfl hg1004 rfl) (by decide) ?_
       refine dj_H 13 (v := .bool y1108) (by kernel_rfl) (by kernel_rfl) rfl (fun _ _ _ h => h) (sj_refl hb.bd rfl rfl) (fun w1 ρ1 hw1 => ev_move rfl) (by decide) ?_
       rcases Bool.eq_false_or_eq_true (y1108) with hg1113 | hg1113
       ·replace hS := ite_true' hS hg1113
        refine dj_Hg 14 (v := .pointer (some ⟨gd_3, 0, none⟩)) (by kernel_rfl) (by kernel_rfl) rfl rfl rfl hg1113 (fun _ _ _ h => h) (sj_refl hb.bd rfl rfl) (fun w1 ρ1 hw1 => ev_move rfl) (by decide) ?_
        refine dj_Hg 16 (v := .int .i64 n_0) (by kernel_rfl) (by kernel_rfl) rfl rfl rfl hg1113 (fun _ _ _ h => h) (sj_refl hb.bd rfl rfl) (fun w1 ρ1 hw1 => ev_move rfl) (by decide) ?_
        refine dj_Hg 17 (v := .int .i64 (gmin n_0 256)) (by kernel_rfl) (by kernel_rfl) rfl rfl rfl hg1113 (fun _ _ _ h => h) (sj_refl hb.bd rfl rfl) (fun w1 ρ1 hw1 => ev_min rfl rfl) (by decide) ?_
        refine dj_E 15 (by kernel_rfl) rfl ?_
        have jt1114 : Tr ρ1003 w1110 (fun t => ([100, 101] : List Nat).contains t) ρ1003 w1110 := (Tr.refl hb.bd).weak (fun _ _ => rfl) rfl rfl
        obtain ⟨y1115, hy1116, hS⟩ := bind_some' hS
        refine sr_callg (b := true) (e := 50) rfl rfl hg1113 (vs := [.pointer (some ⟨gd_3, 0, none⟩), str ([97, 110, 110])]) rfl Try.call24 rfl (delegate_Delegations_Drop_ok _ (hg.fr hz hb) (ρA := ρ1003) hb.bd (hz.fr hg hb) (o := 100) (by decide) (⟨_, hB1002, h1001⟩ : delegate_Delegations.O (fun p => 100 + p) ρ1003 w1110 gd_3 y824.2) hy1116) (by decide) ?_
        rintro _ w1117 ⟨ρ1123, rfl, ⟨v1120, hB1122, h1121⟩, htr1119⟩
        replace hb := hb.trans htr1119
        replace jt1114 := (jt1114.trans htr1119).weak (J' := (fun t => ([100, 101] : List Nat).contains t)) (by intro t h; simp [rng] at h ⊢ <;> omega) rfl rfl
        replace hB1122 : Blk ρ1123 100 w1117 gd_3 (.cells #[v1120] 54 (0, 0)) := hB1122
        replace h1121 : MapT delegate_way.ek delegate_delegation.c true ρ1123 101 w1117 v1120 y1115.2.ways := h1121
        refine dj_next (l' := [(50, .bool y1108), (52, .int .i64 y1115.1), (54, .int .i64 (gmin n_0 256))]) rfl (.cons rfl (.cons rfl (.cons rfl (.nil _)))) jt1114 (by intro t h; simp [rng] at h ⊢ <;> omega) rfl rfl ?_
        refine dj_Hg 18 (v := .bool (y1115.1 == (gmin n_0 256))) (by kernel_rfl) (by kernel_rfl) rfl rfl rfl hg1113 (fun _ _ _ h => h) (sj_refl hb.bd rfl rfl) (fun w1 ρ1 hw1 => ev_eq rfl rfl) (by decide) ?_
        refine dj_H 19 (v := .bool (y1115.1 == (gmin n_0 256))) (by kernel_rfl) (by kernel_rfl) rfl (fun _ _ _ h => h) (sj_refl hb.bd rfl rfl) (fun w1 ρ1 hw1 => ev_pick_t rfl hg1113 rfl) (by decide) ?_
        refine dj_H 20 (v := .bool (y1115.1 == (gmin n_0 256))) (by kernel_rfl) (by kernel_rfl) rfl (fun _ _ _ h => h) (sj_refl hb.bd rfl rfl) (fun w1 ρ1 hw1 => ev_move rfl) (by decide) ?_
        rcases Bool.eq_false_or_eq_true (y1115.1 == (gmin n_0 256)) with hg1124 | hg1124
        ·replace hS := ite_true' hS hg1124
         refine dj_E 21 (by kernel_rfl) rfl ?_
         have jt1125 : Tr ρ1123 w1117 (fun t => ([100, 101] : List Nat).contains t) ρ1123 w1117 := (Tr.refl hb.bd).weak (fun _ _ => rfl) rfl rfl
         obtain ⟨y1126, hy1127, hS⟩ := bind_some' hS
         refine sr_callg (b := true) (e := 57) rfl rfl hg1124 (vs := []) rfl Try.call10 rfl (law35_awake_ok _ (hg.fr hz hb) (ρA := ρ1123) hb.bd (hz.fr hg hb) hy1127) (by decide) ?_
         rintro _ w1128 ⟨rfl, hbw1129⟩
         have htr1130 := Tr.of_below hbw1129 hb.bd
         replace hb := hb.trans htr1130
         replace jt1125 := (jt1125.trans htr1130).weak (J' := (fun t => ([100, 101] : List Nat).contains t)) (by intro t h; simp [rng] at h ⊢ <;> omega) rfl rfl
         refine dj_next (l' := [(57, .bool (y1115.1 == (gmin n_0 256))), (58, .bool y1126)]) rfl (.cons rfl (.cons rfl (.nil _))) jt1125 (by intro t h; simp [rng] at h ⊢ <;> omega) rfl rfl ?_
         refine dj_H 22 (v := .bool y1126) (by kernel_rfl) (by kernel_rfl) rfl (fun _ _ _ h => h) (sj_refl hb.bd rfl rfl) (fun w1 ρ1 hw1 => ev_pick_t rfl hg1124 rfl) (by decide) ?_
         refine dj_H 23 (v := .bool y1126) (by kernel_rfl) (by kernel_rfl) rfl (fun _ _ _ h => h) (sj_refl hb.bd rfl rfl) (fun w1 ρ1 hw1 => ev_assign rfl) (by decide) ?_
         refine dj_done rfl (by kernel_rfl) ?_
         refine ke_weaken (l' := [(2, .bool y1126)]) (.cons rfl (.nil _)) ?_
         cases hS
         exact ke_ret1 Try.func4 rfl rfl ⟨_, rfl, rfl, (hb.below (flat1_le _))⟩
        ·replace hS := ite_false' hS hg1124
         refine dj_pass 21 (e := 57) (by kernel_rfl) (by kernel_rfl) rfl rfl rfl rfl rfl (by rw [hg1124]; rfl) (fun _ _ _ h => h) (sj_refl hb.bd rfl rfl) (by decide) ?_
         refine dj_H 22 (v := .bool false) (by kernel_rfl) (by kernel_rfl) rfl (fun _ _ _ h => h) (sj_refl hb.bd rfl rfl) (fun w1 ρ1 hw1 => ev_pick_f rfl hg1124 rfl) (by decide) ?_
         refine dj_H 23 (v := .bool false) (by kernel_rfl) (by kernel_rfl) rfl (fun _ _ _ h => h) (sj_refl hb.bd rfl rfl) (fun w1 ρ1 hw1 => ev_assign rfl) (by decide) ?_
         refine dj_done rfl (by kernel_rfl) ?_
         refine ke_weaken (l' := [(2, .bool false)]) (.cons rfl (.nil _)) ?_
         cases hS
         exact ke_ret1 Try.func4 rfl rfl ⟨_, rfl, rfl, (hb.below (flat1_le _))⟩
       ·replace hS := ite_false' hS hg1113
        refine dj_pass 14 (e := 50) (by kernel_rfl) (by kernel_rfl) rfl rfl rfl rfl rfl (by rw [hg1113]; rfl) (fun _ _ _ h => h) (sj_refl hb.bd rfl rfl) (by decide) ?_
        refine dj_pass 15 (e := 50) (by kernel_rfl) (by kernel_rfl) rfl rfl rfl rfl rfl (by rw [hg1113]; rfl) (fun _ _ _ h => h) (sj_refl hb.bd rfl rfl) (by decide) ?_
        refine dj_pass 16 (e := 50) (by kernel_rfl) (by kernel_rfl) rfl rfl rfl rfl rfl (by rw [hg1113]; rfl) (fun _ _ _ h => h) (sj_refl hb.bd rfl rfl) (by decide) ?_
        refine dj_pass 17 (e := 50) (by kernel_rfl) (by kernel_rfl) rfl rfl rfl rfl rfl (by rw [hg1113]; rfl) (fun _ _ _ h => h) (sj_refl hb.bd rfl rfl) (by decide) ?_
        refine dj_pass 18 (e := 50) (by kernel_rfl) (by kernel_rfl) rfl rfl rfl rfl rfl (by rw [hg1113]; rfl) (fun _ _ _ h => h) (sj_refl hb.bd rfl rfl) (by decide) ?_
        refine dj_H 19 (v := .bool false) (by kernel_rfl) (by kernel_rfl) rfl (fun _ _ _ h => h) (sj_refl hb.bd rfl rfl) (fun w1 ρ1 hw1 => ev_pick_f rfl hg1113 rfl) (by decide) ?_
        refine dj_H 20 (v := .bool false) (by kernel_rfl) (by kernel_rfl) rfl (fun _ _ _ h => h) (sj_refl hb.bd rfl rfl) (fun w1 ρ1 hw1 => ev_move rfl) (by decide) ?_
        refine dj_pass 21 (e := 57) (by kernel_rfl) (by kernel_rfl) rfl rfl rfl rfl rfl rfl (fun _ _ _ h => h) (sj_refl hb.bd rfl rfl) (by decide) ?_
        refine dj_H 22 (v := .bool false) (by kernel_rfl) (by kernel_rfl) rfl (fun _ _ _ h => h) (sj_refl hb.bd rfl rfl) (fun w1 ρ1 hw1 => ev_pick_f rfl rfl rfl) (by decide) ?_
        refine dj_H 23 (v := .bool false) (by kernel_rfl) (by kernel_rfl) rfl (fun _ _ _ h => h) (sj_refl hb.bd rfl rfl) (fun w1 ρ1 hw1 => ev_assign rfl) (by decide) ?_
        refine dj_done rfl (by kernel_rfl) ?_
        refine ke_weaken (l' := [(2, .bool false)]) (.cons rfl (.nil _)) ?_
        cases hS
        exact ke_ret1 Try.func4 rfl rfl ⟨_, rfl, rfl, (hb.below (flat1_le _))⟩
     ·replace hS := ite_false' hS hg1004
      refine dj_pass 7 (e := 43) (by kernel_rfl) (by kernel_rfl) rfl rfl rfl rfl rfl (by rw [hg1004]; rfl) (fun _ _ _ h => h) (sj_refl hb.bd rfl rfl) (by decide) ?_
      refine dj_pass 8 (e := 43) (by kernel_rfl) (by kernel_rfl) rfl rfl rfl rfl rfl (by rw [hg1004]; rfl) (fun _ _ _ h => h) (sj_refl hb.bd rfl rfl) (by decide) ?_
      refine dj_pass 9 (e := 43) (by kernel_rfl) (by kernel_rfl) rfl rfl rfl rfl rfl (by rw [hg1004]; rfl) (fun _ _ _ h => h) (sj_refl hb.bd rfl rfl) (by decide) ?_
      refine dj_pass 10 (e := 43) (by kernel_rfl) (by kernel_rfl) rfl rfl rfl rfl rfl (by rw [hg1004]; rfl) (fun _ _ _ h => h) (sj_refl hb.bd rfl rfl) (by decide) ?_
      refine dj_pass 11 (e := 43) (by kernel_rfl) (by kernel_rfl) rfl rfl rfl rfl rfl (by rw [hg1004]; rfl) (fun _ _ _ h => h) (sj_refl hb.bd rfl rfl) (by decide) ?_
      refine dj_H 12 (v := .bool false) (by kernel_rfl) (by kernel_rfl) rfl (fun _ _ _ h => h) (sj_refl hb.bd rfl rfl) (fun w1 ρ1 hw1 => ev_pick_f rfl hg1004 rfl) (by decide) ?_
      refine dj_H 13 (v := .bool false) (by kernel_rfl) (by kernel_rfl) rfl (fun _ _ _ h => h) (sj_refl hb.bd rfl rfl) (fun w1 ρ1 hw1 => ev_move rfl) (by decide) ?_
      refine dj_pass 14 (e := 50) (by kernel_rfl) (by kernel_rfl) rfl rfl rfl rfl rfl rfl (fun _ _ _ h => h) (sj_refl hb.bd rfl rfl) (by decide) ?_
      refine dj_pass 15 (e := 50) (by kernel_rfl) (by kernel_rfl) rfl rfl rfl rfl rfl rfl (fun _ _ _ h => h) (sj_refl hb.bd rfl rfl) (by decide) ?_
      refine dj_pass 16 (e := 50) (by kernel_rfl) (by kernel_rfl) rfl rfl rfl rfl rfl rfl (fun _ _ _ h => h) (sj_refl hb.bd rfl rfl) (by decide) ?_
      refine dj_pass 17 (e := 50) (by kernel_rfl) (by kernel_rfl) rfl rfl rfl rfl rfl rfl (fun _ _ _ h => h) (sj_refl hb.bd rfl rfl) (by decide) ?_
      refine dj_pass 18 (e := 50) (by kernel_rfl) (by kernel_rfl) rfl rfl rfl rfl rfl rfl (fun _ _ _ h => h) (sj_refl hb.bd rfl rfl) (by decide) ?_
      refine dj_H 19 (v := .bool false) (by kernel_rfl) (by kernel_rfl) rfl (fun _ _ _ h => h) (sj_refl hb.bd rfl rfl) (fun w1 ρ1 hw1 => ev_pick_f rfl rfl rfl) (by decide) ?_
      refine dj_H 20 (v := .bool false) (by kernel_rfl) (by kernel_rfl) rfl (fun _ _ _ h => h) (sj_refl hb.bd rfl rfl) (fun w1 ρ1 hw1 => ev_move rfl) (by decide) ?_
      refine dj_pass 21 (e := 57) (by kernel_rfl) (by kernel_rfl) rfl rfl rfl rfl rfl rfl (fun _ _ _ h => h) (sj_refl hb.bd rfl rfl) (by decide) ?_
      refine dj_H 22 (v := .bool false) (by kernel_rfl) (by kernel_rfl) rfl (fun _ _ _ h => h) (sj_refl hb.bd rfl rfl) (fun w1 ρ1 hw1 => ev_pick_f rfl rfl rfl) (by decide) ?_
      refine dj_H 23 (v := .bool false) (by kernel_rfl) (by kernel_rfl) rfl (fun _ _ _ h => h) (sj_refl hb.bd rfl rfl) (fun w1 ρ1 hw1 => ev_assign rfl) (by decide) ?_
      refine dj_done rfl (by kernel_rfl) ?_
      refine ke_weaken (l' := [(2, .bool false)]) (.cons rfl (.nil _)) ?_
      cases hS
      exact ke_ret1 Try.func4 rfl rfl ⟨_, rfl, rfl, (hb.below (flat1_le _))⟩
theorem law35_DelegateLimits_ok (w0 : World) (hg : Gs w0) {ρA : Tags} (hbd : ∀ b, ρA b ≠ 0 → b < w0.heap.size) (hz : Gz ρA) {n_0 : Int} {r : Bool} (hS : law35_DelegateLimits n_0 = some r) :
  Calls Try.prog 4 #[.int .i64 n_0] w0 (Ret (fun v w' => v = .bool r ∧ Below w0.heap.size w0 w')) := by
 unfold law35_DelegateLimits at hS
 have hb := flat1_fr (ρ := ρA) (w := w0) hbd
 have hz := hz.flat1
 refine calls_of_ke Try.func4 rfl (n := 60) rfl rfl (l := [(0, .int .i64 n_0)]) rfl ?_
 refine ke_seq ?_
 refine ke_region ?_
 refine sr_ev (v := .bool false) (ev_assign rfl) (by decide) ?_
 refine sr_end (l' := [(0, .int .i64 n_0)]) (.cons rfl (.nil _)) ?_
 refine ke_seq ?_
 refine ke_region ?_
 refine sr_ev (v := .int .i64 n_0) (ev_move rfl) (by decide) ?_
 refine sr_ev (v := .int .i64 (gmin n_0 300)) (ev_min rfl rfl) (by decide) ?_
 refine sr_ev (v := .int .i64 (gmax 0 (gmin n_0 300))) (ev_max rfl rfl) (by decide) ?_
 refine sr_ev (v := .int .i64 (gmax 0 (gmin n_0 300))) (ev_assign rfl) (by decide) ?_
 refine sr_end (l' := [(0, .int .i64 (gmax 0 (gmin n_0 300)))]) (.cons rfl (.nil _)) ?_
 refine ke_seq ?_
 refine ke_region ?_
 obtain ⟨y1, hy2, hS⟩ := bind_some' hS
 refine sr_call (vs := []) rfl Try.call11 rfl (delegate_New_ok _ (hg.fr hz hb) (ρA := (flat1 ρA)) hb.bd (hz.fr hg hb) (o := 100) (by decide) hy2) (by decide) ?_
 rintro _ w3 ⟨ρ10, g6, rfl, ⟨v7, hB9, h8⟩, htr5⟩
 replace hb := hb.trans htr5
 replace hB9 : Blk ρ10 100 w3 g6 (.cells #[v7] 54 (0, 0)) := hB9
 replace h8 : MapT delegate_way.ek delegate_delegation.c true ρ10 101 w3 v7 y1.ways := h8
 refine sr_ev (v := .pointer (some ⟨g6, 0, none⟩)) (ev_assign rfl) (by decide) ?_
 refine sr_end (l' := [(0, .int .i64 (gmax 0 (gmin n_0 300))), (3, .pointer (some ⟨g6, 0, none⟩))]) (.cons rfl (.cons rfl (.nil _))) ?_
 refine ke_seq ?_
 refine ke_seq ?_
 refine ke_region ?_
 refine sr_ev (v := .pointer (some ⟨g6, 0, none⟩)) (ev_move rfl) (by decide) ?_
 refine sr_ev (v := .bool false) (ev_peqT_some Try.underlying27 rfl rfl) (by decide) ?_
 refine sr_end (l' := [(0, .int .i64 (gmax 0 (gmin n_0 300))), (3, .pointer (some ⟨g6, 0, none⟩)), (12, .bool false)]) (.cons rfl (.cons rfl (.cons rfl (.nil _)))) ?_
 refine ke_cond (t := false) rfl (fun h => by cases h) (fun _ => ?_)
 refine ke_skip ?_
 refine ke_seq ?_
 refine ke_region ?_
 refine sr_ev (v := .agg #[.int .i64 0, .int .i64 9]) (ev_build (vs := #[(0, .int .i64 0), (1, .int .i64 9)]) rfl (fun _ => by kernel_rfl)) (by decide) ?_
 refine sr_allocT 6 (by decide) hb.bd Try.zeroValue33 (by decide) ?_
 intro g11 ρ12 w13 hB15 htr14
 replace hB9 := hB9.mv (htr14.mv (i := 100) rfl)
 replace h8 := h8.mv (htr14.mv (i := 101) rfl)
 replace hb := hb.trans htr14
 replace hB15 : Blk ρ12 6 w13 g11 (.cells #[.int .i64 0, .int .i64 0] 33 (0, 0)) := hB15
 refine sr_storeT (v := .agg #[.int .i64 0, .int .i64 9]) (vs := [.int .i64 0, .int .i64 9]) (cs' := #[.int .i64 0, .int .i64 9]) hB15 (by decide) hb.bd rfl rfl rfl Try.sizeOf33 rfl rfl rfl ?_
 intro w16 hB151 htr17
 replace hB9 := hB9.mv (htr17.mv (i := 100) rfl)
 replace h8 := h8.mv (htr17.mv (i := 101) rfl)
 replace hb := hb.trans htr17
 replace hB15 : Blk ρ12 6 w16 g11 (.cells #[.int .i64 0, .int .i64 9] 33 (0, 0)) := hB151
 clear hB151
 refine sr_end (l' := [(0, .int .i64 (gmax 0 (gmin n_0 300))), (3, .pointer (some ⟨g6, 0, none⟩)), (4, .pointer (some ⟨g11, 0, none⟩))]) (.cons rfl (.cons rfl (.cons rfl (.nil _)))) ?_
 refine ke_seq ?_
 refine ke_seq ?_
 refine ke_region ?_
 refine sr_ev (v := .int .i64 0) (ev_assign rfl) (by decide) ?_
 refine sr_end (l' := [(0, .int .i64 (gmax 0 (gmin n_0 300))), (3, .pointer (some ⟨g6, 0, none⟩)), (4, .pointer (some ⟨g11, 0, none⟩)), (5, .int .i64 0)]) (.cons rfl (.cons rfl (.cons rfl (.cons rfl (.nil _))))) ?_
 refine ke_block ?_
 have hK := law35_DelegateLimits_L1_ok hg hbd hz _ hS hb ⟨_, hB9, h8⟩ hB15
 exact ke_weaken (l' := [(0, .int .i64 (gmax 0 (gmin n_0 300))), (3, .pointer (some ⟨g6, 0, none⟩)), (4, .pointer (some ⟨g11, 0, none⟩)), (5, .int .i64 0)]) (.cons rfl (.cons rfl (.cons rfl (.cons rfl (.nil _))))) (ke_loop hK)
end Ytibmfjehbmdbkaa
end Go.Proofs
