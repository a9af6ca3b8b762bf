/- Own work: a part of the proofs of this seat. -/
import Derived.Test.YtibmfjehbmdbkaaProg
import Derived.Test.YtibmfjehbmdbkaaShelf
import Derived.Test.YtibmfjehbmdbkaaIter
import Derived.Test.YtibmfjehbmdbkaaKwHS
import Derived.KernelRfl
import Derived.Test.YtibmfjehbmdbkaaKwHDelegatePlaysW3
set_option linter.unusedVariables false
set_option linter.unusedSimpArgs false
set_option linter.unusedSectionVars false
set_option maxHeartbeats 8000000
set_option maxRecDepth 8000
namespace Go.Proofs
namespace Ytibmfjehbmdbkaa
open Go Go.KW Go.KW.S Go.RowKit
theorem ref35_Delegations_Reach_ok (w0 : World) (hg : Gs w0) {ρA : Tags} (hbd : ∀ b, ρA b ≠ 0 → b < w0.heap.size) (hz : Gz ρA) {τ0 : Nat → Nat} (hτ0 : ∀ p, 1 ≤ τ0 p) {d_0 : ref35_Delegations} {to_1 : Str} {scope_2 : Str} {now_3 : Int} {gd_0 : Nat} {r : List Str} (ho0 : ref35_Delegations.O τ0 ρA w0 gd_0 d_0) (hS : ref35_Delegations_Reach d_0 to_1 scope_2 now_3 = some r) :
  Calls Try.prog 21 #[.pointer (some ⟨gd_0, 0, none⟩), str to_1, str scope_2, .int .i64 now_3] w0 (Ret (fun v w' => ∃ x1, v = x1 ∧ SlR strC (Wb ρA) w' x1 r ∧ Below w0.heap.size w0 w')) := by
 unfold ref35_Delegations_Reach at hS
 have hb := flat1_fr (ρ := ρA) (w := w0) hbd
 have hz := hz.flat1
 obtain ⟨v1, hB3, h2⟩ := ho0
 replace hB3 := hB3.mv (flat1_mv (hτ0 0))
 replace h2 := h2.mv (flat1_mv (hτ0 1)) (by decide)
 replace hB3 : Blk (flat1 ρA) 1 w0 gd_0 (.cells #[.bool d_0.made, v1] 57 (0, 0)) := hB3
 replace h2 : OwnT ref35_one.c 65 (flat1 ρA) 1 w0 v1 d_0.l := h2
 refine calls_of_ke Try.func21 rfl (n := 86) rfl rfl (l := [(0, .pointer (some ⟨gd_0, 0, none⟩)), (1, str to_1), (2, str scope_2), (3, .int .i64 now_3)]) rfl ?_
 refine ke_seq ?_
 refine ke_region ?_
 refine sr_ev (v := .slice none 0 0) (ev_assign rfl) (by decide) ?_
 refine sr_end (l' := [(0, .pointer (some ⟨gd_0, 0, none⟩)), (1, str to_1), (2, str scope_2), (3, .int .i64 now_3)]) (.cons rfl (.cons rfl (.cons rfl (.cons rfl (.nil _))))) ?_
 refine ke_seq ?_
 refine ke_seq ?_
 refine ke_region ?_
 refine sr_ev (v := .pointer (some ⟨gd_0, 0, none⟩)) (ev_move rfl) (by decide) ?_
 obtain ⟨y6, hy7, hS⟩ := bind_some' hS
 refine sr_call (vs := [.pointer (some ⟨gd_0, 0, none⟩)]) rfl Try.call35 rfl (ref35_Delegations_Made_ok _ (hg.fr hz hb) (ρA := (flat1 ρA)) hb.bd (hz.fr hg hb) (τ0 := (fun _ => 1)) (fun _ => Nat.le_refl 1) (⟨_, hB3, h2⟩ : ref35_Delegations.O (fun _ => 1) (flat1 ρA) w0 gd_0 d_0) hy7) (by decide) ?_
 rintro _ w8 ⟨rfl, hbw9⟩
 have htr10 := Tr.of_below hbw9 hb.bd
 replace hB3 := hB3.mv (htr10.mv (i := 1) rfl)
 replace h2 := h2.mv (htr10.mv (i := 1) rfl) (by decide)
 replace hb := hb.trans htr10
 refine sr_ev (v := .bool (!y6)) (ev_not rfl) (by decide) ?_
 refine sr_end (l' := [(0, .pointer (some ⟨gd_0, 0, none⟩)), (1, str to_1), (2, str scope_2), (3, .int .i64 now_3), (17, .bool (!y6))]) (.cons rfl (.cons rfl (.cons rfl (.cons rfl (.cons rfl (.nil _)))))) ?_
 refine ke_cond (t := !y6) rfl (fun hc11 => ?_) (fun hc11 => ?_)
 ·replace hS := ite_true' hS hc11
  refine ke_seq ?_
  refine ke_region ?_
  refine sr_ev (v := .slice none 0 0) (ev_assign rfl) (by decide) ?_
  refine sr_end (l' := [(8, .slice none 0 0)]) (.cons rfl (.nil _)) ?_
  cases hS
  exact ke_ret1 Try.func21 rfl rfl ⟨_, rfl, _, rfl, SlR.nil, (hb.below (flat1_le _))⟩
 ·replace hS := ite_false' hS hc11
  refine ke_skip ?_
  refine ke_seq ?_
  refine ke_region ?_
  refine sr_ev (v := str to_1) (ev_move rfl) (by decide) ?_
  refine sr_litOwnT (i := 21) (c := strC) (ρ := (flat1 ρA)) (E := 9) (xs := [to_1]) (vs := #[(0, str to_1)]) (cs := #[str to_1]) (css := [[str to_1]]) rfl (fun _ => by kernel_rfl) rfl ⟨rfl, trivial⟩ rfl (by decide) (by decide) hb.bd (by decide) ?_
  intro v12 ρ16 w14 h13 htr15
  replace hB3 := hB3.mv (htr15.mv (i := 1) rfl)
  replace h2 := h2.mv (htr15.mv (i := 1) rfl) (by decide)
  replace hb := hb.trans htr15
  refine sr_ev (v := v12) (ev_assign rfl) (by decide) ?_
  refine sr_end (l' := [(0, .pointer (some ⟨gd_0, 0, none⟩)), (2, str scope_2), (3, .int .i64 now_3), (9, v12)]) (.cons rfl (.cons rfl (.cons rfl (.cons rfl (.nil _))))) ?_
  refine ke_seq ?_
  refine ke_seq ?_
  refine ke_region ?_
  refine sr_ev (v := .int .i64 0) (ev_assign rfl) (by decide) ?_
  refine sr_end (l' := [(0, .pointer (some ⟨gd_0, 0, none⟩)), (2, str scope_2), (3, .int .i64 now_3), (9, v12), (10, .int .i64 0)]) (.cons rfl (.cons rfl (.cons rfl (.cons rfl (.cons rfl (.nil _)))))) ?_
  refine ke_block ?_
  have hK := ref35_Delegations_Reach_L1_ok hg hbd hz _ hS hb ⟨_, hB3, h2⟩ h13
  exact ke_weaken (l' := [(0, .pointer (some ⟨gd_0, 0, none⟩)), (2, str scope_2), (3, .int .i64 now_3), (9, v12), (10, .int .i64 0)]) (.cons rfl (.cons rfl (.cons rfl (.cons rfl (.cons rfl (.nil _)))))) (ke_loop hK)
theorem law35_DelegatePlays_B2_ok {w0 : World} (hg : Gs w0) {ρA : Tags} (hbd : ∀ b, ρA b ≠ 0 → b < w0.heap.size) (hz : Gz (flat1 ρA)) (r0 : List law35_Op → List Str → List Str → Str → Int → delegate_Delegations → ref35_Delegations → Int → Option (Bool))
  (hr0 : ∀ {r : Bool} {l_0 : List law35_Op} {users_1 : List Str} {scopes_2 : List Str} {one_3 : Str} {now_4 : Int} {od_11 : delegate_Delegations} {of_12 : ref35_Delegations} {i_13 : Int} {vl_0 : Value} {vusers_1 : Value} {vscopes_2 : Value} {gd_11 : Nat} {gf_12 : Nat}, r0 l_0 users_1 scopes_2 one_3 now_4 od_11 of_12 i_13 = some r → ∀ {ρ : Tags} {w : World}, (Fr (flat1 ρA) w0 ρ w) → (SlR law35_Op.c (Wb ρ) w vl_0 l_0) → (SlR strC (Wb ρ) w vusers_1 users_1) → (SlR strC (Wb ρ) w vscopes_2 scopes_2) → (delegate_Delegations.O (fun p => 100 + p) ρ w gd_11 od_11) → (ref35_Delegations.O (fun p => 200 + p) ρ w gf_12 of_12) → KE Try.prog 3 (Ret (fun v w' => v = .bool r ∧ Below w0.heap.size w0 w')) 130 [.inLoop (sub (bodyOf Try.f3) [2, 2, 2, 2, 1, 2, 2, 1]), .inBlock 0, .code (sub (bodyOf Try.f3) [2, 2, 2, 2, 2])] [(0, vl_0), (1, vusers_1), (2, vscopes_2), (3, str one_3), (4, .int .i64 now_4), (11, .pointer (some ⟨gd_11, 0, none⟩)), (12, .pointer (some ⟨gf_12, 0, none⟩)), (13, .int .i64 i_13)] w) {r : Bool} {l_0 : List law35_Op} {users_1 : List Str} {scopes_2 : List Str} {one_3 : Str} {now_4 : Int} {od_11 : delegate_Delegations} {of_12 : ref35_Delegations} {i_13 : Int} {t_128 : Bool} {vl_0 : Value} {vusers_1 : Value} {vscopes_2 : Value} {gd_11 : Nat} {gf_12 : Nat} (hS : law35_DelegatePlays_B2 r0 l_0 users_1 scopes_2 one_3 now_4 od_11 of_12 i_13 t_128 = some r) {ρ : Tags} {w : World} (hb : Fr (flat1 ρA) w0 ρ w) (hl_0 : SlR law35_Op.c (Wb ρ) w vl_0 l_0) (husers_1 : SlR strC (Wb ρ) w vusers_1 users_1) (hscopes_2 : SlR strC (Wb ρ) w vscopes_2 scopes_2) (hod_11 : delegate_Delegations.O (fun p => 100 + p) ρ w gd_11 od_11) (hof_12 : ref35_Delegations.O (fun p => 200 + p) ρ w gf_12 of_12) :
  KE Try.prog 3 (Ret (fun v w' => v = .bool r ∧ Below w0.heap.size w0 w')) 130 [.code (sub (bodyOf Try.f3) [2, 2, 2, 2, 1, 2, 2, 1, 2, 1, 2, 2]), .inBlock 1, .code (sub (bodyOf Try.f3) [2, 2, 2, 2, 1, 2, 2, 1, 2, 2]), .inLoop (sub (bodyOf Try.f3) [2, 2, 2, 2, 1, 2, 2, 1]), .inBlock 0, .code (sub (bodyOf Try.f3) [2, 2, 2, 2, 2])] [(0, vl_0), (1, vusers_1), (2, vscopes_2), (3, str one_3), (4, .int .i64 now_4), (11, .pointer (some ⟨gd_11, 0, none⟩)), (12, .pointer (some ⟨gf_12, 0, none⟩)), (13, .int .i64 i_13), (128, .bool t_128)] w := by
 unfold law35_DelegatePlays_B2 at hS
 obtain ⟨v460, hB462, h461⟩ := hod_11
 replace hB462 : Blk ρ 100 w gd_11 (.cells #[v460] 54 (0, 0)) := hB462
 replace h461 : MapT delegate_way.ek delegate_delegation.c true ρ 101 w v460 od_11.ways := h461
 obtain ⟨v463, hB465, h464⟩ := hof_12
 replace hB465 : Blk ρ 200 w gf_12 (.cells #[.bool of_12.made, v463] 57 (0, 0)) := hB465
 replace h464 : OwnT ref35_one.c 65 ρ 201 w v463 of_12.l := h464
 refine ke_cond (t := t_128) rfl (fun hc466 => ?_) (fun hc466 => ?_)
 ·replace hS := ite_true' hS hc466
  refine ke_seq ?_
  refine ke_region ?_
  refine sr_ev (v := .bool false) (ev_assign rfl) (by decide) ?_
  refine sr_end (l' := [(10, .bool false)]) (.cons rfl (.nil _)) ?_
  cases hS
  exact ke_ret1 Try.func3 rfl rfl ⟨_, rfl, rfl, (hb.below (flat1_le _))⟩
 ·replace hS := ite_false' hS hc466
  refine ke_skip ?_
  refine ke_inBlock ?_
  refine ke_region ?_
  refine sr_ev (v := .int .i64 i_13) (ev_move rfl) (by decide) ?_
  refine sr_ev (v := .int .i64 (IntKind.i64.wrap (i_13 + 1))) (ev_add rfl rfl) (by decide) ?_
  refine sr_ev (v := .int .i64 (IntKind.i64.wrap (i_13 + 1))) (ev_assign rfl) (by decide) ?_
  refine sr_end (l' := [(0, vl_0), (1, vusers_1), (2, vscopes_2), (3, str one_3), (4, .int .i64 now_4), (11, .pointer (some ⟨gd_11, 0, none⟩)), (12, .pointer (some ⟨gf_12, 0, none⟩)), (13, .int .i64 (IntKind.i64.wrap (i_13 + 1)))]) (.cons rfl (.cons rfl (.cons rfl (.cons rfl (.cons rfl (.cons rfl (.cons rfl (.cons rfl (.nil _))))))))) ?_
  have hK := hr0 hS hb hl_0 husers_1 hscopes_2 ⟨_, hB462, h461⟩ ⟨_, hB465, h464⟩
  exact ke_weaken (l' := [(0, vl_0), (1, vusers_1), (2, vscopes_2), (3, str one_3), (4, .int .i64 now_4), (11, .pointer (some ⟨gd_11, 0, none⟩)), (12, .pointer (some ⟨gf_12, 0, none⟩)), (13, .int .i64 (IntKind.i64.wrap (i_13 + 1)))]) (.cons rfl (.cons rfl (.cons rfl (.cons rfl (.cons rfl (.cons rfl (.cons rfl (.cons rfl (.nil _))))))))) hK
theorem law35_DelegatePlays_L1_ok {w0 : World} (hg : Gs w0) {ρA : Tags} (hbd : ∀ b, ρA b ≠ 0 → b < w0.heap.size) (hz : Gz (flat1 ρA)) : ∀ (n : Nat), ∀ {r : Bool} {l_0 : List law35_Op} {users_1 : List Str} {scopes_2 : List Str} {one_3 : Str} {now_4 : Int} {od_11 : delegate_Delegations} {of_12 : ref35_Delegations} {i_13 : Int} {vl_0 : Value} {vusers_1 : Value} {vscopes_2 : Value} {gd_11 : Nat} {gf_12 : Nat}, law35_DelegatePlays_L1 n l_0 users_1 scopes_2 one_3 now_4 od_11 of_12 i_13 = some r → ∀ {ρ : Tags} {w : World}, (Fr (flat1 ρA) w0 ρ w) → (SlR law35_Op.c (Wb ρ) w vl_0 l_0) → (SlR strC (Wb ρ) w vusers_1 users_1) → (SlR strC (Wb ρ) w vscopes_2 scopes_2) → (delegate_Delegations.O (fun p => 100 + p) ρ w gd_11 od_11) → (ref35_Delegations.O (fun p => 200 + p) ρ w gf_12 of_12) → KE Try.prog 3 (Ret (fun v w' => v = .bool r ∧ Below w0.heap.size w0 w')) 130 [.code (sub (bodyOf Try.f3) [2, 2, 2, 2, 1, 2, 2, 1]), .inLoop (sub (bodyOf Try.f3) [2, 2, 2, 2, 1, 2, 2, 1]), .inBlock 0, .code (sub (bodyOf Try.f3) [2, 2, 2, 2, 2])] [(0, vl_0), (1, vusers_1), (2, vscopes_2), (3, str one_3), (4, .int .i64 now_4), (11, .pointer (some ⟨gd_11, 0, none⟩)), (12, .pointer (some ⟨gf_12, 0, none⟩)), (13, .int .i64 i_13)] w := by
 intro n
 induction n with
 | zero => intro r l_0 users_1 scopes_2 one_3 now_4 od_11 of_12 i_13 vl_0 vusers_1 vscopes_2 gd_11 gf_12 hS; cases hS
 | succ n ih =>
  have hr0 : ∀ {r : Bool} {l_0 : List law35_Op} {users_1 : List Str} {scopes_2 : List Str} {one_3 : Str} {now_4 : Int} {od_11 : delegate_Delegations} {of_12 : ref35_Delegations} {i_13 : Int} {vl_0 : Value} {vusers_1 : Value} {vscopes_2 : Value} {gd_11 : Nat} {gf_12 : Nat}, law35_DelegatePlays_L1 n l_0 users_1 scopes_2 one_3 now_4 od_11 of_12 i_13 = some r → ∀ {ρ : Tags} {w : World}, (Fr (flat1 ρA) w0 ρ w) → (SlR law35_Op.c (Wb ρ) w vl_0 l_0) → (SlR strC (Wb ρ) w vusers_1 users_1) → (SlR strC (Wb ρ) w vscopes_2 scopes_2) → (delegate_Delegations.O (fun p => 100 + p) ρ w gd_11 od_11) → (ref35_Delegations.O (fun p => 200 + p) ρ w gf_12 of_12) → KE Try.prog 3 (Ret (fun v w' => v = .bool r ∧ Below w0.heap.size w0 w')) 130 [.inLoop (sub (bodyOf Try.f3) [2, 2, 2, 2, 1, 2, 2, 1]), .inBlock 0, .code (sub (bodyOf Try.f3) [2, 2, 2, 2, 2])] [(0, vl_0), (1, vusers_1), (2, vscopes_2), (3, str one_3), (4, .int .i64 now_4), (11, .pointer (some ⟨gd_11, 0, none⟩)), (12, .pointer (some ⟨gf_12, 0, none⟩)), (13, .int .i64 i_13)] w := fun {r} {l_0} {users_1} {scopes_2} {one_3} {now_4} {od_11} {of_12} {i_13} {vl_0} {vusers_1} {vscopes_2} {gd_11} {gf_12} hS {ρ} {w} hb hl_0 husers_1 hscopes_2 hod_11 hof_12 => ke_inLoop (ih hS hb hl_0 husers_1 hscopes_2 hod_11 hof_12)
  clear ih
  intro r l_0 users_1 scopes_2 one_3 now_4 od_11 of_12 i_13 vl_0 vusers_1 vscopes_2 gd_11 gf_12 hS ρ w hb hl_0 husers_1 hscopes_2 hod_11 hof_12
  unfold law35_DelegatePlays_L1 at hS
  obtain ⟨v72, hB74, h73⟩ := hod_11
  replace hB74 : Blk ρ 100 w gd_11 (.cells #[v72] 54 (0, 0)) := hB74
  replace h73 : MapT delegate_way.ek delegate_delegation.c true ρ 101 w v72 od_11.ways := h73
  obtain ⟨v75, hB77, h76⟩ := hof_12
  replace hB77 : Blk ρ 200 w gf_12 (.cells #[.bool of_12.made, v75] 57 (0, 0)) := hB77
  replace h76 : OwnT ref35_one.c 65 ρ 201 w v75 of_12.l := h76
  refine ke_seq ?_
  refine ke_seq ?_
  refine ke_region ?_
  refine sr_ev (v := .int .i64 i_13) (ev_move rfl) (by decide) ?_
  refine sr_ev (v := vl_0) (ev_move rfl) (by decide) ?_
  refine sr_ev (v := .int .i64 (l_0.length : Int)) (ev_sllen Try.underlying22 rfl hl_0.asSl) (by decide) ?_
  refine sr_ev (v := .bool (decide (i_13 < (l_0.length : Int)))) (ev_lt rfl rfl) (by decide) ?_
  refine sr_end (l' := [(0, vl_0), (1, vusers_1), (2, vscopes_2), (3, str one_3), (4, .int .i64 now_4), (11, .pointer (some ⟨gd_11, 0, none⟩)), (12, .pointer (some ⟨gf_12, 0, none⟩)), (13, .int .i64 i_13), (40, .bool (decide (i_13 < (l_0.length : Int))))]) (.cons rfl (.cons rfl (.cons rfl (.cons rfl (.cons rfl (.cons rfl (.cons rfl (.cons rfl (.cons rfl (.nil _)))))))))) ?_
  refine ke_cond (t := decide (i_13 < (l_0.length : Int))) rfl (fun hc78 => ?_) (fun hc78 => ?_)
  ·replace hS := ite_true' hS hc78
   refine ke_skip ?_
   refine ke_seq ?_
   refine ke_block ?_
   refine ke_seq ?_
   refine ke_region_j (ρ := ρ) (fun t => ([100, 101, 200, 201] : List Nat).contains t) 86 Try.mixed (fun w80 hw79 => ?_)
   have htr81 := Tr.of_below hw79 hb.bd
   replace hl_0 := hl_0.mv htr81.rd
   replace husers_1 := husers_1.mv htr81.rd
   replace hscopes_2 := hscopes_2.mv htr81.rd
   replace hB74 := hB74.mv (htr81.mv (i := 100) rfl)
   replace h73 := h73.mv (htr81.mv (i := 101) rfl)
   replace hB77 := hB77.mv (htr81.mv (i := 200) rfl)
   replace h76 := h76.mv (htr81.mv (i := 201) rfl) (by decide)
   replace hb := hb.trans htr81
   refine dj_H 0 (v := .pointer (some ⟨gd_11, 0, none⟩)) (by as_aux_lemma => kernel_rfl) (by as_aux_lemma => kernel_rfl) rfl (fun _ _ _ h => h) (sj_refl hb.bd rfl rfl) (fun w1 ρ1 hw1 => ev_move rfl) (by decide) ?_
   refine dj_H 1 (v := vl_0) (by as_aux_lemma => kernel_rfl) (by as_aux_lemma => kernel_rfl) rfl (fun _ _ _ h => h) (sj_refl hb.bd rfl rfl) (fun w1 ρ1 hw1 => ev_move rfl) (by decide) ?_
   refine dj_H 2 (v := .int .i64 i_13) (by as_aux_lemma => kernel_rfl) (by as_aux_lemma => kernel_rfl) rfl (fun _ _ _ h => h) (sj_refl hb.bd rfl rfl) (fun w1 ρ1 hw1 => ev_move rfl) (by decide) ?_
   obtain ⟨y421, hy422, hS⟩ := bind_some' hS
   obtain ⟨b423, o424, cs426, hq427, he425⟩ := ((SlT.of_sl (i := 0) hl_0)).elem (P := Try.prog) Try.underlying22 Try.info35 rfl hy422
   obtain ⟨v428, hcshe425, h429⟩ := he425.rd
   obtain rfl : cs426 = [.int .i64 y421.Call, .int .i64 y421.Now, str y421.From, str y421.To, v428, .int .i64 y421.Window.From, .int .i64 y421.Window.Until] := hcshe425
   refine dj_H 3 (v := .pointer (some ⟨b423, o424, none⟩)) (by as_aux_lemma => kernel_rfl) (by as_aux_lemma => kernel_rfl) rfl (fun _ _ _ h => h) (sj_refl hb.bd rfl rfl) (fun w1 ρ1 hw1 => hq427 w1 rfl rfl) (by decide) ?_
   refine dj_H 4 (v := .agg #[.int .i64 y421.Call, .int .i64 y421.Now, str y421.From, str y421.To, v428, .int .i64 y421.Window.From, .int .i64 y421.Window.Until]) (by as_aux_lemma => kernel_rfl) (by as_aux_lemma => kernel_rfl) rfl (fun _ _ _ h => h) (sj_refl hb.bd rfl rfl) (fun w1 ρ1 hw1 => ev_loads (cs := [.int .i64 y421.Call, .int .i64 y421.Now, str y421.From, str y421.To, v428, .int .i64 y421.Window.From, .int .i64 y421.Window.Until]) Try.isAgg35 Try.sizeOf35 rfl (he425.mv (hw1.mv (i := 0) rfl) (Nat.succ_pos _)).cell) (by decide) ?_
   refine dj_H 6 (v := .pointer (some ⟨gf_12, 0, none⟩)) (by as_aux_lemma => kernel_rfl) (by as_aux_lemma => kernel_rfl) rfl (fun _ _ _ h => h) (sj_refl hb.bd rfl rfl) (fun w1 ρ1 hw1 => ev_move rfl) (by decide) ?_
   refine dj_H 7 (v := vl_0) (by as_aux_lemma => kernel_rfl) (by as_aux_lemma => kernel_rfl) rfl (fun _ _ _ h => h) (sj_refl hb.bd rfl rfl) (fun w1 ρ1 hw1 => ev_move rfl) (by decide) ?_
   refine dj_H 8 (v := .int .i64 i_13) (by as_aux_lemma => kernel_rfl) (by as_aux_lemma => kernel_rfl) rfl (fun _ _ _ h => h) (sj_refl hb.bd rfl rfl) (fun w1 ρ1 hw1 => ev_move rfl) (by decide) ?_
   obtain ⟨y430, hy431, hS⟩ := bind_some' hS
   obtain ⟨b432, o433, cs435, hq436, he434⟩ := ((SlT.of_sl (i := 0) hl_0)).elem (P := Try.prog) Try.underlying22 Try.info35 rfl hy431
   obtain ⟨v437, hcshe434, h438⟩ := he434.rd
   obtain rfl : cs435 = [.int .i64 y430.Call, .int .i64 y430.Now, str y430.From, str y430.To, v437, .int .i64 y430.Window.From, .int .i64 y430.Window.Until] := hcshe434
   refine dj_H 9 (v := .pointer (some ⟨b432, o433, none⟩)) (by as_aux_lemma => kernel_rfl) (by as_aux_lemma => kernel_rfl) rfl (fun _ _ _ h => h) (sj_refl hb.bd rfl rfl) (fun w1 ρ1 hw1 => hq436 w1 rfl rfl) (by decide) ?_
   refine dj_H 10 (v := .agg #[.int .i64 y430.Call, .int .i64 y430.Now, str y430.From, str y430.To, v437, .int .i64 y430.Window.From, .int .i64 y430.Window.Until]) (by as_aux_lemma => kernel_rfl) (by as_aux_lemma => kernel_rfl) rfl (fun _ _ _ h => h) (sj_refl hb.bd rfl rfl) (fun w1 ρ1 hw1 => ev_loads (cs := [.int .i64 y430.Call, .int .i64 y430.Now, str y430.From, str y430.To, v437, .int .i64 y430.Window.From, .int .i64 y430.Window.Until]) Try.isAgg35 Try.sizeOf35 rfl (he434.mv (hw1.mv (i := 0) rfl) (Nat.succ_pos _)).cell) (by decide) ?_
   refine dj_E 5 (by as_aux_lemma => kernel_rfl) rfl ?_
   have jt439 : Tr ρ w80 (fun t => ([100, 101, 200, 201] : List Nat).contains t) ρ w80 := (Tr.refl hb.bd).weak (fun _ _ => rfl) rfl rfl
   obtain ⟨y440, hy441, hS⟩ := bind_some' hS
   refine sr_call (vs := [.pointer (some ⟨gd_11, 0, none⟩), .agg #[.int .i64 y421.Call, .int .i64 y421.Now, str y421.From, str y421.To, v428, .int .i64 y421.Window.From, .int .i64 y421.Window.Until]]) rfl Try.call13 rfl (law35_do_ok _ (hg.fr hz hb) (ρA := ρ) hb.bd (hz.fr hg hb) (o := 100) (by decide) h429 (⟨_, hB74, h73⟩ : delegate_Delegations.O (fun p => 100 + p) ρ w80 gd_11 od_11) hy441) (by decide) ?_
   rintro _ w442 ⟨ρ448, rfl, ⟨v445, hB447, h446⟩, htr444⟩
   replace hl_0 := hl_0.mv htr444.rd
   replace husers_1 := husers_1.mv htr444.rd
   replace hscopes_2 := hscopes_2.mv htr444.rd
   replace h438 := h438.mv htr444.rd
   replace hB77 := hB77.mv (htr444.mv (i := 200) rfl)
   replace h76 := h76.mv (htr444.mv (i := 201) rfl) (by decide)
   replace hb := hb.trans htr444
   replace jt439 := (jt439.trans htr444).weak (J' := (fun t => ([100, 101, 200, 201] : List Nat).contains t)) (by intro t h; simp [rng] at h ⊢ <;> omega) rfl rfl
   replace hB447 : Blk ρ448 100 w442 gd_11 (.cells #[v445] 54 (0, 0)) := hB447
   replace h446 : MapT delegate_way.ek delegate_delegation.c true ρ448 101 w442 v445 y440.2.ways := h446
   refine dj_next (l' := [(0, vl_0), (1, vusers_1), (2, vscopes_2), (3, str one_3), (4, .int .i64 now_4), (11, .pointer (some ⟨gd_11, 0, none⟩)), (12, .pointer (some ⟨gf_12, 0, none⟩)), (13, .int .i64 i_13), (48, .int .i64 y440.1), (49, .pointer (some ⟨gf_12, 0, none⟩)), (53, .agg #[.int .i64 y430.Call, .int .i64 y430.Now, str y430.From, str y430.To, v437, .int .i64 y430.Window.From, .int .i64 y430.Window.Until])]) rfl (.cons rfl (.cons rfl (.cons rfl (.cons rfl (.cons rfl (.cons rfl (.cons rfl (.cons rfl (.cons rfl (.cons rfl (.cons rfl (.nil _)))))))))))) jt439 (by intro t h; simp [rng] at h ⊢ <;> omega) rfl rfl ?_
   refine dj_E 11 (by as_aux_lemma => kernel_rfl) rfl ?_
   have jt449 : Tr ρ448 w442 (fun t => ([100, 101, 200, 201] : List Nat).contains t) ρ448 w442 := (Tr.refl hb.bd).weak (fun _ _ => rfl) rfl rfl
   obtain ⟨y450, hy451, hS⟩ := bind_some' hS
   refine sr_call (vs := [.pointer (some ⟨gf_12, 0, none⟩), .agg #[.int .i64 y430.Call, .int .i64 y430.Now, str y430.From, str y430.To, v437, .int .i64 y430.Window.From, .int .i64 y430.Window.Until]]) rfl Try.call14 rfl (law35_done_ok _ (hg.fr hz hb) (ρA := ρ448) hb.bd (hz.fr hg hb) (o := 200) (by decide) h438 (⟨_, hB77, h76⟩ : ref35_Delegations.O (fun p => 200 + p) ρ448 w442 gf_12 of_12) hy451) (by decide) ?_
   rintro _ w452 ⟨ρ458, rfl, ⟨v455, hB457, h456⟩, htr454⟩
   replace hl_0 := hl_0.mv htr454.rd
   replace husers_1 := husers_1.mv htr454.rd
   replace hscopes_2 := hscopes_2.mv htr454.rd
   replace hB447 := hB447.mv (htr454.mv (i := 100) rfl)
   replace h446 := h446.mv (htr454.mv (i := 101) rfl)
   replace hb := hb.trans htr454
   replace jt449 := (jt449.trans htr454).weak (J' := (fun t => ([100, 101, 200, 201] : List Nat).contains t)) (by intro t h; simp [rng] at h ⊢ <;> omega) rfl rfl
   replace hB457 : Blk ρ458 200 w452 gf_12 (.cells #[.bool y450.2.made, v455] 57 (0, 0)) := hB457
   replace h456 : OwnT ref35_one.c 65 ρ458 201 w452 v455 y450.2.l := h456
   refine dj_next (l' := [(0, vl_0), (1, vusers_1), (2, vscopes_2), (3, str one_3), (4, .int .i64 now_4), (11, .pointer (some ⟨gd_11, 0, none⟩)), (12, .pointer (some ⟨gf_12, 0, none⟩)), (13, .int .i64 i_13), (48, .int .i64 y440.1), (54, .int .i64 y450.1)]) rfl (.cons rfl (.cons rfl (.cons rfl (.cons rfl (.cons rfl (.cons rfl (.cons rfl (.cons rfl (.cons rfl (.cons rfl (.nil _))))))))))) jt449 (by intro t h; simp [rng] at h ⊢ <;> omega) rfl rfl ?_
   refine dj_H 12 (v := .bool (y440.1 != y450.1)) (by as_aux_lemma => kernel_rfl) (by as_aux_lemma => kernel_rfl) rfl (fun _ _ _ h => h) (sj_refl hb.bd rfl rfl) (fun w1 ρ1 hw1 => ev_ne rfl rfl) (by decide) ?_
   refine dj_H 13 (v := .bool (y440.1 != y450.1)) (by as_aux_lemma => kernel_rfl) (by as_aux_lemma => kernel_rfl) rfl (fun _ _ _ h => h) (sj_refl hb.bd rfl rfl) (fun w1 ρ1 hw1 => ev_move rfl) (by decide) ?_
   rcases Bool.eq_false_or_eq_true (y440.1 != y450.1) with hg459 | hg459
   ·replace hS := ite_true' hS hg459
    refine dj_pass 14 (e := 56) (by as_aux_lemma => kernel_rfl) (by as_aux_lemma => kernel_rfl) rfl rfl rfl rfl rfl (by rw [hg459]; rfl) (fun _ _ _ h => h) (sj_refl hb.bd rfl rfl) (by decide) ?_
    refine dj_pass 15 (e := 56) (by as_aux_lemma => kernel_rfl) (by as_aux_lemma => kernel_rfl) rfl rfl rfl rfl rfl (by rw [hg459]; rfl) (fun _ _ _ h => h) (sj_refl hb.bd rfl rfl) (by decide) ?_
    refine dj_pass 16 (e := 56) (by as_aux_lemma => kernel_rfl) (by as_aux_lemma => kernel_rfl) rfl rfl rfl rfl rfl (by rw [hg459]; rfl) (fun _ _ _ h => h) (sj_refl hb.bd rfl rfl) (by decide) ?_
    refine dj_pass 17 (e := 56) (by as_aux_lemma => kernel_rfl) (by as_aux_lemma => kernel_rfl) rfl rfl rfl rfl rfl (by rw [hg459]; rfl) (fun _ _ _ h => h) (sj_refl hb.bd rfl rfl) (by decide) ?_
    refine dj_pass 18 (e := 56) (by as_aux_lemma => kernel_rfl) (by as_aux_lemma => kernel_rfl) rfl rfl rfl rfl rfl (by rw [hg459]; rfl) (fun _ _ _ h => h) (sj_refl hb.bd rfl rfl) (by decide) ?_
    refine dj_pass 19 (e := 56) (by as_aux_lemma => kernel_rfl) (by as_aux_lemma => kernel_rfl) rfl rfl rfl rfl rfl (by rw [hg459]; rfl) (fun _ _ _ h => h) (sj_refl hb.bd rfl rfl) (by decide) ?_
    refine dj_pass 20 (e := 56) (by as_aux_lemma => kernel_rfl) (by as_aux_lemma => kernel_rfl) rfl rfl rfl rfl rfl (by rw [hg459]; rfl) (fun _ _ _ h => h) (sj_refl hb.bd rfl rfl) (by decide) ?_
    refine dj_pass 21 (e := 56) (by as_aux_lemma => kernel_rfl) (by as_aux_lemma => kernel_rfl) rfl rfl rfl rfl rfl (by rw [hg459]; rfl) (fun _ _ _ h => h) (sj_refl hb.bd rfl rfl) (by decide) ?_
    refine dj_pass 22 (e := 56) (by as_aux_lemma => kernel_rfl) (by as_aux_lemma => kernel_rfl) rfl rfl rfl rfl rfl (by rw [hg459]; rfl) (fun _ _ _ h => h) (sj_refl hb.bd rfl rfl) (by decide) ?_
    refine dj_pass 23 (e := 56) (by as_aux_lemma => kernel_rfl) (by as_aux_lemma => kernel_rfl) rfl rfl rfl rfl rfl (by rw [hg459]; rfl) (fun _ _ _ h => h) (sj_refl hb.bd rfl rfl) (by decide) ?_
    refine dj_pass 24 (e := 56) (by as_aux_lemma => kernel_rfl) (by as_aux_lemma => kernel_rfl) rfl rfl rfl rfl rfl (by rw [hg459]; rfl) (fun _ _ _ h => h) (sj_refl hb.bd rfl rfl) (by decide) ?_
    refine dj_pass 25 (e := 56) (by as_aux_lemma => kernel_rfl) (by as_aux_lemma => kernel_rfl) rfl rfl rfl rfl rfl (by rw [hg459]; rfl) (fun _ _ _ h => h) (sj_refl hb.bd rfl rfl) (by decide) ?_
    refine dj_pass 26 (e := 56) (by as_aux_lemma => kernel_rfl) (by as_aux_lemma => kernel_rfl) rfl rfl rfl rfl rfl (by rw [hg459]; rfl) (fun _ _ _ h => h) (sj_refl hb.bd rfl rfl) (by decide) ?_
    refine dj_pass 27 (e := 56) (by as_aux_lemma => kernel_rfl) (by as_aux_lemma => kernel_rfl) rfl rfl rfl rfl rfl (by rw [hg459]; rfl) (fun _ _ _ h => h) (sj_refl hb.bd rfl rfl) (by decide) ?_
    refine dj_pass 28 (e := 56) (by as_aux_lemma => kernel_rfl) (by as_aux_lemma => kernel_rfl) rfl rfl rfl rfl rfl (by rw [hg459]; rfl) (fun _ _ _ h => h) (sj_refl hb.bd rfl rfl) (by decide) ?_
    refine dj_pass 29 (e := 56) (by as_aux_lemma => kernel_rfl) (by as_aux_lemma => kernel_rfl) rfl rfl rfl rfl rfl (by rw [hg459]; rfl) (fun _ _ _ h => h) (sj_refl hb.bd rfl rfl) (by decide) ?_
    refine dj_pass 30 (e := 56) (by as_aux_lemma => kernel_rfl) (by as_aux_lemma => kernel_rfl) rfl rfl rfl rfl rfl (by rw [hg459]; rfl) (fun _ _ _ h => h) (sj_refl hb.bd rfl rfl) (by decide) ?_
    refine dj_pass 31 (e := 56) (by as_aux_lemma => kernel_rfl) (by as_aux_lemma => kernel_rfl) rfl rfl rfl rfl rfl (by rw [hg459]; rfl) (fun _ _ _ h => h) (sj_refl hb.bd rfl rfl) (by decide) ?_
    refine dj_pass 32 (e := 56) (by as_aux_lemma => kernel_rfl) (by as_aux_lemma => kernel_rfl) rfl rfl rfl rfl rfl (by rw [hg459]; rfl) (fun _ _ _ h => h) (sj_refl hb.bd rfl rfl) (by decide) ?_
    refine dj_pass 33 (e := 56) (by as_aux_lemma => kernel_rfl) (by as_aux_lemma => kernel_rfl) rfl rfl rfl rfl rfl (by rw [hg459]; rfl) (fun _ _ _ h => h) (sj_refl hb.bd rfl rfl) (by decide) ?_
    refine dj_pass 34 (e := 56) (by as_aux_lemma => kernel_rfl) (by as_aux_lemma => kernel_rfl) rfl rfl rfl rfl rfl (by rw [hg459]; rfl) (fun _ _ _ h => h) (sj_refl hb.bd rfl rfl) (by decide) ?_
    refine dj_pass 35 (e := 56) (by as_aux_lemma => kernel_rfl) (by as_aux_lemma => kernel_rfl) rfl rfl rfl rfl rfl (by rw [hg459]; rfl) (fun _ _ _ h => h) (sj_refl hb.bd rfl rfl) (by decide) ?_
    refine dj_pass 36 (e := 56) (by as_aux_lemma => kernel_rfl) (by as_aux_lemma => kernel_rfl) rfl rfl rfl rfl rfl (by rw [hg459]; rfl) (fun _ _ _ h => h) (sj_refl hb.bd rfl rfl) (by decide) ?_
    refine dj_pass 37 (e := 56) (by as_aux_lemma => kernel_rfl) (by as_aux_lemma => kernel_rfl) rfl rfl rfl rfl rfl (by rw [hg459]; rfl) (fun _ _ _ h => h) (sj_refl hb.bd rfl rfl) (by decide) ?_
    refine dj_pass 38 (e := 56) (by as_aux_lemma => kernel_rfl) (by as_aux_lemma => kernel_rfl) rfl rfl rfl rfl rfl (by rw [hg459]; rfl) (fun _ _ _ h => h) (sj_refl hb.bd rfl rfl) (by decide) ?_
    refine dj_pass 39 (e := 56) (by as_aux_lemma => kernel_rfl) (by as_aux_lemma => kernel_rfl) rfl rfl rfl rfl rfl (by rw [hg459]; rfl) (fun _ _ _ h => h) (sj_refl hb.bd rfl rfl) (by decide) ?_
    refine dj_pass 40 (e := 56) (by as_aux_lemma => kernel_rfl) (by as_aux_lemma => kernel_rfl) rfl rfl rfl rfl rfl (by rw [hg459]; rfl) (fun _ _ _ h => h) (sj_refl hb.bd rfl rfl) (by decide) ?_
    refine dj_pass 41 (e := 56) (by as_aux_lemma => kernel_rfl) (by as_aux_lemma => kernel_rfl) rfl rfl rfl rfl rfl (by rw [hg459]; rfl) (fun _ _ _ h => h) (sj_refl hb.bd rfl rfl) (by decide) ?_
    refine dj_pass 42 (e := 56) (by as_aux_lemma => kernel_rfl) (by as_aux_lemma => kernel_rfl) rfl rfl rfl rfl rfl (by rw [hg459]; rfl) (fun _ _ _ h => h) (sj_refl hb.bd rfl rfl) (by decide) ?_
    refine dj_pass 43 (e := 56) (by as_aux_lemma => kernel_rfl) (by as_aux_lemma => kernel_rfl) rfl rfl rfl rfl rfl (by rw [hg459]; rfl) (fun _ _ _ h => h) (sj_refl hb.bd rfl rfl) (by decide) ?_
    refine dj_pass 44 (e := 56) (by as_aux_lemma => kernel_rfl) (by as_aux_lemma => kernel_rfl) rfl rfl rfl rfl rfl (by rw [hg459]; rfl) (fun _ _ _ h => h) (sj_refl hb.bd rfl rfl) (by decide) ?_
    refine dj_pass 45 (e := 56) (by as_aux_lemma => kernel_rfl) (by as_aux_lemma => kernel_rfl) rfl rfl rfl rfl rfl (by rw [hg459]; rfl) (fun _ _ _ h => h) (sj_refl hb.bd rfl rfl) (by decide) ?_
    refine dj_pass 46 (e := 56) (by as_aux_lemma => kernel_rfl) (by as_aux_lemma => kernel_rfl) rfl rfl rfl rfl rfl (by rw [hg459]; rfl) (fun _ _ _ h => h) (sj_refl hb.bd rfl rfl) (by decide) ?_
    refine dj_pass 47 (e := 56) (by as_aux_lemma => kernel_rfl) (by as_aux_lemma => kernel_rfl) rfl rfl rfl rfl rfl (by rw [hg459]; rfl) (fun _ _ _ h => h) (sj_refl hb.bd rfl rfl) (by decide) ?_
    refine dj_pass 48 (e := 56) (by as_aux_lemma => kernel_rfl) (by as_aux_lemma => kernel_rfl) rfl rfl rfl rfl rfl (by rw [hg459]; rfl) (fun _ _ _ h => h) (sj_refl hb.bd rfl rfl) (by decide) ?_
    refine dj_pass 49 (e := 56) (by as_aux_lemma => kernel_rfl) (by as_aux_lemma => kernel_rfl) rfl rfl rfl rfl rfl (by rw [hg459]; rfl) (fun _ _ _ h => h) (sj_refl hb.bd rfl rfl) (by decide) ?_
    refine dj_H 50 (v := .bool true) (by as_aux_lemma => kernel_rfl) (by as_aux_lemma => kernel_rfl) rfl (fun _ _ _ h => h) (sj_refl hb.bd rfl rfl) (fun w1 ρ1 hw1 => ev_pick_t rfl hg459 rfl) (by decide) ?_
    refine dj_H 51 (v := .bool true) (by as_aux_lemma => kernel_rfl) (by as_aux_lemma => kernel_rfl) rfl (fun _ _ _ h => h) (sj_refl hb.bd rfl rfl) (fun w1 ρ1 hw1 => ev_move rfl) (by decide) ?_
    refine dj_pass 52 (e := 94) (by as_aux_lemma => kernel_rfl) (by as_aux_lemma => kernel_rfl) rfl rfl rfl rfl rfl rfl (fun _ _ _ h => h) (sj_refl hb.bd rfl rfl) (by decide) ?_
    refine dj_pass 53 (e := 94) (by as_aux_lemma => kernel_rfl) (by as_aux_lemma => kernel_rfl) rfl rfl rfl rfl rfl rfl (fun _ _ _ h => h) (sj_refl hb.bd rfl rfl) (by decide) ?_
    refine dj_pass 54 (e := 94) (by as_aux_lemma => kernel_rfl) (by as_aux_lemma => kernel_rfl) rfl rfl rfl rfl rfl rfl (fun _ _ _ h => h) (sj_refl hb.bd rfl rfl) (by decide) ?_
    refine dj_pass 55 (e := 94) (by as_aux_lemma => kernel_rfl) (by as_aux_lemma => kernel_rfl) rfl rfl rfl rfl rfl rfl (fun _ _ _ h => h) (sj_refl hb.bd rfl rfl) (by decide) ?_
    refine dj_pass 56 (e := 94) (by as_aux_lemma => kernel_rfl) (by as_aux_lemma => kernel_rfl) rfl rfl rfl rfl rfl rfl (fun _ _ _ h => h) (sj_refl hb.bd rfl rfl) (by decide) ?_
    refine dj_pass 57 (e := 94) (by as_aux_lemma => kernel_rfl) (by as_aux_lemma => kernel_rfl) rfl rfl rfl rfl rfl rfl (fun _ _ _ h => h) (sj_refl hb.bd rfl rfl) (by decide) ?_
    refine dj_pass 58 (e := 94) (by as_aux_lemma => kernel_rfl) (by as_aux_lemma => kernel_rfl) rfl rfl rfl rfl rfl rfl (fun _ _ _ h => h) (sj_refl hb.bd rfl rfl) (by decide) ?_
    refine dj_pass 59 (e := 94) (by as_aux_lemma => kernel_rfl) (by as_aux_lemma => kernel_rfl) rfl rfl rfl rfl rfl rfl (fun _ _ _ h => h) (sj_refl hb.bd rfl rfl) (by decide) ?_
    refine dj_pass 60 (e := 94) (by as_aux_lemma => kernel_rfl) (by as_aux_lemma => kernel_rfl) rfl rfl rfl rfl rfl rfl (fun _ _ _ h => h) (sj_refl hb.bd rfl rfl) (by decide) ?_
    refine dj_pass 61 (e := 94) (by as_aux_lemma => kernel_rfl) (by as_aux_lemma => kernel_rfl) rfl rfl rfl rfl rfl rfl (fun _ _ _ h => h) (sj_refl hb.bd rfl rfl) (by decide) ?_
    refine dj_pass 62 (e := 94) (by as_aux_lemma => kernel_rfl) (by as_aux_lemma => kernel_rfl) rfl rfl rfl rfl rfl rfl (fun _ _ _ h => h) (sj_refl hb.bd rfl rfl) (by decide) ?_
    refine dj_H 63 (v := .bool true) (by as_aux_lemma => kernel_rfl) (by as_aux_lemma => kernel_rfl) rfl (fun _ _ _ h => h) (sj_refl hb.bd rfl rfl) (fun w1 ρ1 hw1 => ev_pick_t rfl rfl rfl) (by decide) ?_
    refine dj_H 64 (v := .bool true) (by as_aux_lemma => kernel_rfl) (by as_aux_lemma => kernel_rfl) rfl (fun _ _ _ h => h) (sj_refl hb.bd rfl rfl) (fun w1 ρ1 hw1 => ev_move rfl) (by decide) ?_
    refine dj_pass 65 (e := 107) (by as_aux_lemma => kernel_rfl) (by as_aux_lemma => kernel_rfl) rfl rfl rfl rfl rfl rfl (fun _ _ _ h => h) (sj_refl hb.bd rfl rfl) (by decide) ?_
    refine dj_pass 66 (e := 107) (by as_aux_lemma => kernel_rfl) (by as_aux_lemma => kernel_rfl) rfl rfl rfl rfl rfl rfl (fun _ _ _ h => h) (sj_refl hb.bd rfl rfl) (by decide) ?_
    refine dj_pass 67 (e := 107) (by as_aux_lemma => kernel_rfl) (by as_aux_lemma => kernel_rfl) rfl rfl rfl rfl rfl rfl (fun _ _ _ h => h) (sj_refl hb.bd rfl rfl) (by decide) ?_
    refine dj_pass 68 (e := 107) (by as_aux_lemma => kernel_rfl) (by as_aux_lemma => kernel_rfl) rfl rfl rfl rfl rfl rfl (fun _ _ _ h => h) (sj_refl hb.bd rfl rfl) (by decide) ?_
    refine dj_pass 69 (e := 107) (by as_aux_lemma => kernel_rfl) (by as_aux_lemma => kernel_rfl) rfl rfl rfl rfl rfl rfl (fun _ _ _ h => h) (sj_refl hb.bd rfl rfl) (by decide) ?_
    refine dj_pass 70 (e := 107) (by as_aux_lemma => kernel_rfl) (by as_aux_lemma => kernel_rfl) rfl rfl rfl rfl rfl rfl (fun _ _ _ h => h) (sj_refl hb.bd rfl rfl) (by decide) ?_
    refine dj_pass 71 (e := 107) (by as_aux_lemma => kernel_rfl) (by as_aux_lemma => kernel_rfl) rfl rfl rfl rfl rfl rfl (fun _ _ _ h => h) (sj_refl hb.bd rfl rfl) (by decide) ?_
    refine dj_pass 72 (e := 107) (by as_aux_lemma => kernel_rfl) (by as_aux_lemma => kernel_rfl) rfl rfl rfl rfl rfl rfl (fun _ _ _ h => h) (sj_refl hb.bd rfl rfl) (by decide) ?_
    refine dj_pass 73 (e := 107) (by as_aux_lemma => kernel_rfl) (by as_aux_lemma => kernel_rfl) rfl rfl rfl rfl rfl rfl (fun _ _ _ h => h) (sj_refl hb.bd rfl rfl) (by decide) ?_
    refine dj_pass 74 (e := 107) (by as_aux_lemma => kernel_rfl) (by as_aux_lemma => kernel_rfl) rfl rfl rfl rfl rfl rfl (fun _ _ _ h => h) (sj_refl hb.bd rfl rfl) (by decide) ?_
    refine dj_pass 75 (e := 107) (by as_aux_lemma => kernel_rfl) (by as_aux_lemma => kernel_rfl) rfl rfl rfl rfl rfl rfl (fun _ _ _ h => h) (sj_refl hb.bd rfl rfl) (by decide) ?_
    refine dj_pass 76 (e := 107) (by as_aux_lemma => kernel_rfl) (by as_aux_lemma => kernel_rfl) rfl rfl rfl rfl rfl rfl (fun _ _ _ h => h) (sj_refl hb.bd rfl rfl) (by decide) ?_
    refine dj_pass 77 (e := 107) (by as_aux_lemma => kernel_rfl) (by as_aux_lemma => kernel_rfl) rfl rfl rfl rfl rfl rfl (fun _ _ _ h => h) (sj_refl hb.bd rfl rfl) (by decide) ?_
    refine dj_pass 78 (e := 107) (by as_aux_lemma => kernel_rfl) (by as_aux_lemma => kernel_rfl) rfl rfl rfl rfl rfl rfl (fun _ _ _ h => h) (sj_refl hb.bd rfl rfl) (by decide) ?_
    refine dj_pass 79 (e := 107) (by as_aux_lemma => kernel_rfl) (by as_aux_lemma => kernel_rfl) rfl rfl rfl rfl rfl rfl (fun _ _ _ h => h) (sj_refl hb.bd rfl rfl) (by decide) ?_
    refine dj_pass 80 (e := 107) (by as_aux_lemma => kernel_rfl) (by as_aux_lemma => kernel_rfl) rfl rfl rfl rfl rfl rfl (fun _ _ _ h => h) (sj_refl hb.bd rfl rfl) (by decide) ?_
    refine dj_pass 81 (e := 107) (by as_aux_lemma => kernel_rfl) (by as_aux_lemma => kernel_rfl) rfl rfl rfl rfl rfl rfl (fun _ _ _ h => h) (sj_refl hb.bd rfl rfl) (by decide) ?_
    refine dj_pass 82 (e := 107) (by as_aux_lemma => kernel_rfl) (by as_aux_lemma => kernel_rfl) rfl rfl rfl rfl rfl rfl (fun _ _ _ h => h) (sj_refl hb.bd rfl rfl) (by decide) ?_
    refine dj_pass 83 (e := 107) (by as_aux_lemma => kernel_rfl) (by as_aux_lemma => kernel_rfl) rfl rfl rfl rfl rfl rfl (fun _ _ _ h => h) (sj_refl hb.bd rfl rfl) (by decide) ?_
    refine dj_pass 84 (e := 107) (by as_aux_lemma => kernel_rfl) (by as_aux_lemma => kernel_rfl) rfl rfl rfl rfl rfl rfl (fun _ _ _ h => h) (sj_refl hb.bd rfl rfl) (by decide) ?_
    refine dj_H 85 (v := .bool true) (by as_aux_lemma => kernel_rfl) (by as_aux_lemma => kernel_rfl) rfl (fun _ _ _ h => h) (sj_refl hb.bd rfl rfl) (fun w1 ρ1 hw1 => ev_pick_t rfl rfl rfl) (by decide) ?_
    refine dj_done rfl (by as_aux_lemma => kernel_rfl) ?_
    refine ke_weaken (l' := [(0, vl_0), (1, vusers_1), (2, vscopes_2), (3, str one_3), (4, .int .i64 now_4), (11, .pointer (some ⟨gd_11, 0, none⟩)), (12, .pointer (some ⟨gf_12, 0, none⟩)), (13, .int .i64 i_13), (128, .bool true)]) (.cons rfl (.cons rfl (.cons rfl (.cons rfl (.cons rfl (.cons rfl (.cons rfl (.cons rfl (.cons rfl (.nil _)))))))))) ?_
    have hK := law35_DelegatePlays_B2_ok hg hbd hz _ hr0 hS hb hl_0 husers_1 hscopes_2 ⟨_, hB447, h446⟩ ⟨_, hB457, h456⟩
    exact ke_weaken (l' := [(0, vl_0), (1, vusers_1), (2, vscopes_2), (3, str one_3), (4, .int .i64 now_4), (11, .pointer (some ⟨gd_11, 0, none⟩)), (12, .pointer (some ⟨gf_12, 0, none⟩)), (13, .int .i64 i_13), (128, .bool true)]) (.cons rfl (.cons rfl (.cons rfl (.cons rfl (.cons rfl (.cons rfl (.cons rfl (.cons rfl (.cons rfl (.nil _)))))))))) hK
   ·replace hS := ite_false' hS hg459
    refine dj_Hg 14 (v := .pointer (some ⟨gd_11, 0, none⟩)) (by as_aux_lemma => kernel_rfl) (by as_aux_lemma => kernel_rfl) rfl rfl rfl hg459 (fun _ _ _ h => h) (sj_refl hb.bd rfl rfl) (fun w1 ρ1 hw1 => ev_move rfl) (by decide) ?_
    refine dj_Hg 15 (v := vl_0) (by as_aux_lemma => kernel_rfl) (by as_aux_lemma => kernel_rfl) rfl rfl rfl hg459 (fun _ _ _ h => h) (sj_refl hb.bd rfl rfl) (fun w1 ρ1 hw1 => ev_move rfl) (by decide) ?_
    refine dj_Hg 16 (v := .int .i64 i_13) (by as_aux_lemma => kernel_rfl) (by as_aux_lemma => kernel_rfl) rfl rfl rfl hg459 (fun _ _ _ h => h) (sj_refl hb.bd rfl rfl) (fun w1 ρ1 hw1 => ev_move rfl) (by decide) ?_
    obtain ⟨y467, hy468, hS⟩ := bind_some' hS
    obtain ⟨b469, o470, cs472, hq473, he471⟩ := ((SlT.of_sl (i := 0) hl_0)).elem (P := Try.prog) Try.underlying22 Try.info35 rfl hy468
    obtain ⟨v474, hcshe471, h475⟩ := he471.rd
    obtain rfl : cs472 = [.int .i64 y467.Call, .int .i64 y467.Now, str y467.From, str y467.To, v474, .int .i64 y467.Window.From, .int .i64 y467.Window.Until] := hcshe471
    refine dj_Hg 17 (v := .pointer (some ⟨b469, o470, none⟩)) (by as_aux_lemma => kernel_rfl) (by as_aux_lemma => kernel_rfl) rfl rfl rfl hg459 (fun _ _ _ h => h) (sj_refl hb.bd rfl rfl) (fun w1 ρ1 hw1 => hq473 w1 rfl rfl) (by decide) ?_
    refine dj_Hg 18 (v := .pointer (some ⟨b469, o470 + 2, none⟩)) (by as_aux_lemma => kernel_rfl) (by as_aux_lemma => kernel_rfl) rfl rfl rfl hg459 (fun _ _ _ h => h) (sj_refl hb.bd rfl rfl) (fun w1 ρ1 hw1 => ev_fieldAddr (i := 2) Try.underlying35 rfl Try.info9 rfl rfl) (by decide) ?_
    refine dj_Hg 19 (v := str y467.From) (by as_aux_lemma => kernel_rfl) (by as_aux_lemma => kernel_rfl) rfl rfl rfl hg459 (fun _ _ _ h => h) (sj_refl hb.bd rfl rfl) (fun w1 ρ1 hw1 => ev_load Try.isAgg9 rfl ((he471.mv (hw1.mv (i := 0) rfl) (Nat.succ_pos _)).cell 2 _ rfl)) (by decide) ?_
    refine dj_Hg 20 (v := vl_0) (by as_aux_lemma => kernel_rfl) (by as_aux_lemma => kernel_rfl) rfl rfl rfl hg459 (fun _ _ _ h => h) (sj_refl hb.bd rfl rfl) (fun w1 ρ1 hw1 => ev_move rfl) (by decide) ?_
    refine dj_Hg 21 (v := .int .i64 i_13) (by as_aux_lemma => kernel_rfl) (by as_aux_lemma => kernel_rfl) rfl rfl rfl hg459 (fun _ _ _ h => h) (sj_refl hb.bd rfl rfl) (fun w1 ρ1 hw1 => ev_move rfl) (by decide) ?_
    obtain ⟨y476, hy477, hS⟩ := bind_some' hS
    obtain ⟨b478, o479, cs481, hq482, he480⟩ := ((SlT.of_sl (i := 0) hl_0)).elem (P := Try.prog) Try.underlying22 Try.info35 rfl hy477
    obtain ⟨v483, hcshe480, h484⟩ := he480.rd
    obtain rfl : cs481 = [.int .i64 y476.Call, .int .i64 y476.Now, str y476.From, str y476.To, v483, .int .i64 y476.Window.From, .int .i64 y476.Window.Until] := hcshe480
    refine dj_Hg 22 (v := .pointer (some ⟨b478, o479, none⟩)) (by as_aux_lemma => kernel_rfl) (by as_aux_lemma => kernel_rfl) rfl rfl rfl hg459 (fun _ _ _ h => h) (sj_refl hb.bd rfl rfl) (fun w1 ρ1 hw1 => hq482 w1 rfl rfl) (by decide) ?_
    refine dj_Hg 23 (v := .pointer (some ⟨b478, o479 + 3, none⟩)) (by as_aux_lemma => kernel_rfl) (by as_aux_lemma => kernel_rfl) rfl rfl rfl hg459 (fun _ _ _ h => h) (sj_refl hb.bd rfl rfl) (fun w1 ρ1 hw1 => ev_fieldAddr (i := 3) Try.underlying35 rfl Try.info9 rfl rfl) (by decide) ?_
    refine dj_Hg 24 (v := str y476.To) (by as_aux_lemma => kernel_rfl) (by as_aux_lemma => kernel_rfl) rfl rfl rfl hg459 (fun _ _ _ h => h) (sj_refl hb.bd rfl rfl) (fun w1 ρ1 hw1 => ev_load Try.isAgg9 rfl ((he480.mv (hw1.mv (i := 0) rfl) (Nat.succ_pos _)).cell 3 _ rfl)) (by decide) ?_
    refine dj_Hg 25 (v := vl_0) (by as_aux_lemma => kernel_rfl) (by as_aux_lemma => kernel_rfl) rfl rfl rfl hg459 (fun _ _ _ h => h) (sj_refl hb.bd rfl rfl) (fun w1 ρ1 hw1 => ev_move rfl) (by decide) ?_
    refine dj_Hg 26 (v := .int .i64 i_13) (by as_aux_lemma => kernel_rfl) (by as_aux_lemma => kernel_rfl) rfl rfl rfl hg459 (fun _ _ _ h => h) (sj_refl hb.bd rfl rfl) (fun w1 ρ1 hw1 => ev_move rfl) (by decide) ?_
    obtain ⟨y485, hy486, hS⟩ := bind_some' hS
    obtain ⟨b487, o488, cs490, hq491, he489⟩ := ((SlT.of_sl (i := 0) hl_0)).elem (P := Try.prog) Try.underlying22 Try.info35 rfl hy486
    obtain ⟨v492, hcshe489, h493⟩ := he489.rd
    obtain rfl : cs490 = [.int .i64 y485.Call, .int .i64 y485.Now, str y485.From, str y485.To, v492, .int .i64 y485.Window.From, .int .i64 y485.Window.Until] := hcshe489
    refine dj_Hg 27 (v := .pointer (some ⟨b487, o488, none⟩)) (by as_aux_lemma => kernel_rfl) (by as_aux_lemma => kernel_rfl) rfl rfl rfl hg459 (fun _ _ _ h => h) (sj_refl hb.bd rfl rfl) (fun w1 ρ1 hw1 => hq491 w1 rfl rfl) (by decide) ?_
    refine dj_Hg 28 (v := .pointer (some ⟨b487, o488 + 1, none⟩)) (by as_aux_lemma => kernel_rfl) (by as_aux_lemma => kernel_rfl) rfl rfl rfl hg459 (fun _ _ _ h => h) (sj_refl hb.bd rfl rfl) (fun w1 ρ1 hw1 => ev_fieldAddr (i := 1) Try.underlying35 rfl Try.info3 rfl rfl) (by decide) ?_
    refine dj_Hg 29 (v := .int .i64 y485.Now) (by as_aux_lemma => kernel_rfl) (by as_aux_lemma => kernel_rfl) rfl rfl rfl hg459 (fun _ _ _ h => h) (sj_refl hb.bd rfl rfl) (fun w1 ρ1 hw1 => ev_load Try.isAgg3 rfl ((he489.mv (hw1.mv (i := 0) rfl) (Nat.succ_pos _)).cell 1 _ rfl)) (by decide) ?_
    refine dj_Hg 31 (v := .pointer (some ⟨gf_12, 0, none⟩)) (by as_aux_lemma => kernel_rfl) (by as_aux_lemma => kernel_rfl) rfl rfl rfl hg459 (fun _ _ _ h => h) (sj_refl hb.bd rfl rfl) (fun w1 ρ1 hw1 => ev_move rfl) (by decide) ?_
    refine dj_Hg 32 (v := vl_0) (by as_aux_lemma => kernel_rfl) (by as_aux_lemma => kernel_rfl) rfl rfl rfl hg459 (fun _ _ _ h => h) (sj_refl hb.bd rfl rfl) (fun w1 ρ1 hw1 => ev_move rfl) (by decide) ?_
    refine dj_Hg 33 (v := .int .i64 i_13) (by as_aux_lemma => kernel_rfl) (by as_aux_lemma => kernel_rfl) rfl rfl rfl hg459 (fun _ _ _ h => h) (sj_refl hb.bd rfl rfl) (fun w1 ρ1 hw1 => ev_move rfl) (by decide) ?_
    obtain ⟨y494, hy495, hS⟩ := bind_some' hS
    obtain ⟨b496, o497, cs499, hq500, he498⟩ := ((SlT.of_sl (i := 0) hl_0)).elem (P := Try.prog) Try.underlying22 Try.info35 rfl hy495
    obtain ⟨v501, hcshe498, h502⟩ := he498.rd
    obtain rfl : cs499 = [.int .i64 y494.Call, .int .i64 y494.Now, str y494.From, str y494.To, v501, .int .i64 y494.Window.From, .int .i64 y494.Window.Until] := hcshe498
    refine dj_Hg 34 (v := .pointer (some ⟨b496, o497, none⟩)) (by as_aux_lemma => kernel_rfl) (by as_aux_lemma => kernel_rfl) rfl rfl rfl hg459 (fun _ _ _ h => h) (sj_refl hb.bd rfl rfl) (fun w1 ρ1 hw1 => hq500 w1 rfl rfl) (by decide) ?_
    refine dj_Hg 35 (v := .pointer (some ⟨b496, o497 + 2, none⟩)) (by as_aux_lemma => kernel_rfl) (by as_aux_lemma => kernel_rfl) rfl rfl rfl hg459 (fun _ _ _ h => h) (sj_refl hb.bd rfl rfl) (fun w1 ρ1 hw1 => ev_fieldAddr (i := 2) Try.underlying35 rfl Try.info9 rfl rfl) (by decide) ?_
    refine dj_Hg 36 (v := str y494.From) (by as_aux_lemma => kernel_rfl) (by as_aux_lemma => kernel_rfl) rfl rfl rfl hg459 (fun _ _ _ h => h) (sj_refl hb.bd rfl rfl) (fun w1 ρ1 hw1 => ev_load Try.isAgg9 rfl ((he498.mv (hw1.mv (i := 0) rfl) (Nat.succ_pos _)).cell 2 _ rfl)) (by decide) ?_
    refine dj_Hg 37 (v := vl_0) (by as_aux_lemma => kernel_rfl) (by as_aux_lemma => kernel_rfl) rfl rfl rfl hg459 (fun _ _ _ h => h) (sj_refl hb.bd rfl rfl) (fun w1 ρ1 hw1 => ev_move rfl) (by decide) ?_
    refine dj_Hg 38 (v := .int .i64 i_13) (by as_aux_lemma => kernel_rfl) (by as_aux_lemma => kernel_rfl) rfl rfl rfl hg459 (fun _ _ _ h => h) (sj_refl hb.bd rfl rfl) (fun w1 ρ1 hw1 => ev_move rfl) (by decide) ?_
    obtain ⟨y503, hy504, hS⟩ := bind_some' hS
    obtain ⟨b505, o506, cs508, hq509, he507⟩ := ((SlT.of_sl (i := 0) hl_0)).elem (P := Try.prog) Try.underlying22 Try.info35 rfl hy504
    obtain ⟨v510, hcshe507, h511⟩ := he507.rd
    obtain rfl : cs508 = [.int .i64 y503.Call, .int .i64 y503.Now, str y503.From, str y503.To, v510, .int .i64 y503.Window.From, .int .i64 y503.Window.Until] := hcshe507
    refine dj_Hg 39 (v := .pointer (some ⟨b505, o506, none⟩)) (by as_aux_lemma => kernel_rfl) (by as_aux_lemma => kernel_rfl) rfl rfl rfl hg459 (fun _ _ _ h => h) (sj_refl hb.bd rfl rfl) (fun w1 ρ1 hw1 => hq509 w1 rfl rfl) (by decide) ?_
    refine dj_Hg 40 (v := .pointer (some ⟨b505, o506 + 3, none⟩)) (by as_aux_lemma => kernel_rfl) (by as_aux_lemma => kernel_rfl) rfl rfl rfl hg459 (fun _ _ _ h => h) (sj_refl hb.bd rfl rfl) (fun w1 ρ1 hw1 => ev_fieldAddr (i := 3) Try.underlying35 rfl Try.info9 rfl rfl) (by decide) ?_
    refine dj_Hg 41 (v := str y503.To) (by as_aux_lemma => kernel_rfl) (by as_aux_lemma => kernel_rfl) rfl rfl rfl hg459 (fun _ _ _ h => h) (sj_refl hb.bd rfl rfl) (fun w1 ρ1 hw1 => ev_load Try.isAgg9 rfl ((he507.mv (hw1.mv (i := 0) rfl) (Nat.succ_pos _)).cell 3 _ rfl)) (by decide) ?_
    refine dj_Hg 42 (v := vl_0) (by as_aux_lemma => kernel_rfl) (by as_aux_lemma => kernel_rfl) rfl rfl rfl hg459 (fun _ _ _ h => h) (sj_refl hb.bd rfl rfl) (fun w1 ρ1 hw1 => ev_move rfl) (by decide) ?_
    refine dj_Hg 43 (v := .int .i64 i_13) (by as_aux_lemma => kernel_rfl) (by as_aux_lemma => kernel_rfl) rfl rfl rfl hg459 (fun _ _ _ h => h) (sj_refl hb.bd rfl rfl) (fun w1 ρ1 hw1 => ev_move rfl) (by decide) ?_
    obtain ⟨y512, hy513, hS⟩ := bind_some' hS
    obtain ⟨b514, o515, cs517, hq518, he516⟩ := ((SlT.of_sl (i := 0) hl_0)).elem (P := Try.prog) Try.underlying22 Try.info35 rfl hy513
    obtain ⟨v519, hcshe516, h520⟩ := he516.rd
    obtain rfl : cs517 = [.int .i64 y512.Call, .int .i64 y512.Now, str y512.From, str y512.To, v519, .int .i64 y512.Window.From, .int .i64 y512.Window.Until] := hcshe516
    refine dj_Hg 44 (v := .pointer (some ⟨b514, o515, none⟩)) (by as_aux_lemma => kernel_rfl) (by as_aux_lemma => kernel_rfl) rfl rfl rfl hg459 (fun _ _ _ h => h) (sj_refl hb.bd rfl rfl) (fun w1 ρ1 hw1 => hq518 w1 rfl rfl) (by decide) ?_
    refine dj_Hg 45 (v := .pointer (some ⟨b514, o515 + 1, none⟩)) (by as_aux_lemma => kernel_rfl) (by as_aux_lemma => kernel_rfl) rfl rfl rfl hg459 (fun _ _ _ h => h) (sj_refl hb.bd rfl rfl) (fun w1 ρ1 hw1 => ev_fieldAddr (i := 1) Try.underlying35 rfl Try.info3 rfl rfl) (by decide) ?_
    refine dj_Hg 46 (v := .int .i64 y512.Now) (by as_aux_lemma => kernel_rfl) (by as_aux_lemma => kernel_rfl) rfl rfl rfl hg459 (fun _ _ _ h => h) (sj_refl hb.bd rfl rfl) (fun w1 ρ1 hw1 => ev_load Try.isAgg3 rfl ((he516.mv (hw1.mv (i := 0) rfl) (Nat.succ_pos _)).cell 1 _ rfl)) (by decide) ?_
    refine dj_E 30 (by as_aux_lemma => kernel_rfl) rfl ?_
    have jt521 : Tr ρ458 w452 (fun t => ([100, 101, 200, 201] : List Nat).contains t) ρ458 w452 := (Tr.refl hb.bd).weak (fun _ _ => rfl) rfl rfl
    obtain ⟨y522, hy523, hS⟩ := bind_some' hS
    refine sr_callg (b := false) (e := 56) rfl rfl hg459 (vs := [.pointer (some ⟨gd_11, 0, none⟩), str y467.From, str y476.To, .int .i64 y485.Now]) rfl Try.call16 rfl (delegate_Delegations_Scopes_ok _ (hg.fr hz hb) (ρA := ρ458) hb.bd (hz.fr hg hb) (τ0 := (fun p => 100 + p)) (fun p => Nat.le_add_right_of_le (by decide)) (⟨_, hB447, h446⟩ : delegate_Delegations.O (fun p => 100 + p) ρ458 w452 gd_11 y440.2) hy523) (by decide) ?_
    rintro v527 w524 ⟨_, rfl, h528, hbw525⟩
    have htr526 := Tr.of_below hbw525 hb.bd
    replace hl_0 := hl_0.mv htr526.rd
    replace husers_1 := husers_1.mv htr526.rd
    replace hscopes_2 := hscopes_2.mv htr526.rd
    replace hB447 := hB447.mv (htr526.mv (i := 100) rfl)
    replace h446 := h446.mv (htr526.mv (i := 101) rfl)
    replace hB457 := hB457.mv (htr526.mv (i := 200) rfl)
    replace h456 := h456.mv (htr526.mv (i := 201) rfl) (by decide)
    replace hb := hb.trans htr526
    replace jt521 := (jt521.trans htr526).weak (J' := (fun t => ([100, 101, 200, 201] : List Nat).contains t)) (by intro t h; simp [rng] at h ⊢ <;> omega) rfl rfl
    refine dj_next (l' := [(0, vl_0), (1, vusers_1), (2, vscopes_2), (3, str one_3), (4, .int .i64 now_4), (11, .pointer (some ⟨gd_11, 0, none⟩)), (12, .pointer (some ⟨gf_12, 0, none⟩)), (13, .int .i64 i_13), (56, .bool (y440.1 != y450.1)), (73, v527), (74, .pointer (some ⟨gf_12, 0, none⟩)), (79, str y494.From), (84, str y503.To), (89, .int .i64 y512.Now)]) rfl (.cons rfl (.cons rfl (.cons rfl (.cons rfl (.cons rfl (.cons rfl (.cons rfl (.cons rfl (.cons rfl (.cons rfl (.cons rfl (.cons rfl (.cons rfl (.cons rfl (.nil _))))))))))))))) jt521 (by intro t h; simp [rng] at h ⊢ <;> omega) rfl rfl ?_
    refine dj_E 47 (by as_aux_lemma => kernel_rfl) rfl ?_
    have jt529 : Tr ρ458 w524 (fun t => ([100, 101, 200, 201] : List Nat).contains t) ρ458 w524 := (Tr.refl hb.bd).weak (fun _ _ => rfl) rfl rfl
    obtain ⟨y530, hy531, hS⟩ := bind_some' hS
    refine sr_callg (b := false) (e := 56) rfl rfl hg459 (vs := [.pointer (some ⟨gf_12, 0, none⟩), str y494.From, str y503.To, .int .i64 y512.Now]) rfl Try.call17 rfl (ref35_Delegations_Scopes_ok _ (hg.fr hz hb) (ρA := ρ458) hb.bd (hz.fr hg hb) (τ0 := (fun p => 200 + p)) (fun p => Nat.le_add_right_of_le (by decide)) (⟨_, hB457, h456⟩ : ref35_Delegations.O (fun p => 200 + p) ρ458 w524 gf_12 y450.2) hy531) (by decide) ?_
    rintro v535 w532 ⟨_, rfl, h536, hbw533⟩
    have htr534 := Tr.of_below hbw533 hb.bd
    replace hl_0 := hl_0.mv htr534.rd
    replace husers_1 := husers_1.mv htr534.rd
    replace hscopes_2 := hscopes_2.mv htr534.rd
    replace h528 := h528.mv htr534.rd
    replace hB447 := hB447.mv (htr534.mv (i := 100) rfl)
    replace h446 := h446.mv (htr534.mv (i := 101) rfl)
    replace hB457 := hB457.mv (htr534.mv (i := 200) rfl)
    replace h456 := h456.mv (htr534.mv (i := 201) rfl) (by decide)
    replace hb := hb.trans htr534
    replace jt529 := (jt529.trans htr534).weak (J' := (fun t => ([100, 101, 200, 201] : List Nat).contains t)) (by intro t h; simp [rng] at h ⊢ <;> omega) rfl rfl
    refine dj_next (l' := [(0, vl_0), (1, vusers_1), (2, vscopes_2), (3, str one_3), (4, .int .i64 now_4), (11, .pointer (some ⟨gd_11, 0, none⟩)), (12, .pointer (some ⟨gf_12, 0, none⟩)), (13, .int .i64 i_13), (56, .bool (y440.1 != y450.1)), (73, v527), (90, v535)]) rfl (.cons rfl (.cons rfl (.cons rfl (.cons rfl (.cons rfl (.cons rfl (.cons rfl (.cons rfl (.cons rfl (.cons rfl (.cons rfl (.nil _)))))))))))) jt529 (by intro t h; simp [rng] at h ⊢ <;> omega) rfl rfl ?_
    refine dj_E 48 (by as_aux_lemma => kernel_rfl) rfl ?_
    have jt537 : Tr ρ458 w532 (fun t => ([100, 101, 200, 201] : List Nat).contains t) ρ458 w532 := (Tr.refl hb.bd).weak (fun _ _ => rfl) rfl rfl
    obtain ⟨y538, hy539, hS⟩ := bind_some' hS
    refine sr_callg (b := false) (e := 56) rfl rfl hg459 (vs := [v527, v535]) rfl Try.call15 rfl (ref03_Same_ok _ (hg.fr hz hb) h528.asSl h536.asSl hy539) (by decide) ?_
    rintro _ w540 ⟨rfl, hbw541⟩
    have htr542 := Tr.of_below hbw541 hb.bd
    replace hl_0 := hl_0.mv htr542.rd
    replace husers_1 := husers_1.mv htr542.rd
    replace hscopes_2 := hscopes_2.mv htr542.rd
    replace hB447 := hB447.mv (htr542.mv (i := 100) rfl)
    replace h446 := h446.mv (htr542.mv (i := 101) rfl)
    replace hB457 := hB457.mv (htr542.mv (i := 200) rfl)
    replace h456 := h456.mv (htr542.mv (i := 201) rfl) (by decide)
    replace hb := hb.trans htr542
    replace jt537 := (jt537.trans htr542).weak (J' := (fun t => ([100, 101, 200, 201] : List Nat).contains t)) (by intro t h; simp [rng] at h ⊢ <;> omega) rfl rfl
    refine dj_next (l' := [(0, vl_0), (1, vusers_1), (2, vscopes_2), (3, str one_3), (4, .int .i64 now_4), (11, .pointer (some ⟨gd_11, 0, none⟩)), (12, .pointer (some ⟨gf_12, 0, none⟩)), (13, .int .i64 i_13), (56, .bool (y440.1 != y450.1)), (91, .bool y538)]) rfl (.cons rfl (.cons rfl (.cons rfl (.cons rfl (.cons rfl (.cons rfl (.cons rfl (.cons rfl (.cons rfl (.cons rfl (.nil _))))))))))) jt537 (by intro t h; simp [rng] at h ⊢ <;> omega) rfl rfl ?_
    refine dj_Hg 49 (v := .bool (!y538)) (by as_aux_lemma => kernel_rfl) (by as_aux_lemma => kernel_rfl) rfl rfl rfl hg459 (fun _ _ _ h => h) (sj_refl hb.bd rfl rfl) (fun w1 ρ1 hw1 => ev_not rfl) (by decide) ?_
    refine dj_H 50 (v := .bool (!y538)) (by as_aux_lemma => kernel_rfl) (by as_aux_lemma => kernel_rfl) rfl (fun _ _ _ h => h) (sj_refl hb.bd rfl rfl) (fun w1 ρ1 hw1 => ev_pick_f rfl hg459 rfl) (by decide) ?_
    refine dj_H 51 (v := .bool (!y538)) (by as_aux_lemma => kernel_rfl) (by as_aux_lemma => kernel_rfl) rfl (fun _ _ _ h => h) (sj_refl hb.bd rfl rfl) (fun w1 ρ1 hw1 => ev_move rfl) (by decide) ?_
    rcases Bool.eq_false_or_eq_true (!y538) with hg543 | hg543
    ·replace hS := ite_true' hS hg543
     refine dj_pass 52 (e := 94) (by as_aux_lemma => kernel_rfl) (by as_aux_lemma => kernel_rfl) rfl rfl rfl rfl rfl (by rw [hg543]; rfl) (fun _ _ _ h => h) (sj_refl hb.bd rfl rfl) (by decide) ?_
     refine dj_pass 53 (e := 94) (by as_aux_lemma => kernel_rfl) (by as_aux_lemma => kernel_rfl) rfl rfl rfl rfl rfl (by rw [hg543]; rfl) (fun _ _ _ h => h) (sj_refl hb.bd rfl rfl) (by decide) ?_
     refine dj_pass 54 (e := 94) (by as_aux_lemma => kernel_rfl) (by as_aux_lemma => kernel_rfl) rfl rfl rfl rfl rfl (by rw [hg543]; rfl) (fun _ _ _ h => h) (sj_refl hb.bd rfl rfl) (by decide) ?_
     refine dj_pass 55 (e := 94) (by as_aux_lemma => kernel_rfl) (by as_aux_lemma => kernel_rfl) rfl rfl rfl rfl rfl (by rw [hg543]; rfl) (fun _ _ _ h => h) (sj_refl hb.bd rfl rfl) (by decide) ?_
     refine dj_pass 56 (e := 94) (by as_aux_lemma => kernel_rfl) (by as_aux_lemma => kernel_rfl) rfl rfl rfl rfl rfl (by rw [hg543]; rfl) (fun _ _ _ h => h) (sj_refl hb.bd rfl rfl) (by decide) ?_
     refine dj_pass 57 (e := 94) (by as_aux_lemma => kernel_rfl) (by as_aux_lemma => kernel_rfl) rfl rfl rfl rfl rfl (by rw [hg543]; rfl) (fun _ _ _ h => h) (sj_refl hb.bd rfl rfl) (by decide) ?_
     refine dj_pass 58 (e := 94) (by as_aux_lemma => kernel_rfl) (by as_aux_lemma => kernel_rfl) rfl rfl rfl rfl rfl (by rw [hg543]; rfl) (fun _ _ _ h => h) (sj_refl hb.bd rfl rfl) (by decide) ?_
     refine dj_pass 59 (e := 94) (by as_aux_lemma => kernel_rfl) (by as_aux_lemma => kernel_rfl) rfl rfl rfl rfl rfl (by rw [hg543]; rfl) (fun _ _ _ h => h) (sj_refl hb.bd rfl rfl) (by decide) ?_
     refine dj_pass 60 (e := 94) (by as_aux_lemma => kernel_rfl) (by as_aux_lemma => kernel_rfl) rfl rfl rfl rfl rfl (by rw [hg543]; rfl) (fun _ _ _ h => h) (sj_refl hb.bd rfl rfl) (by decide) ?_
     refine dj_pass 61 (e := 94) (by as_aux_lemma => kernel_rfl) (by as_aux_lemma => kernel_rfl) rfl rfl rfl rfl rfl (by rw [hg543]; rfl) (fun _ _ _ h => h) (sj_refl hb.bd rfl rfl) (by decide) ?_
     refine dj_pass 62 (e := 94) (by as_aux_lemma => kernel_rfl) (by as_aux_lemma => kernel_rfl) rfl rfl rfl rfl rfl (by rw [hg543]; rfl) (fun _ _ _ h => h) (sj_refl hb.bd rfl rfl) (by decide) ?_
     refine dj_H 63 (v := .bool true) (by as_aux_lemma => kernel_rfl) (by as_aux_lemma => kernel_rfl) rfl (fun _ _ _ h => h) (sj_refl hb.bd rfl rfl) (fun w1 ρ1 hw1 => ev_pick_t rfl hg543 rfl) (by decide) ?_
     refine dj_H 64 (v := .bool true) (by as_aux_lemma => kernel_rfl) (by as_aux_lemma => kernel_rfl) rfl (fun _ _ _ h => h) (sj_refl hb.bd rfl rfl) (fun w1 ρ1 hw1 => ev_move rfl) (by decide) ?_
     refine dj_pass 65 (e := 107) (by as_aux_lemma => kernel_rfl) (by as_aux_lemma => kernel_rfl) rfl rfl rfl rfl rfl rfl (fun _ _ _ h => h) (sj_refl hb.bd rfl rfl) (by decide) ?_
     refine dj_pass 66 (e := 107) (by as_aux_lemma => kernel_rfl) (by as_aux_lemma => kernel_rfl) rfl rfl rfl rfl rfl rfl (fun _ _ _ h => h) (sj_refl hb.bd rfl rfl) (by decide) ?_
     refine dj_pass 67 (e := 107) (by as_aux_lemma => kernel_rfl) (by as_aux_lemma => kernel_rfl) rfl rfl rfl rfl rfl rfl (fun _ _ _ h => h) (sj_refl hb.bd rfl rfl) (by decide) ?_
     refine dj_pass 68 (e := 107) (by as_aux_lemma => kernel_rfl) (by as_aux_lemma => kernel_rfl) rfl rfl rfl rfl rfl rfl (fun _ _ _ h => h) (sj_refl hb.bd rfl rfl) (by decide) ?_
     refine dj_pass 69 (e := 107) (by as_aux_lemma => kernel_rfl) (by as_aux_lemma => kernel_rfl) rfl rfl rfl rfl rfl rfl (fun _ _ _ h => h) (sj_refl hb.bd rfl rfl) (by decide) ?_
     refine dj_pass 70 (e := 107) (by as_aux_lemma => kernel_rfl) (by as_aux_lemma => kernel_rfl) rfl rfl rfl rfl rfl rfl (fun _ _ _ h => h) (sj_refl hb.bd rfl rfl) (by decide) ?_
     refine dj_pass 71 (e := 107) (by as_aux_lemma => kernel_rfl) (by as_aux_lemma => kernel_rfl) rfl rfl rfl rfl rfl rfl (fun _ _ _ h => h) (sj_refl hb.bd rfl rfl) (by decide) ?_
     refine dj_pass 72 (e := 107) (by as_aux_lemma => kernel_rfl) (by as_aux_lemma => kernel_rfl) rfl rfl rfl rfl rfl rfl (fun _ _ _ h => h) (sj_refl hb.bd rfl rfl) (by decide) ?_
     refine dj_pass 73 (e := 107) (by as_aux_lemma => kernel_rfl) (by as_aux_lemma => kernel_rfl) rfl rfl rfl rfl rfl rfl (fun _ _ _ h => h) (sj_refl hb.bd rfl rfl) (by decide) ?_
     refine dj_pass 74 (e := 107) (by as_aux_lemma => kernel_rfl) (by as_aux_lemma => kernel_rfl) rfl rfl rfl rfl rfl rfl (fun _ _ _ h => h) (sj_refl hb.bd rfl rfl) (by decide) ?_
     refine dj_pass 75 (e := 107) (by as_aux_lemma => kernel_rfl) (by as_aux_lemma => kernel_rfl) rfl rfl rfl rfl rfl rfl (fun _ _ _ h => h) (sj_refl hb.bd rfl rfl) (by decide) ?_
     refine dj_pass 76 (e := 107) (by as_aux_lemma => kernel_rfl) (by as_aux_lemma => kernel_rfl) rfl rfl rfl rfl rfl rfl (fun _ _ _ h => h) (sj_refl hb.bd rfl rfl) (by decide) ?_
     refine dj_pass 77 (e := 107) (by as_aux_lemma => kernel_rfl) (by as_aux_lemma => kernel_rfl) rfl rfl rfl rfl rfl rfl (fun _ _ _ h => h) (sj_refl hb.bd rfl rfl) (by decide) ?_
     refine dj_pass 78 (e := 107) (by as_aux_lemma => kernel_rfl) (by as_aux_lemma => kernel_rfl) rfl rfl rfl rfl rfl rfl (fun _ _ _ h => h) (sj_refl hb.bd rfl rfl) (by decide) ?_
     refine dj_pass 79 (e := 107) (by as_aux_lemma => kernel_rfl) (by as_aux_lemma => kernel_rfl) rfl rfl rfl rfl rfl rfl (fun _ _ _ h => h) (sj_refl hb.bd rfl rfl) (by decide) ?_
     refine dj_pass 80 (e := 107) (by as_aux_lemma => kernel_rfl) (by as_aux_lemma => kernel_rfl) rfl rfl rfl rfl rfl rfl (fun _ _ _ h => h) (sj_refl hb.bd rfl rfl) (by decide) ?_
     refine dj_pass 81 (e := 107) (by as_aux_lemma => kernel_rfl) (by as_aux_lemma => kernel_rfl) rfl rfl rfl rfl rfl rfl (fun _ _ _ h => h) (sj_refl hb.bd rfl rfl) (by decide) ?_
     refine dj_pass 82 (e := 107) (by as_aux_lemma => kernel_rfl) (by as_aux_lemma => kernel_rfl) rfl rfl rfl rfl rfl rfl (fun _ _ _ h => h) (sj_refl hb.bd rfl rfl) (by decide) ?_
     refine dj_pass 83 (e := 107) (by as_aux_lemma => kernel_rfl) (by as_aux_lemma => kernel_rfl) rfl rfl rfl rfl rfl rfl (fun _ _ _ h => h) (sj_refl hb.bd rfl rfl) (by decide) ?_
     refine dj_pass 84 (e := 107) (by as_aux_lemma => kernel_rfl) (by as_aux_lemma => kernel_rfl) rfl rfl rfl rfl rfl rfl (fun _ _ _ h => h) (sj_refl hb.bd rfl rfl) (by decide) ?_
     refine dj_H 85 (v := .bool true) (by as_aux_lemma => kernel_rfl) (by as_aux_lemma => kernel_rfl) rfl (fun _ _ _ h => h) (sj_refl hb.bd rfl rfl) (fun w1 ρ1 hw1 => ev_pick_t rfl rfl rfl) (by decide) ?_
     refine dj_done rfl (by as_aux_lemma => kernel_rfl) ?_
     refine ke_weaken (l' := [(0, vl_0), (1, vusers_1), (2, vscopes_2), (3, str one_3), (4, .int .i64 now_4), (11, .pointer (some ⟨gd_11, 0, none⟩)), (12, .pointer (some ⟨gf_12, 0, none⟩)), (13, .int .i64 i_13), (128, .bool true)]) (.cons rfl (.cons rfl (.cons rfl (.cons rfl (.cons rfl (.cons rfl (.cons rfl (.cons rfl (.cons rfl (.nil _)))))))))) ?_
     have hK := law35_DelegatePlays_B2_ok hg hbd hz _ hr0 hS hb hl_0 husers_1 hscopes_2 ⟨_, hB447, h446⟩ ⟨_, hB457, h456⟩
     exact ke_weaken (l' := [(0, vl_0), (1, vusers_1), (2, vscopes_2), (3, str one_3), (4, .int .i64 now_4), (11, .pointer (some ⟨gd_11, 0, none⟩)), (12, .pointer (some ⟨gf_12, 0, none⟩)), (13, .int .i64 i_13), (128, .bool true)]) (.cons rfl (.cons rfl (.cons rfl (.cons rfl (.cons rfl (.cons rfl (.cons rfl (.cons rfl (.cons rfl (.nil _)))))))))) hK
    ·replace hS := ite_false' hS hg543
     refine dj_Hg 52 (v := .pointer (some ⟨gd_11, 0, none⟩)) (by as_aux_lemma => kernel_rfl) (by as_aux_lemma => kernel_rfl) rfl rfl rfl hg543 (fun _ _ _ h => h) (sj_refl hb.bd rfl rfl) (fun w1 ρ1 hw1 => ev_move rfl) (by decide) ?_
     refine dj_Hg 53 (v := vusers_1) (by as_aux_lemma => kernel_rfl) (by as_aux_lemma => kernel_rfl) rfl rfl rfl hg543 (fun _ _ _ h => h) (sj_refl hb.bd rfl rfl) (fun w1 ρ1 hw1 => ev_move rfl) (by decide) ?_
     refine dj_Hg 54 (v := vscopes_2) (by as_aux_lemma => kernel_rfl) (by as_aux_lemma => kernel_rfl) rfl rfl rfl hg543 (fun _ _ _ h => h) (sj_refl hb.bd rfl rfl) (fun w1 ρ1 hw1 => ev_move rfl) (by decide) ?_
     refine dj_Hg 55 (v := .int .i64 now_4) (by as_aux_lemma => kernel_rfl) (by as_aux_lemma => kernel_rfl) rfl rfl rfl hg543 (fun _ _ _ h => h) (sj_refl hb.bd rfl rfl) (fun w1 ρ1 hw1 => ev_move rfl) (by decide) ?_
     refine dj_Hg 57 (v := .pointer (some ⟨gf_12, 0, none⟩)) (by as_aux_lemma => kernel_rfl) (by as_aux_lemma => kernel_rfl) rfl rfl rfl hg543 (fun _ _ _ h => h) (sj_refl hb.bd rfl rfl) (fun w1 ρ1 hw1 => ev_move rfl) (by decide) ?_
     refine dj_Hg 58 (v := vusers_1) (by as_aux_lemma => kernel_rfl) (by as_aux_lemma => kernel_rfl) rfl rfl rfl hg543 (fun _ _ _ h => h) (sj_refl hb.bd rfl rfl) (fun w1 ρ1 hw1 => ev_move rfl) (by decide) ?_
     refine dj_Hg 59 (v := vscopes_2) (by as_aux_lemma => kernel_rfl) (by as_aux_lemma => kernel_rfl) rfl rfl rfl hg543 (fun _ _ _ h => h) (sj_refl hb.bd rfl rfl) (fun w1 ρ1 hw1 => ev_move rfl) (by decide) ?_
     refine dj_Hg 60 (v := .int .i64 now_4) (by as_aux_lemma => kernel_rfl) (by as_aux_lemma => kernel_rfl) rfl rfl rfl hg543 (fun _ _ _ h => h) (sj_refl hb.bd rfl rfl) (fun w1 ρ1 hw1 => ev_move rfl) (by decide) ?_
     refine dj_E 56 (by as_aux_lemma => kernel_rfl) rfl ?_
     have jt544 : Tr ρ458 w540 (fun t => ([100, 101, 200, 201] : List Nat).contains t) ρ458 w540 := (Tr.refl hb.bd).weak (fun _ _ => rfl) rfl rfl
     obtain ⟨y545, hy546, hS⟩ := bind_some' hS
     refine sr_callg (b := false) (e := 94) rfl rfl hg543 (vs := [.pointer (some ⟨gd_11, 0, none⟩), vusers_1, vscopes_2, .int .i64 now_4]) rfl Try.call18 rfl (delegate_Delegations_Chain_ok _ (hg.fr hz hb) (ρA := ρ458) hb.bd (hz.fr hg hb) (τ0 := (fun p => 100 + p)) (fun p => Nat.le_add_right_of_le (by decide)) husers_1 hscopes_2 (⟨_, hB447, h446⟩ : delegate_Delegations.O (fun p => 100 + p) ρ458 w540 gd_11 y440.2) hy546) (by decide) ?_
     rintro _ w547 ⟨rfl, hbw548⟩
     have htr549 := Tr.of_below hbw548 hb.bd
     replace hl_0 := hl_0.mv htr549.rd
     replace husers_1 := husers_1.mv htr549.rd
     replace hscopes_2 := hscopes_2.mv htr549.rd
     replace hB447 := hB447.mv (htr549.mv (i := 100) rfl)
     replace h446 := h446.mv (htr549.mv (i := 101) rfl)
     replace hB457 := hB457.mv (htr549.mv (i := 200) rfl)
     replace h456 := h456.mv (htr549.mv (i := 201) rfl) (by decide)
     replace hb := hb.trans htr549
     replace jt544 := (jt544.trans htr549).weak (J' := (fun t => ([100, 101, 200, 201] : List Nat).contains t)) (by intro t h; simp [rng] at h ⊢ <;> omega) rfl rfl
     refine dj_next (l' := [(0, vl_0), (1, vusers_1), (2, vscopes_2), (3, str one_3), (4, .int .i64 now_4), (11, .pointer (some ⟨gd_11, 0, none⟩)), (12, .pointer (some ⟨gf_12, 0, none⟩)), (13, .int .i64 i_13), (94, .bool (!y538)), (99, .int .i64 y545), (100, .pointer (some ⟨gf_12, 0, none⟩)), (101, vusers_1), (102, vscopes_2), (103, .int .i64 now_4)]) rfl (.cons rfl (.cons rfl (.cons rfl (.cons rfl (.cons rfl (.cons rfl (.cons rfl (.cons rfl (.cons rfl (.cons rfl (.cons rfl (.cons rfl (.cons rfl (.cons rfl (.nil _))))))))))))))) jt544 (by intro t h; simp [rng] at h ⊢ <;> omega) rfl rfl ?_
     refine dj_E 61 (by as_aux_lemma => kernel_rfl) rfl ?_
     have jt550 : Tr ρ458 w547 (fun t => ([100, 101, 200, 201] : List Nat).contains t) ρ458 w547 := (Tr.refl hb.bd).weak (fun _ _ => rfl) rfl rfl
     obtain ⟨y551, hy552, hS⟩ := bind_some' hS
     refine sr_callg (b := false) (e := 94) rfl rfl hg543 (vs := [.pointer (some ⟨gf_12, 0, none⟩), vusers_1, vscopes_2, .int .i64 now_4]) rfl Try.call19 rfl (ref35_Delegations_Chain_ok _ (hg.fr hz hb) (ρA := ρ458) hb.bd (hz.fr hg hb) (τ0 := (fun p => 200 + p)) (fun p => Nat.le_add_right_of_le (by decide)) husers_1 hscopes_2 (⟨_, hB457, h456⟩ : ref35_Delegations.O (fun p => 200 + p) ρ458 w547 gf_12 y450.2) hy552) (by decide) ?_
     rintro _ w553 ⟨rfl, hbw554⟩
     have htr555 := Tr.of_below hbw554 hb.bd
     replace hl_0 := hl_0.mv htr555.rd
     replace husers_1 := husers_1.mv htr555.rd
     replace hscopes_2 := hscopes_2.mv htr555.rd
     replace hB447 := hB447.mv (htr555.mv (i := 100) rfl)
     replace h446 := h446.mv (htr555.mv (i := 101) rfl)
     replace hB457 := hB457.mv (htr555.mv (i := 200) rfl)
     replace h456 := h456.mv (htr555.mv (i := 201) rfl) (by decide)
     replace hb := hb.trans htr555
     replace jt550 := (jt550.trans htr555).weak (J' := (fun t => ([100, 101, 200, 201] : List Nat).contains t)) (by intro t h; simp [rng] at h ⊢ <;> omega) rfl rfl
     refine dj_next (l' := [(0, vl_0), (1, vusers_1), (2, vscopes_2), (3, str one_3), (4, .int .i64 now_4), (11, .pointer (some ⟨gd_11, 0, none⟩)), (12, .pointer (some ⟨gf_12, 0, none⟩)), (13, .int .i64 i_13), (94, .bool (!y538)), (99, .int .i64 y545), (104, .int .i64 y551)]) rfl (.cons rfl (.cons rfl (.cons rfl (.cons rfl (.cons rfl (.cons rfl (.cons rfl (.cons rfl (.cons rfl (.cons rfl (.cons rfl (.nil _)))))))))))) jt550 (by intro t h; simp [rng] at h ⊢ <;> omega) rfl rfl ?_
     refine dj_Hg 62 (v := .bool (y545 != y551)) (by as_aux_lemma => kernel_rfl) (by as_aux_lemma => kernel_rfl) rfl rfl rfl hg543 (fun _ _ _ h => h) (sj_refl hb.bd rfl rfl) (fun w1 ρ1 hw1 => ev_ne rfl rfl) (by decide) ?_
     refine dj_H 63 (v := .bool (y545 != y551)) (by as_aux_lemma => kernel_rfl) (by as_aux_lemma => kernel_rfl) rfl (fun _ _ _ h => h) (sj_refl hb.bd rfl rfl) (fun w1 ρ1 hw1 => ev_pick_f rfl hg543 rfl) (by decide) ?_
     refine dj_H 64 (v := .bool (y545 != y551)) (by as_aux_lemma => kernel_rfl) (by as_aux_lemma => kernel_rfl) rfl (fun _ _ _ h => h) (sj_refl hb.bd rfl rfl) (fun w1 ρ1 hw1 => ev_move rfl) (by decide) ?_
     rcases Bool.eq_false_or_eq_true (y545 != y551) with hg556 | hg556
     ·replace hS := ite_true' hS hg556
      refine dj_pass 65 (e := 107) (by as_aux_lemma => kernel_rfl) (by as_aux_lemma => kernel_rfl) rfl rfl rfl rfl rfl (by rw [hg556]; rfl) (fun _ _ _ h => h) (sj_refl hb.bd rfl rfl) (by decide) ?_
      refine dj_pass 66 (e := 107) (by as_aux_lemma => kernel_rfl) (by as_aux_lemma => kernel_rfl) rfl rfl rfl rfl rfl (by rw [hg556]; rfl) (fun _ _ _ h => h) (sj_refl hb.bd rfl rfl) (by decide) ?_
      refine dj_pass 67 (e := 107) (by as_aux_lemma => kernel_rfl) (by as_aux_lemma => kernel_rfl) rfl rfl rfl rfl rfl (by rw [hg556]; rfl) (fun _ _ _ h => h) (sj_refl hb.bd rfl rfl) (by decide) ?_
      refine dj_pass 68 (e := 107) (by as_aux_lemma => kernel_rfl) (by as_aux_lemma => kernel_rfl) rfl rfl rfl rfl rfl (by rw [hg556]; rfl) (fun _ _ _ h => h) (sj_refl hb.bd rfl rfl) (by decide) ?_
      refine dj_pass 69 (e := 107) (by as_aux_lemma => kernel_rfl) (by as_aux_lemma => kernel_rfl) rfl rfl rfl rfl rfl (by rw [hg556]; rfl) (fun _ _ _ h => h) (sj_refl hb.bd rfl rfl) (by decide) ?_
      refine dj_pass 70 (e := 107) (by as_aux_lemma => kernel_rfl) (by as_aux_lemma => kernel_rfl) rfl rfl rfl rfl rfl (by rw [hg556]; rfl) (fun _ _ _ h => h) (sj_refl hb.bd rfl rfl) (by decide) ?_
      refine dj_pass 71 (e := 107) (by as_aux_lemma => kernel_rfl) (by as_aux_lemma => kernel_rfl) rfl rfl rfl rfl rfl (by rw [hg556]; rfl) (fun _ _ _ h => h) (sj_refl hb.bd rfl rfl) (by decide) ?_
      refine dj_pass 72 (e := 107) (by as_aux_lemma => kernel_rfl) (by as_aux_lemma => kernel_rfl) rfl rfl rfl rfl rfl (by rw [hg556]; rfl) (fun _ _ _ h => h) (sj_refl hb.bd rfl rfl) (by decide) ?_
      refine dj_pass 73 (e := 107) (by as_aux_lemma => kernel_rfl) (by as_aux_lemma => kernel_rfl) rfl rfl rfl rfl rfl (by rw [hg556]; rfl) (fun _ _ _ h => h) (sj_refl hb.bd rfl rfl) (by decide) ?_
      refine dj_pass 74 (e := 107) (by as_aux_lemma => kernel_rfl) (by as_aux_lemma => kernel_rfl) rfl rfl rfl rfl rfl (by rw [hg556]; rfl) (fun _ _ _ h => h) (sj_refl hb.bd rfl rfl) (by decide) ?_
      refine dj_pass 75 (e := 107) (by as_aux_lemma => kernel_rfl) (by as_aux_lemma => kernel_rfl) rfl rfl rfl rfl rfl (by rw [hg556]; rfl) (fun _ _ _ h => h) (sj_refl hb.bd rfl rfl) (by decide) ?_
      refine dj_pass 76 (e := 107) (by as_aux_lemma => kernel_rfl) (by as_aux_lemma => kernel_rfl) rfl rfl rfl rfl rfl (by rw [hg556]; rfl) (fun _ _ _ h => h) (sj_refl hb.bd rfl rfl) (by decide) ?_
      refine dj_pass 77 (e := 107) (by as_aux_lemma => kernel_rfl) (by as_aux_lemma => kernel_rfl) rfl rfl rfl rfl rfl (by rw [hg556]; rfl) (fun _ _ _ h => h) (sj_refl hb.bd rfl rfl) (by decide) ?_
      refine dj_pass 78 (e := 107) (by as_aux_lemma => kernel_rfl) (by as_aux_lemma => kernel_rfl) rfl rfl rfl rfl rfl (by rw [hg556]; rfl) (fun _ _ _ h => h) (sj_refl hb.bd rfl rfl) (by decide) ?_
      refine dj_pass 79 (e := 107) (by as_aux_lemma => kernel_rfl) (by as_aux_lemma => kernel_rfl) rfl rfl rfl rfl rfl (by rw [hg556]; rfl) (fun _ _ _ h => h) (sj_refl hb.bd rfl rfl) (by decide) ?_
      refine dj_pass 80 (e := 107) (by as_aux_lemma => kernel_rfl) (by as_aux_lemma => kernel_rfl) rfl rfl rfl rfl rfl (by rw [hg556]; rfl) (fun _ _ _ h => h) (sj_refl hb.bd rfl rfl) (by decide) ?_
      refine dj_pass 81 (e := 107) (by as_aux_lemma => kernel_rfl) (by as_aux_lemma => kernel_rfl) rfl rfl rfl rfl rfl (by rw [hg556]; rfl) (fun _ _ _ h => h) (sj_refl hb.bd rfl rfl) (by decide) ?_
      refine dj_pass 82 (e := 107) (by as_aux_lemma => kernel_rfl) (by as_aux_lemma => kernel_rfl) rfl rfl rfl rfl rfl (by rw [hg556]; rfl) (fun _ _ _ h => h) (sj_refl hb.bd rfl rfl) (by decide) ?_
      refine dj_pass 83 (e := 107) (by as_aux_lemma => kernel_rfl) (by as_aux_lemma => kernel_rfl) rfl rfl rfl rfl rfl (by rw [hg556]; rfl) (fun _ _ _ h => h) (sj_refl hb.bd rfl rfl) (by decide) ?_
      refine dj_pass 84 (e := 107) (by as_aux_lemma => kernel_rfl) (by as_aux_lemma => kernel_rfl) rfl rfl rfl rfl rfl (by rw [hg556]; rfl) (fun _ _ _ h => h) (sj_refl hb.bd rfl rfl) (by decide) ?_
      refine dj_H 85 (v := .bool true) (by as_aux_lemma => kernel_rfl) (by as_aux_lemma => kernel_rfl) rfl (fun _ _ _ h => h) (sj_refl hb.bd rfl rfl) (fun w1 ρ1 hw1 => ev_pick_t rfl hg556 rfl) (by decide) ?_
      refine dj_done rfl (by as_aux_lemma => kernel_rfl) ?_
      refine ke_weaken (l' := [(0, vl_0), (1, vusers_1), (2, vscopes_2), (3, str one_3), (4, .int .i64 now_4), (11, .pointer (some ⟨gd_11, 0, none⟩)), (12, .pointer (some ⟨gf_12, 0, none⟩)), (13, .int .i64 i_13), (128, .bool true)]) (.cons rfl (.cons rfl (.cons rfl (.cons rfl (.cons rfl (.cons rfl (.cons rfl (.cons rfl (.cons rfl (.nil _)))))))))) ?_
      have hK := law35_DelegatePlays_B2_ok hg hbd hz _ hr0 hS hb hl_0 husers_1 hscopes_2 ⟨_, hB447, h446⟩ ⟨_, hB457, h456⟩
      exact ke_weaken (l' := [(0, vl_0), (1, vusers_1), (2, vscopes_2), (3, str one_3), (4, .int .i64 now_4), (11, .pointer (some ⟨gd_11, 0, none⟩)), (12, .pointer (some ⟨gf_12, 0, none⟩)), (13, .int .i64 i_13), (128, .bool true)]) (.cons rfl (.cons rfl (.cons rfl (.cons rfl (.cons rfl (.cons rfl (.cons rfl (.cons rfl (.cons rfl (.nil _)))))))))) hK
     ·replace hS := ite_false' hS hg556
      refine dj_Hg 65 (v := .pointer (some ⟨gd_11, 0, none⟩)) (by as_aux_lemma => kernel_rfl) (by as_aux_lemma => kernel_rfl) rfl rfl rfl hg556 (fun _ _ _ h => h) (sj_refl hb.bd rfl rfl) (fun w1 ρ1 hw1 => ev_move rfl) (by decide) ?_
      refine dj_Hg 66 (v := vl_0) (by as_aux_lemma => kernel_rfl) (by as_aux_lemma => kernel_rfl) rfl rfl rfl hg556 (fun _ _ _ h => h) (sj_refl hb.bd rfl rfl) (fun w1 ρ1 hw1 => ev_move rfl) (by decide) ?_
      refine dj_Hg 67 (v := .int .i64 i_13) (by as_aux_lemma => kernel_rfl) (by as_aux_lemma => kernel_rfl) rfl rfl rfl hg556 (fun _ _ _ h => h) (sj_refl hb.bd rfl rfl) (fun w1 ρ1 hw1 => ev_move rfl) (by decide) ?_
      obtain ⟨y557, hy558, hS⟩ := bind_some' hS
      obtain ⟨b559, o560, cs562, hq563, he561⟩ := ((SlT.of_sl (i := 0) hl_0)).elem (P := Try.prog) Try.underlying22 Try.info35 rfl hy558
      obtain ⟨v564, hcshe561, h565⟩ := he561.rd
      obtain rfl : cs562 = [.int .i64 y557.Call, .int .i64 y557.Now, str y557.From, str y557.To, v564, .int .i64 y557.Window.From, .int .i64 y557.Window.Until] := hcshe561
      refine dj_Hg 68 (v := .pointer (some ⟨b559, o560, none⟩)) (by as_aux_lemma => kernel_rfl) (by as_aux_lemma => kernel_rfl) rfl rfl rfl hg556 (fun _ _ _ h => h) (sj_refl hb.bd rfl rfl) (fun w1 ρ1 hw1 => hq563 w1 rfl rfl) (by decide) ?_
      refine dj_Hg 69 (v := .pointer (some ⟨b559, o560 + 3, none⟩)) (by as_aux_lemma => kernel_rfl) (by as_aux_lemma => kernel_rfl) rfl rfl rfl hg556 (fun _ _ _ h => h) (sj_refl hb.bd rfl rfl) (fun w1 ρ1 hw1 => ev_fieldAddr (i := 3) Try.underlying35 rfl Try.info9 rfl rfl) (by decide) ?_
      refine dj_Hg 70 (v := str y557.To) (by as_aux_lemma => kernel_rfl) (by as_aux_lemma => kernel_rfl) rfl rfl rfl hg556 (fun _ _ _ h => h) (sj_refl hb.bd rfl rfl) (fun w1 ρ1 hw1 => ev_load Try.isAgg9 rfl ((he561.mv (hw1.mv (i := 0) rfl) (Nat.succ_pos _)).cell 3 _ rfl)) (by decide) ?_
      refine dj_Hg 71 (v := str one_3) (by as_aux_lemma => kernel_rfl) (by as_aux_lemma => kernel_rfl) rfl rfl rfl hg556 (fun _ _ _ h => h) (sj_refl hb.bd rfl rfl) (fun w1 ρ1 hw1 => ev_move rfl) (by decide) ?_
      refine dj_Hg 72 (v := .int .i64 now_4) (by as_aux_lemma => kernel_rfl) (by as_aux_lemma => kernel_rfl) rfl rfl rfl hg556 (fun _ _ _ h => h) (sj_refl hb.bd rfl rfl) (fun w1 ρ1 hw1 => ev_move rfl) (by decide) ?_
      refine dj_Hg 74 (v := .pointer (some ⟨gf_12, 0, none⟩)) (by as_aux_lemma => kernel_rfl) (by as_aux_lemma => kernel_rfl) rfl rfl rfl hg556 (fun _ _ _ h => h) (sj_refl hb.bd rfl rfl) (fun w1 ρ1 hw1 => ev_move rfl) (by decide) ?_
      refine dj_Hg 75 (v := vl_0) (by as_aux_lemma => kernel_rfl) (by as_aux_lemma => kernel_rfl) rfl rfl rfl hg556 (fun _ _ _ h => h) (sj_refl hb.bd rfl rfl) (fun w1 ρ1 hw1 => ev_move rfl) (by decide) ?_
      refine dj_Hg 76 (v := .int .i64 i_13) (by as_aux_lemma => kernel_rfl) (by as_aux_lemma => kernel_rfl) rfl rfl rfl hg556 (fun _ _ _ h => h) (sj_refl hb.bd rfl rfl) (fun w1 ρ1 hw1 => ev_move rfl) (by decide) ?_
      obtain ⟨y566, hy567, hS⟩ := bind_some' hS
      obtain ⟨b568, o569, cs571, hq572, he570⟩ := ((SlT.of_sl (i := 0) hl_0)).elem (P := Try.prog) Try.underlying22 Try.info35 rfl hy567
      obtain ⟨v573, hcshe570, h574⟩ := he570.rd
      obtain rfl : cs571 = [.int .i64 y566.Call, .int .i64 y566.Now, str y566.From, str y566.To, v573, .int .i64 y566.Window.From, .int .i64 y566.Window.Until] := hcshe570
      refine dj_Hg 77 (v := .pointer (some ⟨b568, o569, none⟩)) (by as_aux_lemma => kernel_rfl) (by as_aux_lemma => kernel_rfl) rfl rfl rfl hg556 (fun _ _ _ h => h) (sj_refl hb.bd rfl rfl) (fun w1 ρ1 hw1 => hq572 w1 rfl rfl) (by decide) ?_
      refine dj_Hg 78 (v := .pointer (some ⟨b568, o569 + 3, none⟩)) (by as_aux_lemma => kernel_rfl) (by as_aux_lemma => kernel_rfl) rfl rfl rfl hg556 (fun _ _ _ h => h) (sj_refl hb.bd rfl rfl) (fun w1 ρ1 hw1 => ev_fieldAddr (i := 3) Try.underlying35 rfl Try.info9 rfl rfl) (by decide) ?_
      refine dj_Hg 79 (v := str y566.To) (by as_aux_lemma => kernel_rfl) (by as_aux_lemma => kernel_rfl) rfl rfl rfl hg556 (fun _ _ _ h => h) (sj_refl hb.bd rfl rfl) (fun w1 ρ1 hw1 => ev_load Try.isAgg9 rfl ((he570.mv (hw1.mv (i := 0) rfl) (Nat.succ_pos _)).cell 3 _ rfl)) (by decide) ?_
      refine dj_Hg 80 (v := str one_3) (by as_aux_lemma => kernel_rfl) (by as_aux_lemma => kernel_rfl) rfl rfl rfl hg556 (fun _ _ _ h => h) (sj_refl hb.bd rfl rfl) (fun w1 ρ1 hw1 => ev_move rfl) (by decide) ?_
      refine dj_Hg 81 (v := .int .i64 now_4) (by as_aux_lemma => kernel_rfl) (by as_aux_lemma => kernel_rfl) rfl rfl rfl hg556 (fun _ _ _ h => h) (sj_refl hb.bd rfl rfl) (fun w1 ρ1 hw1 => ev_move rfl) (by decide) ?_
      refine dj_E 73 (by as_aux_lemma => kernel_rfl) rfl ?_
      have jt575 : Tr ρ458 w553 (fun t => ([100, 101, 200, 201] : List Nat).contains t) ρ458 w553 := (Tr.refl hb.bd).weak (fun _ _ => rfl) rfl rfl
      obtain ⟨y576, hy577, hS⟩ := bind_some' hS
      refine sr_callg (b := false) (e := 107) rfl rfl hg556 (vs := [.pointer (some ⟨gd_11, 0, none⟩), str y557.To, str one_3, .int .i64 now_4]) rfl Try.call20 rfl (delegate_Delegations_Reach_ok _ (hg.fr hz hb) (ρA := ρ458) hb.bd (hz.fr hg hb) (τ0 := (fun p => 100 + p)) (fun p => Nat.le_add_right_of_le (by decide)) (⟨_, hB447, h446⟩ : delegate_Delegations.O (fun p => 100 + p) ρ458 w553 gd_11 y440.2) hy577) (by decide) ?_
      rintro v581 w578 ⟨_, rfl, h582, hbw579⟩
      have htr580 := Tr.of_below hbw579 hb.bd
      replace hl_0 := hl_0.mv htr580.rd
      replace husers_1 := husers_1.mv htr580.rd
      replace hscopes_2 := hscopes_2.mv htr580.rd
      replace hB447 := hB447.mv (htr580.mv (i := 100) rfl)
      replace h446 := h446.mv (htr580.mv (i := 101) rfl)
      replace hB457 := hB457.mv (htr580.mv (i := 200) rfl)
      replace h456 := h456.mv (htr580.mv (i := 201) rfl) (by decide)
      replace hb := hb.trans htr580
      replace jt575 := (jt575.trans htr580).weak (J' := (fun t => ([100, 101, 200, 201] : List Nat).contains t)) (by intro t h; simp [rng] at h ⊢ <;> omega) rfl rfl
      refine dj_next (l' := [(0, vl_0), (1, vusers_1), (2, vscopes_2), (3, str one_3), (4, .int .i64 now_4), (11, .pointer (some ⟨gd_11, 0, none⟩)), (12, .pointer (some ⟨gf_12, 0, none⟩)), (13, .int .i64 i_13), (107, .bool (y545 != y551)), (116, v581), (117, .pointer (some ⟨gf_12, 0, none⟩)), (122, str y566.To), (123, str one_3), (124, .int .i64 now_4)]) rfl (.cons rfl (.cons rfl (.cons rfl (.cons rfl (.cons rfl (.cons rfl (.cons rfl (.cons rfl (.cons rfl (.cons rfl (.cons rfl (.cons rfl (.cons rfl (.cons rfl (.nil _))))))))))))))) jt575 (by intro t h; simp [rng] at h ⊢ <;> omega) rfl rfl ?_
      refine dj_E 82 (by as_aux_lemma => kernel_rfl) rfl ?_
      have jt583 : Tr ρ458 w578 (fun t => ([100, 101, 200, 201] : List Nat).contains t) ρ458 w578 := (Tr.refl hb.bd).weak (fun _ _ => rfl) rfl rfl
      obtain ⟨y584, hy585, hS⟩ := bind_some' hS
      refine sr_callg (b := false) (e := 107) rfl rfl hg556 (vs := [.pointer (some ⟨gf_12, 0, none⟩), str y566.To, str one_3, .int .i64 now_4]) rfl Try.call21 rfl (ref35_Delegations_Reach_ok _ (hg.fr hz hb) (ρA := ρ458) hb.bd (hz.fr hg hb) (τ0 := (fun p => 200 + p)) (fun p => Nat.le_add_right_of_le (by decide)) (⟨_, hB457, h456⟩ : ref35_Delegations.O (fun p => 200 + p) ρ458 w578 gf_12 y450.2) hy585) (by decide) ?_
      rintro v589 w586 ⟨_, rfl, h590, hbw587⟩
      have htr588 := Tr.of_below hbw587 hb.bd
      replace hl_0 := hl_0.mv htr588.rd
      replace husers_1 := husers_1.mv htr588.rd
      replace hscopes_2 := hscopes_2.mv htr588.rd
      replace h582 := h582.mv htr588.rd
      replace hB447 := hB447.mv (htr588.mv (i := 100) rfl)
      replace h446 := h446.mv (htr588.mv (i := 101) rfl)
      replace hB457 := hB457.mv (htr588.mv (i := 200) rfl)
      replace h456 := h456.mv (htr588.mv (i := 201) rfl) (by decide)
      replace hb := hb.trans htr588
      replace jt583 := (jt583.trans htr588).weak (J' := (fun t => ([100, 101, 200, 201] : List Nat).contains t)) (by intro t h; simp [rng] at h ⊢ <;> omega) rfl rfl
      refine dj_next (l' := [(0, vl_0), (1, vusers_1), (2, vscopes_2), (3, str one_3), (4, .int .i64 now_4), (11, .pointer (some ⟨gd_11, 0, none⟩)), (12, .pointer (some ⟨gf_12, 0, none⟩)), (13, .int .i64 i_13), (107, .bool (y545 != y551)), (116, v581), (125, v589)]) rfl (.cons rfl (.cons rfl (.cons rfl (.cons rfl (.cons rfl (.cons rfl (.cons rfl (.cons rfl (.cons rfl (.cons rfl (.cons rfl (.nil _)))))))))))) jt583 (by intro t h; simp [rng] at h ⊢ <;> omega) rfl rfl ?_
      refine dj_E 83 (by as_aux_lemma => kernel_rfl) rfl ?_
      have jt591 : Tr ρ458 w586 (fun t => ([100, 101, 200, 201] : List Nat).contains t) ρ458 w586 := (Tr.refl hb.bd).weak (fun _ _ => rfl) rfl rfl
      obtain ⟨y592, hy593, hS⟩ := bind_some' hS
      refine sr_callg (b := false) (e := 107) rfl rfl hg556 (vs := [v581, v589]) rfl Try.call15 rfl (ref03_Same_ok _ (hg.fr hz hb) h582.asSl h590.asSl hy593) (by decide) ?_
      rintro _ w594 ⟨rfl, hbw595⟩
      have htr596 := Tr.of_below hbw595 hb.bd
      replace hl_0 := hl_0.mv htr596.rd
      replace husers_1 := husers_1.mv htr596.rd
      replace hscopes_2 := hscopes_2.mv htr596.rd
      replace hB447 := hB447.mv (htr596.mv (i := 100) rfl)
      replace h446 := h446.mv (htr596.mv (i := 101) rfl)
      replace hB457 := hB457.mv (htr596.mv (i := 200) rfl)
      replace h456 := h456.mv (htr596.mv (i := 201) rfl) (by decide)
      replace hb := hb.trans htr596
      replace jt591 := (jt591.trans htr596).weak (J' := (fun t => ([100, 101, 200, 201] : List Nat).contains t)) (by intro t h; simp [rng] at h ⊢ <;> omega) rfl rfl
      refine dj_next (l' := [(0, vl_0), (1, vusers_1), (2, vscopes_2), (3, str one_3), (4, .int .i64 now_4), (11, .pointer (some ⟨gd_11, 0, none⟩)), (12, .pointer (some ⟨gf_12, 0, none⟩)), (13, .int .i64 i_13), (107, .bool (y545 != y551)), (126, .bool y592)]) rfl (.cons rfl (.cons rfl (.cons rfl (.cons rfl (.cons rfl (.cons rfl (.cons rfl (.cons rfl (.cons rfl (.cons rfl (.nil _))))))))))) jt591 (by intro t h; simp [rng] at h ⊢ <;> omega) rfl rfl ?_
      refine dj_Hg 84 (v := .bool (!y592)) (by as_aux_lemma => kernel_rfl) (by as_aux_lemma => kernel_rfl) rfl rfl rfl hg556 (fun _ _ _ h => h) (sj_refl hb.bd rfl rfl) (fun w1 ρ1 hw1 => ev_not rfl) (by decide) ?_
      refine dj_H 85 (v := .bool (!y592)) (by as_aux_lemma => kernel_rfl) (by as_aux_lemma => kernel_rfl) rfl (fun _ _ _ h => h) (sj_refl hb.bd rfl rfl) (fun w1 ρ1 hw1 => ev_pick_f rfl hg556 rfl) (by decide) ?_
      refine dj_done rfl (by as_aux_lemma => kernel_rfl) ?_
      refine ke_weaken (l' := [(0, vl_0), (1, vusers_1), (2, vscopes_2), (3, str one_3), (4, .int .i64 now_4), (11, .pointer (some ⟨gd_11, 0, none⟩)), (12, .pointer (some ⟨gf_12, 0, none⟩)), (13, .int .i64 i_13), (128, .bool (!y592))]) (.cons rfl (.cons rfl (.cons rfl (.cons rfl (.cons rfl (.cons rfl (.cons rfl (.cons rfl (.cons rfl (.nil _)))))))))) ?_
      have hK := law35_DelegatePlays_B2_ok hg hbd hz _ hr0 hS hb hl_0 husers_1 hscopes_2 ⟨_, hB447, h446⟩ ⟨_, hB457, h456⟩
      exact ke_weaken (l' := [(0, vl_0), (1, vusers_1), (2, vscopes_2), (3, str one_3), (4, .int .i64 now_4), (11, .pointer (some ⟨gd_11, 0, none⟩)), (12, .pointer (some ⟨gf_12, 0, none⟩)), (13, .int .i64 i_13), (128, .bool (!y592))]) (.cons rfl (.cons rfl (.cons rfl (.cons rfl (.cons rfl (.cons rfl (.cons rfl (.cons rfl (.cons rfl (.nil _)))))))))) hK
  ·replace hS := ite_false' hS hc78
   refine ke_exit (k' := _) rfl ?_
   refine ke_seq ?_
   refine ke_region ?_
   obtain ⟨y597, hy598, hS⟩ := bind_some' hS
   refine sr_call (vs := []) rfl Try.call10 rfl (law35_awake_ok _ (hg.fr hz hb) (ρA := ρ) hb.bd (hz.fr hg hb) hy598) (by decide) ?_
   rintro _ w599 ⟨rfl, hbw600⟩
   have htr601 := Tr.of_below hbw600 hb.bd
   replace hb := hb.trans htr601
   refine sr_ev (v := .bool y597) (ev_assign rfl) (by decide) ?_
   refine sr_end (l' := [(10, .bool y597)]) (.cons rfl (.nil _)) ?_
   cases hS
   exact ke_ret1 Try.func3 rfl rfl ⟨_, rfl, rfl, (hb.below (flat1_le _))⟩
theorem law35_DelegatePlays_ok (w0 : World) (hg : Gs w0) {ρA : Tags} (hbd : ∀ b, ρA b ≠ 0 → b < w0.heap.size) (hz : Gz ρA) {l_0 : List law35_Op} {users_1 : List Str} {scopes_2 : List Str} {one_3 : Str} {now_4 : Int} {v1 : Value} {v3 : Value} {v5 : Value} {r : Bool} (h2 : SlR law35_Op.c (Wb ρA) w0 v1 l_0) (h4 : SlR strC (Wb ρA) w0 v3 users_1) (h6 : SlR strC (Wb ρA) w0 v5 scopes_2) (hS : law35_DelegatePlays l_0 users_1 scopes_2 one_3 now_4 = some r) :
  Calls Try.prog 3 #[v1, v3, v5, str one_3, .int .i64 now_4] w0 (Ret (fun v w' => v = .bool r ∧ Below w0.heap.size w0 w')) := by
 unfold law35_DelegatePlays at hS
 have hb := flat1_fr (ρ := ρA) (w := w0) hbd
 have hz := hz.flat1
 replace h2 := SlR.mv h2 flat1_rd
 replace h4 := SlR.mv h4 flat1_rd
 replace h6 := SlR.mv h6 flat1_rd
 refine calls_of_ke Try.func3 rfl (n := 130) rfl rfl (l := [(0, v1), (1, v3), (2, v5), (3, str one_3), (4, .int .i64 now_4)]) rfl ?_
 refine ke_seq ?_
 refine ke_region ?_
 refine sr_ev (v := .bool false) (ev_assign rfl) (by decide) ?_
 refine sr_end (l' := [(0, v1), (1, v3), (2, v5), (3, str one_3), (4, .int .i64 now_4)]) (.cons rfl (.cons rfl (.cons rfl (.cons rfl (.cons rfl (.nil _)))))) ?_
 refine ke_seq ?_
 refine ke_seq ?_
 refine ke_region ?_
 refine sr_ev (v := v1) (ev_move rfl) (by decide) ?_
 obtain ⟨y7, hy8, hS⟩ := bind_some' hS
 refine sr_call (vs := [v1]) rfl Try.call8 rfl (law35_light_ok _ (hg.fr hz hb) h2.asSl hy8) (by decide) ?_
 rintro _ w9 ⟨rfl, hbw10⟩
 have htr11 := Tr.of_below hbw10 hb.bd
 replace h2 := h2.mv htr11.rd
 replace h4 := h4.mv htr11.rd
 replace h6 := h6.mv htr11.rd
 replace hb := hb.trans htr11
 refine sr_ev (v := .bool (!y7)) (ev_not rfl) (by decide) ?_
 refine sr_ev (v := .bool (!y7)) (ev_move rfl) (by decide) ?_
 obtain ⟨z14, hz16, hS⟩ := bind_some' hS
 refine sr_join (m := 4) (C := fun (z : Bool) w1 => z14 = z ∧ ∃ ρ1, Tr (flat1 ρA) w9 (fun _ => false) ρ1 w1) (l' := fun z => [(0, v1), (1, v3), (2, v5), (3, str one_3), (4, .int .i64 now_4), (21, .bool z)]) ?_ ?_
 ·rintro _ w17 ⟨rfl, ρ18, hj15⟩
  replace h2 := h2.mv hj15.rd
  replace h4 := h4.mv hj15.rd
  replace h6 := h6.mv hj15.rd
  replace hb := hb.trans hj15
  refine sr_ev (v := .bool z14) (ev_move rfl) (by decide) ?_
  obtain ⟨z27, hz29, hS⟩ := bind_some' hS
  refine sr_join (m := 4) (C := fun (z : Bool) w1 => z27 = z ∧ ∃ ρ1, Tr ρ18 w17 (fun _ => false) ρ1 w1) (l' := fun z => [(0, v1), (1, v3), (2, v5), (3, str one_3), (4, .int .i64 now_4), (26, .bool z)]) ?_ ?_
  ·rintro _ w30 ⟨rfl, ρ31, hj28⟩
   replace h2 := h2.mv hj28.rd
   replace h4 := h4.mv hj28.rd
   replace h6 := h6.mv hj28.rd
   replace hb := hb.trans hj28
   refine sr_ev (v := .bool z27) (ev_move rfl) (by decide) ?_
   refine sr_join (m := 4) (C := fun (x : Bool) w1 => x = (z27 || (decide ((one_3.length : Int) > 200))) ∧ w30 = w1) (l' := fun x => [(0, v1), (1, v3), (2, v5), (3, str one_3), (4, .int .i64 now_4), (31, .bool x)]) ?_ ?_
   ·rintro _ _ ⟨rfl, rfl⟩
    refine sr_end (l' := [(0, v1), (1, v3), (2, v5), (3, str one_3), (4, .int .i64 now_4), (31, .bool (z27 || (decide ((one_3.length : Int) > 200))))]) (.cons rfl (.cons rfl (.cons rfl (.cons rfl (.cons rfl (.cons rfl (.nil _))))))) ?_
    refine ke_cond (t := z27 || (decide ((one_3.length : Int) > 200))) rfl (fun hc46 => ?_) (fun hc46 => ?_)
    ·replace hS := ite_true' hS hc46
     refine ke_seq ?_
     refine ke_region ?_
     obtain ⟨y47, hy48, hS⟩ := bind_some' hS
     refine sr_call (vs := []) rfl Try.call10 rfl (law35_awake_ok _ (hg.fr hz hb) (ρA := ρ31) hb.bd (hz.fr hg hb) hy48) (by decide) ?_
     rintro _ w49 ⟨rfl, hbw50⟩
     have htr51 := Tr.of_below hbw50 hb.bd
     replace hb := hb.trans htr51
     refine sr_ev (v := .bool y47) (ev_assign rfl) (by decide) ?_
     refine sr_end (l' := [(10, .bool y47)]) (.cons rfl (.nil _)) ?_
     cases hS
     exact ke_ret1 Try.func3 rfl rfl ⟨_, rfl, rfl, (hb.below (flat1_le _))⟩
    ·replace hS := ite_false' hS hc46
     refine ke_skip ?_
     refine ke_seq ?_
     refine ke_region ?_
     obtain ⟨y52, hy53, hS⟩ := bind_some' hS
     refine sr_call (vs := []) rfl Try.call11 rfl (delegate_New_ok _ (hg.fr hz hb) (ρA := ρ31) hb.bd (hz.fr hg hb) (o := 100) (by decide) hy53) (by decide) ?_
     rintro _ w54 ⟨ρ61, g57, rfl, ⟨v58, hB60, h59⟩, htr56⟩
     replace h2 := h2.mv htr56.rd
     replace h4 := h4.mv htr56.rd
     replace h6 := h6.mv htr56.rd
     replace hb := hb.trans htr56
     replace hB60 : Blk ρ61 100 w54 g57 (.cells #[v58] 54 (0, 0)) := hB60
     replace h59 : MapT delegate_way.ek delegate_delegation.c true ρ61 101 w54 v58 y52.ways := h59
     obtain ⟨y62, hy63, hS⟩ := bind_some' hS
     refine sr_call (vs := []) rfl Try.call12 rfl (ref35_New_ok _ (hg.fr hz hb) (ρA := ρ61) hb.bd (hz.fr hg hb) (o := 200) (by decide) hy63) (by decide) ?_
     rintro _ w64 ⟨ρ71, g67, rfl, ⟨v68, hB70, h69⟩, htr66⟩
     replace h2 := h2.mv htr66.rd
     replace h4 := h4.mv htr66.rd
     replace h6 := h6.mv htr66.rd
     replace hB60 := hB60.mv (htr66.mv (i := 100) rfl)
     replace h59 := h59.mv (htr66.mv (i := 101) rfl)
     replace hb := hb.trans htr66
     replace hB70 : Blk ρ71 200 w64 g67 (.cells #[.bool y62.made, v68] 57 (0, 0)) := hB70
     replace h69 : OwnT ref35_one.c 65 ρ71 201 w64 v68 y62.l := h69
     refine sr_ev (v := .pointer (some ⟨g57, 0, none⟩)) (ev_assign rfl) (by decide) ?_
     refine sr_ev (v := .pointer (some ⟨g67, 0, none⟩)) (ev_assign rfl) (by decide) ?_
     refine sr_end (l' := [(0, v1), (1, v3), (2, v5), (3, str one_3), (4, .int .i64 now_4), (11, .pointer (some ⟨g57, 0, none⟩)), (12, .pointer (some ⟨g67, 0, none⟩))]) (.cons rfl (.cons rfl (.cons rfl (.cons rfl (.cons rfl (.cons rfl (.cons rfl (.nil _)))))))) ?_
     refine ke_seq ?_
     refine ke_seq ?_
     refine ke_region ?_
     refine sr_ev (v := .pointer (some ⟨g57, 0, none⟩)) (ev_move rfl) (by decide) ?_
     refine sr_ev (v := .bool false) (ev_peqT_some Try.underlying27 rfl rfl) (by decide) ?_
     refine sr_end (l' := [(0, v1), (1, v3), (2, v5), (3, str one_3), (4, .int .i64 now_4), (11, .pointer (some ⟨g57, 0, none⟩)), (12, .pointer (some ⟨g67, 0, none⟩)), (36, .bool false)]) (.cons rfl (.cons rfl (.cons rfl (.cons rfl (.cons rfl (.cons rfl (.cons rfl (.cons rfl (.nil _))))))))) ?_
     refine ke_cond (t := false) rfl (fun h => by cases h) (fun _ => ?_)
     refine ke_skip ?_
     refine ke_seq ?_
     refine ke_seq ?_
     refine ke_region ?_
     refine sr_ev (v := .int .i64 0) (ev_assign rfl) (by decide) ?_
     refine sr_end (l' := [(0, v1), (1, v3), (2, v5), (3, str one_3), (4, .int .i64 now_4), (11, .pointer (some ⟨g57, 0, none⟩)), (12, .pointer (some ⟨g67, 0, none⟩)), (13, .int .i64 0)]) (.cons rfl (.cons rfl (.cons rfl (.cons rfl (.cons rfl (.cons rfl (.cons rfl (.cons rfl (.nil _))))))))) ?_
     refine ke_block ?_
     have hK := law35_DelegatePlays_L1_ok hg hbd hz _ hS hb h2 h4 h6 ⟨_, hB60, h59⟩ ⟨_, hB70, h69⟩
     exact ke_weaken (l' := [(0, v1), (1, v3), (2, v5), (3, str one_3), (4, .int .i64 now_4), (11, .pointer (some ⟨g57, 0, none⟩)), (12, .pointer (some ⟨g67, 0, none⟩)), (13, .int .i64 0)]) (.cons rfl (.cons rfl (.cons rfl (.cons rfl (.cons rfl (.cons rfl (.cons rfl (.cons rfl (.nil _))))))))) (ke_loop hK)
   ·intro K39
    rcases Bool.eq_false_or_eq_true z27 with hg38 | hg38
    all_goals try have hj41 : Tr ρ31 w30 (fun _ => false) ρ31 w30 := Tr.refl hb.bd
    ·refine sr_pass (e := 27) rfl rfl (by rw [hg38]; rfl) (by decide) ?_
     refine sr_pass (e := 27) rfl rfl (by rw [hg38]; rfl) (by decide) ?_
     refine sr_pass (e := 27) rfl rfl (by rw [hg38]; rfl) (by decide) ?_
     refine sr_ev (v := .bool true) (ev_pick_t rfl hg38 rfl) (by decide) ?_
     exact sr_weaken (l' := [(0, v1), (1, v3), (2, v5), (3, str one_3), (4, .int .i64 now_4), (31, .bool true)]) (.cons rfl (.cons rfl (.cons rfl (.cons rfl (.cons rfl (.cons rfl (.nil _))))))) (K39 true _ ⟨by rw [hg38]; rfl, rfl⟩)
    ·refine sr_evg (b := false) (e := 27) rfl rfl hg38 (v := str one_3) (ev_move rfl) (by decide) ?_
     refine sr_evg (b := false) (e := 27) rfl rfl hg38 (v := .int .i64 (one_3.length : Int)) (ev_slen Try.underlying9 rfl) (by decide) ?_
     refine sr_evg (b := false) (e := 27) rfl rfl hg38 (v := .bool (decide ((one_3.length : Int) > 200))) (ev_gt rfl rfl) (by decide) ?_
     refine sr_ev (v := .bool (decide ((one_3.length : Int) > 200))) (ev_pick_f rfl hg38 rfl) (by decide) ?_
     exact sr_weaken (l' := [(0, v1), (1, v3), (2, v5), (3, str one_3), (4, .int .i64 now_4), (31, .bool (decide ((one_3.length : Int) > 200)))]) (.cons rfl (.cons rfl (.cons rfl (.cons rfl (.cons rfl (.cons rfl (.nil _))))))) (K39 (decide ((one_3.length : Int) > 200)) _ ⟨by rw [hg38]; rfl, rfl⟩)
  ·intro K26
   clear hS
   have hj28 : Tr ρ18 w17 (fun _ => false) ρ18 w17 := (Tr.refl hb.bd).weak (fun _ _ => rfl) rfl rfl
   rcases Bool.eq_false_or_eq_true z14 with hg25 | hg25
   ·have hS := ite_true' hz29 hg25
    refine sr_pass (e := 22) rfl rfl (by rw [hg25]; rfl) (by decide) ?_
    refine sr_pass (e := 22) rfl rfl (by rw [hg25]; rfl) (by decide) ?_
    refine sr_pass (e := 22) rfl rfl (by rw [hg25]; rfl) (by decide) ?_
    refine sr_ev (v := .bool true) (ev_pick_t rfl hg25 rfl) (by decide) ?_
    exact sr_weaken (l' := [(0, v1), (1, v3), (2, v5), (3, str one_3), (4, .int .i64 now_4), (26, .bool true)]) (.cons rfl (.cons rfl (.cons rfl (.cons rfl (.cons rfl (.cons rfl (.nil _))))))) (K26 true _ ⟨(Option.some.inj hS).symm, _, hj28⟩)
   ·have hS := ite_false' hz29 hg25
    refine sr_evg (b := false) (e := 22) rfl rfl hg25 (v := v5) (ev_move rfl) (by decide) ?_
    obtain ⟨y33, hy34, hS⟩ := bind_some' hS
    refine sr_callg (b := false) (e := 22) rfl rfl hg25 (vs := [v5]) rfl Try.call9 rfl (law35_few_ok _ (hg.fr hz hb) h6.asSl hy34) (by decide) ?_
    rintro _ w35 ⟨rfl, hbw36⟩
    have htr37 := Tr.of_below hbw36 hb.bd
    replace h2 := h2.mv htr37.rd
    replace h4 := h4.mv htr37.rd
    replace h6 := h6.mv htr37.rd
    replace hb := hb.trans htr37
    replace hj28 := (hj28.trans htr37).weak (J' := (fun _ => false)) (by intro t h; simp [rng] at h ⊢ <;> omega) rfl rfl
    refine sr_evg (b := false) (e := 22) rfl rfl hg25 (v := .bool (!y33)) (ev_not rfl) (by decide) ?_
    refine sr_ev (v := .bool (!y33)) (ev_pick_f rfl hg25 rfl) (by decide) ?_
    exact sr_weaken (l' := [(0, v1), (1, v3), (2, v5), (3, str one_3), (4, .int .i64 now_4), (26, .bool (!y33))]) (.cons rfl (.cons rfl (.cons rfl (.cons rfl (.cons rfl (.cons rfl (.nil _))))))) (K26 (!y33) _ ⟨(Option.some.inj hS).symm, _, hj28⟩)
 ·intro K13
  clear hS
  have hj15 : Tr (flat1 ρA) w9 (fun _ => false) (flat1 ρA) w9 := (Tr.refl hb.bd).weak (fun _ _ => rfl) rfl rfl
  rcases Bool.eq_false_or_eq_true (!y7) with hg12 | hg12
  ·have hS := ite_true' hz16 hg12
   refine sr_pass (e := 17) rfl rfl (by rw [hg12]; rfl) (by decide) ?_
   refine sr_pass (e := 17) rfl rfl (by rw [hg12]; rfl) (by decide) ?_
   refine sr_pass (e := 17) rfl rfl (by rw [hg12]; rfl) (by decide) ?_
   refine sr_ev (v := .bool true) (ev_pick_t rfl hg12 rfl) (by decide) ?_
   exact sr_weaken (l' := [(0, v1), (1, v3), (2, v5), (3, str one_3), (4, .int .i64 now_4), (21, .bool true)]) (.cons rfl (.cons rfl (.cons rfl (.cons rfl (.cons rfl (.cons rfl (.nil _))))))) (K13 true _ ⟨(Option.some.inj hS).symm, _, hj15⟩)
  ·have hS := ite_false' hz16 hg12
   refine sr_evg (b := false) (e := 17) rfl rfl hg12 (v := v3) (ev_move rfl) (by decide) ?_
   obtain ⟨y20, hy21, hS⟩ := bind_some' hS
   refine sr_callg (b := false) (e := 17) rfl rfl hg12 (vs := [v3]) rfl Try.call9 rfl (law35_few_ok _ (hg.fr hz hb) h4.asSl hy21) (by decide) ?_
   rintro _ w22 ⟨rfl, hbw23⟩
   have htr24 := Tr.of_below hbw23 hb.bd
   replace h2 := h2.mv htr24.rd
   replace h4 := h4.mv htr24.rd
   replace h6 := h6.mv htr24.rd
   replace hb := hb.trans htr24
   replace hj15 := (hj15.trans htr24).weak (J' := (fun _ => false)) (by intro t h; simp [rng] at h ⊢ <;> omega) rfl rfl
   refine sr_evg (b := false) (e := 17) rfl rfl hg12 (v := .bool (!y20)) (ev_not rfl) (by decide) ?_
   refine sr_ev (v := .bool (!y20)) (ev_pick_f rfl hg12 rfl) (by decide) ?_
   exact sr_weaken (l' := [(0, v1), (1, v3), (2, v5), (3, str one_3), (4, .int .i64 now_4), (21, .bool (!y20))]) (.cons rfl (.cons rfl (.cons rfl (.cons rfl (.cons rfl (.cons rfl (.nil _))))))) (K13 (!y20) _ ⟨(Option.some.inj hS).symm, _, hj15⟩)
end Ytibmfjehbmdbkaa
end Go.Proofs
