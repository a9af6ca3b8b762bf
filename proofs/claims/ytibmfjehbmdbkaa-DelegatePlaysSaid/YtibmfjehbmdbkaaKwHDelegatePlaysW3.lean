/- Own work: a part of the proofs of this seat. -/
import Derived.Test.YtibmfjehbmdbkaaProg
import Derived.Test.YtibmfjehbmdbkaaShelf
import Derived.Test.YtibmfjehbmdbkaaIter
import Derived.Test.YtibmfjehbmdbkaaKwHS
import Derived.KernelRfl
import Derived.Test.YtibmfjehbmdbkaaKwHDelegatePlaysW2
set_option linter.unusedVariables false
set_option linter.unusedSimpArgs false
set_option linter.unusedSectionVars false
set_option maxHeartbeats 8000000
set_option maxRecDepth 8000
namespace Go.Proofs
namespace Ytibmfjehbmdbkaa
open Go Go.KW Go.KW.S Go.RowKit
theorem ref35_Delegations_Revoke_ok (w0 : World) (hg : Gs w0) {ρA : Tags} (hbd : ∀ b, ρA b ≠ 0 → b < w0.heap.size) (hz : Gz ρA) {o : Nat} (ho2 : 2 ≤ o) {d_0 : ref35_Delegations} {from_1 : Str} {to_2 : Str} {gd_0 : Nat} {r : Bool × ref35_Delegations} (ho0 : ref35_Delegations.O (fun p => o + p) ρA w0 gd_0 d_0) (hS : ref35_Delegations_Revoke d_0 from_1 to_2 = some r) :
  Calls Try.prog 31 #[.pointer (some ⟨gd_0, 0, none⟩), str from_1, str to_2] w0 (Ret (fun v w' => ∃ ρ', v = .bool r.1 ∧ ref35_Delegations.O (fun p => o + p) ρ' w' gd_0 r.2 ∧ Tr ρA w0 (rng o 2) ρ' w')) := by
 unfold ref35_Delegations_Revoke at hS
 have hb := enter_fr (ρ := ρA) (w := w0) (n := 2) ho2 hbd
 have hz := hz.enter (n := 2) ho2
 obtain ⟨v1, hB3, h2⟩ := ho0
 replace hB3 := hB3.mv (enter_mv (p := 0) (n := 2) (by decide) ho2)
 replace h2 := h2.mv (enter_mv (p := 1) (n := 2) (by decide) ho2) (by decide)
 replace hB3 : Blk (enter ρA o 2) 100 w0 gd_0 (.cells #[.bool d_0.made, v1] 57 (0, 0)) := hB3
 replace h2 : OwnT ref35_one.c 65 (enter ρA o 2) 101 w0 v1 d_0.l := h2
 refine calls_of_ke Try.func31 rfl (n := 36) rfl rfl (l := [(0, .pointer (some ⟨gd_0, 0, none⟩)), (1, str from_1), (2, str to_2)]) rfl ?_
 refine ke_seq ?_
 refine ke_region ?_
 refine sr_ev (v := .bool false) (ev_assign rfl) (by decide) ?_
 refine sr_end (l' := [(0, .pointer (some ⟨gd_0, 0, none⟩)), (1, str from_1), (2, str to_2)]) (.cons rfl (.cons rfl (.cons rfl (.nil _)))) ?_
 refine ke_seq ?_
 refine ke_seq ?_
 refine ke_region ?_
 refine sr_ev (v := .pointer (some ⟨gd_0, 0, none⟩)) (ev_move rfl) (by decide) ?_
 obtain ⟨y4, hy5, hS⟩ := bind_some' hS
 refine sr_call (vs := [.pointer (some ⟨gd_0, 0, none⟩)]) rfl Try.call35 rfl (ref35_Delegations_Made_ok _ (hg.fr hz hb) (ρA := (enter ρA o 2)) hb.bd (hz.fr hg hb) (τ0 := (fun p => 100 + p)) (fun p => Nat.le_add_right_of_le (by decide)) (⟨_, hB3, h2⟩ : ref35_Delegations.O (fun p => 100 + p) (enter ρA o 2) w0 gd_0 d_0) hy5) (by decide) ?_
 rintro _ w6 ⟨rfl, hbw7⟩
 have htr8 := Tr.of_below hbw7 hb.bd
 replace hB3 := hB3.mv (htr8.mv (i := 100) rfl)
 replace h2 := h2.mv (htr8.mv (i := 101) rfl) (by decide)
 replace hb := hb.trans htr8
 refine sr_ev (v := .bool (!y4)) (ev_not rfl) (by decide) ?_
 refine sr_end (l' := [(0, .pointer (some ⟨gd_0, 0, none⟩)), (1, str from_1), (2, str to_2), (10, .bool (!y4))]) (.cons rfl (.cons rfl (.cons rfl (.cons rfl (.nil _))))) ?_
 refine ke_cond (t := !y4) rfl (fun hc9 => ?_) (fun hc9 => ?_)
 ·replace hS := ite_true' hS hc9
  refine ke_seq ?_
  refine ke_region ?_
  refine sr_ev (v := .bool false) (ev_assign rfl) (by decide) ?_
  refine sr_end (l' := [(6, .bool false)]) (.cons rfl (.nil _)) ?_
  cases hS
  exact ke_ret1 Try.func31 rfl rfl ⟨_, rfl, leave ρA w0 o 2 (enter ρA o 2), rfl, ⟨_, (hB3.mv (leave_mv (p := 0) (by decide) hb)), (h2.mv (leave_mv (p := 1) (by decide) hb) (Nat.ne_of_gt (Nat.lt_of_lt_of_le (Nat.lt_of_lt_of_le Nat.zero_lt_two ho2) (Nat.le_add_right _ _))))⟩, (leave_tr ho2 hb)⟩
 ·replace hS := ite_false' hS hc9
  refine ke_skip ?_
  refine ke_seq ?_
  refine ke_region ?_
  refine sr_ev (v := .pointer (some ⟨gd_0, 0, none⟩)) (ev_move rfl) (by decide) ?_
  refine sr_ev (v := str from_1) (ev_move rfl) (by decide) ?_
  refine sr_ev (v := str to_2) (ev_move rfl) (by decide) ?_
  obtain ⟨y10, hy11, hS⟩ := bind_some' hS
  refine sr_call (vs := [.pointer (some ⟨gd_0, 0, none⟩), str from_1, str to_2]) rfl Try.call37 rfl (ref35_Delegations_find_ok _ (hg.fr hz hb) (ρA := (enter ρA o 2)) hb.bd (hz.fr hg hb) (τ0 := (fun p => 100 + p)) (fun p => Nat.le_add_right_of_le (by decide)) (⟨_, hB3, h2⟩ : ref35_Delegations.O (fun p => 100 + p) (enter ρA o 2) w6 gd_0 d_0) hy11) (by decide) ?_
  rintro _ w12 ⟨rfl, hbw13⟩
  have htr14 := Tr.of_below hbw13 hb.bd
  replace hB3 := hB3.mv (htr14.mv (i := 100) rfl)
  replace h2 := h2.mv (htr14.mv (i := 101) rfl) (by decide)
  replace hb := hb.trans htr14
  refine sr_ev (v := .int .i64 y10) (ev_assign rfl) (by decide) ?_
  refine sr_end (l' := [(0, .pointer (some ⟨gd_0, 0, none⟩)), (7, .int .i64 y10)]) (.cons rfl (.cons rfl (.nil _))) ?_
  refine ke_seq ?_
  refine ke_seq ?_
  refine ke_region ?_
  refine sr_ev (v := .int .i64 y10) (ev_move rfl) (by decide) ?_
  refine sr_ev (v := .bool (decide (y10 < 0))) (ev_lt rfl rfl) (by decide) ?_
  refine sr_end (l' := [(0, .pointer (some ⟨gd_0, 0, none⟩)), (7, .int .i64 y10), (16, .bool (decide (y10 < 0)))]) (.cons rfl (.cons rfl (.cons rfl (.nil _)))) ?_
  refine ke_cond (t := decide (y10 < 0)) rfl (fun hc15 => ?_) (fun hc15 => ?_)
  ·replace hS := ite_true' hS hc15
   refine ke_seq ?_
   refine ke_region ?_
   refine sr_ev (v := .bool false) (ev_assign rfl) (by decide) ?_
   refine sr_end (l' := [(6, .bool false)]) (.cons rfl (.nil _)) ?_
   cases hS
   exact ke_ret1 Try.func31 rfl rfl ⟨_, rfl, leave ρA w0 o 2 (enter ρA o 2), rfl, ⟨_, (hB3.mv (leave_mv (p := 0) (by decide) hb)), (h2.mv (leave_mv (p := 1) (by decide) hb) (Nat.ne_of_gt (Nat.lt_of_lt_of_le (Nat.lt_of_lt_of_le Nat.zero_lt_two ho2) (Nat.le_add_right _ _))))⟩, (leave_tr ho2 hb)⟩
  ·replace hS := ite_false' hS hc15
   refine ke_skip ?_
   refine ke_seq ?_
   refine ke_region_j (ρ := (enter ρA o 2)) (fun t => ([20, 100] : List Nat).contains t) 20 Try.mixed (fun w17 hw16 => ?_)
   have htr18 := Tr.of_below hw16 hb.bd
   replace hB3 := hB3.mv (htr18.mv (i := 100) rfl)
   replace h2 := h2.mv (htr18.mv (i := 101) rfl) (by decide)
   replace hb := hb.trans htr18
   refine dj_H 0 (v := .pointer (some ⟨gd_0, 0, none⟩)) (by kernel_rfl) (by kernel_rfl) rfl (fun _ _ _ h => h) (sj_refl hb.bd rfl rfl) (fun w1 ρ1 hw1 => ev_move rfl) (by decide) ?_
   refine dj_H 2 (v := .pointer (some ⟨gd_0, 0, none⟩)) (by kernel_rfl) (by kernel_rfl) rfl (fun _ _ _ h => h) (sj_refl hb.bd rfl rfl) (fun w1 ρ1 hw1 => ev_move rfl) (by decide) ?_
   refine dj_H 3 (v := .pointer (some ⟨gd_0, 0, none⟩)) (by kernel_rfl) (by kernel_rfl) rfl (fun _ _ _ h => h) (sj_refl hb.bd rfl rfl) (fun w1 ρ1 hw1 => ev_nilCheck rfl) (by decide) ?_
   refine dj_H 4 (v := .pointer (some ⟨gd_0, 1, none⟩)) (by kernel_rfl) (by kernel_rfl) rfl (fun _ _ _ h => h) (sj_refl hb.bd rfl rfl) (fun w1 ρ1 hw1 => ev_fieldAddr (i := 1) Try.underlying57 rfl Try.info55 rfl rfl) (by decide) ?_
   refine dj_H 6 (v := .int .i64 y10) (by kernel_rfl) (by kernel_rfl) rfl (fun _ _ _ h => h) (sj_refl hb.bd rfl rfl) (fun w1 ρ1 hw1 => ev_move rfl) (by decide) ?_
   refine dj_H 9 (v := .pointer (some ⟨gd_0, 0, none⟩)) (by kernel_rfl) (by kernel_rfl) rfl (fun _ _ _ h => h) (sj_refl hb.bd rfl rfl) (fun w1 ρ1 hw1 => ev_move rfl) (by decide) ?_
   refine dj_H 10 (v := .pointer (some ⟨gd_0, 0, none⟩)) (by kernel_rfl) (by kernel_rfl) rfl (fun _ _ _ h => h) (sj_refl hb.bd rfl rfl) (fun w1 ρ1 hw1 => ev_nilCheck rfl) (by decide) ?_
   refine dj_H 11 (v := .pointer (some ⟨gd_0, 1, none⟩)) (by kernel_rfl) (by kernel_rfl) rfl (fun _ _ _ h => h) (sj_refl hb.bd rfl rfl) (fun w1 ρ1 hw1 => ev_fieldAddr (i := 1) Try.underlying57 rfl Try.info55 rfl rfl) (by decide) ?_
   refine dj_H 13 (v := .int .i64 y10) (by kernel_rfl) (by kernel_rfl) rfl (fun _ _ _ h => h) (sj_refl hb.bd rfl rfl) (fun w1 ρ1 hw1 => ev_move rfl) (by decide) ?_
   refine dj_H 14 (v := .int .i64 (IntKind.i64.wrap (y10 + 1))) (by kernel_rfl) (by kernel_rfl) rfl (fun _ _ _ h => h) (sj_refl hb.bd rfl rfl) (fun w1 ρ1 hw1 => ev_add rfl rfl) (by decide) ?_
   obtain ⟨hk284, hS⟩ := chk_some hS
   obtain ⟨hk289, hS⟩ := chk_some hS
   obtain ⟨hk296, hS⟩ := chk_some hS
   obtain ⟨hk301, hS⟩ := chk_some hS
   refine dj_all [1, 5, 12] (by kernel_rfl) (fun i hi => ?_)
   simp only [List.mem_cons, List.not_mem_nil, or_false] at hi
   rcases hi with rfl | rfl | rfl
   ·refine ⟨_, rfl, ?_⟩
    have jt310 : Tr (enter ρA o 2) w17 (fun t => ([20, 100] : List Nat).contains t) (enter ρA o 2) w17 := (Tr.refl hb.bd).weak (fun _ _ => rfl) rfl rfl
    refine sr_litOwnT (i := 20) (c := ref35_one.c) (ρ := (enter ρA o 2)) (E := 65) (xs := []) (vs := #[]) (cs := #[]) (css := []) rfl (fun _ => by kernel_rfl) rfl trivial rfl (by decide) (by decide) hb.bd (by decide) ?_
    intro v311 ρ315 w313 h312 htr314
    replace hB3 := hB3.mv (htr314.mv (i := 100) rfl)
    replace h2 := h2.mv (htr314.mv (i := 101) rfl) (by decide)
    replace hb := hb.trans htr314
    replace jt310 := (jt310.trans htr314).weak (J' := (fun t => ([20, 100] : List Nat).contains t)) (by intro t h; simp [rng] at h ⊢ <;> omega) rfl rfl
    refine dj_next (l' := [(17, .pointer (some ⟨gd_0, 0, none⟩)), (18, v311), (21, .pointer (some ⟨gd_0, 1, none⟩)), (23, .int .i64 y10), (28, .pointer (some ⟨gd_0, 1, none⟩)), (31, .int .i64 (IntKind.i64.wrap (y10 + 1)))]) rfl (.cons rfl (.cons rfl (.cons rfl (.cons rfl (.cons rfl (.cons rfl (.nil _))))))) jt310 (by intro t h; simp [rng] at h ⊢ <;> omega) rfl rfl ?_
    refine dj_all [5, 12] (by kernel_rfl) (fun i hi => ?_)
    simp only [List.mem_cons, List.not_mem_nil, or_false] at hi
    rcases hi with rfl | rfl
    ·refine ⟨_, rfl, ?_⟩
     have jt316 : Tr ρ315 w313 (fun t => ([20, 100] : List Nat).contains t) ρ315 w313 := (Tr.refl hb.bd).weak (fun _ _ => rfl) rfl rfl
     refine sr_ev (v := v1) (ev_load Try.isAgg55 rfl (hB3.cell rfl)) (by decide) ?_
     refine dj_next (l' := [(17, .pointer (some ⟨gd_0, 0, none⟩)), (18, v311), (22, v1), (23, .int .i64 y10), (28, .pointer (some ⟨gd_0, 1, none⟩)), (31, .int .i64 (IntKind.i64.wrap (y10 + 1)))]) rfl (.cons rfl (.cons rfl (.cons rfl (.cons rfl (.cons rfl (.cons rfl (.nil _))))))) jt316 (by intro t h; simp [rng] at h ⊢ <;> omega) rfl rfl ?_
     obtain ⟨v317, h318, hq319⟩ := (h2.sl).cutT_h (P := Try.prog) Try.underlying55 Try.info65 rfl hk284
     refine dj_H 7 (v := v317) (by kernel_rfl) (by kernel_rfl) rfl (fun _ _ _ h => h) (sj_refl hb.bd rfl rfl) (fun w1 ρ1 hw1 => hq319 w1 rfl rfl) (by decide) ?_
     refine dj_all [8, 12] (by kernel_rfl) (fun i hi => ?_)
     simp only [List.mem_cons, List.not_mem_nil, or_false] at hi
     rcases hi with rfl | rfl
     ·refine ⟨_, rfl, ?_⟩
      have jt320 : Tr ρ315 w313 (fun t => ([20, 100] : List Nat).contains t) ρ315 w313 := (Tr.refl hb.bd).weak (fun _ _ => rfl) rfl rfl
      refine sr_appendT (i := 20) (c := ref35_one.c) (ρ := ρ315) (E := 65) (xs := ([] : List ref35_one)) (ys := cut d_0.l 0 y10) h312 (h318).x Try.underlying55 Try.info65 rfl rfl rfl (by decide) (by decide) (by decide) hb.bd hk289 rfl rfl (by decide) ?_
      intro v321 ρ323 w324 h322 htr325
      replace hB3 := hB3.mv (htr325.mv (i := 100) rfl)
      replace h2 := h2.mv (htr325.mv (i := 101) rfl) (by decide)
      replace hb := hb.trans htr325
      replace jt320 := (jt320.trans htr325).weak (J' := (fun t => ([20, 100] : List Nat).contains t)) (by intro t h; simp [rng] at h ⊢ <;> omega) rfl rfl
      refine dj_next (l' := [(17, .pointer (some ⟨gd_0, 0, none⟩)), (25, v321), (28, .pointer (some ⟨gd_0, 1, none⟩)), (31, .int .i64 (IntKind.i64.wrap (y10 + 1)))]) rfl (.cons rfl (.cons rfl (.cons rfl (.cons rfl (.nil _))))) jt320 (by intro t h; simp [rng] at h ⊢ <;> omega) rfl rfl ?_
      refine dj_E 12 (by kernel_rfl) rfl ?_
      have jt326 : Tr ρ323 w324 (fun t => ([20, 100] : List Nat).contains t) ρ323 w324 := (Tr.refl hb.bd).weak (fun _ _ => rfl) rfl rfl
      refine sr_ev (v := v1) (ev_load Try.isAgg55 rfl (hB3.cell rfl)) (by decide) ?_
      refine dj_next (l' := [(17, .pointer (some ⟨gd_0, 0, none⟩)), (25, v321), (29, v1), (31, .int .i64 (IntKind.i64.wrap (y10 + 1)))]) rfl (.cons rfl (.cons rfl (.cons rfl (.cons rfl (.nil _))))) jt326 (by intro t h; simp [rng] at h ⊢ <;> omega) rfl rfl ?_
      obtain ⟨v327, h328, hq329⟩ := (h2.sl).cutT_l (P := Try.prog) Try.underlying55 Try.info65 rfl hk296
      refine dj_H 15 (v := v327) (by kernel_rfl) (by kernel_rfl) rfl (fun _ _ _ h => h) (sj_refl hb.bd rfl rfl) (fun w1 ρ1 hw1 => hq329 w1 rfl rfl) (by decide) ?_
      refine dj_E 16 (by kernel_rfl) rfl ?_
      have jt330 : Tr ρ323 w324 (fun t => ([20, 100] : List Nat).contains t) ρ323 w324 := (Tr.refl hb.bd).weak (fun _ _ => rfl) rfl rfl
      refine sr_appendT (i := 20) (c := ref35_one.c) (ρ := ρ323) (E := 65) (xs := ([] : List ref35_one) ++ (cut d_0.l 0 y10)) (ys := cut d_0.l (IntKind.i64.wrap (y10 + 1)) d_0.l.length) h322 (h328).x Try.underlying55 Try.info65 rfl rfl rfl (by decide) (by decide) (by decide) hb.bd hk301 rfl rfl (by decide) ?_
      intro v331 ρ333 w334 h332 htr335
      replace hB3 := hB3.mv (htr335.mv (i := 100) rfl)
      replace h2 := h2.mv (htr335.mv (i := 101) rfl) (by decide)
      replace hb := hb.trans htr335
      replace jt330 := (jt330.trans htr335).weak (J' := (fun t => ([20, 100] : List Nat).contains t)) (by intro t h; simp [rng] at h ⊢ <;> omega) rfl rfl
      refine dj_next (l' := [(17, .pointer (some ⟨gd_0, 0, none⟩)), (33, v331)]) rfl (.cons rfl (.cons rfl (.nil _))) jt330 (by intro t h; simp [rng] at h ⊢ <;> omega) rfl rfl ?_
      refine dj_H 17 (v := .pointer (some ⟨gd_0, 0, none⟩)) (by kernel_rfl) (by kernel_rfl) rfl (fun _ _ _ h => h) (sj_refl hb.bd rfl rfl) (fun w1 ρ1 hw1 => ev_nilCheck rfl) (by decide) ?_
      refine dj_H 18 (v := .pointer (some ⟨gd_0, 1, none⟩)) (by kernel_rfl) (by kernel_rfl) rfl (fun _ _ _ h => h) (sj_refl hb.bd rfl rfl) (fun w1 ρ1 hw1 => ev_fieldAddr (i := 1) Try.underlying57 rfl Try.info55 rfl rfl) (by decide) ?_
      refine dj_E 19 (by kernel_rfl) rfl ?_
      have jt336 : Tr ρ333 w334 (fun t => ([20, 100] : List Nat).contains t) ρ333 w334 := (Tr.refl hb.bd).weak (fun _ _ => rfl) rfl rfl
      refine sr_storeT (v := v331) (vs := [v331]) (cs' := #[.bool d_0.made, v331]) hB3 (by decide) hb.bd rfl rfl (one_cells (OwnT.oneCell h332)) Try.sizeOf55 rfl (by first | rfl | (simp only [List.all_cons, List.all_nil, OwnT.oneCell h332]; done) | (simp only [List.all_cons, List.all_nil, OwnT.oneCell h332]; rfl)) rfl ?_
      intro w337 hB31 htr338
      replace h332 := h332.mv (htr338.mv (i := 20) rfl) (by decide)
      replace hb := hb.trans htr338
      replace jt336 := (jt336.trans htr338).weak (J' := (fun t => ([20, 100] : List Nat).contains t)) (by intro t h; simp [rng] at h ⊢ <;> omega) rfl rfl
      replace hB3 : Blk ρ333 100 w337 gd_0 (.cells #[.bool d_0.made, v331] 57 (0, 0)) := hB31
      clear hB31
      refine dj_next (l' := []) rfl (.nil _) jt336 (by intro t h; simp [rng] at h ⊢ <;> omega) rfl rfl ?_
      refine dj_done rfl (by kernel_rfl) ?_
      refine ke_weaken (l' := []) (.nil _) ?_
      have hK := ref35_Delegations_Revoke_B1_ok hg hbd ho2 hz hS hb h332 hB3
      exact ke_weaken (l' := []) (.nil _) hK
     ·refine ⟨_, rfl, ?_⟩
      have jt341 : Tr ρ315 w313 (fun t => ([20, 100] : List Nat).contains t) ρ315 w313 := (Tr.refl hb.bd).weak (fun _ _ => rfl) rfl rfl
      refine sr_ev (v := v1) (ev_load Try.isAgg55 rfl (hB3.cell rfl)) (by decide) ?_
      refine dj_next (l' := [(17, .pointer (some ⟨gd_0, 0, none⟩)), (18, v311), (24, v317), (29, v1), (31, .int .i64 (IntKind.i64.wrap (y10 + 1)))]) rfl (.cons rfl (.cons rfl (.cons rfl (.cons rfl (.cons rfl (.nil _)))))) jt341 (by intro t h; simp [rng] at h ⊢ <;> omega) rfl rfl ?_
      obtain ⟨v342, h343, hq344⟩ := (h2.sl).cutT_l (P := Try.prog) Try.underlying55 Try.info65 rfl hk296
      refine dj_H 15 (v := v342) (by kernel_rfl) (by kernel_rfl) rfl (fun _ _ _ h => h) (sj_refl hb.bd rfl rfl) (fun w1 ρ1 hw1 => hq344 w1 rfl rfl) (by decide) ?_
      refine dj_E 8 (by kernel_rfl) rfl ?_
      have jt345 : Tr ρ315 w313 (fun t => ([20, 100] : List Nat).contains t) ρ315 w313 := (Tr.refl hb.bd).weak (fun _ _ => rfl) rfl rfl
      refine sr_appendT (i := 20) (c := ref35_one.c) (ρ := ρ315) (E := 65) (xs := ([] : List ref35_one)) (ys := cut d_0.l 0 y10) h312 (h318).x Try.underlying55 Try.info65 rfl rfl rfl (by decide) (by decide) (by decide) hb.bd hk289 rfl rfl (by decide) ?_
      intro v346 ρ348 w349 h347 htr350
      replace h343 := h343.mv (htr350.mv (i := 101) rfl)
      replace hB3 := hB3.mv (htr350.mv (i := 100) rfl)
      replace h2 := h2.mv (htr350.mv (i := 101) rfl) (by decide)
      replace hb := hb.trans htr350
      replace jt345 := (jt345.trans htr350).weak (J' := (fun t => ([20, 100] : List Nat).contains t)) (by intro t h; simp [rng] at h ⊢ <;> omega) rfl rfl
      refine dj_next (l' := [(17, .pointer (some ⟨gd_0, 0, none⟩)), (25, v346), (32, v342)]) rfl (.cons rfl (.cons rfl (.cons rfl (.nil _)))) jt345 (by intro t h; simp [rng] at h ⊢ <;> omega) rfl rfl ?_
      refine dj_E 16 (by kernel_rfl) rfl ?_
      have jt351 : Tr ρ348 w349 (fun t => ([20, 100] : List Nat).contains t) ρ348 w349 := (Tr.refl hb.bd).weak (fun _ _ => rfl) rfl rfl
      refine sr_appendT (i := 20) (c := ref35_one.c) (ρ := ρ348) (E := 65) (xs := ([] : List ref35_one) ++ (cut d_0.l 0 y10)) (ys := cut d_0.l (IntKind.i64.wrap (y10 + 1)) d_0.l.length) h347 (h343).x Try.underlying55 Try.info65 rfl rfl rfl (by decide) (by decide) (by decide) hb.bd hk301 rfl rfl (by decide) ?_
      intro v352 ρ354 w355 h353 htr356
      replace hB3 := hB3.mv (htr356.mv (i := 100) rfl)
      replace h2 := h2.mv (htr356.mv (i := 101) rfl) (by decide)
      replace hb := hb.trans htr356
      replace jt351 := (jt351.trans htr356).weak (J' := (fun t => ([20, 100] : List Nat).contains t)) (by intro t h; simp [rng] at h ⊢ <;> omega) rfl rfl
      refine dj_next (l' := [(17, .pointer (some ⟨gd_0, 0, none⟩)), (33, v352)]) rfl (.cons rfl (.cons rfl (.nil _))) jt351 (by intro t h; simp [rng] at h ⊢ <;> omega) rfl rfl ?_
      refine dj_H 17 (v := .pointer (some ⟨gd_0, 0, none⟩)) (by kernel_rfl) (by kernel_rfl) rfl (fun _ _ _ h => h) (sj_refl hb.bd rfl rfl) (fun w1 ρ1 hw1 => ev_nilCheck rfl) (by decide) ?_
      refine dj_H 18 (v := .pointer (some ⟨gd_0, 1, none⟩)) (by kernel_rfl) (by kernel_rfl) rfl (fun _ _ _ h => h) (sj_refl hb.bd rfl rfl) (fun w1 ρ1 hw1 => ev_fieldAddr (i := 1) Try.underlying57 rfl Try.info55 rfl rfl) (by decide) ?_
      refine dj_E 19 (by kernel_rfl) rfl ?_
      have jt357 : Tr ρ354 w355 (fun t => ([20, 100] : List Nat).contains t) ρ354 w355 := (Tr.refl hb.bd).weak (fun _ _ => rfl) rfl rfl
      refine sr_storeT (v := v352) (vs := [v352]) (cs' := #[.bool d_0.made, v352]) hB3 (by decide) hb.bd rfl rfl (one_cells (OwnT.oneCell h353)) Try.sizeOf55 rfl (by first | rfl | (simp only [List.all_cons, List.all_nil, OwnT.oneCell h353]; done) | (simp only [List.all_cons, List.all_nil, OwnT.oneCell h353]; rfl)) rfl ?_
      intro w358 hB31 htr359
      replace h353 := h353.mv (htr359.mv (i := 20) rfl) (by decide)
      replace hb := hb.trans htr359
      replace jt357 := (jt357.trans htr359).weak (J' := (fun t => ([20, 100] : List Nat).contains t)) (by intro t h; simp [rng] at h ⊢ <;> omega) rfl rfl
      replace hB3 : Blk ρ354 100 w358 gd_0 (.cells #[.bool d_0.made, v352] 57 (0, 0)) := hB31
      clear hB31
      refine dj_next (l' := []) rfl (.nil _) jt357 (by intro t h; simp [rng] at h ⊢ <;> omega) rfl rfl ?_
      refine dj_done rfl (by kernel_rfl) ?_
      refine ke_weaken (l' := []) (.nil _) ?_
      have hK := ref35_Delegations_Revoke_B1_ok hg hbd ho2 hz hS hb h353 hB3
      exact ke_weaken (l' := []) (.nil _) hK
    ·refine ⟨_, rfl, ?_⟩
     have jt360 : Tr ρ315 w313 (fun t => ([20, 100] : List Nat).contains t) ρ315 w313 := (Tr.refl hb.bd).weak (fun _ _ => rfl) rfl rfl
     refine sr_ev (v := v1) (ev_load Try.isAgg55 rfl (hB3.cell rfl)) (by decide) ?_
     refine dj_next (l' := [(17, .pointer (some ⟨gd_0, 0, none⟩)), (18, v311), (21, .pointer (some ⟨gd_0, 1, none⟩)), (23, .int .i64 y10), (29, v1), (31, .int .i64 (IntKind.i64.wrap (y10 + 1)))]) rfl (.cons rfl (.cons rfl (.cons rfl (.cons rfl (.cons rfl (.cons rfl (.nil _))))))) jt360 (by intro t h; simp [rng] at h ⊢ <;> omega) rfl rfl ?_
     obtain ⟨v361, h362, hq363⟩ := (h2.sl).cutT_l (P := Try.prog) Try.underlying55 Try.info65 rfl hk296
     refine dj_H 15 (v := v361) (by kernel_rfl) (by kernel_rfl) rfl (fun _ _ _ h => h) (sj_refl hb.bd rfl rfl) (fun w1 ρ1 hw1 => hq363 w1 rfl rfl) (by decide) ?_
     refine dj_E 5 (by kernel_rfl) rfl ?_
     have jt364 : Tr ρ315 w313 (fun t => ([20, 100] : List Nat).contains t) ρ315 w313 := (Tr.refl hb.bd).weak (fun _ _ => rfl) rfl rfl
     refine sr_ev (v := v1) (ev_load Try.isAgg55 rfl (hB3.cell rfl)) (by decide) ?_
     refine dj_next (l' := [(17, .pointer (some ⟨gd_0, 0, none⟩)), (18, v311), (22, v1), (23, .int .i64 y10), (32, v361)]) rfl (.cons rfl (.cons rfl (.cons rfl (.cons rfl (.cons rfl (.nil _)))))) jt364 (by intro t h; simp [rng] at h ⊢ <;> omega) rfl rfl ?_
     obtain ⟨v365, h366, hq367⟩ := (h2.sl).cutT_h (P := Try.prog) Try.underlying55 Try.info65 rfl hk284
     refine dj_H 7 (v := v365) (by kernel_rfl) (by kernel_rfl) rfl (fun _ _ _ h => h) (sj_refl hb.bd rfl rfl) (fun w1 ρ1 hw1 => hq367 w1 rfl rfl) (by decide) ?_
     refine dj_E 8 (by kernel_rfl) rfl ?_
     have jt368 : Tr ρ315 w313 (fun t => ([20, 100] : List Nat).contains t) ρ315 w313 := (Tr.refl hb.bd).weak (fun _ _ => rfl) rfl rfl
     refine sr_appendT (i := 20) (c := ref35_one.c) (ρ := ρ315) (E := 65) (xs := ([] : List ref35_one)) (ys := cut d_0.l 0 y10) h312 (h366).x Try.underlying55 Try.info65 rfl rfl rfl (by decide) (by decide) (by decide) hb.bd hk289 rfl rfl (by decide) ?_
     intro v369 ρ371 w372 h370 htr373
     replace h362 := h362.mv (htr373.mv (i := 101) rfl)
     replace hB3 := hB3.mv (htr373.mv (i := 100) rfl)
     replace h2 := h2.mv (htr373.mv (i := 101) rfl) (by decide)
     replace hb := hb.trans htr373
     replace jt368 := (jt368.trans htr373).weak (J' := (fun t => ([20, 100] : List Nat).contains t)) (by intro t h; simp [rng] at h ⊢ <;> omega) rfl rfl
     refine dj_next (l' := [(17, .pointer (some ⟨gd_0, 0, none⟩)), (25, v369), (32, v361)]) rfl (.cons rfl (.cons rfl (.cons rfl (.nil _)))) jt368 (by intro t h; simp [rng] at h ⊢ <;> omega) rfl rfl ?_
     refine dj_E 16 (by kernel_rfl) rfl ?_
     have jt374 : Tr ρ371 w372 (fun t => ([20, 100] : List Nat).contains t) ρ371 w372 := (Tr.refl hb.bd).weak (fun _ _ => rfl) rfl rfl
     refine sr_appendT (i := 20) (c := ref35_one.c) (ρ := ρ371) (E := 65) (xs := ([] : List ref35_one) ++ (cut d_0.l 0 y10)) (ys := cut d_0.l (IntKind.i64.wrap (y10 + 1)) d_0.l.length) h370 (h362).x Try.underlying55 Try.info65 rfl rfl rfl (by decide) (by decide) (by decide) hb.bd hk301 rfl rfl (by decide) ?_
     intro v375 ρ377 w378 h376 htr379
     replace hB3 := hB3.mv (htr379.mv (i := 100) rfl)
     replace h2 := h2.mv (htr379.mv (i := 101) rfl) (by decide)
     replace hb := hb.trans htr379
     replace jt374 := (jt374.trans htr379).weak (J' := (fun t => ([20, 100] : List Nat).contains t)) (by intro t h; simp [rng] at h ⊢ <;> omega) rfl rfl
     refine dj_next (l' := [(17, .pointer (some ⟨gd_0, 0, none⟩)), (33, v375)]) rfl (.cons rfl (.cons rfl (.nil _))) jt374 (by intro t h; simp [rng] at h ⊢ <;> omega) rfl rfl ?_
     refine dj_H 17 (v := .pointer (some ⟨gd_0, 0, none⟩)) (by kernel_rfl) (by kernel_rfl) rfl (fun _ _ _ h => h) (sj_refl hb.bd rfl rfl) (fun w1 ρ1 hw1 => ev_nilCheck rfl) (by decide) ?_
     refine dj_H 18 (v := .pointer (some ⟨gd_0, 1, none⟩)) (by kernel_rfl) (by kernel_rfl) rfl (fun _ _ _ h => h) (sj_refl hb.bd rfl rfl) (fun w1 ρ1 hw1 => ev_fieldAddr (i := 1) Try.underlying57 rfl Try.info55 rfl rfl) (by decide) ?_
     refine dj_E 19 (by kernel_rfl) rfl ?_
     have jt380 : Tr ρ377 w378 (fun t => ([20, 100] : List Nat).contains t) ρ377 w378 := (Tr.refl hb.bd).weak (fun _ _ => rfl) rfl rfl
     refine sr_storeT (v := v375) (vs := [v375]) (cs' := #[.bool d_0.made, v375]) hB3 (by decide) hb.bd rfl rfl (one_cells (OwnT.oneCell h376)) Try.sizeOf55 rfl (by first | rfl | (simp only [List.all_cons, List.all_nil, OwnT.oneCell h376]; done) | (simp only [List.all_cons, List.all_nil, OwnT.oneCell h376]; rfl)) rfl ?_
     intro w381 hB31 htr382
     replace h376 := h376.mv (htr382.mv (i := 20) rfl) (by decide)
     replace hb := hb.trans htr382
     replace jt380 := (jt380.trans htr382).weak (J' := (fun t => ([20, 100] : List Nat).contains t)) (by intro t h; simp [rng] at h ⊢ <;> omega) rfl rfl
     replace hB3 : Blk ρ377 100 w381 gd_0 (.cells #[.bool d_0.made, v375] 57 (0, 0)) := hB31
     clear hB31
     refine dj_next (l' := []) rfl (.nil _) jt380 (by intro t h; simp [rng] at h ⊢ <;> omega) rfl rfl ?_
     refine dj_done rfl (by kernel_rfl) ?_
     refine ke_weaken (l' := []) (.nil _) ?_
     have hK := ref35_Delegations_Revoke_B1_ok hg hbd ho2 hz hS hb h376 hB3
     exact ke_weaken (l' := []) (.nil _) hK
   ·refine ⟨_, rfl, ?_⟩
    have jt383 : Tr (enter ρA o 2) w17 (fun t => ([20, 100] : List Nat).contains t) (enter ρA o 2) w17 := (Tr.refl hb.bd).weak (fun _ _ => rfl) rfl rfl
    refine sr_ev (v := v1) (ev_load Try.isAgg55 rfl (hB3.cell rfl)) (by decide) ?_
    refine dj_next (l' := [(17, .pointer (some ⟨gd_0, 0, none⟩)), (22, v1), (23, .int .i64 y10), (28, .pointer (some ⟨gd_0, 1, none⟩)), (31, .int .i64 (IntKind.i64.wrap (y10 + 1)))]) rfl (.cons rfl (.cons rfl (.cons rfl (.cons rfl (.cons rfl (.nil _)))))) jt383 (by intro t h; simp [rng] at h ⊢ <;> omega) rfl rfl ?_
    obtain ⟨v384, h385, hq386⟩ := (h2.sl).cutT_h (P := Try.prog) Try.underlying55 Try.info65 rfl hk284
    refine dj_H 7 (v := v384) (by kernel_rfl) (by kernel_rfl) rfl (fun _ _ _ h => h) (sj_refl hb.bd rfl rfl) (fun w1 ρ1 hw1 => hq386 w1 rfl rfl) (by decide) ?_
    refine dj_all [1, 12] (by kernel_rfl) (fun i hi => ?_)
    simp only [List.mem_cons, List.not_mem_nil, or_false] at hi
    rcases hi with rfl | rfl
    ·refine ⟨_, rfl, ?_⟩
     have jt387 : Tr (enter ρA o 2) w17 (fun t => ([20, 100] : List Nat).contains t) (enter ρA o 2) w17 := (Tr.refl hb.bd).weak (fun _ _ => rfl) rfl rfl
     refine sr_litOwnT (i := 20) (c := ref35_one.c) (ρ := (enter ρA o 2)) (E := 65) (xs := []) (vs := #[]) (cs := #[]) (css := []) rfl (fun _ => by kernel_rfl) rfl trivial rfl (by decide) (by decide) hb.bd (by decide) ?_
     intro v388 ρ392 w390 h389 htr391
     replace h385 := h385.mv (htr391.mv (i := 101) rfl)
     replace hB3 := hB3.mv (htr391.mv (i := 100) rfl)
     replace h2 := h2.mv (htr391.mv (i := 101) rfl) (by decide)
     replace hb := hb.trans htr391
     replace jt387 := (jt387.trans htr391).weak (J' := (fun t => ([20, 100] : List Nat).contains t)) (by intro t h; simp [rng] at h ⊢ <;> omega) rfl rfl
     refine dj_next (l' := [(17, .pointer (some ⟨gd_0, 0, none⟩)), (18, v388), (24, v384), (28, .pointer (some ⟨gd_0, 1, none⟩)), (31, .int .i64 (IntKind.i64.wrap (y10 + 1)))]) rfl (.cons rfl (.cons rfl (.cons rfl (.cons rfl (.cons rfl (.nil _)))))) jt387 (by intro t h; simp [rng] at h ⊢ <;> omega) rfl rfl ?_
     refine dj_all [8, 12] (by kernel_rfl) (fun i hi => ?_)
     simp only [List.mem_cons, List.not_mem_nil, or_false] at hi
     rcases hi with rfl | rfl
     ·refine ⟨_, rfl, ?_⟩
      have jt393 : Tr ρ392 w390 (fun t => ([20, 100] : List Nat).contains t) ρ392 w390 := (Tr.refl hb.bd).weak (fun _ _ => rfl) rfl rfl
      refine sr_appendT (i := 20) (c := ref35_one.c) (ρ := ρ392) (E := 65) (xs := ([] : List ref35_one)) (ys := cut d_0.l 0 y10) h389 (h385).x Try.underlying55 Try.info65 rfl rfl rfl (by decide) (by decide) (by decide) hb.bd hk289 rfl rfl (by decide) ?_
      intro v394 ρ396 w397 h395 htr398
      replace hB3 := hB3.mv (htr398.mv (i := 100) rfl)
      replace h2 := h2.mv (htr398.mv (i := 101) rfl) (by decide)
      replace hb := hb.trans htr398
      replace jt393 := (jt393.trans htr398).weak (J' := (fun t => ([20, 100] : List Nat).contains t)) (by intro t h; simp [rng] at h ⊢ <;> omega) rfl rfl
      refine dj_next (l' := [(17, .pointer (some ⟨gd_0, 0, none⟩)), (25, v394), (28, .pointer (some ⟨gd_0, 1, none⟩)), (31, .int .i64 (IntKind.i64.wrap (y10 + 1)))]) rfl (.cons rfl (.cons rfl (.cons rfl (.cons rfl (.nil _))))) jt393 (by intro t h; simp [rng] at h ⊢ <;> omega) rfl rfl ?_
      refine dj_E 12 (by kernel_rfl) rfl ?_
      have jt399 : Tr ρ396 w397 (fun t => ([20, 100] : List Nat).contains t) ρ396 w397 := (Tr.refl hb.bd).weak (fun _ _ => rfl) rfl rfl
      refine sr_ev (v := v1) (ev_load Try.isAgg55 rfl (hB3.cell rfl)) (by decide) ?_
      refine dj_next (l' := [(17, .pointer (some ⟨gd_0, 0, none⟩)), (25, v394), (29, v1), (31, .int .i64 (IntKind.i64.wrap (y10 + 1)))]) rfl (.cons rfl (.cons rfl (.cons rfl (.cons rfl (.nil _))))) jt399 (by intro t h; simp [rng] at h ⊢ <;> omega) rfl rfl ?_
      obtain ⟨v400, h401, hq402⟩ := (h2.sl).cutT_l (P := Try.prog) Try.underlying55 Try.info65 rfl hk296
      refine dj_H 15 (v := v400) (by kernel_rfl) (by kernel_rfl) rfl (fun _ _ _ h => h) (sj_refl hb.bd rfl rfl) (fun w1 ρ1 hw1 => hq402 w1 rfl rfl) (by decide) ?_
      refine dj_E 16 (by kernel_rfl) rfl ?_
      have jt403 : Tr ρ396 w397 (fun t => ([20, 100] : List Nat).contains t) ρ396 w397 := (Tr.refl hb.bd).weak (fun _ _ => rfl) rfl rfl
      refine sr_appendT (i := 20) (c := ref35_one.c) (ρ := ρ396) (E := 65) (xs := ([] : List ref35_one) ++ (cut d_0.l 0 y10)) (ys := cut d_0.l (IntKind.i64.wrap (y10 + 1)) d_0.l.length) h395 (h401).x Try.underlying55 Try.info65 rfl rfl rfl (by decide) (by decide) (by decide) hb.bd hk301 rfl rfl (by decide) ?_
      intro v404 ρ406 w407 h405 htr408
      replace hB3 := hB3.mv (htr408.mv (i := 100) rfl)
      replace h2 := h2.mv (htr408.mv (i := 101) rfl) (by decide)
      replace hb := hb.trans htr408
      replace jt403 := (jt403.trans htr408).weak (J' := (fun t => ([20, 100] : List Nat).contains t)) (by intro t h; simp [rng] at h ⊢ <;> omega) rfl rfl
      refine dj_next (l' := [(17, .pointer (some ⟨gd_0, 0, none⟩)), (33, v404)]) rfl (.cons rfl (.cons rfl (.nil _))) jt403 (by intro t h; simp [rng] at h ⊢ <;> omega) rfl rfl ?_
      refine dj_H 17 (v := .pointer (some ⟨gd_0, 0, none⟩)) (by kernel_rfl) (by kernel_rfl) rfl (fun _ _ _ h => h) (sj_refl hb.bd rfl rfl) (fun w1 ρ1 hw1 => ev_nilCheck rfl) (by decide) ?_
      refine dj_H 18 (v := .pointer (some ⟨gd_0, 1, none⟩)) (by kernel_rfl) (by kernel_rfl) rfl (fun _ _ _ h => h) (sj_refl hb.bd rfl rfl) (fun w1 ρ1 hw1 => ev_fieldAddr (i := 1) Try.underlying57 rfl Try.info55 rfl rfl) (by decide) ?_
      refine dj_E 19 (by kernel_rfl) rfl ?_
      have jt409 : Tr ρ406 w407 (fun t => ([20, 100] : List Nat).contains t) ρ406 w407 := (Tr.refl hb.bd).weak (fun _ _ => rfl) rfl rfl
      refine sr_storeT (v := v404) (vs := [v404]) (cs' := #[.bool d_0.made, v404]) hB3 (by decide) hb.bd rfl rfl (one_cells (OwnT.oneCell h405)) Try.sizeOf55 rfl (by first | rfl | (simp only [List.all_cons, List.all_nil, OwnT.oneCell h405]; done) | (simp only [List.all_cons, List.all_nil, OwnT.oneCell h405]; rfl)) rfl ?_
      intro w410 hB31 htr411
      replace h405 := h405.mv (htr411.mv (i := 20) rfl) (by decide)
      replace hb := hb.trans htr411
      replace jt409 := (jt409.trans htr411).weak (J' := (fun t => ([20, 100] : List Nat).contains t)) (by intro t h; simp [rng] at h ⊢ <;> omega) rfl rfl
      replace hB3 : Blk ρ406 100 w410 gd_0 (.cells #[.bool d_0.made, v404] 57 (0, 0)) := hB31
      clear hB31
      refine dj_next (l' := []) rfl (.nil _) jt409 (by intro t h; simp [rng] at h ⊢ <;> omega) rfl rfl ?_
      refine dj_done rfl (by kernel_rfl) ?_
      refine ke_weaken (l' := []) (.nil _) ?_
      have hK := ref35_Delegations_Revoke_B1_ok hg hbd ho2 hz hS hb h405 hB3
      exact ke_weaken (l' := []) (.nil _) hK
     ·refine ⟨_, rfl, ?_⟩
      have jt412 : Tr ρ392 w390 (fun t => ([20, 100] : List Nat).contains t) ρ392 w390 := (Tr.refl hb.bd).weak (fun _ _ => rfl) rfl rfl
      refine sr_ev (v := v1) (ev_load Try.isAgg55 rfl (hB3.cell rfl)) (by decide) ?_
      refine dj_next (l' := [(17, .pointer (some ⟨gd_0, 0, none⟩)), (18, v388), (24, v384), (29, v1), (31, .int .i64 (IntKind.i64.wrap (y10 + 1)))]) rfl (.cons rfl (.cons rfl (.cons rfl (.cons rfl (.cons rfl (.nil _)))))) jt412 (by intro t h; simp [rng] at h ⊢ <;> omega) rfl rfl ?_
      obtain ⟨v413, h414, hq415⟩ := (h2.sl).cutT_l (P := Try.prog) Try.underlying55 Try.info65 rfl hk296
      refine dj_H 15 (v := v413) (by kernel_rfl) (by kernel_rfl) rfl (fun _ _ _ h => h) (sj_refl hb.bd rfl rfl) (fun w1 ρ1 hw1 => hq415 w1 rfl rfl) (by decide) ?_
      refine dj_E 8 (by kernel_rfl) rfl ?_
      have jt416 : Tr ρ392 w390 (fun t => ([20, 100] : List Nat).contains t) ρ392 w390 := (Tr.refl hb.bd).weak (fun _ _ => rfl) rfl rfl
      refine sr_appendT (i := 20) (c := ref35_one.c) (ρ := ρ392) (E := 65) (xs := ([] : List ref35_one)) (ys := cut d_0.l 0 y10) h389 (h385).x Try.underlying55 Try.info65 rfl rfl rfl (by decide) (by decide) (by decide) hb.bd hk289 rfl rfl (by decide) ?_
      intro v417 ρ419 w420 h418 htr421
      replace h414 := h414.mv (htr421.mv (i := 101) rfl)
      replace hB3 := hB3.mv (htr421.mv (i := 100) rfl)
      replace h2 := h2.mv (htr421.mv (i := 101) rfl) (by decide)
      replace hb := hb.trans htr421
      replace jt416 := (jt416.trans htr421).weak (J' := (fun t => ([20, 100] : List Nat).contains t)) (by intro t h; simp [rng] at h ⊢ <;> omega) rfl rfl
      refine dj_next (l' := [(17, .pointer (some ⟨gd_0, 0, none⟩)), (25, v417), (32, v413)]) rfl (.cons rfl (.cons rfl (.cons rfl (.nil _)))) jt416 (by intro t h; simp [rng] at h ⊢ <;> omega) rfl rfl ?_
      refine dj_E 16 (by kernel_rfl) rfl ?_
      have jt422 : Tr ρ419 w420 (fun t => ([20, 100] : List Nat).contains t) ρ419 w420 := (Tr.refl hb.bd).weak (fun _ _ => rfl) rfl rfl
      refine sr_appendT (i := 20) (c := ref35_one.c) (ρ := ρ419) (E := 65) (xs := ([] : List ref35_one) ++ (cut d_0.l 0 y10)) (ys := cut d_0.l (IntKind.i64.wrap (y10 + 1)) d_0.l.length) h418 (h414).x Try.underlying55 Try.info65 rfl rfl rfl (by decide) (by decide) (by decide) hb.bd hk301 rfl rfl (by decide) ?_
      intro v423 ρ425 w426 h424 htr427
      replace hB3 := hB3.mv (htr427.mv (i := 100) rfl)
      replace h2 := h2.mv (htr427.mv (i := 101) rfl) (by decide)
      replace hb := hb.trans htr427
      replace jt422 := (jt422.trans htr427).weak (J' := (fun t => ([20, 100] : List Nat).contains t)) (by intro t h; simp [rng] at h ⊢ <;> omega) rfl rfl
      refine dj_next (l' := [(17, .pointer (some ⟨gd_0, 0, none⟩)), (33, v423)]) rfl (.cons rfl (.cons rfl (.nil _))) jt422 (by intro t h; simp [rng] at h ⊢ <;> omega) rfl rfl ?_
      refine dj_H 17 (v := .pointer (some ⟨gd_0, 0, none⟩)) (by kernel_rfl) (by kernel_rfl) rfl (fun _ _ _ h => h) (sj_refl hb.bd rfl rfl) (fun w1 ρ1 hw1 => ev_nilCheck rfl) (by decide) ?_
      refine dj_H 18 (v := .pointer (some ⟨gd_0, 1, none⟩)) (by kernel_rfl) (by kernel_rfl) rfl (fun _ _ _ h => h) (sj_refl hb.bd rfl rfl) (fun w1 ρ1 hw1 => ev_fieldAddr (i := 1) Try.underlying57 rfl Try.info55 rfl rfl) (by decide) ?_
      refine dj_E 19 (by kernel_rfl) rfl ?_
      have jt428 : Tr ρ425 w426 (fun t => ([20, 100] : List Nat).contains t) ρ425 w426 := (Tr.refl hb.bd).weak (fun _ _ => rfl) rfl rfl
      refine sr_storeT (v := v423) (vs := [v423]) (cs' := #[.bool d_0.made, v423]) hB3 (by decide) hb.bd rfl rfl (one_cells (OwnT.oneCell h424)) Try.sizeOf55 rfl (by first | rfl | (simp only [List.all_cons, List.all_nil, OwnT.oneCell h424]; done) | (simp only [List.all_cons, List.all_nil, OwnT.oneCell h424]; rfl)) rfl ?_
      intro w429 hB31 htr430
      replace h424 := h424.mv (htr430.mv (i := 20) rfl) (by decide)
      replace hb := hb.trans htr430
      replace jt428 := (jt428.trans htr430).weak (J' := (fun t => ([20, 100] : List Nat).contains t)) (by intro t h; simp [rng] at h ⊢ <;> omega) rfl rfl
      replace hB3 : Blk ρ425 100 w429 gd_0 (.cells #[.bool d_0.made, v423] 57 (0, 0)) := hB31
      clear hB31
      refine dj_next (l' := []) rfl (.nil _) jt428 (by intro t h; simp [rng] at h ⊢ <;> omega) rfl rfl ?_
      refine dj_done rfl (by kernel_rfl) ?_
      refine ke_weaken (l' := []) (.nil _) ?_
      have hK := ref35_Delegations_Revoke_B1_ok hg hbd ho2 hz hS hb h424 hB3
      exact ke_weaken (l' := []) (.nil _) hK
    ·refine ⟨_, rfl, ?_⟩
     have jt431 : Tr (enter ρA o 2) w17 (fun t => ([20, 100] : List Nat).contains t) (enter ρA o 2) w17 := (Tr.refl hb.bd).weak (fun _ _ => rfl) rfl rfl
     refine sr_ev (v := v1) (ev_load Try.isAgg55 rfl (hB3.cell rfl)) (by decide) ?_
     refine dj_next (l' := [(17, .pointer (some ⟨gd_0, 0, none⟩)), (24, v384), (29, v1), (31, .int .i64 (IntKind.i64.wrap (y10 + 1)))]) rfl (.cons rfl (.cons rfl (.cons rfl (.cons rfl (.nil _))))) jt431 (by intro t h; simp [rng] at h ⊢ <;> omega) rfl rfl ?_
     obtain ⟨v432, h433, hq434⟩ := (h2.sl).cutT_l (P := Try.prog) Try.underlying55 Try.info65 rfl hk296
     refine dj_H 15 (v := v432) (by kernel_rfl) (by kernel_rfl) rfl (fun _ _ _ h => h) (sj_refl hb.bd rfl rfl) (fun w1 ρ1 hw1 => hq434 w1 rfl rfl) (by decide) ?_
     refine dj_E 1 (by kernel_rfl) rfl ?_
     have jt435 : Tr (enter ρA o 2) w17 (fun t => ([20, 100] : List Nat).contains t) (enter ρA o 2) w17 := (Tr.refl hb.bd).weak (fun _ _ => rfl) rfl rfl
     refine sr_litOwnT (i := 20) (c := ref35_one.c) (ρ := (enter ρA o 2)) (E := 65) (xs := []) (vs := #[]) (cs := #[]) (css := []) rfl (fun _ => by kernel_rfl) rfl trivial rfl (by decide) (by decide) hb.bd (by decide) ?_
     intro v436 ρ440 w438 h437 htr439
     replace h385 := h385.mv (htr439.mv (i := 101) rfl)
     replace h433 := h433.mv (htr439.mv (i := 101) rfl)
     replace hB3 := hB3.mv (htr439.mv (i := 100) rfl)
     replace h2 := h2.mv (htr439.mv (i := 101) rfl) (by decide)
     replace hb := hb.trans htr439
     replace jt435 := (jt435.trans htr439).weak (J' := (fun t => ([20, 100] : List Nat).contains t)) (by intro t h; simp [rng] at h ⊢ <;> omega) rfl rfl
     refine dj_next (l' := [(17, .pointer (some ⟨gd_0, 0, none⟩)), (18, v436), (24, v384), (32, v432)]) rfl (.cons rfl (.cons rfl (.cons rfl (.cons rfl (.nil _))))) jt435 (by intro t h; simp [rng] at h ⊢ <;> omega) rfl rfl ?_
     refine dj_E 8 (by kernel_rfl) rfl ?_
     have jt441 : Tr ρ440 w438 (fun t => ([20, 100] : List Nat).contains t) ρ440 w438 := (Tr.refl hb.bd).weak (fun _ _ => rfl) rfl rfl
     refine sr_appendT (i := 20) (c := ref35_one.c) (ρ := ρ440) (E := 65) (xs := ([] : List ref35_one)) (ys := cut d_0.l 0 y10) h437 (h385).x Try.underlying55 Try.info65 rfl rfl rfl (by decide) (by decide) (by decide) hb.bd hk289 rfl rfl (by decide) ?_
     intro v442 ρ444 w445 h443 htr446
     replace h433 := h433.mv (htr446.mv (i := 101) rfl)
     replace hB3 := hB3.mv (htr446.mv (i := 100) rfl)
     replace h2 := h2.mv (htr446.mv (i := 101) rfl) (by decide)
     replace hb := hb.trans htr446
     replace jt441 := (jt441.trans htr446).weak (J' := (fun t => ([20, 100] : List Nat).contains t)) (by intro t h; simp [rng] at h ⊢ <;> omega) rfl rfl
     refine dj_next (l' := [(17, .pointer (some ⟨gd_0, 0, none⟩)), (25, v442), (32, v432)]) rfl (.cons rfl (.cons rfl (.cons rfl (.nil _)))) jt441 (by intro t h; simp [rng] at h ⊢ <;> omega) rfl rfl ?_
     refine dj_E 16 (by kernel_rfl) rfl ?_
     have jt447 : Tr ρ444 w445 (fun t => ([20, 100] : List Nat).contains t) ρ444 w445 := (Tr.refl hb.bd).weak (fun _ _ => rfl) rfl rfl
     refine sr_appendT (i := 20) (c := ref35_one.c) (ρ := ρ444) (E := 65) (xs := ([] : List ref35_one) ++ (cut d_0.l 0 y10)) (ys := cut d_0.l (IntKind.i64.wrap (y10 + 1)) d_0.l.length) h443 (h433).x Try.underlying55 Try.info65 rfl rfl rfl (by decide) (by decide) (by decide) hb.bd hk301 rfl rfl (by decide) ?_
     intro v448 ρ450 w451 h449 htr452
     replace hB3 := hB3.mv (htr452.mv (i := 100) rfl)
     replace h2 := h2.mv (htr452.mv (i := 101) rfl) (by decide)
     replace hb := hb.trans htr452
     replace jt447 := (jt447.trans htr452).weak (J' := (fun t => ([20, 100] : List Nat).contains t)) (by intro t h; simp [rng] at h ⊢ <;> omega) rfl rfl
     refine dj_next (l' := [(17, .pointer (some ⟨gd_0, 0, none⟩)), (33, v448)]) rfl (.cons rfl (.cons rfl (.nil _))) jt447 (by intro t h; simp [rng] at h ⊢ <;> omega) rfl rfl ?_
     refine dj_H 17 (v := .pointer (some ⟨gd_0, 0, none⟩)) (by kernel_rfl) (by kernel_rfl) rfl (fun _ _ _ h => h) (sj_refl hb.bd rfl rfl) (fun w1 ρ1 hw1 => ev_nilCheck rfl) (by decide) ?_
     refine dj_H 18 (v := .pointer (some ⟨gd_0, 1, none⟩)) (by kernel_rfl) (by kernel_rfl) rfl (fun _ _ _ h => h) (sj_refl hb.bd rfl rfl) (fun w1 ρ1 hw1 => ev_fieldAddr (i := 1) Try.underlying57 rfl Try.info55 rfl rfl) (by decide) ?_
     refine dj_E 19 (by kernel_rfl) rfl ?_
     have jt453 : Tr ρ450 w451 (fun t => ([20, 100] : List Nat).contains t) ρ450 w451 := (Tr.refl hb.bd).weak (fun _ _ => rfl) rfl rfl
     refine sr_storeT (v := v448) (vs := [v448]) (cs' := #[.bool d_0.made, v448]) hB3 (by decide) hb.bd rfl rfl (one_cells (OwnT.oneCell h449)) Try.sizeOf55 rfl (by first | rfl | (simp only [List.all_cons, List.all_nil, OwnT.oneCell h449]; done) | (simp only [List.all_cons, List.all_nil, OwnT.oneCell h449]; rfl)) rfl ?_
     intro w454 hB31 htr455
     replace h449 := h449.mv (htr455.mv (i := 20) rfl) (by decide)
     replace hb := hb.trans htr455
     replace jt453 := (jt453.trans htr455).weak (J' := (fun t => ([20, 100] : List Nat).contains t)) (by intro t h; simp [rng] at h ⊢ <;> omega) rfl rfl
     replace hB3 : Blk ρ450 100 w454 gd_0 (.cells #[.bool d_0.made, v448] 57 (0, 0)) := hB31
     clear hB31
     refine dj_next (l' := []) rfl (.nil _) jt453 (by intro t h; simp [rng] at h ⊢ <;> omega) rfl rfl ?_
     refine dj_done rfl (by kernel_rfl) ?_
     refine ke_weaken (l' := []) (.nil _) ?_
     have hK := ref35_Delegations_Revoke_B1_ok hg hbd ho2 hz hS hb h449 hB3
     exact ke_weaken (l' := []) (.nil _) hK
   ·refine ⟨_, rfl, ?_⟩
    have jt456 : Tr (enter ρA o 2) w17 (fun t => ([20, 100] : List Nat).contains t) (enter ρA o 2) w17 := (Tr.refl hb.bd).weak (fun _ _ => rfl) rfl rfl
    refine sr_ev (v := v1) (ev_load Try.isAgg55 rfl (hB3.cell rfl)) (by decide) ?_
    refine dj_next (l' := [(17, .pointer (some ⟨gd_0, 0, none⟩)), (21, .pointer (some ⟨gd_0, 1, none⟩)), (23, .int .i64 y10), (29, v1), (31, .int .i64 (IntKind.i64.wrap (y10 + 1)))]) rfl (.cons rfl (.cons rfl (.cons rfl (.cons rfl (.cons rfl (.nil _)))))) jt456 (by intro t h; simp [rng] at h ⊢ <;> omega) rfl rfl ?_
    obtain ⟨v457, h458, hq459⟩ := (h2.sl).cutT_l (P := Try.prog) Try.underlying55 Try.info65 rfl hk296
    refine dj_H 15 (v := v457) (by kernel_rfl) (by kernel_rfl) rfl (fun _ _ _ h => h) (sj_refl hb.bd rfl rfl) (fun w1 ρ1 hw1 => hq459 w1 rfl rfl) (by decide) ?_
    refine dj_all [1, 5] (by kernel_rfl) (fun i hi => ?_)
    simp only [List.mem_cons, List.not_mem_nil, or_false] at hi
    rcases hi with rfl | rfl
    ·refine ⟨_, rfl, ?_⟩
     have jt460 : Tr (enter ρA o 2) w17 (fun t => ([20, 100] : List Nat).contains t) (enter ρA o 2) w17 := (Tr.refl hb.bd).weak (fun _ _ => rfl) rfl rfl
     refine sr_litOwnT (i := 20) (c := ref35_one.c) (ρ := (enter ρA o 2)) (E := 65) (xs := []) (vs := #[]) (cs := #[]) (css := []) rfl (fun _ => by kernel_rfl) rfl trivial rfl (by decide) (by decide) hb.bd (by decide) ?_
     intro v461 ρ465 w463 h462 htr464
     replace h458 := h458.mv (htr464.mv (i := 101) rfl)
     replace hB3 := hB3.mv (htr464.mv (i := 100) rfl)
     replace h2 := h2.mv (htr464.mv (i := 101) rfl) (by decide)
     replace hb := hb.trans htr464
     replace jt460 := (jt460.trans htr464).weak (J' := (fun t => ([20, 100] : List Nat).contains t)) (by intro t h; simp [rng] at h ⊢ <;> omega) rfl rfl
     refine dj_next (l' := [(17, .pointer (some ⟨gd_0, 0, none⟩)), (18, v461), (21, .pointer (some ⟨gd_0, 1, none⟩)), (23, .int .i64 y10), (32, v457)]) rfl (.cons rfl (.cons rfl (.cons rfl (.cons rfl (.cons rfl (.nil _)))))) jt460 (by intro t h; simp [rng] at h ⊢ <;> omega) rfl rfl ?_
     refine dj_E 5 (by kernel_rfl) rfl ?_
     have jt466 : Tr ρ465 w463 (fun t => ([20, 100] : List Nat).contains t) ρ465 w463 := (Tr.refl hb.bd).weak (fun _ _ => rfl) rfl rfl
     refine sr_ev (v := v1) (ev_load Try.isAgg55 rfl (hB3.cell rfl)) (by decide) ?_
     refine dj_next (l' := [(17, .pointer (some ⟨gd_0, 0, none⟩)), (18, v461), (22, v1), (23, .int .i64 y10), (32, v457)]) rfl (.cons rfl (.cons rfl (.cons rfl (.cons rfl (.cons rfl (.nil _)))))) jt466 (by intro t h; simp [rng] at h ⊢ <;> omega) rfl rfl ?_
     obtain ⟨v467, h468, hq469⟩ := (h2.sl).cutT_h (P := Try.prog) Try.underlying55 Try.info65 rfl hk284
     refine dj_H 7 (v := v467) (by kernel_rfl) (by kernel_rfl) rfl (fun _ _ _ h => h) (sj_refl hb.bd rfl rfl) (fun w1 ρ1 hw1 => hq469 w1 rfl rfl) (by decide) ?_
     refine dj_E 8 (by kernel_rfl) rfl ?_
     have jt470 : Tr ρ465 w463 (fun t => ([20, 100] : List Nat).contains t) ρ465 w463 := (Tr.refl hb.bd).weak (fun _ _ => rfl) rfl rfl
     refine sr_appendT (i := 20) (c := ref35_one.c) (ρ := ρ465) (E := 65) (xs := ([] : List ref35_one)) (ys := cut d_0.l 0 y10) h462 (h468).x Try.underlying55 Try.info65 rfl rfl rfl (by decide) (by decide) (by decide) hb.bd hk289 rfl rfl (by decide) ?_
     intro v471 ρ473 w474 h472 htr475
     replace h458 := h458.mv (htr475.mv (i := 101) rfl)
     replace hB3 := hB3.mv (htr475.mv (i := 100) rfl)
     replace h2 := h2.mv (htr475.mv (i := 101) rfl) (by decide)
     replace hb := hb.trans htr475
     replace jt470 := (jt470.trans htr475).weak (J' := (fun t => ([20, 100] : List Nat).contains t)) (by intro t h; simp [rng] at h ⊢ <;> omega) rfl rfl
     refine dj_next (l' := [(17, .pointer (some ⟨gd_0, 0, none⟩)), (25, v471), (32, v457)]) rfl (.cons rfl (.cons rfl (.cons rfl (.nil _)))) jt470 (by intro t h; simp [rng] at h ⊢ <;> omega) rfl rfl ?_
     refine dj_E 16 (by kernel_rfl) rfl ?_
     have jt476 : Tr ρ473 w474 (fun t => ([20, 100] : List Nat).contains t) ρ473 w474 := (Tr.refl hb.bd).weak (fun _ _ => rfl) rfl rfl
     refine sr_appendT (i := 20) (c := ref35_one.c) (ρ := ρ473) (E := 65) (xs := ([] : List ref35_one) ++ (cut d_0.l 0 y10)) (ys := cut d_0.l (IntKind.i64.wrap (y10 + 1)) d_0.l.length) h472 (h458).x Try.underlying55 Try.info65 rfl rfl rfl (by decide) (by decide) (by decide) hb.bd hk301 rfl rfl (by decide) ?_
     intro v477 ρ479 w480 h478 htr481
     replace hB3 := hB3.mv (htr481.mv (i := 100) rfl)
     replace h2 := h2.mv (htr481.mv (i := 101) rfl) (by decide)
     replace hb := hb.trans htr481
     replace jt476 := (jt476.trans htr481).weak (J' := (fun t => ([20, 100] : List Nat).contains t)) (by intro t h; simp [rng] at h ⊢ <;> omega) rfl rfl
     refine dj_next (l' := [(17, .pointer (some ⟨gd_0, 0, none⟩)), (33, v477)]) rfl (.cons rfl (.cons rfl (.nil _))) jt476 (by intro t h; simp [rng] at h ⊢ <;> omega) rfl rfl ?_
     refine dj_H 17 (v := .pointer (some ⟨gd_0, 0, none⟩)) (by kernel_rfl) (by kernel_rfl) rfl (fun _ _ _ h => h) (sj_refl hb.bd rfl rfl) (fun w1 ρ1 hw1 => ev_nilCheck rfl) (by decide) ?_
     refine dj_H 18 (v := .pointer (some ⟨gd_0, 1, none⟩)) (by kernel_rfl) (by kernel_rfl) rfl (fun _ _ _ h => h) (sj_refl hb.bd rfl rfl) (fun w1 ρ1 hw1 => ev_fieldAddr (i := 1) Try.underlying57 rfl Try.info55 rfl rfl) (by decide) ?_
     refine dj_E 19 (by kernel_rfl) rfl ?_
     have jt482 : Tr ρ479 w480 (fun t => ([20, 100] : List Nat).contains t) ρ479 w480 := (Tr.refl hb.bd).weak (fun _ _ => rfl) rfl rfl
     refine sr_storeT (v := v477) (vs := [v477]) (cs' := #[.bool d_0.made, v477]) hB3 (by decide) hb.bd rfl rfl (one_cells (OwnT.oneCell h478)) Try.sizeOf55 rfl (by first | rfl | (simp only [List.all_cons, List.all_nil, OwnT.oneCell h478]; done) | (simp only [List.all_cons, List.all_nil, OwnT.oneCell h478]; rfl)) rfl ?_
     intro w483 hB31 htr484
     replace h478 := h478.mv (htr484.mv (i := 20) rfl) (by decide)
     replace hb := hb.trans htr484
     replace jt482 := (jt482.trans htr484).weak (J' := (fun t => ([20, 100] : List Nat).contains t)) (by intro t h; simp [rng] at h ⊢ <;> omega) rfl rfl
     replace hB3 : Blk ρ479 100 w483 gd_0 (.cells #[.bool d_0.made, v477] 57 (0, 0)) := hB31
     clear hB31
     refine dj_next (l' := []) rfl (.nil _) jt482 (by intro t h; simp [rng] at h ⊢ <;> omega) rfl rfl ?_
     refine dj_done rfl (by kernel_rfl) ?_
     refine ke_weaken (l' := []) (.nil _) ?_
     have hK := ref35_Delegations_Revoke_B1_ok hg hbd ho2 hz hS hb h478 hB3
     exact ke_weaken (l' := []) (.nil _) hK
    ·refine ⟨_, rfl, ?_⟩
     have jt485 : Tr (enter ρA o 2) w17 (fun t => ([20, 100] : List Nat).contains t) (enter ρA o 2) w17 := (Tr.refl hb.bd).weak (fun _ _ => rfl) rfl rfl
     refine sr_ev (v := v1) (ev_load Try.isAgg55 rfl (hB3.cell rfl)) (by decide) ?_
     refine dj_next (l' := [(17, .pointer (some ⟨gd_0, 0, none⟩)), (22, v1), (23, .int .i64 y10), (32, v457)]) rfl (.cons rfl (.cons rfl (.cons rfl (.cons rfl (.nil _))))) jt485 (by intro t h; simp [rng] at h ⊢ <;> omega) rfl rfl ?_
     obtain ⟨v486, h487, hq488⟩ := (h2.sl).cutT_h (P := Try.prog) Try.underlying55 Try.info65 rfl hk284
     refine dj_H 7 (v := v486) (by kernel_rfl) (by kernel_rfl) rfl (fun _ _ _ h => h) (sj_refl hb.bd rfl rfl) (fun w1 ρ1 hw1 => hq488 w1 rfl rfl) (by decide) ?_
     refine dj_E 1 (by kernel_rfl) rfl ?_
     have jt489 : Tr (enter ρA o 2) w17 (fun t => ([20, 100] : List Nat).contains t) (enter ρA o 2) w17 := (Tr.refl hb.bd).weak (fun _ _ => rfl) rfl rfl
     refine sr_litOwnT (i := 20) (c := ref35_one.c) (ρ := (enter ρA o 2)) (E := 65) (xs := []) (vs := #[]) (cs := #[]) (css := []) rfl (fun _ => by kernel_rfl) rfl trivial rfl (by decide) (by decide) hb.bd (by decide) ?_
     intro v490 ρ494 w492 h491 htr493
     replace h458 := h458.mv (htr493.mv (i := 101) rfl)
     replace h487 := h487.mv (htr493.mv (i := 101) rfl)
     replace hB3 := hB3.mv (htr493.mv (i := 100) rfl)
     replace h2 := h2.mv (htr493.mv (i := 101) rfl) (by decide)
     replace hb := hb.trans htr493
     replace jt489 := (jt489.trans htr493).weak (J' := (fun t => ([20, 100] : List Nat).contains t)) (by intro t h; simp [rng] at h ⊢ <;> omega) rfl rfl
     refine dj_next (l' := [(17, .pointer (some ⟨gd_0, 0, none⟩)), (18, v490), (24, v486), (32, v457)]) rfl (.cons rfl (.cons rfl (.cons rfl (.cons rfl (.nil _))))) jt489 (by intro t h; simp [rng] at h ⊢ <;> omega) rfl rfl ?_
     refine dj_E 8 (by kernel_rfl) rfl ?_
     have jt495 : Tr ρ494 w492 (fun t => ([20, 100] : List Nat).contains t) ρ494 w492 := (Tr.refl hb.bd).weak (fun _ _ => rfl) rfl rfl
     refine sr_appendT (i := 20) (c := ref35_one.c) (ρ := ρ494) (E := 65) (xs := ([] : List ref35_one)) (ys := cut d_0.l 0 y10) h491 (h487).x Try.underlying55 Try.info65 rfl rfl rfl (by decide) (by decide) (by decide) hb.bd hk289 rfl rfl (by decide) ?_
     intro v496 ρ498 w499 h497 htr500
     replace h458 := h458.mv (htr500.mv (i := 101) rfl)
     replace hB3 := hB3.mv (htr500.mv (i := 100) rfl)
     replace h2 := h2.mv (htr500.mv (i := 101) rfl) (by decide)
     replace hb := hb.trans htr500
     replace jt495 := (jt495.trans htr500).weak (J' := (fun t => ([20, 100] : List Nat).contains t)) (by intro t h; simp [rng] at h ⊢ <;> omega) rfl rfl
     refine dj_next (l' := [(17, .pointer (some ⟨gd_0, 0, none⟩)), (25, v496), (32, v457)]) rfl (.cons rfl (.cons rfl (.cons rfl (.nil _)))) jt495 (by intro t h; simp [rng] at h ⊢ <;> omega) rfl rfl ?_
     refine dj_E 16 (by kernel_rfl) rfl ?_
     have jt501 : Tr ρ498 w499 (fun t => ([20, 100] : List Nat).contains t) ρ498 w499 := (Tr.refl hb.bd).weak (fun _ _ => rfl) rfl rfl
     refine sr_appendT (i := 20) (c := ref35_one.c) (ρ := ρ498) (E := 65) (xs := ([] : List ref35_one) ++ (cut d_0.l 0 y10)) (ys := cut d_0.l (IntKind.i64.wrap (y10 + 1)) d_0.l.length) h497 (h458).x Try.underlying55 Try.info65 rfl rfl rfl (by decide) (by decide) (by decide) hb.bd hk301 rfl rfl (by decide) ?_
     intro v502 ρ504 w505 h503 htr506
     replace hB3 := hB3.mv (htr506.mv (i := 100) rfl)
     replace h2 := h2.mv (htr506.mv (i := 101) rfl) (by decide)
     replace hb := hb.trans htr506
     replace jt501 := (jt501.trans htr506).weak (J' := (fun t => ([20, 100] : List Nat).contains t)) (by intro t h; simp [rng] at h ⊢ <;> omega) rfl rfl
     refine dj_next (l' := [(17, .pointer (some ⟨gd_0, 0, none⟩)), (33, v502)]) rfl (.cons rfl (.cons rfl (.nil _))) jt501 (by intro t h; simp [rng] at h ⊢ <;> omega) rfl rfl ?_
     refine dj_H 17 (v := .pointer (some ⟨gd_0, 0, none⟩)) (by kernel_rfl) (by kernel_rfl) rfl (fun _ _ _ h => h) (sj_refl hb.bd rfl rfl) (fun w1 ρ1 hw1 => ev_nilCheck rfl) (by decide) ?_
     refine dj_H 18 (v := .pointer (some ⟨gd_0, 1, none⟩)) (by kernel_rfl) (by kernel_rfl) rfl (fun _ _ _ h => h) (sj_refl hb.bd rfl rfl) (fun w1 ρ1 hw1 => ev_fieldAddr (i := 1) Try.underlying57 rfl Try.info55 rfl rfl) (by decide) ?_
     refine dj_E 19 (by kernel_rfl) rfl ?_
     have jt507 : Tr ρ504 w505 (fun t => ([20, 100] : List Nat).contains t) ρ504 w505 := (Tr.refl hb.bd).weak (fun _ _ => rfl) rfl rfl
     refine sr_storeT (v := v502) (vs := [v502]) (cs' := #[.bool d_0.made, v502]) hB3 (by decide) hb.bd rfl rfl (one_cells (OwnT.oneCell h503)) Try.sizeOf55 rfl (by first | rfl | (simp only [List.all_cons, List.all_nil, OwnT.oneCell h503]; done) | (simp only [List.all_cons, List.all_nil, OwnT.oneCell h503]; rfl)) rfl ?_
     intro w508 hB31 htr509
     replace h503 := h503.mv (htr509.mv (i := 20) rfl) (by decide)
     replace hb := hb.trans htr509
     replace jt507 := (jt507.trans htr509).weak (J' := (fun t => ([20, 100] : List Nat).contains t)) (by intro t h; simp [rng] at h ⊢ <;> omega) rfl rfl
     replace hB3 : Blk ρ504 100 w508 gd_0 (.cells #[.bool d_0.made, v502] 57 (0, 0)) := hB31
     clear hB31
     refine dj_next (l' := []) rfl (.nil _) jt507 (by intro t h; simp [rng] at h ⊢ <;> omega) rfl rfl ?_
     refine dj_done rfl (by kernel_rfl) ?_
     refine ke_weaken (l' := []) (.nil _) ?_
     have hK := ref35_Delegations_Revoke_B1_ok hg hbd ho2 hz hS hb h503 hB3
     exact ke_weaken (l' := []) (.nil _) hK
theorem ref35_Delegations_Drop_B2_ok {w0 : World} (hg : Gs w0) {ρA : Tags} (hbd : ∀ b, ρA b ≠ 0 → b < w0.heap.size) {o : Nat} (ho2 : 2 ≤ o) {gd_0 : Nat} (hz : Gz (enter ρA o 2)) (r0 : ref35_Delegations → Str → List ref35_one → Int → Option (Int × ref35_Delegations))
  (hr0 : ∀ {r : Int × ref35_Delegations} {od_0 : ref35_Delegations} {user_1 : Str} {left_5 : List ref35_one} {i_6 : Int} {vleft_5 : Value}, r0 od_0 user_1 left_5 i_6 = some r → ∀ {ρ : Tags} {w : World}, (Fr (enter ρA o 2) w0 ρ w) → (ref35_Delegations.O (fun p => 100 + p) ρ w gd_0 od_0) → (OwnT ref35_one.c 65 ρ 7 w vleft_5 left_5) → KE Try.prog 32 (Ret (fun v w' => ∃ ρ', v = .int .i64 r.1 ∧ ref35_Delegations.O (fun p => o + p) ρ' w' gd_0 r.2 ∧ Tr ρA w0 (rng o 2) ρ' w')) 65 [.inLoop (sub (bodyOf Try.f32) [2, 2, 2, 1, 2, 2, 1]), .inBlock 0, .code (sub (bodyOf Try.f32) [2, 2, 2, 2])] [(0, .pointer (some ⟨gd_0, 0, none⟩)), (1, str user_1), (5, vleft_5), (6, .int .i64 i_6)] w) {r : Int × ref35_Delegations} {od_0 : ref35_Delegations} {user_1 : Str} {left_5 : List ref35_one} {i_6 : Int} {vleft_5 : Value} (hS : ref35_Delegations_Drop_B2 r0 od_0 user_1 left_5 i_6 = some r) {ρ : Tags} {w : World} (hb : Fr (enter ρA o 2) w0 ρ w) (hod_0 : ref35_Delegations.O (fun p => 100 + p) ρ w gd_0 od_0) (hleft_5 : OwnT ref35_one.c 65 ρ 7 w vleft_5 left_5) :
  KE Try.prog 32 (Ret (fun v w' => ∃ ρ', v = .int .i64 r.1 ∧ ref35_Delegations.O (fun p => o + p) ρ' w' gd_0 r.2 ∧ Tr ρA w0 (rng o 2) ρ' w')) 65 [.inBlock 1, .code (sub (bodyOf Try.f32) [2, 2, 2, 1, 2, 2, 1, 2, 2]), .inLoop (sub (bodyOf Try.f32) [2, 2, 2, 1, 2, 2, 1]), .inBlock 0, .code (sub (bodyOf Try.f32) [2, 2, 2, 2])] [(0, .pointer (some ⟨gd_0, 0, none⟩)), (1, str user_1), (5, vleft_5), (6, .int .i64 i_6)] w := by
 unfold ref35_Delegations_Drop_B2 at hS
 obtain ⟨v67, hB69, h68⟩ := hod_0
 replace hB69 : Blk ρ 100 w gd_0 (.cells #[.bool od_0.made, v67] 57 (0, 0)) := hB69
 replace h68 : OwnT ref35_one.c 65 ρ 101 w v67 od_0.l := h68
 refine ke_inBlock ?_
 refine ke_region ?_
 refine sr_ev (v := .int .i64 i_6) (ev_move rfl) (by decide) ?_
 refine sr_ev (v := .int .i64 (IntKind.i64.wrap (i_6 + 1))) (ev_add rfl rfl) (by decide) ?_
 refine sr_ev (v := .int .i64 (IntKind.i64.wrap (i_6 + 1))) (ev_assign rfl) (by decide) ?_
 refine sr_end (l' := [(0, .pointer (some ⟨gd_0, 0, none⟩)), (1, str user_1), (5, vleft_5), (6, .int .i64 (IntKind.i64.wrap (i_6 + 1)))]) (.cons rfl (.cons rfl (.cons rfl (.cons rfl (.nil _))))) ?_
 have hK := hr0 hS hb ⟨_, hB69, h68⟩ hleft_5
 exact ke_weaken (l' := [(0, .pointer (some ⟨gd_0, 0, none⟩)), (1, str user_1), (5, vleft_5), (6, .int .i64 (IntKind.i64.wrap (i_6 + 1)))]) (.cons rfl (.cons rfl (.cons rfl (.cons rfl (.nil _))))) hK
theorem ref35_Delegations_Drop_L1_ok {w0 : World} (hg : Gs w0) {ρA : Tags} (hbd : ∀ b, ρA b ≠ 0 → b < w0.heap.size) {o : Nat} (ho2 : 2 ≤ o) {gd_0 : Nat} (hz : Gz (enter ρA o 2)) : ∀ (n : Nat), ∀ {r : Int × ref35_Delegations} {od_0 : ref35_Delegations} {user_1 : Str} {left_5 : List ref35_one} {i_6 : Int} {vleft_5 : Value}, ref35_Delegations_Drop_L1 n od_0 user_1 left_5 i_6 = some r → ∀ {ρ : Tags} {w : World}, (Fr (enter ρA o 2) w0 ρ w) → (ref35_Delegations.O (fun p => 100 + p) ρ w gd_0 od_0) → (OwnT ref35_one.c 65 ρ 7 w vleft_5 left_5) → KE Try.prog 32 (Ret (fun v w' => ∃ ρ', v = .int .i64 r.1 ∧ ref35_Delegations.O (fun p => o + p) ρ' w' gd_0 r.2 ∧ Tr ρA w0 (rng o 2) ρ' w')) 65 [.code (sub (bodyOf Try.f32) [2, 2, 2, 1, 2, 2, 1]), .inLoop (sub (bodyOf Try.f32) [2, 2, 2, 1, 2, 2, 1]), .inBlock 0, .code (sub (bodyOf Try.f32) [2, 2, 2, 2])] [(0, .pointer (some ⟨gd_0, 0, none⟩)), (1, str user_1), (5, vleft_5), (6, .int .i64 i_6)] w := by
 intro n
 induction n with
 | zero => intro r od_0 user_1 left_5 i_6 vleft_5 hS; cases hS
 | succ n ih =>
  have hr0 : ∀ {r : Int × ref35_Delegations} {od_0 : ref35_Delegations} {user_1 : Str} {left_5 : List ref35_one} {i_6 : Int} {vleft_5 : Value}, ref35_Delegations_Drop_L1 n od_0 user_1 left_5 i_6 = some r → ∀ {ρ : Tags} {w : World}, (Fr (enter ρA o 2) w0 ρ w) → (ref35_Delegations.O (fun p => 100 + p) ρ w gd_0 od_0) → (OwnT ref35_one.c 65 ρ 7 w vleft_5 left_5) → KE Try.prog 32 (Ret (fun v w' => ∃ ρ', v = .int .i64 r.1 ∧ ref35_Delegations.O (fun p => o + p) ρ' w' gd_0 r.2 ∧ Tr ρA w0 (rng o 2) ρ' w')) 65 [.inLoop (sub (bodyOf Try.f32) [2, 2, 2, 1, 2, 2, 1]), .inBlock 0, .code (sub (bodyOf Try.f32) [2, 2, 2, 2])] [(0, .pointer (some ⟨gd_0, 0, none⟩)), (1, str user_1), (5, vleft_5), (6, .int .i64 i_6)] w := fun {r} {od_0} {user_1} {left_5} {i_6} {vleft_5} hS {ρ} {w} hb hod_0 hleft_5 => ke_inLoop (ih hS hb hod_0 hleft_5)
  clear ih
  intro r od_0 user_1 left_5 i_6 vleft_5 hS ρ w hb hod_0 hleft_5
  unfold ref35_Delegations_Drop_L1 at hS
  obtain ⟨v10, hB12, h11⟩ := hod_0
  replace hB12 : Blk ρ 100 w gd_0 (.cells #[.bool od_0.made, v10] 57 (0, 0)) := hB12
  replace h11 : OwnT ref35_one.c 65 ρ 101 w v10 od_0.l := h11
  refine ke_seq ?_
  refine ke_seq ?_
  refine ke_region ?_
  refine sr_ev (v := .int .i64 i_6) (ev_move rfl) (by decide) ?_
  refine sr_ev (v := .pointer (some ⟨gd_0, 0, none⟩)) (ev_move rfl) (by decide) ?_
  refine sr_ev (v := .pointer (some ⟨gd_0, 0, none⟩)) (ev_nilCheck rfl) (by decide) ?_
  refine sr_ev (v := .pointer (some ⟨gd_0, 1, none⟩)) (ev_fieldAddr (i := 1) Try.underlying57 rfl Try.info55 rfl rfl) (by decide) ?_
  refine sr_ev (v := v10) (ev_load Try.isAgg55 rfl (hB12.cell rfl)) (by decide) ?_
  refine sr_ev (v := .int .i64 (od_0.l.length : Int)) (ev_sllen Try.underlying55 rfl h11.asSl) (by decide) ?_
  refine sr_ev (v := .bool (decide (i_6 < (od_0.l.length : Int)))) (ev_lt rfl rfl) (by decide) ?_
  refine sr_end (l' := [(0, .pointer (some ⟨gd_0, 0, none⟩)), (1, str user_1), (5, vleft_5), (6, .int .i64 i_6), (17, .bool (decide (i_6 < (od_0.l.length : Int))))]) (.cons rfl (.cons rfl (.cons rfl (.cons rfl (.cons rfl (.nil _)))))) ?_
  refine ke_cond (t := decide (i_6 < (od_0.l.length : Int))) rfl (fun hc13 => ?_) (fun hc13 => ?_)
  ·replace hS := ite_true' hS hc13
   refine ke_skip ?_
   refine ke_seq ?_
   refine ke_block ?_
   refine ke_seq ?_
   refine ke_region ?_
   refine sr_ev (v := .pointer (some ⟨gd_0, 0, none⟩)) (ev_move rfl) (by decide) ?_
   refine sr_ev (v := .pointer (some ⟨gd_0, 0, none⟩)) (ev_nilCheck rfl) (by decide) ?_
   refine sr_ev (v := .pointer (some ⟨gd_0, 1, none⟩)) (ev_fieldAddr (i := 1) Try.underlying57 rfl Try.info55 rfl rfl) (by decide) ?_
   refine sr_ev (v := v10) (ev_load Try.isAgg55 rfl (hB12.cell rfl)) (by decide) ?_
   refine sr_ev (v := .int .i64 i_6) (ev_move rfl) (by decide) ?_
   obtain ⟨y14, hy15, hS⟩ := bind_some' hS
   obtain ⟨b16, o17, cs19, hq20, he18, hg23, ho24⟩ := h11.elemQ (P := Try.prog) Try.underlying55 Try.info65 rfl hy15
   obtain ⟨v21, hcshe18, h22⟩ := he18.rd
   obtain rfl : cs19 = [str y14.from_, str y14.to_, v21, .int .i64 y14.window.From, .int .i64 y14.window.Until] := hcshe18
   refine sr_ev (v := .pointer (some ⟨b16, o17, none⟩)) (hq20 w rfl rfl) (by decide) ?_
   refine sr_ev (v := .pointer (some ⟨b16, o17 + 0, none⟩)) (ev_fieldAddr (i := 0) Try.underlying65 rfl Try.info9 rfl rfl) (by decide) ?_
   refine sr_ev (v := str y14.from_) (ev_load Try.isAgg9 rfl (he18.cell 0 _ rfl)) (by decide) ?_
   refine sr_ev (v := str user_1) (ev_move rfl) (by decide) ?_
   refine sr_ev (v := .bool (!(y14.from_ == user_1))) (ev_sne rfl rfl) (by decide) ?_
   refine sr_ev (v := .bool (!(y14.from_ == user_1))) (ev_move rfl) (by decide) ?_
   obtain ⟨z27, hz29, hS⟩ := bind_some' hS
   refine sr_join (m := 11) (C := fun (z : Bool) w1 => z27 = z ∧ ∃ ρ1, Tr ρ w (fun _ => false) ρ1 w1) (l' := fun z => [(0, .pointer (some ⟨gd_0, 0, none⟩)), (1, str user_1), (5, vleft_5), (6, .int .i64 i_6), (41, .bool z)]) ?_ ?_
   ·rintro _ w30 ⟨rfl, ρ31, hj28⟩
    replace hleft_5 := hleft_5.mv (hj28.mv (i := 7) rfl) (by decide)
    replace hB12 := hB12.mv (hj28.mv (i := 100) rfl)
    replace h11 := h11.mv (hj28.mv (i := 101) rfl) (by decide)
    replace hb := hb.trans hj28
    refine sr_end (l' := [(0, .pointer (some ⟨gd_0, 0, none⟩)), (1, str user_1), (5, vleft_5), (6, .int .i64 i_6), (41, .bool z27)]) (.cons rfl (.cons rfl (.cons rfl (.cons rfl (.cons rfl (.nil _)))))) ?_
    refine ke_cond (t := z27) rfl (fun hc44 => ?_) (fun hc44 => ?_)
    ·replace hS := ite_true' hS hc44
     refine ke_region ?_
     refine sr_ev (v := vleft_5) (ev_move rfl) (by decide) ?_
     refine sr_ev (v := .pointer (some ⟨gd_0, 0, none⟩)) (ev_move rfl) (by decide) ?_
     refine sr_ev (v := .pointer (some ⟨gd_0, 0, none⟩)) (ev_nilCheck rfl) (by decide) ?_
     refine sr_ev (v := .pointer (some ⟨gd_0, 1, none⟩)) (ev_fieldAddr (i := 1) Try.underlying57 rfl Try.info55 rfl rfl) (by decide) ?_
     refine sr_ev (v := v10) (ev_load Try.isAgg55 rfl (hB12.cell rfl)) (by decide) ?_
     refine sr_ev (v := .int .i64 i_6) (ev_move rfl) (by decide) ?_
     obtain ⟨y45, hy46, hS⟩ := bind_some' hS
     obtain ⟨b47, o48, cs50, hq51, he49, hg54, ho55⟩ := h11.elemQ (P := Try.prog) Try.underlying55 Try.info65 rfl hy46
     obtain ⟨v52, hcshe49, h53⟩ := he49.rd
     obtain rfl : cs50 = [str y45.from_, str y45.to_, v52, .int .i64 y45.window.From, .int .i64 y45.window.Until] := hcshe49
     refine sr_ev (v := .pointer (some ⟨b47, o48, none⟩)) (hq51 w30 rfl rfl) (by decide) ?_
     refine sr_ev (v := .agg #[str y45.from_, str y45.to_, v52, .int .i64 y45.window.From, .int .i64 y45.window.Until]) (ev_loads (cs := [str y45.from_, str y45.to_, v52, .int .i64 y45.window.From, .int .i64 y45.window.Until]) Try.isAgg65 Try.sizeOf65 rfl he49.cell) (by decide) ?_
     refine sr_litT (c := ref35_one.c) (ρ := ρ31) (E := 65) (xs := [y45]) (vs := #[(0, .agg #[str y45.from_, str y45.to_, v52, .int .i64 y45.window.From, .int .i64 y45.window.Until])]) (cs := #[str y45.from_, str y45.to_, v52, .int .i64 y45.window.From, .int .i64 y45.window.Until]) (css := [[str y45.from_, str y45.to_, v52, .int .i64 y45.window.From, .int .i64 y45.window.Until]]) rfl (fun _ => by kernel_rfl) rfl ⟨⟨_, rfl, h53⟩, trivial⟩ rfl (by decide) hb.bd (by decide) ?_
     intro v56 w58 h57 hbw60
     have htr59 := Tr.of_below hbw60 hb.bd
     replace hleft_5 := hleft_5.mv (htr59.mv (i := 7) rfl) (by decide)
     replace hB12 := hB12.mv (htr59.mv (i := 100) rfl)
     replace h11 := h11.mv (htr59.mv (i := 101) rfl) (by decide)
     replace hb := hb.trans htr59
     obtain ⟨hk61, hS⟩ := chk_some hS
     refine sr_appendT (i := 7) (c := ref35_one.c) (ρ := ρ31) (E := 65) (xs := left_5) (ys := ([y45] : List ref35_one)) hleft_5 ((SlT.of_sl (i := 0) h57)).x Try.underlying55 Try.info65 rfl rfl rfl (by decide) (by decide) (by decide) hb.bd hk61 rfl rfl (by decide) ?_
     intro v62 ρ64 w65 h63 htr66
     replace hB12 := hB12.mv (htr66.mv (i := 100) rfl)
     replace h11 := h11.mv (htr66.mv (i := 101) rfl) (by decide)
     replace hb := hb.trans htr66
     refine sr_ev (v := v62) (ev_assign rfl) (by decide) ?_
     refine sr_end (l' := [(0, .pointer (some ⟨gd_0, 0, none⟩)), (1, str user_1), (5, v62), (6, .int .i64 i_6)]) (.cons rfl (.cons rfl (.cons rfl (.cons rfl (.nil _))))) ?_
     have hK := ref35_Delegations_Drop_B2_ok hg hbd ho2 hz _ hr0 hS hb ⟨_, hB12, h11⟩ h63
     exact ke_weaken (l' := [(0, .pointer (some ⟨gd_0, 0, none⟩)), (1, str user_1), (5, v62), (6, .int .i64 i_6)]) (.cons rfl (.cons rfl (.cons rfl (.cons rfl (.nil _))))) hK
    ·replace hS := ite_false' hS hc44
     refine ke_skip ?_
     have hK := ref35_Delegations_Drop_B2_ok hg hbd ho2 hz _ hr0 hS hb ⟨_, hB12, h11⟩ hleft_5
     exact ke_weaken (l' := [(0, .pointer (some ⟨gd_0, 0, none⟩)), (1, str user_1), (5, vleft_5), (6, .int .i64 i_6)]) (.cons rfl (.cons rfl (.cons rfl (.cons rfl (.nil _))))) hK
   ·intro K26
    clear hS
    have hj28 : Tr ρ w (fun _ => false) ρ w := (Tr.refl hb.bd).weak (fun _ _ => rfl) rfl rfl
    rcases Bool.eq_false_or_eq_true (!(y14.from_ == user_1)) with hg25 | hg25
    ·have hS := ite_true' hz29 hg25
     refine sr_evg (b := true) (e := 30) rfl rfl hg25 (v := .pointer (some ⟨gd_0, 0, none⟩)) (ev_move rfl) (by decide) ?_
     refine sr_evg (b := true) (e := 30) rfl rfl hg25 (v := .pointer (some ⟨gd_0, 0, none⟩)) (ev_nilCheck rfl) (by decide) ?_
     refine sr_evg (b := true) (e := 30) rfl rfl hg25 (v := .pointer (some ⟨gd_0, 1, none⟩)) (ev_fieldAddr (i := 1) Try.underlying57 rfl Try.info55 rfl rfl) (by decide) ?_
     refine sr_evg (b := true) (e := 30) rfl rfl hg25 (v := v10) (ev_load Try.isAgg55 rfl (hB12.cell rfl)) (by decide) ?_
     refine sr_evg (b := true) (e := 30) rfl rfl hg25 (v := .int .i64 i_6) (ev_move rfl) (by decide) ?_
     obtain ⟨y33, hy34, hS⟩ := bind_some' hS
     obtain ⟨b35, o36, cs38, hq39, he37, hg42, ho43⟩ := h11.elemQ (P := Try.prog) Try.underlying55 Try.info65 rfl hy34
     obtain ⟨v40, hcshe37, h41⟩ := he37.rd
     obtain rfl : cs38 = [str y33.from_, str y33.to_, v40, .int .i64 y33.window.From, .int .i64 y33.window.Until] := hcshe37
     refine sr_evg (b := true) (e := 30) rfl rfl hg25 (v := .pointer (some ⟨b35, o36, none⟩)) (hq39 w rfl rfl) (by decide) ?_
     refine sr_evg (b := true) (e := 30) rfl rfl hg25 (v := .pointer (some ⟨b35, o36 + 1, none⟩)) (ev_fieldAddr (i := 1) Try.underlying65 rfl Try.info9 rfl rfl) (by decide) ?_
     refine sr_evg (b := true) (e := 30) rfl rfl hg25 (v := str y33.to_) (ev_load Try.isAgg9 rfl (he37.cell 1 _ rfl)) (by decide) ?_
     refine sr_evg (b := true) (e := 30) rfl rfl hg25 (v := str user_1) (ev_move rfl) (by decide) ?_
     refine sr_evg (b := true) (e := 30) rfl rfl hg25 (v := .bool (!(y33.to_ == user_1))) (ev_sne rfl rfl) (by decide) ?_
     refine sr_ev (v := .bool (!(y33.to_ == user_1))) (ev_pick_t rfl hg25 rfl) (by decide) ?_
     exact sr_weaken (l' := [(0, .pointer (some ⟨gd_0, 0, none⟩)), (1, str user_1), (5, vleft_5), (6, .int .i64 i_6), (41, .bool (!(y33.to_ == user_1)))]) (.cons rfl (.cons rfl (.cons rfl (.cons rfl (.cons rfl (.nil _)))))) (K26 (!(y33.to_ == user_1)) _ ⟨(Option.some.inj hS).symm, _, hj28⟩)
    ·have hS := ite_false' hz29 hg25
     refine sr_pass (e := 30) rfl rfl (by rw [hg25]; rfl) (by decide) ?_
     refine sr_pass (e := 30) rfl rfl (by rw [hg25]; rfl) (by decide) ?_
     refine sr_pass (e := 30) rfl rfl (by rw [hg25]; rfl) (by decide) ?_
     refine sr_pass (e := 30) rfl rfl (by rw [hg25]; rfl) (by decide) ?_
     refine sr_pass (e := 30) rfl rfl (by rw [hg25]; rfl) (by decide) ?_
     refine sr_pass (e := 30) rfl rfl (by rw [hg25]; rfl) (by decide) ?_
     refine sr_pass (e := 30) rfl rfl (by rw [hg25]; rfl) (by decide) ?_
     refine sr_pass (e := 30) rfl rfl (by rw [hg25]; rfl) (by decide) ?_
     refine sr_pass (e := 30) rfl rfl (by rw [hg25]; rfl) (by decide) ?_
     refine sr_pass (e := 30) rfl rfl (by rw [hg25]; rfl) (by decide) ?_
     refine sr_ev (v := .bool false) (ev_pick_f rfl hg25 rfl) (by decide) ?_
     exact sr_weaken (l' := [(0, .pointer (some ⟨gd_0, 0, none⟩)), (1, str user_1), (5, vleft_5), (6, .int .i64 i_6), (41, .bool false)]) (.cons rfl (.cons rfl (.cons rfl (.cons rfl (.cons rfl (.nil _)))))) (K26 false _ ⟨(Option.some.inj hS).symm, _, hj28⟩)
  ·replace hS := ite_false' hS hc13
   refine ke_exit (k' := _) rfl ?_
   refine ke_seq ?_
   refine ke_region ?_
   refine sr_ev (v := .pointer (some ⟨gd_0, 0, none⟩)) (ev_move rfl) (by decide) ?_
   refine sr_ev (v := .pointer (some ⟨gd_0, 0, none⟩)) (ev_nilCheck rfl) (by decide) ?_
   refine sr_ev (v := .pointer (some ⟨gd_0, 1, none⟩)) (ev_fieldAddr (i := 1) Try.underlying57 rfl Try.info55 rfl rfl) (by decide) ?_
   refine sr_ev (v := v10) (ev_load Try.isAgg55 rfl (hB12.cell rfl)) (by decide) ?_
   refine sr_ev (v := .int .i64 (od_0.l.length : Int)) (ev_sllen Try.underlying55 rfl h11.asSl) (by decide) ?_
   refine sr_ev (v := vleft_5) (ev_move rfl) (by decide) ?_
   refine sr_ev (v := .int .i64 (left_5.length : Int)) (ev_sllen Try.underlying55 rfl hleft_5.asSl) (by decide) ?_
   refine sr_ev (v := .int .i64 (IntKind.i64.wrap ((od_0.l.length : Int) - (left_5.length : Int)))) (ev_sub rfl rfl) (by decide) ?_
   refine sr_ev (v := .int .i64 (IntKind.i64.wrap ((od_0.l.length : Int) - (left_5.length : Int)))) (ev_assign rfl) (by decide) ?_
   refine sr_end (l' := [(0, .pointer (some ⟨gd_0, 0, none⟩)), (5, vleft_5), (7, .int .i64 (IntKind.i64.wrap ((od_0.l.length : Int) - (left_5.length : Int))))]) (.cons rfl (.cons rfl (.cons rfl (.nil _)))) ?_
   refine ke_seq ?_
   refine ke_region ?_
   refine sr_ev (v := .pointer (some ⟨gd_0, 0, none⟩)) (ev_move rfl) (by decide) ?_
   refine sr_ev (v := vleft_5) (ev_move rfl) (by decide) ?_
   refine sr_ev (v := .pointer (some ⟨gd_0, 0, none⟩)) (ev_nilCheck rfl) (by decide) ?_
   refine sr_ev (v := .pointer (some ⟨gd_0, 1, none⟩)) (ev_fieldAddr (i := 1) Try.underlying57 rfl Try.info55 rfl rfl) (by decide) ?_
   refine sr_storeT (v := vleft_5) (vs := [vleft_5]) (cs' := #[.bool od_0.made, vleft_5]) hB12 (by decide) hb.bd rfl rfl (one_cells (OwnT.oneCell hleft_5)) Try.sizeOf55 rfl (by first | rfl | (simp only [List.all_cons, List.all_nil, OwnT.oneCell hleft_5]; done) | (simp only [List.all_cons, List.all_nil, OwnT.oneCell hleft_5]; rfl)) rfl ?_
   intro w70 hB121 htr71
   replace hleft_5 := hleft_5.mv (htr71.mv (i := 7) rfl) (by decide)
   replace hb := hb.trans htr71
   replace hB12 : Blk ρ 100 w70 gd_0 (.cells #[.bool od_0.made, vleft_5] 57 (0, 0)) := hB121
   clear hB121
   refine sr_end (l' := [(7, .int .i64 (IntKind.i64.wrap ((od_0.l.length : Int) - (left_5.length : Int))))]) (.cons rfl (.nil _)) ?_
   refine ke_seq ?_
   refine ke_region ?_
   refine sr_ev (v := .int .i64 (IntKind.i64.wrap ((od_0.l.length : Int) - (left_5.length : Int)))) (ev_move rfl) (by decide) ?_
   refine sr_ev (v := .int .i64 (IntKind.i64.wrap ((od_0.l.length : Int) - (left_5.length : Int)))) (ev_assign rfl) (by decide) ?_
   refine sr_end (l' := [(4, .int .i64 (IntKind.i64.wrap ((od_0.l.length : Int) - (left_5.length : Int))))]) (.cons rfl (.nil _)) ?_
   have htr72 := rtg_tr (ρ := ρ) (w := w70) (i := 7) 101 (by decide) hb.bd
   have hmv73 : Mv ρ w70 7 (rtg ρ 7 101) w70 101 := rtg_mv (by decide)
   replace hB12 := hB12.mv (htr72.mv (i := 100) rfl)
   replace hb := hb.trans htr72
   replace hleft_5 := hleft_5.mv hmv73 (by decide)
   cases hS
   exact ke_ret1 Try.func32 rfl rfl ⟨_, rfl, leave ρA w0 o 2 (rtg ρ 7 101), rfl, ⟨_, (hB12.mv (leave_mv (p := 0) (by decide) hb)), (hleft_5.mv (leave_mv (p := 1) (by decide) hb) (Nat.ne_of_gt (Nat.lt_of_lt_of_le (Nat.lt_of_lt_of_le Nat.zero_lt_two ho2) (Nat.le_add_right _ _))))⟩, (leave_tr ho2 hb)⟩
theorem ref35_Delegations_Drop_ok (w0 : World) (hg : Gs w0) {ρA : Tags} (hbd : ∀ b, ρA b ≠ 0 → b < w0.heap.size) (hz : Gz ρA) {o : Nat} (ho2 : 2 ≤ o) {d_0 : ref35_Delegations} {user_1 : Str} {gd_0 : Nat} {r : Int × ref35_Delegations} (ho0 : ref35_Delegations.O (fun p => o + p) ρA w0 gd_0 d_0) (hS : ref35_Delegations_Drop d_0 user_1 = some r) :
  Calls Try.prog 32 #[.pointer (some ⟨gd_0, 0, none⟩), str user_1] w0 (Ret (fun v w' => ∃ ρ', v = .int .i64 r.1 ∧ ref35_Delegations.O (fun p => o + p) ρ' w' gd_0 r.2 ∧ Tr ρA w0 (rng o 2) ρ' w')) := by
 unfold ref35_Delegations_Drop at hS
 have hb := enter_fr (ρ := ρA) (w := w0) (n := 2) ho2 hbd
 have hz := hz.enter (n := 2) ho2
 obtain ⟨v1, hB3, h2⟩ := ho0
 replace hB3 := hB3.mv (enter_mv (p := 0) (n := 2) (by decide) ho2)
 replace h2 := h2.mv (enter_mv (p := 1) (n := 2) (by decide) ho2) (by decide)
 replace hB3 : Blk (enter ρA o 2) 100 w0 gd_0 (.cells #[.bool d_0.made, v1] 57 (0, 0)) := hB3
 replace h2 : OwnT ref35_one.c 65 (enter ρA o 2) 101 w0 v1 d_0.l := h2
 refine calls_of_ke Try.func32 rfl (n := 65) rfl rfl (l := [(0, .pointer (some ⟨gd_0, 0, none⟩)), (1, str user_1)]) rfl ?_
 refine ke_seq ?_
 refine ke_region ?_
 refine sr_ev (v := .int .i64 0) (ev_assign rfl) (by decide) ?_
 refine sr_end (l' := [(0, .pointer (some ⟨gd_0, 0, none⟩)), (1, str user_1)]) (.cons rfl (.cons rfl (.nil _))) ?_
 refine ke_seq ?_
 refine ke_seq ?_
 refine ke_region ?_
 refine sr_ev (v := .pointer (some ⟨gd_0, 0, none⟩)) (ev_move rfl) (by decide) ?_
 obtain ⟨y4, hy5, hS⟩ := bind_some' hS
 refine sr_call (vs := [.pointer (some ⟨gd_0, 0, none⟩)]) rfl Try.call35 rfl (ref35_Delegations_Made_ok _ (hg.fr hz hb) (ρA := (enter ρA o 2)) hb.bd (hz.fr hg hb) (τ0 := (fun p => 100 + p)) (fun p => Nat.le_add_right_of_le (by decide)) (⟨_, hB3, h2⟩ : ref35_Delegations.O (fun p => 100 + p) (enter ρA o 2) w0 gd_0 d_0) hy5) (by decide) ?_
 rintro _ w6 ⟨rfl, hbw7⟩
 have htr8 := Tr.of_below hbw7 hb.bd
 replace hB3 := hB3.mv (htr8.mv (i := 100) rfl)
 replace h2 := h2.mv (htr8.mv (i := 101) rfl) (by decide)
 replace hb := hb.trans htr8
 refine sr_ev (v := .bool (!y4)) (ev_not rfl) (by decide) ?_
 refine sr_end (l' := [(0, .pointer (some ⟨gd_0, 0, none⟩)), (1, str user_1), (10, .bool (!y4))]) (.cons rfl (.cons rfl (.cons rfl (.nil _)))) ?_
 refine ke_cond (t := !y4) rfl (fun hc9 => ?_) (fun hc9 => ?_)
 ·replace hS := ite_true' hS hc9
  refine ke_seq ?_
  refine ke_region ?_
  refine sr_ev (v := .int .i64 0) (ev_assign rfl) (by decide) ?_
  refine sr_end (l' := [(4, .int .i64 0)]) (.cons rfl (.nil _)) ?_
  cases hS
  exact ke_ret1 Try.func32 rfl rfl ⟨_, rfl, leave ρA w0 o 2 (enter ρA o 2), rfl, ⟨_, (hB3.mv (leave_mv (p := 0) (by decide) hb)), (h2.mv (leave_mv (p := 1) (by decide) hb) (Nat.ne_of_gt (Nat.lt_of_lt_of_le (Nat.lt_of_lt_of_le Nat.zero_lt_two ho2) (Nat.le_add_right _ _))))⟩, (leave_tr ho2 hb)⟩
 ·replace hS := ite_false' hS hc9
  refine ke_skip ?_
  refine ke_seq ?_
  refine ke_region ?_
  refine sr_ev (v := .slice none 0 0) (ev_assign rfl) (by decide) ?_
  refine sr_end (l' := [(0, .pointer (some ⟨gd_0, 0, none⟩)), (1, str user_1), (5, .slice none 0 0)]) (.cons rfl (.cons rfl (.cons rfl (.nil _)))) ?_
  refine ke_seq ?_
  refine ke_seq ?_
  refine ke_region ?_
  refine sr_ev (v := .int .i64 0) (ev_assign rfl) (by decide) ?_
  refine sr_end (l' := [(0, .pointer (some ⟨gd_0, 0, none⟩)), (1, str user_1), (5, .slice none 0 0), (6, .int .i64 0)]) (.cons rfl (.cons rfl (.cons rfl (.cons rfl (.nil _))))) ?_
  refine ke_block ?_
  have hK := ref35_Delegations_Drop_L1_ok hg hbd ho2 hz _ hS hb ⟨_, hB3, h2⟩ OwnT.nil
  exact ke_weaken (l' := [(0, .pointer (some ⟨gd_0, 0, none⟩)), (1, str user_1), (5, (.slice none 0 0)), (6, .int .i64 0)]) (.cons rfl (.cons rfl (.cons rfl (.cons rfl (.nil _))))) (ke_loop hK)
theorem ref04_Limit_ok (w0 : World) (hg : Gs w0) {t_0 : Int} {r : Int} (hS : ref04_Limit t_0 = some r) :
  Calls Try.prog 72 #[.int .i64 t_0] w0 (Ret (fun v w' => v = .int .i64 r ∧ Below w0.heap.size w0 w')) := by
 unfold ref04_Limit at hS
 have hb := Below.refl w0.heap.size w0
 refine calls_of_ke Try.func72 rfl (n := 6) rfl rfl (l := [(0, .int .i64 t_0)]) rfl ?_
 refine ke_seq ?_
 refine ke_region ?_
 refine sr_ev (v := .int .i64 0) (ev_assign rfl) (by decide) ?_
 refine sr_end (l' := [(0, .int .i64 t_0)]) (.cons rfl (.nil _)) ?_
 refine ke_seq ?_
 refine ke_region ?_
 refine sr_ev (v := .int .i64 t_0) (ev_move rfl) (by decide) ?_
 refine sr_ev (v := .int .i64 (gmin t_0 1099511627776)) (ev_min rfl rfl) (by decide) ?_
 refine sr_ev (v := .int .i64 (gmax 0 (gmin t_0 1099511627776))) (ev_max rfl rfl) (by decide) ?_
 refine sr_ev (v := .int .i64 (gmax 0 (gmin t_0 1099511627776))) (ev_assign rfl) (by decide) ?_
 refine sr_end (l' := [(2, .int .i64 (gmax 0 (gmin t_0 1099511627776)))]) (.cons rfl (.nil _)) ?_
 cases hS
 exact ke_ret1 Try.func72 rfl rfl ⟨_, rfl, rfl, hb⟩
theorem ref04_Check_ok (w0 : World) (hg : Gs w0) {w_0 : api_Window} {t_1 : Int} {skew_2 : Int} {r : Int} (hS : ref04_Check w_0 t_1 skew_2 = some r) :
  Calls Try.prog 55 #[.agg #[.int .i64 w_0.From, .int .i64 w_0.Until], .int .i64 t_1, .int .i64 skew_2] w0 (Ret (fun v w' => v = .int .i64 r ∧ Below w0.heap.size w0 w')) := by
 unfold ref04_Check at hS
 have hb := Below.refl w0.heap.size w0
 obtain ⟨A0, hA0, hAe⟩ : ∃ A0 : Nat → Prop, (∀ b, A0 b → b < w0.heap.size) ∧ A0 = fun _ => False := ⟨_, fun _ h => h.elim, rfl⟩
 clear hAe
 have hA := hA0
 have hi : ∀ b, A0 b → A0 b := fun _ h => h
 have hH := Hp.nil A0 w0.heap.size w0
 refine calls_of_ke Try.func55 rfl (n := 30) rfl rfl (l := [(0, .agg #[.int .i64 w_0.From, .int .i64 w_0.Until]), (1, .int .i64 t_1), (2, .int .i64 skew_2)]) rfl ?_
 refine ke_seq ?_
 refine ke_region ?_
 refine sr_box hH hb.size hA rfl (by decide) ?_
 intro g1 A2 w3 hH1 hst4 hbw5 hinc6 hA1 hge7
 replace hb := hb.trans (hbw5.mono hb.size)
 replace hi := fun b hb => hinc6 b (hi b hb)
 replace hH : Hp A2 w0.heap.size w3 [(g1, .cells #[.int .i64 w_0.From, .int .i64 w_0.Until] 33 (0, 0))] := hH1
 replace hA := hA1
 clear hH1 hA1
 refine sr_ev (v := .int .i64 0) (ev_assign rfl) (by decide) ?_
 refine sr_end (l' := [(1, .int .i64 t_1), (2, .int .i64 skew_2), (3, .pointer (some ⟨g1, 0, none⟩))]) (.cons rfl (.cons rfl (.cons rfl (.nil _)))) ?_
 refine ke_seq ?_
 refine ke_region ?_
 refine sr_ev (v := .int .i64 skew_2) (ev_move rfl) (by decide) ?_
 refine sr_ev (v := .int .i64 (gmin skew_2 600)) (ev_min rfl rfl) (by decide) ?_
 refine sr_ev (v := .int .i64 (gmax 0 (gmin skew_2 600))) (ev_max rfl rfl) (by decide) ?_
 refine sr_ev (v := .int .i64 (gmax 0 (gmin skew_2 600))) (ev_assign rfl) (by decide) ?_
 refine sr_end (l' := [(1, .int .i64 t_1), (3, .pointer (some ⟨g1, 0, none⟩)), (7, .int .i64 (gmax 0 (gmin skew_2 600)))]) (.cons rfl (.cons rfl (.cons rfl (.nil _)))) ?_
 refine ke_seq ?_
 refine ke_seq ?_
 refine ke_region ?_
 refine sr_ev (v := .pointer (some ⟨g1, 0, none⟩)) (ev_fieldAddr (i := 0) Try.underlying33 rfl Try.info3 rfl rfl) (by decide) ?_
 refine sr_ev (v := .int .i64 w_0.From) (ev_load Try.isAgg3 rfl (hH.cell (i := 0) rfl rfl)) (by decide) ?_
 refine sr_ev (v := .pointer (some ⟨g1, 1, none⟩)) (ev_fieldAddr (i := 1) Try.underlying33 rfl Try.info3 rfl rfl) (by decide) ?_
 refine sr_ev (v := .int .i64 w_0.Until) (ev_load Try.isAgg3 rfl (hH.cell (i := 0) rfl rfl)) (by decide) ?_
 refine sr_ev (v := .bool (decide (w_0.From > w_0.Until))) (ev_gt rfl rfl) (by decide) ?_
 refine sr_end (l' := [(1, .int .i64 t_1), (3, .pointer (some ⟨g1, 0, none⟩)), (7, .int .i64 (gmax 0 (gmin skew_2 600))), (15, .bool (decide (w_0.From > w_0.Until)))]) (.cons rfl (.cons rfl (.cons rfl (.cons rfl (.nil _))))) ?_
 refine ke_cond (t := decide (w_0.From > w_0.Until)) rfl (fun hc8 => ?_) (fun hc8 => ?_)
 ·replace hS := ite_true' hS hc8
  refine ke_seq ?_
  refine ke_region ?_
  refine sr_ev (v := .int .i64 2) (ev_assign rfl) (by decide) ?_
  refine sr_end (l' := [(6, .int .i64 2)]) (.cons rfl (.nil _)) ?_
  cases hS
  exact ke_ret1 Try.func55 rfl rfl ⟨_, rfl, rfl, hb⟩
 ·replace hS := ite_false' hS hc8
  refine ke_skip ?_
  refine ke_seq ?_
  refine ke_seq ?_
  refine ke_region_q Try.mixed (by kernel_rfl) ?_
  refine sq_ev (v := .int .i64 t_1) (fun w1 hw1 => ev_move rfl) (by decide) ?_
  obtain ⟨y11, hy12, hS⟩ := bind_some' hS
  refine sq_call (v := .int .i64 y11) (vs := [.int .i64 t_1]) rfl Try.call72 rfl (fun w1 hw1 => (ref04_Limit_ok _ (hg.below (hb.trans (hw1.mono hb.size))) hy12)) (by decide) ?_
  refine sq_ev (v := .int .i64 (gmax 0 (gmin skew_2 600))) (fun w1 hw1 => ev_move rfl) (by decide) ?_
  refine sq_ev (v := .int .i64 (IntKind.i64.wrap (y11 + (gmax 0 (gmin skew_2 600))))) (fun w1 hw1 => ev_add rfl rfl) (by decide) ?_
  refine sq_ev (v := .pointer (some ⟨g1, 0, none⟩)) (fun w1 hw1 => ev_fieldAddr (i := 0) Try.underlying33 rfl Try.info3 rfl rfl) (by decide) ?_
  refine sq_ev (v := .int .i64 w_0.From) (fun w1 hw1 => ev_load Try.isAgg3 rfl ((hH.below hw1).cell (i := 0) rfl rfl)) (by decide) ?_
  refine sq_ev (v := .bool (decide ((IntKind.i64.wrap (y11 + (gmax 0 (gmin skew_2 600)))) < w_0.From))) (fun w1 hw1 => ev_lt rfl rfl) (by decide) ?_
  refine sq_end (l' := [(1, .int .i64 t_1), (3, .pointer (some ⟨g1, 0, none⟩)), (7, .int .i64 (gmax 0 (gmin skew_2 600))), (22, .bool (decide ((IntKind.i64.wrap (y11 + (gmax 0 (gmin skew_2 600)))) < w_0.From)))]) (.cons rfl (.cons rfl (.cons rfl (.cons rfl (.nil _))))) (fun w10 hw9 => ?_)
  replace hb := hb.trans (hw9.mono hb.size)
  replace hA := lt_mono hA hw9.size
  replace hH := hH.below hw9
  refine ke_cond (t := decide ((IntKind.i64.wrap (y11 + (gmax 0 (gmin skew_2 600)))) < w_0.From)) rfl (fun hc15 => ?_) (fun hc15 => ?_)
  ·replace hS := ite_true' hS hc15
   refine ke_seq ?_
   refine ke_region ?_
   refine sr_ev (v := .int .i64 14) (ev_assign rfl) (by decide) ?_
   refine sr_end (l' := [(6, .int .i64 14)]) (.cons rfl (.nil _)) ?_
   cases hS
   exact ke_ret1 Try.func55 rfl rfl ⟨_, rfl, rfl, hb⟩
  ·replace hS := ite_false' hS hc15
   refine ke_skip ?_
   refine ke_seq ?_
   refine ke_seq ?_
   refine ke_region_q Try.mixed (by kernel_rfl) ?_
   refine sq_ev (v := .int .i64 t_1) (fun w1 hw1 => ev_move rfl) (by decide) ?_
   obtain ⟨y18, hy19, hS⟩ := bind_some' hS
   refine sq_call (v := .int .i64 y18) (vs := [.int .i64 t_1]) rfl Try.call72 rfl (fun w1 hw1 => (ref04_Limit_ok _ (hg.below (hb.trans (hw1.mono hb.size))) hy19)) (by decide) ?_
   refine sq_ev (v := .int .i64 (gmax 0 (gmin skew_2 600))) (fun w1 hw1 => ev_move rfl) (by decide) ?_
   refine sq_ev (v := .int .i64 (IntKind.i64.wrap (y18 - (gmax 0 (gmin skew_2 600))))) (fun w1 hw1 => ev_sub rfl rfl) (by decide) ?_
   refine sq_ev (v := .pointer (some ⟨g1, 1, none⟩)) (fun w1 hw1 => ev_fieldAddr (i := 1) Try.underlying33 rfl Try.info3 rfl rfl) (by decide) ?_
   refine sq_ev (v := .int .i64 w_0.Until) (fun w1 hw1 => ev_load Try.isAgg3 rfl ((hH.below hw1).cell (i := 0) rfl rfl)) (by decide) ?_
   refine sq_ev (v := .bool (decide ((IntKind.i64.wrap (y18 - (gmax 0 (gmin skew_2 600)))) ≥ w_0.Until))) (fun w1 hw1 => ev_ge rfl rfl) (by decide) ?_
   refine sq_end (l' := [(29, .bool (decide ((IntKind.i64.wrap (y18 - (gmax 0 (gmin skew_2 600)))) ≥ w_0.Until)))]) (.cons rfl (.nil _)) (fun w17 hw16 => ?_)
   replace hb := hb.trans (hw16.mono hb.size)
   replace hA := lt_mono hA hw16.size
   replace hH := hH.below hw16
   refine ke_cond (t := decide ((IntKind.i64.wrap (y18 - (gmax 0 (gmin skew_2 600)))) ≥ w_0.Until)) rfl (fun hc22 => ?_) (fun hc22 => ?_)
   ·replace hS := ite_true' hS hc22
    refine ke_seq ?_
    refine ke_region ?_
    refine sr_ev (v := .int .i64 13) (ev_assign rfl) (by decide) ?_
    refine sr_end (l' := [(6, .int .i64 13)]) (.cons rfl (.nil _)) ?_
    cases hS
    exact ke_ret1 Try.func55 rfl rfl ⟨_, rfl, rfl, hb⟩
   ·replace hS := ite_false' hS hc22
    refine ke_skip ?_
    refine ke_seq ?_
    refine ke_region ?_
    refine sr_ev (v := .int .i64 0) (ev_assign rfl) (by decide) ?_
    refine sr_end (l' := [(6, .int .i64 0)]) (.cons rfl (.nil _)) ?_
    cases hS
    exact ke_ret1 Try.func55 rfl rfl ⟨_, rfl, rfl, hb⟩
theorem ref29_Implies_ok (w0 : World) (hg : Gs w0) {a_0 : Str} {b_1 : Str} {r : Bool} (hS : ref29_Implies a_0 b_1 = some r) :
  Calls Try.prog 61 #[str a_0, str b_1] w0 (Ret (fun v w' => v = .bool r ∧ Below w0.heap.size w0 w')) := by
 unfold ref29_Implies at hS
 have hb := Below.refl w0.heap.size w0
 refine calls_of_ke Try.func61 rfl (n := 33) rfl rfl (l := [(0, str a_0), (1, str b_1)]) rfl ?_
 refine ke_seq ?_
 refine ke_region ?_
 refine sr_ev (v := .bool false) (ev_assign rfl) (by decide) ?_
 refine sr_end (l' := [(0, str a_0), (1, str b_1)]) (.cons rfl (.cons rfl (.nil _))) ?_
 refine ke_seq ?_
 refine ke_region ?_
 refine sr_ev (v := str a_0) (ev_move rfl) (by decide) ?_
 obtain ⟨y1, hy2, hS⟩ := bind_some' hS
 refine sr_call (vs := [str a_0]) rfl Try.call60 rfl (ref29_Valid_ok _ (hg.below hb) hy2) (by decide) ?_
 rintro _ w3 ⟨rfl, hbw4⟩
 replace hb := hb.trans (hbw4.mono hb.size)
 refine sr_ev (v := .bool y1) (ev_move rfl) (by decide) ?_
 obtain ⟨z7, hz9, hS⟩ := bind_some' hS
 refine sr_join (m := 3) (C := fun (x : Bool) w1 => z7 = x ∧ Below w3.heap.size w3 w1) (l' := fun x => [(0, str a_0), (1, str b_1), (10, .bool x)]) ?_ ?_
 ·rintro _ w10 ⟨rfl, hbw11⟩
  replace hb := hb.trans (hbw11.mono hb.size)
  refine sr_ev (v := .bool z7) (ev_move rfl) (by decide) ?_
  obtain ⟨z18, hz20, hS⟩ := bind_some' hS
  refine sr_join (m := 21) (C := fun (x : Bool) w1 => z18 = x ∧ Below w10.heap.size w10 w1) (l' := fun x => [(32, .bool x)]) ?_ ?_
  ·rintro _ w21 ⟨rfl, hbw22⟩
   replace hb := hb.trans (hbw22.mono hb.size)
   refine sr_ev (v := .bool z18) (ev_assign rfl) (by decide) ?_
   refine sr_end (l' := [(4, .bool z18)]) (.cons rfl (.nil _)) ?_
   cases hS
   exact ke_ret1 Try.func61 rfl rfl ⟨_, rfl, rfl, hb⟩
  ·intro K17
   clear hS
   have hj19 := Below.refl w10.heap.size w10
   rcases Bool.eq_false_or_eq_true z7 with hg16 | hg16
   ·have hS := ite_true' hz20 hg16
    refine sr_evg (b := true) (e := 11) rfl rfl hg16 (v := str a_0) (ev_move rfl) (by decide) ?_
    refine sr_evg (b := true) (e := 11) rfl rfl hg16 (v := str b_1) (ev_move rfl) (by decide) ?_
    refine sr_evg (b := true) (e := 11) rfl rfl hg16 (v := .bool (a_0 == b_1)) (ev_seq rfl rfl) (by decide) ?_
    refine sr_evg (b := true) (e := 11) rfl rfl hg16 (v := .bool (a_0 == b_1)) (ev_move rfl) (by decide) ?_
    obtain ⟨z25, hz27, hS⟩ := bind_some' hS
    refine sr_join (m := 16) (C := fun (x : Bool) w1 => z25 = x ∧ Below w10.heap.size w10 w1) (l' := fun x => [(11, .bool z7), (31, .bool x)]) ?_ ?_
    ·rintro _ w28 ⟨rfl, hbw29⟩
     replace hb := hb.trans (hbw29.mono hb.size)
     replace hj19 := hj19.trans (hbw29.mono hj19.size)
     refine sr_ev (v := .bool z25) (ev_pick_t rfl hg16 rfl) (by decide) ?_
     exact sr_weaken (l' := [(32, .bool z25)]) (.cons rfl (.nil _)) (K17 z25 _ ⟨(Option.some.inj hS).symm, hj19⟩)
    ·intro K24
     clear hS
     have hj26 := Below.refl w10.heap.size w10
     rcases Bool.eq_false_or_eq_true (a_0 == b_1) with hg23 | hg23
     ·have hS := ite_true' hz27 hg23
      refine sr_pass (e := 15) rfl rfl (by rw [hg23]; rfl) (by decide) ?_
      refine sr_pass (e := 15) rfl rfl (by rw [hg23]; rfl) (by decide) ?_
      refine sr_pass (e := 15) rfl rfl (by rw [hg23]; rfl) (by decide) ?_
      refine sr_pass (e := 15) rfl rfl (by rw [hg23]; rfl) (by decide) ?_
      refine sr_pass (e := 15) rfl rfl (by rw [hg23]; rfl) (by decide) ?_
      refine sr_pass (e := 15) rfl rfl (by rw [hg23]; rfl) (by decide) ?_
      refine sr_pass_undef (e := 21) rfl rfl (by decide) ?_
      refine sr_pass_undef (e := 21) rfl rfl (by decide) ?_
      refine sr_pass_undef (e := 21) rfl rfl (by decide) ?_
      refine sr_pass_undef (e := 21) rfl rfl (by decide) ?_
      refine sr_pass_undef (e := 21) rfl rfl (by decide) ?_
      refine sr_pass_undef (e := 21) rfl rfl (by decide) ?_
      refine sr_pass_undef (e := 21) rfl rfl (by decide) ?_
      refine sr_pass_undef (e := 21) rfl rfl (by decide) ?_
      refine sr_pass (e := 15) rfl rfl (by rw [hg23]; rfl) (by decide) ?_
      refine sr_evg (b := true) (e := 11) rfl rfl hg16 (v := .bool true) (ev_pick_t rfl hg23 rfl) (by decide) ?_
      exact sr_weaken (l' := [(11, .bool z7), (31, .bool true)]) (.cons rfl (.cons rfl (.nil _))) (K24 true _ ⟨(Option.some.inj hS).symm, hj26⟩)
     ·have hS := ite_false' hz27 hg23
      refine sr_evg (b := false) (e := 15) rfl rfl hg23 (v := str b_1) (ev_move rfl) (by decide) ?_
      refine sr_evg (b := false) (e := 15) rfl rfl hg23 (v := .int .i64 (b_1.length : Int)) (ev_slen Try.underlying9 rfl) (by decide) ?_
      refine sr_evg (b := false) (e := 15) rfl rfl hg23 (v := str a_0) (ev_move rfl) (by decide) ?_
      refine sr_evg (b := false) (e := 15) rfl rfl hg23 (v := .int .i64 (a_0.length : Int)) (ev_slen Try.underlying9 rfl) (by decide) ?_
      refine sr_evg (b := false) (e := 15) rfl rfl hg23 (v := .bool (decide ((b_1.length : Int) > (a_0.length : Int)))) (ev_gt rfl rfl) (by decide) ?_
      refine sr_evg (b := false) (e := 15) rfl rfl hg23 (v := .bool (decide ((b_1.length : Int) > (a_0.length : Int)))) (ev_move rfl) (by decide) ?_
      obtain ⟨z32, hz34, hS⟩ := bind_some' hS
      refine sr_join (m := 9) (C := fun (x : Bool) w1 => z32 = x ∧ Below w10.heap.size w10 w1) (l' := fun x => [(11, .bool z7), (15, .bool (a_0 == b_1)), (30, .bool x)]) ?_ ?_
      ·rintro _ w35 ⟨rfl, hbw36⟩
       replace hb := hb.trans (hbw36.mono hb.size)
       replace hj19 := hj19.trans (hbw36.mono hj19.size)
       replace hj26 := hj26.trans (hbw36.mono hj26.size)
       refine sr_evg (b := true) (e := 11) rfl rfl hg16 (v := .bool z32) (ev_pick_f rfl hg23 rfl) (by decide) ?_
       exact sr_weaken (l' := [(11, .bool z7), (31, .bool z32)]) (.cons rfl (.cons rfl (.nil _))) (K24 z32 _ ⟨(Option.some.inj hS).symm, hj26⟩)
      ·intro K31
       clear hS
       have hj33 := Below.refl w10.heap.size w10
       rcases Bool.eq_false_or_eq_true (decide ((b_1.length : Int) > (a_0.length : Int))) with hg30 | hg30
       ·have hS := ite_true' hz34 hg30
        refine sr_evg (b := true) (e := 21) rfl rfl hg30 (v := str b_1) (ev_move rfl) (by decide) ?_
        refine sr_evg (b := true) (e := 21) rfl rfl hg30 (v := str a_0) (ev_move rfl) (by decide) ?_
        refine sr_evg (b := true) (e := 21) rfl rfl hg30 (v := .int .i64 (a_0.length : Int)) (ev_slen Try.underlying9 rfl) (by decide) ?_
        refine sr_evg (b := true) (e := 21) rfl rfl hg30 (v := .int .i64 (IntKind.i64.wrap ((a_0.length : Int) + 1))) (ev_add rfl rfl) (by decide) ?_
        obtain ⟨hk37, hS⟩ := chk_some hS
        refine sr_evg (b := true) (e := 21) rfl rfl hg30 (v := str (cut b_1 0 (IntKind.i64.wrap ((a_0.length : Int) + 1)))) (ev_sslice_to Try.underlying9 rfl rfl hk37) (by decide) ?_
        refine sr_evg (b := true) (e := 21) rfl rfl hg30 (v := str a_0) (ev_move rfl) (by decide) ?_
        obtain ⟨hk38, hS⟩ := chk_some hS
        refine sr_evg (b := true) (e := 21) rfl rfl hg30 (v := str (a_0 ++ ([46]))) (ev_cat rfl rfl hk38) (by decide) ?_
        refine sr_evg (b := true) (e := 21) rfl rfl hg30 (v := .bool ((cut b_1 0 (IntKind.i64.wrap ((a_0.length : Int) + 1))) == (a_0 ++ ([46])))) (ev_seq rfl rfl) (by decide) ?_
        refine sr_evg (b := false) (e := 15) rfl rfl hg23 (v := .bool ((cut b_1 0 (IntKind.i64.wrap ((a_0.length : Int) + 1))) == (a_0 ++ ([46])))) (ev_pick_t rfl hg30 rfl) (by decide) ?_
        exact sr_weaken (l' := [(11, .bool z7), (15, .bool (a_0 == b_1)), (30, .bool ((cut b_1 0 (IntKind.i64.wrap ((a_0.length : Int) + 1))) == (a_0 ++ ([46]))))]) (.cons rfl (.cons rfl (.cons rfl (.nil _)))) (K31 ((cut b_1 0 (IntKind.i64.wrap ((a_0.length : Int) + 1))) == (a_0 ++ ([46]))) _ ⟨(Option.some.inj hS).symm, hj33⟩)
       ·have hS := ite_false' hz34 hg30
        refine sr_pass (e := 21) rfl rfl (by rw [hg30]; rfl) (by decide) ?_
        refine sr_pass (e := 21) rfl rfl (by rw [hg30]; rfl) (by decide) ?_
        refine sr_pass (e := 21) rfl rfl (by rw [hg30]; rfl) (by decide) ?_
        refine sr_pass (e := 21) rfl rfl (by rw [hg30]; rfl) (by decide) ?_
        refine sr_pass (e := 21) rfl rfl (by rw [hg30]; rfl) (by decide) ?_
        refine sr_pass (e := 21) rfl rfl (by rw [hg30]; rfl) (by decide) ?_
        refine sr_pass (e := 21) rfl rfl (by rw [hg30]; rfl) (by decide) ?_
        refine sr_pass (e := 21) rfl rfl (by rw [hg30]; rfl) (by decide) ?_
        refine sr_evg (b := false) (e := 15) rfl rfl hg23 (v := .bool false) (ev_pick_f rfl hg30 rfl) (by decide) ?_
        exact sr_weaken (l' := [(11, .bool z7), (15, .bool (a_0 == b_1)), (30, .bool false)]) (.cons rfl (.cons rfl (.cons rfl (.nil _)))) (K31 false _ ⟨(Option.some.inj hS).symm, hj33⟩)
   ·have hS := ite_false' hz20 hg16
    refine sr_pass (e := 11) rfl rfl (by rw [hg16]; rfl) (by decide) ?_
    refine sr_pass (e := 11) rfl rfl (by rw [hg16]; rfl) (by decide) ?_
    refine sr_pass (e := 11) rfl rfl (by rw [hg16]; rfl) (by decide) ?_
    refine sr_pass (e := 11) rfl rfl (by rw [hg16]; rfl) (by decide) ?_
    refine sr_pass_undef (e := 15) rfl rfl (by decide) ?_
    refine sr_pass_undef (e := 15) rfl rfl (by decide) ?_
    refine sr_pass_undef (e := 15) rfl rfl (by decide) ?_
    refine sr_pass_undef (e := 15) rfl rfl (by decide) ?_
    refine sr_pass_undef (e := 15) rfl rfl (by decide) ?_
    refine sr_pass_undef (e := 15) rfl rfl (by decide) ?_
    refine sr_pass_undef (e := 21) rfl rfl (by decide) ?_
    refine sr_pass_undef (e := 21) rfl rfl (by decide) ?_
    refine sr_pass_undef (e := 21) rfl rfl (by decide) ?_
    refine sr_pass_undef (e := 21) rfl rfl (by decide) ?_
    refine sr_pass_undef (e := 21) rfl rfl (by decide) ?_
    refine sr_pass_undef (e := 21) rfl rfl (by decide) ?_
    refine sr_pass_undef (e := 21) rfl rfl (by decide) ?_
    refine sr_pass_undef (e := 21) rfl rfl (by decide) ?_
    refine sr_pass_undef (e := 15) rfl rfl (by decide) ?_
    refine sr_pass (e := 11) rfl rfl (by rw [hg16]; rfl) (by decide) ?_
    refine sr_ev (v := .bool false) (ev_pick_f rfl hg16 rfl) (by decide) ?_
    exact sr_weaken (l' := [(32, .bool false)]) (.cons rfl (.nil _)) (K17 false _ ⟨(Option.some.inj hS).symm, hj19⟩)
 ·intro K6
  clear hS
  have hj8 := Below.refl w3.heap.size w3
  rcases Bool.eq_false_or_eq_true y1 with hg5 | hg5
  ·have hS := ite_true' hz9 hg5
   refine sr_evg (b := true) (e := 7) rfl rfl hg5 (v := str b_1) (ev_move rfl) (by decide) ?_
   obtain ⟨y12, hy13, hS⟩ := bind_some' hS
   refine sr_callg (b := true) (e := 7) rfl rfl hg5 (vs := [str b_1]) rfl Try.call60 rfl (ref29_Valid_ok _ (hg.below hb) hy13) (by decide) ?_
   rintro _ w14 ⟨rfl, hbw15⟩
   replace hb := hb.trans (hbw15.mono hb.size)
   replace hj8 := hj8.trans (hbw15.mono hj8.size)
   refine sr_ev (v := .bool y12) (ev_pick_t rfl hg5 rfl) (by decide) ?_
   exact sr_weaken (l' := [(0, str a_0), (1, str b_1), (10, .bool y12)]) (.cons rfl (.cons rfl (.cons rfl (.nil _)))) (K6 y12 _ ⟨(Option.some.inj hS).symm, hj8⟩)
  ·have hS := ite_false' hz9 hg5
   refine sr_pass (e := 7) rfl rfl (by rw [hg5]; rfl) (by decide) ?_
   refine sr_pass (e := 7) rfl rfl (by rw [hg5]; rfl) (by decide) ?_
   refine sr_ev (v := .bool false) (ev_pick_f rfl hg5 rfl) (by decide) ?_
   exact sr_weaken (l' := [(0, str a_0), (1, str b_1), (10, .bool false)]) (.cons rfl (.cons rfl (.cons rfl (.nil _)))) (K6 false _ ⟨(Option.some.inj hS).symm, hj8⟩)
theorem ref29_covers_L1_ok {w0 : World} (hg : Gs w0) {A0 : Nat → Prop} (hA0 : ∀ b, A0 b → b < w0.heap.size) : ∀ (n : Nat), ∀ {r : Bool} {l_0 : List Str} {s_1 : Str} {i_5 : Int} {vl_0 : Value}, ref29_covers_L1 n l_0 s_1 i_5 = some r → ∀ {w : World} {A : Nat → Prop}, (Below w0.heap.size w0 w) → (∀ b, A b → b < w.heap.size) → (∀ b, A0 b → A b) → (Hp A w0.heap.size w []) → (SlR strC A w vl_0 l_0) → KE Try.prog 73 (Ret (fun v w' => v = .bool r ∧ Below w0.heap.size w0 w')) 18 [.code (sub (bodyOf Try.f73) [2, 1, 2, 2, 1]), .inLoop (sub (bodyOf Try.f73) [2, 1, 2, 2, 1]), .inBlock 0, .code (sub (bodyOf Try.f73) [2, 2])] [(0, vl_0), (1, str s_1), (5, .int .i64 i_5)] w := by
 intro n
 induction n with
 | zero => intro r l_0 s_1 i_5 vl_0 hS; cases hS
 | succ n ih =>
  have hr0 : ∀ {r : Bool} {l_0 : List Str} {s_1 : Str} {i_5 : Int} {vl_0 : Value}, ref29_covers_L1 n l_0 s_1 i_5 = some r → ∀ {w : World} {A : Nat → Prop}, (Below w0.heap.size w0 w) → (∀ b, A b → b < w.heap.size) → (∀ b, A0 b → A b) → (Hp A w0.heap.size w []) → (SlR strC A w vl_0 l_0) → KE Try.prog 73 (Ret (fun v w' => v = .bool r ∧ Below w0.heap.size w0 w')) 18 [.inLoop (sub (bodyOf Try.f73) [2, 1, 2, 2, 1]), .inBlock 0, .code (sub (bodyOf Try.f73) [2, 2])] [(0, vl_0), (1, str s_1), (5, .int .i64 i_5)] w := fun {r} {l_0} {s_1} {i_5} {vl_0} hS {w} {A} hb hA hi hH hl_0 => ke_inLoop (ih hS hb hA hi hH hl_0)
  clear ih
  intro r l_0 s_1 i_5 vl_0 hS w A hb hA hi hH hl_0
  unfold ref29_covers_L1 at hS
  refine ke_seq ?_
  refine ke_seq ?_
  refine ke_region ?_
  refine sr_ev (v := .int .i64 i_5) (ev_move rfl) (by decide) ?_
  refine sr_ev (v := vl_0) (ev_move rfl) (by decide) ?_
  refine sr_ev (v := .int .i64 (l_0.length : Int)) (ev_sllen Try.underlying23 rfl hl_0) (by decide) ?_
  refine sr_ev (v := .bool (decide (i_5 < (l_0.length : Int)))) (ev_lt rfl rfl) (by decide) ?_
  refine sr_end (l' := [(0, vl_0), (1, str s_1), (5, .int .i64 i_5), (9, .bool (decide (i_5 < (l_0.length : Int))))]) (.cons rfl (.cons rfl (.cons rfl (.cons rfl (.nil _))))) ?_
  refine ke_cond (t := decide (i_5 < (l_0.length : Int))) rfl (fun hc3 => ?_) (fun hc3 => ?_)
  ·replace hS := ite_true' hS hc3
   refine ke_skip ?_
   refine ke_seq ?_
   refine ke_block ?_
   refine ke_seq ?_
   refine ke_region ?_
   refine sr_ev (v := vl_0) (ev_move rfl) (by decide) ?_
   refine sr_ev (v := .int .i64 i_5) (ev_move rfl) (by decide) ?_
   obtain ⟨y4, hy5, hS⟩ := bind_some' hS
   refine sr_index hl_0 Try.underlying23 Try.info9 rfl rfl rfl hy5 (by decide) ?_
   intro b6 o7 cs9 he8
   obtain rfl : cs9 = [str y4] := he8.rd
   refine sr_ev (v := str y4) (ev_load Try.isAgg9 rfl (he8.cell 0 _ rfl)) (by decide) ?_
   refine sr_ev (v := str s_1) (ev_move rfl) (by decide) ?_
   obtain ⟨y10, hy11, hS⟩ := bind_some' hS
   refine sr_call (vs := [str y4, str s_1]) rfl Try.call61 rfl (ref29_Implies_ok _ (hg.below hb) hy11) (by decide) ?_
   rintro _ w12 ⟨rfl, hbw13⟩
   replace hb := hb.trans (hbw13.mono hb.size)
   replace hA := lt_mono hA hbw13.size
   replace hH := hH.below hbw13
   replace hl_0 := hl_0.below hbw13
   refine sr_end (l' := [(0, vl_0), (1, str s_1), (5, .int .i64 i_5), (17, .bool y10)]) (.cons rfl (.cons rfl (.cons rfl (.cons rfl (.nil _))))) ?_
   refine ke_cond (t := y10) rfl (fun hc14 => ?_) (fun hc14 => ?_)
   ·replace hS := ite_true' hS hc14
    refine ke_seq ?_
    refine ke_region ?_
    refine sr_ev (v := .bool true) (ev_assign rfl) (by decide) ?_
    refine sr_end (l' := [(4, .bool true)]) (.cons rfl (.nil _)) ?_
    cases hS
    exact ke_ret1 Try.func73 rfl rfl ⟨_, rfl, rfl, hb⟩
   ·replace hS := ite_false' hS hc14
    refine ke_skip ?_
    refine ke_inBlock ?_
    refine ke_region ?_
    refine sr_ev (v := .int .i64 i_5) (ev_move rfl) (by decide) ?_
    refine sr_ev (v := .int .i64 (IntKind.i64.wrap (i_5 + 1))) (ev_add rfl rfl) (by decide) ?_
    refine sr_ev (v := .int .i64 (IntKind.i64.wrap (i_5 + 1))) (ev_assign rfl) (by decide) ?_
    refine sr_end (l' := [(0, vl_0), (1, str s_1), (5, .int .i64 (IntKind.i64.wrap (i_5 + 1)))]) (.cons rfl (.cons rfl (.cons rfl (.nil _)))) ?_
    have hK := hr0 hS hb hA hi hH hl_0
    exact ke_weaken (l' := [(0, vl_0), (1, str s_1), (5, .int .i64 (IntKind.i64.wrap (i_5 + 1)))]) (.cons rfl (.cons rfl (.cons rfl (.nil _)))) hK
  ·replace hS := ite_false' hS hc3
   refine ke_exit (k' := _) rfl ?_
   refine ke_seq ?_
   refine ke_region ?_
   refine sr_ev (v := .bool false) (ev_assign rfl) (by decide) ?_
   refine sr_end (l' := [(4, .bool false)]) (.cons rfl (.nil _)) ?_
   cases hS
   exact ke_ret1 Try.func73 rfl rfl ⟨_, rfl, rfl, hb⟩
theorem ref29_covers_ok {A0 : Nat → Prop} (w0 : World) (hg : Gs w0) {l_0 : List Str} {s_1 : Str} {v1 : Value} {r : Bool} (h2 : SlR strC A0 w0 v1 l_0) (hS : ref29_covers l_0 s_1 = some r) :
  Calls Try.prog 73 #[v1, str s_1] w0 (Ret (fun v w' => v = .bool r ∧ Below w0.heap.size w0 w')) := by
 unfold ref29_covers at hS
 have hb := Below.refl w0.heap.size w0
 replace h2 := h2.weak (A' := fun _ => False) (fun _ h => h.elim)
 obtain ⟨A0, hA0, hAe⟩ : ∃ A0 : Nat → Prop, (∀ b, A0 b → b < w0.heap.size) ∧ A0 = fun _ => False := ⟨_, fun _ h => h.elim, rfl⟩
 rw [← hAe] at h2
 clear hAe
 have hA := hA0
 have hi : ∀ b, A0 b → A0 b := fun _ h => h
 have hH := Hp.nil A0 w0.heap.size w0
 refine calls_of_ke Try.func73 rfl (n := 18) rfl rfl (l := [(0, v1), (1, str s_1)]) rfl ?_
 refine ke_seq ?_
 refine ke_region ?_
 refine sr_ev (v := .bool false) (ev_assign rfl) (by decide) ?_
 refine sr_end (l' := [(0, v1), (1, str s_1)]) (.cons rfl (.cons rfl (.nil _))) ?_
 refine ke_seq ?_
 refine ke_seq ?_
 refine ke_region ?_
 refine sr_ev (v := .int .i64 0) (ev_assign rfl) (by decide) ?_
 refine sr_end (l' := [(0, v1), (1, str s_1), (5, .int .i64 0)]) (.cons rfl (.cons rfl (.cons rfl (.nil _)))) ?_
 refine ke_block ?_
 have hK := ref29_covers_L1_ok hg hA0 _ hS hb hA hi hH h2
 exact ke_weaken (l' := [(0, v1), (1, str s_1), (5, .int .i64 0)]) (.cons rfl (.cons rfl (.cons rfl (.nil _)))) (ke_loop hK)
theorem ref29_Within_L1_ok {w0 : World} (hg : Gs w0) {A0 : Nat → Prop} (hA0 : ∀ b, A0 b → b < w0.heap.size) : ∀ (n : Nat), ∀ {r : Bool} {a_0 : List Str} {b_1 : List Str} {i_5 : Int} {va_0 : Value} {vb_1 : Value}, ref29_Within_L1 n a_0 b_1 i_5 = some r → ∀ {w : World} {A : Nat → Prop}, (Below w0.heap.size w0 w) → (∀ b, A b → b < w.heap.size) → (∀ b, A0 b → A b) → (Hp A w0.heap.size w []) → (SlR strC A w va_0 a_0) → (SlR strC A w vb_1 b_1) → KE Try.prog 56 (Ret (fun v w' => v = .bool r ∧ Below w0.heap.size w0 w')) 19 [.code (sub (bodyOf Try.f56) [2, 1, 2, 2, 1]), .inLoop (sub (bodyOf Try.f56) [2, 1, 2, 2, 1]), .inBlock 0, .code (sub (bodyOf Try.f56) [2, 2])] [(0, va_0), (1, vb_1), (5, .int .i64 i_5)] w := by
 intro n
 induction n with
 | zero => intro r a_0 b_1 i_5 va_0 vb_1 hS; cases hS
 | succ n ih =>
  have hr0 : ∀ {r : Bool} {a_0 : List Str} {b_1 : List Str} {i_5 : Int} {va_0 : Value} {vb_1 : Value}, ref29_Within_L1 n a_0 b_1 i_5 = some r → ∀ {w : World} {A : Nat → Prop}, (Below w0.heap.size w0 w) → (∀ b, A b → b < w.heap.size) → (∀ b, A0 b → A b) → (Hp A w0.heap.size w []) → (SlR strC A w va_0 a_0) → (SlR strC A w vb_1 b_1) → KE Try.prog 56 (Ret (fun v w' => v = .bool r ∧ Below w0.heap.size w0 w')) 19 [.inLoop (sub (bodyOf Try.f56) [2, 1, 2, 2, 1]), .inBlock 0, .code (sub (bodyOf Try.f56) [2, 2])] [(0, va_0), (1, vb_1), (5, .int .i64 i_5)] w := fun {r} {a_0} {b_1} {i_5} {va_0} {vb_1} hS {w} {A} hb hA hi hH ha_0 hb_1 => ke_inLoop (ih hS hb hA hi hH ha_0 hb_1)
  clear ih
  intro r a_0 b_1 i_5 va_0 vb_1 hS w A hb hA hi hH ha_0 hb_1
  unfold ref29_Within_L1 at hS
  refine ke_seq ?_
  refine ke_seq ?_
  refine ke_region ?_
  refine sr_ev (v := .int .i64 i_5) (ev_move rfl) (by decide) ?_
  refine sr_ev (v := va_0) (ev_move rfl) (by decide) ?_
  refine sr_ev (v := .int .i64 (a_0.length : Int)) (ev_sllen Try.underlying23 rfl ha_0) (by decide) ?_
  refine sr_ev (v := .bool (decide (i_5 < (a_0.length : Int)))) (ev_lt rfl rfl) (by decide) ?_
  refine sr_end (l' := [(0, va_0), (1, vb_1), (5, .int .i64 i_5), (9, .bool (decide (i_5 < (a_0.length : Int))))]) (.cons rfl (.cons rfl (.cons rfl (.cons rfl (.nil _))))) ?_
  refine ke_cond (t := decide (i_5 < (a_0.length : Int))) rfl (fun hc5 => ?_) (fun hc5 => ?_)
  ·replace hS := ite_true' hS hc5
   refine ke_skip ?_
   refine ke_seq ?_
   refine ke_block ?_
   refine ke_seq ?_
   refine ke_region ?_
   refine sr_ev (v := vb_1) (ev_move rfl) (by decide) ?_
   refine sr_ev (v := va_0) (ev_move rfl) (by decide) ?_
   refine sr_ev (v := .int .i64 i_5) (ev_move rfl) (by decide) ?_
   obtain ⟨y6, hy7, hS⟩ := bind_some' hS
   refine sr_index ha_0 Try.underlying23 Try.info9 rfl rfl rfl hy7 (by decide) ?_
   intro b8 o9 cs11 he10
   obtain rfl : cs11 = [str y6] := he10.rd
   refine sr_ev (v := str y6) (ev_load Try.isAgg9 rfl (he10.cell 0 _ rfl)) (by decide) ?_
   obtain ⟨y12, hy13, hS⟩ := bind_some' hS
   refine sr_call (vs := [vb_1, str y6]) rfl Try.call73 rfl (ref29_covers_ok _ (hg.below hb) hb_1 hy13) (by decide) ?_
   rintro _ w14 ⟨rfl, hbw15⟩
   replace hb := hb.trans (hbw15.mono hb.size)
   replace hA := lt_mono hA hbw15.size
   replace hH := hH.below hbw15
   replace ha_0 := ha_0.below hbw15
   replace hb_1 := hb_1.below hbw15
   refine sr_ev (v := .bool (!y12)) (ev_not rfl) (by decide) ?_
   refine sr_end (l' := [(0, va_0), (1, vb_1), (5, .int .i64 i_5), (18, .bool (!y12))]) (.cons rfl (.cons rfl (.cons rfl (.cons rfl (.nil _))))) ?_
   refine ke_cond (t := !y12) rfl (fun hc16 => ?_) (fun hc16 => ?_)
   ·replace hS := ite_true' hS hc16
    refine ke_seq ?_
    refine ke_region ?_
    refine sr_ev (v := .bool false) (ev_assign rfl) (by decide) ?_
    refine sr_end (l' := [(4, .bool false)]) (.cons rfl (.nil _)) ?_
    cases hS
    exact ke_ret1 Try.func56 rfl rfl ⟨_, rfl, rfl, hb⟩
   ·replace hS := ite_false' hS hc16
    refine ke_skip ?_
    refine ke_inBlock ?_
    refine ke_region ?_
    refine sr_ev (v := .int .i64 i_5) (ev_move rfl) (by decide) ?_
    refine sr_ev (v := .int .i64 (IntKind.i64.wrap (i_5 + 1))) (ev_add rfl rfl) (by decide) ?_
    refine sr_ev (v := .int .i64 (IntKind.i64.wrap (i_5 + 1))) (ev_assign rfl) (by decide) ?_
    refine sr_end (l' := [(0, va_0), (1, vb_1), (5, .int .i64 (IntKind.i64.wrap (i_5 + 1)))]) (.cons rfl (.cons rfl (.cons rfl (.nil _)))) ?_
    have hK := hr0 hS hb hA hi hH ha_0 hb_1
    exact ke_weaken (l' := [(0, va_0), (1, vb_1), (5, .int .i64 (IntKind.i64.wrap (i_5 + 1)))]) (.cons rfl (.cons rfl (.cons rfl (.nil _)))) hK
  ·replace hS := ite_false' hS hc5
   refine ke_exit (k' := _) rfl ?_
   refine ke_seq ?_
   refine ke_region ?_
   refine sr_ev (v := .bool true) (ev_assign rfl) (by decide) ?_
   refine sr_end (l' := [(4, .bool true)]) (.cons rfl (.nil _)) ?_
   cases hS
   exact ke_ret1 Try.func56 rfl rfl ⟨_, rfl, rfl, hb⟩
theorem ref29_Within_ok {A0 : Nat → Prop} (w0 : World) (hg : Gs w0) {a_0 : List Str} {b_1 : List Str} {v1 : Value} {v3 : Value} {r : Bool} (h2 : SlR strC A0 w0 v1 a_0) (h4 : SlR strC A0 w0 v3 b_1) (hS : ref29_Within a_0 b_1 = some r) :
  Calls Try.prog 56 #[v1, v3] w0 (Ret (fun v w' => v = .bool r ∧ Below w0.heap.size w0 w')) := by
 unfold ref29_Within at hS
 have hb := Below.refl w0.heap.size w0
 replace h2 := h2.weak (A' := fun _ => False) (fun _ h => h.elim)
 replace h4 := h4.weak (A' := fun _ => False) (fun _ h => h.elim)
 obtain ⟨A0, hA0, hAe⟩ : ∃ A0 : Nat → Prop, (∀ b, A0 b → b < w0.heap.size) ∧ A0 = fun _ => False := ⟨_, fun _ h => h.elim, rfl⟩
 rw [← hAe] at h2
 rw [← hAe] at h4
 clear hAe
 have hA := hA0
 have hi : ∀ b, A0 b → A0 b := fun _ h => h
 have hH := Hp.nil A0 w0.heap.size w0
 refine calls_of_ke Try.func56 rfl (n := 19) rfl rfl (l := [(0, v1), (1, v3)]) rfl ?_
 refine ke_seq ?_
 refine ke_region ?_
 refine sr_ev (v := .bool false) (ev_assign rfl) (by decide) ?_
 refine sr_end (l' := [(0, v1), (1, v3)]) (.cons rfl (.cons rfl (.nil _))) ?_
 refine ke_seq ?_
 refine ke_seq ?_
 refine ke_region ?_
 refine sr_ev (v := .int .i64 0) (ev_assign rfl) (by decide) ?_
 refine sr_end (l' := [(0, v1), (1, v3), (5, .int .i64 0)]) (.cons rfl (.cons rfl (.cons rfl (.nil _)))) ?_
 refine ke_block ?_
 have hK := ref29_Within_L1_ok hg hA0 _ hS hb hA hi hH h2 h4
 exact ke_weaken (l' := [(0, v1), (1, v3), (5, .int .i64 0)]) (.cons rfl (.cons rfl (.cons rfl (.nil _)))) (ke_loop hK)
theorem ref35_Delegations_May_ok (w0 : World) (hg : Gs w0) {ρA : Tags} (hbd : ∀ b, ρA b ≠ 0 → b < w0.heap.size) (hz : Gz ρA) {τ0 : Nat → Nat} (hτ0 : ∀ p, 1 ≤ τ0 p) {d_0 : ref35_Delegations} {from_1 : Str} {to_2 : Str} {scopes_3 : List Str} {now_4 : Int} {v4 : Value} {gd_0 : Nat} {r : Int} (h5 : SlR strC (Wb ρA) w0 v4 scopes_3) (ho0 : ref35_Delegations.O τ0 ρA w0 gd_0 d_0) (hS : ref35_Delegations_May d_0 from_1 to_2 scopes_3 now_4 = some r) :
  Calls Try.prog 33 #[.pointer (some ⟨gd_0, 0, none⟩), str from_1, str to_2, v4, .int .i64 now_4] w0 (Ret (fun v w' => v = .int .i64 r ∧ Below w0.heap.size w0 w')) := by
 unfold ref35_Delegations_May at hS
 have hb := flat1_fr (ρ := ρA) (w := w0) hbd
 have hz := hz.flat1
 replace h5 := SlR.mv h5 flat1_rd
 obtain ⟨v1, hB3, h2⟩ := ho0
 replace hB3 := hB3.mv (flat1_mv (hτ0 0))
 replace h2 := h2.mv (flat1_mv (hτ0 1)) (by decide)
 replace hB3 : Blk (flat1 ρA) 1 w0 gd_0 (.cells #[.bool d_0.made, v1] 57 (0, 0)) := hB3
 replace h2 : OwnT ref35_one.c 65 (flat1 ρA) 1 w0 v1 d_0.l := h2
 refine calls_of_ke Try.func33 rfl (n := 46) rfl rfl (l := [(0, .pointer (some ⟨gd_0, 0, none⟩)), (1, str from_1), (2, str to_2), (3, v4), (4, .int .i64 now_4)]) rfl ?_
 refine ke_seq ?_
 refine ke_region ?_
 refine sr_ev (v := .int .i64 0) (ev_assign rfl) (by decide) ?_
 refine sr_end (l' := [(0, .pointer (some ⟨gd_0, 0, none⟩)), (1, str from_1), (2, str to_2), (3, v4), (4, .int .i64 now_4)]) (.cons rfl (.cons rfl (.cons rfl (.cons rfl (.cons rfl (.nil _)))))) ?_
 refine ke_seq ?_
 refine ke_seq ?_
 refine ke_region ?_
 refine sr_ev (v := .pointer (some ⟨gd_0, 0, none⟩)) (ev_move rfl) (by decide) ?_
 obtain ⟨y6, hy7, hS⟩ := bind_some' hS
 refine sr_call (vs := [.pointer (some ⟨gd_0, 0, none⟩)]) rfl Try.call35 rfl (ref35_Delegations_Made_ok _ (hg.fr hz hb) (ρA := (flat1 ρA)) hb.bd (hz.fr hg hb) (τ0 := (fun _ => 1)) (fun _ => Nat.le_refl 1) (⟨_, hB3, h2⟩ : ref35_Delegations.O (fun _ => 1) (flat1 ρA) w0 gd_0 d_0) hy7) (by decide) ?_
 rintro _ w8 ⟨rfl, hbw9⟩
 have htr10 := Tr.of_below hbw9 hb.bd
 replace h5 := h5.mv htr10.rd
 replace hB3 := hB3.mv (htr10.mv (i := 1) rfl)
 replace h2 := h2.mv (htr10.mv (i := 1) rfl) (by decide)
 replace hb := hb.trans htr10
 refine sr_ev (v := .bool (!y6)) (ev_not rfl) (by decide) ?_
 refine sr_end (l' := [(0, .pointer (some ⟨gd_0, 0, none⟩)), (1, str from_1), (2, str to_2), (3, v4), (4, .int .i64 now_4), (15, .bool (!y6))]) (.cons rfl (.cons rfl (.cons rfl (.cons rfl (.cons rfl (.cons rfl (.nil _))))))) ?_
 refine ke_cond (t := !y6) rfl (fun hc11 => ?_) (fun hc11 => ?_)
 ·replace hS := ite_true' hS hc11
  refine ke_seq ?_
  refine ke_region ?_
  refine sr_ev (v := .int .i64 1) (ev_assign rfl) (by decide) ?_
  refine sr_end (l' := [(10, .int .i64 1)]) (.cons rfl (.nil _)) ?_
  cases hS
  exact ke_ret1 Try.func33 rfl rfl ⟨_, rfl, rfl, (hb.below (flat1_le _))⟩
 ·replace hS := ite_false' hS hc11
  refine ke_skip ?_
  refine ke_seq ?_
  refine ke_region ?_
  refine sr_ev (v := .pointer (some ⟨gd_0, 0, none⟩)) (ev_move rfl) (by decide) ?_
  refine sr_ev (v := str from_1) (ev_move rfl) (by decide) ?_
  refine sr_ev (v := str to_2) (ev_move rfl) (by decide) ?_
  obtain ⟨y12, hy13, hS⟩ := bind_some' hS
  refine sr_call (vs := [.pointer (some ⟨gd_0, 0, none⟩), str from_1, str to_2]) rfl Try.call37 rfl (ref35_Delegations_find_ok _ (hg.fr hz hb) (ρA := (flat1 ρA)) hb.bd (hz.fr hg hb) (τ0 := (fun _ => 1)) (fun _ => Nat.le_refl 1) (⟨_, hB3, h2⟩ : ref35_Delegations.O (fun _ => 1) (flat1 ρA) w8 gd_0 d_0) hy13) (by decide) ?_
  rintro _ w14 ⟨rfl, hbw15⟩
  have htr16 := Tr.of_below hbw15 hb.bd
  replace h5 := h5.mv htr16.rd
  replace hB3 := hB3.mv (htr16.mv (i := 1) rfl)
  replace h2 := h2.mv (htr16.mv (i := 1) rfl) (by decide)
  replace hb := hb.trans htr16
  refine sr_ev (v := .int .i64 y12) (ev_assign rfl) (by decide) ?_
  refine sr_end (l' := [(0, .pointer (some ⟨gd_0, 0, none⟩)), (3, v4), (4, .int .i64 now_4), (11, .int .i64 y12)]) (.cons rfl (.cons rfl (.cons rfl (.cons rfl (.nil _))))) ?_
  refine ke_seq ?_
  refine ke_seq ?_
  refine ke_region ?_
  refine sr_ev (v := .int .i64 y12) (ev_move rfl) (by decide) ?_
  refine sr_ev (v := .bool (decide (y12 < 0))) (ev_lt rfl rfl) (by decide) ?_
  refine sr_end (l' := [(0, .pointer (some ⟨gd_0, 0, none⟩)), (3, v4), (4, .int .i64 now_4), (11, .int .i64 y12), (21, .bool (decide (y12 < 0)))]) (.cons rfl (.cons rfl (.cons rfl (.cons rfl (.cons rfl (.nil _)))))) ?_
  refine ke_cond (t := decide (y12 < 0)) rfl (fun hc17 => ?_) (fun hc17 => ?_)
  ·replace hS := ite_true' hS hc17
   refine ke_seq ?_
   refine ke_region ?_
   refine sr_ev (v := .int .i64 11) (ev_assign rfl) (by decide) ?_
   refine sr_end (l' := [(10, .int .i64 11)]) (.cons rfl (.nil _)) ?_
   cases hS
   exact ke_ret1 Try.func33 rfl rfl ⟨_, rfl, rfl, (hb.below (flat1_le _))⟩
  ·replace hS := ite_false' hS hc17
   refine ke_skip ?_
   refine ke_seq ?_
   refine ke_seq ?_
   refine ke_region ?_
   refine sr_ev (v := .pointer (some ⟨gd_0, 0, none⟩)) (ev_move rfl) (by decide) ?_
   refine sr_ev (v := .pointer (some ⟨gd_0, 0, none⟩)) (ev_nilCheck rfl) (by decide) ?_
   refine sr_ev (v := .pointer (some ⟨gd_0, 1, none⟩)) (ev_fieldAddr (i := 1) Try.underlying57 rfl Try.info55 rfl rfl) (by decide) ?_
   refine sr_ev (v := v1) (ev_load Try.isAgg55 rfl (hB3.cell rfl)) (by decide) ?_
   refine sr_ev (v := .int .i64 y12) (ev_move rfl) (by decide) ?_
   obtain ⟨y18, hy19, hS⟩ := bind_some' hS
   obtain ⟨b20, o21, cs23, hq24, he22, hg27, ho28⟩ := h2.elemQ (P := Try.prog) Try.underlying55 Try.info65 rfl hy19
   obtain ⟨v25, hcshe22, h26⟩ := he22.rd
   obtain rfl : cs23 = [str y18.from_, str y18.to_, v25, .int .i64 y18.window.From, .int .i64 y18.window.Until] := hcshe22
   refine sr_ev (v := .pointer (some ⟨b20, o21, none⟩)) (hq24 w14 rfl rfl) (by decide) ?_
   refine sr_ev (v := .pointer (some ⟨b20, o21 + 3, none⟩)) (ev_fieldAddr (i := 3) Try.underlying65 rfl Try.info33 rfl rfl) (by decide) ?_
   refine sr_ev (v := .agg #[.int .i64 y18.window.From, .int .i64 y18.window.Until]) (ev_loads (cs := [.int .i64 y18.window.From, .int .i64 y18.window.Until]) Try.isAgg33 Try.sizeOf33 rfl (he22.part (off := 3) (vs := [.int .i64 y18.window.From, .int .i64 y18.window.Until]) rfl)) (by decide) ?_
   refine sr_ev (v := .int .i64 now_4) (ev_move rfl) (by decide) ?_
   obtain ⟨y29, hy30, hS⟩ := bind_some' hS
   refine sr_call (vs := [.agg #[.int .i64 y18.window.From, .int .i64 y18.window.Until], .int .i64 now_4, .int .i64 0]) rfl Try.call55 rfl (ref04_Check_ok _ (hg.fr hz hb) hy30) (by decide) ?_
   rintro _ w31 ⟨rfl, hbw32⟩
   have htr33 := Tr.of_below hbw32 hb.bd
   replace h5 := h5.mv htr33.rd
   replace hB3 := hB3.mv (htr33.mv (i := 1) rfl)
   replace h2 := h2.mv (htr33.mv (i := 1) rfl) (by decide)
   replace hb := hb.trans htr33
   refine sr_ev (v := .int .i64 y29) (ev_assign rfl) (by decide) ?_
   refine sr_end (l' := [(0, .pointer (some ⟨gd_0, 0, none⟩)), (3, v4), (11, .int .i64 y12), (12, .int .i64 y29)]) (.cons rfl (.cons rfl (.cons rfl (.cons rfl (.nil _))))) ?_
   refine ke_seq ?_
   refine ke_region ?_
   refine sr_ev (v := .int .i64 y29) (ev_move rfl) (by decide) ?_
   refine sr_ev (v := .bool (y29 != 0)) (ev_ne rfl rfl) (by decide) ?_
   refine sr_end (l' := [(0, .pointer (some ⟨gd_0, 0, none⟩)), (3, v4), (11, .int .i64 y12), (12, .int .i64 y29), (33, .bool (y29 != 0))]) (.cons rfl (.cons rfl (.cons rfl (.cons rfl (.cons rfl (.nil _)))))) ?_
   refine ke_cond (t := y29 != 0) rfl (fun hc34 => ?_) (fun hc34 => ?_)
   ·replace hS := ite_true' hS hc34
    refine ke_seq ?_
    refine ke_region ?_
    refine sr_ev (v := .int .i64 y29) (ev_move rfl) (by decide) ?_
    refine sr_ev (v := .int .i64 y29) (ev_assign rfl) (by decide) ?_
    refine sr_end (l' := [(10, .int .i64 y29)]) (.cons rfl (.nil _)) ?_
    cases hS
    exact ke_ret1 Try.func33 rfl rfl ⟨_, rfl, rfl, (hb.below (flat1_le _))⟩
   ·replace hS := ite_false' hS hc34
    refine ke_skip ?_
    refine ke_seq ?_
    refine ke_seq ?_
    refine ke_region ?_
    refine sr_ev (v := v4) (ev_move rfl) (by decide) ?_
    refine sr_ev (v := .pointer (some ⟨gd_0, 0, none⟩)) (ev_move rfl) (by decide) ?_
    refine sr_ev (v := .pointer (some ⟨gd_0, 0, none⟩)) (ev_nilCheck rfl) (by decide) ?_
    refine sr_ev (v := .pointer (some ⟨gd_0, 1, none⟩)) (ev_fieldAddr (i := 1) Try.underlying57 rfl Try.info55 rfl rfl) (by decide) ?_
    refine sr_ev (v := v1) (ev_load Try.isAgg55 rfl (hB3.cell rfl)) (by decide) ?_
    refine sr_ev (v := .int .i64 y12) (ev_move rfl) (by decide) ?_
    obtain ⟨y35, hy36, hS⟩ := bind_some' hS
    obtain ⟨b37, o38, cs40, hq41, he39, hg44, ho45⟩ := h2.elemQ (P := Try.prog) Try.underlying55 Try.info65 rfl hy36
    obtain ⟨v42, hcshe39, h43⟩ := he39.rd
    obtain rfl : cs40 = [str y35.from_, str y35.to_, v42, .int .i64 y35.window.From, .int .i64 y35.window.Until] := hcshe39
    refine sr_ev (v := .pointer (some ⟨b37, o38, none⟩)) (hq41 w31 rfl rfl) (by decide) ?_
    refine sr_ev (v := .pointer (some ⟨b37, o38 + 2, none⟩)) (ev_fieldAddr (i := 2) Try.underlying65 rfl Try.info23 rfl rfl) (by decide) ?_
    refine sr_ev (v := v42) (ev_load Try.isAgg23 rfl (he39.cell 2 _ rfl)) (by decide) ?_
    obtain ⟨y46, hy47, hS⟩ := bind_some' hS
    refine sr_call (vs := [v4, v42]) rfl Try.call56 rfl (ref29_Within_ok _ (hg.fr hz hb) h5.asSl h43.asSl hy47) (by decide) ?_
    rintro _ w48 ⟨rfl, hbw49⟩
    have htr50 := Tr.of_below hbw49 hb.bd
    replace hb := hb.trans htr50
    refine sr_ev (v := .bool (!y46)) (ev_not rfl) (by decide) ?_
    refine sr_end (l' := [(45, .bool (!y46))]) (.cons rfl (.nil _)) ?_
    refine ke_cond (t := !y46) rfl (fun hc51 => ?_) (fun hc51 => ?_)
    ·replace hS := ite_true' hS hc51
     refine ke_seq ?_
     refine ke_region ?_
     refine sr_ev (v := .int .i64 19) (ev_assign rfl) (by decide) ?_
     refine sr_end (l' := [(10, .int .i64 19)]) (.cons rfl (.nil _)) ?_
     cases hS
     exact ke_ret1 Try.func33 rfl rfl ⟨_, rfl, rfl, (hb.below (flat1_le _))⟩
    ·replace hS := ite_false' hS hc51
     refine ke_skip ?_
     refine ke_seq ?_
     refine ke_region ?_
     refine sr_ev (v := .int .i64 0) (ev_assign rfl) (by decide) ?_
     refine sr_end (l' := [(10, .int .i64 0)]) (.cons rfl (.nil _)) ?_
     cases hS
     exact ke_ret1 Try.func33 rfl rfl ⟨_, rfl, rfl, (hb.below (flat1_le _))⟩
theorem law35_done_ok (w0 : World) (hg : Gs w0) {ρA : Tags} (hbd : ∀ b, ρA b ≠ 0 → b < w0.heap.size) (hz : Gz ρA) {o : Nat} (ho2 : 2 ≤ o) {d_0 : ref35_Delegations} {x_1 : law35_Op} {v4 : Value} {gd_0 : Nat} {r : Int × ref35_Delegations} (h5 : SlR strC (Wb ρA) w0 v4 x_1.Scopes) (ho0 : ref35_Delegations.O (fun p => o + p) ρA w0 gd_0 d_0) (hS : law35_done d_0 x_1 = some r) :
  Calls Try.prog 14 #[.pointer (some ⟨gd_0, 0, none⟩), .agg #[.int .i64 x_1.Call, .int .i64 x_1.Now, str x_1.From, str x_1.To, v4, .int .i64 x_1.Window.From, .int .i64 x_1.Window.Until]] w0 (Ret (fun v w' => ∃ ρ', v = .int .i64 r.1 ∧ ref35_Delegations.O (fun p => o + p) ρ' w' gd_0 r.2 ∧ Tr ρA w0 (rng o 2) ρ' w')) := by
 unfold law35_done at hS
 have hb := enter_fr (ρ := ρA) (w := w0) (n := 2) ho2 hbd
 have hz := hz.enter (n := 2) ho2
 replace h5 := SlR.mv h5 (enter_rd (n := 2) ho2)
 obtain ⟨v1, hB3, h2⟩ := ho0
 replace hB3 := hB3.mv (enter_mv (p := 0) (n := 2) (by decide) ho2)
 replace h2 := h2.mv (enter_mv (p := 1) (n := 2) (by decide) ho2) (by decide)
 replace hB3 : Blk (enter ρA o 2) 100 w0 gd_0 (.cells #[.bool d_0.made, v1] 57 (0, 0)) := hB3
 replace h2 : OwnT ref35_one.c 65 (enter ρA o 2) 101 w0 v1 d_0.l := h2
 refine calls_of_ke Try.func14 rfl (n := 44) rfl rfl (l := [(0, .pointer (some ⟨gd_0, 0, none⟩)), (1, .agg #[.int .i64 x_1.Call, .int .i64 x_1.Now, str x_1.From, str x_1.To, v4, .int .i64 x_1.Window.From, .int .i64 x_1.Window.Until])]) rfl ?_
 refine ke_seq ?_
 refine ke_region ?_
 refine sr_boxT 5 (by decide) hb.bd rfl (by decide) ?_
 intro g6 ρ7 w8 hB10 htr9
 replace h5 := h5.mv htr9.rd
 replace hB3 := hB3.mv (htr9.mv (i := 100) rfl)
 replace h2 := h2.mv (htr9.mv (i := 101) rfl) (by decide)
 replace hb := hb.trans htr9
 replace hB10 : Blk ρ7 5 w8 g6 (.cells #[.int .i64 x_1.Call, .int .i64 x_1.Now, str x_1.From, str x_1.To, v4, .int .i64 x_1.Window.From, .int .i64 x_1.Window.Until] 35 (0, 0)) := hB10
 refine sr_ev (v := .int .i64 0) (ev_assign rfl) (by decide) ?_
 refine sr_end (l' := [(0, .pointer (some ⟨gd_0, 0, none⟩)), (3, .pointer (some ⟨g6, 0, none⟩))]) (.cons rfl (.cons rfl (.nil _))) ?_
 refine ke_seq ?_
 refine ke_seq ?_
 refine ke_region ?_
 refine sr_ev (v := .pointer (some ⟨g6, 0, none⟩)) (ev_fieldAddr (i := 0) Try.underlying35 rfl Try.info3 rfl rfl) (by decide) ?_
 refine sr_ev (v := .int .i64 x_1.Call) (ev_load Try.isAgg3 rfl (hB10.cell rfl)) (by decide) ?_
 refine sr_end (l' := [(0, .pointer (some ⟨gd_0, 0, none⟩)), (3, .pointer (some ⟨g6, 0, none⟩)), (6, .int .i64 x_1.Call)]) (.cons rfl (.cons rfl (.cons rfl (.nil _)))) ?_
 refine ke_block ?_
 refine ke_seq ?_
 refine ke_region ?_
 refine sr_ev (v := .bool (x_1.Call == 0)) (ev_eq rfl rfl) (by decide) ?_
 refine sr_ev (v := .bool (x_1.Call == 0)) (ev_assign rfl) (by decide) ?_
 refine sr_end (l' := [(0, .pointer (some ⟨gd_0, 0, none⟩)), (3, .pointer (some ⟨g6, 0, none⟩)), (6, .int .i64 x_1.Call), (7, .bool (x_1.Call == 0))]) (.cons rfl (.cons rfl (.cons rfl (.cons rfl (.nil _))))) ?_
 refine ke_cond (t := x_1.Call == 0) rfl (fun hc11 => ?_) (fun hc11 => ?_)
 ·replace hS := ite_true' hS hc11
  refine ke_seq ?_
  refine ke_region ?_
  refine sr_ev (v := .pointer (some ⟨gd_0, 0, none⟩)) (ev_move rfl) (by decide) ?_
  refine sr_ev (v := .pointer (some ⟨g6, 2, none⟩)) (ev_fieldAddr (i := 2) Try.underlying35 rfl Try.info9 rfl rfl) (by decide) ?_
  refine sr_ev (v := str x_1.From) (ev_load Try.isAgg9 rfl (hB10.cell rfl)) (by decide) ?_
  refine sr_ev (v := .pointer (some ⟨g6, 3, none⟩)) (ev_fieldAddr (i := 3) Try.underlying35 rfl Try.info9 rfl rfl) (by decide) ?_
  refine sr_ev (v := str x_1.To) (ev_load Try.isAgg9 rfl (hB10.cell rfl)) (by decide) ?_
  refine sr_ev (v := .pointer (some ⟨g6, 4, none⟩)) (ev_fieldAddr (i := 4) Try.underlying35 rfl Try.info23 rfl rfl) (by decide) ?_
  refine sr_ev (v := v4) (ev_load Try.isAgg23 rfl (hB10.cell rfl)) (by decide) ?_
  refine sr_ev (v := .pointer (some ⟨g6, 5, none⟩)) (ev_fieldAddr (i := 5) Try.underlying35 rfl Try.info33 rfl rfl) (by decide) ?_
  refine sr_ev (v := .agg #[.int .i64 x_1.Window.From, .int .i64 x_1.Window.Until]) (ev_loads (cs := [.int .i64 x_1.Window.From, .int .i64 x_1.Window.Until]) Try.isAgg33 Try.sizeOf33 rfl (hB10.cells (vs := [.int .i64 x_1.Window.From, .int .i64 x_1.Window.Until]) rfl)) (by decide) ?_
  obtain ⟨y12, hy13, hS⟩ := bind_some' hS
  refine sr_call (vs := [.pointer (some ⟨gd_0, 0, none⟩), str x_1.From, str x_1.To, v4, .agg #[.int .i64 x_1.Window.From, .int .i64 x_1.Window.Until]]) rfl Try.call30 rfl (ref35_Delegations_Allow_ok _ (hg.fr hz hb) (ρA := ρ7) hb.bd (hz.fr hg hb) (o := 100) (by decide) h5 (⟨_, hB3, h2⟩ : ref35_Delegations.O (fun p => 100 + p) ρ7 w8 gd_0 d_0) hy13) (by decide) ?_
  rintro _ w14 ⟨ρ20, rfl, ⟨v17, hB19, h18⟩, htr16⟩
  replace hb := hb.trans htr16
  replace hB19 : Blk ρ20 100 w14 gd_0 (.cells #[.bool y12.2.made, v17] 57 (0, 0)) := hB19
  replace h18 : OwnT ref35_one.c 65 ρ20 101 w14 v17 y12.2.l := h18
  refine sr_ev (v := .int .i64 y12.1) (ev_assign rfl) (by decide) ?_
  refine sr_end (l' := [(4, .int .i64 y12.1)]) (.cons rfl (.nil _)) ?_
  cases hS
  exact ke_ret1 Try.func14 rfl rfl ⟨_, rfl, leave ρA w0 o 2 ρ20, rfl, ⟨_, (hB19.mv (leave_mv (p := 0) (by decide) hb)), (h18.mv (leave_mv (p := 1) (by decide) hb) (Nat.ne_of_gt (Nat.lt_of_lt_of_le (Nat.lt_of_lt_of_le Nat.zero_lt_two ho2) (Nat.le_add_right _ _))))⟩, (leave_tr ho2 hb)⟩
 ·replace hS := ite_false' hS hc11
  refine ke_seq ?_
  refine ke_region ?_
  refine sr_ev (v := .bool (x_1.Call == 1)) (ev_eq rfl rfl) (by decide) ?_
  refine sr_ev (v := .bool (x_1.Call == 1)) (ev_assign rfl) (by decide) ?_
  refine sr_end (l' := [(0, .pointer (some ⟨gd_0, 0, none⟩)), (3, .pointer (some ⟨g6, 0, none⟩)), (6, .int .i64 x_1.Call), (19, .bool (x_1.Call == 1))]) (.cons rfl (.cons rfl (.cons rfl (.cons rfl (.nil _))))) ?_
  refine ke_cond (t := x_1.Call == 1) rfl (fun hc21 => ?_) (fun hc21 => ?_)
  ·replace hS := ite_true' hS hc21
   refine ke_seq ?_
   refine ke_region ?_
   refine sr_ev (v := .pointer (some ⟨gd_0, 0, none⟩)) (ev_move rfl) (by decide) ?_
   refine sr_ev (v := .pointer (some ⟨g6, 2, none⟩)) (ev_fieldAddr (i := 2) Try.underlying35 rfl Try.info9 rfl rfl) (by decide) ?_
   refine sr_ev (v := str x_1.From) (ev_load Try.isAgg9 rfl (hB10.cell rfl)) (by decide) ?_
   refine sr_ev (v := .pointer (some ⟨g6, 3, none⟩)) (ev_fieldAddr (i := 3) Try.underlying35 rfl Try.info9 rfl rfl) (by decide) ?_
   refine sr_ev (v := str x_1.To) (ev_load Try.isAgg9 rfl (hB10.cell rfl)) (by decide) ?_
   obtain ⟨y22, hy23, hS⟩ := bind_some' hS
   refine sr_call (vs := [.pointer (some ⟨gd_0, 0, none⟩), str x_1.From, str x_1.To]) rfl Try.call31 rfl (ref35_Delegations_Revoke_ok _ (hg.fr hz hb) (ρA := ρ7) hb.bd (hz.fr hg hb) (o := 100) (by decide) (⟨_, hB3, h2⟩ : ref35_Delegations.O (fun p => 100 + p) ρ7 w8 gd_0 d_0) hy23) (by decide) ?_
   rintro _ w24 ⟨ρ30, rfl, ⟨v27, hB29, h28⟩, htr26⟩
   replace hb := hb.trans htr26
   replace hB29 : Blk ρ30 100 w24 gd_0 (.cells #[.bool y22.2.made, v27] 57 (0, 0)) := hB29
   replace h28 : OwnT ref35_one.c 65 ρ30 101 w24 v27 y22.2.l := h28
   obtain ⟨y31, hy32, hS⟩ := bind_some' hS
   refine sr_call (vs := [.bool y22.1]) rfl Try.call29 rfl (law35_yes_ok _ (hg.fr hz hb) hy32) (by decide) ?_
   rintro _ w33 ⟨rfl, hbw34⟩
   have htr35 := Tr.of_below hbw34 hb.bd
   replace hB29 := hB29.mv (htr35.mv (i := 100) rfl)
   replace h28 := h28.mv (htr35.mv (i := 101) rfl) (by decide)
   replace hb := hb.trans htr35
   refine sr_ev (v := .int .i64 y31) (ev_assign rfl) (by decide) ?_
   refine sr_end (l' := [(4, .int .i64 y31)]) (.cons rfl (.nil _)) ?_
   cases hS
   exact ke_ret1 Try.func14 rfl rfl ⟨_, rfl, leave ρA w0 o 2 ρ30, rfl, ⟨_, (hB29.mv (leave_mv (p := 0) (by decide) hb)), (h28.mv (leave_mv (p := 1) (by decide) hb) (Nat.ne_of_gt (Nat.lt_of_lt_of_le (Nat.lt_of_lt_of_le Nat.zero_lt_two ho2) (Nat.le_add_right _ _))))⟩, (leave_tr ho2 hb)⟩
  ·replace hS := ite_false' hS hc21
   refine ke_seq ?_
   refine ke_region ?_
   refine sr_ev (v := .bool (x_1.Call == 2)) (ev_eq rfl rfl) (by decide) ?_
   refine sr_ev (v := .bool (x_1.Call == 2)) (ev_assign rfl) (by decide) ?_
   refine sr_end (l' := [(0, .pointer (some ⟨gd_0, 0, none⟩)), (3, .pointer (some ⟨g6, 0, none⟩)), (28, .bool (x_1.Call == 2))]) (.cons rfl (.cons rfl (.cons rfl (.nil _)))) ?_
   refine ke_cond (t := x_1.Call == 2) rfl (fun hc36 => ?_) (fun hc36 => ?_)
   ·replace hS := ite_true' hS hc36
    refine ke_seq ?_
    refine ke_region ?_
    refine sr_ev (v := .pointer (some ⟨gd_0, 0, none⟩)) (ev_move rfl) (by decide) ?_
    refine sr_ev (v := .pointer (some ⟨g6, 2, none⟩)) (ev_fieldAddr (i := 2) Try.underlying35 rfl Try.info9 rfl rfl) (by decide) ?_
    refine sr_ev (v := str x_1.From) (ev_load Try.isAgg9 rfl (hB10.cell rfl)) (by decide) ?_
    obtain ⟨y37, hy38, hS⟩ := bind_some' hS
    refine sr_call (vs := [.pointer (some ⟨gd_0, 0, none⟩), str x_1.From]) rfl Try.call32 rfl (ref35_Delegations_Drop_ok _ (hg.fr hz hb) (ρA := ρ7) hb.bd (hz.fr hg hb) (o := 100) (by decide) (⟨_, hB3, h2⟩ : ref35_Delegations.O (fun p => 100 + p) ρ7 w8 gd_0 d_0) hy38) (by decide) ?_
    rintro _ w39 ⟨ρ45, rfl, ⟨v42, hB44, h43⟩, htr41⟩
    replace hb := hb.trans htr41
    replace hB44 : Blk ρ45 100 w39 gd_0 (.cells #[.bool y37.2.made, v42] 57 (0, 0)) := hB44
    replace h43 : OwnT ref35_one.c 65 ρ45 101 w39 v42 y37.2.l := h43
    refine sr_ev (v := .int .i64 y37.1) (ev_assign rfl) (by decide) ?_
    refine sr_end (l' := [(4, .int .i64 y37.1)]) (.cons rfl (.nil _)) ?_
    cases hS
    exact ke_ret1 Try.func14 rfl rfl ⟨_, rfl, leave ρA w0 o 2 ρ45, rfl, ⟨_, (hB44.mv (leave_mv (p := 0) (by decide) hb)), (h43.mv (leave_mv (p := 1) (by decide) hb) (Nat.ne_of_gt (Nat.lt_of_lt_of_le (Nat.lt_of_lt_of_le Nat.zero_lt_two ho2) (Nat.le_add_right _ _))))⟩, (leave_tr ho2 hb)⟩
   ·replace hS := ite_false' hS hc36
    refine ke_skip ?_
    refine ke_inBlock ?_
    refine ke_seq ?_
    refine ke_region ?_
    refine sr_ev (v := .pointer (some ⟨gd_0, 0, none⟩)) (ev_move rfl) (by decide) ?_
    refine sr_ev (v := .pointer (some ⟨g6, 2, none⟩)) (ev_fieldAddr (i := 2) Try.underlying35 rfl Try.info9 rfl rfl) (by decide) ?_
    refine sr_ev (v := str x_1.From) (ev_load Try.isAgg9 rfl (hB10.cell rfl)) (by decide) ?_
    refine sr_ev (v := .pointer (some ⟨g6, 3, none⟩)) (ev_fieldAddr (i := 3) Try.underlying35 rfl Try.info9 rfl rfl) (by decide) ?_
    refine sr_ev (v := str x_1.To) (ev_load Try.isAgg9 rfl (hB10.cell rfl)) (by decide) ?_
    refine sr_ev (v := .pointer (some ⟨g6, 4, none⟩)) (ev_fieldAddr (i := 4) Try.underlying35 rfl Try.info23 rfl rfl) (by decide) ?_
    refine sr_ev (v := v4) (ev_load Try.isAgg23 rfl (hB10.cell rfl)) (by decide) ?_
    refine sr_ev (v := .pointer (some ⟨g6, 1, none⟩)) (ev_fieldAddr (i := 1) Try.underlying35 rfl Try.info3 rfl rfl) (by decide) ?_
    refine sr_ev (v := .int .i64 x_1.Now) (ev_load Try.isAgg3 rfl (hB10.cell rfl)) (by decide) ?_
    obtain ⟨y46, hy47, hS⟩ := bind_some' hS
    refine sr_call (vs := [.pointer (some ⟨gd_0, 0, none⟩), str x_1.From, str x_1.To, v4, .int .i64 x_1.Now]) rfl Try.call33 rfl (ref35_Delegations_May_ok _ (hg.fr hz hb) (ρA := ρ7) hb.bd (hz.fr hg hb) (τ0 := (fun p => 100 + p)) (fun p => Nat.le_add_right_of_le (by decide)) h5 (⟨_, hB3, h2⟩ : ref35_Delegations.O (fun p => 100 + p) ρ7 w8 gd_0 d_0) hy47) (by decide) ?_
    rintro _ w48 ⟨rfl, hbw49⟩
    have htr50 := Tr.of_below hbw49 hb.bd
    replace hB3 := hB3.mv (htr50.mv (i := 100) rfl)
    replace h2 := h2.mv (htr50.mv (i := 101) rfl) (by decide)
    replace hb := hb.trans htr50
    refine sr_ev (v := .int .i64 y46) (ev_assign rfl) (by decide) ?_
    refine sr_end (l' := [(4, .int .i64 y46)]) (.cons rfl (.nil _)) ?_
    cases hS
    exact ke_ret1 Try.func14 rfl rfl ⟨_, rfl, leave ρA w0 o 2 ρ7, rfl, ⟨_, (hB3.mv (leave_mv (p := 0) (by decide) hb)), (h2.mv (leave_mv (p := 1) (by decide) hb) (Nat.ne_of_gt (Nat.lt_of_lt_of_le (Nat.lt_of_lt_of_le Nat.zero_lt_two ho2) (Nat.le_add_right _ _))))⟩, (leave_tr ho2 hb)⟩
theorem ref35_Delegations_Chain_L2_ok {w0 : World} (hg : Gs w0) {ρA : Tags} (hbd : ∀ b, ρA b ≠ 0 → b < w0.heap.size) (hz : Gz (flat1 ρA)) (r0 : ref35_Delegations → List Str → List Str → Int → Int → Option (Int))
  (hr0 : ∀ {r : Int} {od_0 : ref35_Delegations} {users_1 : List Str} {scopes_2 : List Str} {now_3 : Int} {i_9 : Int} {gd_0 : Nat} {vusers_1 : Value} {vscopes_2 : Value}, r0 od_0 users_1 scopes_2 now_3 i_9 = some r → ∀ {ρ : Tags} {w : World}, (Fr (flat1 ρA) w0 ρ w) → (ref35_Delegations.O (fun _ => 1) ρ w gd_0 od_0) → (SlR strC (Wb ρ) w vusers_1 users_1) → (SlR strC (Wb ρ) w vscopes_2 scopes_2) → KE Try.prog 19 (Ret (fun v w' => v = .int .i64 r ∧ Below w0.heap.size w0 w')) 62 [.inLoop (sub (bodyOf Try.f19) [2, 2, 2, 1, 2, 2, 1]), .inBlock 0, .code (sub (bodyOf Try.f19) [2, 2, 2, 2])] [(0, .pointer (some ⟨gd_0, 0, none⟩)), (1, vusers_1), (2, vscopes_2), (3, .int .i64 now_3), (9, .int .i64 i_9)] w) : ∀ (n : Nat), ∀ {r : Int} {od_0 : ref35_Delegations} {users_1 : List Str} {scopes_2 : List Str} {now_3 : Int} {i_9 : Int} {k_10 : Int} {gd_0 : Nat} {vusers_1 : Value} {vscopes_2 : Value}, ref35_Delegations_Chain_L2 r0 n od_0 users_1 scopes_2 now_3 i_9 k_10 = some r → ∀ {ρ : Tags} {w : World}, (Fr (flat1 ρA) w0 ρ w) → (ref35_Delegations.O (fun _ => 1) ρ w gd_0 od_0) → (SlR strC (Wb ρ) w vusers_1 users_1) → (SlR strC (Wb ρ) w vscopes_2 scopes_2) → KE Try.prog 19 (Ret (fun v w' => v = .int .i64 r ∧ Below w0.heap.size w0 w')) 62 [.code (sub (bodyOf Try.f19) [2, 2, 2, 1, 2, 2, 1, 2, 1, 2, 2, 2, 1]), .inLoop (sub (bodyOf Try.f19) [2, 2, 2, 1, 2, 2, 1, 2, 1, 2, 2, 2, 1]), .inBlock 2, .inBlock 1, .code (sub (bodyOf Try.f19) [2, 2, 2, 1, 2, 2, 1, 2, 2]), .inLoop (sub (bodyOf Try.f19) [2, 2, 2, 1, 2, 2, 1]), .inBlock 0, .code (sub (bodyOf Try.f19) [2, 2, 2, 2])] [(0, .pointer (some ⟨gd_0, 0, none⟩)), (1, vusers_1), (2, vscopes_2), (3, .int .i64 now_3), (9, .int .i64 i_9), (10, .int .i64 k_10)] w := by
 intro n
 induction n with
 | zero => intro r od_0 users_1 scopes_2 now_3 i_9 k_10 gd_0 vusers_1 vscopes_2 hS; cases hS
 | succ n ih =>
  have hr1 : ∀ {r : Int} {od_0 : ref35_Delegations} {users_1 : List Str} {scopes_2 : List Str} {now_3 : Int} {i_9 : Int} {k_10 : Int} {gd_0 : Nat} {vusers_1 : Value} {vscopes_2 : Value}, ref35_Delegations_Chain_L2 r0 n od_0 users_1 scopes_2 now_3 i_9 k_10 = some r → ∀ {ρ : Tags} {w : World}, (Fr (flat1 ρA) w0 ρ w) → (ref35_Delegations.O (fun _ => 1) ρ w gd_0 od_0) → (SlR strC (Wb ρ) w vusers_1 users_1) → (SlR strC (Wb ρ) w vscopes_2 scopes_2) → KE Try.prog 19 (Ret (fun v w' => v = .int .i64 r ∧ Below w0.heap.size w0 w')) 62 [.inLoop (sub (bodyOf Try.f19) [2, 2, 2, 1, 2, 2, 1, 2, 1, 2, 2, 2, 1]), .inBlock 2, .inBlock 1, .code (sub (bodyOf Try.f19) [2, 2, 2, 1, 2, 2, 1, 2, 2]), .inLoop (sub (bodyOf Try.f19) [2, 2, 2, 1, 2, 2, 1]), .inBlock 0, .code (sub (bodyOf Try.f19) [2, 2, 2, 2])] [(0, .pointer (some ⟨gd_0, 0, none⟩)), (1, vusers_1), (2, vscopes_2), (3, .int .i64 now_3), (9, .int .i64 i_9), (10, .int .i64 k_10)] w := fun {r} {od_0} {users_1} {scopes_2} {now_3} {i_9} {k_10} {gd_0} {vusers_1} {vscopes_2} hS {ρ} {w} hb hod_0 husers_1 hscopes_2 => ke_inLoop (ih hS hb hod_0 husers_1 hscopes_2)
  clear ih
  intro r od_0 users_1 scopes_2 now_3 i_9 k_10 gd_0 vusers_1 vscopes_2 hS ρ w hb hod_0 husers_1 hscopes_2
  unfold ref35_Delegations_Chain_L2 at hS
  obtain ⟨v19, hB21, h20⟩ := hod_0
  replace hB21 : Blk ρ 1 w gd_0 (.cells #[.bool od_0.made, v19] 57 (0, 0)) := hB21
  replace h20 : OwnT ref35_one.c 65 ρ 1 w v19 od_0.l := h20
  refine ke_seq ?_
  refine ke_seq ?_
  refine ke_region ?_
  refine sr_ev (v := .int .i64 k_10) (ev_move rfl) (by decide) ?_
  refine sr_ev (v := .int .i64 i_9) (ev_move rfl) (by decide) ?_
  refine sr_ev (v := .bool (decide (k_10 < i_9))) (ev_lt rfl rfl) (by decide) ?_
  refine sr_end (l' := [(0, .pointer (some ⟨gd_0, 0, none⟩)), (1, vusers_1), (2, vscopes_2), (3, .int .i64 now_3), (9, .int .i64 i_9), (10, .int .i64 k_10), (27, .bool (decide (k_10 < i_9)))]) (.cons rfl (.cons rfl (.cons rfl (.cons rfl (.cons rfl (.cons rfl (.cons rfl (.nil _)))))))) ?_
  refine ke_cond (t := decide (k_10 < i_9)) rfl (fun hc22 => ?_) (fun hc22 => ?_)
  ·replace hS := ite_true' hS hc22
   refine ke_skip ?_
   refine ke_seq ?_
   refine ke_block ?_
   refine ke_seq ?_
   refine ke_region_q Try.mixed (by kernel_rfl) ?_
   refine sq_ev (v := vusers_1) (fun w1 hw1 => ev_move rfl) (by decide) ?_
   refine sq_ev (v := .int .i64 k_10) (fun w1 hw1 => ev_move rfl) (by decide) ?_
   obtain ⟨y25, hy26, hS⟩ := bind_some' hS
   obtain ⟨b27, o28, cs30, hq31, he29⟩ := ((SlT.of_sl (i := 0) husers_1)).elem (P := Try.prog) Try.underlying23 Try.info9 rfl hy26
   obtain rfl : cs30 = [str y25] := he29.rd
   refine sq_ev (v := .pointer (some ⟨b27, o28, none⟩)) (fun w1 hw1 => hq31 w1 rfl rfl) (by decide) ?_
   refine sq_ev (v := str y25) (fun w1 hw1 => ev_load Try.isAgg9 rfl ((he29.mv (Mv.of_below (i := 0) (ρ := ρ) hw1) (Nat.succ_pos _)).cell 0 _ rfl)) (by decide) ?_
   refine sq_ev (v := vusers_1) (fun w1 hw1 => ev_move rfl) (by decide) ?_
   refine sq_ev (v := .int .i64 i_9) (fun w1 hw1 => ev_move rfl) (by decide) ?_
   obtain ⟨y32, hy33, hS⟩ := bind_some' hS
   obtain ⟨b34, o35, cs37, hq38, he36⟩ := ((SlT.of_sl (i := 0) husers_1)).elem (P := Try.prog) Try.underlying23 Try.info9 rfl hy33
   obtain rfl : cs37 = [str y32] := he36.rd
   refine sq_ev (v := .pointer (some ⟨b34, o35, none⟩)) (fun w1 hw1 => hq38 w1 rfl rfl) (by decide) ?_
   refine sq_ev (v := str y32) (fun w1 hw1 => ev_load Try.isAgg9 rfl ((he36.mv (Mv.of_below (i := 0) (ρ := ρ) hw1) (Nat.succ_pos _)).cell 0 _ rfl)) (by decide) ?_
   refine sq_ev (v := .bool (y25 == y32)) (fun w1 hw1 => ev_seq rfl rfl) (by decide) ?_
   refine sq_end (l' := [(0, .pointer (some ⟨gd_0, 0, none⟩)), (1, vusers_1), (2, vscopes_2), (3, .int .i64 now_3), (9, .int .i64 i_9), (10, .int .i64 k_10), (38, .bool (y25 == y32))]) (.cons rfl (.cons rfl (.cons rfl (.cons rfl (.cons rfl (.cons rfl (.cons rfl (.nil _)))))))) (fun w24 hw23 => ?_)
   have htr39 := Tr.of_below hw23 hb.bd
   replace husers_1 := husers_1.mv htr39.rd
   replace hscopes_2 := hscopes_2.mv htr39.rd
   replace hB21 := hB21.mv (htr39.mv (i := 1) rfl)
   replace h20 := h20.mv (htr39.mv (i := 1) rfl) (by decide)
   replace hb := hb.trans htr39
   refine ke_cond (t := y25 == y32) rfl (fun hc40 => ?_) (fun hc40 => ?_)
   ·replace hS := ite_true' hS hc40
    refine ke_seq ?_
    refine ke_region ?_
    refine sr_ev (v := .int .i64 28) (ev_assign rfl) (by decide) ?_
    refine sr_end (l' := [(8, .int .i64 28)]) (.cons rfl (.nil _)) ?_
    cases hS
    exact ke_ret1 Try.func19 rfl rfl ⟨_, rfl, rfl, (hb.below (flat1_le _))⟩
   ·replace hS := ite_false' hS hc40
    refine ke_skip ?_
    refine ke_inBlock ?_
    refine ke_region ?_
    refine sr_ev (v := .int .i64 k_10) (ev_move rfl) (by decide) ?_
    refine sr_ev (v := .int .i64 (IntKind.i64.wrap (k_10 + 1))) (ev_add rfl rfl) (by decide) ?_
    refine sr_ev (v := .int .i64 (IntKind.i64.wrap (k_10 + 1))) (ev_assign rfl) (by decide) ?_
    refine sr_end (l' := [(0, .pointer (some ⟨gd_0, 0, none⟩)), (1, vusers_1), (2, vscopes_2), (3, .int .i64 now_3), (9, .int .i64 i_9), (10, .int .i64 (IntKind.i64.wrap (k_10 + 1)))]) (.cons rfl (.cons rfl (.cons rfl (.cons rfl (.cons rfl (.cons rfl (.nil _))))))) ?_
    have hK := hr1 hS hb ⟨_, hB21, h20⟩ husers_1 hscopes_2
    exact ke_weaken (l' := [(0, .pointer (some ⟨gd_0, 0, none⟩)), (1, vusers_1), (2, vscopes_2), (3, .int .i64 now_3), (9, .int .i64 i_9), (10, .int .i64 (IntKind.i64.wrap (k_10 + 1)))]) (.cons rfl (.cons rfl (.cons rfl (.cons rfl (.cons rfl (.cons rfl (.nil _))))))) hK
  ·replace hS := ite_false' hS hc22
   refine ke_exit (k' := _) rfl ?_
   refine ke_inBlock ?_
   refine ke_region ?_
   refine sr_ev (v := .int .i64 i_9) (ev_move rfl) (by decide) ?_
   refine sr_ev (v := .int .i64 (IntKind.i64.wrap (i_9 + 1))) (ev_add rfl rfl) (by decide) ?_
   refine sr_ev (v := .int .i64 (IntKind.i64.wrap (i_9 + 1))) (ev_assign rfl) (by decide) ?_
   refine sr_end (l' := [(0, .pointer (some ⟨gd_0, 0, none⟩)), (1, vusers_1), (2, vscopes_2), (3, .int .i64 now_3), (9, .int .i64 (IntKind.i64.wrap (i_9 + 1)))]) (.cons rfl (.cons rfl (.cons rfl (.cons rfl (.cons rfl (.nil _)))))) ?_
   have hK := hr0 hS hb ⟨_, hB21, h20⟩ husers_1 hscopes_2
   exact ke_weaken (l' := [(0, .pointer (some ⟨gd_0, 0, none⟩)), (1, vusers_1), (2, vscopes_2), (3, .int .i64 now_3), (9, .int .i64 (IntKind.i64.wrap (i_9 + 1)))]) (.cons rfl (.cons rfl (.cons rfl (.cons rfl (.cons rfl (.nil _)))))) hK
theorem ref35_Delegations_Chain_L3_ok {w0 : World} (hg : Gs w0) {ρA : Tags} (hbd : ∀ b, ρA b ≠ 0 → b < w0.heap.size) (hz : Gz (flat1 ρA)) (r0 : ref35_Delegations → List Str → List Str → Int → Int → Option (Int))
  (hr0 : ∀ {r : Int} {od_0 : ref35_Delegations} {users_1 : List Str} {scopes_2 : List Str} {now_3 : Int} {i_9 : Int} {gd_0 : Nat} {vusers_1 : Value} {vscopes_2 : Value}, r0 od_0 users_1 scopes_2 now_3 i_9 = some r → ∀ {ρ : Tags} {w : World}, (Fr (flat1 ρA) w0 ρ w) → (ref35_Delegations.O (fun _ => 1) ρ w gd_0 od_0) → (SlR strC (Wb ρ) w vusers_1 users_1) → (SlR strC (Wb ρ) w vscopes_2 scopes_2) → KE Try.prog 19 (Ret (fun v w' => v = .int .i64 r ∧ Below w0.heap.size w0 w')) 62 [.inLoop (sub (bodyOf Try.f19) [2, 2, 2, 1, 2, 2, 1]), .inBlock 0, .code (sub (bodyOf Try.f19) [2, 2, 2, 2])] [(0, .pointer (some ⟨gd_0, 0, none⟩)), (1, vusers_1), (2, vscopes_2), (3, .int .i64 now_3), (9, .int .i64 i_9)] w) : ∀ (n : Nat), ∀ {r : Int} {od_0 : ref35_Delegations} {users_1 : List Str} {scopes_2 : List Str} {now_3 : Int} {i_11 : Int} {gd_0 : Nat} {vusers_1 : Value} {vscopes_2 : Value}, ref35_Delegations_Chain_L3 r0 n od_0 users_1 scopes_2 now_3 i_11 = some r → ∀ {ρ : Tags} {w : World}, (Fr (flat1 ρA) w0 ρ w) → (ref35_Delegations.O (fun _ => 1) ρ w gd_0 od_0) → (SlR strC (Wb ρ) w vusers_1 users_1) → (SlR strC (Wb ρ) w vscopes_2 scopes_2) → KE Try.prog 19 (Ret (fun v w' => v = .int .i64 r ∧ Below w0.heap.size w0 w')) 62 [.code (sub (bodyOf Try.f19) [2, 2, 2, 2, 1, 2, 2, 1]), .inLoop (sub (bodyOf Try.f19) [2, 2, 2, 2, 1, 2, 2, 1]), .inBlock 4, .code (sub (bodyOf Try.f19) [2, 2, 2, 2, 2])] [(0, .pointer (some ⟨gd_0, 0, none⟩)), (1, vusers_1), (2, vscopes_2), (3, .int .i64 now_3), (11, .int .i64 i_11)] w := by
 intro n
 induction n with
 | zero => intro r od_0 users_1 scopes_2 now_3 i_11 gd_0 vusers_1 vscopes_2 hS; cases hS
 | succ n ih =>
  have hr1 : ∀ {r : Int} {od_0 : ref35_Delegations} {users_1 : List Str} {scopes_2 : List Str} {now_3 : Int} {i_11 : Int} {gd_0 : Nat} {vusers_1 : Value} {vscopes_2 : Value}, ref35_Delegations_Chain_L3 r0 n od_0 users_1 scopes_2 now_3 i_11 = some r → ∀ {ρ : Tags} {w : World}, (Fr (flat1 ρA) w0 ρ w) → (ref35_Delegations.O (fun _ => 1) ρ w gd_0 od_0) → (SlR strC (Wb ρ) w vusers_1 users_1) → (SlR strC (Wb ρ) w vscopes_2 scopes_2) → KE Try.prog 19 (Ret (fun v w' => v = .int .i64 r ∧ Below w0.heap.size w0 w')) 62 [.inLoop (sub (bodyOf Try.f19) [2, 2, 2, 2, 1, 2, 2, 1]), .inBlock 4, .code (sub (bodyOf Try.f19) [2, 2, 2, 2, 2])] [(0, .pointer (some ⟨gd_0, 0, none⟩)), (1, vusers_1), (2, vscopes_2), (3, .int .i64 now_3), (11, .int .i64 i_11)] w := fun {r} {od_0} {users_1} {scopes_2} {now_3} {i_11} {gd_0} {vusers_1} {vscopes_2} hS {ρ} {w} hb hod_0 husers_1 hscopes_2 => ke_inLoop (ih hS hb hod_0 husers_1 hscopes_2)
  clear ih
  intro r od_0 users_1 scopes_2 now_3 i_11 gd_0 vusers_1 vscopes_2 hS ρ w hb hod_0 husers_1 hscopes_2
  unfold ref35_Delegations_Chain_L3 at hS
  obtain ⟨v41, hB43, h42⟩ := hod_0
  replace hB43 : Blk ρ 1 w gd_0 (.cells #[.bool od_0.made, v41] 57 (0, 0)) := hB43
  replace h42 : OwnT ref35_one.c 65 ρ 1 w v41 od_0.l := h42
  refine ke_seq ?_
  refine ke_seq ?_
  refine ke_region ?_
  refine sr_ev (v := .int .i64 i_11) (ev_move rfl) (by decide) ?_
  refine sr_ev (v := .int .i64 (IntKind.i64.wrap (i_11 + 1))) (ev_add rfl rfl) (by decide) ?_
  refine sr_ev (v := vusers_1) (ev_move rfl) (by decide) ?_
  refine sr_ev (v := .int .i64 (users_1.length : Int)) (ev_sllen Try.underlying23 rfl husers_1.asSl) (by decide) ?_
  refine sr_ev (v := .bool (decide ((IntKind.i64.wrap (i_11 + 1)) < (users_1.length : Int)))) (ev_lt rfl rfl) (by decide) ?_
  refine sr_end (l' := [(0, .pointer (some ⟨gd_0, 0, none⟩)), (1, vusers_1), (2, vscopes_2), (3, .int .i64 now_3), (11, .int .i64 i_11), (43, .bool (decide ((IntKind.i64.wrap (i_11 + 1)) < (users_1.length : Int))))]) (.cons rfl (.cons rfl (.cons rfl (.cons rfl (.cons rfl (.cons rfl (.nil _))))))) ?_
  refine ke_cond (t := decide ((IntKind.i64.wrap (i_11 + 1)) < (users_1.length : Int))) rfl (fun hc44 => ?_) (fun hc44 => ?_)
  ·replace hS := ite_true' hS hc44
   refine ke_skip ?_
   refine ke_seq ?_
   refine ke_block ?_
   refine ke_seq ?_
   refine ke_region_q Try.mixed (by kernel_rfl) ?_
   refine sq_ev (v := .pointer (some ⟨gd_0, 0, none⟩)) (fun w1 hw1 => ev_move rfl) (by decide) ?_
   refine sq_ev (v := vusers_1) (fun w1 hw1 => ev_move rfl) (by decide) ?_
   refine sq_ev (v := .int .i64 i_11) (fun w1 hw1 => ev_move rfl) (by decide) ?_
   obtain ⟨y47, hy48, hS⟩ := bind_some' hS
   obtain ⟨b49, o50, cs52, hq53, he51⟩ := ((SlT.of_sl (i := 0) husers_1)).elem (P := Try.prog) Try.underlying23 Try.info9 rfl hy48
   obtain rfl : cs52 = [str y47] := he51.rd
   refine sq_ev (v := .pointer (some ⟨b49, o50, none⟩)) (fun w1 hw1 => hq53 w1 rfl rfl) (by decide) ?_
   refine sq_ev (v := str y47) (fun w1 hw1 => ev_load Try.isAgg9 rfl ((he51.mv (Mv.of_below (i := 0) (ρ := ρ) hw1) (Nat.succ_pos _)).cell 0 _ rfl)) (by decide) ?_
   refine sq_ev (v := vusers_1) (fun w1 hw1 => ev_move rfl) (by decide) ?_
   refine sq_ev (v := .int .i64 i_11) (fun w1 hw1 => ev_move rfl) (by decide) ?_
   refine sq_ev (v := .int .i64 (IntKind.i64.wrap (i_11 + 1))) (fun w1 hw1 => ev_add rfl rfl) (by decide) ?_
   obtain ⟨y54, hy55, hS⟩ := bind_some' hS
   obtain ⟨b56, o57, cs59, hq60, he58⟩ := ((SlT.of_sl (i := 0) husers_1)).elem (P := Try.prog) Try.underlying23 Try.info9 rfl hy55
   obtain rfl : cs59 = [str y54] := he58.rd
   refine sq_ev (v := .pointer (some ⟨b56, o57, none⟩)) (fun w1 hw1 => hq60 w1 rfl rfl) (by decide) ?_
   refine sq_ev (v := str y54) (fun w1 hw1 => ev_load Try.isAgg9 rfl ((he58.mv (Mv.of_below (i := 0) (ρ := ρ) hw1) (Nat.succ_pos _)).cell 0 _ rfl)) (by decide) ?_
   refine sq_ev (v := vscopes_2) (fun w1 hw1 => ev_move rfl) (by decide) ?_
   refine sq_ev (v := .int .i64 now_3) (fun w1 hw1 => ev_move rfl) (by decide) ?_
   obtain ⟨y61, hy62, hS⟩ := bind_some' hS
   refine sq_call (v := .int .i64 y61) (vs := [.pointer (some ⟨gd_0, 0, none⟩), str y47, str y54, vscopes_2, .int .i64 now_3]) rfl Try.call33 rfl (fun w1 hw1 => (ref35_Delegations_May_ok _ ((hg.fr hz hb).below hw1) (ρA := ρ) (fun b h => Nat.lt_of_lt_of_le (hb.bd b h) hw1.size) (hz.fr hg hb) (τ0 := (fun _ => 1)) (fun _ => Nat.le_refl 1) (hscopes_2.mv (Mv.of_below (i := 0) hw1)) (⟨_, (hB43.mv (Mv.of_below (i := 1) (ρ := ρ) hw1)), (h42.mv (Mv.of_below (i := 1) (ρ := ρ) hw1) (by decide))⟩ : ref35_Delegations.O (fun _ => 1) ρ w1 gd_0 od_0) hy62)) (by decide) ?_
   refine sq_ev (v := .int .i64 y61) (fun w1 hw1 => ev_assign rfl) (by decide) ?_
   refine sq_end (l' := [(0, .pointer (some ⟨gd_0, 0, none⟩)), (1, vusers_1), (2, vscopes_2), (3, .int .i64 now_3), (11, .int .i64 i_11), (12, .int .i64 y61)]) (.cons rfl (.cons rfl (.cons rfl (.cons rfl (.cons rfl (.cons rfl (.nil _))))))) (fun w46 hw45 => ?_)
   have htr66 := Tr.of_below hw45 hb.bd
   replace husers_1 := husers_1.mv htr66.rd
   replace hscopes_2 := hscopes_2.mv htr66.rd
   replace hB43 := hB43.mv (htr66.mv (i := 1) rfl)
   replace h42 := h42.mv (htr66.mv (i := 1) rfl) (by decide)
   replace hb := hb.trans htr66
   refine ke_seq ?_
   refine ke_region ?_
   refine sr_ev (v := .int .i64 y61) (ev_move rfl) (by decide) ?_
   refine sr_ev (v := .bool (y61 != 0)) (ev_ne rfl rfl) (by decide) ?_
   refine sr_end (l' := [(0, .pointer (some ⟨gd_0, 0, none⟩)), (1, vusers_1), (2, vscopes_2), (3, .int .i64 now_3), (11, .int .i64 i_11), (12, .int .i64 y61), (60, .bool (y61 != 0))]) (.cons rfl (.cons rfl (.cons rfl (.cons rfl (.cons rfl (.cons rfl (.cons rfl (.nil _)))))))) ?_
   refine ke_cond (t := y61 != 0) rfl (fun hc67 => ?_) (fun hc67 => ?_)
   ·replace hS := ite_true' hS hc67
    refine ke_seq ?_
    refine ke_region ?_
    refine sr_ev (v := .int .i64 y61) (ev_move rfl) (by decide) ?_
    refine sr_ev (v := .int .i64 y61) (ev_assign rfl) (by decide) ?_
    refine sr_end (l' := [(8, .int .i64 y61)]) (.cons rfl (.nil _)) ?_
    cases hS
    exact ke_ret1 Try.func19 rfl rfl ⟨_, rfl, rfl, (hb.below (flat1_le _))⟩
   ·replace hS := ite_false' hS hc67
    refine ke_skip ?_
    refine ke_inBlock ?_
    refine ke_region ?_
    refine sr_ev (v := .int .i64 i_11) (ev_move rfl) (by decide) ?_
    refine sr_ev (v := .int .i64 (IntKind.i64.wrap (i_11 + 1))) (ev_add rfl rfl) (by decide) ?_
    refine sr_ev (v := .int .i64 (IntKind.i64.wrap (i_11 + 1))) (ev_assign rfl) (by decide) ?_
    refine sr_end (l' := [(0, .pointer (some ⟨gd_0, 0, none⟩)), (1, vusers_1), (2, vscopes_2), (3, .int .i64 now_3), (11, .int .i64 (IntKind.i64.wrap (i_11 + 1)))]) (.cons rfl (.cons rfl (.cons rfl (.cons rfl (.cons rfl (.nil _)))))) ?_
    have hK := hr1 hS hb ⟨_, hB43, h42⟩ husers_1 hscopes_2
    exact ke_weaken (l' := [(0, .pointer (some ⟨gd_0, 0, none⟩)), (1, vusers_1), (2, vscopes_2), (3, .int .i64 now_3), (11, .int .i64 (IntKind.i64.wrap (i_11 + 1)))]) (.cons rfl (.cons rfl (.cons rfl (.cons rfl (.cons rfl (.nil _)))))) hK
  ·replace hS := ite_false' hS hc44
   refine ke_exit (k' := _) rfl ?_
   refine ke_seq ?_
   refine ke_region ?_
   refine sr_ev (v := .int .i64 0) (ev_assign rfl) (by decide) ?_
   refine sr_end (l' := [(8, .int .i64 0)]) (.cons rfl (.nil _)) ?_
   cases hS
   exact ke_ret1 Try.func19 rfl rfl ⟨_, rfl, rfl, (hb.below (flat1_le _))⟩
theorem ref35_Delegations_Chain_L1_ok {w0 : World} (hg : Gs w0) {ρA : Tags} (hbd : ∀ b, ρA b ≠ 0 → b < w0.heap.size) (hz : Gz (flat1 ρA)) : ∀ (n : Nat), ∀ {r : Int} {od_0 : ref35_Delegations} {users_1 : List Str} {scopes_2 : List Str} {now_3 : Int} {i_9 : Int} {gd_0 : Nat} {vusers_1 : Value} {vscopes_2 : Value}, ref35_Delegations_Chain_L1 n od_0 users_1 scopes_2 now_3 i_9 = some r → ∀ {ρ : Tags} {w : World}, (Fr (flat1 ρA) w0 ρ w) → (ref35_Delegations.O (fun _ => 1) ρ w gd_0 od_0) → (SlR strC (Wb ρ) w vusers_1 users_1) → (SlR strC (Wb ρ) w vscopes_2 scopes_2) → KE Try.prog 19 (Ret (fun v w' => v = .int .i64 r ∧ Below w0.heap.size w0 w')) 62 [.code (sub (bodyOf Try.f19) [2, 2, 2, 1, 2, 2, 1]), .inLoop (sub (bodyOf Try.f19) [2, 2, 2, 1, 2, 2, 1]), .inBlock 0, .code (sub (bodyOf Try.f19) [2, 2, 2, 2])] [(0, .pointer (some ⟨gd_0, 0, none⟩)), (1, vusers_1), (2, vscopes_2), (3, .int .i64 now_3), (9, .int .i64 i_9)] w := by
 intro n
 induction n with
 | zero => intro r od_0 users_1 scopes_2 now_3 i_9 gd_0 vusers_1 vscopes_2 hS; cases hS
 | succ n ih =>
  have hr0 : ∀ {r : Int} {od_0 : ref35_Delegations} {users_1 : List Str} {scopes_2 : List Str} {now_3 : Int} {i_9 : Int} {gd_0 : Nat} {vusers_1 : Value} {vscopes_2 : Value}, ref35_Delegations_Chain_L1 n od_0 users_1 scopes_2 now_3 i_9 = some r → ∀ {ρ : Tags} {w : World}, (Fr (flat1 ρA) w0 ρ w) → (ref35_Delegations.O (fun _ => 1) ρ w gd_0 od_0) → (SlR strC (Wb ρ) w vusers_1 users_1) → (SlR strC (Wb ρ) w vscopes_2 scopes_2) → KE Try.prog 19 (Ret (fun v w' => v = .int .i64 r ∧ Below w0.heap.size w0 w')) 62 [.inLoop (sub (bodyOf Try.f19) [2, 2, 2, 1, 2, 2, 1]), .inBlock 0, .code (sub (bodyOf Try.f19) [2, 2, 2, 2])] [(0, .pointer (some ⟨gd_0, 0, none⟩)), (1, vusers_1), (2, vscopes_2), (3, .int .i64 now_3), (9, .int .i64 i_9)] w := fun {r} {od_0} {users_1} {scopes_2} {now_3} {i_9} {gd_0} {vusers_1} {vscopes_2} hS {ρ} {w} hb hod_0 husers_1 hscopes_2 => ke_inLoop (ih hS hb hod_0 husers_1 hscopes_2)
  clear ih
  intro r od_0 users_1 scopes_2 now_3 i_9 gd_0 vusers_1 vscopes_2 hS ρ w hb hod_0 husers_1 hscopes_2
  unfold ref35_Delegations_Chain_L1 at hS
  obtain ⟨v15, hB17, h16⟩ := hod_0
  replace hB17 : Blk ρ 1 w gd_0 (.cells #[.bool od_0.made, v15] 57 (0, 0)) := hB17
  replace h16 : OwnT ref35_one.c 65 ρ 1 w v15 od_0.l := h16
  refine ke_seq ?_
  refine ke_seq ?_
  refine ke_region ?_
  refine sr_ev (v := .int .i64 i_9) (ev_move rfl) (by decide) ?_
  refine sr_ev (v := vusers_1) (ev_move rfl) (by decide) ?_
  refine sr_ev (v := .int .i64 (users_1.length : Int)) (ev_sllen Try.underlying23 rfl husers_1.asSl) (by decide) ?_
  refine sr_ev (v := .bool (decide (i_9 < (users_1.length : Int)))) (ev_lt rfl rfl) (by decide) ?_
  refine sr_end (l' := [(0, .pointer (some ⟨gd_0, 0, none⟩)), (1, vusers_1), (2, vscopes_2), (3, .int .i64 now_3), (9, .int .i64 i_9), (22, .bool (decide (i_9 < (users_1.length : Int))))]) (.cons rfl (.cons rfl (.cons rfl (.cons rfl (.cons rfl (.cons rfl (.nil _))))))) ?_
  refine ke_cond (t := decide (i_9 < (users_1.length : Int))) rfl (fun hc18 => ?_) (fun hc18 => ?_)
  ·replace hS := ite_true' hS hc18
   refine ke_skip ?_
   refine ke_seq ?_
   refine ke_block ?_
   refine ke_seq ?_
   refine ke_region ?_
   refine sr_ev (v := .int .i64 0) (ev_assign rfl) (by decide) ?_
   refine sr_end (l' := [(0, .pointer (some ⟨gd_0, 0, none⟩)), (1, vusers_1), (2, vscopes_2), (3, .int .i64 now_3), (9, .int .i64 i_9), (10, .int .i64 0)]) (.cons rfl (.cons rfl (.cons rfl (.cons rfl (.cons rfl (.cons rfl (.nil _))))))) ?_
   refine ke_block ?_
   have hK := ref35_Delegations_Chain_L2_ok hg hbd hz _ hr0 _ hS hb ⟨_, hB17, h16⟩ husers_1 hscopes_2
   exact ke_weaken (l' := [(0, .pointer (some ⟨gd_0, 0, none⟩)), (1, vusers_1), (2, vscopes_2), (3, .int .i64 now_3), (9, .int .i64 i_9), (10, .int .i64 0)]) (.cons rfl (.cons rfl (.cons rfl (.cons rfl (.cons rfl (.cons rfl (.nil _))))))) (ke_loop hK)
  ·replace hS := ite_false' hS hc18
   refine ke_exit (k' := _) rfl ?_
   refine ke_seq ?_
   refine ke_seq ?_
   refine ke_region ?_
   refine sr_ev (v := .int .i64 0) (ev_assign rfl) (by decide) ?_
   refine sr_end (l' := [(0, .pointer (some ⟨gd_0, 0, none⟩)), (1, vusers_1), (2, vscopes_2), (3, .int .i64 now_3), (11, .int .i64 0)]) (.cons rfl (.cons rfl (.cons rfl (.cons rfl (.cons rfl (.nil _)))))) ?_
   refine ke_block ?_
   have hK := ref35_Delegations_Chain_L3_ok hg hbd hz _ hr0 _ hS hb ⟨_, hB17, h16⟩ husers_1 hscopes_2
   exact ke_weaken (l' := [(0, .pointer (some ⟨gd_0, 0, none⟩)), (1, vusers_1), (2, vscopes_2), (3, .int .i64 now_3), (11, .int .i64 0)]) (.cons rfl (.cons rfl (.cons rfl (.cons rfl (.cons rfl (.nil _)))))) (ke_loop hK)
theorem ref35_Delegations_Chain_ok (w0 : World) (hg : Gs w0) {ρA : Tags} (hbd : ∀ b, ρA b ≠ 0 → b < w0.heap.size) (hz : Gz ρA) {τ0 : Nat → Nat} (hτ0 : ∀ p, 1 ≤ τ0 p) {d_0 : ref35_Delegations} {users_1 : List Str} {scopes_2 : List Str} {now_3 : Int} {v4 : Value} {v6 : Value} {gd_0 : Nat} {r : Int} (h5 : SlR strC (Wb ρA) w0 v4 users_1) (h7 : SlR strC (Wb ρA) w0 v6 scopes_2) (ho0 : ref35_Delegations.O τ0 ρA w0 gd_0 d_0) (hS : ref35_Delegations_Chain d_0 users_1 scopes_2 now_3 = some r) :
  Calls Try.prog 19 #[.pointer (some ⟨gd_0, 0, none⟩), v4, v6, .int .i64 now_3] w0 (Ret (fun v w' => v = .int .i64 r ∧ Below w0.heap.size w0 w')) := by
 unfold ref35_Delegations_Chain at hS
 have hb := flat1_fr (ρ := ρA) (w := w0) hbd
 have hz := hz.flat1
 replace h5 := SlR.mv h5 flat1_rd
 replace h7 := SlR.mv h7 flat1_rd
 obtain ⟨v1, hB3, h2⟩ := ho0
 replace hB3 := hB3.mv (flat1_mv (hτ0 0))
 replace h2 := h2.mv (flat1_mv (hτ0 1)) (by decide)
 replace hB3 : Blk (flat1 ρA) 1 w0 gd_0 (.cells #[.bool d_0.made, v1] 57 (0, 0)) := hB3
 replace h2 : OwnT ref35_one.c 65 (flat1 ρA) 1 w0 v1 d_0.l := h2
 refine calls_of_ke Try.func19 rfl (n := 62) rfl rfl (l := [(0, .pointer (some ⟨gd_0, 0, none⟩)), (1, v4), (2, v6), (3, .int .i64 now_3)]) rfl ?_
 refine ke_seq ?_
 refine ke_region ?_
 refine sr_ev (v := .int .i64 0) (ev_assign rfl) (by decide) ?_
 refine sr_end (l' := [(0, .pointer (some ⟨gd_0, 0, none⟩)), (1, v4), (2, v6), (3, .int .i64 now_3)]) (.cons rfl (.cons rfl (.cons rfl (.cons rfl (.nil _))))) ?_
 refine ke_seq ?_
 refine ke_seq ?_
 refine ke_region ?_
 refine sr_ev (v := .pointer (some ⟨gd_0, 0, none⟩)) (ev_move rfl) (by decide) ?_
 obtain ⟨y8, hy9, hS⟩ := bind_some' hS
 refine sr_call (vs := [.pointer (some ⟨gd_0, 0, none⟩)]) rfl Try.call35 rfl (ref35_Delegations_Made_ok _ (hg.fr hz hb) (ρA := (flat1 ρA)) hb.bd (hz.fr hg hb) (τ0 := (fun _ => 1)) (fun _ => Nat.le_refl 1) (⟨_, hB3, h2⟩ : ref35_Delegations.O (fun _ => 1) (flat1 ρA) w0 gd_0 d_0) hy9) (by decide) ?_
 rintro _ w10 ⟨rfl, hbw11⟩
 have htr12 := Tr.of_below hbw11 hb.bd
 replace h5 := h5.mv htr12.rd
 replace h7 := h7.mv htr12.rd
 replace hB3 := hB3.mv (htr12.mv (i := 1) rfl)
 replace h2 := h2.mv (htr12.mv (i := 1) rfl) (by decide)
 replace hb := hb.trans htr12
 refine sr_ev (v := .bool (!y8)) (ev_not rfl) (by decide) ?_
 refine sr_end (l' := [(0, .pointer (some ⟨gd_0, 0, none⟩)), (1, v4), (2, v6), (3, .int .i64 now_3), (15, .bool (!y8))]) (.cons rfl (.cons rfl (.cons rfl (.cons rfl (.cons rfl (.nil _)))))) ?_
 refine ke_cond (t := !y8) rfl (fun hc13 => ?_) (fun hc13 => ?_)
 ·replace hS := ite_true' hS hc13
  refine ke_seq ?_
  refine ke_region ?_
  refine sr_ev (v := .int .i64 1) (ev_assign rfl) (by decide) ?_
  refine sr_end (l' := [(8, .int .i64 1)]) (.cons rfl (.nil _)) ?_
  cases hS
  exact ke_ret1 Try.func19 rfl rfl ⟨_, rfl, rfl, (hb.below (flat1_le _))⟩
 ·replace hS := ite_false' hS hc13
  refine ke_skip ?_
  refine ke_seq ?_
  refine ke_seq ?_
  refine ke_region ?_
  refine sr_ev (v := v4) (ev_move rfl) (by decide) ?_
  refine sr_ev (v := .int .i64 (users_1.length : Int)) (ev_sllen Try.underlying23 rfl h5.asSl) (by decide) ?_
  refine sr_ev (v := .bool (decide ((users_1.length : Int) > 5))) (ev_gt rfl rfl) (by decide) ?_
  refine sr_end (l' := [(0, .pointer (some ⟨gd_0, 0, none⟩)), (1, v4), (2, v6), (3, .int .i64 now_3), (18, .bool (decide ((users_1.length : Int) > 5)))]) (.cons rfl (.cons rfl (.cons rfl (.cons rfl (.cons rfl (.nil _)))))) ?_
  refine ke_cond (t := decide ((users_1.length : Int) > 5)) rfl (fun hc14 => ?_) (fun hc14 => ?_)
  ·replace hS := ite_true' hS hc14
   refine ke_seq ?_
   refine ke_region ?_
   refine sr_ev (v := .int .i64 3) (ev_assign rfl) (by decide) ?_
   refine sr_end (l' := [(8, .int .i64 3)]) (.cons rfl (.nil _)) ?_
   cases hS
   exact ke_ret1 Try.func19 rfl rfl ⟨_, rfl, rfl, (hb.below (flat1_le _))⟩
  ·replace hS := ite_false' hS hc14
   refine ke_skip ?_
   refine ke_seq ?_
   refine ke_seq ?_
   refine ke_region ?_
   refine sr_ev (v := .int .i64 0) (ev_assign rfl) (by decide) ?_
   refine sr_end (l' := [(0, .pointer (some ⟨gd_0, 0, none⟩)), (1, v4), (2, v6), (3, .int .i64 now_3), (9, .int .i64 0)]) (.cons rfl (.cons rfl (.cons rfl (.cons rfl (.cons rfl (.nil _)))))) ?_
   refine ke_block ?_
   have hK := ref35_Delegations_Chain_L1_ok hg hbd hz _ hS hb ⟨_, hB3, h2⟩ h5 h7
   exact ke_weaken (l' := [(0, .pointer (some ⟨gd_0, 0, none⟩)), (1, v4), (2, v6), (3, .int .i64 now_3), (9, .int .i64 0)]) (.cons rfl (.cons rfl (.cons rfl (.cons rfl (.cons rfl (.nil _)))))) (ke_loop hK)
theorem ref06_Insert_B3_ok {w0 : World} (hg : Gs w0) {A0 : Nat → Prop} (hA0 : ∀ b, A0 b → b < w0.heap.size) (r0 : List Str → Str → List Str → Bool → Int → Option (List Str))
  (hr0 : ∀ {r : List Str} {l_0 : List Str} {s_1 : Str} {out_5 : List Str} {done_6 : Bool} {i_7 : Int} {vl_0 : Value} {vout_5 : Value}, r0 l_0 s_1 out_5 done_6 i_7 = some r → ∀ {w : World} {A : Nat → Prop}, (Below w0.heap.size w0 w) → (∀ b, A b → b < w.heap.size) → (∀ b, A0 b → A b) → (Hp A w0.heap.size w []) → (SlR strC A w vl_0 l_0) → (OwnS strC 9 A w0.heap.size w vout_5 out_5) → (Dj vout_5 []) → KE Try.prog 43 (Ret (fun v w' => ∃ x1, v = x1 ∧ SlR strC A0 w' x1 r ∧ Below w0.heap.size w0 w')) 48 [.inLoop (sub (bodyOf Try.f43) [2, 2, 2, 1, 2, 2, 1]), .inBlock 0, .code (sub (bodyOf Try.f43) [2, 2, 2, 2])] [(0, vl_0), (1, str s_1), (5, vout_5), (6, .bool done_6), (7, .int .i64 i_7)] w) {r : List Str} {l_0 : List Str} {s_1 : Str} {out_5 : List Str} {done_6 : Bool} {i_7 : Int} {vl_0 : Value} {vout_5 : Value} (hS : ref06_Insert_B3 r0 l_0 s_1 out_5 done_6 i_7 = some r) {w : World} {A : Nat → Prop} (hb : Below w0.heap.size w0 w) (hA : ∀ b, A b → b < w.heap.size) (hi : ∀ b, A0 b → A b) (hH : Hp A w0.heap.size w []) (hl_0 : SlR strC A w vl_0 l_0) (hout_5 : OwnS strC 9 A w0.heap.size w vout_5 out_5) (dout_5 : Dj vout_5 []) :
  KE Try.prog 43 (Ret (fun v w' => ∃ x1, v = x1 ∧ SlR strC A0 w' x1 r ∧ Below w0.heap.size w0 w')) 48 [.inBlock 1, .code (sub (bodyOf Try.f43) [2, 2, 2, 1, 2, 2, 1, 2, 2]), .inLoop (sub (bodyOf Try.f43) [2, 2, 2, 1, 2, 2, 1]), .inBlock 0, .code (sub (bodyOf Try.f43) [2, 2, 2, 2])] [(0, vl_0), (1, str s_1), (5, vout_5), (6, .bool done_6), (7, .int .i64 i_7)] w := by
 unfold ref06_Insert_B3 at hS
 refine ke_inBlock ?_
 refine ke_region ?_
 refine sr_ev (v := .int .i64 i_7) (ev_move rfl) (by decide) ?_
 refine sr_ev (v := .int .i64 (IntKind.i64.wrap (i_7 + 1))) (ev_add rfl rfl) (by decide) ?_
 refine sr_ev (v := .int .i64 (IntKind.i64.wrap (i_7 + 1))) (ev_assign rfl) (by decide) ?_
 refine sr_end (l' := [(0, vl_0), (1, str s_1), (5, vout_5), (6, .bool done_6), (7, .int .i64 (IntKind.i64.wrap (i_7 + 1)))]) (.cons rfl (.cons rfl (.cons rfl (.cons rfl (.cons rfl (.nil _)))))) ?_
 have hK := hr0 hS hb hA hi hH hl_0 hout_5 dout_5
 exact ke_weaken (l' := [(0, vl_0), (1, str s_1), (5, vout_5), (6, .bool done_6), (7, .int .i64 (IntKind.i64.wrap (i_7 + 1)))]) (.cons rfl (.cons rfl (.cons rfl (.cons rfl (.cons rfl (.nil _)))))) hK
theorem ref06_Insert_B2_ok {w0 : World} (hg : Gs w0) {A0 : Nat → Prop} (hA0 : ∀ b, A0 b → b < w0.heap.size) (r0 : List Str → Str → List Str → Bool → Int → Option (List Str))
  (hr0 : ∀ {r : List Str} {l_0 : List Str} {s_1 : Str} {out_5 : List Str} {done_6 : Bool} {i_7 : Int} {vl_0 : Value} {vout_5 : Value}, r0 l_0 s_1 out_5 done_6 i_7 = some r → ∀ {w : World} {A : Nat → Prop}, (Below w0.heap.size w0 w) → (∀ b, A b → b < w.heap.size) → (∀ b, A0 b → A b) → (Hp A w0.heap.size w []) → (SlR strC A w vl_0 l_0) → (OwnS strC 9 A w0.heap.size w vout_5 out_5) → (Dj vout_5 []) → KE Try.prog 43 (Ret (fun v w' => ∃ x1, v = x1 ∧ SlR strC A0 w' x1 r ∧ Below w0.heap.size w0 w')) 48 [.inLoop (sub (bodyOf Try.f43) [2, 2, 2, 1, 2, 2, 1]), .inBlock 0, .code (sub (bodyOf Try.f43) [2, 2, 2, 2])] [(0, vl_0), (1, str s_1), (5, vout_5), (6, .bool done_6), (7, .int .i64 i_7)] w) {r : List Str} {l_0 : List Str} {s_1 : Str} {out_5 : List Str} {done_6 : Bool} {i_7 : Int} {vl_0 : Value} {vout_5 : Value} (hS : ref06_Insert_B2 r0 l_0 s_1 out_5 done_6 i_7 = some r) {w : World} {A : Nat → Prop} (hb : Below w0.heap.size w0 w) (hA : ∀ b, A b → b < w.heap.size) (hi : ∀ b, A0 b → A b) (hH : Hp A w0.heap.size w []) (hl_0 : SlR strC A w vl_0 l_0) (hout_5 : OwnS strC 9 A w0.heap.size w vout_5 out_5) (dout_5 : Dj vout_5 []) :
  KE Try.prog 43 (Ret (fun v w' => ∃ x1, v = x1 ∧ SlR strC A0 w' x1 r ∧ Below w0.heap.size w0 w')) 48 [.code (sub (bodyOf Try.f43) [2, 2, 2, 1, 2, 2, 1, 2, 1, 2, 2]), .inBlock 1, .code (sub (bodyOf Try.f43) [2, 2, 2, 1, 2, 2, 1, 2, 2]), .inLoop (sub (bodyOf Try.f43) [2, 2, 2, 1, 2, 2, 1]), .inBlock 0, .code (sub (bodyOf Try.f43) [2, 2, 2, 2])] [(0, vl_0), (1, str s_1), (5, vout_5), (6, .bool done_6), (7, .int .i64 i_7)] w := by
 unfold ref06_Insert_B2 at hS
 refine ke_seq ?_
 refine ke_region ?_
 refine sr_ev (v := vl_0) (ev_move rfl) (by decide) ?_
 refine sr_ev (v := .int .i64 i_7) (ev_move rfl) (by decide) ?_
 obtain ⟨y38, hy39, hS⟩ := bind_some' hS
 refine sr_index hl_0 Try.underlying23 Try.info9 rfl rfl rfl hy39 (by decide) ?_
 intro b40 o41 cs43 he42
 obtain rfl : cs43 = [str y38] := he42.rd
 refine sr_ev (v := str y38) (ev_load Try.isAgg9 rfl (he42.cell 0 _ rfl)) (by decide) ?_
 refine sr_ev (v := str s_1) (ev_move rfl) (by decide) ?_
 refine sr_ev (v := .bool (!(y38 == s_1))) (ev_sne rfl rfl) (by decide) ?_
 refine sr_end (l' := [(0, vl_0), (1, str s_1), (5, vout_5), (6, .bool done_6), (7, .int .i64 i_7), (33, .bool (!(y38 == s_1)))]) (.cons rfl (.cons rfl (.cons rfl (.cons rfl (.cons rfl (.cons rfl (.nil _))))))) ?_
 refine ke_cond (t := !(y38 == s_1)) rfl (fun hc44 => ?_) (fun hc44 => ?_)
 ·replace hS := ite_true' hS hc44
  refine ke_region ?_
  refine sr_ev (v := vout_5) (ev_move rfl) (by decide) ?_
  refine sr_ev (v := vl_0) (ev_move rfl) (by decide) ?_
  refine sr_ev (v := .int .i64 i_7) (ev_move rfl) (by decide) ?_
  obtain ⟨y45, hy46, hS⟩ := bind_some' hS
  refine sr_index hl_0 Try.underlying23 Try.info9 rfl rfl rfl hy46 (by decide) ?_
  intro b47 o48 cs50 he49
  obtain rfl : cs50 = [str y45] := he49.rd
  refine sr_ev (v := str y45) (ev_load Try.isAgg9 rfl (he49.cell 0 _ rfl)) (by decide) ?_
  refine sr_lit (c := strC) (A := A) (E := 9) (xs := [y45]) (vs := #[(0, str y45)]) (cs := #[str y45]) (css := [[str y45]]) rfl (fun _ => by kernel_rfl) rfl ⟨rfl, trivial⟩ rfl (by decide) hA (by decide) ?_
  intro v51 w53 h52 hbw54
  replace hb := hb.trans (hbw54.mono hb.size)
  replace hA := lt_mono hA hbw54.size
  replace hH := hH.below hbw54
  replace hl_0 := hl_0.below hbw54
  replace hout_5 := hout_5.below hbw54
  obtain ⟨hk55, hS⟩ := chk_some hS
  refine sr_append (c := strC) (A := A) (B := w0.heap.size) (E := 9) (xs := out_5) (ys := ([y45] : List Str)) hout_5 h52 Try.underlying23 Try.info9 rfl rfl rfl (by decide) (by decide) hA hb.size hk55 rfl rfl (by decide) ?_
  intro v56 A58 w59 h57 hst60 hbB61 hinc62 hA1 hoth63 hold
  have dj64 : Dj v56 [] := fun p hp e => by rcases hold _ e with h | h; exact dout_5 p hp h; have := hH.lt hp; omega
  replace hb := hb.trans hbB61
  replace hi := fun b hb => hinc62 b (hi b hb)
  replace hH := hH.keep hinc62 (fun p hp => hoth63 _ (hH.lt hp) (dout_5 p hp))
  replace hA := hA1
  clear hA1
  replace hl_0 := hl_0.step hst60
  refine sr_ev (v := v56) (ev_assign rfl) (by decide) ?_
  refine sr_end (l' := [(0, vl_0), (1, str s_1), (5, v56), (6, .bool done_6), (7, .int .i64 i_7)]) (.cons rfl (.cons rfl (.cons rfl (.cons rfl (.cons rfl (.nil _)))))) ?_
  have hK := ref06_Insert_B3_ok hg hA0 _ hr0 hS hb hA hi hH hl_0 h57 dj64
  exact ke_weaken (l' := [(0, vl_0), (1, str s_1), (5, v56), (6, .bool done_6), (7, .int .i64 i_7)]) (.cons rfl (.cons rfl (.cons rfl (.cons rfl (.cons rfl (.nil _)))))) hK
 ·replace hS := ite_false' hS hc44
  refine ke_skip ?_
  have hK := ref06_Insert_B3_ok hg hA0 _ hr0 hS hb hA hi hH hl_0 hout_5 dout_5
  exact ke_weaken (l' := [(0, vl_0), (1, str s_1), (5, vout_5), (6, .bool done_6), (7, .int .i64 i_7)]) (.cons rfl (.cons rfl (.cons rfl (.cons rfl (.cons rfl (.nil _)))))) hK
theorem ref06_Insert_B4_ok {w0 : World} (hg : Gs w0) {A0 : Nat → Prop} (hA0 : ∀ b, A0 b → b < w0.heap.size) (r0 : List Str → Str → List Str → Bool → Int → Option (List Str))
  (hr0 : ∀ {r : List Str} {l_0 : List Str} {s_1 : Str} {out_5 : List Str} {done_6 : Bool} {i_7 : Int} {vl_0 : Value} {vout_5 : Value}, r0 l_0 s_1 out_5 done_6 i_7 = some r → ∀ {w : World} {A : Nat → Prop}, (Below w0.heap.size w0 w) → (∀ b, A b → b < w.heap.size) → (∀ b, A0 b → A b) → (Hp A w0.heap.size w []) → (SlR strC A w vl_0 l_0) → (OwnS strC 9 A w0.heap.size w vout_5 out_5) → (Dj vout_5 []) → KE Try.prog 43 (Ret (fun v w' => ∃ x1, v = x1 ∧ SlR strC A0 w' x1 r ∧ Below w0.heap.size w0 w')) 48 [.inLoop (sub (bodyOf Try.f43) [2, 2, 2, 1, 2, 2, 1]), .inBlock 0, .code (sub (bodyOf Try.f43) [2, 2, 2, 2])] [(0, vl_0), (1, str s_1), (5, vout_5), (6, .bool done_6), (7, .int .i64 i_7)] w) {r : List Str} {out_5 : List Str} {vout_5 : Value} (hS : ref06_Insert_B4 r0 out_5 = some r) {w : World} {A : Nat → Prop} (hb : Below w0.heap.size w0 w) (hA : ∀ b, A b → b < w.heap.size) (hi : ∀ b, A0 b → A b) (hH : Hp A w0.heap.size w []) (hout_5 : OwnS strC 9 A w0.heap.size w vout_5 out_5) (dout_5 : Dj vout_5 []) :
  KE Try.prog 43 (Ret (fun v w' => ∃ x1, v = x1 ∧ SlR strC A0 w' x1 r ∧ Below w0.heap.size w0 w')) 48 [.code (sub (bodyOf Try.f43) [2, 2, 2, 2, 2])] [(5, vout_5)] w := by
 unfold ref06_Insert_B4 at hS
 refine ke_seq ?_
 refine ke_region ?_
 refine sr_ev (v := vout_5) (ev_move rfl) (by decide) ?_
 refine sr_ev (v := vout_5) (ev_assign rfl) (by decide) ?_
 refine sr_end (l' := [(4, vout_5)]) (.cons rfl (.nil _)) ?_
 cases hS
 exact ke_ret1 Try.func43 rfl rfl ⟨_, rfl, _, rfl, hout_5.toSl (fun b hb => ⟨hi b hb, hA0 b hb⟩), hb⟩
theorem ref06_Insert_L1_ok {w0 : World} (hg : Gs w0) {A0 : Nat → Prop} (hA0 : ∀ b, A0 b → b < w0.heap.size) : ∀ (n : Nat), ∀ {r : List Str} {l_0 : List Str} {s_1 : Str} {out_5 : List Str} {done_6 : Bool} {i_7 : Int} {vl_0 : Value} {vout_5 : Value}, ref06_Insert_L1 n l_0 s_1 out_5 done_6 i_7 = some r → ∀ {w : World} {A : Nat → Prop}, (Below w0.heap.size w0 w) → (∀ b, A b → b < w.heap.size) → (∀ b, A0 b → A b) → (Hp A w0.heap.size w []) → (SlR strC A w vl_0 l_0) → (OwnS strC 9 A w0.heap.size w vout_5 out_5) → (Dj vout_5 []) → KE Try.prog 43 (Ret (fun v w' => ∃ x1, v = x1 ∧ SlR strC A0 w' x1 r ∧ Below w0.heap.size w0 w')) 48 [.code (sub (bodyOf Try.f43) [2, 2, 2, 1, 2, 2, 1]), .inLoop (sub (bodyOf Try.f43) [2, 2, 2, 1, 2, 2, 1]), .inBlock 0, .code (sub (bodyOf Try.f43) [2, 2, 2, 2])] [(0, vl_0), (1, str s_1), (5, vout_5), (6, .bool done_6), (7, .int .i64 i_7)] w := by
 intro n
 induction n with
 | zero => intro r l_0 s_1 out_5 done_6 i_7 vl_0 vout_5 hS; cases hS
 | succ n ih =>
  have hr0 : ∀ {r : List Str} {l_0 : List Str} {s_1 : Str} {out_5 : List Str} {done_6 : Bool} {i_7 : Int} {vl_0 : Value} {vout_5 : Value}, ref06_Insert_L1 n l_0 s_1 out_5 done_6 i_7 = some r → ∀ {w : World} {A : Nat → Prop}, (Below w0.heap.size w0 w) → (∀ b, A b → b < w.heap.size) → (∀ b, A0 b → A b) → (Hp A w0.heap.size w []) → (SlR strC A w vl_0 l_0) → (OwnS strC 9 A w0.heap.size w vout_5 out_5) → (Dj vout_5 []) → KE Try.prog 43 (Ret (fun v w' => ∃ x1, v = x1 ∧ SlR strC A0 w' x1 r ∧ Below w0.heap.size w0 w')) 48 [.inLoop (sub (bodyOf Try.f43) [2, 2, 2, 1, 2, 2, 1]), .inBlock 0, .code (sub (bodyOf Try.f43) [2, 2, 2, 2])] [(0, vl_0), (1, str s_1), (5, vout_5), (6, .bool done_6), (7, .int .i64 i_7)] w := fun {r} {l_0} {s_1} {out_5} {done_6} {i_7} {vl_0} {vout_5} hS {w} {A} hb hA hi hH hl_0 hout_5 dout_5 => ke_inLoop (ih hS hb hA hi hH hl_0 hout_5 dout_5)
  clear ih
  intro r l_0 s_1 out_5 done_6 i_7 vl_0 vout_5 hS w A hb hA hi hH hl_0 hout_5 dout_5
  unfold ref06_Insert_L1 at hS
  refine ke_seq ?_
  refine ke_seq ?_
  refine ke_region ?_
  refine sr_ev (v := .int .i64 i_7) (ev_move rfl) (by decide) ?_
  refine sr_ev (v := vl_0) (ev_move rfl) (by decide) ?_
  refine sr_ev (v := .int .i64 (l_0.length : Int)) (ev_sllen Try.underlying23 rfl hl_0) (by decide) ?_
  refine sr_ev (v := .bool (decide (i_7 < (l_0.length : Int)))) (ev_lt rfl rfl) (by decide) ?_
  refine sr_end (l' := [(0, vl_0), (1, str s_1), (5, vout_5), (6, .bool done_6), (7, .int .i64 i_7), (11, .bool (decide (i_7 < (l_0.length : Int))))]) (.cons rfl (.cons rfl (.cons rfl (.cons rfl (.cons rfl (.cons rfl (.nil _))))))) ?_
  refine ke_cond (t := decide (i_7 < (l_0.length : Int))) rfl (fun hc7 => ?_) (fun hc7 => ?_)
  ·replace hS := ite_true' hS hc7
   refine ke_skip ?_
   refine ke_seq ?_
   refine ke_block ?_
   refine ke_seq ?_
   refine ke_seq ?_
   refine ke_region ?_
   refine sr_ev (v := .bool done_6) (ev_move rfl) (by decide) ?_
   refine sr_ev (v := .bool (!done_6)) (ev_not rfl) (by decide) ?_
   refine sr_ev (v := .bool (!done_6)) (ev_move rfl) (by decide) ?_
   obtain ⟨z10, hz12, hS⟩ := bind_some' hS
   refine sr_join (m := 7) (C := fun (x : Bool) w1 => z10 = x ∧ Below w.heap.size w w1) (l' := fun x => [(0, vl_0), (1, str s_1), (5, vout_5), (6, .bool done_6), (7, .int .i64 i_7), (23, .bool x)]) ?_ ?_
   ·rintro _ w13 ⟨rfl, hbw14⟩
    replace hb := hb.trans (hbw14.mono hb.size)
    replace hA := lt_mono hA hbw14.size
    replace hH := hH.below hbw14
    replace hl_0 := hl_0.below hbw14
    replace hout_5 := hout_5.below hbw14
    refine sr_end (l' := [(0, vl_0), (1, str s_1), (5, vout_5), (6, .bool done_6), (7, .int .i64 i_7), (23, .bool z10)]) (.cons rfl (.cons rfl (.cons rfl (.cons rfl (.cons rfl (.cons rfl (.nil _))))))) ?_
    refine ke_cond (t := z10) rfl (fun hc21 => ?_) (fun hc21 => ?_)
    ·replace hS := ite_true' hS hc21
     refine ke_seq ?_
     refine ke_region ?_
     refine sr_ev (v := vout_5) (ev_move rfl) (by decide) ?_
     refine sr_ev (v := str s_1) (ev_move rfl) (by decide) ?_
     refine sr_lit (c := strC) (A := A) (E := 9) (xs := [s_1]) (vs := #[(0, str s_1)]) (cs := #[str s_1]) (css := [[str s_1]]) rfl (fun _ => by kernel_rfl) rfl ⟨rfl, trivial⟩ rfl (by decide) hA (by decide) ?_
     intro v22 w24 h23 hbw25
     replace hb := hb.trans (hbw25.mono hb.size)
     replace hA := lt_mono hA hbw25.size
     replace hH := hH.below hbw25
     replace hl_0 := hl_0.below hbw25
     replace hout_5 := hout_5.below hbw25
     obtain ⟨hk26, hS⟩ := chk_some hS
     refine sr_append (c := strC) (A := A) (B := w0.heap.size) (E := 9) (xs := out_5) (ys := ([s_1] : List Str)) hout_5 h23 Try.underlying23 Try.info9 rfl rfl rfl (by decide) (by decide) hA hb.size hk26 rfl rfl (by decide) ?_
     intro v27 A29 w30 h28 hst31 hbB32 hinc33 hA1 hoth34 hold
     have dj35 : Dj v27 [] := fun p hp e => by rcases hold _ e with h | h; exact dout_5 p hp h; have := hH.lt hp; omega
     replace hb := hb.trans hbB32
     replace hi := fun b hb => hinc33 b (hi b hb)
     replace hH := hH.keep hinc33 (fun p hp => hoth34 _ (hH.lt hp) (dout_5 p hp))
     replace hA := hA1
     clear hA1
     replace hl_0 := hl_0.step hst31
     refine sr_ev (v := v27) (ev_assign rfl) (by decide) ?_
     refine sr_end (l' := [(0, vl_0), (1, str s_1), (5, v27), (7, .int .i64 i_7)]) (.cons rfl (.cons rfl (.cons rfl (.cons rfl (.nil _))))) ?_
     refine ke_region ?_
     refine sr_ev (v := .bool true) (ev_assign rfl) (by decide) ?_
     refine sr_end (l' := [(0, vl_0), (1, str s_1), (5, v27), (6, .bool true), (7, .int .i64 i_7)]) (.cons rfl (.cons rfl (.cons rfl (.cons rfl (.cons rfl (.nil _)))))) ?_
     have hK := ref06_Insert_B2_ok hg hA0 _ hr0 hS hb hA hi hH hl_0 h28 dj35
     exact ke_weaken (l' := [(0, vl_0), (1, str s_1), (5, v27), (6, .bool true), (7, .int .i64 i_7)]) (.cons rfl (.cons rfl (.cons rfl (.cons rfl (.cons rfl (.nil _)))))) hK
    ·replace hS := ite_false' hS hc21
     refine ke_skip ?_
     have hK := ref06_Insert_B2_ok hg hA0 _ hr0 hS hb hA hi hH hl_0 hout_5 dout_5
     exact ke_weaken (l' := [(0, vl_0), (1, str s_1), (5, vout_5), (6, .bool done_6), (7, .int .i64 i_7)]) (.cons rfl (.cons rfl (.cons rfl (.cons rfl (.cons rfl (.nil _)))))) hK
   ·intro K9
    clear hS
    have hj11 := Below.refl w.heap.size w
    rcases Bool.eq_false_or_eq_true (!done_6) with hg8 | hg8
    ·have hS := ite_true' hz12 hg8
     refine sr_evg (b := true) (e := 16) rfl rfl hg8 (v := vl_0) (ev_move rfl) (by decide) ?_
     refine sr_evg (b := true) (e := 16) rfl rfl hg8 (v := .int .i64 i_7) (ev_move rfl) (by decide) ?_
     obtain ⟨y15, hy16, hS⟩ := bind_some' hS
     refine sr_unguard rfl rfl hg8 ?_
     refine sr_index hl_0 Try.underlying23 Try.info9 rfl rfl rfl hy16 (by decide) ?_
     intro b17 o18 cs20 he19
     obtain rfl : cs20 = [str y15] := he19.rd
     refine sr_evg (b := true) (e := 16) rfl rfl hg8 (v := str y15) (ev_load Try.isAgg9 rfl (he19.cell 0 _ rfl)) (by decide) ?_
     refine sr_evg (b := true) (e := 16) rfl rfl hg8 (v := str s_1) (ev_move rfl) (by decide) ?_
     refine sr_evg (b := true) (e := 16) rfl rfl hg8 (v := .bool (!sLt y15 s_1)) (ev_sge rfl rfl) (by decide) ?_
     refine sr_ev (v := .bool (!sLt y15 s_1)) (ev_pick_t rfl hg8 rfl) (by decide) ?_
     exact sr_weaken (l' := [(0, vl_0), (1, str s_1), (5, vout_5), (6, .bool done_6), (7, .int .i64 i_7), (23, .bool (!sLt y15 s_1))]) (.cons rfl (.cons rfl (.cons rfl (.cons rfl (.cons rfl (.cons rfl (.nil _))))))) (K9 (!sLt y15 s_1) _ ⟨(Option.some.inj hS).symm, hj11⟩)
    ·have hS := ite_false' hz12 hg8
     refine sr_pass (e := 16) rfl rfl (by rw [hg8]; rfl) (by decide) ?_
     refine sr_pass (e := 16) rfl rfl (by rw [hg8]; rfl) (by decide) ?_
     refine sr_pass (e := 16) rfl rfl (by rw [hg8]; rfl) (by decide) ?_
     refine sr_pass (e := 16) rfl rfl (by rw [hg8]; rfl) (by decide) ?_
     refine sr_pass (e := 16) rfl rfl (by rw [hg8]; rfl) (by decide) ?_
     refine sr_pass (e := 16) rfl rfl (by rw [hg8]; rfl) (by decide) ?_
     refine sr_ev (v := .bool false) (ev_pick_f rfl hg8 rfl) (by decide) ?_
     exact sr_weaken (l' := [(0, vl_0), (1, str s_1), (5, vout_5), (6, .bool done_6), (7, .int .i64 i_7), (23, .bool false)]) (.cons rfl (.cons rfl (.cons rfl (.cons rfl (.cons rfl (.cons rfl (.nil _))))))) (K9 false _ ⟨(Option.some.inj hS).symm, hj11⟩)
  ·replace hS := ite_false' hS hc7
   refine ke_exit (k' := _) rfl ?_
   refine ke_seq ?_
   refine ke_seq ?_
   refine ke_region ?_
   refine sr_ev (v := .bool done_6) (ev_move rfl) (by decide) ?_
   refine sr_ev (v := .bool (!done_6)) (ev_not rfl) (by decide) ?_
   refine sr_end (l' := [(1, str s_1), (5, vout_5), (42, .bool (!done_6))]) (.cons rfl (.cons rfl (.cons rfl (.nil _)))) ?_
   refine ke_cond (t := !done_6) rfl (fun hc67 => ?_) (fun hc67 => ?_)
   ·replace hS := ite_true' hS hc67
    refine ke_region ?_
    refine sr_ev (v := vout_5) (ev_move rfl) (by decide) ?_
    refine sr_ev (v := str s_1) (ev_move rfl) (by decide) ?_
    refine sr_lit (c := strC) (A := A) (E := 9) (xs := [s_1]) (vs := #[(0, str s_1)]) (cs := #[str s_1]) (css := [[str s_1]]) rfl (fun _ => by kernel_rfl) rfl ⟨rfl, trivial⟩ rfl (by decide) hA (by decide) ?_
    intro v68 w70 h69 hbw71
    replace hb := hb.trans (hbw71.mono hb.size)
    replace hA := lt_mono hA hbw71.size
    replace hH := hH.below hbw71
    replace hout_5 := hout_5.below hbw71
    obtain ⟨hk72, hS⟩ := chk_some hS
    refine sr_append (c := strC) (A := A) (B := w0.heap.size) (E := 9) (xs := out_5) (ys := ([s_1] : List Str)) hout_5 h69 Try.underlying23 Try.info9 rfl rfl rfl (by decide) (by decide) hA hb.size hk72 rfl rfl (by decide) ?_
    intro v73 A75 w76 h74 hst77 hbB78 hinc79 hA1 hoth80 hold
    have dj81 : Dj v73 [] := fun p hp e => by rcases hold _ e with h | h; exact dout_5 p hp h; have := hH.lt hp; omega
    replace hb := hb.trans hbB78
    replace hi := fun b hb => hinc79 b (hi b hb)
    replace hH := hH.keep hinc79 (fun p hp => hoth80 _ (hH.lt hp) (dout_5 p hp))
    replace hA := hA1
    clear hA1
    refine sr_ev (v := v73) (ev_assign rfl) (by decide) ?_
    refine sr_end (l' := [(5, v73)]) (.cons rfl (.nil _)) ?_
    have hK := ref06_Insert_B4_ok hg hA0 _ hr0 hS hb hA hi hH h74 dj81
    exact ke_weaken (l' := [(5, v73)]) (.cons rfl (.nil _)) hK
   ·replace hS := ite_false' hS hc67
    refine ke_skip ?_
    have hK := ref06_Insert_B4_ok hg hA0 _ hr0 hS hb hA hi hH hout_5 dout_5
    exact ke_weaken (l' := [(5, vout_5)]) (.cons rfl (.nil _)) hK
theorem ref06_Insert_ok {A0 : Nat → Prop} (w0 : World) (hg : Gs w0) {l_0 : List Str} {s_1 : Str} {v1 : Value} {r : List Str} (h2 : SlR strC A0 w0 v1 l_0) (hA0 : ∀ b, A0 b → b < w0.heap.size) (hS : ref06_Insert l_0 s_1 = some r) :
  Calls Try.prog 43 #[v1, str s_1] w0 (Ret (fun v w' => ∃ x1, v = x1 ∧ SlR strC A0 w' x1 r ∧ Below w0.heap.size w0 w')) := by
 unfold ref06_Insert at hS
 have hb := Below.refl w0.heap.size w0
 have hA := hA0
 have hi : ∀ b, A0 b → A0 b := fun _ h => h
 have hH := Hp.nil A0 w0.heap.size w0
 refine calls_of_ke Try.func43 rfl (n := 48) rfl rfl (l := [(0, v1), (1, str s_1)]) rfl ?_
 refine ke_seq ?_
 refine ke_region ?_
 refine sr_ev (v := .slice none 0 0) (ev_assign rfl) (by decide) ?_
 refine sr_end (l' := [(0, v1), (1, str s_1)]) (.cons rfl (.cons rfl (.nil _))) ?_
 refine ke_seq ?_
 refine ke_region ?_
 refine sr_ev (v := .slice none 0 0) (ev_assign rfl) (by decide) ?_
 refine sr_end (l' := [(0, v1), (1, str s_1), (5, .slice none 0 0)]) (.cons rfl (.cons rfl (.cons rfl (.nil _)))) ?_
 refine ke_seq ?_
 refine ke_region ?_
 refine sr_ev (v := .bool false) (ev_assign rfl) (by decide) ?_
 refine sr_end (l' := [(0, v1), (1, str s_1), (5, .slice none 0 0), (6, .bool false)]) (.cons rfl (.cons rfl (.cons rfl (.cons rfl (.nil _))))) ?_
 refine ke_seq ?_
 refine ke_seq ?_
 refine ke_region ?_
 refine sr_ev (v := .int .i64 0) (ev_assign rfl) (by decide) ?_
 refine sr_end (l' := [(0, v1), (1, str s_1), (5, .slice none 0 0), (6, .bool false), (7, .int .i64 0)]) (.cons rfl (.cons rfl (.cons rfl (.cons rfl (.cons rfl (.nil _)))))) ?_
 refine ke_block ?_
 have hK := ref06_Insert_L1_ok hg hA0 _ hS hb hA hi hH h2 OwnS.nil (Dj.nil _)
 exact ke_weaken (l' := [(0, v1), (1, str s_1), (5, (.slice none 0 0)), (6, .bool false), (7, .int .i64 0)]) (.cons rfl (.cons rfl (.cons rfl (.cons rfl (.cons rfl (.nil _)))))) (ke_loop hK)
theorem ref29_Sorted_B3_ok {w0 : World} (hg : Gs w0) {A0 : Nat → Prop} (hA0 : ∀ b, A0 b → b < w0.heap.size) (r0 : List Str → List Str → Int → Option (List Str)) (r1 : List Str → List Str → Int → Bool → Int → Option (List Str))
  (hr0 : ∀ {r : List Str} {l_0 : List Str} {out_3 : List Str} {i_4 : Int} {vl_0 : Value} {vout_3 : Value}, r0 l_0 out_3 i_4 = some r → ∀ {w : World} {A : Nat → Prop}, (Below w0.heap.size w0 w) → (∀ b, A b → b < w.heap.size) → (∀ b, A0 b → A b) → (Hp A w0.heap.size w []) → (SlR strC A w vl_0 l_0) → (SlR strC A w vout_3 out_3) → KE Try.prog 36 (Ret (fun v w' => ∃ x1, v = x1 ∧ SlR strC A0 w' x1 r ∧ Below w0.heap.size w0 w')) 56 [.inLoop (sub (bodyOf Try.f36) [2, 2, 1, 2, 2, 1]), .inBlock 0, .code (sub (bodyOf Try.f36) [2, 2, 2])] [(0, vl_0), (3, vout_3), (4, .int .i64 i_4)] w)
  (hr1 : ∀ {r : List Str} {l_0 : List Str} {out_3 : List Str} {i_4 : Int} {least_5 : Bool} {k_6 : Int} {vl_0 : Value} {vout_3 : Value}, r1 l_0 out_3 i_4 least_5 k_6 = some r → ∀ {w : World} {A : Nat → Prop}, (Below w0.heap.size w0 w) → (∀ b, A b → b < w.heap.size) → (∀ b, A0 b → A b) → (Hp A w0.heap.size w []) → (SlR strC A w vl_0 l_0) → (SlR strC A w vout_3 out_3) → KE Try.prog 36 (Ret (fun v w' => ∃ x1, v = x1 ∧ SlR strC A0 w' x1 r ∧ Below w0.heap.size w0 w')) 56 [.inLoop (sub (bodyOf Try.f36) [2, 2, 1, 2, 2, 1, 2, 1, 2, 2, 1, 2, 2, 1]), .inBlock 2, .code (sub (bodyOf Try.f36) [2, 2, 1, 2, 2, 1, 2, 1, 2, 2, 2]), .inBlock 1, .code (sub (bodyOf Try.f36) [2, 2, 1, 2, 2, 1, 2, 2]), .inLoop (sub (bodyOf Try.f36) [2, 2, 1, 2, 2, 1]), .inBlock 0, .code (sub (bodyOf Try.f36) [2, 2, 2])] [(0, vl_0), (3, vout_3), (4, .int .i64 i_4), (5, .bool least_5), (6, .int .i64 k_6)] w) {r : List Str} {l_0 : List Str} {out_3 : List Str} {i_4 : Int} {vl_0 : Value} {vout_3 : Value} (hS : ref29_Sorted_B3 r0 r1 l_0 out_3 i_4 = some r) {w : World} {A : Nat → Prop} (hb : Below w0.heap.size w0 w) (hA : ∀ b, A b → b < w.heap.size) (hi : ∀ b, A0 b → A b) (hH : Hp A w0.heap.size w []) (hl_0 : SlR strC A w vl_0 l_0) (hout_3 : SlR strC A w vout_3 out_3) :
  KE Try.prog 36 (Ret (fun v w' => ∃ x1, v = x1 ∧ SlR strC A0 w' x1 r ∧ Below w0.heap.size w0 w')) 56 [.inBlock 1, .code (sub (bodyOf Try.f36) [2, 2, 1, 2, 2, 1, 2, 2]), .inLoop (sub (bodyOf Try.f36) [2, 2, 1, 2, 2, 1]), .inBlock 0, .code (sub (bodyOf Try.f36) [2, 2, 2])] [(0, vl_0), (3, vout_3), (4, .int .i64 i_4)] w := by
 unfold ref29_Sorted_B3 at hS
 refine ke_inBlock ?_
 refine ke_region ?_
 refine sr_ev (v := .int .i64 i_4) (ev_move rfl) (by decide) ?_
 refine sr_ev (v := .int .i64 (IntKind.i64.wrap (i_4 + 1))) (ev_add rfl rfl) (by decide) ?_
 refine sr_ev (v := .int .i64 (IntKind.i64.wrap (i_4 + 1))) (ev_assign rfl) (by decide) ?_
 refine sr_end (l' := [(0, vl_0), (3, vout_3), (4, .int .i64 (IntKind.i64.wrap (i_4 + 1)))]) (.cons rfl (.cons rfl (.cons rfl (.nil _)))) ?_
 have hK := hr0 hS hb hA hi hH hl_0 hout_3
 exact ke_weaken (l' := [(0, vl_0), (3, vout_3), (4, .int .i64 (IntKind.i64.wrap (i_4 + 1)))]) (.cons rfl (.cons rfl (.cons rfl (.nil _)))) hK
theorem ref29_Sorted_L2_ok {w0 : World} (hg : Gs w0) {A0 : Nat → Prop} (hA0 : ∀ b, A0 b → b < w0.heap.size) (r0 : List Str → List Str → Int → Option (List Str))
  (hr0 : ∀ {r : List Str} {l_0 : List Str} {out_3 : List Str} {i_4 : Int} {vl_0 : Value} {vout_3 : Value}, r0 l_0 out_3 i_4 = some r → ∀ {w : World} {A : Nat → Prop}, (Below w0.heap.size w0 w) → (∀ b, A b → b < w.heap.size) → (∀ b, A0 b → A b) → (Hp A w0.heap.size w []) → (SlR strC A w vl_0 l_0) → (SlR strC A w vout_3 out_3) → KE Try.prog 36 (Ret (fun v w' => ∃ x1, v = x1 ∧ SlR strC A0 w' x1 r ∧ Below w0.heap.size w0 w')) 56 [.inLoop (sub (bodyOf Try.f36) [2, 2, 1, 2, 2, 1]), .inBlock 0, .code (sub (bodyOf Try.f36) [2, 2, 2])] [(0, vl_0), (3, vout_3), (4, .int .i64 i_4)] w) : ∀ (n : Nat), ∀ {r : List Str} {l_0 : List Str} {out_3 : List Str} {i_4 : Int} {least_5 : Bool} {k_6 : Int} {vl_0 : Value} {vout_3 : Value}, ref29_Sorted_L2 r0 n l_0 out_3 i_4 least_5 k_6 = some r → ∀ {w : World} {A : Nat → Prop}, (Below w0.heap.size w0 w) → (∀ b, A b → b < w.heap.size) → (∀ b, A0 b → A b) → (Hp A w0.heap.size w []) → (SlR strC A w vl_0 l_0) → (SlR strC A w vout_3 out_3) → KE Try.prog 36 (Ret (fun v w' => ∃ x1, v = x1 ∧ SlR strC A0 w' x1 r ∧ Below w0.heap.size w0 w')) 56 [.code (sub (bodyOf Try.f36) [2, 2, 1, 2, 2, 1, 2, 1, 2, 2, 1, 2, 2, 1]), .inLoop (sub (bodyOf Try.f36) [2, 2, 1, 2, 2, 1, 2, 1, 2, 2, 1, 2, 2, 1]), .inBlock 2, .code (sub (bodyOf Try.f36) [2, 2, 1, 2, 2, 1, 2, 1, 2, 2, 2]), .inBlock 1, .code (sub (bodyOf Try.f36) [2, 2, 1, 2, 2, 1, 2, 2]), .inLoop (sub (bodyOf Try.f36) [2, 2, 1, 2, 2, 1]), .inBlock 0, .code (sub (bodyOf Try.f36) [2, 2, 2])] [(0, vl_0), (3, vout_3), (4, .int .i64 i_4), (5, .bool least_5), (6, .int .i64 k_6)] w := by
 intro n
 induction n with
 | zero => intro r l_0 out_3 i_4 least_5 k_6 vl_0 vout_3 hS; cases hS
 | succ n ih =>
  have hr1 : ∀ {r : List Str} {l_0 : List Str} {out_3 : List Str} {i_4 : Int} {least_5 : Bool} {k_6 : Int} {vl_0 : Value} {vout_3 : Value}, ref29_Sorted_L2 r0 n l_0 out_3 i_4 least_5 k_6 = some r → ∀ {w : World} {A : Nat → Prop}, (Below w0.heap.size w0 w) → (∀ b, A b → b < w.heap.size) → (∀ b, A0 b → A b) → (Hp A w0.heap.size w []) → (SlR strC A w vl_0 l_0) → (SlR strC A w vout_3 out_3) → KE Try.prog 36 (Ret (fun v w' => ∃ x1, v = x1 ∧ SlR strC A0 w' x1 r ∧ Below w0.heap.size w0 w')) 56 [.inLoop (sub (bodyOf Try.f36) [2, 2, 1, 2, 2, 1, 2, 1, 2, 2, 1, 2, 2, 1]), .inBlock 2, .code (sub (bodyOf Try.f36) [2, 2, 1, 2, 2, 1, 2, 1, 2, 2, 2]), .inBlock 1, .code (sub (bodyOf Try.f36) [2, 2, 1, 2, 2, 1, 2, 2]), .inLoop (sub (bodyOf Try.f36) [2, 2, 1, 2, 2, 1]), .inBlock 0, .code (sub (bodyOf Try.f36) [2, 2, 2])] [(0, vl_0), (3, vout_3), (4, .int .i64 i_4), (5, .bool least_5), (6, .int .i64 k_6)] w := fun {r} {l_0} {out_3} {i_4} {least_5} {k_6} {vl_0} {vout_3} hS {w} {A} hb hA hi hH hl_0 hout_3 => ke_inLoop (ih hS hb hA hi hH hl_0 hout_3)
  clear ih
  intro r l_0 out_3 i_4 least_5 k_6 vl_0 vout_3 hS w A hb hA hi hH hl_0 hout_3
  unfold ref29_Sorted_L2 at hS
  refine ke_seq ?_
  refine ke_seq ?_
  refine ke_region ?_
  refine sr_ev (v := .int .i64 k_6) (ev_move rfl) (by decide) ?_
  refine sr_ev (v := vl_0) (ev_move rfl) (by decide) ?_
  refine sr_ev (v := .int .i64 (l_0.length : Int)) (ev_sllen Try.underlying23 rfl hl_0) (by decide) ?_
  refine sr_ev (v := .bool (decide (k_6 < (l_0.length : Int)))) (ev_lt rfl rfl) (by decide) ?_
  refine sr_end (l' := [(0, vl_0), (3, vout_3), (4, .int .i64 i_4), (5, .bool least_5), (6, .int .i64 k_6), (21, .bool (decide (k_6 < (l_0.length : Int))))]) (.cons rfl (.cons rfl (.cons rfl (.cons rfl (.cons rfl (.cons rfl (.nil _))))))) ?_
  refine ke_cond (t := decide (k_6 < (l_0.length : Int))) rfl (fun hc20 => ?_) (fun hc20 => ?_)
  ·replace hS := ite_true' hS hc20
   refine ke_skip ?_
   refine ke_seq ?_
   refine ke_block ?_
   refine ke_region_q Try.mixed (by kernel_rfl) ?_
   refine sq_ev (v := .bool least_5) (fun w1 hw1 => ev_move rfl) (by decide) ?_
   refine sq_ev (v := .bool least_5) (fun w1 hw1 => ev_move rfl) (by decide) ?_
   obtain ⟨z25, hz27, hS⟩ := bind_some' hS
   refine sq_join (m := 22) (C := fun (x : Bool) => z25 = x) (l' := fun x => [(0, vl_0), (3, vout_3), (4, .int .i64 i_4), (6, .int .i64 k_6), (47, .bool x)]) ?_ ?_
   ·rintro _ rfl
    refine sq_ev (v := .bool z25) (fun w1 hw1 => ev_assign rfl) (by decide) ?_
    refine sq_end (l' := [(0, vl_0), (3, vout_3), (4, .int .i64 i_4), (5, .bool z25), (6, .int .i64 k_6)]) (.cons rfl (.cons rfl (.cons rfl (.cons rfl (.cons rfl (.nil _)))))) (fun w22 hw21 => ?_)
    replace hb := hb.trans (hw21.mono hb.size)
    replace hA := lt_mono hA hw21.size
    replace hH := hH.below hw21
    replace hl_0 := hl_0.below hw21
    replace hout_3 := hout_3.below hw21
    refine ke_inBlock ?_
    refine ke_region ?_
    refine sr_ev (v := .int .i64 k_6) (ev_move rfl) (by decide) ?_
    refine sr_ev (v := .int .i64 (IntKind.i64.wrap (k_6 + 1))) (ev_add rfl rfl) (by decide) ?_
    refine sr_ev (v := .int .i64 (IntKind.i64.wrap (k_6 + 1))) (ev_assign rfl) (by decide) ?_
    refine sr_end (l' := [(0, vl_0), (3, vout_3), (4, .int .i64 i_4), (5, .bool z25), (6, .int .i64 (IntKind.i64.wrap (k_6 + 1)))]) (.cons rfl (.cons rfl (.cons rfl (.cons rfl (.cons rfl (.nil _)))))) ?_
    have hK := hr1 hS hb hA hi hH hl_0 hout_3
    exact ke_weaken (l' := [(0, vl_0), (3, vout_3), (4, .int .i64 i_4), (5, .bool z25), (6, .int .i64 (IntKind.i64.wrap (k_6 + 1)))]) (.cons rfl (.cons rfl (.cons rfl (.cons rfl (.cons rfl (.nil _)))))) hK
   ·intro K24
    clear hS
    rcases Bool.eq_false_or_eq_true least_5 with hg23 | hg23
    ·have hS := ite_true' hz27 hg23
     refine sq_evg (b := true) (e := 25) rfl rfl hg23 (v := vl_0) (fun w1 hw1 => ev_move rfl) (by decide) ?_
     refine sq_evg (b := true) (e := 25) rfl rfl hg23 (v := .int .i64 k_6) (fun w1 hw1 => ev_move rfl) (by decide) ?_
     obtain ⟨y30, hy31, hS⟩ := bind_some' hS
     obtain ⟨b32, o33, cs35, he34, hixhe34⟩ := hl_0.elem Try.underlying23 Try.info9 rfl (P := Try.prog) hy31
     obtain rfl : cs35 = [str y30] := he34.rd
     refine sq_evg (b := true) (e := 25) rfl rfl hg23 (v := .pointer (some ⟨b32, o33, none⟩)) (fun w1 hw1 => hixhe34 w1 hw1 rfl rfl) (by decide) ?_
     refine sq_evg (b := true) (e := 25) rfl rfl hg23 (v := str y30) (fun w1 hw1 => ev_load Try.isAgg9 rfl ((he34.step (.of_below hw1) (Nat.succ_pos _)).cell 0 _ rfl)) (by decide) ?_
     refine sq_evg (b := true) (e := 25) rfl rfl hg23 (v := vl_0) (fun w1 hw1 => ev_move rfl) (by decide) ?_
     refine sq_evg (b := true) (e := 25) rfl rfl hg23 (v := .int .i64 i_4) (fun w1 hw1 => ev_move rfl) (by decide) ?_
     obtain ⟨y36, hy37, hS⟩ := bind_some' hS
     obtain ⟨b38, o39, cs41, he40, hixhe40⟩ := hl_0.elem Try.underlying23 Try.info9 rfl (P := Try.prog) hy37
     obtain rfl : cs41 = [str y36] := he40.rd
     refine sq_evg (b := true) (e := 25) rfl rfl hg23 (v := .pointer (some ⟨b38, o39, none⟩)) (fun w1 hw1 => hixhe40 w1 hw1 rfl rfl) (by decide) ?_
     refine sq_evg (b := true) (e := 25) rfl rfl hg23 (v := str y36) (fun w1 hw1 => ev_load Try.isAgg9 rfl ((he40.step (.of_below hw1) (Nat.succ_pos _)).cell 0 _ rfl)) (by decide) ?_
     refine sq_evg (b := true) (e := 25) rfl rfl hg23 (v := .bool (y30 == y36)) (fun w1 hw1 => ev_seq rfl rfl) (by decide) ?_
     refine sq_evg (b := true) (e := 25) rfl rfl hg23 (v := .bool (y30 == y36)) (fun w1 hw1 => ev_move rfl) (by decide) ?_
     obtain ⟨z44, hz46, hS⟩ := bind_some' hS
     refine sq_join (m := 11) (C := fun (x : Bool) => z44 = x) (l' := fun x => [(0, vl_0), (3, vout_3), (4, .int .i64 i_4), (6, .int .i64 k_6), (25, .bool least_5), (46, .bool x)]) ?_ ?_
     ·rintro _ rfl
      refine sq_ev (v := .bool z44) (fun w1 hw1 => ev_pick_t rfl hg23 rfl) (by decide) ?_
      exact sq_weaken (l' := [(0, vl_0), (3, vout_3), (4, .int .i64 i_4), (6, .int .i64 k_6), (47, .bool z44)]) (.cons rfl (.cons rfl (.cons rfl (.cons rfl (.cons rfl (.nil _)))))) (K24 z44 (Option.some.inj hS).symm)
     ·intro K43
      clear hS
      rcases Bool.eq_false_or_eq_true (y30 == y36) with hg42 | hg42
      ·have hS := ite_true' hz46 hg42
       refine sq_pass (e := 35) rfl rfl (by rw [hg42]; rfl) (by decide) ?_
       refine sq_pass (e := 35) rfl rfl (by rw [hg42]; rfl) (by decide) ?_
       refine sq_pass (e := 35) rfl rfl (by rw [hg42]; rfl) (by decide) ?_
       refine sq_pass (e := 35) rfl rfl (by rw [hg42]; rfl) (by decide) ?_
       refine sq_pass (e := 35) rfl rfl (by rw [hg42]; rfl) (by decide) ?_
       refine sq_pass (e := 35) rfl rfl (by rw [hg42]; rfl) (by decide) ?_
       refine sq_pass (e := 35) rfl rfl (by rw [hg42]; rfl) (by decide) ?_
       refine sq_pass (e := 35) rfl rfl (by rw [hg42]; rfl) (by decide) ?_
       refine sq_pass (e := 35) rfl rfl (by rw [hg42]; rfl) (by decide) ?_
       refine sq_pass (e := 35) rfl rfl (by rw [hg42]; rfl) (by decide) ?_
       refine sq_evg (b := true) (e := 25) rfl rfl hg23 (v := .bool true) (fun w1 hw1 => ev_pick_t rfl hg42 rfl) (by decide) ?_
       exact sq_weaken (l' := [(0, vl_0), (3, vout_3), (4, .int .i64 i_4), (6, .int .i64 k_6), (25, .bool least_5), (46, .bool true)]) (.cons rfl (.cons rfl (.cons rfl (.cons rfl (.cons rfl (.cons rfl (.nil _))))))) (K43 true (Option.some.inj hS).symm)
      ·have hS := ite_false' hz46 hg42
       refine sq_evg (b := false) (e := 35) rfl rfl hg42 (v := vl_0) (fun w1 hw1 => ev_move rfl) (by decide) ?_
       refine sq_evg (b := false) (e := 35) rfl rfl hg42 (v := .int .i64 k_6) (fun w1 hw1 => ev_move rfl) (by decide) ?_
       obtain ⟨y49, hy50, hS⟩ := bind_some' hS
       obtain ⟨b51, o52, cs54, he53, hixhe53⟩ := hl_0.elem Try.underlying23 Try.info9 rfl (P := Try.prog) hy50
       obtain rfl : cs54 = [str y49] := he53.rd
       refine sq_evg (b := false) (e := 35) rfl rfl hg42 (v := .pointer (some ⟨b51, o52, none⟩)) (fun w1 hw1 => hixhe53 w1 hw1 rfl rfl) (by decide) ?_
       refine sq_evg (b := false) (e := 35) rfl rfl hg42 (v := str y49) (fun w1 hw1 => ev_load Try.isAgg9 rfl ((he53.step (.of_below hw1) (Nat.succ_pos _)).cell 0 _ rfl)) (by decide) ?_
       refine sq_evg (b := false) (e := 35) rfl rfl hg42 (v := vl_0) (fun w1 hw1 => ev_move rfl) (by decide) ?_
       refine sq_evg (b := false) (e := 35) rfl rfl hg42 (v := .int .i64 i_4) (fun w1 hw1 => ev_move rfl) (by decide) ?_
       obtain ⟨y55, hy56, hS⟩ := bind_some' hS
       obtain ⟨b57, o58, cs60, he59, hixhe59⟩ := hl_0.elem Try.underlying23 Try.info9 rfl (P := Try.prog) hy56
       obtain rfl : cs60 = [str y55] := he59.rd
       refine sq_evg (b := false) (e := 35) rfl rfl hg42 (v := .pointer (some ⟨b57, o58, none⟩)) (fun w1 hw1 => hixhe59 w1 hw1 rfl rfl) (by decide) ?_
       refine sq_evg (b := false) (e := 35) rfl rfl hg42 (v := str y55) (fun w1 hw1 => ev_load Try.isAgg9 rfl ((he59.step (.of_below hw1) (Nat.succ_pos _)).cell 0 _ rfl)) (by decide) ?_
       obtain ⟨y61, hy62, hS⟩ := bind_some' hS
       refine sq_callg (b := false) (e := 35) rfl rfl hg42 (v := .bool y61) (vs := [str y49, str y55]) rfl Try.call61 rfl (fun w1 hw1 => (ref29_Implies_ok _ (hg.below (hb.trans (hw1.mono hb.size))) hy62)) (by decide) ?_
       refine sq_evg (b := false) (e := 35) rfl rfl hg42 (v := .bool (!y61)) (fun w1 hw1 => ev_not rfl) (by decide) ?_
       refine sq_evg (b := true) (e := 25) rfl rfl hg23 (v := .bool (!y61)) (fun w1 hw1 => ev_pick_f rfl hg42 rfl) (by decide) ?_
       exact sq_weaken (l' := [(0, vl_0), (3, vout_3), (4, .int .i64 i_4), (6, .int .i64 k_6), (25, .bool least_5), (46, .bool (!y61))]) (.cons rfl (.cons rfl (.cons rfl (.cons rfl (.cons rfl (.cons rfl (.nil _))))))) (K43 (!y61) (Option.some.inj hS).symm)
    ·have hS := ite_false' hz27 hg23
     refine sq_pass (e := 25) rfl rfl (by rw [hg23]; rfl) (by decide) ?_
     refine sq_pass (e := 25) rfl rfl (by rw [hg23]; rfl) (by decide) ?_
     refine sq_pass (e := 25) rfl rfl (by rw [hg23]; rfl) (by decide) ?_
     refine sq_pass (e := 25) rfl rfl (by rw [hg23]; rfl) (by decide) ?_
     refine sq_pass (e := 25) rfl rfl (by rw [hg23]; rfl) (by decide) ?_
     refine sq_pass (e := 25) rfl rfl (by rw [hg23]; rfl) (by decide) ?_
     refine sq_pass (e := 25) rfl rfl (by rw [hg23]; rfl) (by decide) ?_
     refine sq_pass (e := 25) rfl rfl (by rw [hg23]; rfl) (by decide) ?_
     refine sq_pass (e := 25) rfl rfl (by rw [hg23]; rfl) (by decide) ?_
     refine sq_pass (e := 25) rfl rfl (by rw [hg23]; rfl) (by decide) ?_
     refine sq_pass_undef (e := 35) rfl rfl (by decide) ?_
     refine sq_pass_undef (e := 35) rfl rfl (by decide) ?_
     refine sq_pass_undef (e := 35) rfl rfl (by decide) ?_
     refine sq_pass_undef (e := 35) rfl rfl (by decide) ?_
     refine sq_pass_undef (e := 35) rfl rfl (by decide) ?_
     refine sq_pass_undef (e := 35) rfl rfl (by decide) ?_
     refine sq_pass_undef (e := 35) rfl rfl (by decide) ?_
     refine sq_pass_undef (e := 35) rfl rfl (by decide) ?_
     refine sq_pass_undef (e := 35) rfl rfl (by decide) ?_
     refine sq_pass_undef (e := 35) rfl rfl (by decide) ?_
     refine sq_pass (e := 25) rfl rfl (by rw [hg23]; rfl) (by decide) ?_
     refine sq_ev (v := .bool false) (fun w1 hw1 => ev_pick_f rfl hg23 rfl) (by decide) ?_
     exact sq_weaken (l' := [(0, vl_0), (3, vout_3), (4, .int .i64 i_4), (6, .int .i64 k_6), (47, .bool false)]) (.cons rfl (.cons rfl (.cons rfl (.cons rfl (.cons rfl (.nil _)))))) (K24 false (Option.some.inj hS).symm)
  ·replace hS := ite_false' hS hc20
   refine ke_exit (k' := _) rfl ?_
   refine ke_seq ?_
   refine ke_region ?_
   refine sr_ev (v := .bool least_5) (ev_move rfl) (by decide) ?_
   refine sr_end (l' := [(0, vl_0), (3, vout_3), (4, .int .i64 i_4), (48, .bool least_5)]) (.cons rfl (.cons rfl (.cons rfl (.cons rfl (.nil _))))) ?_
   refine ke_cond (t := least_5) rfl (fun hc65 => ?_) (fun hc65 => ?_)
   ·replace hS := ite_true' hS hc65
    refine ke_region ?_
    refine sr_ev (v := vout_3) (ev_move rfl) (by decide) ?_
    refine sr_ev (v := vl_0) (ev_move rfl) (by decide) ?_
    refine sr_ev (v := .int .i64 i_4) (ev_move rfl) (by decide) ?_
    obtain ⟨y66, hy67, hS⟩ := bind_some' hS
    refine sr_index hl_0 Try.underlying23 Try.info9 rfl rfl rfl hy67 (by decide) ?_
    intro b68 o69 cs71 he70
    obtain rfl : cs71 = [str y66] := he70.rd
    refine sr_ev (v := str y66) (ev_load Try.isAgg9 rfl (he70.cell 0 _ rfl)) (by decide) ?_
    obtain ⟨y72, hy73, hS⟩ := bind_some' hS
    refine sr_call (vs := [vout_3, str y66]) rfl Try.call43 rfl (ref06_Insert_ok _ (hg.below hb) hout_3 hA hy73) (by decide) ?_
    rintro v76 w74 ⟨_, rfl, h77, hbw75⟩
    replace hb := hb.trans (hbw75.mono hb.size)
    replace hA := lt_mono hA hbw75.size
    replace hH := hH.below hbw75
    replace hl_0 := hl_0.below hbw75
    refine sr_ev (v := v76) (ev_assign rfl) (by decide) ?_
    refine sr_end (l' := [(0, vl_0), (3, v76), (4, .int .i64 i_4)]) (.cons rfl (.cons rfl (.cons rfl (.nil _)))) ?_
    have hK := ref29_Sorted_B3_ok hg hA0 _ _ hr0 hr1 hS hb hA hi hH hl_0 h77
    exact ke_weaken (l' := [(0, vl_0), (3, v76), (4, .int .i64 i_4)]) (.cons rfl (.cons rfl (.cons rfl (.nil _)))) hK
   ·replace hS := ite_false' hS hc65
    refine ke_skip ?_
    have hK := ref29_Sorted_B3_ok hg hA0 _ _ hr0 hr1 hS hb hA hi hH hl_0 hout_3
    exact ke_weaken (l' := [(0, vl_0), (3, vout_3), (4, .int .i64 i_4)]) (.cons rfl (.cons rfl (.cons rfl (.nil _)))) hK
theorem ref29_Sorted_L1_ok {w0 : World} (hg : Gs w0) {A0 : Nat → Prop} (hA0 : ∀ b, A0 b → b < w0.heap.size) : ∀ (n : Nat), ∀ {r : List Str} {l_0 : List Str} {out_3 : List Str} {i_4 : Int} {vl_0 : Value} {vout_3 : Value}, ref29_Sorted_L1 n l_0 out_3 i_4 = some r → ∀ {w : World} {A : Nat → Prop}, (Below w0.heap.size w0 w) → (∀ b, A b → b < w.heap.size) → (∀ b, A0 b → A b) → (Hp A w0.heap.size w []) → (SlR strC A w vl_0 l_0) → (SlR strC A w vout_3 out_3) → KE Try.prog 36 (Ret (fun v w' => ∃ x1, v = x1 ∧ SlR strC A0 w' x1 r ∧ Below w0.heap.size w0 w')) 56 [.code (sub (bodyOf Try.f36) [2, 2, 1, 2, 2, 1]), .inLoop (sub (bodyOf Try.f36) [2, 2, 1, 2, 2, 1]), .inBlock 0, .code (sub (bodyOf Try.f36) [2, 2, 2])] [(0, vl_0), (3, vout_3), (4, .int .i64 i_4)] w := by
 intro n
 induction n with
 | zero => intro r l_0 out_3 i_4 vl_0 vout_3 hS; cases hS
 | succ n ih =>
  have hr0 : ∀ {r : List Str} {l_0 : List Str} {out_3 : List Str} {i_4 : Int} {vl_0 : Value} {vout_3 : Value}, ref29_Sorted_L1 n l_0 out_3 i_4 = some r → ∀ {w : World} {A : Nat → Prop}, (Below w0.heap.size w0 w) → (∀ b, A b → b < w.heap.size) → (∀ b, A0 b → A b) → (Hp A w0.heap.size w []) → (SlR strC A w vl_0 l_0) → (SlR strC A w vout_3 out_3) → KE Try.prog 36 (Ret (fun v w' => ∃ x1, v = x1 ∧ SlR strC A0 w' x1 r ∧ Below w0.heap.size w0 w')) 56 [.inLoop (sub (bodyOf Try.f36) [2, 2, 1, 2, 2, 1]), .inBlock 0, .code (sub (bodyOf Try.f36) [2, 2, 2])] [(0, vl_0), (3, vout_3), (4, .int .i64 i_4)] w := fun {r} {l_0} {out_3} {i_4} {vl_0} {vout_3} hS {w} {A} hb hA hi hH hl_0 hout_3 => ke_inLoop (ih hS hb hA hi hH hl_0 hout_3)
  clear ih
  intro r l_0 out_3 i_4 vl_0 vout_3 hS w A hb hA hi hH hl_0 hout_3
  unfold ref29_Sorted_L1 at hS
  refine ke_seq ?_
  refine ke_seq ?_
  refine ke_region ?_
  refine sr_ev (v := .int .i64 i_4) (ev_move rfl) (by decide) ?_
  refine sr_ev (v := vl_0) (ev_move rfl) (by decide) ?_
  refine sr_ev (v := .int .i64 (l_0.length : Int)) (ev_sllen Try.underlying23 rfl hl_0) (by decide) ?_
  refine sr_ev (v := .bool (decide (i_4 < (l_0.length : Int)))) (ev_lt rfl rfl) (by decide) ?_
  refine sr_end (l' := [(0, vl_0), (3, vout_3), (4, .int .i64 i_4), (10, .bool (decide (i_4 < (l_0.length : Int))))]) (.cons rfl (.cons rfl (.cons rfl (.cons rfl (.nil _))))) ?_
  refine ke_cond (t := decide (i_4 < (l_0.length : Int))) rfl (fun hc7 => ?_) (fun hc7 => ?_)
  ·replace hS := ite_true' hS hc7
   refine ke_skip ?_
   refine ke_seq ?_
   refine ke_block ?_
   refine ke_seq ?_
   refine ke_region ?_
   refine sr_ev (v := vl_0) (ev_move rfl) (by decide) ?_
   refine sr_ev (v := .int .i64 i_4) (ev_move rfl) (by decide) ?_
   obtain ⟨y8, hy9, hS⟩ := bind_some' hS
   refine sr_index hl_0 Try.underlying23 Try.info9 rfl rfl rfl hy9 (by decide) ?_
   intro b10 o11 cs13 he12
   obtain rfl : cs13 = [str y8] := he12.rd
   refine sr_ev (v := str y8) (ev_load Try.isAgg9 rfl (he12.cell 0 _ rfl)) (by decide) ?_
   obtain ⟨y14, hy15, hS⟩ := bind_some' hS
   refine sr_call (vs := [str y8]) rfl Try.call60 rfl (ref29_Valid_ok _ (hg.below hb) hy15) (by decide) ?_
   rintro _ w16 ⟨rfl, hbw17⟩
   replace hb := hb.trans (hbw17.mono hb.size)
   replace hA := lt_mono hA hbw17.size
   replace hH := hH.below hbw17
   replace hl_0 := hl_0.below hbw17
   replace hout_3 := hout_3.below hbw17
   refine sr_ev (v := .bool y14) (ev_assign rfl) (by decide) ?_
   refine sr_end (l' := [(0, vl_0), (3, vout_3), (4, .int .i64 i_4), (5, .bool y14)]) (.cons rfl (.cons rfl (.cons rfl (.cons rfl (.nil _))))) ?_
   refine ke_seq ?_
   refine ke_seq ?_
   refine ke_region ?_
   refine sr_ev (v := .int .i64 0) (ev_assign rfl) (by decide) ?_
   refine sr_end (l' := [(0, vl_0), (3, vout_3), (4, .int .i64 i_4), (5, .bool y14), (6, .int .i64 0)]) (.cons rfl (.cons rfl (.cons rfl (.cons rfl (.cons rfl (.nil _)))))) ?_
   refine ke_block ?_
   have hK := ref29_Sorted_L2_ok hg hA0 _ hr0 _ hS hb hA hi hH hl_0 hout_3
   exact ke_weaken (l' := [(0, vl_0), (3, vout_3), (4, .int .i64 i_4), (5, .bool y14), (6, .int .i64 0)]) (.cons rfl (.cons rfl (.cons rfl (.cons rfl (.cons rfl (.nil _)))))) (ke_loop hK)
  ·replace hS := ite_false' hS hc7
   refine ke_exit (k' := _) rfl ?_
   refine ke_seq ?_
   refine ke_region ?_
   refine sr_ev (v := vout_3) (ev_move rfl) (by decide) ?_
   refine sr_ev (v := vout_3) (ev_assign rfl) (by decide) ?_
   refine sr_end (l' := [(2, vout_3)]) (.cons rfl (.nil _)) ?_
   cases hS
   exact ke_ret1 Try.func36 rfl rfl ⟨_, rfl, _, rfl, hout_3.weak hi, hb⟩
theorem ref29_Sorted_ok {A0 : Nat → Prop} (w0 : World) (hg : Gs w0) {l_0 : List Str} {v1 : Value} {r : List Str} (h2 : SlR strC A0 w0 v1 l_0) (hA0 : ∀ b, A0 b → b < w0.heap.size) (hS : ref29_Sorted l_0 = some r) :
  Calls Try.prog 36 #[v1] w0 (Ret (fun v w' => ∃ x1, v = x1 ∧ SlR strC A0 w' x1 r ∧ Below w0.heap.size w0 w')) := by
 unfold ref29_Sorted at hS
 have hb := Below.refl w0.heap.size w0
 have hA := hA0
 have hi : ∀ b, A0 b → A0 b := fun _ h => h
 have hH := Hp.nil A0 w0.heap.size w0
 refine calls_of_ke Try.func36 rfl (n := 56) rfl rfl (l := [(0, v1)]) rfl ?_
 refine ke_seq ?_
 refine ke_region ?_
 refine sr_ev (v := .slice none 0 0) (ev_assign rfl) (by decide) ?_
 refine sr_end (l' := [(0, v1)]) (.cons rfl (.nil _)) ?_
 refine ke_seq ?_
 refine ke_region ?_
 refine sr_ev (v := .slice none 0 0) (ev_assign rfl) (by decide) ?_
 refine sr_end (l' := [(0, v1), (3, .slice none 0 0)]) (.cons rfl (.cons rfl (.nil _))) ?_
 refine ke_seq ?_
 refine ke_seq ?_
 refine ke_region ?_
 refine sr_ev (v := .int .i64 0) (ev_assign rfl) (by decide) ?_
 refine sr_end (l' := [(0, v1), (3, .slice none 0 0), (4, .int .i64 0)]) (.cons rfl (.cons rfl (.cons rfl (.nil _)))) ?_
 refine ke_block ?_
 have hK := ref29_Sorted_L1_ok hg hA0 _ hS hb hA hi hH h2 SlR.nil
 exact ke_weaken (l' := [(0, v1), (3, (.slice none 0 0)), (4, .int .i64 0)]) (.cons rfl (.cons rfl (.cons rfl (.nil _)))) (ke_loop hK)
theorem ref35_Delegations_Scopes_ok (w0 : World) (hg : Gs w0) {ρA : Tags} (hbd : ∀ b, ρA b ≠ 0 → b < w0.heap.size) (hz : Gz ρA) {τ0 : Nat → Nat} (hτ0 : ∀ p, 1 ≤ τ0 p) {d_0 : ref35_Delegations} {from_1 : Str} {to_2 : Str} {now_3 : Int} {gd_0 : Nat} {r : List Str} (ho0 : ref35_Delegations.O τ0 ρA w0 gd_0 d_0) (hS : ref35_Delegations_Scopes d_0 from_1 to_2 now_3 = some r) :
  Calls Try.prog 17 #[.pointer (some ⟨gd_0, 0, none⟩), str from_1, str to_2, .int .i64 now_3] w0 (Ret (fun v w' => ∃ x1, v = x1 ∧ SlR strC (Wb ρA) w' x1 r ∧ Below w0.heap.size w0 w')) := by
 unfold ref35_Delegations_Scopes at hS
 have hb := flat1_fr (ρ := ρA) (w := w0) hbd
 have hz := hz.flat1
 obtain ⟨v1, hB3, h2⟩ := ho0
 replace hB3 := hB3.mv (flat1_mv (hτ0 0))
 replace h2 := h2.mv (flat1_mv (hτ0 1)) (by decide)
 replace hB3 : Blk (flat1 ρA) 1 w0 gd_0 (.cells #[.bool d_0.made, v1] 57 (0, 0)) := hB3
 replace h2 : OwnT ref35_one.c 65 (flat1 ρA) 1 w0 v1 d_0.l := h2
 refine calls_of_ke Try.func17 rfl (n := 32) rfl rfl (l := [(0, .pointer (some ⟨gd_0, 0, none⟩)), (1, str from_1), (2, str to_2), (3, .int .i64 now_3)]) rfl ?_
 refine ke_seq ?_
 refine ke_region ?_
 refine sr_ev (v := .slice none 0 0) (ev_assign rfl) (by decide) ?_
 refine sr_end (l' := [(0, .pointer (some ⟨gd_0, 0, none⟩)), (1, str from_1), (2, str to_2), (3, .int .i64 now_3)]) (.cons rfl (.cons rfl (.cons rfl (.cons rfl (.nil _))))) ?_
 refine ke_seq ?_
 refine ke_seq ?_
 refine ke_region ?_
 refine sr_ev (v := .pointer (some ⟨gd_0, 0, none⟩)) (ev_move rfl) (by decide) ?_
 obtain ⟨y6, hy7, hS⟩ := bind_some' hS
 refine sr_call (vs := [.pointer (some ⟨gd_0, 0, none⟩)]) rfl Try.call35 rfl (ref35_Delegations_Made_ok _ (hg.fr hz hb) (ρA := (flat1 ρA)) hb.bd (hz.fr hg hb) (τ0 := (fun _ => 1)) (fun _ => Nat.le_refl 1) (⟨_, hB3, h2⟩ : ref35_Delegations.O (fun _ => 1) (flat1 ρA) w0 gd_0 d_0) hy7) (by decide) ?_
 rintro _ w8 ⟨rfl, hbw9⟩
 have htr10 := Tr.of_below hbw9 hb.bd
 replace hB3 := hB3.mv (htr10.mv (i := 1) rfl)
 replace h2 := h2.mv (htr10.mv (i := 1) rfl) (by decide)
 replace hb := hb.trans htr10
 refine sr_ev (v := .bool (!y6)) (ev_not rfl) (by decide) ?_
 refine sr_ev (v := .bool (!y6)) (ev_move rfl) (by decide) ?_
 obtain ⟨z13, hz15, hS⟩ := bind_some' hS
 refine sr_join (m := 7) (C := fun (z : Bool) w1 => z13 = z ∧ ∃ ρ1, Tr (flat1 ρA) w8 (fun _ => false) ρ1 w1) (l' := fun z => [(0, .pointer (some ⟨gd_0, 0, none⟩)), (1, str from_1), (2, str to_2), (19, .bool z)]) ?_ ?_
 ·rintro _ w16 ⟨rfl, ρ17, hj14⟩
  replace hB3 := hB3.mv (hj14.mv (i := 1) rfl)
  replace h2 := h2.mv (hj14.mv (i := 1) rfl) (by decide)
  replace hb := hb.trans hj14
  refine sr_end (l' := [(0, .pointer (some ⟨gd_0, 0, none⟩)), (1, str from_1), (2, str to_2), (19, .bool z13)]) (.cons rfl (.cons rfl (.cons rfl (.cons rfl (.nil _))))) ?_
  refine ke_cond (t := z13) rfl (fun hc24 => ?_) (fun hc24 => ?_)
  ·replace hS := ite_true' hS hc24
   refine ke_seq ?_
   refine ke_region ?_
   refine sr_ev (v := .slice none 0 0) (ev_assign rfl) (by decide) ?_
   refine sr_end (l' := [(8, .slice none 0 0)]) (.cons rfl (.nil _)) ?_
   cases hS
   exact ke_ret1 Try.func17 rfl rfl ⟨_, rfl, _, rfl, SlR.nil, (hb.below (flat1_le _))⟩
  ·replace hS := ite_false' hS hc24
   refine ke_skip ?_
   refine ke_seq ?_
   refine ke_region_j (ρ := ρ17) (fun _ => false) 13 Try.mixed (fun w26 hw25 => ?_)
   have htr27 := Tr.of_below hw25 hb.bd
   replace hB3 := hB3.mv (htr27.mv (i := 1) rfl)
   replace h2 := h2.mv (htr27.mv (i := 1) rfl) (by decide)
   replace hb := hb.trans htr27
   refine dj_H 0 (v := .pointer (some ⟨gd_0, 0, none⟩)) (by kernel_rfl) (by kernel_rfl) rfl (fun _ _ _ h => h) (sj_refl hb.bd rfl rfl) (fun w1 ρ1 hw1 => ev_move rfl) (by decide) ?_
   refine dj_H 1 (v := .pointer (some ⟨gd_0, 0, none⟩)) (by kernel_rfl) (by kernel_rfl) rfl (fun _ _ _ h => h) (sj_refl hb.bd rfl rfl) (fun w1 ρ1 hw1 => ev_nilCheck rfl) (by decide) ?_
   refine dj_H 2 (v := .pointer (some ⟨gd_0, 1, none⟩)) (by kernel_rfl) (by kernel_rfl) rfl (fun _ _ _ h => h) (sj_refl hb.bd rfl rfl) (fun w1 ρ1 hw1 => ev_fieldAddr (i := 1) Try.underlying57 rfl Try.info55 rfl rfl) (by decide) ?_
   refine dj_H 3 (v := v1) (by kernel_rfl) (by kernel_rfl) rfl (fun _ _ _ h => h) (sj_refl hb.bd rfl rfl) (fun w1 ρ1 hw1 => ev_load Try.isAgg55 rfl ((hB3.mv (hw1.mv (i := 1) rfl)).cell rfl)) (by decide) ?_
   refine dj_H 4 (v := .pointer (some ⟨gd_0, 0, none⟩)) (by kernel_rfl) (by kernel_rfl) rfl (fun _ _ _ h => h) (sj_refl hb.bd rfl rfl) (fun w1 ρ1 hw1 => ev_move rfl) (by decide) ?_
   refine dj_H 5 (v := str from_1) (by kernel_rfl) (by kernel_rfl) rfl (fun _ _ _ h => h) (sj_refl hb.bd rfl rfl) (fun w1 ρ1 hw1 => ev_move rfl) (by decide) ?_
   refine dj_H 6 (v := str to_2) (by kernel_rfl) (by kernel_rfl) rfl (fun _ _ _ h => h) (sj_refl hb.bd rfl rfl) (fun w1 ρ1 hw1 => ev_move rfl) (by decide) ?_
   refine dj_E 7 (by kernel_rfl) rfl ?_
   have jt79 : Tr ρ17 w26 (fun _ => false) ρ17 w26 := (Tr.refl hb.bd).weak (fun _ _ => rfl) rfl rfl
   obtain ⟨y80, hy81, hS⟩ := bind_some' hS
   refine sr_call (vs := [.pointer (some ⟨gd_0, 0, none⟩), str from_1, str to_2]) rfl Try.call37 rfl (ref35_Delegations_find_ok _ (hg.fr hz hb) (ρA := ρ17) hb.bd (hz.fr hg hb) (τ0 := (fun _ => 1)) (fun _ => Nat.le_refl 1) (⟨_, hB3, h2⟩ : ref35_Delegations.O (fun _ => 1) ρ17 w26 gd_0 d_0) hy81) (by decide) ?_
   rintro _ w82 ⟨rfl, hbw83⟩
   have htr84 := Tr.of_below hbw83 hb.bd
   replace h2 := h2.mv (htr84.mv (i := 1) rfl) (by decide)
   replace hb := hb.trans htr84
   replace jt79 := (jt79.trans htr84).weak (J' := (fun _ => false)) (by intro t h; simp [rng] at h ⊢ <;> omega) rfl rfl
   refine dj_next (l' := [(23, v1), (27, .int .i64 y80)]) rfl (.cons rfl (.cons rfl (.nil _))) jt79 (by intro t h; simp [rng] at h ⊢ <;> omega) rfl rfl ?_
   obtain ⟨y85, hy86, hS⟩ := bind_some' hS
   obtain ⟨b87, o88, cs90, hq91, he89, hg94, ho95⟩ := h2.elemQ (P := Try.prog) Try.underlying55 Try.info65 rfl hy86
   obtain ⟨v92, hcshe89, h93⟩ := he89.rd
   obtain rfl : cs90 = [str y85.from_, str y85.to_, v92, .int .i64 y85.window.From, .int .i64 y85.window.Until] := hcshe89
   refine dj_H 8 (v := .pointer (some ⟨b87, o88, none⟩)) (by kernel_rfl) (by kernel_rfl) rfl (fun _ _ _ h => h) (sj_refl hb.bd rfl rfl) (fun w1 ρ1 hw1 => hq91 w1 rfl rfl) (by decide) ?_
   refine dj_H 9 (v := .pointer (some ⟨b87, o88 + 2, none⟩)) (by kernel_rfl) (by kernel_rfl) rfl (fun _ _ _ h => h) (sj_refl hb.bd rfl rfl) (fun w1 ρ1 hw1 => ev_fieldAddr (i := 2) Try.underlying65 rfl Try.info23 rfl rfl) (by decide) ?_
   refine dj_H 10 (v := v92) (by kernel_rfl) (by kernel_rfl) rfl (fun _ _ _ h => h) (sj_refl hb.bd rfl rfl) (fun w1 ρ1 hw1 => ev_load Try.isAgg23 rfl ((he89.mv (hw1.mv (i := 1) rfl) (Nat.succ_pos _)).cell 2 _ rfl)) (by decide) ?_
   refine dj_E 11 (by kernel_rfl) rfl ?_
   have jt96 : Tr ρ17 w82 (fun _ => false) ρ17 w82 := (Tr.refl hb.bd).weak (fun _ _ => rfl) rfl rfl
   obtain ⟨y97, hy98, hS⟩ := bind_some' hS
   refine sr_call (vs := [v92]) rfl Try.call36 rfl (ref29_Sorted_ok (A0 := Wb ρ17) _ (hg.fr hz hb) h93 hb.bd hy98) (by decide) ?_
   rintro v102 w99 ⟨_, rfl, h103, hbw100⟩
   have htr101 := Tr.of_below hbw100 hb.bd
   replace hb := hb.trans htr101
   replace jt96 := (jt96.trans htr101).weak (J' := (fun _ => false)) (by intro t h; simp [rng] at h ⊢ <;> omega) rfl rfl
   refine dj_next (l' := [(31, v102)]) rfl (.cons rfl (.nil _)) jt96 (by intro t h; simp [rng] at h ⊢ <;> omega) rfl rfl ?_
   refine dj_H 12 (v := v102) (by kernel_rfl) (by kernel_rfl) rfl (fun _ _ _ h => h) (sj_refl hb.bd rfl rfl) (fun w1 ρ1 hw1 => ev_assign rfl) (by decide) ?_
   refine dj_done rfl (by kernel_rfl) ?_
   refine ke_weaken (l' := [(8, v102)]) (.cons rfl (.nil _)) ?_
   cases hS
   exact ke_ret1 Try.func17 rfl rfl ⟨_, rfl, _, rfl, (SlR.mv h103 (flat1_back hb hbd)), (hb.below (flat1_le _))⟩
 ·intro K12
  clear hS
  have hj14 : Tr (flat1 ρA) w8 (fun _ => false) (flat1 ρA) w8 := (Tr.refl hb.bd).weak (fun _ _ => rfl) rfl rfl
  rcases Bool.eq_false_or_eq_true (!y6) with hg11 | hg11
  ·have hS := ite_true' hz15 hg11
   refine sr_pass (e := 12) rfl rfl (by rw [hg11]; rfl) (by decide) ?_
   refine sr_pass (e := 12) rfl rfl (by rw [hg11]; rfl) (by decide) ?_
   refine sr_pass (e := 12) rfl rfl (by rw [hg11]; rfl) (by decide) ?_
   refine sr_pass (e := 12) rfl rfl (by rw [hg11]; rfl) (by decide) ?_
   refine sr_pass (e := 12) rfl rfl (by rw [hg11]; rfl) (by decide) ?_
   refine sr_pass (e := 12) rfl rfl (by rw [hg11]; rfl) (by decide) ?_
   refine sr_ev (v := .bool true) (ev_pick_t rfl hg11 rfl) (by decide) ?_
   exact sr_weaken (l' := [(0, .pointer (some ⟨gd_0, 0, none⟩)), (1, str from_1), (2, str to_2), (19, .bool true)]) (.cons rfl (.cons rfl (.cons rfl (.cons rfl (.nil _))))) (K12 true _ ⟨(Option.some.inj hS).symm, _, hj14⟩)
  ·have hS := ite_false' hz15 hg11
   refine sr_evg (b := false) (e := 12) rfl rfl hg11 (v := .pointer (some ⟨gd_0, 0, none⟩)) (ev_move rfl) (by decide) ?_
   refine sr_evg (b := false) (e := 12) rfl rfl hg11 (v := str from_1) (ev_move rfl) (by decide) ?_
   refine sr_evg (b := false) (e := 12) rfl rfl hg11 (v := str to_2) (ev_move rfl) (by decide) ?_
   refine sr_evg (b := false) (e := 12) rfl rfl hg11 (v := .int .i64 now_3) (ev_move rfl) (by decide) ?_
   obtain ⟨y19, hy20, hS⟩ := bind_some' hS
   refine sr_callg (b := false) (e := 12) rfl rfl hg11 (vs := [.pointer (some ⟨gd_0, 0, none⟩), str from_1, str to_2, (.slice none 0 0), .int .i64 now_3]) rfl Try.call33 rfl (ref35_Delegations_May_ok _ (hg.fr hz hb) (ρA := (flat1 ρA)) hb.bd (hz.fr hg hb) (τ0 := (fun _ => 1)) (fun _ => Nat.le_refl 1) (SlR.nil (A := Wb (flat1 ρA))) (⟨_, hB3, h2⟩ : ref35_Delegations.O (fun _ => 1) (flat1 ρA) w8 gd_0 d_0) hy20) (by decide) ?_
   rintro _ w21 ⟨rfl, hbw22⟩
   have htr23 := Tr.of_below hbw22 hb.bd
   replace hB3 := hB3.mv (htr23.mv (i := 1) rfl)
   replace h2 := h2.mv (htr23.mv (i := 1) rfl) (by decide)
   replace hb := hb.trans htr23
   replace hj14 := (hj14.trans htr23).weak (J' := (fun _ => false)) (by intro t h; simp [rng] at h ⊢ <;> omega) rfl rfl
   refine sr_evg (b := false) (e := 12) rfl rfl hg11 (v := .bool (y19 != 0)) (ev_ne rfl rfl) (by decide) ?_
   refine sr_ev (v := .bool (y19 != 0)) (ev_pick_f rfl hg11 rfl) (by decide) ?_
   exact sr_weaken (l' := [(0, .pointer (some ⟨gd_0, 0, none⟩)), (1, str from_1), (2, str to_2), (19, .bool (y19 != 0))]) (.cons rfl (.cons rfl (.cons rfl (.cons rfl (.nil _))))) (K12 (y19 != 0) _ ⟨(Option.some.inj hS).symm, _, hj14⟩)
theorem ref35_has_L1_ok {w0 : World} (hg : Gs w0) {A0 : Nat → Prop} (hA0 : ∀ b, A0 b → b < w0.heap.size) : ∀ (n : Nat), ∀ {r : Bool} {l_0 : List Str} {s_1 : Str} {i_5 : Int} {vl_0 : Value}, ref35_has_L1 n l_0 s_1 i_5 = some r → ∀ {w : World} {A : Nat → Prop}, (Below w0.heap.size w0 w) → (∀ b, A b → b < w.heap.size) → (∀ b, A0 b → A b) → (Hp A w0.heap.size w []) → (SlR strC A w vl_0 l_0) → KE Try.prog 42 (Ret (fun v w' => v = .bool r ∧ Below w0.heap.size w0 w')) 18 [.code (sub (bodyOf Try.f42) [2, 1, 2, 2, 1]), .inLoop (sub (bodyOf Try.f42) [2, 1, 2, 2, 1]), .inBlock 0, .code (sub (bodyOf Try.f42) [2, 2])] [(0, vl_0), (1, str s_1), (5, .int .i64 i_5)] w := by
 intro n
 induction n with
 | zero => intro r l_0 s_1 i_5 vl_0 hS; cases hS
 | succ n ih =>
  have hr0 : ∀ {r : Bool} {l_0 : List Str} {s_1 : Str} {i_5 : Int} {vl_0 : Value}, ref35_has_L1 n l_0 s_1 i_5 = some r → ∀ {w : World} {A : Nat → Prop}, (Below w0.heap.size w0 w) → (∀ b, A b → b < w.heap.size) → (∀ b, A0 b → A b) → (Hp A w0.heap.size w []) → (SlR strC A w vl_0 l_0) → KE Try.prog 42 (Ret (fun v w' => v = .bool r ∧ Below w0.heap.size w0 w')) 18 [.inLoop (sub (bodyOf Try.f42) [2, 1, 2, 2, 1]), .inBlock 0, .code (sub (bodyOf Try.f42) [2, 2])] [(0, vl_0), (1, str s_1), (5, .int .i64 i_5)] w := fun {r} {l_0} {s_1} {i_5} {vl_0} hS {w} {A} hb hA hi hH hl_0 => ke_inLoop (ih hS hb hA hi hH hl_0)
  clear ih
  intro r l_0 s_1 i_5 vl_0 hS w A hb hA hi hH hl_0
  unfold ref35_has_L1 at hS
  refine ke_seq ?_
  refine ke_seq ?_
  refine ke_region ?_
  refine sr_ev (v := .int .i64 i_5) (ev_move rfl) (by decide) ?_
  refine sr_ev (v := vl_0) (ev_move rfl) (by decide) ?_
  refine sr_ev (v := .int .i64 (l_0.length : Int)) (ev_sllen Try.underlying23 rfl hl_0) (by decide) ?_
  refine sr_ev (v := .bool (decide (i_5 < (l_0.length : Int)))) (ev_lt rfl rfl) (by decide) ?_
  refine sr_end (l' := [(0, vl_0), (1, str s_1), (5, .int .i64 i_5), (9, .bool (decide (i_5 < (l_0.length : Int))))]) (.cons rfl (.cons rfl (.cons rfl (.cons rfl (.nil _))))) ?_
  refine ke_cond (t := decide (i_5 < (l_0.length : Int))) rfl (fun hc3 => ?_) (fun hc3 => ?_)
  ·replace hS := ite_true' hS hc3
   refine ke_skip ?_
   refine ke_seq ?_
   refine ke_block ?_
   refine ke_seq ?_
   refine ke_region ?_
   refine sr_ev (v := vl_0) (ev_move rfl) (by decide) ?_
   refine sr_ev (v := .int .i64 i_5) (ev_move rfl) (by decide) ?_
   obtain ⟨y4, hy5, hS⟩ := bind_some' hS
   refine sr_index hl_0 Try.underlying23 Try.info9 rfl rfl rfl hy5 (by decide) ?_
   intro b6 o7 cs9 he8
   obtain rfl : cs9 = [str y4] := he8.rd
   refine sr_ev (v := str y4) (ev_load Try.isAgg9 rfl (he8.cell 0 _ rfl)) (by decide) ?_
   refine sr_ev (v := str s_1) (ev_move rfl) (by decide) ?_
   refine sr_ev (v := .bool (y4 == s_1)) (ev_seq rfl rfl) (by decide) ?_
   refine sr_end (l' := [(0, vl_0), (1, str s_1), (5, .int .i64 i_5), (17, .bool (y4 == s_1))]) (.cons rfl (.cons rfl (.cons rfl (.cons rfl (.nil _))))) ?_
   refine ke_cond (t := y4 == s_1) rfl (fun hc10 => ?_) (fun hc10 => ?_)
   ·replace hS := ite_true' hS hc10
    refine ke_seq ?_
    refine ke_region ?_
    refine sr_ev (v := .bool true) (ev_assign rfl) (by decide) ?_
    refine sr_end (l' := [(4, .bool true)]) (.cons rfl (.nil _)) ?_
    cases hS
    exact ke_ret1 Try.func42 rfl rfl ⟨_, rfl, rfl, hb⟩
   ·replace hS := ite_false' hS hc10
    refine ke_skip ?_
    refine ke_inBlock ?_
    refine ke_region ?_
    refine sr_ev (v := .int .i64 i_5) (ev_move rfl) (by decide) ?_
    refine sr_ev (v := .int .i64 (IntKind.i64.wrap (i_5 + 1))) (ev_add rfl rfl) (by decide) ?_
    refine sr_ev (v := .int .i64 (IntKind.i64.wrap (i_5 + 1))) (ev_assign rfl) (by decide) ?_
    refine sr_end (l' := [(0, vl_0), (1, str s_1), (5, .int .i64 (IntKind.i64.wrap (i_5 + 1)))]) (.cons rfl (.cons rfl (.cons rfl (.nil _)))) ?_
    have hK := hr0 hS hb hA hi hH hl_0
    exact ke_weaken (l' := [(0, vl_0), (1, str s_1), (5, .int .i64 (IntKind.i64.wrap (i_5 + 1)))]) (.cons rfl (.cons rfl (.cons rfl (.nil _)))) hK
  ·replace hS := ite_false' hS hc3
   refine ke_exit (k' := _) rfl ?_
   refine ke_seq ?_
   refine ke_region ?_
   refine sr_ev (v := .bool false) (ev_assign rfl) (by decide) ?_
   refine sr_end (l' := [(4, .bool false)]) (.cons rfl (.nil _)) ?_
   cases hS
   exact ke_ret1 Try.func42 rfl rfl ⟨_, rfl, rfl, hb⟩
theorem ref35_has_ok {A0 : Nat → Prop} (w0 : World) (hg : Gs w0) {l_0 : List Str} {s_1 : Str} {v1 : Value} {r : Bool} (h2 : SlR strC A0 w0 v1 l_0) (hS : ref35_has l_0 s_1 = some r) :
  Calls Try.prog 42 #[v1, str s_1] w0 (Ret (fun v w' => v = .bool r ∧ Below w0.heap.size w0 w')) := by
 unfold ref35_has at hS
 have hb := Below.refl w0.heap.size w0
 replace h2 := h2.weak (A' := fun _ => False) (fun _ h => h.elim)
 obtain ⟨A0, hA0, hAe⟩ : ∃ A0 : Nat → Prop, (∀ b, A0 b → b < w0.heap.size) ∧ A0 = fun _ => False := ⟨_, fun _ h => h.elim, rfl⟩
 rw [← hAe] at h2
 clear hAe
 have hA := hA0
 have hi : ∀ b, A0 b → A0 b := fun _ h => h
 have hH := Hp.nil A0 w0.heap.size w0
 refine calls_of_ke Try.func42 rfl (n := 18) rfl rfl (l := [(0, v1), (1, str s_1)]) rfl ?_
 refine ke_seq ?_
 refine ke_region ?_
 refine sr_ev (v := .bool false) (ev_assign rfl) (by decide) ?_
 refine sr_end (l' := [(0, v1), (1, str s_1)]) (.cons rfl (.cons rfl (.nil _))) ?_
 refine ke_seq ?_
 refine ke_seq ?_
 refine ke_region ?_
 refine sr_ev (v := .int .i64 0) (ev_assign rfl) (by decide) ?_
 refine sr_end (l' := [(0, v1), (1, str s_1), (5, .int .i64 0)]) (.cons rfl (.cons rfl (.cons rfl (.nil _)))) ?_
 refine ke_block ?_
 have hK := ref35_has_L1_ok hg hA0 _ hS hb hA hi hH h2
 exact ke_weaken (l' := [(0, v1), (1, str s_1), (5, .int .i64 0)]) (.cons rfl (.cons rfl (.cons rfl (.nil _)))) (ke_loop hK)
theorem ref35_Delegations_Reach_B4_ok {w0 : World} (hg : Gs w0) {ρA : Tags} (hbd : ∀ b, ρA b ≠ 0 → b < w0.heap.size) (hz : Gz (flat1 ρA)) (r0 : ref35_Delegations → Str → Int → List Str → Int → Option (List Str)) (r1 : ref35_Delegations → Str → Int → List Str → Int → Int → Option (List Str))
  (hr0 : ∀ {r : List Str} {od_0 : ref35_Delegations} {scope_2 : Str} {now_3 : Int} {seen_9 : List Str} {i_10 : Int} {gd_0 : Nat} {vseen_9 : Value}, r0 od_0 scope_2 now_3 seen_9 i_10 = some r → ∀ {ρ : Tags} {w : World}, (Fr (flat1 ρA) w0 ρ w) → (ref35_Delegations.O (fun _ => 1) ρ w gd_0 od_0) → (OwnT strC 9 ρ 21 w vseen_9 seen_9) → KE Try.prog 21 (Ret (fun v w' => ∃ x1, v = x1 ∧ SlR strC (Wb ρA) w' x1 r ∧ Below w0.heap.size w0 w')) 86 [.inLoop (sub (bodyOf Try.f21) [2, 2, 2, 1, 2, 2, 1]), .inBlock 0, .code (sub (bodyOf Try.f21) [2, 2, 2, 2])] [(0, .pointer (some ⟨gd_0, 0, none⟩)), (2, str scope_2), (3, .int .i64 now_3), (9, vseen_9), (10, .int .i64 i_10)] w)
  (hr1 : ∀ {r : List Str} {od_0 : ref35_Delegations} {scope_2 : Str} {now_3 : Int} {seen_9 : List Str} {i_10 : Int} {k_11 : Int} {gd_0 : Nat} {vseen_9 : Value}, r1 od_0 scope_2 now_3 seen_9 i_10 k_11 = some r → ∀ {ρ : Tags} {w : World}, (Fr (flat1 ρA) w0 ρ w) → (ref35_Delegations.O (fun _ => 1) ρ w gd_0 od_0) → (OwnT strC 9 ρ 21 w vseen_9 seen_9) → KE Try.prog 21 (Ret (fun v w' => ∃ x1, v = x1 ∧ SlR strC (Wb ρA) w' x1 r ∧ Below w0.heap.size w0 w')) 86 [.inLoop (sub (bodyOf Try.f21) [2, 2, 2, 1, 2, 2, 1, 2, 1, 2, 2, 2, 1]), .inBlock 2, .inBlock 1, .code (sub (bodyOf Try.f21) [2, 2, 2, 1, 2, 2, 1, 2, 2]), .inLoop (sub (bodyOf Try.f21) [2, 2, 2, 1, 2, 2, 1]), .inBlock 0, .code (sub (bodyOf Try.f21) [2, 2, 2, 2])] [(0, .pointer (some ⟨gd_0, 0, none⟩)), (2, str scope_2), (3, .int .i64 now_3), (9, vseen_9), (10, .int .i64 i_10), (11, .int .i64 k_11)] w) {r : List Str} {od_0 : ref35_Delegations} {scope_2 : Str} {now_3 : Int} {seen_9 : List Str} {i_10 : Int} {k_11 : Int} {gd_0 : Nat} {vseen_9 : Value} (hS : ref35_Delegations_Reach_B4 r0 r1 od_0 scope_2 now_3 seen_9 i_10 k_11 = some r) {ρ : Tags} {w : World} (hb : Fr (flat1 ρA) w0 ρ w) (hod_0 : ref35_Delegations.O (fun _ => 1) ρ w gd_0 od_0) (hseen_9 : OwnT strC 9 ρ 21 w vseen_9 seen_9) :
  KE Try.prog 21 (Ret (fun v w' => ∃ x1, v = x1 ∧ SlR strC (Wb ρA) w' x1 r ∧ Below w0.heap.size w0 w')) 86 [.inBlock 3, .code (sub (bodyOf Try.f21) [2, 2, 2, 1, 2, 2, 1, 2, 1, 2, 2, 2, 1, 2, 2]), .inLoop (sub (bodyOf Try.f21) [2, 2, 2, 1, 2, 2, 1, 2, 1, 2, 2, 2, 1]), .inBlock 2, .inBlock 1, .code (sub (bodyOf Try.f21) [2, 2, 2, 1, 2, 2, 1, 2, 2]), .inLoop (sub (bodyOf Try.f21) [2, 2, 2, 1, 2, 2, 1]), .inBlock 0, .code (sub (bodyOf Try.f21) [2, 2, 2, 2])] [(0, .pointer (some ⟨gd_0, 0, none⟩)), (2, str scope_2), (3, .int .i64 now_3), (9, vseen_9), (10, .int .i64 i_10), (11, .int .i64 k_11)] w := by
 unfold ref35_Delegations_Reach_B4 at hS
 obtain ⟨v155, hB157, h156⟩ := hod_0
 replace hB157 : Blk ρ 1 w gd_0 (.cells #[.bool od_0.made, v155] 57 (0, 0)) := hB157
 replace h156 : OwnT ref35_one.c 65 ρ 1 w v155 od_0.l := h156
 refine ke_inBlock ?_
 refine ke_region ?_
 refine sr_ev (v := .int .i64 k_11) (ev_move rfl) (by decide) ?_
 refine sr_ev (v := .int .i64 (IntKind.i64.wrap (k_11 + 1))) (ev_add rfl rfl) (by decide) ?_
 refine sr_ev (v := .int .i64 (IntKind.i64.wrap (k_11 + 1))) (ev_assign rfl) (by decide) ?_
 refine sr_end (l' := [(0, .pointer (some ⟨gd_0, 0, none⟩)), (2, str scope_2), (3, .int .i64 now_3), (9, vseen_9), (10, .int .i64 i_10), (11, .int .i64 (IntKind.i64.wrap (k_11 + 1)))]) (.cons rfl (.cons rfl (.cons rfl (.cons rfl (.cons rfl (.cons rfl (.nil _))))))) ?_
 have hK := hr1 hS hb ⟨_, hB157, h156⟩ hseen_9
 exact ke_weaken (l' := [(0, .pointer (some ⟨gd_0, 0, none⟩)), (2, str scope_2), (3, .int .i64 now_3), (9, vseen_9), (10, .int .i64 i_10), (11, .int .i64 (IntKind.i64.wrap (k_11 + 1)))]) (.cons rfl (.cons rfl (.cons rfl (.cons rfl (.cons rfl (.cons rfl (.nil _))))))) hK
theorem ref35_Delegations_Reach_B3_ok {w0 : World} (hg : Gs w0) {ρA : Tags} (hbd : ∀ b, ρA b ≠ 0 → b < w0.heap.size) (hz : Gz (flat1 ρA)) (r0 : ref35_Delegations → Str → Int → List Str → Int → Option (List Str)) (r1 : ref35_Delegations → Str → Int → List Str → Int → Int → Option (List Str))
  (hr0 : ∀ {r : List Str} {od_0 : ref35_Delegations} {scope_2 : Str} {now_3 : Int} {seen_9 : List Str} {i_10 : Int} {gd_0 : Nat} {vseen_9 : Value}, r0 od_0 scope_2 now_3 seen_9 i_10 = some r → ∀ {ρ : Tags} {w : World}, (Fr (flat1 ρA) w0 ρ w) → (ref35_Delegations.O (fun _ => 1) ρ w gd_0 od_0) → (OwnT strC 9 ρ 21 w vseen_9 seen_9) → KE Try.prog 21 (Ret (fun v w' => ∃ x1, v = x1 ∧ SlR strC (Wb ρA) w' x1 r ∧ Below w0.heap.size w0 w')) 86 [.inLoop (sub (bodyOf Try.f21) [2, 2, 2, 1, 2, 2, 1]), .inBlock 0, .code (sub (bodyOf Try.f21) [2, 2, 2, 2])] [(0, .pointer (some ⟨gd_0, 0, none⟩)), (2, str scope_2), (3, .int .i64 now_3), (9, vseen_9), (10, .int .i64 i_10)] w)
  (hr1 : ∀ {r : List Str} {od_0 : ref35_Delegations} {scope_2 : Str} {now_3 : Int} {seen_9 : List Str} {i_10 : Int} {k_11 : Int} {gd_0 : Nat} {vseen_9 : Value}, r1 od_0 scope_2 now_3 seen_9 i_10 k_11 = some r → ∀ {ρ : Tags} {w : World}, (Fr (flat1 ρA) w0 ρ w) → (ref35_Delegations.O (fun _ => 1) ρ w gd_0 od_0) → (OwnT strC 9 ρ 21 w vseen_9 seen_9) → KE Try.prog 21 (Ret (fun v w' => ∃ x1, v = x1 ∧ SlR strC (Wb ρA) w' x1 r ∧ Below w0.heap.size w0 w')) 86 [.inLoop (sub (bodyOf Try.f21) [2, 2, 2, 1, 2, 2, 1, 2, 1, 2, 2, 2, 1]), .inBlock 2, .inBlock 1, .code (sub (bodyOf Try.f21) [2, 2, 2, 1, 2, 2, 1, 2, 2]), .inLoop (sub (bodyOf Try.f21) [2, 2, 2, 1, 2, 2, 1]), .inBlock 0, .code (sub (bodyOf Try.f21) [2, 2, 2, 2])] [(0, .pointer (some ⟨gd_0, 0, none⟩)), (2, str scope_2), (3, .int .i64 now_3), (9, vseen_9), (10, .int .i64 i_10), (11, .int .i64 k_11)] w) {r : List Str} {od_0 : ref35_Delegations} {scope_2 : Str} {now_3 : Int} {seen_9 : List Str} {i_10 : Int} {k_11 : Int} {x_12_0 : Str} {x_12_1 : Str} {x_12_2 : List Str} {x_12_3 : Int} {x_12_4 : Int} {t_67 : Bool} {gd_0 : Nat} {vseen_9 : Value} {gx_12 : Nat} {vx_12_2 : Value} (hS : ref35_Delegations_Reach_B3 r0 r1 od_0 scope_2 now_3 seen_9 i_10 k_11 x_12_0 x_12_1 x_12_2 x_12_3 x_12_4 t_67 = some r) {ρ : Tags} {w : World} (hb : Fr (flat1 ρA) w0 ρ w) (hod_0 : ref35_Delegations.O (fun _ => 1) ρ w gd_0 od_0) (hseen_9 : OwnT strC 9 ρ 21 w vseen_9 seen_9) (hx_12_2 : SlR strC (Wb ρ) w vx_12_2 x_12_2) (hBx_12 : Blk ρ 14 w gx_12 (.cells #[str x_12_0, str x_12_1, vx_12_2, .int .i64 x_12_3, .int .i64 x_12_4] 65 (0, 0))) :
  KE Try.prog 21 (Ret (fun v w' => ∃ x1, v = x1 ∧ SlR strC (Wb ρA) w' x1 r ∧ Below w0.heap.size w0 w')) 86 [.code (sub (bodyOf Try.f21) [2, 2, 2, 1, 2, 2, 1, 2, 1, 2, 2, 2, 1, 2, 1, 2, 2, 2]), .inBlock 3, .code (sub (bodyOf Try.f21) [2, 2, 2, 1, 2, 2, 1, 2, 1, 2, 2, 2, 1, 2, 2]), .inLoop (sub (bodyOf Try.f21) [2, 2, 2, 1, 2, 2, 1, 2, 1, 2, 2, 2, 1]), .inBlock 2, .inBlock 1, .code (sub (bodyOf Try.f21) [2, 2, 2, 1, 2, 2, 1, 2, 2]), .inLoop (sub (bodyOf Try.f21) [2, 2, 2, 1, 2, 2, 1]), .inBlock 0, .code (sub (bodyOf Try.f21) [2, 2, 2, 2])] [(0, .pointer (some ⟨gd_0, 0, none⟩)), (2, str scope_2), (3, .int .i64 now_3), (9, vseen_9), (10, .int .i64 i_10), (11, .int .i64 k_11), (12, .pointer (some ⟨gx_12, 0, none⟩)), (67, .bool t_67)] w := by
 unfold ref35_Delegations_Reach_B3 at hS
 obtain ⟨v138, hB140, h139⟩ := hod_0
 replace hB140 : Blk ρ 1 w gd_0 (.cells #[.bool od_0.made, v138] 57 (0, 0)) := hB140
 replace h139 : OwnT ref35_one.c 65 ρ 1 w v138 od_0.l := h139
 refine ke_cond (t := t_67) rfl (fun hc143 => ?_) (fun hc143 => ?_)
 ·replace hS := ite_true' hS hc143
  refine ke_region ?_
  refine sr_ev (v := vseen_9) (ev_move rfl) (by decide) ?_
  refine sr_ev (v := .pointer (some ⟨gx_12, 0, none⟩)) (ev_fieldAddr (i := 0) Try.underlying65 rfl Try.info9 rfl rfl) (by decide) ?_
  refine sr_ev (v := str x_12_0) (ev_load Try.isAgg9 rfl (hBx_12.cell rfl)) (by decide) ?_
  refine sr_litT (c := strC) (ρ := ρ) (E := 9) (xs := [x_12_0]) (vs := #[(0, str x_12_0)]) (cs := #[str x_12_0]) (css := [[str x_12_0]]) rfl (fun _ => by kernel_rfl) rfl ⟨rfl, trivial⟩ rfl (by decide) hb.bd (by decide) ?_
  intro v144 w146 h145 hbw148
  have htr147 := Tr.of_below hbw148 hb.bd
  replace hseen_9 := hseen_9.mv (htr147.mv (i := 21) rfl) (by decide)
  replace hB140 := hB140.mv (htr147.mv (i := 1) rfl)
  replace h139 := h139.mv (htr147.mv (i := 1) rfl) (by decide)
  replace hb := hb.trans htr147
  obtain ⟨hk149, hS⟩ := chk_some hS
  refine sr_appendT (i := 21) (c := strC) (ρ := ρ) (E := 9) (xs := seen_9) (ys := ([x_12_0] : List Str)) hseen_9 ((SlT.of_sl (i := 0) h145)).x Try.underlying23 Try.info9 rfl rfl rfl (by decide) (by decide) (by decide) hb.bd hk149 rfl rfl (by decide) ?_
  intro v150 ρ152 w153 h151 htr154
  replace hB140 := hB140.mv (htr154.mv (i := 1) rfl)
  replace h139 := h139.mv (htr154.mv (i := 1) rfl) (by decide)
  replace hb := hb.trans htr154
  refine sr_ev (v := v150) (ev_assign rfl) (by decide) ?_
  refine sr_end (l' := [(0, .pointer (some ⟨gd_0, 0, none⟩)), (2, str scope_2), (3, .int .i64 now_3), (9, v150), (10, .int .i64 i_10), (11, .int .i64 k_11)]) (.cons rfl (.cons rfl (.cons rfl (.cons rfl (.cons rfl (.cons rfl (.nil _))))))) ?_
  have hK := ref35_Delegations_Reach_B4_ok hg hbd hz _ _ hr0 hr1 hS hb ⟨_, hB140, h139⟩ h151
  exact ke_weaken (l' := [(0, .pointer (some ⟨gd_0, 0, none⟩)), (2, str scope_2), (3, .int .i64 now_3), (9, v150), (10, .int .i64 i_10), (11, .int .i64 k_11)]) (.cons rfl (.cons rfl (.cons rfl (.cons rfl (.cons rfl (.cons rfl (.nil _))))))) hK
 ·replace hS := ite_false' hS hc143
  refine ke_skip ?_
  have hK := ref35_Delegations_Reach_B4_ok hg hbd hz _ _ hr0 hr1 hS hb ⟨_, hB140, h139⟩ hseen_9
  exact ke_weaken (l' := [(0, .pointer (some ⟨gd_0, 0, none⟩)), (2, str scope_2), (3, .int .i64 now_3), (9, vseen_9), (10, .int .i64 i_10), (11, .int .i64 k_11)]) (.cons rfl (.cons rfl (.cons rfl (.cons rfl (.cons rfl (.cons rfl (.nil _))))))) hK
theorem ref35_Delegations_Reach_L2_ok {w0 : World} (hg : Gs w0) {ρA : Tags} (hbd : ∀ b, ρA b ≠ 0 → b < w0.heap.size) (hz : Gz (flat1 ρA)) (r0 : ref35_Delegations → Str → Int → List Str → Int → Option (List Str))
  (hr0 : ∀ {r : List Str} {od_0 : ref35_Delegations} {scope_2 : Str} {now_3 : Int} {seen_9 : List Str} {i_10 : Int} {gd_0 : Nat} {vseen_9 : Value}, r0 od_0 scope_2 now_3 seen_9 i_10 = some r → ∀ {ρ : Tags} {w : World}, (Fr (flat1 ρA) w0 ρ w) → (ref35_Delegations.O (fun _ => 1) ρ w gd_0 od_0) → (OwnT strC 9 ρ 21 w vseen_9 seen_9) → KE Try.prog 21 (Ret (fun v w' => ∃ x1, v = x1 ∧ SlR strC (Wb ρA) w' x1 r ∧ Below w0.heap.size w0 w')) 86 [.inLoop (sub (bodyOf Try.f21) [2, 2, 2, 1, 2, 2, 1]), .inBlock 0, .code (sub (bodyOf Try.f21) [2, 2, 2, 2])] [(0, .pointer (some ⟨gd_0, 0, none⟩)), (2, str scope_2), (3, .int .i64 now_3), (9, vseen_9), (10, .int .i64 i_10)] w) : ∀ (n : Nat), ∀ {r : List Str} {od_0 : ref35_Delegations} {scope_2 : Str} {now_3 : Int} {seen_9 : List Str} {i_10 : Int} {k_11 : Int} {gd_0 : Nat} {vseen_9 : Value}, ref35_Delegations_Reach_L2 r0 n od_0 scope_2 now_3 seen_9 i_10 k_11 = some r → ∀ {ρ : Tags} {w : World}, (Fr (flat1 ρA) w0 ρ w) → (ref35_Delegations.O (fun _ => 1) ρ w gd_0 od_0) → (OwnT strC 9 ρ 21 w vseen_9 seen_9) → KE Try.prog 21 (Ret (fun v w' => ∃ x1, v = x1 ∧ SlR strC (Wb ρA) w' x1 r ∧ Below w0.heap.size w0 w')) 86 [.code (sub (bodyOf Try.f21) [2, 2, 2, 1, 2, 2, 1, 2, 1, 2, 2, 2, 1]), .inLoop (sub (bodyOf Try.f21) [2, 2, 2, 1, 2, 2, 1, 2, 1, 2, 2, 2, 1]), .inBlock 2, .inBlock 1, .code (sub (bodyOf Try.f21) [2, 2, 2, 1, 2, 2, 1, 2, 2]), .inLoop (sub (bodyOf Try.f21) [2, 2, 2, 1, 2, 2, 1]), .inBlock 0, .code (sub (bodyOf Try.f21) [2, 2, 2, 2])] [(0, .pointer (some ⟨gd_0, 0, none⟩)), (2, str scope_2), (3, .int .i64 now_3), (9, vseen_9), (10, .int .i64 i_10), (11, .int .i64 k_11)] w := by
 intro n
 induction n with
 | zero => intro r od_0 scope_2 now_3 seen_9 i_10 k_11 gd_0 vseen_9 hS; cases hS
 | succ n ih =>
  have hr1 : ∀ {r : List Str} {od_0 : ref35_Delegations} {scope_2 : Str} {now_3 : Int} {seen_9 : List Str} {i_10 : Int} {k_11 : Int} {gd_0 : Nat} {vseen_9 : Value}, ref35_Delegations_Reach_L2 r0 n od_0 scope_2 now_3 seen_9 i_10 k_11 = some r → ∀ {ρ : Tags} {w : World}, (Fr (flat1 ρA) w0 ρ w) → (ref35_Delegations.O (fun _ => 1) ρ w gd_0 od_0) → (OwnT strC 9 ρ 21 w vseen_9 seen_9) → KE Try.prog 21 (Ret (fun v w' => ∃ x1, v = x1 ∧ SlR strC (Wb ρA) w' x1 r ∧ Below w0.heap.size w0 w')) 86 [.inLoop (sub (bodyOf Try.f21) [2, 2, 2, 1, 2, 2, 1, 2, 1, 2, 2, 2, 1]), .inBlock 2, .inBlock 1, .code (sub (bodyOf Try.f21) [2, 2, 2, 1, 2, 2, 1, 2, 2]), .inLoop (sub (bodyOf Try.f21) [2, 2, 2, 1, 2, 2, 1]), .inBlock 0, .code (sub (bodyOf Try.f21) [2, 2, 2, 2])] [(0, .pointer (some ⟨gd_0, 0, none⟩)), (2, str scope_2), (3, .int .i64 now_3), (9, vseen_9), (10, .int .i64 i_10), (11, .int .i64 k_11)] w := fun {r} {od_0} {scope_2} {now_3} {seen_9} {i_10} {k_11} {gd_0} {vseen_9} hS {ρ} {w} hb hod_0 hseen_9 => ke_inLoop (ih hS hb hod_0 hseen_9)
  clear ih
  intro r od_0 scope_2 now_3 seen_9 i_10 k_11 gd_0 vseen_9 hS ρ w hb hod_0 hseen_9
  unfold ref35_Delegations_Reach_L2 at hS
  obtain ⟨v23, hB25, h24⟩ := hod_0
  replace hB25 : Blk ρ 1 w gd_0 (.cells #[.bool od_0.made, v23] 57 (0, 0)) := hB25
  replace h24 : OwnT ref35_one.c 65 ρ 1 w v23 od_0.l := h24
  refine ke_seq ?_
  refine ke_seq ?_
  refine ke_region ?_
  refine sr_ev (v := .int .i64 k_11) (ev_move rfl) (by decide) ?_
  refine sr_ev (v := .pointer (some ⟨gd_0, 0, none⟩)) (ev_move rfl) (by decide) ?_
  refine sr_ev (v := .pointer (some ⟨gd_0, 0, none⟩)) (ev_nilCheck rfl) (by decide) ?_
  refine sr_ev (v := .pointer (some ⟨gd_0, 1, none⟩)) (ev_fieldAddr (i := 1) Try.underlying57 rfl Try.info55 rfl rfl) (by decide) ?_
  refine sr_ev (v := v23) (ev_load Try.isAgg55 rfl (hB25.cell rfl)) (by decide) ?_
  refine sr_ev (v := .int .i64 (od_0.l.length : Int)) (ev_sllen Try.underlying55 rfl h24.asSl) (by decide) ?_
  refine sr_ev (v := .bool (decide (k_11 < (od_0.l.length : Int)))) (ev_lt rfl rfl) (by decide) ?_
  refine sr_end (l' := [(0, .pointer (some ⟨gd_0, 0, none⟩)), (2, str scope_2), (3, .int .i64 now_3), (9, vseen_9), (10, .int .i64 i_10), (11, .int .i64 k_11), (32, .bool (decide (k_11 < (od_0.l.length : Int))))]) (.cons rfl (.cons rfl (.cons rfl (.cons rfl (.cons rfl (.cons rfl (.cons rfl (.nil _)))))))) ?_
  refine ke_cond (t := decide (k_11 < (od_0.l.length : Int))) rfl (fun hc28 => ?_) (fun hc28 => ?_)
  ·replace hS := ite_true' hS hc28
   refine ke_skip ?_
   refine ke_seq ?_
   refine ke_block ?_
   refine ke_seq ?_
   refine ke_region ?_
   refine sr_ev (v := .pointer (some ⟨gd_0, 0, none⟩)) (ev_move rfl) (by decide) ?_
   refine sr_ev (v := .pointer (some ⟨gd_0, 0, none⟩)) (ev_nilCheck rfl) (by decide) ?_
   refine sr_ev (v := .pointer (some ⟨gd_0, 1, none⟩)) (ev_fieldAddr (i := 1) Try.underlying57 rfl Try.info55 rfl rfl) (by decide) ?_
   refine sr_ev (v := v23) (ev_load Try.isAgg55 rfl (hB25.cell rfl)) (by decide) ?_
   refine sr_ev (v := .int .i64 k_11) (ev_move rfl) (by decide) ?_
   obtain ⟨y29, hy30, hS⟩ := bind_some' hS
   obtain ⟨b31, o32, cs34, hq35, he33, hg38, ho39⟩ := h24.elemQ (P := Try.prog) Try.underlying55 Try.info65 rfl hy30
   obtain ⟨v36, hcshe33, h37⟩ := he33.rd
   obtain rfl : cs34 = [str y29.from_, str y29.to_, v36, .int .i64 y29.window.From, .int .i64 y29.window.Until] := hcshe33
   refine sr_ev (v := .pointer (some ⟨b31, o32, none⟩)) (hq35 w rfl rfl) (by decide) ?_
   refine sr_ev (v := .agg #[str y29.from_, str y29.to_, v36, .int .i64 y29.window.From, .int .i64 y29.window.Until]) (ev_loads (cs := [str y29.from_, str y29.to_, v36, .int .i64 y29.window.From, .int .i64 y29.window.Until]) Try.isAgg65 Try.sizeOf65 rfl he33.cell) (by decide) ?_
   refine sr_allocT 14 (by decide) hb.bd Try.zeroValue65 (by decide) ?_
   intro g40 ρ41 w42 hB44 htr43
   replace hseen_9 := hseen_9.mv (htr43.mv (i := 21) rfl) (by decide)
   replace h37 := h37.mv htr43.rd
   replace hB25 := hB25.mv (htr43.mv (i := 1) rfl)
   replace h24 := h24.mv (htr43.mv (i := 1) rfl) (by decide)
   replace hb := hb.trans htr43
   replace hB44 : Blk ρ41 14 w42 g40 (.cells #[str ([]), str ([]), (.slice none 0 0), .int .i64 0, .int .i64 0] 65 (0, 0)) := hB44
   refine sr_storeT (v := .agg #[str y29.from_, str y29.to_, v36, .int .i64 y29.window.From, .int .i64 y29.window.Until]) (vs := [str y29.from_, str y29.to_, v36, .int .i64 y29.window.From, .int .i64 y29.window.Until]) (cs' := #[str y29.from_, str y29.to_, v36, .int .i64 y29.window.From, .int .i64 y29.window.Until]) hB44 (by decide) hb.bd rfl rfl rfl Try.sizeOf65 rfl (by first | rfl | (simp only [List.all_cons, List.all_nil, SlR.oneCell h37]; done) | (simp only [List.all_cons, List.all_nil, SlR.oneCell h37]; rfl)) rfl ?_
   intro w45 hB441 htr46
   replace hseen_9 := hseen_9.mv (htr46.mv (i := 21) rfl) (by decide)
   replace h37 := h37.mv htr46.rd
   replace hB25 := hB25.mv (htr46.mv (i := 1) rfl)
   replace h24 := h24.mv (htr46.mv (i := 1) rfl) (by decide)
   replace hb := hb.trans htr46
   replace hB44 : Blk ρ41 14 w45 g40 (.cells #[str y29.from_, str y29.to_, v36, .int .i64 y29.window.From, .int .i64 y29.window.Until] 65 (0, 0)) := hB441
   clear hB441
   refine sr_end (l' := [(0, .pointer (some ⟨gd_0, 0, none⟩)), (2, str scope_2), (3, .int .i64 now_3), (9, vseen_9), (10, .int .i64 i_10), (11, .int .i64 k_11), (12, .pointer (some ⟨g40, 0, none⟩))]) (.cons rfl (.cons rfl (.cons rfl (.cons rfl (.cons rfl (.cons rfl (.cons rfl (.nil _)))))))) ?_
   refine ke_seq ?_
   refine ke_region_j (ρ := ρ41) (fun _ => false) 26 Try.mixed (fun w48 hw47 => ?_)
   have htr49 := Tr.of_below hw47 hb.bd
   replace hseen_9 := hseen_9.mv (htr49.mv (i := 21) rfl) (by decide)
   replace hB44 := hB44.mv (htr49.mv (i := 14) rfl)
   replace h37 := h37.mv htr49.rd
   replace hB25 := hB25.mv (htr49.mv (i := 1) rfl)
   replace h24 := h24.mv (htr49.mv (i := 1) rfl) (by decide)
   replace hb := hb.trans htr49
   refine dj_H 0 (v := .pointer (some ⟨g40, 1, none⟩)) (by kernel_rfl) (by kernel_rfl) rfl (fun _ _ _ h => h) (sj_refl hb.bd rfl rfl) (fun w1 ρ1 hw1 => ev_fieldAddr (i := 1) Try.underlying65 rfl Try.info9 rfl rfl) (by decide) ?_
   refine dj_H 1 (v := str y29.to_) (by kernel_rfl) (by kernel_rfl) rfl (fun _ _ _ h => h) (sj_refl hb.bd rfl rfl) (fun w1 ρ1 hw1 => ev_load Try.isAgg9 rfl ((hB44.mv (hw1.mv (i := 14) rfl)).cell rfl)) (by decide) ?_
   refine dj_H 2 (v := vseen_9) (by kernel_rfl) (by kernel_rfl) rfl (fun _ _ _ h => h) (sj_refl hb.bd rfl rfl) (fun w1 ρ1 hw1 => ev_move rfl) (by decide) ?_
   refine dj_H 3 (v := .int .i64 i_10) (by kernel_rfl) (by kernel_rfl) rfl (fun _ _ _ h => h) (sj_refl hb.bd rfl rfl) (fun w1 ρ1 hw1 => ev_move rfl) (by decide) ?_
   obtain ⟨y109, hy110, hS⟩ := bind_some' hS
   obtain ⟨b111, o112, cs114, hq115, he113, hg116, ho117⟩ := hseen_9.elemQ (P := Try.prog) Try.underlying23 Try.info9 rfl hy110
   obtain rfl : cs114 = [str y109] := he113.rd
   refine dj_H 4 (v := .pointer (some ⟨b111, o112, none⟩)) (by kernel_rfl) (by kernel_rfl) rfl (fun _ _ _ h => h) (sj_refl hb.bd rfl rfl) (fun w1 ρ1 hw1 => hq115 w1 rfl rfl) (by decide) ?_
   refine dj_H 5 (v := str y109) (by kernel_rfl) (by kernel_rfl) rfl (fun _ _ _ h => h) (sj_refl hb.bd rfl rfl) (fun w1 ρ1 hw1 => ev_load Try.isAgg9 rfl ((he113.mv (hw1.mv (i := 21) rfl) (Nat.succ_pos _)).cell 0 _ rfl)) (by decide) ?_
   refine dj_H 6 (v := .bool (y29.to_ == y109)) (by kernel_rfl) (by kernel_rfl) rfl (fun _ _ _ h => h) (sj_refl hb.bd rfl rfl) (fun w1 ρ1 hw1 => ev_seq rfl rfl) (by decide) ?_
   refine dj_H 7 (v := .bool (y29.to_ == y109)) (by kernel_rfl) (by kernel_rfl) rfl (fun _ _ _ h => h) (sj_refl hb.bd rfl rfl) (fun w1 ρ1 hw1 => ev_move rfl) (by decide) ?_
   rcases Bool.eq_false_or_eq_true (y29.to_ == y109) with hg118 | hg118
   ·replace hS := ite_true' hS hg118
    refine dj_Hg 8 (v := vseen_9) (by kernel_rfl) (by kernel_rfl) rfl rfl rfl hg118 (fun _ _ _ h => h) (sj_refl hb.bd rfl rfl) (fun w1 ρ1 hw1 => ev_move rfl) (by decide) ?_
    refine dj_Hg 9 (v := .pointer (some ⟨g40, 0, none⟩)) (by kernel_rfl) (by kernel_rfl) rfl rfl rfl hg118 (fun _ _ _ h => h) (sj_refl hb.bd rfl rfl) (fun w1 ρ1 hw1 => ev_fieldAddr (i := 0) Try.underlying65 rfl Try.info9 rfl rfl) (by decide) ?_
    refine dj_Hg 10 (v := str y29.from_) (by kernel_rfl) (by kernel_rfl) rfl rfl rfl hg118 (fun _ _ _ h => h) (sj_refl hb.bd rfl rfl) (fun w1 ρ1 hw1 => ev_load Try.isAgg9 rfl ((hB44.mv (hw1.mv (i := 14) rfl)).cell rfl)) (by decide) ?_
    refine dj_E 11 (by kernel_rfl) rfl ?_
    have jt119 : Tr ρ41 w48 (fun _ => false) ρ41 w48 := (Tr.refl hb.bd).weak (fun _ _ => rfl) rfl rfl
    obtain ⟨y120, hy121, hS⟩ := bind_some' hS
    refine sr_callg (b := true) (e := 49) rfl rfl hg118 (vs := [vseen_9, str y29.from_]) rfl Try.call42 rfl (ref35_has_ok _ (hg.fr hz hb) hseen_9.asSl hy121) (by decide) ?_
    rintro _ w122 ⟨rfl, hbw123⟩
    have htr124 := Tr.of_below hbw123 hb.bd
    replace hseen_9 := hseen_9.mv (htr124.mv (i := 21) rfl) (by decide)
    replace hB44 := hB44.mv (htr124.mv (i := 14) rfl)
    replace h37 := h37.mv htr124.rd
    replace hB25 := hB25.mv (htr124.mv (i := 1) rfl)
    replace h24 := h24.mv (htr124.mv (i := 1) rfl) (by decide)
    replace hb := hb.trans htr124
    replace jt119 := (jt119.trans htr124).weak (J' := (fun _ => false)) (by intro t h; simp [rng] at h ⊢ <;> omega) rfl rfl
    refine dj_next (l' := [(0, .pointer (some ⟨gd_0, 0, none⟩)), (2, str scope_2), (3, .int .i64 now_3), (9, vseen_9), (10, .int .i64 i_10), (11, .int .i64 k_11), (12, .pointer (some ⟨g40, 0, none⟩)), (49, .bool (y29.to_ == y109)), (53, .bool y120)]) rfl (.cons rfl (.cons rfl (.cons rfl (.cons rfl (.cons rfl (.cons rfl (.cons rfl (.cons rfl (.cons rfl (.nil _)))))))))) jt119 (by intro t h; simp [rng] at h ⊢ <;> omega) rfl rfl ?_
    refine dj_Hg 12 (v := .bool (!y120)) (by kernel_rfl) (by kernel_rfl) rfl rfl rfl hg118 (fun _ _ _ h => h) (sj_refl hb.bd rfl rfl) (fun w1 ρ1 hw1 => ev_not rfl) (by decide) ?_
    refine dj_H 13 (v := .bool (!y120)) (by kernel_rfl) (by kernel_rfl) rfl (fun _ _ _ h => h) (sj_refl hb.bd rfl rfl) (fun w1 ρ1 hw1 => ev_pick_t rfl hg118 rfl) (by decide) ?_
    refine dj_H 14 (v := .bool (!y120)) (by kernel_rfl) (by kernel_rfl) rfl (fun _ _ _ h => h) (sj_refl hb.bd rfl rfl) (fun w1 ρ1 hw1 => ev_move rfl) (by decide) ?_
    rcases Bool.eq_false_or_eq_true (!y120) with hg125 | hg125
    ·replace hS := ite_true' hS hg125
     refine dj_Hg 15 (v := .pointer (some ⟨gd_0, 0, none⟩)) (by kernel_rfl) (by kernel_rfl) rfl rfl rfl hg125 (fun _ _ _ h => h) (sj_refl hb.bd rfl rfl) (fun w1 ρ1 hw1 => ev_move rfl) (by decide) ?_
     refine dj_Hg 16 (v := .pointer (some ⟨g40, 0, none⟩)) (by kernel_rfl) (by kernel_rfl) rfl rfl rfl hg125 (fun _ _ _ h => h) (sj_refl hb.bd rfl rfl) (fun w1 ρ1 hw1 => ev_fieldAddr (i := 0) Try.underlying65 rfl Try.info9 rfl rfl) (by decide) ?_
     refine dj_Hg 17 (v := str y29.from_) (by kernel_rfl) (by kernel_rfl) rfl rfl rfl hg125 (fun _ _ _ h => h) (sj_refl hb.bd rfl rfl) (fun w1 ρ1 hw1 => ev_load Try.isAgg9 rfl ((hB44.mv (hw1.mv (i := 14) rfl)).cell rfl)) (by decide) ?_
     refine dj_Hg 18 (v := .pointer (some ⟨g40, 1, none⟩)) (by kernel_rfl) (by kernel_rfl) rfl rfl rfl hg125 (fun _ _ _ h => h) (sj_refl hb.bd rfl rfl) (fun w1 ρ1 hw1 => ev_fieldAddr (i := 1) Try.underlying65 rfl Try.info9 rfl rfl) (by decide) ?_
     refine dj_Hg 19 (v := str y29.to_) (by kernel_rfl) (by kernel_rfl) rfl rfl rfl hg125 (fun _ _ _ h => h) (sj_refl hb.bd rfl rfl) (fun w1 ρ1 hw1 => ev_load Try.isAgg9 rfl ((hB44.mv (hw1.mv (i := 14) rfl)).cell rfl)) (by decide) ?_
     refine dj_Hg 20 (v := str scope_2) (by kernel_rfl) (by kernel_rfl) rfl rfl rfl hg125 (fun _ _ _ h => h) (sj_refl hb.bd rfl rfl) (fun w1 ρ1 hw1 => ev_move rfl) (by decide) ?_
     refine dj_Hg 22 (v := .int .i64 now_3) (by kernel_rfl) (by kernel_rfl) rfl rfl rfl hg125 (fun _ _ _ h => h) (sj_refl hb.bd rfl rfl) (fun w1 ρ1 hw1 => ev_move rfl) (by decide) ?_
     refine dj_E 21 (by kernel_rfl) rfl ?_
     have jt126 : Tr ρ41 w122 (fun _ => false) ρ41 w122 := (Tr.refl hb.bd).weak (fun _ _ => rfl) rfl rfl
     refine sr_unguard rfl rfl hg125 ?_
     refine sr_litT (c := strC) (ρ := ρ41) (E := 9) (xs := [scope_2]) (vs := #[(0, str scope_2)]) (cs := #[str scope_2]) (css := [[str scope_2]]) rfl (fun _ => by kernel_rfl) rfl ⟨rfl, trivial⟩ rfl (by decide) hb.bd (by decide) ?_
     intro v127 w129 h128 hbw131
     have htr130 := Tr.of_below hbw131 hb.bd
     replace hseen_9 := hseen_9.mv (htr130.mv (i := 21) rfl) (by decide)
     replace hB44 := hB44.mv (htr130.mv (i := 14) rfl)
     replace h37 := h37.mv htr130.rd
     replace hB25 := hB25.mv (htr130.mv (i := 1) rfl)
     replace h24 := h24.mv (htr130.mv (i := 1) rfl) (by decide)
     replace hb := hb.trans htr130
     replace jt126 := (jt126.trans htr130).weak (J' := (fun _ => false)) (by intro t h; simp [rng] at h ⊢ <;> omega) rfl rfl
     refine dj_next (l' := [(0, .pointer (some ⟨gd_0, 0, none⟩)), (2, str scope_2), (3, .int .i64 now_3), (9, vseen_9), (10, .int .i64 i_10), (11, .int .i64 k_11), (12, .pointer (some ⟨g40, 0, none⟩)), (56, .bool (!y120)), (57, .pointer (some ⟨gd_0, 0, none⟩)), (59, str y29.from_), (61, str y29.to_), (63, v127), (64, .int .i64 now_3)]) rfl (.cons rfl (.cons rfl (.cons rfl (.cons rfl (.cons rfl (.cons rfl (.cons rfl (.cons rfl (.cons rfl (.cons rfl (.cons rfl (.cons rfl (.cons rfl (.nil _)))))))))))))) jt126 (by intro t h; simp [rng] at h ⊢ <;> omega) rfl rfl ?_
     refine dj_E 23 (by kernel_rfl) rfl ?_
     have jt132 : Tr ρ41 w129 (fun _ => false) ρ41 w129 := (Tr.refl hb.bd).weak (fun _ _ => rfl) rfl rfl
     obtain ⟨y133, hy134, hS⟩ := bind_some' hS
     refine sr_callg (b := true) (e := 56) rfl rfl hg125 (vs := [.pointer (some ⟨gd_0, 0, none⟩), str y29.from_, str y29.to_, v127, .int .i64 now_3]) rfl Try.call33 rfl (ref35_Delegations_May_ok _ (hg.fr hz hb) (ρA := ρ41) hb.bd (hz.fr hg hb) (τ0 := (fun _ => 1)) (fun _ => Nat.le_refl 1) h128 (⟨_, hB25, h24⟩ : ref35_Delegations.O (fun _ => 1) ρ41 w129 gd_0 od_0) hy134) (by decide) ?_
     rintro _ w135 ⟨rfl, hbw136⟩
     have htr137 := Tr.of_below hbw136 hb.bd
     replace hseen_9 := hseen_9.mv (htr137.mv (i := 21) rfl) (by decide)
     replace hB44 := hB44.mv (htr137.mv (i := 14) rfl)
     replace h37 := h37.mv htr137.rd
     replace hB25 := hB25.mv (htr137.mv (i := 1) rfl)
     replace h24 := h24.mv (htr137.mv (i := 1) rfl) (by decide)
     replace hb := hb.trans htr137
     replace jt132 := (jt132.trans htr137).weak (J' := (fun _ => false)) (by intro t h; simp [rng] at h ⊢ <;> omega) rfl rfl
     refine dj_next (l' := [(0, .pointer (some ⟨gd_0, 0, none⟩)), (2, str scope_2), (3, .int .i64 now_3), (9, vseen_9), (10, .int .i64 i_10), (11, .int .i64 k_11), (12, .pointer (some ⟨g40, 0, none⟩)), (56, .bool (!y120)), (65, .int .i64 y133)]) rfl (.cons rfl (.cons rfl (.cons rfl (.cons rfl (.cons rfl (.cons rfl (.cons rfl (.cons rfl (.cons rfl (.nil _)))))))))) jt132 (by intro t h; simp [rng] at h ⊢ <;> omega) rfl rfl ?_
     refine dj_Hg 24 (v := .bool (y133 == 0)) (by kernel_rfl) (by kernel_rfl) rfl rfl rfl hg125 (fun _ _ _ h => h) (sj_refl hb.bd rfl rfl) (fun w1 ρ1 hw1 => ev_eq rfl rfl) (by decide) ?_
     refine dj_H 25 (v := .bool (y133 == 0)) (by kernel_rfl) (by kernel_rfl) rfl (fun _ _ _ h => h) (sj_refl hb.bd rfl rfl) (fun w1 ρ1 hw1 => ev_pick_t rfl hg125 rfl) (by decide) ?_
     refine dj_done rfl (by kernel_rfl) ?_
     refine ke_weaken (l' := [(0, .pointer (some ⟨gd_0, 0, none⟩)), (2, str scope_2), (3, .int .i64 now_3), (9, vseen_9), (10, .int .i64 i_10), (11, .int .i64 k_11), (12, .pointer (some ⟨g40, 0, none⟩)), (67, .bool (y133 == 0))]) (.cons rfl (.cons rfl (.cons rfl (.cons rfl (.cons rfl (.cons rfl (.cons rfl (.cons rfl (.nil _))))))))) ?_
     have hK := ref35_Delegations_Reach_B3_ok hg hbd hz _ _ hr0 hr1 hS hb ⟨_, hB25, h24⟩ hseen_9 h37 hB44
     exact ke_weaken (l' := [(0, .pointer (some ⟨gd_0, 0, none⟩)), (2, str scope_2), (3, .int .i64 now_3), (9, vseen_9), (10, .int .i64 i_10), (11, .int .i64 k_11), (12, .pointer (some ⟨g40, 0, none⟩)), (67, .bool (y133 == 0))]) (.cons rfl (.cons rfl (.cons rfl (.cons rfl (.cons rfl (.cons rfl (.cons rfl (.cons rfl (.nil _))))))))) hK
    ·replace hS := ite_false' hS hg125
     refine dj_pass 15 (e := 56) (by kernel_rfl) (by kernel_rfl) rfl rfl rfl rfl rfl (by rw [hg125]; rfl) (fun _ _ _ h => h) (sj_refl hb.bd rfl rfl) (by decide) ?_
     refine dj_pass 16 (e := 56) (by kernel_rfl) (by kernel_rfl) rfl rfl rfl rfl rfl (by rw [hg125]; rfl) (fun _ _ _ h => h) (sj_refl hb.bd rfl rfl) (by decide) ?_
     refine dj_pass 17 (e := 56) (by kernel_rfl) (by kernel_rfl) rfl rfl rfl rfl rfl (by rw [hg125]; rfl) (fun _ _ _ h => h) (sj_refl hb.bd rfl rfl) (by decide) ?_
     refine dj_pass 18 (e := 56) (by kernel_rfl) (by kernel_rfl) rfl rfl rfl rfl rfl (by rw [hg125]; rfl) (fun _ _ _ h => h) (sj_refl hb.bd rfl rfl) (by decide) ?_
     refine dj_pass 19 (e := 56) (by kernel_rfl) (by kernel_rfl) rfl rfl rfl rfl rfl (by rw [hg125]; rfl) (fun _ _ _ h => h) (sj_refl hb.bd rfl rfl) (by decide) ?_
     refine dj_pass 20 (e := 56) (by kernel_rfl) (by kernel_rfl) rfl rfl rfl rfl rfl (by rw [hg125]; rfl) (fun _ _ _ h => h) (sj_refl hb.bd rfl rfl) (by decide) ?_
     refine dj_pass 21 (e := 56) (by kernel_rfl) (by kernel_rfl) rfl rfl rfl rfl rfl (by rw [hg125]; rfl) (fun _ _ _ h => h) (sj_refl hb.bd rfl rfl) (by decide) ?_
     refine dj_pass 22 (e := 56) (by kernel_rfl) (by kernel_rfl) rfl rfl rfl rfl rfl (by rw [hg125]; rfl) (fun _ _ _ h => h) (sj_refl hb.bd rfl rfl) (by decide) ?_
     refine dj_pass 23 (e := 56) (by kernel_rfl) (by kernel_rfl) rfl rfl rfl rfl rfl (by rw [hg125]; rfl) (fun _ _ _ h => h) (sj_refl hb.bd rfl rfl) (by decide) ?_
     refine dj_pass 24 (e := 56) (by kernel_rfl) (by kernel_rfl) rfl rfl rfl rfl rfl (by rw [hg125]; rfl) (fun _ _ _ h => h) (sj_refl hb.bd rfl rfl) (by decide) ?_
     refine dj_H 25 (v := .bool false) (by kernel_rfl) (by kernel_rfl) rfl (fun _ _ _ h => h) (sj_refl hb.bd rfl rfl) (fun w1 ρ1 hw1 => ev_pick_f rfl hg125 rfl) (by decide) ?_
     refine dj_done rfl (by kernel_rfl) ?_
     refine ke_weaken (l' := [(0, .pointer (some ⟨gd_0, 0, none⟩)), (2, str scope_2), (3, .int .i64 now_3), (9, vseen_9), (10, .int .i64 i_10), (11, .int .i64 k_11), (12, .pointer (some ⟨g40, 0, none⟩)), (67, .bool false)]) (.cons rfl (.cons rfl (.cons rfl (.cons rfl (.cons rfl (.cons rfl (.cons rfl (.cons rfl (.nil _))))))))) ?_
     have hK := ref35_Delegations_Reach_B3_ok hg hbd hz _ _ hr0 hr1 hS hb ⟨_, hB25, h24⟩ hseen_9 h37 hB44
     exact ke_weaken (l' := [(0, .pointer (some ⟨gd_0, 0, none⟩)), (2, str scope_2), (3, .int .i64 now_3), (9, vseen_9), (10, .int .i64 i_10), (11, .int .i64 k_11), (12, .pointer (some ⟨g40, 0, none⟩)), (67, .bool false)]) (.cons rfl (.cons rfl (.cons rfl (.cons rfl (.cons rfl (.cons rfl (.cons rfl (.cons rfl (.nil _))))))))) hK
   ·replace hS := ite_false' hS hg118
    refine dj_pass 8 (e := 49) (by kernel_rfl) (by kernel_rfl) rfl rfl rfl rfl rfl (by rw [hg118]; rfl) (fun _ _ _ h => h) (sj_refl hb.bd rfl rfl) (by decide) ?_
    refine dj_pass 9 (e := 49) (by kernel_rfl) (by kernel_rfl) rfl rfl rfl rfl rfl (by rw [hg118]; rfl) (fun _ _ _ h => h) (sj_refl hb.bd rfl rfl) (by decide) ?_
    refine dj_pass 10 (e := 49) (by kernel_rfl) (by kernel_rfl) rfl rfl rfl rfl rfl (by rw [hg118]; rfl) (fun _ _ _ h => h) (sj_refl hb.bd rfl rfl) (by decide) ?_
    refine dj_pass 11 (e := 49) (by kernel_rfl) (by kernel_rfl) rfl rfl rfl rfl rfl (by rw [hg118]; rfl) (fun _ _ _ h => h) (sj_refl hb.bd rfl rfl) (by decide) ?_
    refine dj_pass 12 (e := 49) (by kernel_rfl) (by kernel_rfl) rfl rfl rfl rfl rfl (by rw [hg118]; rfl) (fun _ _ _ h => h) (sj_refl hb.bd rfl rfl) (by decide) ?_
    refine dj_H 13 (v := .bool false) (by kernel_rfl) (by kernel_rfl) rfl (fun _ _ _ h => h) (sj_refl hb.bd rfl rfl) (fun w1 ρ1 hw1 => ev_pick_f rfl hg118 rfl) (by decide) ?_
    refine dj_H 14 (v := .bool false) (by kernel_rfl) (by kernel_rfl) rfl (fun _ _ _ h => h) (sj_refl hb.bd rfl rfl) (fun w1 ρ1 hw1 => ev_move rfl) (by decide) ?_
    refine dj_pass 15 (e := 56) (by kernel_rfl) (by kernel_rfl) rfl rfl rfl rfl rfl rfl (fun _ _ _ h => h) (sj_refl hb.bd rfl rfl) (by decide) ?_
    refine dj_pass 16 (e := 56) (by kernel_rfl) (by kernel_rfl) rfl rfl rfl rfl rfl rfl (fun _ _ _ h => h) (sj_refl hb.bd rfl rfl) (by decide) ?_
    refine dj_pass 17 (e := 56) (by kernel_rfl) (by kernel_rfl) rfl rfl rfl rfl rfl rfl (fun _ _ _ h => h) (sj_refl hb.bd rfl rfl) (by decide) ?_
    refine dj_pass 18 (e := 56) (by kernel_rfl) (by kernel_rfl) rfl rfl rfl rfl rfl rfl (fun _ _ _ h => h) (sj_refl hb.bd rfl rfl) (by decide) ?_
    refine dj_pass 19 (e := 56) (by kernel_rfl) (by kernel_rfl) rfl rfl rfl rfl rfl rfl (fun _ _ _ h => h) (sj_refl hb.bd rfl rfl) (by decide) ?_
    refine dj_pass 20 (e := 56) (by kernel_rfl) (by kernel_rfl) rfl rfl rfl rfl rfl rfl (fun _ _ _ h => h) (sj_refl hb.bd rfl rfl) (by decide) ?_
    refine dj_pass 21 (e := 56) (by kernel_rfl) (by kernel_rfl) rfl rfl rfl rfl rfl rfl (fun _ _ _ h => h) (sj_refl hb.bd rfl rfl) (by decide) ?_
    refine dj_pass 22 (e := 56) (by kernel_rfl) (by kernel_rfl) rfl rfl rfl rfl rfl rfl (fun _ _ _ h => h) (sj_refl hb.bd rfl rfl) (by decide) ?_
    refine dj_pass 23 (e := 56) (by kernel_rfl) (by kernel_rfl) rfl rfl rfl rfl rfl rfl (fun _ _ _ h => h) (sj_refl hb.bd rfl rfl) (by decide) ?_
    refine dj_pass 24 (e := 56) (by kernel_rfl) (by kernel_rfl) rfl rfl rfl rfl rfl rfl (fun _ _ _ h => h) (sj_refl hb.bd rfl rfl) (by decide) ?_
    refine dj_H 25 (v := .bool false) (by kernel_rfl) (by kernel_rfl) rfl (fun _ _ _ h => h) (sj_refl hb.bd rfl rfl) (fun w1 ρ1 hw1 => ev_pick_f rfl rfl rfl) (by decide) ?_
    refine dj_done rfl (by kernel_rfl) ?_
    refine ke_weaken (l' := [(0, .pointer (some ⟨gd_0, 0, none⟩)), (2, str scope_2), (3, .int .i64 now_3), (9, vseen_9), (10, .int .i64 i_10), (11, .int .i64 k_11), (12, .pointer (some ⟨g40, 0, none⟩)), (67, .bool false)]) (.cons rfl (.cons rfl (.cons rfl (.cons rfl (.cons rfl (.cons rfl (.cons rfl (.cons rfl (.nil _))))))))) ?_
    have hK := ref35_Delegations_Reach_B3_ok hg hbd hz _ _ hr0 hr1 hS hb ⟨_, hB25, h24⟩ hseen_9 h37 hB44
    exact ke_weaken (l' := [(0, .pointer (some ⟨gd_0, 0, none⟩)), (2, str scope_2), (3, .int .i64 now_3), (9, vseen_9), (10, .int .i64 i_10), (11, .int .i64 k_11), (12, .pointer (some ⟨g40, 0, none⟩)), (67, .bool false)]) (.cons rfl (.cons rfl (.cons rfl (.cons rfl (.cons rfl (.cons rfl (.cons rfl (.cons rfl (.nil _))))))))) hK
  ·replace hS := ite_false' hS hc28
   refine ke_exit (k' := _) rfl ?_
   refine ke_inBlock ?_
   refine ke_region ?_
   refine sr_ev (v := .int .i64 i_10) (ev_move rfl) (by decide) ?_
   refine sr_ev (v := .int .i64 (IntKind.i64.wrap (i_10 + 1))) (ev_add rfl rfl) (by decide) ?_
   refine sr_ev (v := .int .i64 (IntKind.i64.wrap (i_10 + 1))) (ev_assign rfl) (by decide) ?_
   refine sr_end (l' := [(0, .pointer (some ⟨gd_0, 0, none⟩)), (2, str scope_2), (3, .int .i64 now_3), (9, vseen_9), (10, .int .i64 (IntKind.i64.wrap (i_10 + 1)))]) (.cons rfl (.cons rfl (.cons rfl (.cons rfl (.cons rfl (.nil _)))))) ?_
   have hK := hr0 hS hb ⟨_, hB25, h24⟩ hseen_9
   exact ke_weaken (l' := [(0, .pointer (some ⟨gd_0, 0, none⟩)), (2, str scope_2), (3, .int .i64 now_3), (9, vseen_9), (10, .int .i64 (IntKind.i64.wrap (i_10 + 1)))]) (.cons rfl (.cons rfl (.cons rfl (.cons rfl (.cons rfl (.nil _)))))) hK
theorem ref35_Delegations_Reach_L5_ok {w0 : World} (hg : Gs w0) {ρA : Tags} (hbd : ∀ b, ρA b ≠ 0 → b < w0.heap.size) (hz : Gz (flat1 ρA)) (r0 : ref35_Delegations → Str → Int → List Str → Int → Option (List Str))
  (hr0 : ∀ {r : List Str} {od_0 : ref35_Delegations} {scope_2 : Str} {now_3 : Int} {seen_9 : List Str} {i_10 : Int} {gd_0 : Nat} {vseen_9 : Value}, r0 od_0 scope_2 now_3 seen_9 i_10 = some r → ∀ {ρ : Tags} {w : World}, (Fr (flat1 ρA) w0 ρ w) → (ref35_Delegations.O (fun _ => 1) ρ w gd_0 od_0) → (OwnT strC 9 ρ 21 w vseen_9 seen_9) → KE Try.prog 21 (Ret (fun v w' => ∃ x1, v = x1 ∧ SlR strC (Wb ρA) w' x1 r ∧ Below w0.heap.size w0 w')) 86 [.inLoop (sub (bodyOf Try.f21) [2, 2, 2, 1, 2, 2, 1]), .inBlock 0, .code (sub (bodyOf Try.f21) [2, 2, 2, 2])] [(0, .pointer (some ⟨gd_0, 0, none⟩)), (2, str scope_2), (3, .int .i64 now_3), (9, vseen_9), (10, .int .i64 i_10)] w) : ∀ (n : Nat), ∀ {r : List Str} {seen_9 : List Str} {out_13 : List Str} {i_14 : Int} {vseen_9 : Value} {vout_13 : Value}, ref35_Delegations_Reach_L5 r0 n seen_9 out_13 i_14 = some r → ∀ {ρ : Tags} {w : World}, (Fr (flat1 ρA) w0 ρ w) → (OwnT strC 9 ρ 21 w vseen_9 seen_9) → (SlR strC (Wb ρ) w vout_13 out_13) → KE Try.prog 21 (Ret (fun v w' => ∃ x1, v = x1 ∧ SlR strC (Wb ρA) w' x1 r ∧ Below w0.heap.size w0 w')) 86 [.code (sub (bodyOf Try.f21) [2, 2, 2, 2, 2, 1, 2, 2, 1]), .inLoop (sub (bodyOf Try.f21) [2, 2, 2, 2, 2, 1, 2, 2, 1]), .inBlock 4, .code (sub (bodyOf Try.f21) [2, 2, 2, 2, 2, 2])] [(9, vseen_9), (13, vout_13), (14, .int .i64 i_14)] w := by
 intro n
 induction n with
 | zero => intro r seen_9 out_13 i_14 vseen_9 vout_13 hS; cases hS
 | succ n ih =>
  have hr1 : ∀ {r : List Str} {seen_9 : List Str} {out_13 : List Str} {i_14 : Int} {vseen_9 : Value} {vout_13 : Value}, ref35_Delegations_Reach_L5 r0 n seen_9 out_13 i_14 = some r → ∀ {ρ : Tags} {w : World}, (Fr (flat1 ρA) w0 ρ w) → (OwnT strC 9 ρ 21 w vseen_9 seen_9) → (SlR strC (Wb ρ) w vout_13 out_13) → KE Try.prog 21 (Ret (fun v w' => ∃ x1, v = x1 ∧ SlR strC (Wb ρA) w' x1 r ∧ Below w0.heap.size w0 w')) 86 [.inLoop (sub (bodyOf Try.f21) [2, 2, 2, 2, 2, 1, 2, 2, 1]), .inBlock 4, .code (sub (bodyOf Try.f21) [2, 2, 2, 2, 2, 2])] [(9, vseen_9), (13, vout_13), (14, .int .i64 i_14)] w := fun {r} {seen_9} {out_13} {i_14} {vseen_9} {vout_13} hS {ρ} {w} hb hseen_9 hout_13 => ke_inLoop (ih hS hb hseen_9 hout_13)
  clear ih
  intro r seen_9 out_13 i_14 vseen_9 vout_13 hS ρ w hb hseen_9 hout_13
  unfold ref35_Delegations_Reach_L5 at hS
  refine ke_seq ?_
  refine ke_seq ?_
  refine ke_region ?_
  refine sr_ev (v := .int .i64 i_14) (ev_move rfl) (by decide) ?_
  refine sr_ev (v := vseen_9) (ev_move rfl) (by decide) ?_
  refine sr_ev (v := .int .i64 (seen_9.length : Int)) (ev_sllen Try.underlying23 rfl hseen_9.asSl) (by decide) ?_
  refine sr_ev (v := .bool (decide (i_14 < (seen_9.length : Int)))) (ev_lt rfl rfl) (by decide) ?_
  refine sr_end (l' := [(9, vseen_9), (13, vout_13), (14, .int .i64 i_14), (76, .bool (decide (i_14 < (seen_9.length : Int))))]) (.cons rfl (.cons rfl (.cons rfl (.cons rfl (.nil _))))) ?_
  refine ke_cond (t := decide (i_14 < (seen_9.length : Int))) rfl (fun hc162 => ?_) (fun hc162 => ?_)
  ·replace hS := ite_true' hS hc162
   refine ke_skip ?_
   refine ke_seq ?_
   refine ke_block ?_
   refine ke_region ?_
   refine sr_ev (v := vout_13) (ev_move rfl) (by decide) ?_
   refine sr_ev (v := vseen_9) (ev_move rfl) (by decide) ?_
   refine sr_ev (v := .int .i64 i_14) (ev_move rfl) (by decide) ?_
   obtain ⟨y163, hy164, hS⟩ := bind_some' hS
   obtain ⟨b165, o166, cs168, hq169, he167, hg170, ho171⟩ := hseen_9.elemQ (P := Try.prog) Try.underlying23 Try.info9 rfl hy164
   obtain rfl : cs168 = [str y163] := he167.rd
   refine sr_ev (v := .pointer (some ⟨b165, o166, none⟩)) (hq169 w rfl rfl) (by decide) ?_
   refine sr_ev (v := str y163) (ev_load Try.isAgg9 rfl (he167.cell 0 _ rfl)) (by decide) ?_
   obtain ⟨y172, hy173, hS⟩ := bind_some' hS
   refine sr_call (vs := [vout_13, str y163]) rfl Try.call43 rfl (ref06_Insert_ok (A0 := Wb ρ) _ (hg.fr hz hb) hout_13 hb.bd hy173) (by decide) ?_
   rintro v177 w174 ⟨_, rfl, h178, hbw175⟩
   have htr176 := Tr.of_below hbw175 hb.bd
   replace hseen_9 := hseen_9.mv (htr176.mv (i := 21) rfl) (by decide)
   replace hb := hb.trans htr176
   refine sr_ev (v := v177) (ev_assign rfl) (by decide) ?_
   refine sr_end (l' := [(9, vseen_9), (13, v177), (14, .int .i64 i_14)]) (.cons rfl (.cons rfl (.cons rfl (.nil _)))) ?_
   refine ke_inBlock ?_
   refine ke_region ?_
   refine sr_ev (v := .int .i64 i_14) (ev_move rfl) (by decide) ?_
   refine sr_ev (v := .int .i64 (IntKind.i64.wrap (i_14 + 1))) (ev_add rfl rfl) (by decide) ?_
   refine sr_ev (v := .int .i64 (IntKind.i64.wrap (i_14 + 1))) (ev_assign rfl) (by decide) ?_
   refine sr_end (l' := [(9, vseen_9), (13, v177), (14, .int .i64 (IntKind.i64.wrap (i_14 + 1)))]) (.cons rfl (.cons rfl (.cons rfl (.nil _)))) ?_
   have hK := hr1 hS hb hseen_9 h178
   exact ke_weaken (l' := [(9, vseen_9), (13, v177), (14, .int .i64 (IntKind.i64.wrap (i_14 + 1)))]) (.cons rfl (.cons rfl (.cons rfl (.nil _)))) hK
  ·replace hS := ite_false' hS hc162
   refine ke_exit (k' := _) rfl ?_
   refine ke_seq ?_
   refine ke_region ?_
   refine sr_ev (v := vout_13) (ev_move rfl) (by decide) ?_
   refine sr_ev (v := vout_13) (ev_assign rfl) (by decide) ?_
   refine sr_end (l' := [(8, vout_13)]) (.cons rfl (.nil _)) ?_
   cases hS
   exact ke_ret1 Try.func21 rfl rfl ⟨_, rfl, _, rfl, (SlR.mv hout_13 (flat1_back hb hbd)), (hb.below (flat1_le _))⟩
theorem ref35_Delegations_Reach_L1_ok {w0 : World} (hg : Gs w0) {ρA : Tags} (hbd : ∀ b, ρA b ≠ 0 → b < w0.heap.size) (hz : Gz (flat1 ρA)) : ∀ (n : Nat), ∀ {r : List Str} {od_0 : ref35_Delegations} {scope_2 : Str} {now_3 : Int} {seen_9 : List Str} {i_10 : Int} {gd_0 : Nat} {vseen_9 : Value}, ref35_Delegations_Reach_L1 n od_0 scope_2 now_3 seen_9 i_10 = some r → ∀ {ρ : Tags} {w : World}, (Fr (flat1 ρA) w0 ρ w) → (ref35_Delegations.O (fun _ => 1) ρ w gd_0 od_0) → (OwnT strC 9 ρ 21 w vseen_9 seen_9) → KE Try.prog 21 (Ret (fun v w' => ∃ x1, v = x1 ∧ SlR strC (Wb ρA) w' x1 r ∧ Below w0.heap.size w0 w')) 86 [.code (sub (bodyOf Try.f21) [2, 2, 2, 1, 2, 2, 1]), .inLoop (sub (bodyOf Try.f21) [2, 2, 2, 1, 2, 2, 1]), .inBlock 0, .code (sub (bodyOf Try.f21) [2, 2, 2, 2])] [(0, .pointer (some ⟨gd_0, 0, none⟩)), (2, str scope_2), (3, .int .i64 now_3), (9, vseen_9), (10, .int .i64 i_10)] w := by
 intro n
 induction n with
 | zero => intro r od_0 scope_2 now_3 seen_9 i_10 gd_0 vseen_9 hS; cases hS
 | succ n ih =>
  have hr0 : ∀ {r : List Str} {od_0 : ref35_Delegations} {scope_2 : Str} {now_3 : Int} {seen_9 : List Str} {i_10 : Int} {gd_0 : Nat} {vseen_9 : Value}, ref35_Delegations_Reach_L1 n od_0 scope_2 now_3 seen_9 i_10 = some r → ∀ {ρ : Tags} {w : World}, (Fr (flat1 ρA) w0 ρ w) → (ref35_Delegations.O (fun _ => 1) ρ w gd_0 od_0) → (OwnT strC 9 ρ 21 w vseen_9 seen_9) → KE Try.prog 21 (Ret (fun v w' => ∃ x1, v = x1 ∧ SlR strC (Wb ρA) w' x1 r ∧ Below w0.heap.size w0 w')) 86 [.inLoop (sub (bodyOf Try.f21) [2, 2, 2, 1, 2, 2, 1]), .inBlock 0, .code (sub (bodyOf Try.f21) [2, 2, 2, 2])] [(0, .pointer (some ⟨gd_0, 0, none⟩)), (2, str scope_2), (3, .int .i64 now_3), (9, vseen_9), (10, .int .i64 i_10)] w := fun {r} {od_0} {scope_2} {now_3} {seen_9} {i_10} {gd_0} {vseen_9} hS {ρ} {w} hb hod_0 hseen_9 => ke_inLoop (ih hS hb hod_0 hseen_9)
  clear ih
  intro r od_0 scope_2 now_3 seen_9 i_10 gd_0 vseen_9 hS ρ w hb hod_0 hseen_9
  unfold ref35_Delegations_Reach_L1 at hS
  obtain ⟨v17, hB19, h18⟩ := hod_0
  replace hB19 : Blk ρ 1 w gd_0 (.cells #[.bool od_0.made, v17] 57 (0, 0)) := hB19
  replace h18 : OwnT ref35_one.c 65 ρ 1 w v17 od_0.l := h18
  refine ke_seq ?_
  refine ke_seq ?_
  refine ke_region ?_
  refine sr_ev (v := .int .i64 i_10) (ev_move rfl) (by decide) ?_
  refine sr_ev (v := vseen_9) (ev_move rfl) (by decide) ?_
  refine sr_ev (v := .int .i64 (seen_9.length : Int)) (ev_sllen Try.underlying23 rfl hseen_9.asSl) (by decide) ?_
  refine sr_ev (v := .bool (decide (i_10 < (seen_9.length : Int)))) (ev_lt rfl rfl) (by decide) ?_
  refine sr_end (l' := [(0, .pointer (some ⟨gd_0, 0, none⟩)), (2, str scope_2), (3, .int .i64 now_3), (9, vseen_9), (10, .int .i64 i_10), (23, .bool (decide (i_10 < (seen_9.length : Int))))]) (.cons rfl (.cons rfl (.cons rfl (.cons rfl (.cons rfl (.cons rfl (.nil _))))))) ?_
  refine ke_cond (t := decide (i_10 < (seen_9.length : Int))) rfl (fun hc22 => ?_) (fun hc22 => ?_)
  ·replace hS := ite_true' hS hc22
   refine ke_skip ?_
   refine ke_seq ?_
   refine ke_block ?_
   refine ke_seq ?_
   refine ke_region ?_
   refine sr_ev (v := .int .i64 0) (ev_assign rfl) (by decide) ?_
   refine sr_end (l' := [(0, .pointer (some ⟨gd_0, 0, none⟩)), (2, str scope_2), (3, .int .i64 now_3), (9, vseen_9), (10, .int .i64 i_10), (11, .int .i64 0)]) (.cons rfl (.cons rfl (.cons rfl (.cons rfl (.cons rfl (.cons rfl (.nil _))))))) ?_
   refine ke_block ?_
   have hK := ref35_Delegations_Reach_L2_ok hg hbd hz _ hr0 _ hS hb ⟨_, hB19, h18⟩ hseen_9
   exact ke_weaken (l' := [(0, .pointer (some ⟨gd_0, 0, none⟩)), (2, str scope_2), (3, .int .i64 now_3), (9, vseen_9), (10, .int .i64 i_10), (11, .int .i64 0)]) (.cons rfl (.cons rfl (.cons rfl (.cons rfl (.cons rfl (.cons rfl (.nil _))))))) (ke_loop hK)
  ·replace hS := ite_false' hS hc22
   refine ke_exit (k' := _) rfl ?_
   refine ke_seq ?_
   refine ke_region ?_
   refine sr_ev (v := .slice none 0 0) (ev_assign rfl) (by decide) ?_
   refine sr_end (l' := [(9, vseen_9), (13, .slice none 0 0)]) (.cons rfl (.cons rfl (.nil _))) ?_
   refine ke_seq ?_
   refine ke_seq ?_
   refine ke_region ?_
   refine sr_ev (v := .int .i64 1) (ev_assign rfl) (by decide) ?_
   refine sr_end (l' := [(9, vseen_9), (13, .slice none 0 0), (14, .int .i64 1)]) (.cons rfl (.cons rfl (.cons rfl (.nil _)))) ?_
   refine ke_block ?_
   have hK := ref35_Delegations_Reach_L5_ok hg hbd hz _ hr0 _ hS hb hseen_9 SlR.nil
   exact ke_weaken (l' := [(9, vseen_9), (13, (.slice none 0 0)), (14, .int .i64 1)]) (.cons rfl (.cons rfl (.cons rfl (.nil _)))) (ke_loop hK)

end Ytibmfjehbmdbkaa
end Go.Proofs
