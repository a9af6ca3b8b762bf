/- Own work: a part of the proofs of this seat. -/
import Derived.Test.YtijiipelpgmhpaaProg
import Derived.Test.YtijiipelpgmhpaaShelf
import Derived.Test.YtijiipelpgmhpaaKwIS
import Derived.KernelRfl
import Derived.Test.YtijiipelpgmhpaaKwIConsentPlaysW2
set_option linter.unusedVariables false
set_option linter.unusedSimpArgs false
set_option linter.unusedSectionVars false
set_option maxHeartbeats 8000000
set_option maxRecDepth 8000
namespace Go.Proofs
namespace Ytijiipelpgmhpaa
open Go Go.KW Go.KW.S Go.RowKit
theorem ref32_Consents_Revoke_ok (w0 : World) (hg : Gs w0) {ρA : Tags} (hbd : ∀ b, ρA b ≠ 0 → b < w0.heap.size) (hz : Gz ρA) {o : Nat} (ho2 : 2 ≤ o) {c_0 : ref32_Consents} {user_1 : Str} {client_2 : Str} {gc_0 : Nat} {r : Bool × ref32_Consents} (ho0 : ref32_Consents.O (fun p => o + p) ρA w0 gc_0 c_0) (hS : ref32_Consents_Revoke c_0 user_1 client_2 = some r) :
  Calls Try.prog 30 #[.pointer (some ⟨gc_0, 0, none⟩), str user_1, str client_2] w0 (Ret (fun v w' => ∃ ρ', v = .bool r.1 ∧ ref32_Consents.O (fun p => o + p) ρ' w' gc_0 r.2 ∧ Tr ρA w0 (rng o 2) ρ' w')) := by
 unfold ref32_Consents_Revoke at hS
 have hb := enter_fr (ρ := ρA) (w := w0) (n := 2) ho2 hbd
 have hz := hz.enter (n := 2) ho2
 obtain ⟨v1, hB3, h2⟩ := ho0
 replace hB3 := hB3.mv (enter_mv (p := 0) (n := 2) (by decide) ho2)
 replace h2 := h2.mv (enter_mv (p := 1) (n := 2) (by decide) ho2) (by decide)
 replace hB3 : Blk (enter ρA o 2) 100 w0 gc_0 (.cells #[.bool c_0.made, v1] 55 (0, 0)) := hB3
 replace h2 : OwnT ref32_pair.c 63 (enter ρA o 2) 101 w0 v1 c_0.pairs := h2
 refine calls_of_ke Try.func30 rfl (n := 36) rfl rfl (l := [(0, .pointer (some ⟨gc_0, 0, none⟩)), (1, str user_1), (2, str client_2)]) rfl ?_
 refine ke_seq ?_
 refine ke_region ?_
 refine sr_ev (v := .bool false) (ev_assign rfl) (by decide) ?_
 refine sr_end (l' := [(0, .pointer (some ⟨gc_0, 0, none⟩)), (1, str user_1), (2, str client_2)]) (.cons rfl (.cons rfl (.cons rfl (.nil _)))) ?_
 refine ke_seq ?_
 refine ke_seq ?_
 refine ke_region ?_
 refine sr_ev (v := .pointer (some ⟨gc_0, 0, none⟩)) (ev_move rfl) (by decide) ?_
 obtain ⟨y4, hy5, hS⟩ := bind_some' hS
 refine sr_call (vs := [.pointer (some ⟨gc_0, 0, none⟩)]) rfl Try.call33 rfl (ref32_Consents_Made_ok _ (hg.fr hz hb) (ρA := (enter ρA o 2)) hb.bd (hz.fr hg hb) (τ0 := (fun p => 100 + p)) (fun p => Nat.le_add_right_of_le (by decide)) (⟨_, hB3, h2⟩ : ref32_Consents.O (fun p => 100 + p) (enter ρA o 2) w0 gc_0 c_0) hy5) (by decide) ?_
 rintro _ w6 ⟨rfl, hbw7⟩
 have htr8 := Tr.of_below hbw7 hb.bd
 replace hB3 := hB3.mv (htr8.mv (i := 100) rfl)
 replace h2 := h2.mv (htr8.mv (i := 101) rfl) (by decide)
 replace hb := hb.trans htr8
 refine sr_ev (v := .bool (!y4)) (ev_not rfl) (by decide) ?_
 refine sr_end (l' := [(0, .pointer (some ⟨gc_0, 0, none⟩)), (1, str user_1), (2, str client_2), (10, .bool (!y4))]) (.cons rfl (.cons rfl (.cons rfl (.cons rfl (.nil _))))) ?_
 refine ke_cond (t := !y4) rfl (fun hc9 => ?_) (fun hc9 => ?_)
 ·replace hS := ite_true' hS hc9
  refine ke_seq ?_
  refine ke_region ?_
  refine sr_ev (v := .bool false) (ev_assign rfl) (by decide) ?_
  refine sr_end (l' := [(6, .bool false)]) (.cons rfl (.nil _)) ?_
  cases hS
  exact ke_ret1 Try.func30 rfl rfl ⟨_, rfl, leave ρA w0 o 2 (enter ρA o 2), rfl, ⟨_, (hB3.mv (leave_mv (p := 0) (by decide) hb)), (h2.mv (leave_mv (p := 1) (by decide) hb) (Nat.ne_of_gt (Nat.lt_of_lt_of_le (Nat.lt_of_lt_of_le Nat.zero_lt_two ho2) (Nat.le_add_right _ _))))⟩, (leave_tr ho2 hb)⟩
 ·replace hS := ite_false' hS hc9
  refine ke_skip ?_
  refine ke_seq ?_
  refine ke_region ?_
  refine sr_ev (v := .pointer (some ⟨gc_0, 0, none⟩)) (ev_move rfl) (by decide) ?_
  refine sr_ev (v := str user_1) (ev_move rfl) (by decide) ?_
  refine sr_ev (v := str client_2) (ev_move rfl) (by decide) ?_
  obtain ⟨y10, hy11, hS⟩ := bind_some' hS
  refine sr_call (vs := [.pointer (some ⟨gc_0, 0, none⟩), str user_1, str client_2]) rfl Try.call36 rfl (ref32_Consents_find_ok _ (hg.fr hz hb) (ρA := (enter ρA o 2)) hb.bd (hz.fr hg hb) (τ0 := (fun p => 100 + p)) (fun p => Nat.le_add_right_of_le (by decide)) (⟨_, hB3, h2⟩ : ref32_Consents.O (fun p => 100 + p) (enter ρA o 2) w6 gc_0 c_0) hy11) (by decide) ?_
  rintro _ w12 ⟨rfl, hbw13⟩
  have htr14 := Tr.of_below hbw13 hb.bd
  replace hB3 := hB3.mv (htr14.mv (i := 100) rfl)
  replace h2 := h2.mv (htr14.mv (i := 101) rfl) (by decide)
  replace hb := hb.trans htr14
  refine sr_ev (v := .int .i64 y10) (ev_assign rfl) (by decide) ?_
  refine sr_end (l' := [(0, .pointer (some ⟨gc_0, 0, none⟩)), (7, .int .i64 y10)]) (.cons rfl (.cons rfl (.nil _))) ?_
  refine ke_seq ?_
  refine ke_seq ?_
  refine ke_region ?_
  refine sr_ev (v := .int .i64 y10) (ev_move rfl) (by decide) ?_
  refine sr_ev (v := .bool (decide (y10 < 0))) (ev_lt rfl rfl) (by decide) ?_
  refine sr_end (l' := [(0, .pointer (some ⟨gc_0, 0, none⟩)), (7, .int .i64 y10), (16, .bool (decide (y10 < 0)))]) (.cons rfl (.cons rfl (.cons rfl (.nil _)))) ?_
  refine ke_cond (t := decide (y10 < 0)) rfl (fun hc15 => ?_) (fun hc15 => ?_)
  ·replace hS := ite_true' hS hc15
   refine ke_seq ?_
   refine ke_region ?_
   refine sr_ev (v := .bool false) (ev_assign rfl) (by decide) ?_
   refine sr_end (l' := [(6, .bool false)]) (.cons rfl (.nil _)) ?_
   cases hS
   exact ke_ret1 Try.func30 rfl rfl ⟨_, rfl, leave ρA w0 o 2 (enter ρA o 2), rfl, ⟨_, (hB3.mv (leave_mv (p := 0) (by decide) hb)), (h2.mv (leave_mv (p := 1) (by decide) hb) (Nat.ne_of_gt (Nat.lt_of_lt_of_le (Nat.lt_of_lt_of_le Nat.zero_lt_two ho2) (Nat.le_add_right _ _))))⟩, (leave_tr ho2 hb)⟩
  ·replace hS := ite_false' hS hc15
   refine ke_skip ?_
   refine ke_seq ?_
   refine ke_region_j (ρ := (enter ρA o 2)) (fun t => ([20, 100] : List Nat).contains t) 20 Try.mixed (fun w17 hw16 => ?_)
   have htr18 := Tr.of_below hw16 hb.bd
   replace hB3 := hB3.mv (htr18.mv (i := 100) rfl)
   replace h2 := h2.mv (htr18.mv (i := 101) rfl) (by decide)
   replace hb := hb.trans htr18
   refine dj_H 0 (v := .pointer (some ⟨gc_0, 0, none⟩)) (by kernel_rfl) (by kernel_rfl) rfl (fun _ _ _ h => h) (sj_refl hb.bd rfl rfl) (fun w1 ρ1 hw1 => ev_move rfl) (by decide) ?_
   refine dj_H 2 (v := .pointer (some ⟨gc_0, 0, none⟩)) (by kernel_rfl) (by kernel_rfl) rfl (fun _ _ _ h => h) (sj_refl hb.bd rfl rfl) (fun w1 ρ1 hw1 => ev_move rfl) (by decide) ?_
   refine dj_H 3 (v := .pointer (some ⟨gc_0, 0, none⟩)) (by kernel_rfl) (by kernel_rfl) rfl (fun _ _ _ h => h) (sj_refl hb.bd rfl rfl) (fun w1 ρ1 hw1 => ev_nilCheck rfl) (by decide) ?_
   refine dj_H 4 (v := .pointer (some ⟨gc_0, 1, none⟩)) (by kernel_rfl) (by kernel_rfl) rfl (fun _ _ _ h => h) (sj_refl hb.bd rfl rfl) (fun w1 ρ1 hw1 => ev_fieldAddr (i := 1) Try.underlying55 rfl Try.info53 rfl rfl) (by decide) ?_
   refine dj_H 6 (v := .int .i64 y10) (by kernel_rfl) (by kernel_rfl) rfl (fun _ _ _ h => h) (sj_refl hb.bd rfl rfl) (fun w1 ρ1 hw1 => ev_move rfl) (by decide) ?_
   refine dj_H 9 (v := .pointer (some ⟨gc_0, 0, none⟩)) (by kernel_rfl) (by kernel_rfl) rfl (fun _ _ _ h => h) (sj_refl hb.bd rfl rfl) (fun w1 ρ1 hw1 => ev_move rfl) (by decide) ?_
   refine dj_H 10 (v := .pointer (some ⟨gc_0, 0, none⟩)) (by kernel_rfl) (by kernel_rfl) rfl (fun _ _ _ h => h) (sj_refl hb.bd rfl rfl) (fun w1 ρ1 hw1 => ev_nilCheck rfl) (by decide) ?_
   refine dj_H 11 (v := .pointer (some ⟨gc_0, 1, none⟩)) (by kernel_rfl) (by kernel_rfl) rfl (fun _ _ _ h => h) (sj_refl hb.bd rfl rfl) (fun w1 ρ1 hw1 => ev_fieldAddr (i := 1) Try.underlying55 rfl Try.info53 rfl rfl) (by decide) ?_
   refine dj_H 13 (v := .int .i64 y10) (by kernel_rfl) (by kernel_rfl) rfl (fun _ _ _ h => h) (sj_refl hb.bd rfl rfl) (fun w1 ρ1 hw1 => ev_move rfl) (by decide) ?_
   refine dj_H 14 (v := .int .i64 (IntKind.i64.wrap (y10 + 1))) (by kernel_rfl) (by kernel_rfl) rfl (fun _ _ _ h => h) (sj_refl hb.bd rfl rfl) (fun w1 ρ1 hw1 => ev_add rfl rfl) (by decide) ?_
   obtain ⟨hk284, hS⟩ := chk_some hS
   obtain ⟨hk289, hS⟩ := chk_some hS
   obtain ⟨hk296, hS⟩ := chk_some hS
   obtain ⟨hk301, hS⟩ := chk_some hS
   refine dj_all [1, 5, 12] (by kernel_rfl) (fun i hi => ?_)
   simp only [List.mem_cons, List.not_mem_nil, or_false] at hi
   rcases hi with rfl | rfl | rfl
   ·refine ⟨_, rfl, ?_⟩
    have jt310 : Tr (enter ρA o 2) w17 (fun t => ([20, 100] : List Nat).contains t) (enter ρA o 2) w17 := (Tr.refl hb.bd).weak (fun _ _ => rfl) rfl rfl
    refine sr_litOwnT (i := 20) (c := ref32_pair.c) (ρ := (enter ρA o 2)) (E := 63) (xs := []) (vs := #[]) (cs := #[]) (css := []) rfl (fun _ => by kernel_rfl) rfl trivial rfl (by decide) (by decide) hb.bd (by decide) ?_
    intro v311 ρ315 w313 h312 htr314
    replace hB3 := hB3.mv (htr314.mv (i := 100) rfl)
    replace h2 := h2.mv (htr314.mv (i := 101) rfl) (by decide)
    replace hb := hb.trans htr314
    replace jt310 := (jt310.trans htr314).weak (J' := (fun t => ([20, 100] : List Nat).contains t)) (by intro t h; simp [rng] at h ⊢ <;> omega) rfl rfl
    refine dj_next (l' := [(17, .pointer (some ⟨gc_0, 0, none⟩)), (18, v311), (21, .pointer (some ⟨gc_0, 1, none⟩)), (23, .int .i64 y10), (28, .pointer (some ⟨gc_0, 1, none⟩)), (31, .int .i64 (IntKind.i64.wrap (y10 + 1)))]) rfl (.cons rfl (.cons rfl (.cons rfl (.cons rfl (.cons rfl (.cons rfl (.nil _))))))) jt310 (by intro t h; simp [rng] at h ⊢ <;> omega) rfl rfl ?_
    refine dj_all [5, 12] (by kernel_rfl) (fun i hi => ?_)
    simp only [List.mem_cons, List.not_mem_nil, or_false] at hi
    rcases hi with rfl | rfl
    ·refine ⟨_, rfl, ?_⟩
     have jt316 : Tr ρ315 w313 (fun t => ([20, 100] : List Nat).contains t) ρ315 w313 := (Tr.refl hb.bd).weak (fun _ _ => rfl) rfl rfl
     refine sr_ev (v := v1) (ev_load Try.isAgg53 rfl (hB3.cell rfl)) (by decide) ?_
     refine dj_next (l' := [(17, .pointer (some ⟨gc_0, 0, none⟩)), (18, v311), (22, v1), (23, .int .i64 y10), (28, .pointer (some ⟨gc_0, 1, none⟩)), (31, .int .i64 (IntKind.i64.wrap (y10 + 1)))]) rfl (.cons rfl (.cons rfl (.cons rfl (.cons rfl (.cons rfl (.cons rfl (.nil _))))))) jt316 (by intro t h; simp [rng] at h ⊢ <;> omega) rfl rfl ?_
     obtain ⟨v317, h318, hq319⟩ := (h2.sl).cutT_h (P := Try.prog) Try.underlying53 Try.info63 rfl hk284
     refine dj_H 7 (v := v317) (by kernel_rfl) (by kernel_rfl) rfl (fun _ _ _ h => h) (sj_refl hb.bd rfl rfl) (fun w1 ρ1 hw1 => hq319 w1 rfl rfl) (by decide) ?_
     refine dj_all [8, 12] (by kernel_rfl) (fun i hi => ?_)
     simp only [List.mem_cons, List.not_mem_nil, or_false] at hi
     rcases hi with rfl | rfl
     ·refine ⟨_, rfl, ?_⟩
      have jt320 : Tr ρ315 w313 (fun t => ([20, 100] : List Nat).contains t) ρ315 w313 := (Tr.refl hb.bd).weak (fun _ _ => rfl) rfl rfl
      refine sr_appendT (i := 20) (c := ref32_pair.c) (ρ := ρ315) (E := 63) (xs := ([] : List ref32_pair)) (ys := cut c_0.pairs 0 y10) h312 (h318).x Try.underlying53 Try.info63 rfl rfl rfl (by decide) (by decide) (by decide) hb.bd hk289 rfl rfl (by decide) ?_
      intro v321 ρ323 w324 h322 htr325
      replace hB3 := hB3.mv (htr325.mv (i := 100) rfl)
      replace h2 := h2.mv (htr325.mv (i := 101) rfl) (by decide)
      replace hb := hb.trans htr325
      replace jt320 := (jt320.trans htr325).weak (J' := (fun t => ([20, 100] : List Nat).contains t)) (by intro t h; simp [rng] at h ⊢ <;> omega) rfl rfl
      refine dj_next (l' := [(17, .pointer (some ⟨gc_0, 0, none⟩)), (25, v321), (28, .pointer (some ⟨gc_0, 1, none⟩)), (31, .int .i64 (IntKind.i64.wrap (y10 + 1)))]) rfl (.cons rfl (.cons rfl (.cons rfl (.cons rfl (.nil _))))) jt320 (by intro t h; simp [rng] at h ⊢ <;> omega) rfl rfl ?_
      refine dj_E 12 (by kernel_rfl) rfl ?_
      have jt326 : Tr ρ323 w324 (fun t => ([20, 100] : List Nat).contains t) ρ323 w324 := (Tr.refl hb.bd).weak (fun _ _ => rfl) rfl rfl
      refine sr_ev (v := v1) (ev_load Try.isAgg53 rfl (hB3.cell rfl)) (by decide) ?_
      refine dj_next (l' := [(17, .pointer (some ⟨gc_0, 0, none⟩)), (25, v321), (29, v1), (31, .int .i64 (IntKind.i64.wrap (y10 + 1)))]) rfl (.cons rfl (.cons rfl (.cons rfl (.cons rfl (.nil _))))) jt326 (by intro t h; simp [rng] at h ⊢ <;> omega) rfl rfl ?_
      obtain ⟨v327, h328, hq329⟩ := (h2.sl).cutT_l (P := Try.prog) Try.underlying53 Try.info63 rfl hk296
      refine dj_H 15 (v := v327) (by kernel_rfl) (by kernel_rfl) rfl (fun _ _ _ h => h) (sj_refl hb.bd rfl rfl) (fun w1 ρ1 hw1 => hq329 w1 rfl rfl) (by decide) ?_
      refine dj_E 16 (by kernel_rfl) rfl ?_
      have jt330 : Tr ρ323 w324 (fun t => ([20, 100] : List Nat).contains t) ρ323 w324 := (Tr.refl hb.bd).weak (fun _ _ => rfl) rfl rfl
      refine sr_appendT (i := 20) (c := ref32_pair.c) (ρ := ρ323) (E := 63) (xs := ([] : List ref32_pair) ++ (cut c_0.pairs 0 y10)) (ys := cut c_0.pairs (IntKind.i64.wrap (y10 + 1)) c_0.pairs.length) h322 (h328).x Try.underlying53 Try.info63 rfl rfl rfl (by decide) (by decide) (by decide) hb.bd hk301 rfl rfl (by decide) ?_
      intro v331 ρ333 w334 h332 htr335
      replace hB3 := hB3.mv (htr335.mv (i := 100) rfl)
      replace h2 := h2.mv (htr335.mv (i := 101) rfl) (by decide)
      replace hb := hb.trans htr335
      replace jt330 := (jt330.trans htr335).weak (J' := (fun t => ([20, 100] : List Nat).contains t)) (by intro t h; simp [rng] at h ⊢ <;> omega) rfl rfl
      refine dj_next (l' := [(17, .pointer (some ⟨gc_0, 0, none⟩)), (33, v331)]) rfl (.cons rfl (.cons rfl (.nil _))) jt330 (by intro t h; simp [rng] at h ⊢ <;> omega) rfl rfl ?_
      refine dj_H 17 (v := .pointer (some ⟨gc_0, 0, none⟩)) (by kernel_rfl) (by kernel_rfl) rfl (fun _ _ _ h => h) (sj_refl hb.bd rfl rfl) (fun w1 ρ1 hw1 => ev_nilCheck rfl) (by decide) ?_
      refine dj_H 18 (v := .pointer (some ⟨gc_0, 1, none⟩)) (by kernel_rfl) (by kernel_rfl) rfl (fun _ _ _ h => h) (sj_refl hb.bd rfl rfl) (fun w1 ρ1 hw1 => ev_fieldAddr (i := 1) Try.underlying55 rfl Try.info53 rfl rfl) (by decide) ?_
      refine dj_E 19 (by kernel_rfl) rfl ?_
      have jt336 : Tr ρ333 w334 (fun t => ([20, 100] : List Nat).contains t) ρ333 w334 := (Tr.refl hb.bd).weak (fun _ _ => rfl) rfl rfl
      refine sr_storeT (v := v331) (vs := [v331]) (cs' := #[.bool c_0.made, v331]) hB3 (by decide) hb.bd rfl rfl (one_cells (OwnT.oneCell h332)) Try.sizeOf53 rfl (by first | rfl | (simp only [List.all_cons, List.all_nil, OwnT.oneCell h332]; done) | (simp only [List.all_cons, List.all_nil, OwnT.oneCell h332]; rfl)) rfl ?_
      intro w337 hB31 htr338
      replace h332 := h332.mv (htr338.mv (i := 20) rfl) (by decide)
      replace hb := hb.trans htr338
      replace jt336 := (jt336.trans htr338).weak (J' := (fun t => ([20, 100] : List Nat).contains t)) (by intro t h; simp [rng] at h ⊢ <;> omega) rfl rfl
      replace hB3 : Blk ρ333 100 w337 gc_0 (.cells #[.bool c_0.made, v331] 55 (0, 0)) := hB31
      clear hB31
      refine dj_next (l' := []) rfl (.nil _) jt336 (by intro t h; simp [rng] at h ⊢ <;> omega) rfl rfl ?_
      refine dj_done rfl (by kernel_rfl) ?_
      refine ke_weaken (l' := []) (.nil _) ?_
      have hK := ref32_Consents_Revoke_B1_ok hg hbd ho2 hz hS hb h332 hB3
      exact ke_weaken (l' := []) (.nil _) hK
     ·refine ⟨_, rfl, ?_⟩
      have jt341 : Tr ρ315 w313 (fun t => ([20, 100] : List Nat).contains t) ρ315 w313 := (Tr.refl hb.bd).weak (fun _ _ => rfl) rfl rfl
      refine sr_ev (v := v1) (ev_load Try.isAgg53 rfl (hB3.cell rfl)) (by decide) ?_
      refine dj_next (l' := [(17, .pointer (some ⟨gc_0, 0, none⟩)), (18, v311), (24, v317), (29, v1), (31, .int .i64 (IntKind.i64.wrap (y10 + 1)))]) rfl (.cons rfl (.cons rfl (.cons rfl (.cons rfl (.cons rfl (.nil _)))))) jt341 (by intro t h; simp [rng] at h ⊢ <;> omega) rfl rfl ?_
      obtain ⟨v342, h343, hq344⟩ := (h2.sl).cutT_l (P := Try.prog) Try.underlying53 Try.info63 rfl hk296
      refine dj_H 15 (v := v342) (by kernel_rfl) (by kernel_rfl) rfl (fun _ _ _ h => h) (sj_refl hb.bd rfl rfl) (fun w1 ρ1 hw1 => hq344 w1 rfl rfl) (by decide) ?_
      refine dj_E 8 (by kernel_rfl) rfl ?_
      have jt345 : Tr ρ315 w313 (fun t => ([20, 100] : List Nat).contains t) ρ315 w313 := (Tr.refl hb.bd).weak (fun _ _ => rfl) rfl rfl
      refine sr_appendT (i := 20) (c := ref32_pair.c) (ρ := ρ315) (E := 63) (xs := ([] : List ref32_pair)) (ys := cut c_0.pairs 0 y10) h312 (h318).x Try.underlying53 Try.info63 rfl rfl rfl (by decide) (by decide) (by decide) hb.bd hk289 rfl rfl (by decide) ?_
      intro v346 ρ348 w349 h347 htr350
      replace h343 := h343.mv (htr350.mv (i := 101) rfl)
      replace hB3 := hB3.mv (htr350.mv (i := 100) rfl)
      replace h2 := h2.mv (htr350.mv (i := 101) rfl) (by decide)
      replace hb := hb.trans htr350
      replace jt345 := (jt345.trans htr350).weak (J' := (fun t => ([20, 100] : List Nat).contains t)) (by intro t h; simp [rng] at h ⊢ <;> omega) rfl rfl
      refine dj_next (l' := [(17, .pointer (some ⟨gc_0, 0, none⟩)), (25, v346), (32, v342)]) rfl (.cons rfl (.cons rfl (.cons rfl (.nil _)))) jt345 (by intro t h; simp [rng] at h ⊢ <;> omega) rfl rfl ?_
      refine dj_E 16 (by kernel_rfl) rfl ?_
      have jt351 : Tr ρ348 w349 (fun t => ([20, 100] : List Nat).contains t) ρ348 w349 := (Tr.refl hb.bd).weak (fun _ _ => rfl) rfl rfl
      refine sr_appendT (i := 20) (c := ref32_pair.c) (ρ := ρ348) (E := 63) (xs := ([] : List ref32_pair) ++ (cut c_0.pairs 0 y10)) (ys := cut c_0.pairs (IntKind.i64.wrap (y10 + 1)) c_0.pairs.length) h347 (h343).x Try.underlying53 Try.info63 rfl rfl rfl (by decide) (by decide) (by decide) hb.bd hk301 rfl rfl (by decide) ?_
      intro v352 ρ354 w355 h353 htr356
      replace hB3 := hB3.mv (htr356.mv (i := 100) rfl)
      replace h2 := h2.mv (htr356.mv (i := 101) rfl) (by decide)
      replace hb := hb.trans htr356
      replace jt351 := (jt351.trans htr356).weak (J' := (fun t => ([20, 100] : List Nat).contains t)) (by intro t h; simp [rng] at h ⊢ <;> omega) rfl rfl
      refine dj_next (l' := [(17, .pointer (some ⟨gc_0, 0, none⟩)), (33, v352)]) rfl (.cons rfl (.cons rfl (.nil _))) jt351 (by intro t h; simp [rng] at h ⊢ <;> omega) rfl rfl ?_
      refine dj_H 17 (v := .pointer (some ⟨gc_0, 0, none⟩)) (by kernel_rfl) (by kernel_rfl) rfl (fun _ _ _ h => h) (sj_refl hb.bd rfl rfl) (fun w1 ρ1 hw1 => ev_nilCheck rfl) (by decide) ?_
      refine dj_H 18 (v := .pointer (some ⟨gc_0, 1, none⟩)) (by kernel_rfl) (by kernel_rfl) rfl (fun _ _ _ h => h) (sj_refl hb.bd rfl rfl) (fun w1 ρ1 hw1 => ev_fieldAddr (i := 1) Try.underlying55 rfl Try.info53 rfl rfl) (by decide) ?_
      refine dj_E 19 (by kernel_rfl) rfl ?_
      have jt357 : Tr ρ354 w355 (fun t => ([20, 100] : List Nat).contains t) ρ354 w355 := (Tr.refl hb.bd).weak (fun _ _ => rfl) rfl rfl
      refine sr_storeT (v := v352) (vs := [v352]) (cs' := #[.bool c_0.made, v352]) hB3 (by decide) hb.bd rfl rfl (one_cells (OwnT.oneCell h353)) Try.sizeOf53 rfl (by first | rfl | (simp only [List.all_cons, List.all_nil, OwnT.oneCell h353]; done) | (simp only [List.all_cons, List.all_nil, OwnT.oneCell h353]; rfl)) rfl ?_
      intro w358 hB31 htr359
      replace h353 := h353.mv (htr359.mv (i := 20) rfl) (by decide)
      replace hb := hb.trans htr359
      replace jt357 := (jt357.trans htr359).weak (J' := (fun t => ([20, 100] : List Nat).contains t)) (by intro t h; simp [rng] at h ⊢ <;> omega) rfl rfl
      replace hB3 : Blk ρ354 100 w358 gc_0 (.cells #[.bool c_0.made, v352] 55 (0, 0)) := hB31
      clear hB31
      refine dj_next (l' := []) rfl (.nil _) jt357 (by intro t h; simp [rng] at h ⊢ <;> omega) rfl rfl ?_
      refine dj_done rfl (by kernel_rfl) ?_
      refine ke_weaken (l' := []) (.nil _) ?_
      have hK := ref32_Consents_Revoke_B1_ok hg hbd ho2 hz hS hb h353 hB3
      exact ke_weaken (l' := []) (.nil _) hK
    ·refine ⟨_, rfl, ?_⟩
     have jt360 : Tr ρ315 w313 (fun t => ([20, 100] : List Nat).contains t) ρ315 w313 := (Tr.refl hb.bd).weak (fun _ _ => rfl) rfl rfl
     refine sr_ev (v := v1) (ev_load Try.isAgg53 rfl (hB3.cell rfl)) (by decide) ?_
     refine dj_next (l' := [(17, .pointer (some ⟨gc_0, 0, none⟩)), (18, v311), (21, .pointer (some ⟨gc_0, 1, none⟩)), (23, .int .i64 y10), (29, v1), (31, .int .i64 (IntKind.i64.wrap (y10 + 1)))]) rfl (.cons rfl (.cons rfl (.cons rfl (.cons rfl (.cons rfl (.cons rfl (.nil _))))))) jt360 (by intro t h; simp [rng] at h ⊢ <;> omega) rfl rfl ?_
     obtain ⟨v361, h362, hq363⟩ := (h2.sl).cutT_l (P := Try.prog) Try.underlying53 Try.info63 rfl hk296
     refine dj_H 15 (v := v361) (by kernel_rfl) (by kernel_rfl) rfl (fun _ _ _ h => h) (sj_refl hb.bd rfl rfl) (fun w1 ρ1 hw1 => hq363 w1 rfl rfl) (by decide) ?_
     refine dj_E 5 (by kernel_rfl) rfl ?_
     have jt364 : Tr ρ315 w313 (fun t => ([20, 100] : List Nat).contains t) ρ315 w313 := (Tr.refl hb.bd).weak (fun _ _ => rfl) rfl rfl
     refine sr_ev (v := v1) (ev_load Try.isAgg53 rfl (hB3.cell rfl)) (by decide) ?_
     refine dj_next (l' := [(17, .pointer (some ⟨gc_0, 0, none⟩)), (18, v311), (22, v1), (23, .int .i64 y10), (32, v361)]) rfl (.cons rfl (.cons rfl (.cons rfl (.cons rfl (.cons rfl (.nil _)))))) jt364 (by intro t h; simp [rng] at h ⊢ <;> omega) rfl rfl ?_
     obtain ⟨v365, h366, hq367⟩ := (h2.sl).cutT_h (P := Try.prog) Try.underlying53 Try.info63 rfl hk284
     refine dj_H 7 (v := v365) (by kernel_rfl) (by kernel_rfl) rfl (fun _ _ _ h => h) (sj_refl hb.bd rfl rfl) (fun w1 ρ1 hw1 => hq367 w1 rfl rfl) (by decide) ?_
     refine dj_E 8 (by kernel_rfl) rfl ?_
     have jt368 : Tr ρ315 w313 (fun t => ([20, 100] : List Nat).contains t) ρ315 w313 := (Tr.refl hb.bd).weak (fun _ _ => rfl) rfl rfl
     refine sr_appendT (i := 20) (c := ref32_pair.c) (ρ := ρ315) (E := 63) (xs := ([] : List ref32_pair)) (ys := cut c_0.pairs 0 y10) h312 (h366).x Try.underlying53 Try.info63 rfl rfl rfl (by decide) (by decide) (by decide) hb.bd hk289 rfl rfl (by decide) ?_
     intro v369 ρ371 w372 h370 htr373
     replace h362 := h362.mv (htr373.mv (i := 101) rfl)
     replace hB3 := hB3.mv (htr373.mv (i := 100) rfl)
     replace h2 := h2.mv (htr373.mv (i := 101) rfl) (by decide)
     replace hb := hb.trans htr373
     replace jt368 := (jt368.trans htr373).weak (J' := (fun t => ([20, 100] : List Nat).contains t)) (by intro t h; simp [rng] at h ⊢ <;> omega) rfl rfl
     refine dj_next (l' := [(17, .pointer (some ⟨gc_0, 0, none⟩)), (25, v369), (32, v361)]) rfl (.cons rfl (.cons rfl (.cons rfl (.nil _)))) jt368 (by intro t h; simp [rng] at h ⊢ <;> omega) rfl rfl ?_
     refine dj_E 16 (by kernel_rfl) rfl ?_
     have jt374 : Tr ρ371 w372 (fun t => ([20, 100] : List Nat).contains t) ρ371 w372 := (Tr.refl hb.bd).weak (fun _ _ => rfl) rfl rfl
     refine sr_appendT (i := 20) (c := ref32_pair.c) (ρ := ρ371) (E := 63) (xs := ([] : List ref32_pair) ++ (cut c_0.pairs 0 y10)) (ys := cut c_0.pairs (IntKind.i64.wrap (y10 + 1)) c_0.pairs.length) h370 (h362).x Try.underlying53 Try.info63 rfl rfl rfl (by decide) (by decide) (by decide) hb.bd hk301 rfl rfl (by decide) ?_
     intro v375 ρ377 w378 h376 htr379
     replace hB3 := hB3.mv (htr379.mv (i := 100) rfl)
     replace h2 := h2.mv (htr379.mv (i := 101) rfl) (by decide)
     replace hb := hb.trans htr379
     replace jt374 := (jt374.trans htr379).weak (J' := (fun t => ([20, 100] : List Nat).contains t)) (by intro t h; simp [rng] at h ⊢ <;> omega) rfl rfl
     refine dj_next (l' := [(17, .pointer (some ⟨gc_0, 0, none⟩)), (33, v375)]) rfl (.cons rfl (.cons rfl (.nil _))) jt374 (by intro t h; simp [rng] at h ⊢ <;> omega) rfl rfl ?_
     refine dj_H 17 (v := .pointer (some ⟨gc_0, 0, none⟩)) (by kernel_rfl) (by kernel_rfl) rfl (fun _ _ _ h => h) (sj_refl hb.bd rfl rfl) (fun w1 ρ1 hw1 => ev_nilCheck rfl) (by decide) ?_
     refine dj_H 18 (v := .pointer (some ⟨gc_0, 1, none⟩)) (by kernel_rfl) (by kernel_rfl) rfl (fun _ _ _ h => h) (sj_refl hb.bd rfl rfl) (fun w1 ρ1 hw1 => ev_fieldAddr (i := 1) Try.underlying55 rfl Try.info53 rfl rfl) (by decide) ?_
     refine dj_E 19 (by kernel_rfl) rfl ?_
     have jt380 : Tr ρ377 w378 (fun t => ([20, 100] : List Nat).contains t) ρ377 w378 := (Tr.refl hb.bd).weak (fun _ _ => rfl) rfl rfl
     refine sr_storeT (v := v375) (vs := [v375]) (cs' := #[.bool c_0.made, v375]) hB3 (by decide) hb.bd rfl rfl (one_cells (OwnT.oneCell h376)) Try.sizeOf53 rfl (by first | rfl | (simp only [List.all_cons, List.all_nil, OwnT.oneCell h376]; done) | (simp only [List.all_cons, List.all_nil, OwnT.oneCell h376]; rfl)) rfl ?_
     intro w381 hB31 htr382
     replace h376 := h376.mv (htr382.mv (i := 20) rfl) (by decide)
     replace hb := hb.trans htr382
     replace jt380 := (jt380.trans htr382).weak (J' := (fun t => ([20, 100] : List Nat).contains t)) (by intro t h; simp [rng] at h ⊢ <;> omega) rfl rfl
     replace hB3 : Blk ρ377 100 w381 gc_0 (.cells #[.bool c_0.made, v375] 55 (0, 0)) := hB31
     clear hB31
     refine dj_next (l' := []) rfl (.nil _) jt380 (by intro t h; simp [rng] at h ⊢ <;> omega) rfl rfl ?_
     refine dj_done rfl (by kernel_rfl) ?_
     refine ke_weaken (l' := []) (.nil _) ?_
     have hK := ref32_Consents_Revoke_B1_ok hg hbd ho2 hz hS hb h376 hB3
     exact ke_weaken (l' := []) (.nil _) hK
   ·refine ⟨_, rfl, ?_⟩
    have jt383 : Tr (enter ρA o 2) w17 (fun t => ([20, 100] : List Nat).contains t) (enter ρA o 2) w17 := (Tr.refl hb.bd).weak (fun _ _ => rfl) rfl rfl
    refine sr_ev (v := v1) (ev_load Try.isAgg53 rfl (hB3.cell rfl)) (by decide) ?_
    refine dj_next (l' := [(17, .pointer (some ⟨gc_0, 0, none⟩)), (22, v1), (23, .int .i64 y10), (28, .pointer (some ⟨gc_0, 1, none⟩)), (31, .int .i64 (IntKind.i64.wrap (y10 + 1)))]) rfl (.cons rfl (.cons rfl (.cons rfl (.cons rfl (.cons rfl (.nil _)))))) jt383 (by intro t h; simp [rng] at h ⊢ <;> omega) rfl rfl ?_
    obtain ⟨v384, h385, hq386⟩ := (h2.sl).cutT_h (P := Try.prog) Try.underlying53 Try.info63 rfl hk284
    refine dj_H 7 (v := v384) (by kernel_rfl) (by kernel_rfl) rfl (fun _ _ _ h => h) (sj_refl hb.bd rfl rfl) (fun w1 ρ1 hw1 => hq386 w1 rfl rfl) (by decide) ?_
    refine dj_all [1, 12] (by kernel_rfl) (fun i hi => ?_)
    simp only [List.mem_cons, List.not_mem_nil, or_false] at hi
    rcases hi with rfl | rfl
    ·refine ⟨_, rfl, ?_⟩
     have jt387 : Tr (enter ρA o 2) w17 (fun t => ([20, 100] : List Nat).contains t) (enter ρA o 2) w17 := (Tr.refl hb.bd).weak (fun _ _ => rfl) rfl rfl
     refine sr_litOwnT (i := 20) (c := ref32_pair.c) (ρ := (enter ρA o 2)) (E := 63) (xs := []) (vs := #[]) (cs := #[]) (css := []) rfl (fun _ => by kernel_rfl) rfl trivial rfl (by decide) (by decide) hb.bd (by decide) ?_
     intro v388 ρ392 w390 h389 htr391
     replace h385 := h385.mv (htr391.mv (i := 101) rfl)
     replace hB3 := hB3.mv (htr391.mv (i := 100) rfl)
     replace h2 := h2.mv (htr391.mv (i := 101) rfl) (by decide)
     replace hb := hb.trans htr391
     replace jt387 := (jt387.trans htr391).weak (J' := (fun t => ([20, 100] : List Nat).contains t)) (by intro t h; simp [rng] at h ⊢ <;> omega) rfl rfl
     refine dj_next (l' := [(17, .pointer (some ⟨gc_0, 0, none⟩)), (18, v388), (24, v384), (28, .pointer (some ⟨gc_0, 1, none⟩)), (31, .int .i64 (IntKind.i64.wrap (y10 + 1)))]) rfl (.cons rfl (.cons rfl (.cons rfl (.cons rfl (.cons rfl (.nil _)))))) jt387 (by intro t h; simp [rng] at h ⊢ <;> omega) rfl rfl ?_
     refine dj_all [8, 12] (by kernel_rfl) (fun i hi => ?_)
     simp only [List.mem_cons, List.not_mem_nil, or_false] at hi
     rcases hi with rfl | rfl
     ·refine ⟨_, rfl, ?_⟩
      have jt393 : Tr ρ392 w390 (fun t => ([20, 100] : List Nat).contains t) ρ392 w390 := (Tr.refl hb.bd).weak (fun _ _ => rfl) rfl rfl
      refine sr_appendT (i := 20) (c := ref32_pair.c) (ρ := ρ392) (E := 63) (xs := ([] : List ref32_pair)) (ys := cut c_0.pairs 0 y10) h389 (h385).x Try.underlying53 Try.info63 rfl rfl rfl (by decide) (by decide) (by decide) hb.bd hk289 rfl rfl (by decide) ?_
      intro v394 ρ396 w397 h395 htr398
      replace hB3 := hB3.mv (htr398.mv (i := 100) rfl)
      replace h2 := h2.mv (htr398.mv (i := 101) rfl) (by decide)
      replace hb := hb.trans htr398
      replace jt393 := (jt393.trans htr398).weak (J' := (fun t => ([20, 100] : List Nat).contains t)) (by intro t h; simp [rng] at h ⊢ <;> omega) rfl rfl
      refine dj_next (l' := [(17, .pointer (some ⟨gc_0, 0, none⟩)), (25, v394), (28, .pointer (some ⟨gc_0, 1, none⟩)), (31, .int .i64 (IntKind.i64.wrap (y10 + 1)))]) rfl (.cons rfl (.cons rfl (.cons rfl (.cons rfl (.nil _))))) jt393 (by intro t h; simp [rng] at h ⊢ <;> omega) rfl rfl ?_
      refine dj_E 12 (by kernel_rfl) rfl ?_
      have jt399 : Tr ρ396 w397 (fun t => ([20, 100] : List Nat).contains t) ρ396 w397 := (Tr.refl hb.bd).weak (fun _ _ => rfl) rfl rfl
      refine sr_ev (v := v1) (ev_load Try.isAgg53 rfl (hB3.cell rfl)) (by decide) ?_
      refine dj_next (l' := [(17, .pointer (some ⟨gc_0, 0, none⟩)), (25, v394), (29, v1), (31, .int .i64 (IntKind.i64.wrap (y10 + 1)))]) rfl (.cons rfl (.cons rfl (.cons rfl (.cons rfl (.nil _))))) jt399 (by intro t h; simp [rng] at h ⊢ <;> omega) rfl rfl ?_
      obtain ⟨v400, h401, hq402⟩ := (h2.sl).cutT_l (P := Try.prog) Try.underlying53 Try.info63 rfl hk296
      refine dj_H 15 (v := v400) (by kernel_rfl) (by kernel_rfl) rfl (fun _ _ _ h => h) (sj_refl hb.bd rfl rfl) (fun w1 ρ1 hw1 => hq402 w1 rfl rfl) (by decide) ?_
      refine dj_E 16 (by kernel_rfl) rfl ?_
      have jt403 : Tr ρ396 w397 (fun t => ([20, 100] : List Nat).contains t) ρ396 w397 := (Tr.refl hb.bd).weak (fun _ _ => rfl) rfl rfl
      refine sr_appendT (i := 20) (c := ref32_pair.c) (ρ := ρ396) (E := 63) (xs := ([] : List ref32_pair) ++ (cut c_0.pairs 0 y10)) (ys := cut c_0.pairs (IntKind.i64.wrap (y10 + 1)) c_0.pairs.length) h395 (h401).x Try.underlying53 Try.info63 rfl rfl rfl (by decide) (by decide) (by decide) hb.bd hk301 rfl rfl (by decide) ?_
      intro v404 ρ406 w407 h405 htr408
      replace hB3 := hB3.mv (htr408.mv (i := 100) rfl)
      replace h2 := h2.mv (htr408.mv (i := 101) rfl) (by decide)
      replace hb := hb.trans htr408
      replace jt403 := (jt403.trans htr408).weak (J' := (fun t => ([20, 100] : List Nat).contains t)) (by intro t h; simp [rng] at h ⊢ <;> omega) rfl rfl
      refine dj_next (l' := [(17, .pointer (some ⟨gc_0, 0, none⟩)), (33, v404)]) rfl (.cons rfl (.cons rfl (.nil _))) jt403 (by intro t h; simp [rng] at h ⊢ <;> omega) rfl rfl ?_
      refine dj_H 17 (v := .pointer (some ⟨gc_0, 0, none⟩)) (by kernel_rfl) (by kernel_rfl) rfl (fun _ _ _ h => h) (sj_refl hb.bd rfl rfl) (fun w1 ρ1 hw1 => ev_nilCheck rfl) (by decide) ?_
      refine dj_H 18 (v := .pointer (some ⟨gc_0, 1, none⟩)) (by kernel_rfl) (by kernel_rfl) rfl (fun _ _ _ h => h) (sj_refl hb.bd rfl rfl) (fun w1 ρ1 hw1 => ev_fieldAddr (i := 1) Try.underlying55 rfl Try.info53 rfl rfl) (by decide) ?_
      refine dj_E 19 (by kernel_rfl) rfl ?_
      have jt409 : Tr ρ406 w407 (fun t => ([20, 100] : List Nat).contains t) ρ406 w407 := (Tr.refl hb.bd).weak (fun _ _ => rfl) rfl rfl
      refine sr_storeT (v := v404) (vs := [v404]) (cs' := #[.bool c_0.made, v404]) hB3 (by decide) hb.bd rfl rfl (one_cells (OwnT.oneCell h405)) Try.sizeOf53 rfl (by first | rfl | (simp only [List.all_cons, List.all_nil, OwnT.oneCell h405]; done) | (simp only [List.all_cons, List.all_nil, OwnT.oneCell h405]; rfl)) rfl ?_
      intro w410 hB31 htr411
      replace h405 := h405.mv (htr411.mv (i := 20) rfl) (by decide)
      replace hb := hb.trans htr411
      replace jt409 := (jt409.trans htr411).weak (J' := (fun t => ([20, 100] : List Nat).contains t)) (by intro t h; simp [rng] at h ⊢ <;> omega) rfl rfl
      replace hB3 : Blk ρ406 100 w410 gc_0 (.cells #[.bool c_0.made, v404] 55 (0, 0)) := hB31
      clear hB31
      refine dj_next (l' := []) rfl (.nil _) jt409 (by intro t h; simp [rng] at h ⊢ <;> omega) rfl rfl ?_
      refine dj_done rfl (by kernel_rfl) ?_
      refine ke_weaken (l' := []) (.nil _) ?_
      have hK := ref32_Consents_Revoke_B1_ok hg hbd ho2 hz hS hb h405 hB3
      exact ke_weaken (l' := []) (.nil _) hK
     ·refine ⟨_, rfl, ?_⟩
      have jt412 : Tr ρ392 w390 (fun t => ([20, 100] : List Nat).contains t) ρ392 w390 := (Tr.refl hb.bd).weak (fun _ _ => rfl) rfl rfl
      refine sr_ev (v := v1) (ev_load Try.isAgg53 rfl (hB3.cell rfl)) (by decide) ?_
      refine dj_next (l' := [(17, .pointer (some ⟨gc_0, 0, none⟩)), (18, v388), (24, v384), (29, v1), (31, .int .i64 (IntKind.i64.wrap (y10 + 1)))]) rfl (.cons rfl (.cons rfl (.cons rfl (.cons rfl (.cons rfl (.nil _)))))) jt412 (by intro t h; simp [rng] at h ⊢ <;> omega) rfl rfl ?_
      obtain ⟨v413, h414, hq415⟩ := (h2.sl).cutT_l (P := Try.prog) Try.underlying53 Try.info63 rfl hk296
      refine dj_H 15 (v := v413) (by kernel_rfl) (by kernel_rfl) rfl (fun _ _ _ h => h) (sj_refl hb.bd rfl rfl) (fun w1 ρ1 hw1 => hq415 w1 rfl rfl) (by decide) ?_
      refine dj_E 8 (by kernel_rfl) rfl ?_
      have jt416 : Tr ρ392 w390 (fun t => ([20, 100] : List Nat).contains t) ρ392 w390 := (Tr.refl hb.bd).weak (fun _ _ => rfl) rfl rfl
      refine sr_appendT (i := 20) (c := ref32_pair.c) (ρ := ρ392) (E := 63) (xs := ([] : List ref32_pair)) (ys := cut c_0.pairs 0 y10) h389 (h385).x Try.underlying53 Try.info63 rfl rfl rfl (by decide) (by decide) (by decide) hb.bd hk289 rfl rfl (by decide) ?_
      intro v417 ρ419 w420 h418 htr421
      replace h414 := h414.mv (htr421.mv (i := 101) rfl)
      replace hB3 := hB3.mv (htr421.mv (i := 100) rfl)
      replace h2 := h2.mv (htr421.mv (i := 101) rfl) (by decide)
      replace hb := hb.trans htr421
      replace jt416 := (jt416.trans htr421).weak (J' := (fun t => ([20, 100] : List Nat).contains t)) (by intro t h; simp [rng] at h ⊢ <;> omega) rfl rfl
      refine dj_next (l' := [(17, .pointer (some ⟨gc_0, 0, none⟩)), (25, v417), (32, v413)]) rfl (.cons rfl (.cons rfl (.cons rfl (.nil _)))) jt416 (by intro t h; simp [rng] at h ⊢ <;> omega) rfl rfl ?_
      refine dj_E 16 (by kernel_rfl) rfl ?_
      have jt422 : Tr ρ419 w420 (fun t => ([20, 100] : List Nat).contains t) ρ419 w420 := (Tr.refl hb.bd).weak (fun _ _ => rfl) rfl rfl
      refine sr_appendT (i := 20) (c := ref32_pair.c) (ρ := ρ419) (E := 63) (xs := ([] : List ref32_pair) ++ (cut c_0.pairs 0 y10)) (ys := cut c_0.pairs (IntKind.i64.wrap (y10 + 1)) c_0.pairs.length) h418 (h414).x Try.underlying53 Try.info63 rfl rfl rfl (by decide) (by decide) (by decide) hb.bd hk301 rfl rfl (by decide) ?_
      intro v423 ρ425 w426 h424 htr427
      replace hB3 := hB3.mv (htr427.mv (i := 100) rfl)
      replace h2 := h2.mv (htr427.mv (i := 101) rfl) (by decide)
      replace hb := hb.trans htr427
      replace jt422 := (jt422.trans htr427).weak (J' := (fun t => ([20, 100] : List Nat).contains t)) (by intro t h; simp [rng] at h ⊢ <;> omega) rfl rfl
      refine dj_next (l' := [(17, .pointer (some ⟨gc_0, 0, none⟩)), (33, v423)]) rfl (.cons rfl (.cons rfl (.nil _))) jt422 (by intro t h; simp [rng] at h ⊢ <;> omega) rfl rfl ?_
      refine dj_H 17 (v := .pointer (some ⟨gc_0, 0, none⟩)) (by kernel_rfl) (by kernel_rfl) rfl (fun _ _ _ h => h) (sj_refl hb.bd rfl rfl) (fun w1 ρ1 hw1 => ev_nilCheck rfl) (by decide) ?_
      refine dj_H 18 (v := .pointer (some ⟨gc_0, 1, none⟩)) (by kernel_rfl) (by kernel_rfl) rfl (fun _ _ _ h => h) (sj_refl hb.bd rfl rfl) (fun w1 ρ1 hw1 => ev_fieldAddr (i := 1) Try.underlying55 rfl Try.info53 rfl rfl) (by decide) ?_
      refine dj_E 19 (by kernel_rfl) rfl ?_
      have jt428 : Tr ρ425 w426 (fun t => ([20, 100] : List Nat).contains t) ρ425 w426 := (Tr.refl hb.bd).weak (fun _ _ => rfl) rfl rfl
      refine sr_storeT (v := v423) (vs := [v423]) (cs' := #[.bool c_0.made, v423]) hB3 (by decide) hb.bd rfl rfl (one_cells (OwnT.oneCell h424)) Try.sizeOf53 rfl (by first | rfl | (simp only [List.all_cons, List.all_nil, OwnT.oneCell h424]; done) | (simp only [List.all_cons, List.all_nil, OwnT.oneCell h424]; rfl)) rfl ?_
      intro w429 hB31 htr430
      replace h424 := h424.mv (htr430.mv (i := 20) rfl) (by decide)
      replace hb := hb.trans htr430
      replace jt428 := (jt428.trans htr430).weak (J' := (fun t => ([20, 100] : List Nat).contains t)) (by intro t h; simp [rng] at h ⊢ <;> omega) rfl rfl
      replace hB3 : Blk ρ425 100 w429 gc_0 (.cells #[.bool c_0.made, v423] 55 (0, 0)) := hB31
      clear hB31
      refine dj_next (l' := []) rfl (.nil _) jt428 (by intro t h; simp [rng] at h ⊢ <;> omega) rfl rfl ?_
      refine dj_done rfl (by kernel_rfl) ?_
      refine ke_weaken (l' := []) (.nil _) ?_
      have hK := ref32_Consents_Revoke_B1_ok hg hbd ho2 hz hS hb h424 hB3
      exact ke_weaken (l' := []) (.nil _) hK
    ·refine ⟨_, rfl, ?_⟩
     have jt431 : Tr (enter ρA o 2) w17 (fun t => ([20, 100] : List Nat).contains t) (enter ρA o 2) w17 := (Tr.refl hb.bd).weak (fun _ _ => rfl) rfl rfl
     refine sr_ev (v := v1) (ev_load Try.isAgg53 rfl (hB3.cell rfl)) (by decide) ?_
     refine dj_next (l' := [(17, .pointer (some ⟨gc_0, 0, none⟩)), (24, v384), (29, v1), (31, .int .i64 (IntKind.i64.wrap (y10 + 1)))]) rfl (.cons rfl (.cons rfl (.cons rfl (.cons rfl (.nil _))))) jt431 (by intro t h; simp [rng] at h ⊢ <;> omega) rfl rfl ?_
     obtain ⟨v432, h433, hq434⟩ := (h2.sl).cutT_l (P := Try.prog) Try.underlying53 Try.info63 rfl hk296
     refine dj_H 15 (v := v432) (by kernel_rfl) (by kernel_rfl) rfl (fun _ _ _ h => h) (sj_refl hb.bd rfl rfl) (fun w1 ρ1 hw1 => hq434 w1 rfl rfl) (by decide) ?_
     refine dj_E 1 (by kernel_rfl) rfl ?_
     have jt435 : Tr (enter ρA o 2) w17 (fun t => ([20, 100] : List Nat).contains t) (enter ρA o 2) w17 := (Tr.refl hb.bd).weak (fun _ _ => rfl) rfl rfl
     refine sr_litOwnT (i := 20) (c := ref32_pair.c) (ρ := (enter ρA o 2)) (E := 63) (xs := []) (vs := #[]) (cs := #[]) (css := []) rfl (fun _ => by kernel_rfl) rfl trivial rfl (by decide) (by decide) hb.bd (by decide) ?_
     intro v436 ρ440 w438 h437 htr439
     replace h385 := h385.mv (htr439.mv (i := 101) rfl)
     replace h433 := h433.mv (htr439.mv (i := 101) rfl)
     replace hB3 := hB3.mv (htr439.mv (i := 100) rfl)
     replace h2 := h2.mv (htr439.mv (i := 101) rfl) (by decide)
     replace hb := hb.trans htr439
     replace jt435 := (jt435.trans htr439).weak (J' := (fun t => ([20, 100] : List Nat).contains t)) (by intro t h; simp [rng] at h ⊢ <;> omega) rfl rfl
     refine dj_next (l' := [(17, .pointer (some ⟨gc_0, 0, none⟩)), (18, v436), (24, v384), (32, v432)]) rfl (.cons rfl (.cons rfl (.cons rfl (.cons rfl (.nil _))))) jt435 (by intro t h; simp [rng] at h ⊢ <;> omega) rfl rfl ?_
     refine dj_E 8 (by kernel_rfl) rfl ?_
     have jt441 : Tr ρ440 w438 (fun t => ([20, 100] : List Nat).contains t) ρ440 w438 := (Tr.refl hb.bd).weak (fun _ _ => rfl) rfl rfl
     refine sr_appendT (i := 20) (c := ref32_pair.c) (ρ := ρ440) (E := 63) (xs := ([] : List ref32_pair)) (ys := cut c_0.pairs 0 y10) h437 (h385).x Try.underlying53 Try.info63 rfl rfl rfl (by decide) (by decide) (by decide) hb.bd hk289 rfl rfl (by decide) ?_
     intro v442 ρ444 w445 h443 htr446
     replace h433 := h433.mv (htr446.mv (i := 101) rfl)
     replace hB3 := hB3.mv (htr446.mv (i := 100) rfl)
     replace h2 := h2.mv (htr446.mv (i := 101) rfl) (by decide)
     replace hb := hb.trans htr446
     replace jt441 := (jt441.trans htr446).weak (J' := (fun t => ([20, 100] : List Nat).contains t)) (by intro t h; simp [rng] at h ⊢ <;> omega) rfl rfl
     refine dj_next (l' := [(17, .pointer (some ⟨gc_0, 0, none⟩)), (25, v442), (32, v432)]) rfl (.cons rfl (.cons rfl (.cons rfl (.nil _)))) jt441 (by intro t h; simp [rng] at h ⊢ <;> omega) rfl rfl ?_
     refine dj_E 16 (by kernel_rfl) rfl ?_
     have jt447 : Tr ρ444 w445 (fun t => ([20, 100] : List Nat).contains t) ρ444 w445 := (Tr.refl hb.bd).weak (fun _ _ => rfl) rfl rfl
     refine sr_appendT (i := 20) (c := ref32_pair.c) (ρ := ρ444) (E := 63) (xs := ([] : List ref32_pair) ++ (cut c_0.pairs 0 y10)) (ys := cut c_0.pairs (IntKind.i64.wrap (y10 + 1)) c_0.pairs.length) h443 (h433).x Try.underlying53 Try.info63 rfl rfl rfl (by decide) (by decide) (by decide) hb.bd hk301 rfl rfl (by decide) ?_
     intro v448 ρ450 w451 h449 htr452
     replace hB3 := hB3.mv (htr452.mv (i := 100) rfl)
     replace h2 := h2.mv (htr452.mv (i := 101) rfl) (by decide)
     replace hb := hb.trans htr452
     replace jt447 := (jt447.trans htr452).weak (J' := (fun t => ([20, 100] : List Nat).contains t)) (by intro t h; simp [rng] at h ⊢ <;> omega) rfl rfl
     refine dj_next (l' := [(17, .pointer (some ⟨gc_0, 0, none⟩)), (33, v448)]) rfl (.cons rfl (.cons rfl (.nil _))) jt447 (by intro t h; simp [rng] at h ⊢ <;> omega) rfl rfl ?_
     refine dj_H 17 (v := .pointer (some ⟨gc_0, 0, none⟩)) (by kernel_rfl) (by kernel_rfl) rfl (fun _ _ _ h => h) (sj_refl hb.bd rfl rfl) (fun w1 ρ1 hw1 => ev_nilCheck rfl) (by decide) ?_
     refine dj_H 18 (v := .pointer (some ⟨gc_0, 1, none⟩)) (by kernel_rfl) (by kernel_rfl) rfl (fun _ _ _ h => h) (sj_refl hb.bd rfl rfl) (fun w1 ρ1 hw1 => ev_fieldAddr (i := 1) Try.underlying55 rfl Try.info53 rfl rfl) (by decide) ?_
     refine dj_E 19 (by kernel_rfl) rfl ?_
     have jt453 : Tr ρ450 w451 (fun t => ([20, 100] : List Nat).contains t) ρ450 w451 := (Tr.refl hb.bd).weak (fun _ _ => rfl) rfl rfl
     refine sr_storeT (v := v448) (vs := [v448]) (cs' := #[.bool c_0.made, v448]) hB3 (by decide) hb.bd rfl rfl (one_cells (OwnT.oneCell h449)) Try.sizeOf53 rfl (by first | rfl | (simp only [List.all_cons, List.all_nil, OwnT.oneCell h449]; done) | (simp only [List.all_cons, List.all_nil, OwnT.oneCell h449]; rfl)) rfl ?_
     intro w454 hB31 htr455
     replace h449 := h449.mv (htr455.mv (i := 20) rfl) (by decide)
     replace hb := hb.trans htr455
     replace jt453 := (jt453.trans htr455).weak (J' := (fun t => ([20, 100] : List Nat).contains t)) (by intro t h; simp [rng] at h ⊢ <;> omega) rfl rfl
     replace hB3 : Blk ρ450 100 w454 gc_0 (.cells #[.bool c_0.made, v448] 55 (0, 0)) := hB31
     clear hB31
     refine dj_next (l' := []) rfl (.nil _) jt453 (by intro t h; simp [rng] at h ⊢ <;> omega) rfl rfl ?_
     refine dj_done rfl (by kernel_rfl) ?_
     refine ke_weaken (l' := []) (.nil _) ?_
     have hK := ref32_Consents_Revoke_B1_ok hg hbd ho2 hz hS hb h449 hB3
     exact ke_weaken (l' := []) (.nil _) hK
   ·refine ⟨_, rfl, ?_⟩
    have jt456 : Tr (enter ρA o 2) w17 (fun t => ([20, 100] : List Nat).contains t) (enter ρA o 2) w17 := (Tr.refl hb.bd).weak (fun _ _ => rfl) rfl rfl
    refine sr_ev (v := v1) (ev_load Try.isAgg53 rfl (hB3.cell rfl)) (by decide) ?_
    refine dj_next (l' := [(17, .pointer (some ⟨gc_0, 0, none⟩)), (21, .pointer (some ⟨gc_0, 1, none⟩)), (23, .int .i64 y10), (29, v1), (31, .int .i64 (IntKind.i64.wrap (y10 + 1)))]) rfl (.cons rfl (.cons rfl (.cons rfl (.cons rfl (.cons rfl (.nil _)))))) jt456 (by intro t h; simp [rng] at h ⊢ <;> omega) rfl rfl ?_
    obtain ⟨v457, h458, hq459⟩ := (h2.sl).cutT_l (P := Try.prog) Try.underlying53 Try.info63 rfl hk296
    refine dj_H 15 (v := v457) (by kernel_rfl) (by kernel_rfl) rfl (fun _ _ _ h => h) (sj_refl hb.bd rfl rfl) (fun w1 ρ1 hw1 => hq459 w1 rfl rfl) (by decide) ?_
    refine dj_all [1, 5] (by kernel_rfl) (fun i hi => ?_)
    simp only [List.mem_cons, List.not_mem_nil, or_false] at hi
    rcases hi with rfl | rfl
    ·refine ⟨_, rfl, ?_⟩
     have jt460 : Tr (enter ρA o 2) w17 (fun t => ([20, 100] : List Nat).contains t) (enter ρA o 2) w17 := (Tr.refl hb.bd).weak (fun _ _ => rfl) rfl rfl
     refine sr_litOwnT (i := 20) (c := ref32_pair.c) (ρ := (enter ρA o 2)) (E := 63) (xs := []) (vs := #[]) (cs := #[]) (css := []) rfl (fun _ => by kernel_rfl) rfl trivial rfl (by decide) (by decide) hb.bd (by decide) ?_
     intro v461 ρ465 w463 h462 htr464
     replace h458 := h458.mv (htr464.mv (i := 101) rfl)
     replace hB3 := hB3.mv (htr464.mv (i := 100) rfl)
     replace h2 := h2.mv (htr464.mv (i := 101) rfl) (by decide)
     replace hb := hb.trans htr464
     replace jt460 := (jt460.trans htr464).weak (J' := (fun t => ([20, 100] : List Nat).contains t)) (by intro t h; simp [rng] at h ⊢ <;> omega) rfl rfl
     refine dj_next (l' := [(17, .pointer (some ⟨gc_0, 0, none⟩)), (18, v461), (21, .pointer (some ⟨gc_0, 1, none⟩)), (23, .int .i64 y10), (32, v457)]) rfl (.cons rfl (.cons rfl (.cons rfl (.cons rfl (.cons rfl (.nil _)))))) jt460 (by intro t h; simp [rng] at h ⊢ <;> omega) rfl rfl ?_
     refine dj_E 5 (by kernel_rfl) rfl ?_
     have jt466 : Tr ρ465 w463 (fun t => ([20, 100] : List Nat).contains t) ρ465 w463 := (Tr.refl hb.bd).weak (fun _ _ => rfl) rfl rfl
     refine sr_ev (v := v1) (ev_load Try.isAgg53 rfl (hB3.cell rfl)) (by decide) ?_
     refine dj_next (l' := [(17, .pointer (some ⟨gc_0, 0, none⟩)), (18, v461), (22, v1), (23, .int .i64 y10), (32, v457)]) rfl (.cons rfl (.cons rfl (.cons rfl (.cons rfl (.cons rfl (.nil _)))))) jt466 (by intro t h; simp [rng] at h ⊢ <;> omega) rfl rfl ?_
     obtain ⟨v467, h468, hq469⟩ := (h2.sl).cutT_h (P := Try.prog) Try.underlying53 Try.info63 rfl hk284
     refine dj_H 7 (v := v467) (by kernel_rfl) (by kernel_rfl) rfl (fun _ _ _ h => h) (sj_refl hb.bd rfl rfl) (fun w1 ρ1 hw1 => hq469 w1 rfl rfl) (by decide) ?_
     refine dj_E 8 (by kernel_rfl) rfl ?_
     have jt470 : Tr ρ465 w463 (fun t => ([20, 100] : List Nat).contains t) ρ465 w463 := (Tr.refl hb.bd).weak (fun _ _ => rfl) rfl rfl
     refine sr_appendT (i := 20) (c := ref32_pair.c) (ρ := ρ465) (E := 63) (xs := ([] : List ref32_pair)) (ys := cut c_0.pairs 0 y10) h462 (h468).x Try.underlying53 Try.info63 rfl rfl rfl (by decide) (by decide) (by decide) hb.bd hk289 rfl rfl (by decide) ?_
     intro v471 ρ473 w474 h472 htr475
     replace h458 := h458.mv (htr475.mv (i := 101) rfl)
     replace hB3 := hB3.mv (htr475.mv (i := 100) rfl)
     replace h2 := h2.mv (htr475.mv (i := 101) rfl) (by decide)
     replace hb := hb.trans htr475
     replace jt470 := (jt470.trans htr475).weak (J' := (fun t => ([20, 100] : List Nat).contains t)) (by intro t h; simp [rng] at h ⊢ <;> omega) rfl rfl
     refine dj_next (l' := [(17, .pointer (some ⟨gc_0, 0, none⟩)), (25, v471), (32, v457)]) rfl (.cons rfl (.cons rfl (.cons rfl (.nil _)))) jt470 (by intro t h; simp [rng] at h ⊢ <;> omega) rfl rfl ?_
     refine dj_E 16 (by kernel_rfl) rfl ?_
     have jt476 : Tr ρ473 w474 (fun t => ([20, 100] : List Nat).contains t) ρ473 w474 := (Tr.refl hb.bd).weak (fun _ _ => rfl) rfl rfl
     refine sr_appendT (i := 20) (c := ref32_pair.c) (ρ := ρ473) (E := 63) (xs := ([] : List ref32_pair) ++ (cut c_0.pairs 0 y10)) (ys := cut c_0.pairs (IntKind.i64.wrap (y10 + 1)) c_0.pairs.length) h472 (h458).x Try.underlying53 Try.info63 rfl rfl rfl (by decide) (by decide) (by decide) hb.bd hk301 rfl rfl (by decide) ?_
     intro v477 ρ479 w480 h478 htr481
     replace hB3 := hB3.mv (htr481.mv (i := 100) rfl)
     replace h2 := h2.mv (htr481.mv (i := 101) rfl) (by decide)
     replace hb := hb.trans htr481
     replace jt476 := (jt476.trans htr481).weak (J' := (fun t => ([20, 100] : List Nat).contains t)) (by intro t h; simp [rng] at h ⊢ <;> omega) rfl rfl
     refine dj_next (l' := [(17, .pointer (some ⟨gc_0, 0, none⟩)), (33, v477)]) rfl (.cons rfl (.cons rfl (.nil _))) jt476 (by intro t h; simp [rng] at h ⊢ <;> omega) rfl rfl ?_
     refine dj_H 17 (v := .pointer (some ⟨gc_0, 0, none⟩)) (by kernel_rfl) (by kernel_rfl) rfl (fun _ _ _ h => h) (sj_refl hb.bd rfl rfl) (fun w1 ρ1 hw1 => ev_nilCheck rfl) (by decide) ?_
     refine dj_H 18 (v := .pointer (some ⟨gc_0, 1, none⟩)) (by kernel_rfl) (by kernel_rfl) rfl (fun _ _ _ h => h) (sj_refl hb.bd rfl rfl) (fun w1 ρ1 hw1 => ev_fieldAddr (i := 1) Try.underlying55 rfl Try.info53 rfl rfl) (by decide) ?_
     refine dj_E 19 (by kernel_rfl) rfl ?_
     have jt482 : Tr ρ479 w480 (fun t => ([20, 100] : List Nat).contains t) ρ479 w480 := (Tr.refl hb.bd).weak (fun _ _ => rfl) rfl rfl
     refine sr_storeT (v := v477) (vs := [v477]) (cs' := #[.bool c_0.made, v477]) hB3 (by decide) hb.bd rfl rfl (one_cells (OwnT.oneCell h478)) Try.sizeOf53 rfl (by first | rfl | (simp only [List.all_cons, List.all_nil, OwnT.oneCell h478]; done) | (simp only [List.all_cons, List.all_nil, OwnT.oneCell h478]; rfl)) rfl ?_
     intro w483 hB31 htr484
     replace h478 := h478.mv (htr484.mv (i := 20) rfl) (by decide)
     replace hb := hb.trans htr484
     replace jt482 := (jt482.trans htr484).weak (J' := (fun t => ([20, 100] : List Nat).contains t)) (by intro t h; simp [rng] at h ⊢ <;> omega) rfl rfl
     replace hB3 : Blk ρ479 100 w483 gc_0 (.cells #[.bool c_0.made, v477] 55 (0, 0)) := hB31
     clear hB31
     refine dj_next (l' := []) rfl (.nil _) jt482 (by intro t h; simp [rng] at h ⊢ <;> omega) rfl rfl ?_
     refine dj_done rfl (by kernel_rfl) ?_
     refine ke_weaken (l' := []) (.nil _) ?_
     have hK := ref32_Consents_Revoke_B1_ok hg hbd ho2 hz hS hb h478 hB3
     exact ke_weaken (l' := []) (.nil _) hK
    ·refine ⟨_, rfl, ?_⟩
     have jt485 : Tr (enter ρA o 2) w17 (fun t => ([20, 100] : List Nat).contains t) (enter ρA o 2) w17 := (Tr.refl hb.bd).weak (fun _ _ => rfl) rfl rfl
     refine sr_ev (v := v1) (ev_load Try.isAgg53 rfl (hB3.cell rfl)) (by decide) ?_
     refine dj_next (l' := [(17, .pointer (some ⟨gc_0, 0, none⟩)), (22, v1), (23, .int .i64 y10), (32, v457)]) rfl (.cons rfl (.cons rfl (.cons rfl (.cons rfl (.nil _))))) jt485 (by intro t h; simp [rng] at h ⊢ <;> omega) rfl rfl ?_
     obtain ⟨v486, h487, hq488⟩ := (h2.sl).cutT_h (P := Try.prog) Try.underlying53 Try.info63 rfl hk284
     refine dj_H 7 (v := v486) (by kernel_rfl) (by kernel_rfl) rfl (fun _ _ _ h => h) (sj_refl hb.bd rfl rfl) (fun w1 ρ1 hw1 => hq488 w1 rfl rfl) (by decide) ?_
     refine dj_E 1 (by kernel_rfl) rfl ?_
     have jt489 : Tr (enter ρA o 2) w17 (fun t => ([20, 100] : List Nat).contains t) (enter ρA o 2) w17 := (Tr.refl hb.bd).weak (fun _ _ => rfl) rfl rfl
     refine sr_litOwnT (i := 20) (c := ref32_pair.c) (ρ := (enter ρA o 2)) (E := 63) (xs := []) (vs := #[]) (cs := #[]) (css := []) rfl (fun _ => by kernel_rfl) rfl trivial rfl (by decide) (by decide) hb.bd (by decide) ?_
     intro v490 ρ494 w492 h491 htr493
     replace h458 := h458.mv (htr493.mv (i := 101) rfl)
     replace h487 := h487.mv (htr493.mv (i := 101) rfl)
     replace hB3 := hB3.mv (htr493.mv (i := 100) rfl)
     replace h2 := h2.mv (htr493.mv (i := 101) rfl) (by decide)
     replace hb := hb.trans htr493
     replace jt489 := (jt489.trans htr493).weak (J' := (fun t => ([20, 100] : List Nat).contains t)) (by intro t h; simp [rng] at h ⊢ <;> omega) rfl rfl
     refine dj_next (l' := [(17, .pointer (some ⟨gc_0, 0, none⟩)), (18, v490), (24, v486), (32, v457)]) rfl (.cons rfl (.cons rfl (.cons rfl (.cons rfl (.nil _))))) jt489 (by intro t h; simp [rng] at h ⊢ <;> omega) rfl rfl ?_
     refine dj_E 8 (by kernel_rfl) rfl ?_
     have jt495 : Tr ρ494 w492 (fun t => ([20, 100] : List Nat).contains t) ρ494 w492 := (Tr.refl hb.bd).weak (fun _ _ => rfl) rfl rfl
     refine sr_appendT (i := 20) (c := ref32_pair.c) (ρ := ρ494) (E := 63) (xs := ([] : List ref32_pair)) (ys := cut c_0.pairs 0 y10) h491 (h487).x Try.underlying53 Try.info63 rfl rfl rfl (by decide) (by decide) (by decide) hb.bd hk289 rfl rfl (by decide) ?_
     intro v496 ρ498 w499 h497 htr500
     replace h458 := h458.mv (htr500.mv (i := 101) rfl)
     replace hB3 := hB3.mv (htr500.mv (i := 100) rfl)
     replace h2 := h2.mv (htr500.mv (i := 101) rfl) (by decide)
     replace hb := hb.trans htr500
     replace jt495 := (jt495.trans htr500).weak (J' := (fun t => ([20, 100] : List Nat).contains t)) (by intro t h; simp [rng] at h ⊢ <;> omega) rfl rfl
     refine dj_next (l' := [(17, .pointer (some ⟨gc_0, 0, none⟩)), (25, v496), (32, v457)]) rfl (.cons rfl (.cons rfl (.cons rfl (.nil _)))) jt495 (by intro t h; simp [rng] at h ⊢ <;> omega) rfl rfl ?_
     refine dj_E 16 (by kernel_rfl) rfl ?_
     have jt501 : Tr ρ498 w499 (fun t => ([20, 100] : List Nat).contains t) ρ498 w499 := (Tr.refl hb.bd).weak (fun _ _ => rfl) rfl rfl
     refine sr_appendT (i := 20) (c := ref32_pair.c) (ρ := ρ498) (E := 63) (xs := ([] : List ref32_pair) ++ (cut c_0.pairs 0 y10)) (ys := cut c_0.pairs (IntKind.i64.wrap (y10 + 1)) c_0.pairs.length) h497 (h458).x Try.underlying53 Try.info63 rfl rfl rfl (by decide) (by decide) (by decide) hb.bd hk301 rfl rfl (by decide) ?_
     intro v502 ρ504 w505 h503 htr506
     replace hB3 := hB3.mv (htr506.mv (i := 100) rfl)
     replace h2 := h2.mv (htr506.mv (i := 101) rfl) (by decide)
     replace hb := hb.trans htr506
     replace jt501 := (jt501.trans htr506).weak (J' := (fun t => ([20, 100] : List Nat).contains t)) (by intro t h; simp [rng] at h ⊢ <;> omega) rfl rfl
     refine dj_next (l' := [(17, .pointer (some ⟨gc_0, 0, none⟩)), (33, v502)]) rfl (.cons rfl (.cons rfl (.nil _))) jt501 (by intro t h; simp [rng] at h ⊢ <;> omega) rfl rfl ?_
     refine dj_H 17 (v := .pointer (some ⟨gc_0, 0, none⟩)) (by kernel_rfl) (by kernel_rfl) rfl (fun _ _ _ h => h) (sj_refl hb.bd rfl rfl) (fun w1 ρ1 hw1 => ev_nilCheck rfl) (by decide) ?_
     refine dj_H 18 (v := .pointer (some ⟨gc_0, 1, none⟩)) (by kernel_rfl) (by kernel_rfl) rfl (fun _ _ _ h => h) (sj_refl hb.bd rfl rfl) (fun w1 ρ1 hw1 => ev_fieldAddr (i := 1) Try.underlying55 rfl Try.info53 rfl rfl) (by decide) ?_
     refine dj_E 19 (by kernel_rfl) rfl ?_
     have jt507 : Tr ρ504 w505 (fun t => ([20, 100] : List Nat).contains t) ρ504 w505 := (Tr.refl hb.bd).weak (fun _ _ => rfl) rfl rfl
     refine sr_storeT (v := v502) (vs := [v502]) (cs' := #[.bool c_0.made, v502]) hB3 (by decide) hb.bd rfl rfl (one_cells (OwnT.oneCell h503)) Try.sizeOf53 rfl (by first | rfl | (simp only [List.all_cons, List.all_nil, OwnT.oneCell h503]; done) | (simp only [List.all_cons, List.all_nil, OwnT.oneCell h503]; rfl)) rfl ?_
     intro w508 hB31 htr509
     replace h503 := h503.mv (htr509.mv (i := 20) rfl) (by decide)
     replace hb := hb.trans htr509
     replace jt507 := (jt507.trans htr509).weak (J' := (fun t => ([20, 100] : List Nat).contains t)) (by intro t h; simp [rng] at h ⊢ <;> omega) rfl rfl
     replace hB3 : Blk ρ504 100 w508 gc_0 (.cells #[.bool c_0.made, v502] 55 (0, 0)) := hB31
     clear hB31
     refine dj_next (l' := []) rfl (.nil _) jt507 (by intro t h; simp [rng] at h ⊢ <;> omega) rfl rfl ?_
     refine dj_done rfl (by kernel_rfl) ?_
     refine ke_weaken (l' := []) (.nil _) ?_
     have hK := ref32_Consents_Revoke_B1_ok hg hbd ho2 hz hS hb h503 hB3
     exact ke_weaken (l' := []) (.nil _) hK
theorem ref32_Consents_Drop_B2_ok {w0 : World} (hg : Gs w0) {ρA : Tags} (hbd : ∀ b, ρA b ≠ 0 → b < w0.heap.size) {o : Nat} (ho2 : 2 ≤ o) {gc_0 : Nat} (hz : Gz (enter ρA o 2)) (r0 : ref32_Consents → Str → List ref32_pair → Int → Option (Int × ref32_Consents))
  (hr0 : ∀ {r : Int × ref32_Consents} {oc_0 : ref32_Consents} {user_1 : Str} {left_5 : List ref32_pair} {i_6 : Int} {vleft_5 : Value}, r0 oc_0 user_1 left_5 i_6 = some r → ∀ {ρ : Tags} {w : World}, (Fr (enter ρA o 2) w0 ρ w) → (ref32_Consents.O (fun p => 100 + p) ρ w gc_0 oc_0) → (OwnT ref32_pair.c 63 ρ 7 w vleft_5 left_5) → KE Try.prog 31 (Ret (fun v w' => ∃ ρ', v = .int .i64 r.1 ∧ ref32_Consents.O (fun p => o + p) ρ' w' gc_0 r.2 ∧ Tr ρA w0 (rng o 2) ρ' w')) 53 [.inLoop (sub (bodyOf Try.f31) [2, 2, 2, 1, 2, 2, 1]), .inBlock 0, .code (sub (bodyOf Try.f31) [2, 2, 2, 2])] [(0, .pointer (some ⟨gc_0, 0, none⟩)), (1, str user_1), (5, vleft_5), (6, .int .i64 i_6)] w) {r : Int × ref32_Consents} {oc_0 : ref32_Consents} {user_1 : Str} {left_5 : List ref32_pair} {i_6 : Int} {vleft_5 : Value} (hS : ref32_Consents_Drop_B2 r0 oc_0 user_1 left_5 i_6 = some r) {ρ : Tags} {w : World} (hb : Fr (enter ρA o 2) w0 ρ w) (hoc_0 : ref32_Consents.O (fun p => 100 + p) ρ w gc_0 oc_0) (hleft_5 : OwnT ref32_pair.c 63 ρ 7 w vleft_5 left_5) :
  KE Try.prog 31 (Ret (fun v w' => ∃ ρ', v = .int .i64 r.1 ∧ ref32_Consents.O (fun p => o + p) ρ' w' gc_0 r.2 ∧ Tr ρA w0 (rng o 2) ρ' w')) 53 [.inBlock 1, .code (sub (bodyOf Try.f31) [2, 2, 2, 1, 2, 2, 1, 2, 2]), .inLoop (sub (bodyOf Try.f31) [2, 2, 2, 1, 2, 2, 1]), .inBlock 0, .code (sub (bodyOf Try.f31) [2, 2, 2, 2])] [(0, .pointer (some ⟨gc_0, 0, none⟩)), (1, str user_1), (5, vleft_5), (6, .int .i64 i_6)] w := by
 unfold ref32_Consents_Drop_B2 at hS
 obtain ⟨v48, hB50, h49⟩ := hoc_0
 replace hB50 : Blk ρ 100 w gc_0 (.cells #[.bool oc_0.made, v48] 55 (0, 0)) := hB50
 replace h49 : OwnT ref32_pair.c 63 ρ 101 w v48 oc_0.pairs := h49
 refine ke_inBlock ?_
 refine ke_region ?_
 refine sr_ev (v := .int .i64 i_6) (ev_move rfl) (by decide) ?_
 refine sr_ev (v := .int .i64 (IntKind.i64.wrap (i_6 + 1))) (ev_add rfl rfl) (by decide) ?_
 refine sr_ev (v := .int .i64 (IntKind.i64.wrap (i_6 + 1))) (ev_assign rfl) (by decide) ?_
 refine sr_end (l' := [(0, .pointer (some ⟨gc_0, 0, none⟩)), (1, str user_1), (5, vleft_5), (6, .int .i64 (IntKind.i64.wrap (i_6 + 1)))]) (.cons rfl (.cons rfl (.cons rfl (.cons rfl (.nil _))))) ?_
 have hK := hr0 hS hb ⟨_, hB50, h49⟩ hleft_5
 exact ke_weaken (l' := [(0, .pointer (some ⟨gc_0, 0, none⟩)), (1, str user_1), (5, vleft_5), (6, .int .i64 (IntKind.i64.wrap (i_6 + 1)))]) (.cons rfl (.cons rfl (.cons rfl (.cons rfl (.nil _))))) hK
theorem ref32_Consents_Drop_L1_ok {w0 : World} (hg : Gs w0) {ρA : Tags} (hbd : ∀ b, ρA b ≠ 0 → b < w0.heap.size) {o : Nat} (ho2 : 2 ≤ o) {gc_0 : Nat} (hz : Gz (enter ρA o 2)) : ∀ (n : Nat), ∀ {r : Int × ref32_Consents} {oc_0 : ref32_Consents} {user_1 : Str} {left_5 : List ref32_pair} {i_6 : Int} {vleft_5 : Value}, ref32_Consents_Drop_L1 n oc_0 user_1 left_5 i_6 = some r → ∀ {ρ : Tags} {w : World}, (Fr (enter ρA o 2) w0 ρ w) → (ref32_Consents.O (fun p => 100 + p) ρ w gc_0 oc_0) → (OwnT ref32_pair.c 63 ρ 7 w vleft_5 left_5) → KE Try.prog 31 (Ret (fun v w' => ∃ ρ', v = .int .i64 r.1 ∧ ref32_Consents.O (fun p => o + p) ρ' w' gc_0 r.2 ∧ Tr ρA w0 (rng o 2) ρ' w')) 53 [.code (sub (bodyOf Try.f31) [2, 2, 2, 1, 2, 2, 1]), .inLoop (sub (bodyOf Try.f31) [2, 2, 2, 1, 2, 2, 1]), .inBlock 0, .code (sub (bodyOf Try.f31) [2, 2, 2, 2])] [(0, .pointer (some ⟨gc_0, 0, none⟩)), (1, str user_1), (5, vleft_5), (6, .int .i64 i_6)] w := by
 intro n
 induction n with
 | zero => intro r oc_0 user_1 left_5 i_6 vleft_5 hS; cases hS
 | succ n ih =>
  have hr0 : ∀ {r : Int × ref32_Consents} {oc_0 : ref32_Consents} {user_1 : Str} {left_5 : List ref32_pair} {i_6 : Int} {vleft_5 : Value}, ref32_Consents_Drop_L1 n oc_0 user_1 left_5 i_6 = some r → ∀ {ρ : Tags} {w : World}, (Fr (enter ρA o 2) w0 ρ w) → (ref32_Consents.O (fun p => 100 + p) ρ w gc_0 oc_0) → (OwnT ref32_pair.c 63 ρ 7 w vleft_5 left_5) → KE Try.prog 31 (Ret (fun v w' => ∃ ρ', v = .int .i64 r.1 ∧ ref32_Consents.O (fun p => o + p) ρ' w' gc_0 r.2 ∧ Tr ρA w0 (rng o 2) ρ' w')) 53 [.inLoop (sub (bodyOf Try.f31) [2, 2, 2, 1, 2, 2, 1]), .inBlock 0, .code (sub (bodyOf Try.f31) [2, 2, 2, 2])] [(0, .pointer (some ⟨gc_0, 0, none⟩)), (1, str user_1), (5, vleft_5), (6, .int .i64 i_6)] w := fun {r} {oc_0} {user_1} {left_5} {i_6} {vleft_5} hS {ρ} {w} hb hoc_0 hleft_5 => ke_inLoop (ih hS hb hoc_0 hleft_5)
  clear ih
  intro r oc_0 user_1 left_5 i_6 vleft_5 hS ρ w hb hoc_0 hleft_5
  unfold ref32_Consents_Drop_L1 at hS
  obtain ⟨v10, hB12, h11⟩ := hoc_0
  replace hB12 : Blk ρ 100 w gc_0 (.cells #[.bool oc_0.made, v10] 55 (0, 0)) := hB12
  replace h11 : OwnT ref32_pair.c 63 ρ 101 w v10 oc_0.pairs := h11
  refine ke_seq ?_
  refine ke_seq ?_
  refine ke_region ?_
  refine sr_ev (v := .int .i64 i_6) (ev_move rfl) (by decide) ?_
  refine sr_ev (v := .pointer (some ⟨gc_0, 0, none⟩)) (ev_move rfl) (by decide) ?_
  refine sr_ev (v := .pointer (some ⟨gc_0, 0, none⟩)) (ev_nilCheck rfl) (by decide) ?_
  refine sr_ev (v := .pointer (some ⟨gc_0, 1, none⟩)) (ev_fieldAddr (i := 1) Try.underlying55 rfl Try.info53 rfl rfl) (by decide) ?_
  refine sr_ev (v := v10) (ev_load Try.isAgg53 rfl (hB12.cell rfl)) (by decide) ?_
  refine sr_ev (v := .int .i64 (oc_0.pairs.length : Int)) (ev_sllen Try.underlying53 rfl h11.asSl) (by decide) ?_
  refine sr_ev (v := .bool (decide (i_6 < (oc_0.pairs.length : Int)))) (ev_lt rfl rfl) (by decide) ?_
  refine sr_end (l' := [(0, .pointer (some ⟨gc_0, 0, none⟩)), (1, str user_1), (5, vleft_5), (6, .int .i64 i_6), (17, .bool (decide (i_6 < (oc_0.pairs.length : Int))))]) (.cons rfl (.cons rfl (.cons rfl (.cons rfl (.cons rfl (.nil _)))))) ?_
  refine ke_cond (t := decide (i_6 < (oc_0.pairs.length : Int))) rfl (fun hc13 => ?_) (fun hc13 => ?_)
  ·replace hS := ite_true' hS hc13
   refine ke_skip ?_
   refine ke_seq ?_
   refine ke_block ?_
   refine ke_seq ?_
   refine ke_region ?_
   refine sr_ev (v := .pointer (some ⟨gc_0, 0, none⟩)) (ev_move rfl) (by decide) ?_
   refine sr_ev (v := .pointer (some ⟨gc_0, 0, none⟩)) (ev_nilCheck rfl) (by decide) ?_
   refine sr_ev (v := .pointer (some ⟨gc_0, 1, none⟩)) (ev_fieldAddr (i := 1) Try.underlying55 rfl Try.info53 rfl rfl) (by decide) ?_
   refine sr_ev (v := v10) (ev_load Try.isAgg53 rfl (hB12.cell rfl)) (by decide) ?_
   refine sr_ev (v := .int .i64 i_6) (ev_move rfl) (by decide) ?_
   obtain ⟨y14, hy15, hS⟩ := bind_some' hS
   obtain ⟨b16, o17, cs19, hq20, he18, hg23, ho24⟩ := h11.elemQ (P := Try.prog) Try.underlying53 Try.info63 rfl hy15
   obtain ⟨v21, hcshe18, h22⟩ := he18.rd
   obtain rfl : cs19 = [str y14.user, str y14.client, v21] := hcshe18
   refine sr_ev (v := .pointer (some ⟨b16, o17, none⟩)) (hq20 w rfl rfl) (by decide) ?_
   refine sr_ev (v := .pointer (some ⟨b16, o17 + 0, none⟩)) (ev_fieldAddr (i := 0) Try.underlying63 rfl Try.info9 rfl rfl) (by decide) ?_
   refine sr_ev (v := str y14.user) (ev_load Try.isAgg9 rfl (he18.cell 0 _ rfl)) (by decide) ?_
   refine sr_ev (v := str user_1) (ev_move rfl) (by decide) ?_
   refine sr_ev (v := .bool (!(y14.user == user_1))) (ev_sne rfl rfl) (by decide) ?_
   refine sr_end (l' := [(0, .pointer (some ⟨gc_0, 0, none⟩)), (1, str user_1), (5, vleft_5), (6, .int .i64 i_6), (29, .bool (!(y14.user == user_1)))]) (.cons rfl (.cons rfl (.cons rfl (.cons rfl (.cons rfl (.nil _)))))) ?_
   refine ke_cond (t := !(y14.user == user_1)) rfl (fun hc25 => ?_) (fun hc25 => ?_)
   ·replace hS := ite_true' hS hc25
    refine ke_region ?_
    refine sr_ev (v := vleft_5) (ev_move rfl) (by decide) ?_
    refine sr_ev (v := .pointer (some ⟨gc_0, 0, none⟩)) (ev_move rfl) (by decide) ?_
    refine sr_ev (v := .pointer (some ⟨gc_0, 0, none⟩)) (ev_nilCheck rfl) (by decide) ?_
    refine sr_ev (v := .pointer (some ⟨gc_0, 1, none⟩)) (ev_fieldAddr (i := 1) Try.underlying55 rfl Try.info53 rfl rfl) (by decide) ?_
    refine sr_ev (v := v10) (ev_load Try.isAgg53 rfl (hB12.cell rfl)) (by decide) ?_
    refine sr_ev (v := .int .i64 i_6) (ev_move rfl) (by decide) ?_
    obtain ⟨y26, hy27, hS⟩ := bind_some' hS
    obtain ⟨b28, o29, cs31, hq32, he30, hg35, ho36⟩ := h11.elemQ (P := Try.prog) Try.underlying53 Try.info63 rfl hy27
    obtain ⟨v33, hcshe30, h34⟩ := he30.rd
    obtain rfl : cs31 = [str y26.user, str y26.client, v33] := hcshe30
    refine sr_ev (v := .pointer (some ⟨b28, o29, none⟩)) (hq32 w rfl rfl) (by decide) ?_
    refine sr_ev (v := .agg #[str y26.user, str y26.client, v33]) (ev_loads (cs := [str y26.user, str y26.client, v33]) Try.isAgg63 Try.sizeOf63 rfl he30.cell) (by decide) ?_
    refine sr_litT (c := ref32_pair.c) (ρ := ρ) (E := 63) (xs := [y26]) (vs := #[(0, .agg #[str y26.user, str y26.client, v33])]) (cs := #[str y26.user, str y26.client, v33]) (css := [[str y26.user, str y26.client, v33]]) rfl (fun _ => by kernel_rfl) rfl ⟨⟨_, rfl, h34⟩, trivial⟩ rfl (by decide) hb.bd (by decide) ?_
    intro v37 w39 h38 hbw41
    have htr40 := Tr.of_below hbw41 hb.bd
    replace hleft_5 := hleft_5.mv (htr40.mv (i := 7) rfl) (by decide)
    replace hB12 := hB12.mv (htr40.mv (i := 100) rfl)
    replace h11 := h11.mv (htr40.mv (i := 101) rfl) (by decide)
    replace hb := hb.trans htr40
    obtain ⟨hk42, hS⟩ := chk_some hS
    refine sr_appendT (i := 7) (c := ref32_pair.c) (ρ := ρ) (E := 63) (xs := left_5) (ys := ([y26] : List ref32_pair)) hleft_5 ((SlT.of_sl (i := 0) h38)).x Try.underlying53 Try.info63 rfl rfl rfl (by decide) (by decide) (by decide) hb.bd hk42 rfl rfl (by decide) ?_
    intro v43 ρ45 w46 h44 htr47
    replace hB12 := hB12.mv (htr47.mv (i := 100) rfl)
    replace h11 := h11.mv (htr47.mv (i := 101) rfl) (by decide)
    replace hb := hb.trans htr47
    refine sr_ev (v := v43) (ev_assign rfl) (by decide) ?_
    refine sr_end (l' := [(0, .pointer (some ⟨gc_0, 0, none⟩)), (1, str user_1), (5, v43), (6, .int .i64 i_6)]) (.cons rfl (.cons rfl (.cons rfl (.cons rfl (.nil _))))) ?_
    have hK := ref32_Consents_Drop_B2_ok hg hbd ho2 hz _ hr0 hS hb ⟨_, hB12, h11⟩ h44
    exact ke_weaken (l' := [(0, .pointer (some ⟨gc_0, 0, none⟩)), (1, str user_1), (5, v43), (6, .int .i64 i_6)]) (.cons rfl (.cons rfl (.cons rfl (.cons rfl (.nil _))))) hK
   ·replace hS := ite_false' hS hc25
    refine ke_skip ?_
    have hK := ref32_Consents_Drop_B2_ok hg hbd ho2 hz _ hr0 hS hb ⟨_, hB12, h11⟩ hleft_5
    exact ke_weaken (l' := [(0, .pointer (some ⟨gc_0, 0, none⟩)), (1, str user_1), (5, vleft_5), (6, .int .i64 i_6)]) (.cons rfl (.cons rfl (.cons rfl (.cons rfl (.nil _))))) hK
  ·replace hS := ite_false' hS hc13
   refine ke_exit (k' := _) rfl ?_
   refine ke_seq ?_
   refine ke_region ?_
   refine sr_ev (v := .pointer (some ⟨gc_0, 0, none⟩)) (ev_move rfl) (by decide) ?_
   refine sr_ev (v := .pointer (some ⟨gc_0, 0, none⟩)) (ev_nilCheck rfl) (by decide) ?_
   refine sr_ev (v := .pointer (some ⟨gc_0, 1, none⟩)) (ev_fieldAddr (i := 1) Try.underlying55 rfl Try.info53 rfl rfl) (by decide) ?_
   refine sr_ev (v := v10) (ev_load Try.isAgg53 rfl (hB12.cell rfl)) (by decide) ?_
   refine sr_ev (v := .int .i64 (oc_0.pairs.length : Int)) (ev_sllen Try.underlying53 rfl h11.asSl) (by decide) ?_
   refine sr_ev (v := vleft_5) (ev_move rfl) (by decide) ?_
   refine sr_ev (v := .int .i64 (left_5.length : Int)) (ev_sllen Try.underlying53 rfl hleft_5.asSl) (by decide) ?_
   refine sr_ev (v := .int .i64 (IntKind.i64.wrap ((oc_0.pairs.length : Int) - (left_5.length : Int)))) (ev_sub rfl rfl) (by decide) ?_
   refine sr_ev (v := .int .i64 (IntKind.i64.wrap ((oc_0.pairs.length : Int) - (left_5.length : Int)))) (ev_assign rfl) (by decide) ?_
   refine sr_end (l' := [(0, .pointer (some ⟨gc_0, 0, none⟩)), (5, vleft_5), (7, .int .i64 (IntKind.i64.wrap ((oc_0.pairs.length : Int) - (left_5.length : Int))))]) (.cons rfl (.cons rfl (.cons rfl (.nil _)))) ?_
   refine ke_seq ?_
   refine ke_region ?_
   refine sr_ev (v := .pointer (some ⟨gc_0, 0, none⟩)) (ev_move rfl) (by decide) ?_
   refine sr_ev (v := vleft_5) (ev_move rfl) (by decide) ?_
   refine sr_ev (v := .pointer (some ⟨gc_0, 0, none⟩)) (ev_nilCheck rfl) (by decide) ?_
   refine sr_ev (v := .pointer (some ⟨gc_0, 1, none⟩)) (ev_fieldAddr (i := 1) Try.underlying55 rfl Try.info53 rfl rfl) (by decide) ?_
   refine sr_storeT (v := vleft_5) (vs := [vleft_5]) (cs' := #[.bool oc_0.made, vleft_5]) hB12 (by decide) hb.bd rfl rfl (one_cells (OwnT.oneCell hleft_5)) Try.sizeOf53 rfl (by first | rfl | (simp only [List.all_cons, List.all_nil, OwnT.oneCell hleft_5]; done) | (simp only [List.all_cons, List.all_nil, OwnT.oneCell hleft_5]; rfl)) rfl ?_
   intro w51 hB121 htr52
   replace hleft_5 := hleft_5.mv (htr52.mv (i := 7) rfl) (by decide)
   replace hb := hb.trans htr52
   replace hB12 : Blk ρ 100 w51 gc_0 (.cells #[.bool oc_0.made, vleft_5] 55 (0, 0)) := hB121
   clear hB121
   refine sr_end (l' := [(7, .int .i64 (IntKind.i64.wrap ((oc_0.pairs.length : Int) - (left_5.length : Int))))]) (.cons rfl (.nil _)) ?_
   refine ke_seq ?_
   refine ke_region ?_
   refine sr_ev (v := .int .i64 (IntKind.i64.wrap ((oc_0.pairs.length : Int) - (left_5.length : Int)))) (ev_move rfl) (by decide) ?_
   refine sr_ev (v := .int .i64 (IntKind.i64.wrap ((oc_0.pairs.length : Int) - (left_5.length : Int)))) (ev_assign rfl) (by decide) ?_
   refine sr_end (l' := [(4, .int .i64 (IntKind.i64.wrap ((oc_0.pairs.length : Int) - (left_5.length : Int))))]) (.cons rfl (.nil _)) ?_
   have htr53 := rtg_tr (ρ := ρ) (w := w51) (i := 7) 101 (by decide) hb.bd
   have hmv54 : Mv ρ w51 7 (rtg ρ 7 101) w51 101 := rtg_mv (by decide)
   replace hB12 := hB12.mv (htr53.mv (i := 100) rfl)
   replace hb := hb.trans htr53
   replace hleft_5 := hleft_5.mv hmv54 (by decide)
   cases hS
   exact ke_ret1 Try.func31 rfl rfl ⟨_, rfl, leave ρA w0 o 2 (rtg ρ 7 101), rfl, ⟨_, (hB12.mv (leave_mv (p := 0) (by decide) hb)), (hleft_5.mv (leave_mv (p := 1) (by decide) hb) (Nat.ne_of_gt (Nat.lt_of_lt_of_le (Nat.lt_of_lt_of_le Nat.zero_lt_two ho2) (Nat.le_add_right _ _))))⟩, (leave_tr ho2 hb)⟩
theorem ref32_Consents_Drop_ok (w0 : World) (hg : Gs w0) {ρA : Tags} (hbd : ∀ b, ρA b ≠ 0 → b < w0.heap.size) (hz : Gz ρA) {o : Nat} (ho2 : 2 ≤ o) {c_0 : ref32_Consents} {user_1 : Str} {gc_0 : Nat} {r : Int × ref32_Consents} (ho0 : ref32_Consents.O (fun p => o + p) ρA w0 gc_0 c_0) (hS : ref32_Consents_Drop c_0 user_1 = some r) :
  Calls Try.prog 31 #[.pointer (some ⟨gc_0, 0, none⟩), str user_1] w0 (Ret (fun v w' => ∃ ρ', v = .int .i64 r.1 ∧ ref32_Consents.O (fun p => o + p) ρ' w' gc_0 r.2 ∧ Tr ρA w0 (rng o 2) ρ' w')) := by
 unfold ref32_Consents_Drop at hS
 have hb := enter_fr (ρ := ρA) (w := w0) (n := 2) ho2 hbd
 have hz := hz.enter (n := 2) ho2
 obtain ⟨v1, hB3, h2⟩ := ho0
 replace hB3 := hB3.mv (enter_mv (p := 0) (n := 2) (by decide) ho2)
 replace h2 := h2.mv (enter_mv (p := 1) (n := 2) (by decide) ho2) (by decide)
 replace hB3 : Blk (enter ρA o 2) 100 w0 gc_0 (.cells #[.bool c_0.made, v1] 55 (0, 0)) := hB3
 replace h2 : OwnT ref32_pair.c 63 (enter ρA o 2) 101 w0 v1 c_0.pairs := h2
 refine calls_of_ke Try.func31 rfl (n := 53) rfl rfl (l := [(0, .pointer (some ⟨gc_0, 0, none⟩)), (1, str user_1)]) rfl ?_
 refine ke_seq ?_
 refine ke_region ?_
 refine sr_ev (v := .int .i64 0) (ev_assign rfl) (by decide) ?_
 refine sr_end (l' := [(0, .pointer (some ⟨gc_0, 0, none⟩)), (1, str user_1)]) (.cons rfl (.cons rfl (.nil _))) ?_
 refine ke_seq ?_
 refine ke_seq ?_
 refine ke_region ?_
 refine sr_ev (v := .pointer (some ⟨gc_0, 0, none⟩)) (ev_move rfl) (by decide) ?_
 obtain ⟨y4, hy5, hS⟩ := bind_some' hS
 refine sr_call (vs := [.pointer (some ⟨gc_0, 0, none⟩)]) rfl Try.call33 rfl (ref32_Consents_Made_ok _ (hg.fr hz hb) (ρA := (enter ρA o 2)) hb.bd (hz.fr hg hb) (τ0 := (fun p => 100 + p)) (fun p => Nat.le_add_right_of_le (by decide)) (⟨_, hB3, h2⟩ : ref32_Consents.O (fun p => 100 + p) (enter ρA o 2) w0 gc_0 c_0) hy5) (by decide) ?_
 rintro _ w6 ⟨rfl, hbw7⟩
 have htr8 := Tr.of_below hbw7 hb.bd
 replace hB3 := hB3.mv (htr8.mv (i := 100) rfl)
 replace h2 := h2.mv (htr8.mv (i := 101) rfl) (by decide)
 replace hb := hb.trans htr8
 refine sr_ev (v := .bool (!y4)) (ev_not rfl) (by decide) ?_
 refine sr_end (l' := [(0, .pointer (some ⟨gc_0, 0, none⟩)), (1, str user_1), (10, .bool (!y4))]) (.cons rfl (.cons rfl (.cons rfl (.nil _)))) ?_
 refine ke_cond (t := !y4) rfl (fun hc9 => ?_) (fun hc9 => ?_)
 ·replace hS := ite_true' hS hc9
  refine ke_seq ?_
  refine ke_region ?_
  refine sr_ev (v := .int .i64 0) (ev_assign rfl) (by decide) ?_
  refine sr_end (l' := [(4, .int .i64 0)]) (.cons rfl (.nil _)) ?_
  cases hS
  exact ke_ret1 Try.func31 rfl rfl ⟨_, rfl, leave ρA w0 o 2 (enter ρA o 2), rfl, ⟨_, (hB3.mv (leave_mv (p := 0) (by decide) hb)), (h2.mv (leave_mv (p := 1) (by decide) hb) (Nat.ne_of_gt (Nat.lt_of_lt_of_le (Nat.lt_of_lt_of_le Nat.zero_lt_two ho2) (Nat.le_add_right _ _))))⟩, (leave_tr ho2 hb)⟩
 ·replace hS := ite_false' hS hc9
  refine ke_skip ?_
  refine ke_seq ?_
  refine ke_region ?_
  refine sr_ev (v := .slice none 0 0) (ev_assign rfl) (by decide) ?_
  refine sr_end (l' := [(0, .pointer (some ⟨gc_0, 0, none⟩)), (1, str user_1), (5, .slice none 0 0)]) (.cons rfl (.cons rfl (.cons rfl (.nil _)))) ?_
  refine ke_seq ?_
  refine ke_seq ?_
  refine ke_region ?_
  refine sr_ev (v := .int .i64 0) (ev_assign rfl) (by decide) ?_
  refine sr_end (l' := [(0, .pointer (some ⟨gc_0, 0, none⟩)), (1, str user_1), (5, .slice none 0 0), (6, .int .i64 0)]) (.cons rfl (.cons rfl (.cons rfl (.cons rfl (.nil _))))) ?_
  refine ke_block ?_
  have hK := ref32_Consents_Drop_L1_ok hg hbd ho2 hz _ hS hb ⟨_, hB3, h2⟩ OwnT.nil
  exact ke_weaken (l' := [(0, .pointer (some ⟨gc_0, 0, none⟩)), (1, str user_1), (5, (.slice none 0 0)), (6, .int .i64 0)]) (.cons rfl (.cons rfl (.cons rfl (.cons rfl (.nil _))))) (ke_loop hK)
theorem ref29_Implies_ok (w0 : World) (hg : Gs w0) {a_0 : Str} {b_1 : Str} {r : Bool} (hS : ref29_Implies a_0 b_1 = some r) :
  Calls Try.prog 54 #[str a_0, str b_1] w0 (Ret (fun v w' => v = .bool r ∧ Below w0.heap.size w0 w')) := by
 unfold ref29_Implies at hS
 have hb := Below.refl w0.heap.size w0
 refine calls_of_ke Try.func54 rfl (n := 33) rfl rfl (l := [(0, str a_0), (1, str b_1)]) rfl ?_
 refine ke_seq ?_
 refine ke_region ?_
 refine sr_ev (v := .bool false) (ev_assign rfl) (by decide) ?_
 refine sr_end (l' := [(0, str a_0), (1, str b_1)]) (.cons rfl (.cons rfl (.nil _))) ?_
 refine ke_seq ?_
 refine ke_region ?_
 refine sr_ev (v := str a_0) (ev_move rfl) (by decide) ?_
 obtain ⟨y1, hy2, hS⟩ := bind_some' hS
 refine sr_call (vs := [str a_0]) rfl Try.call53 rfl (ref29_Valid_ok _ (hg.below hb) hy2) (by decide) ?_
 rintro _ w3 ⟨rfl, hbw4⟩
 replace hb := hb.trans (hbw4.mono hb.size)
 refine sr_ev (v := .bool y1) (ev_move rfl) (by decide) ?_
 obtain ⟨z7, hz9, hS⟩ := bind_some' hS
 refine sr_join (m := 3) (C := fun (x : Bool) w1 => z7 = x ∧ Below w3.heap.size w3 w1) (l' := fun x => [(0, str a_0), (1, str b_1), (10, .bool x)]) ?_ ?_
 ·rintro _ w10 ⟨rfl, hbw11⟩
  replace hb := hb.trans (hbw11.mono hb.size)
  refine sr_ev (v := .bool z7) (ev_move rfl) (by decide) ?_
  obtain ⟨z18, hz20, hS⟩ := bind_some' hS
  refine sr_join (m := 21) (C := fun (x : Bool) w1 => z18 = x ∧ Below w10.heap.size w10 w1) (l' := fun x => [(32, .bool x)]) ?_ ?_
  ·rintro _ w21 ⟨rfl, hbw22⟩
   replace hb := hb.trans (hbw22.mono hb.size)
   refine sr_ev (v := .bool z18) (ev_assign rfl) (by decide) ?_
   refine sr_end (l' := [(4, .bool z18)]) (.cons rfl (.nil _)) ?_
   cases hS
   exact ke_ret1 Try.func54 rfl rfl ⟨_, rfl, rfl, hb⟩
  ·intro K17
   clear hS
   have hj19 := Below.refl w10.heap.size w10
   rcases Bool.eq_false_or_eq_true z7 with hg16 | hg16
   ·have hS := ite_true' hz20 hg16
    refine sr_evg (b := true) (e := 11) rfl rfl hg16 (v := str a_0) (ev_move rfl) (by decide) ?_
    refine sr_evg (b := true) (e := 11) rfl rfl hg16 (v := str b_1) (ev_move rfl) (by decide) ?_
    refine sr_evg (b := true) (e := 11) rfl rfl hg16 (v := .bool (a_0 == b_1)) (ev_seq rfl rfl) (by decide) ?_
    refine sr_evg (b := true) (e := 11) rfl rfl hg16 (v := .bool (a_0 == b_1)) (ev_move rfl) (by decide) ?_
    obtain ⟨z25, hz27, hS⟩ := bind_some' hS
    refine sr_join (m := 16) (C := fun (x : Bool) w1 => z25 = x ∧ Below w10.heap.size w10 w1) (l' := fun x => [(11, .bool z7), (31, .bool x)]) ?_ ?_
    ·rintro _ w28 ⟨rfl, hbw29⟩
     replace hb := hb.trans (hbw29.mono hb.size)
     replace hj19 := hj19.trans (hbw29.mono hj19.size)
     refine sr_ev (v := .bool z25) (ev_pick_t rfl hg16 rfl) (by decide) ?_
     exact sr_weaken (l' := [(32, .bool z25)]) (.cons rfl (.nil _)) (K17 z25 _ ⟨(Option.some.inj hS).symm, hj19⟩)
    ·intro K24
     clear hS
     have hj26 := Below.refl w10.heap.size w10
     rcases Bool.eq_false_or_eq_true (a_0 == b_1) with hg23 | hg23
     ·have hS := ite_true' hz27 hg23
      refine sr_pass (e := 15) rfl rfl (by rw [hg23]; rfl) (by decide) ?_
      refine sr_pass (e := 15) rfl rfl (by rw [hg23]; rfl) (by decide) ?_
      refine sr_pass (e := 15) rfl rfl (by rw [hg23]; rfl) (by decide) ?_
      refine sr_pass (e := 15) rfl rfl (by rw [hg23]; rfl) (by decide) ?_
      refine sr_pass (e := 15) rfl rfl (by rw [hg23]; rfl) (by decide) ?_
      refine sr_pass (e := 15) rfl rfl (by rw [hg23]; rfl) (by decide) ?_
      refine sr_pass_undef (e := 21) rfl rfl (by decide) ?_
      refine sr_pass_undef (e := 21) rfl rfl (by decide) ?_
      refine sr_pass_undef (e := 21) rfl rfl (by decide) ?_
      refine sr_pass_undef (e := 21) rfl rfl (by decide) ?_
      refine sr_pass_undef (e := 21) rfl rfl (by decide) ?_
      refine sr_pass_undef (e := 21) rfl rfl (by decide) ?_
      refine sr_pass_undef (e := 21) rfl rfl (by decide) ?_
      refine sr_pass_undef (e := 21) rfl rfl (by decide) ?_
      refine sr_pass (e := 15) rfl rfl (by rw [hg23]; rfl) (by decide) ?_
      refine sr_evg (b := true) (e := 11) rfl rfl hg16 (v := .bool true) (ev_pick_t rfl hg23 rfl) (by decide) ?_
      exact sr_weaken (l' := [(11, .bool z7), (31, .bool true)]) (.cons rfl (.cons rfl (.nil _))) (K24 true _ ⟨(Option.some.inj hS).symm, hj26⟩)
     ·have hS := ite_false' hz27 hg23
      refine sr_evg (b := false) (e := 15) rfl rfl hg23 (v := str b_1) (ev_move rfl) (by decide) ?_
      refine sr_evg (b := false) (e := 15) rfl rfl hg23 (v := .int .i64 (b_1.length : Int)) (ev_slen Try.underlying9 rfl) (by decide) ?_
      refine sr_evg (b := false) (e := 15) rfl rfl hg23 (v := str a_0) (ev_move rfl) (by decide) ?_
      refine sr_evg (b := false) (e := 15) rfl rfl hg23 (v := .int .i64 (a_0.length : Int)) (ev_slen Try.underlying9 rfl) (by decide) ?_
      refine sr_evg (b := false) (e := 15) rfl rfl hg23 (v := .bool (decide ((b_1.length : Int) > (a_0.length : Int)))) (ev_gt rfl rfl) (by decide) ?_
      refine sr_evg (b := false) (e := 15) rfl rfl hg23 (v := .bool (decide ((b_1.length : Int) > (a_0.length : Int)))) (ev_move rfl) (by decide) ?_
      obtain ⟨z32, hz34, hS⟩ := bind_some' hS
      refine sr_join (m := 9) (C := fun (x : Bool) w1 => z32 = x ∧ Below w10.heap.size w10 w1) (l' := fun x => [(11, .bool z7), (15, .bool (a_0 == b_1)), (30, .bool x)]) ?_ ?_
      ·rintro _ w35 ⟨rfl, hbw36⟩
       replace hb := hb.trans (hbw36.mono hb.size)
       replace hj19 := hj19.trans (hbw36.mono hj19.size)
       replace hj26 := hj26.trans (hbw36.mono hj26.size)
       refine sr_evg (b := true) (e := 11) rfl rfl hg16 (v := .bool z32) (ev_pick_f rfl hg23 rfl) (by decide) ?_
       exact sr_weaken (l' := [(11, .bool z7), (31, .bool z32)]) (.cons rfl (.cons rfl (.nil _))) (K24 z32 _ ⟨(Option.some.inj hS).symm, hj26⟩)
      ·intro K31
       clear hS
       have hj33 := Below.refl w10.heap.size w10
       rcases Bool.eq_false_or_eq_true (decide ((b_1.length : Int) > (a_0.length : Int))) with hg30 | hg30
       ·have hS := ite_true' hz34 hg30
        refine sr_evg (b := true) (e := 21) rfl rfl hg30 (v := str b_1) (ev_move rfl) (by decide) ?_
        refine sr_evg (b := true) (e := 21) rfl rfl hg30 (v := str a_0) (ev_move rfl) (by decide) ?_
        refine sr_evg (b := true) (e := 21) rfl rfl hg30 (v := .int .i64 (a_0.length : Int)) (ev_slen Try.underlying9 rfl) (by decide) ?_
        refine sr_evg (b := true) (e := 21) rfl rfl hg30 (v := .int .i64 (IntKind.i64.wrap ((a_0.length : Int) + 1))) (ev_add rfl rfl) (by decide) ?_
        obtain ⟨hk37, hS⟩ := chk_some hS
        refine sr_evg (b := true) (e := 21) rfl rfl hg30 (v := str (cut b_1 0 (IntKind.i64.wrap ((a_0.length : Int) + 1)))) (ev_sslice_to Try.underlying9 rfl rfl hk37) (by decide) ?_
        refine sr_evg (b := true) (e := 21) rfl rfl hg30 (v := str a_0) (ev_move rfl) (by decide) ?_
        obtain ⟨hk38, hS⟩ := chk_some hS
        refine sr_evg (b := true) (e := 21) rfl rfl hg30 (v := str (a_0 ++ ([46]))) (ev_cat rfl rfl hk38) (by decide) ?_
        refine sr_evg (b := true) (e := 21) rfl rfl hg30 (v := .bool ((cut b_1 0 (IntKind.i64.wrap ((a_0.length : Int) + 1))) == (a_0 ++ ([46])))) (ev_seq rfl rfl) (by decide) ?_
        refine sr_evg (b := false) (e := 15) rfl rfl hg23 (v := .bool ((cut b_1 0 (IntKind.i64.wrap ((a_0.length : Int) + 1))) == (a_0 ++ ([46])))) (ev_pick_t rfl hg30 rfl) (by decide) ?_
        exact sr_weaken (l' := [(11, .bool z7), (15, .bool (a_0 == b_1)), (30, .bool ((cut b_1 0 (IntKind.i64.wrap ((a_0.length : Int) + 1))) == (a_0 ++ ([46]))))]) (.cons rfl (.cons rfl (.cons rfl (.nil _)))) (K31 ((cut b_1 0 (IntKind.i64.wrap ((a_0.length : Int) + 1))) == (a_0 ++ ([46]))) _ ⟨(Option.some.inj hS).symm, hj33⟩)
       ·have hS := ite_false' hz34 hg30
        refine sr_pass (e := 21) rfl rfl (by rw [hg30]; rfl) (by decide) ?_
        refine sr_pass (e := 21) rfl rfl (by rw [hg30]; rfl) (by decide) ?_
        refine sr_pass (e := 21) rfl rfl (by rw [hg30]; rfl) (by decide) ?_
        refine sr_pass (e := 21) rfl rfl (by rw [hg30]; rfl) (by decide) ?_
        refine sr_pass (e := 21) rfl rfl (by rw [hg30]; rfl) (by decide) ?_
        refine sr_pass (e := 21) rfl rfl (by rw [hg30]; rfl) (by decide) ?_
        refine sr_pass (e := 21) rfl rfl (by rw [hg30]; rfl) (by decide) ?_
        refine sr_pass (e := 21) rfl rfl (by rw [hg30]; rfl) (by decide) ?_
        refine sr_evg (b := false) (e := 15) rfl rfl hg23 (v := .bool false) (ev_pick_f rfl hg30 rfl) (by decide) ?_
        exact sr_weaken (l' := [(11, .bool z7), (15, .bool (a_0 == b_1)), (30, .bool false)]) (.cons rfl (.cons rfl (.cons rfl (.nil _)))) (K31 false _ ⟨(Option.some.inj hS).symm, hj33⟩)
   ·have hS := ite_false' hz20 hg16
    refine sr_pass (e := 11) rfl rfl (by rw [hg16]; rfl) (by decide) ?_
    refine sr_pass (e := 11) rfl rfl (by rw [hg16]; rfl) (by decide) ?_
    refine sr_pass (e := 11) rfl rfl (by rw [hg16]; rfl) (by decide) ?_
    refine sr_pass (e := 11) rfl rfl (by rw [hg16]; rfl) (by decide) ?_
    refine sr_pass_undef (e := 15) rfl rfl (by decide) ?_
    refine sr_pass_undef (e := 15) rfl rfl (by decide) ?_
    refine sr_pass_undef (e := 15) rfl rfl (by decide) ?_
    refine sr_pass_undef (e := 15) rfl rfl (by decide) ?_
    refine sr_pass_undef (e := 15) rfl rfl (by decide) ?_
    refine sr_pass_undef (e := 15) rfl rfl (by decide) ?_
    refine sr_pass_undef (e := 21) rfl rfl (by decide) ?_
    refine sr_pass_undef (e := 21) rfl rfl (by decide) ?_
    refine sr_pass_undef (e := 21) rfl rfl (by decide) ?_
    refine sr_pass_undef (e := 21) rfl rfl (by decide) ?_
    refine sr_pass_undef (e := 21) rfl rfl (by decide) ?_
    refine sr_pass_undef (e := 21) rfl rfl (by decide) ?_
    refine sr_pass_undef (e := 21) rfl rfl (by decide) ?_
    refine sr_pass_undef (e := 21) rfl rfl (by decide) ?_
    refine sr_pass_undef (e := 15) rfl rfl (by decide) ?_
    refine sr_pass (e := 11) rfl rfl (by rw [hg16]; rfl) (by decide) ?_
    refine sr_ev (v := .bool false) (ev_pick_f rfl hg16 rfl) (by decide) ?_
    exact sr_weaken (l' := [(32, .bool false)]) (.cons rfl (.nil _)) (K17 false _ ⟨(Option.some.inj hS).symm, hj19⟩)
 ·intro K6
  clear hS
  have hj8 := Below.refl w3.heap.size w3
  rcases Bool.eq_false_or_eq_true y1 with hg5 | hg5
  ·have hS := ite_true' hz9 hg5
   refine sr_evg (b := true) (e := 7) rfl rfl hg5 (v := str b_1) (ev_move rfl) (by decide) ?_
   obtain ⟨y12, hy13, hS⟩ := bind_some' hS
   refine sr_callg (b := true) (e := 7) rfl rfl hg5 (vs := [str b_1]) rfl Try.call53 rfl (ref29_Valid_ok _ (hg.below hb) hy13) (by decide) ?_
   rintro _ w14 ⟨rfl, hbw15⟩
   replace hb := hb.trans (hbw15.mono hb.size)
   replace hj8 := hj8.trans (hbw15.mono hj8.size)
   refine sr_ev (v := .bool y12) (ev_pick_t rfl hg5 rfl) (by decide) ?_
   exact sr_weaken (l' := [(0, str a_0), (1, str b_1), (10, .bool y12)]) (.cons rfl (.cons rfl (.cons rfl (.nil _)))) (K6 y12 _ ⟨(Option.some.inj hS).symm, hj8⟩)
  ·have hS := ite_false' hz9 hg5
   refine sr_pass (e := 7) rfl rfl (by rw [hg5]; rfl) (by decide) ?_
   refine sr_pass (e := 7) rfl rfl (by rw [hg5]; rfl) (by decide) ?_
   refine sr_ev (v := .bool false) (ev_pick_f rfl hg5 rfl) (by decide) ?_
   exact sr_weaken (l' := [(0, str a_0), (1, str b_1), (10, .bool false)]) (.cons rfl (.cons rfl (.cons rfl (.nil _)))) (K6 false _ ⟨(Option.some.inj hS).symm, hj8⟩)
theorem ref06_Insert_B3_ok {w0 : World} (hg : Gs w0) {A0 : Nat → Prop} (hA0 : ∀ b, A0 b → b < w0.heap.size) (r0 : List Str → Str → List Str → Bool → Int → Option (List Str))
  (hr0 : ∀ {r : List Str} {l_0 : List Str} {s_1 : Str} {out_5 : List Str} {done_6 : Bool} {i_7 : Int} {vl_0 : Value} {vout_5 : Value}, r0 l_0 s_1 out_5 done_6 i_7 = some r → ∀ {w : World} {A : Nat → Prop}, (Below w0.heap.size w0 w) → (∀ b, A b → b < w.heap.size) → (∀ b, A0 b → A b) → (Hp A w0.heap.size w []) → (SlR strC A w vl_0 l_0) → (OwnS strC 9 A w0.heap.size w vout_5 out_5) → (Dj vout_5 []) → KE Try.prog 39 (Ret (fun v w' => ∃ x1, v = x1 ∧ SlR strC A0 w' x1 r ∧ Below w0.heap.size w0 w')) 48 [.inLoop (sub (bodyOf Try.f39) [2, 2, 2, 1, 2, 2, 1]), .inBlock 0, .code (sub (bodyOf Try.f39) [2, 2, 2, 2])] [(0, vl_0), (1, str s_1), (5, vout_5), (6, .bool done_6), (7, .int .i64 i_7)] w) {r : List Str} {l_0 : List Str} {s_1 : Str} {out_5 : List Str} {done_6 : Bool} {i_7 : Int} {vl_0 : Value} {vout_5 : Value} (hS : ref06_Insert_B3 r0 l_0 s_1 out_5 done_6 i_7 = some r) {w : World} {A : Nat → Prop} (hb : Below w0.heap.size w0 w) (hA : ∀ b, A b → b < w.heap.size) (hi : ∀ b, A0 b → A b) (hH : Hp A w0.heap.size w []) (hl_0 : SlR strC A w vl_0 l_0) (hout_5 : OwnS strC 9 A w0.heap.size w vout_5 out_5) (dout_5 : Dj vout_5 []) :
  KE Try.prog 39 (Ret (fun v w' => ∃ x1, v = x1 ∧ SlR strC A0 w' x1 r ∧ Below w0.heap.size w0 w')) 48 [.inBlock 1, .code (sub (bodyOf Try.f39) [2, 2, 2, 1, 2, 2, 1, 2, 2]), .inLoop (sub (bodyOf Try.f39) [2, 2, 2, 1, 2, 2, 1]), .inBlock 0, .code (sub (bodyOf Try.f39) [2, 2, 2, 2])] [(0, vl_0), (1, str s_1), (5, vout_5), (6, .bool done_6), (7, .int .i64 i_7)] w := by
 unfold ref06_Insert_B3 at hS
 refine ke_inBlock ?_
 refine ke_region ?_
 refine sr_ev (v := .int .i64 i_7) (ev_move rfl) (by decide) ?_
 refine sr_ev (v := .int .i64 (IntKind.i64.wrap (i_7 + 1))) (ev_add rfl rfl) (by decide) ?_
 refine sr_ev (v := .int .i64 (IntKind.i64.wrap (i_7 + 1))) (ev_assign rfl) (by decide) ?_
 refine sr_end (l' := [(0, vl_0), (1, str s_1), (5, vout_5), (6, .bool done_6), (7, .int .i64 (IntKind.i64.wrap (i_7 + 1)))]) (.cons rfl (.cons rfl (.cons rfl (.cons rfl (.cons rfl (.nil _)))))) ?_
 have hK := hr0 hS hb hA hi hH hl_0 hout_5 dout_5
 exact ke_weaken (l' := [(0, vl_0), (1, str s_1), (5, vout_5), (6, .bool done_6), (7, .int .i64 (IntKind.i64.wrap (i_7 + 1)))]) (.cons rfl (.cons rfl (.cons rfl (.cons rfl (.cons rfl (.nil _)))))) hK
theorem ref06_Insert_B2_ok {w0 : World} (hg : Gs w0) {A0 : Nat → Prop} (hA0 : ∀ b, A0 b → b < w0.heap.size) (r0 : List Str → Str → List Str → Bool → Int → Option (List Str))
  (hr0 : ∀ {r : List Str} {l_0 : List Str} {s_1 : Str} {out_5 : List Str} {done_6 : Bool} {i_7 : Int} {vl_0 : Value} {vout_5 : Value}, r0 l_0 s_1 out_5 done_6 i_7 = some r → ∀ {w : World} {A : Nat → Prop}, (Below w0.heap.size w0 w) → (∀ b, A b → b < w.heap.size) → (∀ b, A0 b → A b) → (Hp A w0.heap.size w []) → (SlR strC A w vl_0 l_0) → (OwnS strC 9 A w0.heap.size w vout_5 out_5) → (Dj vout_5 []) → KE Try.prog 39 (Ret (fun v w' => ∃ x1, v = x1 ∧ SlR strC A0 w' x1 r ∧ Below w0.heap.size w0 w')) 48 [.inLoop (sub (bodyOf Try.f39) [2, 2, 2, 1, 2, 2, 1]), .inBlock 0, .code (sub (bodyOf Try.f39) [2, 2, 2, 2])] [(0, vl_0), (1, str s_1), (5, vout_5), (6, .bool done_6), (7, .int .i64 i_7)] w) {r : List Str} {l_0 : List Str} {s_1 : Str} {out_5 : List Str} {done_6 : Bool} {i_7 : Int} {vl_0 : Value} {vout_5 : Value} (hS : ref06_Insert_B2 r0 l_0 s_1 out_5 done_6 i_7 = some r) {w : World} {A : Nat → Prop} (hb : Below w0.heap.size w0 w) (hA : ∀ b, A b → b < w.heap.size) (hi : ∀ b, A0 b → A b) (hH : Hp A w0.heap.size w []) (hl_0 : SlR strC A w vl_0 l_0) (hout_5 : OwnS strC 9 A w0.heap.size w vout_5 out_5) (dout_5 : Dj vout_5 []) :
  KE Try.prog 39 (Ret (fun v w' => ∃ x1, v = x1 ∧ SlR strC A0 w' x1 r ∧ Below w0.heap.size w0 w')) 48 [.code (sub (bodyOf Try.f39) [2, 2, 2, 1, 2, 2, 1, 2, 1, 2, 2]), .inBlock 1, .code (sub (bodyOf Try.f39) [2, 2, 2, 1, 2, 2, 1, 2, 2]), .inLoop (sub (bodyOf Try.f39) [2, 2, 2, 1, 2, 2, 1]), .inBlock 0, .code (sub (bodyOf Try.f39) [2, 2, 2, 2])] [(0, vl_0), (1, str s_1), (5, vout_5), (6, .bool done_6), (7, .int .i64 i_7)] w := by
 unfold ref06_Insert_B2 at hS
 refine ke_seq ?_
 refine ke_region ?_
 refine sr_ev (v := vl_0) (ev_move rfl) (by decide) ?_
 refine sr_ev (v := .int .i64 i_7) (ev_move rfl) (by decide) ?_
 obtain ⟨y38, hy39, hS⟩ := bind_some' hS
 refine sr_index hl_0 Try.underlying30 Try.info9 rfl rfl rfl hy39 (by decide) ?_
 intro b40 o41 cs43 he42
 obtain rfl : cs43 = [str y38] := he42.rd
 refine sr_ev (v := str y38) (ev_load Try.isAgg9 rfl (he42.cell 0 _ rfl)) (by decide) ?_
 refine sr_ev (v := str s_1) (ev_move rfl) (by decide) ?_
 refine sr_ev (v := .bool (!(y38 == s_1))) (ev_sne rfl rfl) (by decide) ?_
 refine sr_end (l' := [(0, vl_0), (1, str s_1), (5, vout_5), (6, .bool done_6), (7, .int .i64 i_7), (33, .bool (!(y38 == s_1)))]) (.cons rfl (.cons rfl (.cons rfl (.cons rfl (.cons rfl (.cons rfl (.nil _))))))) ?_
 refine ke_cond (t := !(y38 == s_1)) rfl (fun hc44 => ?_) (fun hc44 => ?_)
 ·replace hS := ite_true' hS hc44
  refine ke_region ?_
  refine sr_ev (v := vout_5) (ev_move rfl) (by decide) ?_
  refine sr_ev (v := vl_0) (ev_move rfl) (by decide) ?_
  refine sr_ev (v := .int .i64 i_7) (ev_move rfl) (by decide) ?_
  obtain ⟨y45, hy46, hS⟩ := bind_some' hS
  refine sr_index hl_0 Try.underlying30 Try.info9 rfl rfl rfl hy46 (by decide) ?_
  intro b47 o48 cs50 he49
  obtain rfl : cs50 = [str y45] := he49.rd
  refine sr_ev (v := str y45) (ev_load Try.isAgg9 rfl (he49.cell 0 _ rfl)) (by decide) ?_
  refine sr_lit (c := strC) (A := A) (E := 9) (xs := [y45]) (vs := #[(0, str y45)]) (cs := #[str y45]) (css := [[str y45]]) rfl (fun _ => by kernel_rfl) rfl ⟨rfl, trivial⟩ rfl (by decide) hA (by decide) ?_
  intro v51 w53 h52 hbw54
  replace hb := hb.trans (hbw54.mono hb.size)
  replace hA := lt_mono hA hbw54.size
  replace hH := hH.below hbw54
  replace hl_0 := hl_0.below hbw54
  replace hout_5 := hout_5.below hbw54
  obtain ⟨hk55, hS⟩ := chk_some hS
  refine sr_append (c := strC) (A := A) (B := w0.heap.size) (E := 9) (xs := out_5) (ys := ([y45] : List Str)) hout_5 h52 Try.underlying30 Try.info9 rfl rfl rfl (by decide) (by decide) hA hb.size hk55 rfl rfl (by decide) ?_
  intro v56 A58 w59 h57 hst60 hbB61 hinc62 hA1 hoth63 hold
  have dj64 : Dj v56 [] := fun p hp e => by rcases hold _ e with h | h; exact dout_5 p hp h; have := hH.lt hp; omega
  replace hb := hb.trans hbB61
  replace hi := fun b hb => hinc62 b (hi b hb)
  replace hH := hH.keep hinc62 (fun p hp => hoth63 _ (hH.lt hp) (dout_5 p hp))
  replace hA := hA1
  clear hA1
  replace hl_0 := hl_0.step hst60
  refine sr_ev (v := v56) (ev_assign rfl) (by decide) ?_
  refine sr_end (l' := [(0, vl_0), (1, str s_1), (5, v56), (6, .bool done_6), (7, .int .i64 i_7)]) (.cons rfl (.cons rfl (.cons rfl (.cons rfl (.cons rfl (.nil _)))))) ?_
  have hK := ref06_Insert_B3_ok hg hA0 _ hr0 hS hb hA hi hH hl_0 h57 dj64
  exact ke_weaken (l' := [(0, vl_0), (1, str s_1), (5, v56), (6, .bool done_6), (7, .int .i64 i_7)]) (.cons rfl (.cons rfl (.cons rfl (.cons rfl (.cons rfl (.nil _)))))) hK
 ·replace hS := ite_false' hS hc44
  refine ke_skip ?_
  have hK := ref06_Insert_B3_ok hg hA0 _ hr0 hS hb hA hi hH hl_0 hout_5 dout_5
  exact ke_weaken (l' := [(0, vl_0), (1, str s_1), (5, vout_5), (6, .bool done_6), (7, .int .i64 i_7)]) (.cons rfl (.cons rfl (.cons rfl (.cons rfl (.cons rfl (.nil _)))))) hK
theorem ref06_Insert_B4_ok {w0 : World} (hg : Gs w0) {A0 : Nat → Prop} (hA0 : ∀ b, A0 b → b < w0.heap.size) (r0 : List Str → Str → List Str → Bool → Int → Option (List Str))
  (hr0 : ∀ {r : List Str} {l_0 : List Str} {s_1 : Str} {out_5 : List Str} {done_6 : Bool} {i_7 : Int} {vl_0 : Value} {vout_5 : Value}, r0 l_0 s_1 out_5 done_6 i_7 = some r → ∀ {w : World} {A : Nat → Prop}, (Below w0.heap.size w0 w) → (∀ b, A b → b < w.heap.size) → (∀ b, A0 b → A b) → (Hp A w0.heap.size w []) → (SlR strC A w vl_0 l_0) → (OwnS strC 9 A w0.heap.size w vout_5 out_5) → (Dj vout_5 []) → KE Try.prog 39 (Ret (fun v w' => ∃ x1, v = x1 ∧ SlR strC A0 w' x1 r ∧ Below w0.heap.size w0 w')) 48 [.inLoop (sub (bodyOf Try.f39) [2, 2, 2, 1, 2, 2, 1]), .inBlock 0, .code (sub (bodyOf Try.f39) [2, 2, 2, 2])] [(0, vl_0), (1, str s_1), (5, vout_5), (6, .bool done_6), (7, .int .i64 i_7)] w) {r : List Str} {out_5 : List Str} {vout_5 : Value} (hS : ref06_Insert_B4 r0 out_5 = some r) {w : World} {A : Nat → Prop} (hb : Below w0.heap.size w0 w) (hA : ∀ b, A b → b < w.heap.size) (hi : ∀ b, A0 b → A b) (hH : Hp A w0.heap.size w []) (hout_5 : OwnS strC 9 A w0.heap.size w vout_5 out_5) (dout_5 : Dj vout_5 []) :
  KE Try.prog 39 (Ret (fun v w' => ∃ x1, v = x1 ∧ SlR strC A0 w' x1 r ∧ Below w0.heap.size w0 w')) 48 [.code (sub (bodyOf Try.f39) [2, 2, 2, 2, 2])] [(5, vout_5)] w := by
 unfold ref06_Insert_B4 at hS
 refine ke_seq ?_
 refine ke_region ?_
 refine sr_ev (v := vout_5) (ev_move rfl) (by decide) ?_
 refine sr_ev (v := vout_5) (ev_assign rfl) (by decide) ?_
 refine sr_end (l' := [(4, vout_5)]) (.cons rfl (.nil _)) ?_
 cases hS
 exact ke_ret1 Try.func39 rfl rfl ⟨_, rfl, _, rfl, hout_5.toSl (fun b hb => ⟨hi b hb, hA0 b hb⟩), hb⟩
theorem ref06_Insert_L1_ok {w0 : World} (hg : Gs w0) {A0 : Nat → Prop} (hA0 : ∀ b, A0 b → b < w0.heap.size) : ∀ (n : Nat), ∀ {r : List Str} {l_0 : List Str} {s_1 : Str} {out_5 : List Str} {done_6 : Bool} {i_7 : Int} {vl_0 : Value} {vout_5 : Value}, ref06_Insert_L1 n l_0 s_1 out_5 done_6 i_7 = some r → ∀ {w : World} {A : Nat → Prop}, (Below w0.heap.size w0 w) → (∀ b, A b → b < w.heap.size) → (∀ b, A0 b → A b) → (Hp A w0.heap.size w []) → (SlR strC A w vl_0 l_0) → (OwnS strC 9 A w0.heap.size w vout_5 out_5) → (Dj vout_5 []) → KE Try.prog 39 (Ret (fun v w' => ∃ x1, v = x1 ∧ SlR strC A0 w' x1 r ∧ Below w0.heap.size w0 w')) 48 [.code (sub (bodyOf Try.f39) [2, 2, 2, 1, 2, 2, 1]), .inLoop (sub (bodyOf Try.f39) [2, 2, 2, 1, 2, 2, 1]), .inBlock 0, .code (sub (bodyOf Try.f39) [2, 2, 2, 2])] [(0, vl_0), (1, str s_1), (5, vout_5), (6, .bool done_6), (7, .int .i64 i_7)] w := by
 intro n
 induction n with
 | zero => intro r l_0 s_1 out_5 done_6 i_7 vl_0 vout_5 hS; cases hS
 | succ n ih =>
  have hr0 : ∀ {r : List Str} {l_0 : List Str} {s_1 : Str} {out_5 : List Str} {done_6 : Bool} {i_7 : Int} {vl_0 : Value} {vout_5 : Value}, ref06_Insert_L1 n l_0 s_1 out_5 done_6 i_7 = some r → ∀ {w : World} {A : Nat → Prop}, (Below w0.heap.size w0 w) → (∀ b, A b → b < w.heap.size) → (∀ b, A0 b → A b) → (Hp A w0.heap.size w []) → (SlR strC A w vl_0 l_0) → (OwnS strC 9 A w0.heap.size w vout_5 out_5) → (Dj vout_5 []) → KE Try.prog 39 (Ret (fun v w' => ∃ x1, v = x1 ∧ SlR strC A0 w' x1 r ∧ Below w0.heap.size w0 w')) 48 [.inLoop (sub (bodyOf Try.f39) [2, 2, 2, 1, 2, 2, 1]), .inBlock 0, .code (sub (bodyOf Try.f39) [2, 2, 2, 2])] [(0, vl_0), (1, str s_1), (5, vout_5), (6, .bool done_6), (7, .int .i64 i_7)] w := fun {r} {l_0} {s_1} {out_5} {done_6} {i_7} {vl_0} {vout_5} hS {w} {A} hb hA hi hH hl_0 hout_5 dout_5 => ke_inLoop (ih hS hb hA hi hH hl_0 hout_5 dout_5)
  clear ih
  intro r l_0 s_1 out_5 done_6 i_7 vl_0 vout_5 hS w A hb hA hi hH hl_0 hout_5 dout_5
  unfold ref06_Insert_L1 at hS
  refine ke_seq ?_
  refine ke_seq ?_
  refine ke_region ?_
  refine sr_ev (v := .int .i64 i_7) (ev_move rfl) (by decide) ?_
  refine sr_ev (v := vl_0) (ev_move rfl) (by decide) ?_
  refine sr_ev (v := .int .i64 (l_0.length : Int)) (ev_sllen Try.underlying30 rfl hl_0) (by decide) ?_
  refine sr_ev (v := .bool (decide (i_7 < (l_0.length : Int)))) (ev_lt rfl rfl) (by decide) ?_
  refine sr_end (l' := [(0, vl_0), (1, str s_1), (5, vout_5), (6, .bool done_6), (7, .int .i64 i_7), (11, .bool (decide (i_7 < (l_0.length : Int))))]) (.cons rfl (.cons rfl (.cons rfl (.cons rfl (.cons rfl (.cons rfl (.nil _))))))) ?_
  refine ke_cond (t := decide (i_7 < (l_0.length : Int))) rfl (fun hc7 => ?_) (fun hc7 => ?_)
  ·replace hS := ite_true' hS hc7
   refine ke_skip ?_
   refine ke_seq ?_
   refine ke_block ?_
   refine ke_seq ?_
   refine ke_seq ?_
   refine ke_region ?_
   refine sr_ev (v := .bool done_6) (ev_move rfl) (by decide) ?_
   refine sr_ev (v := .bool (!done_6)) (ev_not rfl) (by decide) ?_
   refine sr_ev (v := .bool (!done_6)) (ev_move rfl) (by decide) ?_
   obtain ⟨z10, hz12, hS⟩ := bind_some' hS
   refine sr_join (m := 7) (C := fun (x : Bool) w1 => z10 = x ∧ Below w.heap.size w w1) (l' := fun x => [(0, vl_0), (1, str s_1), (5, vout_5), (6, .bool done_6), (7, .int .i64 i_7), (23, .bool x)]) ?_ ?_
   ·rintro _ w13 ⟨rfl, hbw14⟩
    replace hb := hb.trans (hbw14.mono hb.size)
    replace hA := lt_mono hA hbw14.size
    replace hH := hH.below hbw14
    replace hl_0 := hl_0.below hbw14
    replace hout_5 := hout_5.below hbw14
    refine sr_end (l' := [(0, vl_0), (1, str s_1), (5, vout_5), (6, .bool done_6), (7, .int .i64 i_7), (23, .bool z10)]) (.cons rfl (.cons rfl (.cons rfl (.cons rfl (.cons rfl (.cons rfl (.nil _))))))) ?_
    refine ke_cond (t := z10) rfl (fun hc21 => ?_) (fun hc21 => ?_)
    ·replace hS := ite_true' hS hc21
     refine ke_seq ?_
     refine ke_region ?_
     refine sr_ev (v := vout_5) (ev_move rfl) (by decide) ?_
     refine sr_ev (v := str s_1) (ev_move rfl) (by decide) ?_
     refine sr_lit (c := strC) (A := A) (E := 9) (xs := [s_1]) (vs := #[(0, str s_1)]) (cs := #[str s_1]) (css := [[str s_1]]) rfl (fun _ => by kernel_rfl) rfl ⟨rfl, trivial⟩ rfl (by decide) hA (by decide) ?_
     intro v22 w24 h23 hbw25
     replace hb := hb.trans (hbw25.mono hb.size)
     replace hA := lt_mono hA hbw25.size
     replace hH := hH.below hbw25
     replace hl_0 := hl_0.below hbw25
     replace hout_5 := hout_5.below hbw25
     obtain ⟨hk26, hS⟩ := chk_some hS
     refine sr_append (c := strC) (A := A) (B := w0.heap.size) (E := 9) (xs := out_5) (ys := ([s_1] : List Str)) hout_5 h23 Try.underlying30 Try.info9 rfl rfl rfl (by decide) (by decide) hA hb.size hk26 rfl rfl (by decide) ?_
     intro v27 A29 w30 h28 hst31 hbB32 hinc33 hA1 hoth34 hold
     have dj35 : Dj v27 [] := fun p hp e => by rcases hold _ e with h | h; exact dout_5 p hp h; have := hH.lt hp; omega
     replace hb := hb.trans hbB32
     replace hi := fun b hb => hinc33 b (hi b hb)
     replace hH := hH.keep hinc33 (fun p hp => hoth34 _ (hH.lt hp) (dout_5 p hp))
     replace hA := hA1
     clear hA1
     replace hl_0 := hl_0.step hst31
     refine sr_ev (v := v27) (ev_assign rfl) (by decide) ?_
     refine sr_end (l' := [(0, vl_0), (1, str s_1), (5, v27), (7, .int .i64 i_7)]) (.cons rfl (.cons rfl (.cons rfl (.cons rfl (.nil _))))) ?_
     refine ke_region ?_
     refine sr_ev (v := .bool true) (ev_assign rfl) (by decide) ?_
     refine sr_end (l' := [(0, vl_0), (1, str s_1), (5, v27), (6, .bool true), (7, .int .i64 i_7)]) (.cons rfl (.cons rfl (.cons rfl (.cons rfl (.cons rfl (.nil _)))))) ?_
     have hK := ref06_Insert_B2_ok hg hA0 _ hr0 hS hb hA hi hH hl_0 h28 dj35
     exact ke_weaken (l' := [(0, vl_0), (1, str s_1), (5, v27), (6, .bool true), (7, .int .i64 i_7)]) (.cons rfl (.cons rfl (.cons rfl (.cons rfl (.cons rfl (.nil _)))))) hK
    ·replace hS := ite_false' hS hc21
     refine ke_skip ?_
     have hK := ref06_Insert_B2_ok hg hA0 _ hr0 hS hb hA hi hH hl_0 hout_5 dout_5
     exact ke_weaken (l' := [(0, vl_0), (1, str s_1), (5, vout_5), (6, .bool done_6), (7, .int .i64 i_7)]) (.cons rfl (.cons rfl (.cons rfl (.cons rfl (.cons rfl (.nil _)))))) hK
   ·intro K9
    clear hS
    have hj11 := Below.refl w.heap.size w
    rcases Bool.eq_false_or_eq_true (!done_6) with hg8 | hg8
    ·have hS := ite_true' hz12 hg8
     refine sr_evg (b := true) (e := 16) rfl rfl hg8 (v := vl_0) (ev_move rfl) (by decide) ?_
     refine sr_evg (b := true) (e := 16) rfl rfl hg8 (v := .int .i64 i_7) (ev_move rfl) (by decide) ?_
     obtain ⟨y15, hy16, hS⟩ := bind_some' hS
     refine sr_unguard rfl rfl hg8 ?_
     refine sr_index hl_0 Try.underlying30 Try.info9 rfl rfl rfl hy16 (by decide) ?_
     intro b17 o18 cs20 he19
     obtain rfl : cs20 = [str y15] := he19.rd
     refine sr_evg (b := true) (e := 16) rfl rfl hg8 (v := str y15) (ev_load Try.isAgg9 rfl (he19.cell 0 _ rfl)) (by decide) ?_
     refine sr_evg (b := true) (e := 16) rfl rfl hg8 (v := str s_1) (ev_move rfl) (by decide) ?_
     refine sr_evg (b := true) (e := 16) rfl rfl hg8 (v := .bool (!sLt y15 s_1)) (ev_sge rfl rfl) (by decide) ?_
     refine sr_ev (v := .bool (!sLt y15 s_1)) (ev_pick_t rfl hg8 rfl) (by decide) ?_
     exact sr_weaken (l' := [(0, vl_0), (1, str s_1), (5, vout_5), (6, .bool done_6), (7, .int .i64 i_7), (23, .bool (!sLt y15 s_1))]) (.cons rfl (.cons rfl (.cons rfl (.cons rfl (.cons rfl (.cons rfl (.nil _))))))) (K9 (!sLt y15 s_1) _ ⟨(Option.some.inj hS).symm, hj11⟩)
    ·have hS := ite_false' hz12 hg8
     refine sr_pass (e := 16) rfl rfl (by rw [hg8]; rfl) (by decide) ?_
     refine sr_pass (e := 16) rfl rfl (by rw [hg8]; rfl) (by decide) ?_
     refine sr_pass (e := 16) rfl rfl (by rw [hg8]; rfl) (by decide) ?_
     refine sr_pass (e := 16) rfl rfl (by rw [hg8]; rfl) (by decide) ?_
     refine sr_pass (e := 16) rfl rfl (by rw [hg8]; rfl) (by decide) ?_
     refine sr_pass (e := 16) rfl rfl (by rw [hg8]; rfl) (by decide) ?_
     refine sr_ev (v := .bool false) (ev_pick_f rfl hg8 rfl) (by decide) ?_
     exact sr_weaken (l' := [(0, vl_0), (1, str s_1), (5, vout_5), (6, .bool done_6), (7, .int .i64 i_7), (23, .bool false)]) (.cons rfl (.cons rfl (.cons rfl (.cons rfl (.cons rfl (.cons rfl (.nil _))))))) (K9 false _ ⟨(Option.some.inj hS).symm, hj11⟩)
  ·replace hS := ite_false' hS hc7
   refine ke_exit (k' := _) rfl ?_
   refine ke_seq ?_
   refine ke_seq ?_
   refine ke_region ?_
   refine sr_ev (v := .bool done_6) (ev_move rfl) (by decide) ?_
   refine sr_ev (v := .bool (!done_6)) (ev_not rfl) (by decide) ?_
   refine sr_end (l' := [(1, str s_1), (5, vout_5), (42, .bool (!done_6))]) (.cons rfl (.cons rfl (.cons rfl (.nil _)))) ?_
   refine ke_cond (t := !done_6) rfl (fun hc67 => ?_) (fun hc67 => ?_)
   ·replace hS := ite_true' hS hc67
    refine ke_region ?_
    refine sr_ev (v := vout_5) (ev_move rfl) (by decide) ?_
    refine sr_ev (v := str s_1) (ev_move rfl) (by decide) ?_
    refine sr_lit (c := strC) (A := A) (E := 9) (xs := [s_1]) (vs := #[(0, str s_1)]) (cs := #[str s_1]) (css := [[str s_1]]) rfl (fun _ => by kernel_rfl) rfl ⟨rfl, trivial⟩ rfl (by decide) hA (by decide) ?_
    intro v68 w70 h69 hbw71
    replace hb := hb.trans (hbw71.mono hb.size)
    replace hA := lt_mono hA hbw71.size
    replace hH := hH.below hbw71
    replace hout_5 := hout_5.below hbw71
    obtain ⟨hk72, hS⟩ := chk_some hS
    refine sr_append (c := strC) (A := A) (B := w0.heap.size) (E := 9) (xs := out_5) (ys := ([s_1] : List Str)) hout_5 h69 Try.underlying30 Try.info9 rfl rfl rfl (by decide) (by decide) hA hb.size hk72 rfl rfl (by decide) ?_
    intro v73 A75 w76 h74 hst77 hbB78 hinc79 hA1 hoth80 hold
    have dj81 : Dj v73 [] := fun p hp e => by rcases hold _ e with h | h; exact dout_5 p hp h; have := hH.lt hp; omega
    replace hb := hb.trans hbB78
    replace hi := fun b hb => hinc79 b (hi b hb)
    replace hH := hH.keep hinc79 (fun p hp => hoth80 _ (hH.lt hp) (dout_5 p hp))
    replace hA := hA1
    clear hA1
    refine sr_ev (v := v73) (ev_assign rfl) (by decide) ?_
    refine sr_end (l' := [(5, v73)]) (.cons rfl (.nil _)) ?_
    have hK := ref06_Insert_B4_ok hg hA0 _ hr0 hS hb hA hi hH h74 dj81
    exact ke_weaken (l' := [(5, v73)]) (.cons rfl (.nil _)) hK
   ·replace hS := ite_false' hS hc67
    refine ke_skip ?_
    have hK := ref06_Insert_B4_ok hg hA0 _ hr0 hS hb hA hi hH hout_5 dout_5
    exact ke_weaken (l' := [(5, vout_5)]) (.cons rfl (.nil _)) hK
theorem ref06_Insert_ok {A0 : Nat → Prop} (w0 : World) (hg : Gs w0) {l_0 : List Str} {s_1 : Str} {v1 : Value} {r : List Str} (h2 : SlR strC A0 w0 v1 l_0) (hA0 : ∀ b, A0 b → b < w0.heap.size) (hS : ref06_Insert l_0 s_1 = some r) :
  Calls Try.prog 39 #[v1, str s_1] w0 (Ret (fun v w' => ∃ x1, v = x1 ∧ SlR strC A0 w' x1 r ∧ Below w0.heap.size w0 w')) := by
 unfold ref06_Insert at hS
 have hb := Below.refl w0.heap.size w0
 have hA := hA0
 have hi : ∀ b, A0 b → A0 b := fun _ h => h
 have hH := Hp.nil A0 w0.heap.size w0
 refine calls_of_ke Try.func39 rfl (n := 48) rfl rfl (l := [(0, v1), (1, str s_1)]) rfl ?_
 refine ke_seq ?_
 refine ke_region ?_
 refine sr_ev (v := .slice none 0 0) (ev_assign rfl) (by decide) ?_
 refine sr_end (l' := [(0, v1), (1, str s_1)]) (.cons rfl (.cons rfl (.nil _))) ?_
 refine ke_seq ?_
 refine ke_region ?_
 refine sr_ev (v := .slice none 0 0) (ev_assign rfl) (by decide) ?_
 refine sr_end (l' := [(0, v1), (1, str s_1), (5, .slice none 0 0)]) (.cons rfl (.cons rfl (.cons rfl (.nil _)))) ?_
 refine ke_seq ?_
 refine ke_region ?_
 refine sr_ev (v := .bool false) (ev_assign rfl) (by decide) ?_
 refine sr_end (l' := [(0, v1), (1, str s_1), (5, .slice none 0 0), (6, .bool false)]) (.cons rfl (.cons rfl (.cons rfl (.cons rfl (.nil _))))) ?_
 refine ke_seq ?_
 refine ke_seq ?_
 refine ke_region ?_
 refine sr_ev (v := .int .i64 0) (ev_assign rfl) (by decide) ?_
 refine sr_end (l' := [(0, v1), (1, str s_1), (5, .slice none 0 0), (6, .bool false), (7, .int .i64 0)]) (.cons rfl (.cons rfl (.cons rfl (.cons rfl (.cons rfl (.nil _)))))) ?_
 refine ke_block ?_
 have hK := ref06_Insert_L1_ok hg hA0 _ hS hb hA hi hH h2 OwnS.nil (Dj.nil _)
 exact ke_weaken (l' := [(0, v1), (1, str s_1), (5, (.slice none 0 0)), (6, .bool false), (7, .int .i64 0)]) (.cons rfl (.cons rfl (.cons rfl (.cons rfl (.cons rfl (.nil _)))))) (ke_loop hK)
theorem ref29_Sorted_B3_ok {w0 : World} (hg : Gs w0) {A0 : Nat → Prop} (hA0 : ∀ b, A0 b → b < w0.heap.size) (r0 : List Str → List Str → Int → Option (List Str)) (r1 : List Str → List Str → Int → Bool → Int → Option (List Str))
  (hr0 : ∀ {r : List Str} {l_0 : List Str} {out_3 : List Str} {i_4 : Int} {vl_0 : Value} {vout_3 : Value}, r0 l_0 out_3 i_4 = some r → ∀ {w : World} {A : Nat → Prop}, (Below w0.heap.size w0 w) → (∀ b, A b → b < w.heap.size) → (∀ b, A0 b → A b) → (Hp A w0.heap.size w []) → (SlR strC A w vl_0 l_0) → (SlR strC A w vout_3 out_3) → KE Try.prog 37 (Ret (fun v w' => ∃ x1, v = x1 ∧ SlR strC A0 w' x1 r ∧ Below w0.heap.size w0 w')) 56 [.inLoop (sub (bodyOf Try.f37) [2, 2, 1, 2, 2, 1]), .inBlock 0, .code (sub (bodyOf Try.f37) [2, 2, 2])] [(0, vl_0), (3, vout_3), (4, .int .i64 i_4)] w)
  (hr1 : ∀ {r : List Str} {l_0 : List Str} {out_3 : List Str} {i_4 : Int} {least_5 : Bool} {k_6 : Int} {vl_0 : Value} {vout_3 : Value}, r1 l_0 out_3 i_4 least_5 k_6 = some r → ∀ {w : World} {A : Nat → Prop}, (Below w0.heap.size w0 w) → (∀ b, A b → b < w.heap.size) → (∀ b, A0 b → A b) → (Hp A w0.heap.size w []) → (SlR strC A w vl_0 l_0) → (SlR strC A w vout_3 out_3) → KE Try.prog 37 (Ret (fun v w' => ∃ x1, v = x1 ∧ SlR strC A0 w' x1 r ∧ Below w0.heap.size w0 w')) 56 [.inLoop (sub (bodyOf Try.f37) [2, 2, 1, 2, 2, 1, 2, 1, 2, 2, 1, 2, 2, 1]), .inBlock 2, .code (sub (bodyOf Try.f37) [2, 2, 1, 2, 2, 1, 2, 1, 2, 2, 2]), .inBlock 1, .code (sub (bodyOf Try.f37) [2, 2, 1, 2, 2, 1, 2, 2]), .inLoop (sub (bodyOf Try.f37) [2, 2, 1, 2, 2, 1]), .inBlock 0, .code (sub (bodyOf Try.f37) [2, 2, 2])] [(0, vl_0), (3, vout_3), (4, .int .i64 i_4), (5, .bool least_5), (6, .int .i64 k_6)] w) {r : List Str} {l_0 : List Str} {out_3 : List Str} {i_4 : Int} {vl_0 : Value} {vout_3 : Value} (hS : ref29_Sorted_B3 r0 r1 l_0 out_3 i_4 = some r) {w : World} {A : Nat → Prop} (hb : Below w0.heap.size w0 w) (hA : ∀ b, A b → b < w.heap.size) (hi : ∀ b, A0 b → A b) (hH : Hp A w0.heap.size w []) (hl_0 : SlR strC A w vl_0 l_0) (hout_3 : SlR strC A w vout_3 out_3) :
  KE Try.prog 37 (Ret (fun v w' => ∃ x1, v = x1 ∧ SlR strC A0 w' x1 r ∧ Below w0.heap.size w0 w')) 56 [.inBlock 1, .code (sub (bodyOf Try.f37) [2, 2, 1, 2, 2, 1, 2, 2]), .inLoop (sub (bodyOf Try.f37) [2, 2, 1, 2, 2, 1]), .inBlock 0, .code (sub (bodyOf Try.f37) [2, 2, 2])] [(0, vl_0), (3, vout_3), (4, .int .i64 i_4)] w := by
 unfold ref29_Sorted_B3 at hS
 refine ke_inBlock ?_
 refine ke_region ?_
 refine sr_ev (v := .int .i64 i_4) (ev_move rfl) (by decide) ?_
 refine sr_ev (v := .int .i64 (IntKind.i64.wrap (i_4 + 1))) (ev_add rfl rfl) (by decide) ?_
 refine sr_ev (v := .int .i64 (IntKind.i64.wrap (i_4 + 1))) (ev_assign rfl) (by decide) ?_
 refine sr_end (l' := [(0, vl_0), (3, vout_3), (4, .int .i64 (IntKind.i64.wrap (i_4 + 1)))]) (.cons rfl (.cons rfl (.cons rfl (.nil _)))) ?_
 have hK := hr0 hS hb hA hi hH hl_0 hout_3
 exact ke_weaken (l' := [(0, vl_0), (3, vout_3), (4, .int .i64 (IntKind.i64.wrap (i_4 + 1)))]) (.cons rfl (.cons rfl (.cons rfl (.nil _)))) hK
theorem ref29_Sorted_L2_ok {w0 : World} (hg : Gs w0) {A0 : Nat → Prop} (hA0 : ∀ b, A0 b → b < w0.heap.size) (r0 : List Str → List Str → Int → Option (List Str))
  (hr0 : ∀ {r : List Str} {l_0 : List Str} {out_3 : List Str} {i_4 : Int} {vl_0 : Value} {vout_3 : Value}, r0 l_0 out_3 i_4 = some r → ∀ {w : World} {A : Nat → Prop}, (Below w0.heap.size w0 w) → (∀ b, A b → b < w.heap.size) → (∀ b, A0 b → A b) → (Hp A w0.heap.size w []) → (SlR strC A w vl_0 l_0) → (SlR strC A w vout_3 out_3) → KE Try.prog 37 (Ret (fun v w' => ∃ x1, v = x1 ∧ SlR strC A0 w' x1 r ∧ Below w0.heap.size w0 w')) 56 [.inLoop (sub (bodyOf Try.f37) [2, 2, 1, 2, 2, 1]), .inBlock 0, .code (sub (bodyOf Try.f37) [2, 2, 2])] [(0, vl_0), (3, vout_3), (4, .int .i64 i_4)] w) : ∀ (n : Nat), ∀ {r : List Str} {l_0 : List Str} {out_3 : List Str} {i_4 : Int} {least_5 : Bool} {k_6 : Int} {vl_0 : Value} {vout_3 : Value}, ref29_Sorted_L2 r0 n l_0 out_3 i_4 least_5 k_6 = some r → ∀ {w : World} {A : Nat → Prop}, (Below w0.heap.size w0 w) → (∀ b, A b → b < w.heap.size) → (∀ b, A0 b → A b) → (Hp A w0.heap.size w []) → (SlR strC A w vl_0 l_0) → (SlR strC A w vout_3 out_3) → KE Try.prog 37 (Ret (fun v w' => ∃ x1, v = x1 ∧ SlR strC A0 w' x1 r ∧ Below w0.heap.size w0 w')) 56 [.code (sub (bodyOf Try.f37) [2, 2, 1, 2, 2, 1, 2, 1, 2, 2, 1, 2, 2, 1]), .inLoop (sub (bodyOf Try.f37) [2, 2, 1, 2, 2, 1, 2, 1, 2, 2, 1, 2, 2, 1]), .inBlock 2, .code (sub (bodyOf Try.f37) [2, 2, 1, 2, 2, 1, 2, 1, 2, 2, 2]), .inBlock 1, .code (sub (bodyOf Try.f37) [2, 2, 1, 2, 2, 1, 2, 2]), .inLoop (sub (bodyOf Try.f37) [2, 2, 1, 2, 2, 1]), .inBlock 0, .code (sub (bodyOf Try.f37) [2, 2, 2])] [(0, vl_0), (3, vout_3), (4, .int .i64 i_4), (5, .bool least_5), (6, .int .i64 k_6)] w := by
 intro n
 induction n with
 | zero => intro r l_0 out_3 i_4 least_5 k_6 vl_0 vout_3 hS; cases hS
 | succ n ih =>
  have hr1 : ∀ {r : List Str} {l_0 : List Str} {out_3 : List Str} {i_4 : Int} {least_5 : Bool} {k_6 : Int} {vl_0 : Value} {vout_3 : Value}, ref29_Sorted_L2 r0 n l_0 out_3 i_4 least_5 k_6 = some r → ∀ {w : World} {A : Nat → Prop}, (Below w0.heap.size w0 w) → (∀ b, A b → b < w.heap.size) → (∀ b, A0 b → A b) → (Hp A w0.heap.size w []) → (SlR strC A w vl_0 l_0) → (SlR strC A w vout_3 out_3) → KE Try.prog 37 (Ret (fun v w' => ∃ x1, v = x1 ∧ SlR strC A0 w' x1 r ∧ Below w0.heap.size w0 w')) 56 [.inLoop (sub (bodyOf Try.f37) [2, 2, 1, 2, 2, 1, 2, 1, 2, 2, 1, 2, 2, 1]), .inBlock 2, .code (sub (bodyOf Try.f37) [2, 2, 1, 2, 2, 1, 2, 1, 2, 2, 2]), .inBlock 1, .code (sub (bodyOf Try.f37) [2, 2, 1, 2, 2, 1, 2, 2]), .inLoop (sub (bodyOf Try.f37) [2, 2, 1, 2, 2, 1]), .inBlock 0, .code (sub (bodyOf Try.f37) [2, 2, 2])] [(0, vl_0), (3, vout_3), (4, .int .i64 i_4), (5, .bool least_5), (6, .int .i64 k_6)] w := fun {r} {l_0} {out_3} {i_4} {least_5} {k_6} {vl_0} {vout_3} hS {w} {A} hb hA hi hH hl_0 hout_3 => ke_inLoop (ih hS hb hA hi hH hl_0 hout_3)
  clear ih
  intro r l_0 out_3 i_4 least_5 k_6 vl_0 vout_3 hS w A hb hA hi hH hl_0 hout_3
  unfold ref29_Sorted_L2 at hS
  refine ke_seq ?_
  refine ke_seq ?_
  refine ke_region ?_
  refine sr_ev (v := .int .i64 k_6) (ev_move rfl) (by decide) ?_
  refine sr_ev (v := vl_0) (ev_move rfl) (by decide) ?_
  refine sr_ev (v := .int .i64 (l_0.length : Int)) (ev_sllen Try.underlying30 rfl hl_0) (by decide) ?_
  refine sr_ev (v := .bool (decide (k_6 < (l_0.length : Int)))) (ev_lt rfl rfl) (by decide) ?_
  refine sr_end (l' := [(0, vl_0), (3, vout_3), (4, .int .i64 i_4), (5, .bool least_5), (6, .int .i64 k_6), (21, .bool (decide (k_6 < (l_0.length : Int))))]) (.cons rfl (.cons rfl (.cons rfl (.cons rfl (.cons rfl (.cons rfl (.nil _))))))) ?_
  refine ke_cond (t := decide (k_6 < (l_0.length : Int))) rfl (fun hc20 => ?_) (fun hc20 => ?_)
  ·replace hS := ite_true' hS hc20
   refine ke_skip ?_
   refine ke_seq ?_
   refine ke_block ?_
   refine ke_region_q Try.mixed (by kernel_rfl) ?_
   refine sq_ev (v := .bool least_5) (fun w1 hw1 => ev_move rfl) (by decide) ?_
   refine sq_ev (v := .bool least_5) (fun w1 hw1 => ev_move rfl) (by decide) ?_
   obtain ⟨z25, hz27, hS⟩ := bind_some' hS
   refine sq_join (m := 22) (C := fun (x : Bool) => z25 = x) (l' := fun x => [(0, vl_0), (3, vout_3), (4, .int .i64 i_4), (6, .int .i64 k_6), (47, .bool x)]) ?_ ?_
   ·rintro _ rfl
    refine sq_ev (v := .bool z25) (fun w1 hw1 => ev_assign rfl) (by decide) ?_
    refine sq_end (l' := [(0, vl_0), (3, vout_3), (4, .int .i64 i_4), (5, .bool z25), (6, .int .i64 k_6)]) (.cons rfl (.cons rfl (.cons rfl (.cons rfl (.cons rfl (.nil _)))))) (fun w22 hw21 => ?_)
    replace hb := hb.trans (hw21.mono hb.size)
    replace hA := lt_mono hA hw21.size
    replace hH := hH.below hw21
    replace hl_0 := hl_0.below hw21
    replace hout_3 := hout_3.below hw21
    refine ke_inBlock ?_
    refine ke_region ?_
    refine sr_ev (v := .int .i64 k_6) (ev_move rfl) (by decide) ?_
    refine sr_ev (v := .int .i64 (IntKind.i64.wrap (k_6 + 1))) (ev_add rfl rfl) (by decide) ?_
    refine sr_ev (v := .int .i64 (IntKind.i64.wrap (k_6 + 1))) (ev_assign rfl) (by decide) ?_
    refine sr_end (l' := [(0, vl_0), (3, vout_3), (4, .int .i64 i_4), (5, .bool z25), (6, .int .i64 (IntKind.i64.wrap (k_6 + 1)))]) (.cons rfl (.cons rfl (.cons rfl (.cons rfl (.cons rfl (.nil _)))))) ?_
    have hK := hr1 hS hb hA hi hH hl_0 hout_3
    exact ke_weaken (l' := [(0, vl_0), (3, vout_3), (4, .int .i64 i_4), (5, .bool z25), (6, .int .i64 (IntKind.i64.wrap (k_6 + 1)))]) (.cons rfl (.cons rfl (.cons rfl (.cons rfl (.cons rfl (.nil _)))))) hK
   ·intro K24
    clear hS
    rcases Bool.eq_false_or_eq_true least_5 with hg23 | hg23
    ·have hS := ite_true' hz27 hg23
     refine sq_evg (b := true) (e := 25) rfl rfl hg23 (v := vl_0) (fun w1 hw1 => ev_move rfl) (by decide) ?_
     refine sq_evg (b := true) (e := 25) rfl rfl hg23 (v := .int .i64 k_6) (fun w1 hw1 => ev_move rfl) (by decide) ?_
     obtain ⟨y30, hy31, hS⟩ := bind_some' hS
     obtain ⟨b32, o33, cs35, he34, hixhe34⟩ := hl_0.elem Try.underlying30 Try.info9 rfl (P := Try.prog) hy31
     obtain rfl : cs35 = [str y30] := he34.rd
     refine sq_evg (b := true) (e := 25) rfl rfl hg23 (v := .pointer (some ⟨b32, o33, none⟩)) (fun w1 hw1 => hixhe34 w1 hw1 rfl rfl) (by decide) ?_
     refine sq_evg (b := true) (e := 25) rfl rfl hg23 (v := str y30) (fun w1 hw1 => ev_load Try.isAgg9 rfl ((he34.step (.of_below hw1) (Nat.succ_pos _)).cell 0 _ rfl)) (by decide) ?_
     refine sq_evg (b := true) (e := 25) rfl rfl hg23 (v := vl_0) (fun w1 hw1 => ev_move rfl) (by decide) ?_
     refine sq_evg (b := true) (e := 25) rfl rfl hg23 (v := .int .i64 i_4) (fun w1 hw1 => ev_move rfl) (by decide) ?_
     obtain ⟨y36, hy37, hS⟩ := bind_some' hS
     obtain ⟨b38, o39, cs41, he40, hixhe40⟩ := hl_0.elem Try.underlying30 Try.info9 rfl (P := Try.prog) hy37
     obtain rfl : cs41 = [str y36] := he40.rd
     refine sq_evg (b := true) (e := 25) rfl rfl hg23 (v := .pointer (some ⟨b38, o39, none⟩)) (fun w1 hw1 => hixhe40 w1 hw1 rfl rfl) (by decide) ?_
     refine sq_evg (b := true) (e := 25) rfl rfl hg23 (v := str y36) (fun w1 hw1 => ev_load Try.isAgg9 rfl ((he40.step (.of_below hw1) (Nat.succ_pos _)).cell 0 _ rfl)) (by decide) ?_
     refine sq_evg (b := true) (e := 25) rfl rfl hg23 (v := .bool (y30 == y36)) (fun w1 hw1 => ev_seq rfl rfl) (by decide) ?_
     refine sq_evg (b := true) (e := 25) rfl rfl hg23 (v := .bool (y30 == y36)) (fun w1 hw1 => ev_move rfl) (by decide) ?_
     obtain ⟨z44, hz46, hS⟩ := bind_some' hS
     refine sq_join (m := 11) (C := fun (x : Bool) => z44 = x) (l' := fun x => [(0, vl_0), (3, vout_3), (4, .int .i64 i_4), (6, .int .i64 k_6), (25, .bool least_5), (46, .bool x)]) ?_ ?_
     ·rintro _ rfl
      refine sq_ev (v := .bool z44) (fun w1 hw1 => ev_pick_t rfl hg23 rfl) (by decide) ?_
      exact sq_weaken (l' := [(0, vl_0), (3, vout_3), (4, .int .i64 i_4), (6, .int .i64 k_6), (47, .bool z44)]) (.cons rfl (.cons rfl (.cons rfl (.cons rfl (.cons rfl (.nil _)))))) (K24 z44 (Option.some.inj hS).symm)
     ·intro K43
      clear hS
      rcases Bool.eq_false_or_eq_true (y30 == y36) with hg42 | hg42
      ·have hS := ite_true' hz46 hg42
       refine sq_pass (e := 35) rfl rfl (by rw [hg42]; rfl) (by decide) ?_
       refine sq_pass (e := 35) rfl rfl (by rw [hg42]; rfl) (by decide) ?_
       refine sq_pass (e := 35) rfl rfl (by rw [hg42]; rfl) (by decide) ?_
       refine sq_pass (e := 35) rfl rfl (by rw [hg42]; rfl) (by decide) ?_
       refine sq_pass (e := 35) rfl rfl (by rw [hg42]; rfl) (by decide) ?_
       refine sq_pass (e := 35) rfl rfl (by rw [hg42]; rfl) (by decide) ?_
       refine sq_pass (e := 35) rfl rfl (by rw [hg42]; rfl) (by decide) ?_
       refine sq_pass (e := 35) rfl rfl (by rw [hg42]; rfl) (by decide) ?_
       refine sq_pass (e := 35) rfl rfl (by rw [hg42]; rfl) (by decide) ?_
       refine sq_pass (e := 35) rfl rfl (by rw [hg42]; rfl) (by decide) ?_
       refine sq_evg (b := true) (e := 25) rfl rfl hg23 (v := .bool true) (fun w1 hw1 => ev_pick_t rfl hg42 rfl) (by decide) ?_
       exact sq_weaken (l' := [(0, vl_0), (3, vout_3), (4, .int .i64 i_4), (6, .int .i64 k_6), (25, .bool least_5), (46, .bool true)]) (.cons rfl (.cons rfl (.cons rfl (.cons rfl (.cons rfl (.cons rfl (.nil _))))))) (K43 true (Option.some.inj hS).symm)
      ·have hS := ite_false' hz46 hg42
       refine sq_evg (b := false) (e := 35) rfl rfl hg42 (v := vl_0) (fun w1 hw1 => ev_move rfl) (by decide) ?_
       refine sq_evg (b := false) (e := 35) rfl rfl hg42 (v := .int .i64 k_6) (fun w1 hw1 => ev_move rfl) (by decide) ?_
       obtain ⟨y49, hy50, hS⟩ := bind_some' hS
       obtain ⟨b51, o52, cs54, he53, hixhe53⟩ := hl_0.elem Try.underlying30 Try.info9 rfl (P := Try.prog) hy50
       obtain rfl : cs54 = [str y49] := he53.rd
       refine sq_evg (b := false) (e := 35) rfl rfl hg42 (v := .pointer (some ⟨b51, o52, none⟩)) (fun w1 hw1 => hixhe53 w1 hw1 rfl rfl) (by decide) ?_
       refine sq_evg (b := false) (e := 35) rfl rfl hg42 (v := str y49) (fun w1 hw1 => ev_load Try.isAgg9 rfl ((he53.step (.of_below hw1) (Nat.succ_pos _)).cell 0 _ rfl)) (by decide) ?_
       refine sq_evg (b := false) (e := 35) rfl rfl hg42 (v := vl_0) (fun w1 hw1 => ev_move rfl) (by decide) ?_
       refine sq_evg (b := false) (e := 35) rfl rfl hg42 (v := .int .i64 i_4) (fun w1 hw1 => ev_move rfl) (by decide) ?_
       obtain ⟨y55, hy56, hS⟩ := bind_some' hS
       obtain ⟨b57, o58, cs60, he59, hixhe59⟩ := hl_0.elem Try.underlying30 Try.info9 rfl (P := Try.prog) hy56
       obtain rfl : cs60 = [str y55] := he59.rd
       refine sq_evg (b := false) (e := 35) rfl rfl hg42 (v := .pointer (some ⟨b57, o58, none⟩)) (fun w1 hw1 => hixhe59 w1 hw1 rfl rfl) (by decide) ?_
       refine sq_evg (b := false) (e := 35) rfl rfl hg42 (v := str y55) (fun w1 hw1 => ev_load Try.isAgg9 rfl ((he59.step (.of_below hw1) (Nat.succ_pos _)).cell 0 _ rfl)) (by decide) ?_
       obtain ⟨y61, hy62, hS⟩ := bind_some' hS
       refine sq_callg (b := false) (e := 35) rfl rfl hg42 (v := .bool y61) (vs := [str y49, str y55]) rfl Try.call54 rfl (fun w1 hw1 => (ref29_Implies_ok _ (hg.below (hb.trans (hw1.mono hb.size))) hy62)) (by decide) ?_
       refine sq_evg (b := false) (e := 35) rfl rfl hg42 (v := .bool (!y61)) (fun w1 hw1 => ev_not rfl) (by decide) ?_
       refine sq_evg (b := true) (e := 25) rfl rfl hg23 (v := .bool (!y61)) (fun w1 hw1 => ev_pick_f rfl hg42 rfl) (by decide) ?_
       exact sq_weaken (l' := [(0, vl_0), (3, vout_3), (4, .int .i64 i_4), (6, .int .i64 k_6), (25, .bool least_5), (46, .bool (!y61))]) (.cons rfl (.cons rfl (.cons rfl (.cons rfl (.cons rfl (.cons rfl (.nil _))))))) (K43 (!y61) (Option.some.inj hS).symm)
    ·have hS := ite_false' hz27 hg23
     refine sq_pass (e := 25) rfl rfl (by rw [hg23]; rfl) (by decide) ?_
     refine sq_pass (e := 25) rfl rfl (by rw [hg23]; rfl) (by decide) ?_
     refine sq_pass (e := 25) rfl rfl (by rw [hg23]; rfl) (by decide) ?_
     refine sq_pass (e := 25) rfl rfl (by rw [hg23]; rfl) (by decide) ?_
     refine sq_pass (e := 25) rfl rfl (by rw [hg23]; rfl) (by decide) ?_
     refine sq_pass (e := 25) rfl rfl (by rw [hg23]; rfl) (by decide) ?_
     refine sq_pass (e := 25) rfl rfl (by rw [hg23]; rfl) (by decide) ?_
     refine sq_pass (e := 25) rfl rfl (by rw [hg23]; rfl) (by decide) ?_
     refine sq_pass (e := 25) rfl rfl (by rw [hg23]; rfl) (by decide) ?_
     refine sq_pass (e := 25) rfl rfl (by rw [hg23]; rfl) (by decide) ?_
     refine sq_pass_undef (e := 35) rfl rfl (by decide) ?_
     refine sq_pass_undef (e := 35) rfl rfl (by decide) ?_
     refine sq_pass_undef (e := 35) rfl rfl (by decide) ?_
     refine sq_pass_undef (e := 35) rfl rfl (by decide) ?_
     refine sq_pass_undef (e := 35) rfl rfl (by decide) ?_
     refine sq_pass_undef (e := 35) rfl rfl (by decide) ?_
     refine sq_pass_undef (e := 35) rfl rfl (by decide) ?_
     refine sq_pass_undef (e := 35) rfl rfl (by decide) ?_
     refine sq_pass_undef (e := 35) rfl rfl (by decide) ?_
     refine sq_pass_undef (e := 35) rfl rfl (by decide) ?_
     refine sq_pass (e := 25) rfl rfl (by rw [hg23]; rfl) (by decide) ?_
     refine sq_ev (v := .bool false) (fun w1 hw1 => ev_pick_f rfl hg23 rfl) (by decide) ?_
     exact sq_weaken (l' := [(0, vl_0), (3, vout_3), (4, .int .i64 i_4), (6, .int .i64 k_6), (47, .bool false)]) (.cons rfl (.cons rfl (.cons rfl (.cons rfl (.cons rfl (.nil _)))))) (K24 false (Option.some.inj hS).symm)
  ·replace hS := ite_false' hS hc20
   refine ke_exit (k' := _) rfl ?_
   refine ke_seq ?_
   refine ke_region ?_
   refine sr_ev (v := .bool least_5) (ev_move rfl) (by decide) ?_
   refine sr_end (l' := [(0, vl_0), (3, vout_3), (4, .int .i64 i_4), (48, .bool least_5)]) (.cons rfl (.cons rfl (.cons rfl (.cons rfl (.nil _))))) ?_
   refine ke_cond (t := least_5) rfl (fun hc65 => ?_) (fun hc65 => ?_)
   ·replace hS := ite_true' hS hc65
    refine ke_region ?_
    refine sr_ev (v := vout_3) (ev_move rfl) (by decide) ?_
    refine sr_ev (v := vl_0) (ev_move rfl) (by decide) ?_
    refine sr_ev (v := .int .i64 i_4) (ev_move rfl) (by decide) ?_
    obtain ⟨y66, hy67, hS⟩ := bind_some' hS
    refine sr_index hl_0 Try.underlying30 Try.info9 rfl rfl rfl hy67 (by decide) ?_
    intro b68 o69 cs71 he70
    obtain rfl : cs71 = [str y66] := he70.rd
    refine sr_ev (v := str y66) (ev_load Try.isAgg9 rfl (he70.cell 0 _ rfl)) (by decide) ?_
    obtain ⟨y72, hy73, hS⟩ := bind_some' hS
    refine sr_call (vs := [vout_3, str y66]) rfl Try.call39 rfl (ref06_Insert_ok _ (hg.below hb) hout_3 hA hy73) (by decide) ?_
    rintro v76 w74 ⟨_, rfl, h77, hbw75⟩
    replace hb := hb.trans (hbw75.mono hb.size)
    replace hA := lt_mono hA hbw75.size
    replace hH := hH.below hbw75
    replace hl_0 := hl_0.below hbw75
    refine sr_ev (v := v76) (ev_assign rfl) (by decide) ?_
    refine sr_end (l' := [(0, vl_0), (3, v76), (4, .int .i64 i_4)]) (.cons rfl (.cons rfl (.cons rfl (.nil _)))) ?_
    have hK := ref29_Sorted_B3_ok hg hA0 _ _ hr0 hr1 hS hb hA hi hH hl_0 h77
    exact ke_weaken (l' := [(0, vl_0), (3, v76), (4, .int .i64 i_4)]) (.cons rfl (.cons rfl (.cons rfl (.nil _)))) hK
   ·replace hS := ite_false' hS hc65
    refine ke_skip ?_
    have hK := ref29_Sorted_B3_ok hg hA0 _ _ hr0 hr1 hS hb hA hi hH hl_0 hout_3
    exact ke_weaken (l' := [(0, vl_0), (3, vout_3), (4, .int .i64 i_4)]) (.cons rfl (.cons rfl (.cons rfl (.nil _)))) hK
theorem ref29_Sorted_L1_ok {w0 : World} (hg : Gs w0) {A0 : Nat → Prop} (hA0 : ∀ b, A0 b → b < w0.heap.size) : ∀ (n : Nat), ∀ {r : List Str} {l_0 : List Str} {out_3 : List Str} {i_4 : Int} {vl_0 : Value} {vout_3 : Value}, ref29_Sorted_L1 n l_0 out_3 i_4 = some r → ∀ {w : World} {A : Nat → Prop}, (Below w0.heap.size w0 w) → (∀ b, A b → b < w.heap.size) → (∀ b, A0 b → A b) → (Hp A w0.heap.size w []) → (SlR strC A w vl_0 l_0) → (SlR strC A w vout_3 out_3) → KE Try.prog 37 (Ret (fun v w' => ∃ x1, v = x1 ∧ SlR strC A0 w' x1 r ∧ Below w0.heap.size w0 w')) 56 [.code (sub (bodyOf Try.f37) [2, 2, 1, 2, 2, 1]), .inLoop (sub (bodyOf Try.f37) [2, 2, 1, 2, 2, 1]), .inBlock 0, .code (sub (bodyOf Try.f37) [2, 2, 2])] [(0, vl_0), (3, vout_3), (4, .int .i64 i_4)] w := by
 intro n
 induction n with
 | zero => intro r l_0 out_3 i_4 vl_0 vout_3 hS; cases hS
 | succ n ih =>
  have hr0 : ∀ {r : List Str} {l_0 : List Str} {out_3 : List Str} {i_4 : Int} {vl_0 : Value} {vout_3 : Value}, ref29_Sorted_L1 n l_0 out_3 i_4 = some r → ∀ {w : World} {A : Nat → Prop}, (Below w0.heap.size w0 w) → (∀ b, A b → b < w.heap.size) → (∀ b, A0 b → A b) → (Hp A w0.heap.size w []) → (SlR strC A w vl_0 l_0) → (SlR strC A w vout_3 out_3) → KE Try.prog 37 (Ret (fun v w' => ∃ x1, v = x1 ∧ SlR strC A0 w' x1 r ∧ Below w0.heap.size w0 w')) 56 [.inLoop (sub (bodyOf Try.f37) [2, 2, 1, 2, 2, 1]), .inBlock 0, .code (sub (bodyOf Try.f37) [2, 2, 2])] [(0, vl_0), (3, vout_3), (4, .int .i64 i_4)] w := fun {r} {l_0} {out_3} {i_4} {vl_0} {vout_3} hS {w} {A} hb hA hi hH hl_0 hout_3 => ke_inLoop (ih hS hb hA hi hH hl_0 hout_3)
  clear ih
  intro r l_0 out_3 i_4 vl_0 vout_3 hS w A hb hA hi hH hl_0 hout_3
  unfold ref29_Sorted_L1 at hS
  refine ke_seq ?_
  refine ke_seq ?_
  refine ke_region ?_
  refine sr_ev (v := .int .i64 i_4) (ev_move rfl) (by decide) ?_
  refine sr_ev (v := vl_0) (ev_move rfl) (by decide) ?_
  refine sr_ev (v := .int .i64 (l_0.length : Int)) (ev_sllen Try.underlying30 rfl hl_0) (by decide) ?_
  refine sr_ev (v := .bool (decide (i_4 < (l_0.length : Int)))) (ev_lt rfl rfl) (by decide) ?_
  refine sr_end (l' := [(0, vl_0), (3, vout_3), (4, .int .i64 i_4), (10, .bool (decide (i_4 < (l_0.length : Int))))]) (.cons rfl (.cons rfl (.cons rfl (.cons rfl (.nil _))))) ?_
  refine ke_cond (t := decide (i_4 < (l_0.length : Int))) rfl (fun hc7 => ?_) (fun hc7 => ?_)
  ·replace hS := ite_true' hS hc7
   refine ke_skip ?_
   refine ke_seq ?_
   refine ke_block ?_
   refine ke_seq ?_
   refine ke_region ?_
   refine sr_ev (v := vl_0) (ev_move rfl) (by decide) ?_
   refine sr_ev (v := .int .i64 i_4) (ev_move rfl) (by decide) ?_
   obtain ⟨y8, hy9, hS⟩ := bind_some' hS
   refine sr_index hl_0 Try.underlying30 Try.info9 rfl rfl rfl hy9 (by decide) ?_
   intro b10 o11 cs13 he12
   obtain rfl : cs13 = [str y8] := he12.rd
   refine sr_ev (v := str y8) (ev_load Try.isAgg9 rfl (he12.cell 0 _ rfl)) (by decide) ?_
   obtain ⟨y14, hy15, hS⟩ := bind_some' hS
   refine sr_call (vs := [str y8]) rfl Try.call53 rfl (ref29_Valid_ok _ (hg.below hb) hy15) (by decide) ?_
   rintro _ w16 ⟨rfl, hbw17⟩
   replace hb := hb.trans (hbw17.mono hb.size)
   replace hA := lt_mono hA hbw17.size
   replace hH := hH.below hbw17
   replace hl_0 := hl_0.below hbw17
   replace hout_3 := hout_3.below hbw17
   refine sr_ev (v := .bool y14) (ev_assign rfl) (by decide) ?_
   refine sr_end (l' := [(0, vl_0), (3, vout_3), (4, .int .i64 i_4), (5, .bool y14)]) (.cons rfl (.cons rfl (.cons rfl (.cons rfl (.nil _))))) ?_
   refine ke_seq ?_
   refine ke_seq ?_
   refine ke_region ?_
   refine sr_ev (v := .int .i64 0) (ev_assign rfl) (by decide) ?_
   refine sr_end (l' := [(0, vl_0), (3, vout_3), (4, .int .i64 i_4), (5, .bool y14), (6, .int .i64 0)]) (.cons rfl (.cons rfl (.cons rfl (.cons rfl (.cons rfl (.nil _)))))) ?_
   refine ke_block ?_
   have hK := ref29_Sorted_L2_ok hg hA0 _ hr0 _ hS hb hA hi hH hl_0 hout_3
   exact ke_weaken (l' := [(0, vl_0), (3, vout_3), (4, .int .i64 i_4), (5, .bool y14), (6, .int .i64 0)]) (.cons rfl (.cons rfl (.cons rfl (.cons rfl (.cons rfl (.nil _)))))) (ke_loop hK)
  ·replace hS := ite_false' hS hc7
   refine ke_exit (k' := _) rfl ?_
   refine ke_seq ?_
   refine ke_region ?_
   refine sr_ev (v := vout_3) (ev_move rfl) (by decide) ?_
   refine sr_ev (v := vout_3) (ev_assign rfl) (by decide) ?_
   refine sr_end (l' := [(2, vout_3)]) (.cons rfl (.nil _)) ?_
   cases hS
   exact ke_ret1 Try.func37 rfl rfl ⟨_, rfl, _, rfl, hout_3.weak hi, hb⟩
theorem ref29_Sorted_ok {A0 : Nat → Prop} (w0 : World) (hg : Gs w0) {l_0 : List Str} {v1 : Value} {r : List Str} (h2 : SlR strC A0 w0 v1 l_0) (hA0 : ∀ b, A0 b → b < w0.heap.size) (hS : ref29_Sorted l_0 = some r) :
  Calls Try.prog 37 #[v1] w0 (Ret (fun v w' => ∃ x1, v = x1 ∧ SlR strC A0 w' x1 r ∧ Below w0.heap.size w0 w')) := by
 unfold ref29_Sorted at hS
 have hb := Below.refl w0.heap.size w0
 have hA := hA0
 have hi : ∀ b, A0 b → A0 b := fun _ h => h
 have hH := Hp.nil A0 w0.heap.size w0
 refine calls_of_ke Try.func37 rfl (n := 56) rfl rfl (l := [(0, v1)]) rfl ?_
 refine ke_seq ?_
 refine ke_region ?_
 refine sr_ev (v := .slice none 0 0) (ev_assign rfl) (by decide) ?_
 refine sr_end (l' := [(0, v1)]) (.cons rfl (.nil _)) ?_
 refine ke_seq ?_
 refine ke_region ?_
 refine sr_ev (v := .slice none 0 0) (ev_assign rfl) (by decide) ?_
 refine sr_end (l' := [(0, v1), (3, .slice none 0 0)]) (.cons rfl (.cons rfl (.nil _))) ?_
 refine ke_seq ?_
 refine ke_seq ?_
 refine ke_region ?_
 refine sr_ev (v := .int .i64 0) (ev_assign rfl) (by decide) ?_
 refine sr_end (l' := [(0, v1), (3, .slice none 0 0), (4, .int .i64 0)]) (.cons rfl (.cons rfl (.cons rfl (.nil _)))) ?_
 refine ke_block ?_
 have hK := ref29_Sorted_L1_ok hg hA0 _ hS hb hA hi hH h2 SlR.nil
 exact ke_weaken (l' := [(0, v1), (3, (.slice none 0 0)), (4, .int .i64 0)]) (.cons rfl (.cons rfl (.cons rfl (.nil _)))) (ke_loop hK)
theorem ref32_Consents_Scopes_B2_ok {w0 : World} (hg : Gs w0) {ρA : Tags} (hbd : ∀ b, ρA b ≠ 0 → b < w0.heap.size) (hz : Gz (flat1 ρA)) (r0 : ref32_Consents → Int → Int → List Str → Int → Option (List Str))
  (hr0 : ∀ {r : List Str} {oc_0 : ref32_Consents} {now_3 : Int} {i_9 : Int} {out_10 : List Str} {k_11 : Int} {gc_0 : Nat} {vout_10 : Value}, r0 oc_0 now_3 i_9 out_10 k_11 = some r → ∀ {ρ : Tags} {w : World}, (Fr (flat1 ρA) w0 ρ w) → (ref32_Consents.O (fun _ => 1) ρ w gc_0 oc_0) → (OwnT strC 9 ρ 12 w vout_10 out_10) → KE Try.prog 18 (Ret (fun v w' => ∃ x1, v = x1 ∧ SlR strC (Wb ρA) w' x1 r ∧ Below w0.heap.size w0 w')) 69 [.inLoop (sub (bodyOf Try.f18) [2, 2, 2, 2, 2, 1, 2, 2, 1]), .inBlock 0, .code (sub (bodyOf Try.f18) [2, 2, 2, 2, 2, 2])] [(0, .pointer (some ⟨gc_0, 0, none⟩)), (3, .int .i64 now_3), (9, .int .i64 i_9), (10, vout_10), (11, .int .i64 k_11)] w) {r : List Str} {oc_0 : ref32_Consents} {now_3 : Int} {i_9 : Int} {out_10 : List Str} {k_11 : Int} {gc_0 : Nat} {vout_10 : Value} (hS : ref32_Consents_Scopes_B2 r0 oc_0 now_3 i_9 out_10 k_11 = some r) {ρ : Tags} {w : World} (hb : Fr (flat1 ρA) w0 ρ w) (hoc_0 : ref32_Consents.O (fun _ => 1) ρ w gc_0 oc_0) (hout_10 : OwnT strC 9 ρ 12 w vout_10 out_10) :
  KE Try.prog 18 (Ret (fun v w' => ∃ x1, v = x1 ∧ SlR strC (Wb ρA) w' x1 r ∧ Below w0.heap.size w0 w')) 69 [.inBlock 1, .code (sub (bodyOf Try.f18) [2, 2, 2, 2, 2, 1, 2, 2, 1, 2, 2]), .inLoop (sub (bodyOf Try.f18) [2, 2, 2, 2, 2, 1, 2, 2, 1]), .inBlock 0, .code (sub (bodyOf Try.f18) [2, 2, 2, 2, 2, 2])] [(0, .pointer (some ⟨gc_0, 0, none⟩)), (3, .int .i64 now_3), (9, .int .i64 i_9), (10, vout_10), (11, .int .i64 k_11)] w := by
 unfold ref32_Consents_Scopes_B2 at hS
 obtain ⟨v95, hB97, h96⟩ := hoc_0
 replace hB97 : Blk ρ 1 w gc_0 (.cells #[.bool oc_0.made, v95] 55 (0, 0)) := hB97
 replace h96 : OwnT ref32_pair.c 63 ρ 1 w v95 oc_0.pairs := h96
 refine ke_inBlock ?_
 refine ke_region ?_
 refine sr_ev (v := .int .i64 k_11) (ev_move rfl) (by decide) ?_
 refine sr_ev (v := .int .i64 (IntKind.i64.wrap (k_11 + 1))) (ev_add rfl rfl) (by decide) ?_
 refine sr_ev (v := .int .i64 (IntKind.i64.wrap (k_11 + 1))) (ev_assign rfl) (by decide) ?_
 refine sr_end (l' := [(0, .pointer (some ⟨gc_0, 0, none⟩)), (3, .int .i64 now_3), (9, .int .i64 i_9), (10, vout_10), (11, .int .i64 (IntKind.i64.wrap (k_11 + 1)))]) (.cons rfl (.cons rfl (.cons rfl (.cons rfl (.cons rfl (.nil _)))))) ?_
 have hK := hr0 hS hb ⟨_, hB97, h96⟩ hout_10
 exact ke_weaken (l' := [(0, .pointer (some ⟨gc_0, 0, none⟩)), (3, .int .i64 now_3), (9, .int .i64 i_9), (10, vout_10), (11, .int .i64 (IntKind.i64.wrap (k_11 + 1)))]) (.cons rfl (.cons rfl (.cons rfl (.cons rfl (.cons rfl (.nil _)))))) hK
theorem ref32_Consents_Scopes_L1_ok {w0 : World} (hg : Gs w0) {ρA : Tags} (hbd : ∀ b, ρA b ≠ 0 → b < w0.heap.size) (hz : Gz (flat1 ρA)) : ∀ (n : Nat), ∀ {r : List Str} {oc_0 : ref32_Consents} {now_3 : Int} {i_9 : Int} {out_10 : List Str} {k_11 : Int} {gc_0 : Nat} {vout_10 : Value}, ref32_Consents_Scopes_L1 n oc_0 now_3 i_9 out_10 k_11 = some r → ∀ {ρ : Tags} {w : World}, (Fr (flat1 ρA) w0 ρ w) → (ref32_Consents.O (fun _ => 1) ρ w gc_0 oc_0) → (OwnT strC 9 ρ 12 w vout_10 out_10) → KE Try.prog 18 (Ret (fun v w' => ∃ x1, v = x1 ∧ SlR strC (Wb ρA) w' x1 r ∧ Below w0.heap.size w0 w')) 69 [.code (sub (bodyOf Try.f18) [2, 2, 2, 2, 2, 1, 2, 2, 1]), .inLoop (sub (bodyOf Try.f18) [2, 2, 2, 2, 2, 1, 2, 2, 1]), .inBlock 0, .code (sub (bodyOf Try.f18) [2, 2, 2, 2, 2, 2])] [(0, .pointer (some ⟨gc_0, 0, none⟩)), (3, .int .i64 now_3), (9, .int .i64 i_9), (10, vout_10), (11, .int .i64 k_11)] w := by
 intro n
 induction n with
 | zero => intro r oc_0 now_3 i_9 out_10 k_11 gc_0 vout_10 hS; cases hS
 | succ n ih =>
  have hr0 : ∀ {r : List Str} {oc_0 : ref32_Consents} {now_3 : Int} {i_9 : Int} {out_10 : List Str} {k_11 : Int} {gc_0 : Nat} {vout_10 : Value}, ref32_Consents_Scopes_L1 n oc_0 now_3 i_9 out_10 k_11 = some r → ∀ {ρ : Tags} {w : World}, (Fr (flat1 ρA) w0 ρ w) → (ref32_Consents.O (fun _ => 1) ρ w gc_0 oc_0) → (OwnT strC 9 ρ 12 w vout_10 out_10) → KE Try.prog 18 (Ret (fun v w' => ∃ x1, v = x1 ∧ SlR strC (Wb ρA) w' x1 r ∧ Below w0.heap.size w0 w')) 69 [.inLoop (sub (bodyOf Try.f18) [2, 2, 2, 2, 2, 1, 2, 2, 1]), .inBlock 0, .code (sub (bodyOf Try.f18) [2, 2, 2, 2, 2, 2])] [(0, .pointer (some ⟨gc_0, 0, none⟩)), (3, .int .i64 now_3), (9, .int .i64 i_9), (10, vout_10), (11, .int .i64 k_11)] w := fun {r} {oc_0} {now_3} {i_9} {out_10} {k_11} {gc_0} {vout_10} hS {ρ} {w} hb hoc_0 hout_10 => ke_inLoop (ih hS hb hoc_0 hout_10)
  clear ih
  intro r oc_0 now_3 i_9 out_10 k_11 gc_0 vout_10 hS ρ w hb hoc_0 hout_10
  unfold ref32_Consents_Scopes_L1 at hS
  obtain ⟨v22, hB24, h23⟩ := hoc_0
  replace hB24 : Blk ρ 1 w gc_0 (.cells #[.bool oc_0.made, v22] 55 (0, 0)) := hB24
  replace h23 : OwnT ref32_pair.c 63 ρ 1 w v22 oc_0.pairs := h23
  refine ke_seq ?_
  refine ke_seq ?_
  refine ke_region ?_
  refine sr_ev (v := .int .i64 i_9) (ev_move rfl) (by decide) ?_
  refine sr_ev (v := .bool (decide (i_9 ≥ 0))) (ev_ge rfl rfl) (by decide) ?_
  refine sr_ev (v := .bool (decide (i_9 ≥ 0))) (ev_move rfl) (by decide) ?_
  obtain ⟨z29, hz31, hS⟩ := bind_some' hS
  refine sr_join (m := 12) (C := fun (z : Bool) w1 => z29 = z ∧ ∃ ρ1, Tr ρ w (fun _ => false) ρ1 w1) (l' := fun z => [(0, .pointer (some ⟨gc_0, 0, none⟩)), (3, .int .i64 now_3), (9, .int .i64 i_9), (10, vout_10), (11, .int .i64 k_11), (35, .bool z)]) ?_ ?_
  ·rintro _ w32 ⟨rfl, ρ33, hj30⟩
   replace hout_10 := hout_10.mv (hj30.mv (i := 12) rfl) (by decide)
   replace hB24 := hB24.mv (hj30.mv (i := 1) rfl)
   replace h23 := h23.mv (hj30.mv (i := 1) rfl) (by decide)
   replace hb := hb.trans hj30
   refine sr_end (l' := [(0, .pointer (some ⟨gc_0, 0, none⟩)), (3, .int .i64 now_3), (9, .int .i64 i_9), (10, vout_10), (11, .int .i64 k_11), (35, .bool z29)]) (.cons rfl (.cons rfl (.cons rfl (.cons rfl (.cons rfl (.cons rfl (.nil _))))))) ?_
   refine ke_cond (t := z29) rfl (fun hc46 => ?_) (fun hc46 => ?_)
   ·replace hS := ite_true' hS hc46
    refine ke_skip ?_
    refine ke_seq ?_
    refine ke_block ?_
    refine ke_seq ?_
    refine ke_region ?_
    refine sr_ev (v := .pointer (some ⟨gc_0, 0, none⟩)) (ev_move rfl) (by decide) ?_
    refine sr_ev (v := .pointer (some ⟨gc_0, 0, none⟩)) (ev_nilCheck rfl) (by decide) ?_
    refine sr_ev (v := .pointer (some ⟨gc_0, 1, none⟩)) (ev_fieldAddr (i := 1) Try.underlying55 rfl Try.info53 rfl rfl) (by decide) ?_
    refine sr_ev (v := v22) (ev_load Try.isAgg53 rfl (hB24.cell rfl)) (by decide) ?_
    refine sr_ev (v := .int .i64 i_9) (ev_move rfl) (by decide) ?_
    obtain ⟨y47, hy48, hS⟩ := bind_some' hS
    obtain ⟨b49, o50, cs52, hq53, he51, hg56, ho57⟩ := h23.elemQ (P := Try.prog) Try.underlying53 Try.info63 rfl hy48
    obtain ⟨v54, hcshe51, h55⟩ := he51.rd
    obtain rfl : cs52 = [str y47.user, str y47.client, v54] := hcshe51
    refine sr_ev (v := .pointer (some ⟨b49, o50, none⟩)) (hq53 w32 rfl rfl) (by decide) ?_
    refine sr_ev (v := .pointer (some ⟨b49, o50 + 2, none⟩)) (ev_fieldAddr (i := 2) Try.underlying63 rfl Try.info61 rfl rfl) (by decide) ?_
    refine sr_ev (v := v54) (ev_load Try.isAgg61 rfl (he51.cell 2 _ rfl)) (by decide) ?_
    refine sr_ev (v := .int .i64 k_11) (ev_move rfl) (by decide) ?_
    obtain ⟨y58, hy59, hS⟩ := bind_some' hS
    obtain ⟨b60, o61, cs63, hq64, he62⟩ := ((SlT.of_sl (i := 0) h55)).elem (P := Try.prog) Try.underlying61 Try.info65 rfl hy59
    obtain rfl : cs63 = [str y58.scope, .int .i64 y58.until_] := he62.rd
    refine sr_ev (v := .pointer (some ⟨b60, o61, none⟩)) (hq64 w32 rfl rfl) (by decide) ?_
    refine sr_ev (v := .pointer (some ⟨b60, o61 + 1, none⟩)) (ev_fieldAddr (i := 1) Try.underlying65 rfl Try.info3 rfl rfl) (by decide) ?_
    refine sr_ev (v := .int .i64 y58.until_) (ev_load Try.isAgg3 rfl (he62.cell 1 _ rfl)) (by decide) ?_
    refine sr_ev (v := .int .i64 now_3) (ev_move rfl) (by decide) ?_
    refine sr_ev (v := .bool (decide (y58.until_ > now_3))) (ev_gt rfl rfl) (by decide) ?_
    refine sr_end (l' := [(0, .pointer (some ⟨gc_0, 0, none⟩)), (3, .int .i64 now_3), (9, .int .i64 i_9), (10, vout_10), (11, .int .i64 k_11), (51, .bool (decide (y58.until_ > now_3)))]) (.cons rfl (.cons rfl (.cons rfl (.cons rfl (.cons rfl (.cons rfl (.nil _))))))) ?_
    refine ke_cond (t := decide (y58.until_ > now_3)) rfl (fun hc65 => ?_) (fun hc65 => ?_)
    ·replace hS := ite_true' hS hc65
     refine ke_region ?_
     refine sr_ev (v := vout_10) (ev_move rfl) (by decide) ?_
     refine sr_ev (v := .pointer (some ⟨gc_0, 0, none⟩)) (ev_move rfl) (by decide) ?_
     refine sr_ev (v := .pointer (some ⟨gc_0, 0, none⟩)) (ev_nilCheck rfl) (by decide) ?_
     refine sr_ev (v := .pointer (some ⟨gc_0, 1, none⟩)) (ev_fieldAddr (i := 1) Try.underlying55 rfl Try.info53 rfl rfl) (by decide) ?_
     refine sr_ev (v := v22) (ev_load Try.isAgg53 rfl (hB24.cell rfl)) (by decide) ?_
     refine sr_ev (v := .int .i64 i_9) (ev_move rfl) (by decide) ?_
     obtain ⟨y66, hy67, hS⟩ := bind_some' hS
     obtain ⟨b68, o69, cs71, hq72, he70, hg75, ho76⟩ := h23.elemQ (P := Try.prog) Try.underlying53 Try.info63 rfl hy67
     obtain ⟨v73, hcshe70, h74⟩ := he70.rd
     obtain rfl : cs71 = [str y66.user, str y66.client, v73] := hcshe70
     refine sr_ev (v := .pointer (some ⟨b68, o69, none⟩)) (hq72 w32 rfl rfl) (by decide) ?_
     refine sr_ev (v := .pointer (some ⟨b68, o69 + 2, none⟩)) (ev_fieldAddr (i := 2) Try.underlying63 rfl Try.info61 rfl rfl) (by decide) ?_
     refine sr_ev (v := v73) (ev_load Try.isAgg61 rfl (he70.cell 2 _ rfl)) (by decide) ?_
     refine sr_ev (v := .int .i64 k_11) (ev_move rfl) (by decide) ?_
     obtain ⟨y77, hy78, hS⟩ := bind_some' hS
     obtain ⟨b79, o80, cs82, hq83, he81⟩ := ((SlT.of_sl (i := 0) h74)).elem (P := Try.prog) Try.underlying61 Try.info65 rfl hy78
     obtain rfl : cs82 = [str y77.scope, .int .i64 y77.until_] := he81.rd
     refine sr_ev (v := .pointer (some ⟨b79, o80, none⟩)) (hq83 w32 rfl rfl) (by decide) ?_
     refine sr_ev (v := .pointer (some ⟨b79, o80 + 0, none⟩)) (ev_fieldAddr (i := 0) Try.underlying65 rfl Try.info9 rfl rfl) (by decide) ?_
     refine sr_ev (v := str y77.scope) (ev_load Try.isAgg9 rfl (he81.cell 0 _ rfl)) (by decide) ?_
     refine sr_litT (c := strC) (ρ := ρ33) (E := 9) (xs := [y77.scope]) (vs := #[(0, str y77.scope)]) (cs := #[str y77.scope]) (css := [[str y77.scope]]) rfl (fun _ => by kernel_rfl) rfl ⟨rfl, trivial⟩ rfl (by decide) hb.bd (by decide) ?_
     intro v84 w86 h85 hbw88
     have htr87 := Tr.of_below hbw88 hb.bd
     replace hout_10 := hout_10.mv (htr87.mv (i := 12) rfl) (by decide)
     replace hB24 := hB24.mv (htr87.mv (i := 1) rfl)
     replace h23 := h23.mv (htr87.mv (i := 1) rfl) (by decide)
     replace hb := hb.trans htr87
     obtain ⟨hk89, hS⟩ := chk_some hS
     refine sr_appendT (i := 12) (c := strC) (ρ := ρ33) (E := 9) (xs := out_10) (ys := ([y77.scope] : List Str)) hout_10 ((SlT.of_sl (i := 0) h85)).x Try.underlying30 Try.info9 rfl rfl rfl (by decide) (by decide) (by decide) hb.bd hk89 rfl rfl (by decide) ?_
     intro v90 ρ92 w93 h91 htr94
     replace hB24 := hB24.mv (htr94.mv (i := 1) rfl)
     replace h23 := h23.mv (htr94.mv (i := 1) rfl) (by decide)
     replace hb := hb.trans htr94
     refine sr_ev (v := v90) (ev_assign rfl) (by decide) ?_
     refine sr_end (l' := [(0, .pointer (some ⟨gc_0, 0, none⟩)), (3, .int .i64 now_3), (9, .int .i64 i_9), (10, v90), (11, .int .i64 k_11)]) (.cons rfl (.cons rfl (.cons rfl (.cons rfl (.cons rfl (.nil _)))))) ?_
     have hK := ref32_Consents_Scopes_B2_ok hg hbd hz _ hr0 hS hb ⟨_, hB24, h23⟩ h91
     exact ke_weaken (l' := [(0, .pointer (some ⟨gc_0, 0, none⟩)), (3, .int .i64 now_3), (9, .int .i64 i_9), (10, v90), (11, .int .i64 k_11)]) (.cons rfl (.cons rfl (.cons rfl (.cons rfl (.cons rfl (.nil _)))))) hK
    ·replace hS := ite_false' hS hc65
     refine ke_skip ?_
     have hK := ref32_Consents_Scopes_B2_ok hg hbd hz _ hr0 hS hb ⟨_, hB24, h23⟩ hout_10
     exact ke_weaken (l' := [(0, .pointer (some ⟨gc_0, 0, none⟩)), (3, .int .i64 now_3), (9, .int .i64 i_9), (10, vout_10), (11, .int .i64 k_11)]) (.cons rfl (.cons rfl (.cons rfl (.cons rfl (.cons rfl (.nil _)))))) hK
   ·replace hS := ite_false' hS hc46
    refine ke_exit (k' := _) rfl ?_
    refine ke_seq ?_
    refine ke_region ?_
    refine sr_ev (v := vout_10) (ev_move rfl) (by decide) ?_
    have htr100 := frz_tr (ρ := ρ33) (w := w32) (i := 12) (by decide) hb.bd
    have h101 : SlR strC (Wb (frz ρ33 12)) w32 vout_10 out_10 := (SlT.mv hout_10.sl (frz_mv (ρ := ρ33) (w := w32) (i := 12))).sl
    replace hb := hb.trans htr100
    obtain ⟨y102, hy103, hS⟩ := bind_some' hS
    refine sr_call (vs := [vout_10]) rfl Try.call37 rfl (ref29_Sorted_ok (A0 := Wb (frz ρ33 12)) _ (hg.fr hz hb) h101 hb.bd hy103) (by decide) ?_
    rintro v107 w104 ⟨_, rfl, h108, hbw105⟩
    have htr106 := Tr.of_below hbw105 hb.bd
    replace hb := hb.trans htr106
    refine sr_ev (v := v107) (ev_assign rfl) (by decide) ?_
    refine sr_end (l' := [(8, v107)]) (.cons rfl (.nil _)) ?_
    cases hS
    exact ke_ret1 Try.func18 rfl rfl ⟨_, rfl, _, rfl, (SlR.mv h108 (flat1_back hb hbd)), (hb.below (flat1_le _))⟩
  ·intro K28
   clear hS
   have hj30 : Tr ρ w (fun _ => false) ρ w := (Tr.refl hb.bd).weak (fun _ _ => rfl) rfl rfl
   rcases Bool.eq_false_or_eq_true (decide (i_9 ≥ 0)) with hg27 | hg27
   ·have hS := ite_true' hz31 hg27
    refine sr_evg (b := true) (e := 23) rfl rfl hg27 (v := .int .i64 k_11) (ev_move rfl) (by decide) ?_
    refine sr_evg (b := true) (e := 23) rfl rfl hg27 (v := .pointer (some ⟨gc_0, 0, none⟩)) (ev_move rfl) (by decide) ?_
    refine sr_evg (b := true) (e := 23) rfl rfl hg27 (v := .pointer (some ⟨gc_0, 0, none⟩)) (ev_nilCheck rfl) (by decide) ?_
    refine sr_evg (b := true) (e := 23) rfl rfl hg27 (v := .pointer (some ⟨gc_0, 1, none⟩)) (ev_fieldAddr (i := 1) Try.underlying55 rfl Try.info53 rfl rfl) (by decide) ?_
    refine sr_evg (b := true) (e := 23) rfl rfl hg27 (v := v22) (ev_load Try.isAgg53 rfl (hB24.cell rfl)) (by decide) ?_
    refine sr_evg (b := true) (e := 23) rfl rfl hg27 (v := .int .i64 i_9) (ev_move rfl) (by decide) ?_
    obtain ⟨y35, hy36, hS⟩ := bind_some' hS
    obtain ⟨b37, o38, cs40, hq41, he39, hg44, ho45⟩ := h23.elemQ (P := Try.prog) Try.underlying53 Try.info63 rfl hy36
    obtain ⟨v42, hcshe39, h43⟩ := he39.rd
    obtain rfl : cs40 = [str y35.user, str y35.client, v42] := hcshe39
    refine sr_evg (b := true) (e := 23) rfl rfl hg27 (v := .pointer (some ⟨b37, o38, none⟩)) (hq41 w rfl rfl) (by decide) ?_
    refine sr_evg (b := true) (e := 23) rfl rfl hg27 (v := .pointer (some ⟨b37, o38 + 2, none⟩)) (ev_fieldAddr (i := 2) Try.underlying63 rfl Try.info61 rfl rfl) (by decide) ?_
    refine sr_evg (b := true) (e := 23) rfl rfl hg27 (v := v42) (ev_load Try.isAgg61 rfl (he39.cell 2 _ rfl)) (by decide) ?_
    refine sr_evg (b := true) (e := 23) rfl rfl hg27 (v := .int .i64 (y35.items.length : Int)) (ev_sllen Try.underlying61 rfl h43.asSl) (by decide) ?_
    refine sr_evg (b := true) (e := 23) rfl rfl hg27 (v := .bool (decide (k_11 < (y35.items.length : Int)))) (ev_lt rfl rfl) (by decide) ?_
    refine sr_ev (v := .bool (decide (k_11 < (y35.items.length : Int)))) (ev_pick_t rfl hg27 rfl) (by decide) ?_
    exact sr_weaken (l' := [(0, .pointer (some ⟨gc_0, 0, none⟩)), (3, .int .i64 now_3), (9, .int .i64 i_9), (10, vout_10), (11, .int .i64 k_11), (35, .bool (decide (k_11 < (y35.items.length : Int))))]) (.cons rfl (.cons rfl (.cons rfl (.cons rfl (.cons rfl (.cons rfl (.nil _))))))) (K28 (decide (k_11 < (y35.items.length : Int))) _ ⟨(Option.some.inj hS).symm, _, hj30⟩)
   ·have hS := ite_false' hz31 hg27
    refine sr_pass (e := 23) rfl rfl (by rw [hg27]; rfl) (by decide) ?_
    refine sr_pass (e := 23) rfl rfl (by rw [hg27]; rfl) (by decide) ?_
    refine sr_pass (e := 23) rfl rfl (by rw [hg27]; rfl) (by decide) ?_
    refine sr_pass (e := 23) rfl rfl (by rw [hg27]; rfl) (by decide) ?_
    refine sr_pass (e := 23) rfl rfl (by rw [hg27]; rfl) (by decide) ?_
    refine sr_pass (e := 23) rfl rfl (by rw [hg27]; rfl) (by decide) ?_
    refine sr_pass (e := 23) rfl rfl (by rw [hg27]; rfl) (by decide) ?_
    refine sr_pass (e := 23) rfl rfl (by rw [hg27]; rfl) (by decide) ?_
    refine sr_pass (e := 23) rfl rfl (by rw [hg27]; rfl) (by decide) ?_
    refine sr_pass (e := 23) rfl rfl (by rw [hg27]; rfl) (by decide) ?_
    refine sr_pass (e := 23) rfl rfl (by rw [hg27]; rfl) (by decide) ?_
    refine sr_ev (v := .bool false) (ev_pick_f rfl hg27 rfl) (by decide) ?_
    exact sr_weaken (l' := [(0, .pointer (some ⟨gc_0, 0, none⟩)), (3, .int .i64 now_3), (9, .int .i64 i_9), (10, vout_10), (11, .int .i64 k_11), (35, .bool false)]) (.cons rfl (.cons rfl (.cons rfl (.cons rfl (.cons rfl (.cons rfl (.nil _))))))) (K28 false _ ⟨(Option.some.inj hS).symm, _, hj30⟩)
theorem ref32_Consents_Scopes_ok (w0 : World) (hg : Gs w0) {ρA : Tags} (hbd : ∀ b, ρA b ≠ 0 → b < w0.heap.size) (hz : Gz ρA) {τ0 : Nat → Nat} (hτ0 : ∀ p, 1 ≤ τ0 p) {c_0 : ref32_Consents} {user_1 : Str} {client_2 : Str} {now_3 : Int} {gc_0 : Nat} {r : List Str} (ho0 : ref32_Consents.O τ0 ρA w0 gc_0 c_0) (hS : ref32_Consents_Scopes c_0 user_1 client_2 now_3 = some r) :
  Calls Try.prog 18 #[.pointer (some ⟨gc_0, 0, none⟩), str user_1, str client_2, .int .i64 now_3] w0 (Ret (fun v w' => ∃ x1, v = x1 ∧ SlR strC (Wb ρA) w' x1 r ∧ Below w0.heap.size w0 w')) := by
 unfold ref32_Consents_Scopes at hS
 have hb := flat1_fr (ρ := ρA) (w := w0) hbd
 have hz := hz.flat1
 obtain ⟨v1, hB3, h2⟩ := ho0
 replace hB3 := hB3.mv (flat1_mv (hτ0 0))
 replace h2 := h2.mv (flat1_mv (hτ0 1)) (by decide)
 replace hB3 : Blk (flat1 ρA) 1 w0 gc_0 (.cells #[.bool c_0.made, v1] 55 (0, 0)) := hB3
 replace h2 : OwnT ref32_pair.c 63 (flat1 ρA) 1 w0 v1 c_0.pairs := h2
 refine calls_of_ke Try.func18 rfl (n := 69) rfl rfl (l := [(0, .pointer (some ⟨gc_0, 0, none⟩)), (1, str user_1), (2, str client_2), (3, .int .i64 now_3)]) rfl ?_
 refine ke_seq ?_
 refine ke_region ?_
 refine sr_ev (v := .slice none 0 0) (ev_assign rfl) (by decide) ?_
 refine sr_end (l' := [(0, .pointer (some ⟨gc_0, 0, none⟩)), (1, str user_1), (2, str client_2), (3, .int .i64 now_3)]) (.cons rfl (.cons rfl (.cons rfl (.cons rfl (.nil _))))) ?_
 refine ke_seq ?_
 refine ke_seq ?_
 refine ke_region ?_
 refine sr_ev (v := .pointer (some ⟨gc_0, 0, none⟩)) (ev_move rfl) (by decide) ?_
 obtain ⟨y6, hy7, hS⟩ := bind_some' hS
 refine sr_call (vs := [.pointer (some ⟨gc_0, 0, none⟩)]) rfl Try.call33 rfl (ref32_Consents_Made_ok _ (hg.fr hz hb) (ρA := (flat1 ρA)) hb.bd (hz.fr hg hb) (τ0 := (fun _ => 1)) (fun _ => Nat.le_refl 1) (⟨_, hB3, h2⟩ : ref32_Consents.O (fun _ => 1) (flat1 ρA) w0 gc_0 c_0) hy7) (by decide) ?_
 rintro _ w8 ⟨rfl, hbw9⟩
 have htr10 := Tr.of_below hbw9 hb.bd
 replace hB3 := hB3.mv (htr10.mv (i := 1) rfl)
 replace h2 := h2.mv (htr10.mv (i := 1) rfl) (by decide)
 replace hb := hb.trans htr10
 refine sr_ev (v := .bool (!y6)) (ev_not rfl) (by decide) ?_
 refine sr_end (l' := [(0, .pointer (some ⟨gc_0, 0, none⟩)), (1, str user_1), (2, str client_2), (3, .int .i64 now_3), (14, .bool (!y6))]) (.cons rfl (.cons rfl (.cons rfl (.cons rfl (.cons rfl (.nil _)))))) ?_
 refine ke_cond (t := !y6) rfl (fun hc11 => ?_) (fun hc11 => ?_)
 ·replace hS := ite_true' hS hc11
  refine ke_seq ?_
  refine ke_region ?_
  refine sr_ev (v := .slice none 0 0) (ev_assign rfl) (by decide) ?_
  refine sr_end (l' := [(8, .slice none 0 0)]) (.cons rfl (.nil _)) ?_
  cases hS
  exact ke_ret1 Try.func18 rfl rfl ⟨_, rfl, _, rfl, SlR.nil, (hb.below (flat1_le _))⟩
 ·replace hS := ite_false' hS hc11
  refine ke_skip ?_
  refine ke_seq ?_
  refine ke_region ?_
  refine sr_ev (v := .int .i64 now_3) (ev_move rfl) (by decide) ?_
  obtain ⟨y12, hy13, hS⟩ := bind_some' hS
  refine sr_call (vs := [.int .i64 now_3]) rfl Try.call35 rfl (ref22_Limited_ok _ (hg.fr hz hb) hy13) (by decide) ?_
  rintro _ w14 ⟨rfl, hbw15⟩
  have htr16 := Tr.of_below hbw15 hb.bd
  replace hB3 := hB3.mv (htr16.mv (i := 1) rfl)
  replace h2 := h2.mv (htr16.mv (i := 1) rfl) (by decide)
  replace hb := hb.trans htr16
  refine sr_ev (v := .int .i64 y12) (ev_assign rfl) (by decide) ?_
  refine sr_end (l' := [(0, .pointer (some ⟨gc_0, 0, none⟩)), (1, str user_1), (2, str client_2), (3, .int .i64 y12)]) (.cons rfl (.cons rfl (.cons rfl (.cons rfl (.nil _))))) ?_
  refine ke_seq ?_
  refine ke_region ?_
  refine sr_ev (v := .pointer (some ⟨gc_0, 0, none⟩)) (ev_move rfl) (by decide) ?_
  refine sr_ev (v := str user_1) (ev_move rfl) (by decide) ?_
  refine sr_ev (v := str client_2) (ev_move rfl) (by decide) ?_
  obtain ⟨y17, hy18, hS⟩ := bind_some' hS
  refine sr_call (vs := [.pointer (some ⟨gc_0, 0, none⟩), str user_1, str client_2]) rfl Try.call36 rfl (ref32_Consents_find_ok _ (hg.fr hz hb) (ρA := (flat1 ρA)) hb.bd (hz.fr hg hb) (τ0 := (fun _ => 1)) (fun _ => Nat.le_refl 1) (⟨_, hB3, h2⟩ : ref32_Consents.O (fun _ => 1) (flat1 ρA) w14 gc_0 c_0) hy18) (by decide) ?_
  rintro _ w19 ⟨rfl, hbw20⟩
  have htr21 := Tr.of_below hbw20 hb.bd
  replace hB3 := hB3.mv (htr21.mv (i := 1) rfl)
  replace h2 := h2.mv (htr21.mv (i := 1) rfl) (by decide)
  replace hb := hb.trans htr21
  refine sr_ev (v := .int .i64 y17) (ev_assign rfl) (by decide) ?_
  refine sr_end (l' := [(0, .pointer (some ⟨gc_0, 0, none⟩)), (3, .int .i64 y12), (9, .int .i64 y17)]) (.cons rfl (.cons rfl (.cons rfl (.nil _)))) ?_
  refine ke_seq ?_
  refine ke_region ?_
  refine sr_ev (v := .slice none 0 0) (ev_assign rfl) (by decide) ?_
  refine sr_end (l' := [(0, .pointer (some ⟨gc_0, 0, none⟩)), (3, .int .i64 y12), (9, .int .i64 y17), (10, .slice none 0 0)]) (.cons rfl (.cons rfl (.cons rfl (.cons rfl (.nil _))))) ?_
  refine ke_seq ?_
  refine ke_seq ?_
  refine ke_region ?_
  refine sr_ev (v := .int .i64 0) (ev_assign rfl) (by decide) ?_
  refine sr_end (l' := [(0, .pointer (some ⟨gc_0, 0, none⟩)), (3, .int .i64 y12), (9, .int .i64 y17), (10, .slice none 0 0), (11, .int .i64 0)]) (.cons rfl (.cons rfl (.cons rfl (.cons rfl (.cons rfl (.nil _)))))) ?_
  refine ke_block ?_
  have hK := ref32_Consents_Scopes_L1_ok hg hbd hz _ hS hb ⟨_, hB3, h2⟩ OwnT.nil
  exact ke_weaken (l' := [(0, .pointer (some ⟨gc_0, 0, none⟩)), (3, .int .i64 y12), (9, .int .i64 y17), (10, (.slice none 0 0)), (11, .int .i64 0)]) (.cons rfl (.cons rfl (.cons rfl (.cons rfl (.cons rfl (.nil _)))))) (ke_loop hK)
theorem ref29_covers_L1_ok {w0 : World} (hg : Gs w0) {A0 : Nat → Prop} (hA0 : ∀ b, A0 b → b < w0.heap.size) : ∀ (n : Nat), ∀ {r : Bool} {l_0 : List Str} {s_1 : Str} {i_5 : Int} {vl_0 : Value}, ref29_covers_L1 n l_0 s_1 i_5 = some r → ∀ {w : World} {A : Nat → Prop}, (Below w0.heap.size w0 w) → (∀ b, A b → b < w.heap.size) → (∀ b, A0 b → A b) → (Hp A w0.heap.size w []) → (SlR strC A w vl_0 l_0) → KE Try.prog 68 (Ret (fun v w' => v = .bool r ∧ Below w0.heap.size w0 w')) 18 [.code (sub (bodyOf Try.f68) [2, 1, 2, 2, 1]), .inLoop (sub (bodyOf Try.f68) [2, 1, 2, 2, 1]), .inBlock 0, .code (sub (bodyOf Try.f68) [2, 2])] [(0, vl_0), (1, str s_1), (5, .int .i64 i_5)] w := by
 intro n
 induction n with
 | zero => intro r l_0 s_1 i_5 vl_0 hS; cases hS
 | succ n ih =>
  have hr0 : ∀ {r : Bool} {l_0 : List Str} {s_1 : Str} {i_5 : Int} {vl_0 : Value}, ref29_covers_L1 n l_0 s_1 i_5 = some r → ∀ {w : World} {A : Nat → Prop}, (Below w0.heap.size w0 w) → (∀ b, A b → b < w.heap.size) → (∀ b, A0 b → A b) → (Hp A w0.heap.size w []) → (SlR strC A w vl_0 l_0) → KE Try.prog 68 (Ret (fun v w' => v = .bool r ∧ Below w0.heap.size w0 w')) 18 [.inLoop (sub (bodyOf Try.f68) [2, 1, 2, 2, 1]), .inBlock 0, .code (sub (bodyOf Try.f68) [2, 2])] [(0, vl_0), (1, str s_1), (5, .int .i64 i_5)] w := fun {r} {l_0} {s_1} {i_5} {vl_0} hS {w} {A} hb hA hi hH hl_0 => ke_inLoop (ih hS hb hA hi hH hl_0)
  clear ih
  intro r l_0 s_1 i_5 vl_0 hS w A hb hA hi hH hl_0
  unfold ref29_covers_L1 at hS
  refine ke_seq ?_
  refine ke_seq ?_
  refine ke_region ?_
  refine sr_ev (v := .int .i64 i_5) (ev_move rfl) (by decide) ?_
  refine sr_ev (v := vl_0) (ev_move rfl) (by decide) ?_
  refine sr_ev (v := .int .i64 (l_0.length : Int)) (ev_sllen Try.underlying30 rfl hl_0) (by decide) ?_
  refine sr_ev (v := .bool (decide (i_5 < (l_0.length : Int)))) (ev_lt rfl rfl) (by decide) ?_
  refine sr_end (l' := [(0, vl_0), (1, str s_1), (5, .int .i64 i_5), (9, .bool (decide (i_5 < (l_0.length : Int))))]) (.cons rfl (.cons rfl (.cons rfl (.cons rfl (.nil _))))) ?_
  refine ke_cond (t := decide (i_5 < (l_0.length : Int))) rfl (fun hc3 => ?_) (fun hc3 => ?_)
  ·replace hS := ite_true' hS hc3
   refine ke_skip ?_
   refine ke_seq ?_
   refine ke_block ?_
   refine ke_seq ?_
   refine ke_region ?_
   refine sr_ev (v := vl_0) (ev_move rfl) (by decide) ?_
   refine sr_ev (v := .int .i64 i_5) (ev_move rfl) (by decide) ?_
   obtain ⟨y4, hy5, hS⟩ := bind_some' hS
   refine sr_index hl_0 Try.underlying30 Try.info9 rfl rfl rfl hy5 (by decide) ?_
   intro b6 o7 cs9 he8
   obtain rfl : cs9 = [str y4] := he8.rd
   refine sr_ev (v := str y4) (ev_load Try.isAgg9 rfl (he8.cell 0 _ rfl)) (by decide) ?_
   refine sr_ev (v := str s_1) (ev_move rfl) (by decide) ?_
   obtain ⟨y10, hy11, hS⟩ := bind_some' hS
   refine sr_call (vs := [str y4, str s_1]) rfl Try.call54 rfl (ref29_Implies_ok _ (hg.below hb) hy11) (by decide) ?_
   rintro _ w12 ⟨rfl, hbw13⟩
   replace hb := hb.trans (hbw13.mono hb.size)
   replace hA := lt_mono hA hbw13.size
   replace hH := hH.below hbw13
   replace hl_0 := hl_0.below hbw13
   refine sr_end (l' := [(0, vl_0), (1, str s_1), (5, .int .i64 i_5), (17, .bool y10)]) (.cons rfl (.cons rfl (.cons rfl (.cons rfl (.nil _))))) ?_
   refine ke_cond (t := y10) rfl (fun hc14 => ?_) (fun hc14 => ?_)
   ·replace hS := ite_true' hS hc14
    refine ke_seq ?_
    refine ke_region ?_
    refine sr_ev (v := .bool true) (ev_assign rfl) (by decide) ?_
    refine sr_end (l' := [(4, .bool true)]) (.cons rfl (.nil _)) ?_
    cases hS
    exact ke_ret1 Try.func68 rfl rfl ⟨_, rfl, rfl, hb⟩
   ·replace hS := ite_false' hS hc14
    refine ke_skip ?_
    refine ke_inBlock ?_
    refine ke_region ?_
    refine sr_ev (v := .int .i64 i_5) (ev_move rfl) (by decide) ?_
    refine sr_ev (v := .int .i64 (IntKind.i64.wrap (i_5 + 1))) (ev_add rfl rfl) (by decide) ?_
    refine sr_ev (v := .int .i64 (IntKind.i64.wrap (i_5 + 1))) (ev_assign rfl) (by decide) ?_
    refine sr_end (l' := [(0, vl_0), (1, str s_1), (5, .int .i64 (IntKind.i64.wrap (i_5 + 1)))]) (.cons rfl (.cons rfl (.cons rfl (.nil _)))) ?_
    have hK := hr0 hS hb hA hi hH hl_0
    exact ke_weaken (l' := [(0, vl_0), (1, str s_1), (5, .int .i64 (IntKind.i64.wrap (i_5 + 1)))]) (.cons rfl (.cons rfl (.cons rfl (.nil _)))) hK
  ·replace hS := ite_false' hS hc3
   refine ke_exit (k' := _) rfl ?_
   refine ke_seq ?_
   refine ke_region ?_
   refine sr_ev (v := .bool false) (ev_assign rfl) (by decide) ?_
   refine sr_end (l' := [(4, .bool false)]) (.cons rfl (.nil _)) ?_
   cases hS
   exact ke_ret1 Try.func68 rfl rfl ⟨_, rfl, rfl, hb⟩
theorem ref29_covers_ok {A0 : Nat → Prop} (w0 : World) (hg : Gs w0) {l_0 : List Str} {s_1 : Str} {v1 : Value} {r : Bool} (h2 : SlR strC A0 w0 v1 l_0) (hS : ref29_covers l_0 s_1 = some r) :
  Calls Try.prog 68 #[v1, str s_1] w0 (Ret (fun v w' => v = .bool r ∧ Below w0.heap.size w0 w')) := by
 unfold ref29_covers at hS
 have hb := Below.refl w0.heap.size w0
 replace h2 := h2.weak (A' := fun _ => False) (fun _ h => h.elim)
 obtain ⟨A0, hA0, hAe⟩ : ∃ A0 : Nat → Prop, (∀ b, A0 b → b < w0.heap.size) ∧ A0 = fun _ => False := ⟨_, fun _ h => h.elim, rfl⟩
 rw [← hAe] at h2
 clear hAe
 have hA := hA0
 have hi : ∀ b, A0 b → A0 b := fun _ h => h
 have hH := Hp.nil A0 w0.heap.size w0
 refine calls_of_ke Try.func68 rfl (n := 18) rfl rfl (l := [(0, v1), (1, str s_1)]) rfl ?_
 refine ke_seq ?_
 refine ke_region ?_
 refine sr_ev (v := .bool false) (ev_assign rfl) (by decide) ?_
 refine sr_end (l' := [(0, v1), (1, str s_1)]) (.cons rfl (.cons rfl (.nil _))) ?_
 refine ke_seq ?_
 refine ke_seq ?_
 refine ke_region ?_
 refine sr_ev (v := .int .i64 0) (ev_assign rfl) (by decide) ?_
 refine sr_end (l' := [(0, v1), (1, str s_1), (5, .int .i64 0)]) (.cons rfl (.cons rfl (.cons rfl (.nil _)))) ?_
 refine ke_block ?_
 have hK := ref29_covers_L1_ok hg hA0 _ hS hb hA hi hH h2
 exact ke_weaken (l' := [(0, v1), (1, str s_1), (5, .int .i64 0)]) (.cons rfl (.cons rfl (.cons rfl (.nil _)))) (ke_loop hK)
theorem ref29_Within_L1_ok {w0 : World} (hg : Gs w0) {A0 : Nat → Prop} (hA0 : ∀ b, A0 b → b < w0.heap.size) : ∀ (n : Nat), ∀ {r : Bool} {a_0 : List Str} {b_1 : List Str} {i_5 : Int} {va_0 : Value} {vb_1 : Value}, ref29_Within_L1 n a_0 b_1 i_5 = some r → ∀ {w : World} {A : Nat → Prop}, (Below w0.heap.size w0 w) → (∀ b, A b → b < w.heap.size) → (∀ b, A0 b → A b) → (Hp A w0.heap.size w []) → (SlR strC A w va_0 a_0) → (SlR strC A w vb_1 b_1) → KE Try.prog 52 (Ret (fun v w' => v = .bool r ∧ Below w0.heap.size w0 w')) 19 [.code (sub (bodyOf Try.f52) [2, 1, 2, 2, 1]), .inLoop (sub (bodyOf Try.f52) [2, 1, 2, 2, 1]), .inBlock 0, .code (sub (bodyOf Try.f52) [2, 2])] [(0, va_0), (1, vb_1), (5, .int .i64 i_5)] w := by
 intro n
 induction n with
 | zero => intro r a_0 b_1 i_5 va_0 vb_1 hS; cases hS
 | succ n ih =>
  have hr0 : ∀ {r : Bool} {a_0 : List Str} {b_1 : List Str} {i_5 : Int} {va_0 : Value} {vb_1 : Value}, ref29_Within_L1 n a_0 b_1 i_5 = some r → ∀ {w : World} {A : Nat → Prop}, (Below w0.heap.size w0 w) → (∀ b, A b → b < w.heap.size) → (∀ b, A0 b → A b) → (Hp A w0.heap.size w []) → (SlR strC A w va_0 a_0) → (SlR strC A w vb_1 b_1) → KE Try.prog 52 (Ret (fun v w' => v = .bool r ∧ Below w0.heap.size w0 w')) 19 [.inLoop (sub (bodyOf Try.f52) [2, 1, 2, 2, 1]), .inBlock 0, .code (sub (bodyOf Try.f52) [2, 2])] [(0, va_0), (1, vb_1), (5, .int .i64 i_5)] w := fun {r} {a_0} {b_1} {i_5} {va_0} {vb_1} hS {w} {A} hb hA hi hH ha_0 hb_1 => ke_inLoop (ih hS hb hA hi hH ha_0 hb_1)
  clear ih
  intro r a_0 b_1 i_5 va_0 vb_1 hS w A hb hA hi hH ha_0 hb_1
  unfold ref29_Within_L1 at hS
  refine ke_seq ?_
  refine ke_seq ?_
  refine ke_region ?_
  refine sr_ev (v := .int .i64 i_5) (ev_move rfl) (by decide) ?_
  refine sr_ev (v := va_0) (ev_move rfl) (by decide) ?_
  refine sr_ev (v := .int .i64 (a_0.length : Int)) (ev_sllen Try.underlying30 rfl ha_0) (by decide) ?_
  refine sr_ev (v := .bool (decide (i_5 < (a_0.length : Int)))) (ev_lt rfl rfl) (by decide) ?_
  refine sr_end (l' := [(0, va_0), (1, vb_1), (5, .int .i64 i_5), (9, .bool (decide (i_5 < (a_0.length : Int))))]) (.cons rfl (.cons rfl (.cons rfl (.cons rfl (.nil _))))) ?_
  refine ke_cond (t := decide (i_5 < (a_0.length : Int))) rfl (fun hc5 => ?_) (fun hc5 => ?_)
  ·replace hS := ite_true' hS hc5
   refine ke_skip ?_
   refine ke_seq ?_
   refine ke_block ?_
   refine ke_seq ?_
   refine ke_region ?_
   refine sr_ev (v := vb_1) (ev_move rfl) (by decide) ?_
   refine sr_ev (v := va_0) (ev_move rfl) (by decide) ?_
   refine sr_ev (v := .int .i64 i_5) (ev_move rfl) (by decide) ?_
   obtain ⟨y6, hy7, hS⟩ := bind_some' hS
   refine sr_index ha_0 Try.underlying30 Try.info9 rfl rfl rfl hy7 (by decide) ?_
   intro b8 o9 cs11 he10
   obtain rfl : cs11 = [str y6] := he10.rd
   refine sr_ev (v := str y6) (ev_load Try.isAgg9 rfl (he10.cell 0 _ rfl)) (by decide) ?_
   obtain ⟨y12, hy13, hS⟩ := bind_some' hS
   refine sr_call (vs := [vb_1, str y6]) rfl Try.call68 rfl (ref29_covers_ok _ (hg.below hb) hb_1 hy13) (by decide) ?_
   rintro _ w14 ⟨rfl, hbw15⟩
   replace hb := hb.trans (hbw15.mono hb.size)
   replace hA := lt_mono hA hbw15.size
   replace hH := hH.below hbw15
   replace ha_0 := ha_0.below hbw15
   replace hb_1 := hb_1.below hbw15
   refine sr_ev (v := .bool (!y12)) (ev_not rfl) (by decide) ?_
   refine sr_end (l' := [(0, va_0), (1, vb_1), (5, .int .i64 i_5), (18, .bool (!y12))]) (.cons rfl (.cons rfl (.cons rfl (.cons rfl (.nil _))))) ?_
   refine ke_cond (t := !y12) rfl (fun hc16 => ?_) (fun hc16 => ?_)
   ·replace hS := ite_true' hS hc16
    refine ke_seq ?_
    refine ke_region ?_
    refine sr_ev (v := .bool false) (ev_assign rfl) (by decide) ?_
    refine sr_end (l' := [(4, .bool false)]) (.cons rfl (.nil _)) ?_
    cases hS
    exact ke_ret1 Try.func52 rfl rfl ⟨_, rfl, rfl, hb⟩
   ·replace hS := ite_false' hS hc16
    refine ke_skip ?_
    refine ke_inBlock ?_
    refine ke_region ?_
    refine sr_ev (v := .int .i64 i_5) (ev_move rfl) (by decide) ?_
    refine sr_ev (v := .int .i64 (IntKind.i64.wrap (i_5 + 1))) (ev_add rfl rfl) (by decide) ?_
    refine sr_ev (v := .int .i64 (IntKind.i64.wrap (i_5 + 1))) (ev_assign rfl) (by decide) ?_
    refine sr_end (l' := [(0, va_0), (1, vb_1), (5, .int .i64 (IntKind.i64.wrap (i_5 + 1)))]) (.cons rfl (.cons rfl (.cons rfl (.nil _)))) ?_
    have hK := hr0 hS hb hA hi hH ha_0 hb_1
    exact ke_weaken (l' := [(0, va_0), (1, vb_1), (5, .int .i64 (IntKind.i64.wrap (i_5 + 1)))]) (.cons rfl (.cons rfl (.cons rfl (.nil _)))) hK
  ·replace hS := ite_false' hS hc5
   refine ke_exit (k' := _) rfl ?_
   refine ke_seq ?_
   refine ke_region ?_
   refine sr_ev (v := .bool true) (ev_assign rfl) (by decide) ?_
   refine sr_end (l' := [(4, .bool true)]) (.cons rfl (.nil _)) ?_
   cases hS
   exact ke_ret1 Try.func52 rfl rfl ⟨_, rfl, rfl, hb⟩
theorem ref29_Within_ok {A0 : Nat → Prop} (w0 : World) (hg : Gs w0) {a_0 : List Str} {b_1 : List Str} {v1 : Value} {v3 : Value} {r : Bool} (h2 : SlR strC A0 w0 v1 a_0) (h4 : SlR strC A0 w0 v3 b_1) (hS : ref29_Within a_0 b_1 = some r) :
  Calls Try.prog 52 #[v1, v3] w0 (Ret (fun v w' => v = .bool r ∧ Below w0.heap.size w0 w')) := by
 unfold ref29_Within at hS
 have hb := Below.refl w0.heap.size w0
 replace h2 := h2.weak (A' := fun _ => False) (fun _ h => h.elim)
 replace h4 := h4.weak (A' := fun _ => False) (fun _ h => h.elim)
 obtain ⟨A0, hA0, hAe⟩ : ∃ A0 : Nat → Prop, (∀ b, A0 b → b < w0.heap.size) ∧ A0 = fun _ => False := ⟨_, fun _ h => h.elim, rfl⟩
 rw [← hAe] at h2
 rw [← hAe] at h4
 clear hAe
 have hA := hA0
 have hi : ∀ b, A0 b → A0 b := fun _ h => h
 have hH := Hp.nil A0 w0.heap.size w0
 refine calls_of_ke Try.func52 rfl (n := 19) rfl rfl (l := [(0, v1), (1, v3)]) rfl ?_
 refine ke_seq ?_
 refine ke_region ?_
 refine sr_ev (v := .bool false) (ev_assign rfl) (by decide) ?_
 refine sr_end (l' := [(0, v1), (1, v3)]) (.cons rfl (.cons rfl (.nil _))) ?_
 refine ke_seq ?_
 refine ke_seq ?_
 refine ke_region ?_
 refine sr_ev (v := .int .i64 0) (ev_assign rfl) (by decide) ?_
 refine sr_end (l' := [(0, v1), (1, v3), (5, .int .i64 0)]) (.cons rfl (.cons rfl (.cons rfl (.nil _)))) ?_
 refine ke_block ?_
 have hK := ref29_Within_L1_ok hg hA0 _ hS hb hA hi hH h2 h4
 exact ke_weaken (l' := [(0, v1), (1, v3), (5, .int .i64 0)]) (.cons rfl (.cons rfl (.cons rfl (.nil _)))) (ke_loop hK)
theorem ref32_Consents_Covers_ok (w0 : World) (hg : Gs w0) {ρA : Tags} (hbd : ∀ b, ρA b ≠ 0 → b < w0.heap.size) (hz : Gz ρA) {τ0 : Nat → Nat} (hτ0 : ∀ p, 1 ≤ τ0 p) {c_0 : ref32_Consents} {user_1 : Str} {client_2 : Str} {scopes_3 : List Str} {now_4 : Int} {v4 : Value} {gc_0 : Nat} {r : Bool} (h5 : SlR strC (Wb ρA) w0 v4 scopes_3) (ho0 : ref32_Consents.O τ0 ρA w0 gc_0 c_0) (hS : ref32_Consents_Covers c_0 user_1 client_2 scopes_3 now_4 = some r) :
  Calls Try.prog 32 #[.pointer (some ⟨gc_0, 0, none⟩), str user_1, str client_2, v4, .int .i64 now_4] w0 (Ret (fun v w' => v = .bool r ∧ Below w0.heap.size w0 w')) := by
 unfold ref32_Consents_Covers at hS
 have hb := flat1_fr (ρ := ρA) (w := w0) hbd
 have hz := hz.flat1
 replace h5 := SlR.mv h5 flat1_rd
 obtain ⟨v1, hB3, h2⟩ := ho0
 replace hB3 := hB3.mv (flat1_mv (hτ0 0))
 replace h2 := h2.mv (flat1_mv (hτ0 1)) (by decide)
 replace hB3 : Blk (flat1 ρA) 1 w0 gc_0 (.cells #[.bool c_0.made, v1] 55 (0, 0)) := hB3
 replace h2 : OwnT ref32_pair.c 63 (flat1 ρA) 1 w0 v1 c_0.pairs := h2
 refine calls_of_ke Try.func32 rfl (n := 22) rfl rfl (l := [(0, .pointer (some ⟨gc_0, 0, none⟩)), (1, str user_1), (2, str client_2), (3, v4), (4, .int .i64 now_4)]) rfl ?_
 refine ke_seq ?_
 refine ke_region ?_
 refine sr_ev (v := .bool false) (ev_assign rfl) (by decide) ?_
 refine sr_end (l' := [(0, .pointer (some ⟨gc_0, 0, none⟩)), (1, str user_1), (2, str client_2), (3, v4), (4, .int .i64 now_4)]) (.cons rfl (.cons rfl (.cons rfl (.cons rfl (.cons rfl (.nil _)))))) ?_
 refine ke_seq ?_
 refine ke_region ?_
 refine sr_ev (v := .pointer (some ⟨gc_0, 0, none⟩)) (ev_move rfl) (by decide) ?_
 obtain ⟨y6, hy7, hS⟩ := bind_some' hS
 refine sr_call (vs := [.pointer (some ⟨gc_0, 0, none⟩)]) rfl Try.call33 rfl (ref32_Consents_Made_ok _ (hg.fr hz hb) (ρA := (flat1 ρA)) hb.bd (hz.fr hg hb) (τ0 := (fun _ => 1)) (fun _ => Nat.le_refl 1) (⟨_, hB3, h2⟩ : ref32_Consents.O (fun _ => 1) (flat1 ρA) w0 gc_0 c_0) hy7) (by decide) ?_
 rintro _ w8 ⟨rfl, hbw9⟩
 have htr10 := Tr.of_below hbw9 hb.bd
 replace h5 := h5.mv htr10.rd
 replace hB3 := hB3.mv (htr10.mv (i := 1) rfl)
 replace h2 := h2.mv (htr10.mv (i := 1) rfl) (by decide)
 replace hb := hb.trans htr10
 refine sr_ev (v := .bool y6) (ev_move rfl) (by decide) ?_
 obtain ⟨z13, hz15, hS⟩ := bind_some' hS
 refine sr_join (m := 8) (C := fun (z : Bool) w1 => z13 = z ∧ ∃ ρ1, Tr (flat1 ρA) w8 (fun _ => false) ρ1 w1) (l' := fun z => [(21, .bool z)]) ?_ ?_
 ·rintro _ w16 ⟨rfl, ρ17, hj14⟩
  replace hb := hb.trans hj14
  refine sr_ev (v := .bool z13) (ev_assign rfl) (by decide) ?_
  refine sr_end (l' := [(10, .bool z13)]) (.cons rfl (.nil _)) ?_
  cases hS
  exact ke_ret1 Try.func32 rfl rfl ⟨_, rfl, rfl, (hb.below (flat1_le _))⟩
 ·intro K12
  clear hS
  have hj14 : Tr (flat1 ρA) w8 (fun _ => false) (flat1 ρA) w8 := (Tr.refl hb.bd).weak (fun _ _ => rfl) rfl rfl
  rcases Bool.eq_false_or_eq_true y6 with hg11 | hg11
  ·have hS := ite_true' hz15 hg11
   refine sr_evg (b := true) (e := 13) rfl rfl hg11 (v := v4) (ev_move rfl) (by decide) ?_
   refine sr_evg (b := true) (e := 13) rfl rfl hg11 (v := .pointer (some ⟨gc_0, 0, none⟩)) (ev_move rfl) (by decide) ?_
   refine sr_evg (b := true) (e := 13) rfl rfl hg11 (v := str user_1) (ev_move rfl) (by decide) ?_
   refine sr_evg (b := true) (e := 13) rfl rfl hg11 (v := str client_2) (ev_move rfl) (by decide) ?_
   refine sr_evg (b := true) (e := 13) rfl rfl hg11 (v := .int .i64 now_4) (ev_move rfl) (by decide) ?_
   obtain ⟨y19, hy20, hS⟩ := bind_some' hS
   refine sr_callg (b := true) (e := 13) rfl rfl hg11 (vs := [.pointer (some ⟨gc_0, 0, none⟩), str user_1, str client_2, .int .i64 now_4]) rfl Try.call18 rfl (ref32_Consents_Scopes_ok _ (hg.fr hz hb) (ρA := (flat1 ρA)) hb.bd (hz.fr hg hb) (τ0 := (fun _ => 1)) (fun _ => Nat.le_refl 1) (⟨_, hB3, h2⟩ : ref32_Consents.O (fun _ => 1) (flat1 ρA) w8 gc_0 c_0) hy20) (by decide) ?_
   rintro v24 w21 ⟨_, rfl, h25, hbw22⟩
   have htr23 := Tr.of_below hbw22 hb.bd
   replace h5 := h5.mv htr23.rd
   replace hb := hb.trans htr23
   replace hj14 := (hj14.trans htr23).weak (J' := (fun _ => false)) (by intro t h; simp [rng] at h ⊢ <;> omega) rfl rfl
   obtain ⟨y26, hy27, hS⟩ := bind_some' hS
   refine sr_callg (b := true) (e := 13) rfl rfl hg11 (vs := [v4, v24]) rfl Try.call52 rfl (ref29_Within_ok _ (hg.fr hz hb) h5.asSl h25.asSl hy27) (by decide) ?_
   rintro _ w28 ⟨rfl, hbw29⟩
   have htr30 := Tr.of_below hbw29 hb.bd
   replace hb := hb.trans htr30
   replace hj14 := (hj14.trans htr30).weak (J' := (fun _ => false)) (by intro t h; simp [rng] at h ⊢ <;> omega) rfl rfl
   refine sr_ev (v := .bool y26) (ev_pick_t rfl hg11 rfl) (by decide) ?_
   exact sr_weaken (l' := [(21, .bool y26)]) (.cons rfl (.nil _)) (K12 y26 _ ⟨(Option.some.inj hS).symm, _, hj14⟩)
  ·have hS := ite_false' hz15 hg11
   refine sr_pass (e := 13) rfl rfl (by rw [hg11]; rfl) (by decide) ?_
   refine sr_pass (e := 13) rfl rfl (by rw [hg11]; rfl) (by decide) ?_
   refine sr_pass (e := 13) rfl rfl (by rw [hg11]; rfl) (by decide) ?_
   refine sr_pass (e := 13) rfl rfl (by rw [hg11]; rfl) (by decide) ?_
   refine sr_pass (e := 13) rfl rfl (by rw [hg11]; rfl) (by decide) ?_
   refine sr_pass (e := 13) rfl rfl (by rw [hg11]; rfl) (by decide) ?_
   refine sr_pass (e := 13) rfl rfl (by rw [hg11]; rfl) (by decide) ?_
   refine sr_ev (v := .bool false) (ev_pick_f rfl hg11 rfl) (by decide) ?_
   exact sr_weaken (l' := [(21, .bool false)]) (.cons rfl (.nil _)) (K12 false _ ⟨(Option.some.inj hS).symm, _, hj14⟩)
theorem law32_done_ok (w0 : World) (hg : Gs w0) {ρA : Tags} (hbd : ∀ b, ρA b ≠ 0 → b < w0.heap.size) (hz : Gz ρA) {o : Nat} (ho2 : 2 ≤ o) {c_0 : ref32_Consents} {x_1 : law32_Op} {v4 : Value} {gc_0 : Nat} {r : Int × ref32_Consents} (h5 : SlR strC (Wb ρA) w0 v4 x_1.Scopes) (ho0 : ref32_Consents.O (fun p => o + p) ρA w0 gc_0 c_0) (hS : law32_done c_0 x_1 = some r) :
  Calls Try.prog 13 #[.pointer (some ⟨gc_0, 0, none⟩), .agg #[.int .i64 x_1.Call, .int .i64 x_1.Until, .int .i64 x_1.Now, str x_1.User, str x_1.Client, v4]] w0 (Ret (fun v w' => ∃ ρ', v = .int .i64 r.1 ∧ ref32_Consents.O (fun p => o + p) ρ' w' gc_0 r.2 ∧ Tr ρA w0 (rng o 2) ρ' w')) := by
 unfold law32_done at hS
 have hb := enter_fr (ρ := ρA) (w := w0) (n := 2) ho2 hbd
 have hz := hz.enter (n := 2) ho2
 replace h5 := SlR.mv h5 (enter_rd (n := 2) ho2)
 obtain ⟨v1, hB3, h2⟩ := ho0
 replace hB3 := hB3.mv (enter_mv (p := 0) (n := 2) (by decide) ho2)
 replace h2 := h2.mv (enter_mv (p := 1) (n := 2) (by decide) ho2) (by decide)
 replace hB3 : Blk (enter ρA o 2) 100 w0 gc_0 (.cells #[.bool c_0.made, v1] 55 (0, 0)) := hB3
 replace h2 : OwnT ref32_pair.c 63 (enter ρA o 2) 101 w0 v1 c_0.pairs := h2
 refine calls_of_ke Try.func13 rfl (n := 47) rfl rfl (l := [(0, .pointer (some ⟨gc_0, 0, none⟩)), (1, .agg #[.int .i64 x_1.Call, .int .i64 x_1.Until, .int .i64 x_1.Now, str x_1.User, str x_1.Client, v4])]) rfl ?_
 refine ke_seq ?_
 refine ke_region ?_
 refine sr_boxT 5 (by decide) hb.bd rfl (by decide) ?_
 intro g6 ρ7 w8 hB10 htr9
 replace h5 := h5.mv htr9.rd
 replace hB3 := hB3.mv (htr9.mv (i := 100) rfl)
 replace h2 := h2.mv (htr9.mv (i := 101) rfl) (by decide)
 replace hb := hb.trans htr9
 replace hB10 : Blk ρ7 5 w8 g6 (.cells #[.int .i64 x_1.Call, .int .i64 x_1.Until, .int .i64 x_1.Now, str x_1.User, str x_1.Client, v4] 32 (0, 0)) := hB10
 refine sr_ev (v := .int .i64 0) (ev_assign rfl) (by decide) ?_
 refine sr_end (l' := [(0, .pointer (some ⟨gc_0, 0, none⟩)), (3, .pointer (some ⟨g6, 0, none⟩))]) (.cons rfl (.cons rfl (.nil _))) ?_
 refine ke_seq ?_
 refine ke_seq ?_
 refine ke_region ?_
 refine sr_ev (v := .pointer (some ⟨g6, 0, none⟩)) (ev_fieldAddr (i := 0) Try.underlying32 rfl Try.info3 rfl rfl) (by decide) ?_
 refine sr_ev (v := .int .i64 x_1.Call) (ev_load Try.isAgg3 rfl (hB10.cell rfl)) (by decide) ?_
 refine sr_end (l' := [(0, .pointer (some ⟨gc_0, 0, none⟩)), (3, .pointer (some ⟨g6, 0, none⟩)), (6, .int .i64 x_1.Call)]) (.cons rfl (.cons rfl (.cons rfl (.nil _)))) ?_
 refine ke_block ?_
 refine ke_seq ?_
 refine ke_region ?_
 refine sr_ev (v := .bool (x_1.Call == 0)) (ev_eq rfl rfl) (by decide) ?_
 refine sr_ev (v := .bool (x_1.Call == 0)) (ev_assign rfl) (by decide) ?_
 refine sr_end (l' := [(0, .pointer (some ⟨gc_0, 0, none⟩)), (3, .pointer (some ⟨g6, 0, none⟩)), (6, .int .i64 x_1.Call), (7, .bool (x_1.Call == 0))]) (.cons rfl (.cons rfl (.cons rfl (.cons rfl (.nil _))))) ?_
 refine ke_cond (t := x_1.Call == 0) rfl (fun hc11 => ?_) (fun hc11 => ?_)
 ·replace hS := ite_true' hS hc11
  refine ke_seq ?_
  refine ke_region ?_
  refine sr_ev (v := .pointer (some ⟨gc_0, 0, none⟩)) (ev_move rfl) (by decide) ?_
  refine sr_ev (v := .pointer (some ⟨g6, 3, none⟩)) (ev_fieldAddr (i := 3) Try.underlying32 rfl Try.info9 rfl rfl) (by decide) ?_
  refine sr_ev (v := str x_1.User) (ev_load Try.isAgg9 rfl (hB10.cell rfl)) (by decide) ?_
  refine sr_ev (v := .pointer (some ⟨g6, 4, none⟩)) (ev_fieldAddr (i := 4) Try.underlying32 rfl Try.info9 rfl rfl) (by decide) ?_
  refine sr_ev (v := str x_1.Client) (ev_load Try.isAgg9 rfl (hB10.cell rfl)) (by decide) ?_
  refine sr_ev (v := .pointer (some ⟨g6, 5, none⟩)) (ev_fieldAddr (i := 5) Try.underlying32 rfl Try.info30 rfl rfl) (by decide) ?_
  refine sr_ev (v := v4) (ev_load Try.isAgg30 rfl (hB10.cell rfl)) (by decide) ?_
  refine sr_ev (v := .pointer (some ⟨g6, 1, none⟩)) (ev_fieldAddr (i := 1) Try.underlying32 rfl Try.info3 rfl rfl) (by decide) ?_
  refine sr_ev (v := .int .i64 x_1.Until) (ev_load Try.isAgg3 rfl (hB10.cell rfl)) (by decide) ?_
  refine sr_ev (v := .pointer (some ⟨g6, 2, none⟩)) (ev_fieldAddr (i := 2) Try.underlying32 rfl Try.info3 rfl rfl) (by decide) ?_
  refine sr_ev (v := .int .i64 x_1.Now) (ev_load Try.isAgg3 rfl (hB10.cell rfl)) (by decide) ?_
  obtain ⟨y12, hy13, hS⟩ := bind_some' hS
  refine sr_call (vs := [.pointer (some ⟨gc_0, 0, none⟩), str x_1.User, str x_1.Client, v4, .int .i64 x_1.Until, .int .i64 x_1.Now]) rfl Try.call29 rfl (ref32_Consents_Grant_ok _ (hg.fr hz hb) (ρA := ρ7) hb.bd (hz.fr hg hb) (o := 100) (by decide) h5 (⟨_, hB3, h2⟩ : ref32_Consents.O (fun p => 100 + p) ρ7 w8 gc_0 c_0) hy13) (by decide) ?_
  rintro _ w14 ⟨ρ20, rfl, ⟨v17, hB19, h18⟩, htr16⟩
  replace hb := hb.trans htr16
  replace hB19 : Blk ρ20 100 w14 gc_0 (.cells #[.bool y12.2.made, v17] 55 (0, 0)) := hB19
  replace h18 : OwnT ref32_pair.c 63 ρ20 101 w14 v17 y12.2.pairs := h18
  refine sr_ev (v := .int .i64 y12.1) (ev_assign rfl) (by decide) ?_
  refine sr_end (l' := [(4, .int .i64 y12.1)]) (.cons rfl (.nil _)) ?_
  cases hS
  exact ke_ret1 Try.func13 rfl rfl ⟨_, rfl, leave ρA w0 o 2 ρ20, rfl, ⟨_, (hB19.mv (leave_mv (p := 0) (by decide) hb)), (h18.mv (leave_mv (p := 1) (by decide) hb) (Nat.ne_of_gt (Nat.lt_of_lt_of_le (Nat.lt_of_lt_of_le Nat.zero_lt_two ho2) (Nat.le_add_right _ _))))⟩, (leave_tr ho2 hb)⟩
 ·replace hS := ite_false' hS hc11
  refine ke_seq ?_
  refine ke_region ?_
  refine sr_ev (v := .bool (x_1.Call == 1)) (ev_eq rfl rfl) (by decide) ?_
  refine sr_ev (v := .bool (x_1.Call == 1)) (ev_assign rfl) (by decide) ?_
  refine sr_end (l' := [(0, .pointer (some ⟨gc_0, 0, none⟩)), (3, .pointer (some ⟨g6, 0, none⟩)), (6, .int .i64 x_1.Call), (21, .bool (x_1.Call == 1))]) (.cons rfl (.cons rfl (.cons rfl (.cons rfl (.nil _))))) ?_
  refine ke_cond (t := x_1.Call == 1) rfl (fun hc21 => ?_) (fun hc21 => ?_)
  ·replace hS := ite_true' hS hc21
   refine ke_seq ?_
   refine ke_region ?_
   refine sr_ev (v := .pointer (some ⟨gc_0, 0, none⟩)) (ev_move rfl) (by decide) ?_
   refine sr_ev (v := .pointer (some ⟨g6, 3, none⟩)) (ev_fieldAddr (i := 3) Try.underlying32 rfl Try.info9 rfl rfl) (by decide) ?_
   refine sr_ev (v := str x_1.User) (ev_load Try.isAgg9 rfl (hB10.cell rfl)) (by decide) ?_
   refine sr_ev (v := .pointer (some ⟨g6, 4, none⟩)) (ev_fieldAddr (i := 4) Try.underlying32 rfl Try.info9 rfl rfl) (by decide) ?_
   refine sr_ev (v := str x_1.Client) (ev_load Try.isAgg9 rfl (hB10.cell rfl)) (by decide) ?_
   obtain ⟨y22, hy23, hS⟩ := bind_some' hS
   refine sr_call (vs := [.pointer (some ⟨gc_0, 0, none⟩), str x_1.User, str x_1.Client]) rfl Try.call30 rfl (ref32_Consents_Revoke_ok _ (hg.fr hz hb) (ρA := ρ7) hb.bd (hz.fr hg hb) (o := 100) (by decide) (⟨_, hB3, h2⟩ : ref32_Consents.O (fun p => 100 + p) ρ7 w8 gc_0 c_0) hy23) (by decide) ?_
   rintro _ w24 ⟨ρ30, rfl, ⟨v27, hB29, h28⟩, htr26⟩
   replace hb := hb.trans htr26
   replace hB29 : Blk ρ30 100 w24 gc_0 (.cells #[.bool y22.2.made, v27] 55 (0, 0)) := hB29
   replace h28 : OwnT ref32_pair.c 63 ρ30 101 w24 v27 y22.2.pairs := h28
   obtain ⟨y31, hy32, hS⟩ := bind_some' hS
   refine sr_call (vs := [.bool y22.1]) rfl Try.call28 rfl (law32_yes_ok _ (hg.fr hz hb) hy32) (by decide) ?_
   rintro _ w33 ⟨rfl, hbw34⟩
   have htr35 := Tr.of_below hbw34 hb.bd
   replace hB29 := hB29.mv (htr35.mv (i := 100) rfl)
   replace h28 := h28.mv (htr35.mv (i := 101) rfl) (by decide)
   replace hb := hb.trans htr35
   refine sr_ev (v := .int .i64 y31) (ev_assign rfl) (by decide) ?_
   refine sr_end (l' := [(4, .int .i64 y31)]) (.cons rfl (.nil _)) ?_
   cases hS
   exact ke_ret1 Try.func13 rfl rfl ⟨_, rfl, leave ρA w0 o 2 ρ30, rfl, ⟨_, (hB29.mv (leave_mv (p := 0) (by decide) hb)), (h28.mv (leave_mv (p := 1) (by decide) hb) (Nat.ne_of_gt (Nat.lt_of_lt_of_le (Nat.lt_of_lt_of_le Nat.zero_lt_two ho2) (Nat.le_add_right _ _))))⟩, (leave_tr ho2 hb)⟩
  ·replace hS := ite_false' hS hc21
   refine ke_seq ?_
   refine ke_region ?_
   refine sr_ev (v := .bool (x_1.Call == 2)) (ev_eq rfl rfl) (by decide) ?_
   refine sr_ev (v := .bool (x_1.Call == 2)) (ev_assign rfl) (by decide) ?_
   refine sr_end (l' := [(0, .pointer (some ⟨gc_0, 0, none⟩)), (3, .pointer (some ⟨g6, 0, none⟩)), (30, .bool (x_1.Call == 2))]) (.cons rfl (.cons rfl (.cons rfl (.nil _)))) ?_
   refine ke_cond (t := x_1.Call == 2) rfl (fun hc36 => ?_) (fun hc36 => ?_)
   ·replace hS := ite_true' hS hc36
    refine ke_seq ?_
    refine ke_region ?_
    refine sr_ev (v := .pointer (some ⟨gc_0, 0, none⟩)) (ev_move rfl) (by decide) ?_
    refine sr_ev (v := .pointer (some ⟨g6, 3, none⟩)) (ev_fieldAddr (i := 3) Try.underlying32 rfl Try.info9 rfl rfl) (by decide) ?_
    refine sr_ev (v := str x_1.User) (ev_load Try.isAgg9 rfl (hB10.cell rfl)) (by decide) ?_
    obtain ⟨y37, hy38, hS⟩ := bind_some' hS
    refine sr_call (vs := [.pointer (some ⟨gc_0, 0, none⟩), str x_1.User]) rfl Try.call31 rfl (ref32_Consents_Drop_ok _ (hg.fr hz hb) (ρA := ρ7) hb.bd (hz.fr hg hb) (o := 100) (by decide) (⟨_, hB3, h2⟩ : ref32_Consents.O (fun p => 100 + p) ρ7 w8 gc_0 c_0) hy38) (by decide) ?_
    rintro _ w39 ⟨ρ45, rfl, ⟨v42, hB44, h43⟩, htr41⟩
    replace hb := hb.trans htr41
    replace hB44 : Blk ρ45 100 w39 gc_0 (.cells #[.bool y37.2.made, v42] 55 (0, 0)) := hB44
    replace h43 : OwnT ref32_pair.c 63 ρ45 101 w39 v42 y37.2.pairs := h43
    refine sr_ev (v := .int .i64 y37.1) (ev_assign rfl) (by decide) ?_
    refine sr_end (l' := [(4, .int .i64 y37.1)]) (.cons rfl (.nil _)) ?_
    cases hS
    exact ke_ret1 Try.func13 rfl rfl ⟨_, rfl, leave ρA w0 o 2 ρ45, rfl, ⟨_, (hB44.mv (leave_mv (p := 0) (by decide) hb)), (h43.mv (leave_mv (p := 1) (by decide) hb) (Nat.ne_of_gt (Nat.lt_of_lt_of_le (Nat.lt_of_lt_of_le Nat.zero_lt_two ho2) (Nat.le_add_right _ _))))⟩, (leave_tr ho2 hb)⟩
   ·replace hS := ite_false' hS hc36
    refine ke_skip ?_
    refine ke_inBlock ?_
    refine ke_seq ?_
    refine ke_region ?_
    refine sr_ev (v := .pointer (some ⟨gc_0, 0, none⟩)) (ev_move rfl) (by decide) ?_
    refine sr_ev (v := .pointer (some ⟨g6, 3, none⟩)) (ev_fieldAddr (i := 3) Try.underlying32 rfl Try.info9 rfl rfl) (by decide) ?_
    refine sr_ev (v := str x_1.User) (ev_load Try.isAgg9 rfl (hB10.cell rfl)) (by decide) ?_
    refine sr_ev (v := .pointer (some ⟨g6, 4, none⟩)) (ev_fieldAddr (i := 4) Try.underlying32 rfl Try.info9 rfl rfl) (by decide) ?_
    refine sr_ev (v := str x_1.Client) (ev_load Try.isAgg9 rfl (hB10.cell rfl)) (by decide) ?_
    refine sr_ev (v := .pointer (some ⟨g6, 5, none⟩)) (ev_fieldAddr (i := 5) Try.underlying32 rfl Try.info30 rfl rfl) (by decide) ?_
    refine sr_ev (v := v4) (ev_load Try.isAgg30 rfl (hB10.cell rfl)) (by decide) ?_
    refine sr_ev (v := .pointer (some ⟨g6, 2, none⟩)) (ev_fieldAddr (i := 2) Try.underlying32 rfl Try.info3 rfl rfl) (by decide) ?_
    refine sr_ev (v := .int .i64 x_1.Now) (ev_load Try.isAgg3 rfl (hB10.cell rfl)) (by decide) ?_
    obtain ⟨y46, hy47, hS⟩ := bind_some' hS
    refine sr_call (vs := [.pointer (some ⟨gc_0, 0, none⟩), str x_1.User, str x_1.Client, v4, .int .i64 x_1.Now]) rfl Try.call32 rfl (ref32_Consents_Covers_ok _ (hg.fr hz hb) (ρA := ρ7) hb.bd (hz.fr hg hb) (τ0 := (fun p => 100 + p)) (fun p => Nat.le_add_right_of_le (by decide)) h5 (⟨_, hB3, h2⟩ : ref32_Consents.O (fun p => 100 + p) ρ7 w8 gc_0 c_0) hy47) (by decide) ?_
    rintro _ w48 ⟨rfl, hbw49⟩
    have htr50 := Tr.of_below hbw49 hb.bd
    replace hB3 := hB3.mv (htr50.mv (i := 100) rfl)
    replace h2 := h2.mv (htr50.mv (i := 101) rfl) (by decide)
    replace hb := hb.trans htr50
    obtain ⟨y51, hy52, hS⟩ := bind_some' hS
    refine sr_call (vs := [.bool y46]) rfl Try.call28 rfl (law32_yes_ok _ (hg.fr hz hb) hy52) (by decide) ?_
    rintro _ w53 ⟨rfl, hbw54⟩
    have htr55 := Tr.of_below hbw54 hb.bd
    replace hB3 := hB3.mv (htr55.mv (i := 100) rfl)
    replace h2 := h2.mv (htr55.mv (i := 101) rfl) (by decide)
    replace hb := hb.trans htr55
    refine sr_ev (v := .int .i64 y51) (ev_assign rfl) (by decide) ?_
    refine sr_end (l' := [(4, .int .i64 y51)]) (.cons rfl (.nil _)) ?_
    cases hS
    exact ke_ret1 Try.func13 rfl rfl ⟨_, rfl, leave ρA w0 o 2 ρ7, rfl, ⟨_, (hB3.mv (leave_mv (p := 0) (by decide) hb)), (h2.mv (leave_mv (p := 1) (by decide) hb) (Nat.ne_of_gt (Nat.lt_of_lt_of_le (Nat.lt_of_lt_of_le Nat.zero_lt_two ho2) (Nat.le_add_right _ _))))⟩, (leave_tr ho2 hb)⟩
theorem ref32_Consents_Len_ok (w0 : World) (hg : Gs w0) {ρA : Tags} (hbd : ∀ b, ρA b ≠ 0 → b < w0.heap.size) (hz : Gz ρA) {τ0 : Nat → Nat} (hτ0 : ∀ p, 1 ≤ τ0 p) {c_0 : ref32_Consents} {gc_0 : Nat} {r : Int} (ho0 : ref32_Consents.O τ0 ρA w0 gc_0 c_0) (hS : ref32_Consents_Len c_0 = some r) :
  Calls Try.prog 15 #[.pointer (some ⟨gc_0, 0, none⟩)] w0 (Ret (fun v w' => v = .int .i64 r ∧ Below w0.heap.size w0 w')) := by
 unfold ref32_Consents_Len at hS
 have hb := flat1_fr (ρ := ρA) (w := w0) hbd
 have hz := hz.flat1
 obtain ⟨v1, hB3, h2⟩ := ho0
 replace hB3 := hB3.mv (flat1_mv (hτ0 0))
 replace h2 := h2.mv (flat1_mv (hτ0 1)) (by decide)
 replace hB3 : Blk (flat1 ρA) 1 w0 gc_0 (.cells #[.bool c_0.made, v1] 55 (0, 0)) := hB3
 replace h2 : OwnT ref32_pair.c 63 (flat1 ρA) 1 w0 v1 c_0.pairs := h2
 refine calls_of_ke Try.func15 rfl (n := 11) rfl rfl (l := [(0, .pointer (some ⟨gc_0, 0, none⟩))]) rfl ?_
 refine ke_seq ?_
 refine ke_region ?_
 refine sr_ev (v := .int .i64 0) (ev_assign rfl) (by decide) ?_
 refine sr_end (l' := [(0, .pointer (some ⟨gc_0, 0, none⟩))]) (.cons rfl (.nil _)) ?_
 refine ke_seq ?_
 refine ke_seq ?_
 refine ke_region ?_
 refine sr_ev (v := .pointer (some ⟨gc_0, 0, none⟩)) (ev_move rfl) (by decide) ?_
 obtain ⟨y4, hy5, hS⟩ := bind_some' hS
 refine sr_call (vs := [.pointer (some ⟨gc_0, 0, none⟩)]) rfl Try.call33 rfl (ref32_Consents_Made_ok _ (hg.fr hz hb) (ρA := (flat1 ρA)) hb.bd (hz.fr hg hb) (τ0 := (fun _ => 1)) (fun _ => Nat.le_refl 1) (⟨_, hB3, h2⟩ : ref32_Consents.O (fun _ => 1) (flat1 ρA) w0 gc_0 c_0) hy5) (by decide) ?_
 rintro _ w6 ⟨rfl, hbw7⟩
 have htr8 := Tr.of_below hbw7 hb.bd
 replace hB3 := hB3.mv (htr8.mv (i := 1) rfl)
 replace h2 := h2.mv (htr8.mv (i := 1) rfl) (by decide)
 replace hb := hb.trans htr8
 refine sr_ev (v := .bool (!y4)) (ev_not rfl) (by decide) ?_
 refine sr_end (l' := [(0, .pointer (some ⟨gc_0, 0, none⟩)), (5, .bool (!y4))]) (.cons rfl (.cons rfl (.nil _))) ?_
 refine ke_cond (t := !y4) rfl (fun hc9 => ?_) (fun hc9 => ?_)
 ·replace hS := ite_true' hS hc9
  refine ke_seq ?_
  refine ke_region ?_
  refine sr_ev (v := .int .i64 0) (ev_assign rfl) (by decide) ?_
  refine sr_end (l' := [(2, .int .i64 0)]) (.cons rfl (.nil _)) ?_
  cases hS
  exact ke_ret1 Try.func15 rfl rfl ⟨_, rfl, rfl, (hb.below (flat1_le _))⟩
 ·replace hS := ite_false' hS hc9
  refine ke_skip ?_
  refine ke_seq ?_
  refine ke_region ?_
  refine sr_ev (v := .pointer (some ⟨gc_0, 0, none⟩)) (ev_move rfl) (by decide) ?_
  refine sr_ev (v := .pointer (some ⟨gc_0, 0, none⟩)) (ev_nilCheck rfl) (by decide) ?_
  refine sr_ev (v := .pointer (some ⟨gc_0, 1, none⟩)) (ev_fieldAddr (i := 1) Try.underlying55 rfl Try.info53 rfl rfl) (by decide) ?_
  refine sr_ev (v := v1) (ev_load Try.isAgg53 rfl (hB3.cell rfl)) (by decide) ?_
  refine sr_ev (v := .int .i64 (c_0.pairs.length : Int)) (ev_sllen Try.underlying53 rfl h2.asSl) (by decide) ?_
  refine sr_ev (v := .int .i64 (c_0.pairs.length : Int)) (ev_assign rfl) (by decide) ?_
  refine sr_end (l' := [(2, .int .i64 (c_0.pairs.length : Int))]) (.cons rfl (.nil _)) ?_
  cases hS
  exact ke_ret1 Try.func15 rfl rfl ⟨_, rfl, rfl, (hb.below (flat1_le _))⟩
theorem ref32_Consents_Clients_B2_ok {w0 : World} (hg : Gs w0) {ρA : Tags} (hbd : ∀ b, ρA b ≠ 0 → b < w0.heap.size) (hz : Gz (flat1 ρA)) (r0 : ref32_Consents → Str → Int → List Str → Int → Option (List Str))
  (hr0 : ∀ {r : List Str} {oc_0 : ref32_Consents} {user_1 : Str} {now_2 : Int} {out_7 : List Str} {i_8 : Int} {gc_0 : Nat} {vout_7 : Value}, r0 oc_0 user_1 now_2 out_7 i_8 = some r → ∀ {ρ : Tags} {w : World}, (Fr (flat1 ρA) w0 ρ w) → (ref32_Consents.O (fun _ => 1) ρ w gc_0 oc_0) → (SlR strC (Wb ρ) w vout_7 out_7) → KE Try.prog 20 (Ret (fun v w' => ∃ x1, v = x1 ∧ SlR strC (Wb ρA) w' x1 r ∧ Below w0.heap.size w0 w')) 58 [.inLoop (sub (bodyOf Try.f20) [2, 2, 2, 1, 2, 2, 1]), .inBlock 0, .code (sub (bodyOf Try.f20) [2, 2, 2, 2])] [(0, .pointer (some ⟨gc_0, 0, none⟩)), (1, str user_1), (2, .int .i64 now_2), (7, vout_7), (8, .int .i64 i_8)] w) {r : List Str} {oc_0 : ref32_Consents} {user_1 : Str} {now_2 : Int} {out_7 : List Str} {i_8 : Int} {gc_0 : Nat} {vout_7 : Value} (hS : ref32_Consents_Clients_B2 r0 oc_0 user_1 now_2 out_7 i_8 = some r) {ρ : Tags} {w : World} (hb : Fr (flat1 ρA) w0 ρ w) (hoc_0 : ref32_Consents.O (fun _ => 1) ρ w gc_0 oc_0) (hout_7 : SlR strC (Wb ρ) w vout_7 out_7) :
  KE Try.prog 20 (Ret (fun v w' => ∃ x1, v = x1 ∧ SlR strC (Wb ρA) w' x1 r ∧ Below w0.heap.size w0 w')) 58 [.inBlock 1, .code (sub (bodyOf Try.f20) [2, 2, 2, 1, 2, 2, 1, 2, 2]), .inLoop (sub (bodyOf Try.f20) [2, 2, 2, 1, 2, 2, 1]), .inBlock 0, .code (sub (bodyOf Try.f20) [2, 2, 2, 2])] [(0, .pointer (some ⟨gc_0, 0, none⟩)), (1, str user_1), (2, .int .i64 now_2), (7, vout_7), (8, .int .i64 i_8)] w := by
 unfold ref32_Consents_Clients_B2 at hS
 obtain ⟨v74, hB76, h75⟩ := hoc_0
 replace hB76 : Blk ρ 1 w gc_0 (.cells #[.bool oc_0.made, v74] 55 (0, 0)) := hB76
 replace h75 : OwnT ref32_pair.c 63 ρ 1 w v74 oc_0.pairs := h75
 refine ke_inBlock ?_
 refine ke_region ?_
 refine sr_ev (v := .int .i64 i_8) (ev_move rfl) (by decide) ?_
 refine sr_ev (v := .int .i64 (IntKind.i64.wrap (i_8 + 1))) (ev_add rfl rfl) (by decide) ?_
 refine sr_ev (v := .int .i64 (IntKind.i64.wrap (i_8 + 1))) (ev_assign rfl) (by decide) ?_
 refine sr_end (l' := [(0, .pointer (some ⟨gc_0, 0, none⟩)), (1, str user_1), (2, .int .i64 now_2), (7, vout_7), (8, .int .i64 (IntKind.i64.wrap (i_8 + 1)))]) (.cons rfl (.cons rfl (.cons rfl (.cons rfl (.cons rfl (.nil _)))))) ?_
 have hK := hr0 hS hb ⟨_, hB76, h75⟩ hout_7
 exact ke_weaken (l' := [(0, .pointer (some ⟨gc_0, 0, none⟩)), (1, str user_1), (2, .int .i64 now_2), (7, vout_7), (8, .int .i64 (IntKind.i64.wrap (i_8 + 1)))]) (.cons rfl (.cons rfl (.cons rfl (.cons rfl (.cons rfl (.nil _)))))) hK
theorem ref32_Consents_Clients_L1_ok {w0 : World} (hg : Gs w0) {ρA : Tags} (hbd : ∀ b, ρA b ≠ 0 → b < w0.heap.size) (hz : Gz (flat1 ρA)) : ∀ (n : Nat), ∀ {r : List Str} {oc_0 : ref32_Consents} {user_1 : Str} {now_2 : Int} {out_7 : List Str} {i_8 : Int} {gc_0 : Nat} {vout_7 : Value}, ref32_Consents_Clients_L1 n oc_0 user_1 now_2 out_7 i_8 = some r → ∀ {ρ : Tags} {w : World}, (Fr (flat1 ρA) w0 ρ w) → (ref32_Consents.O (fun _ => 1) ρ w gc_0 oc_0) → (SlR strC (Wb ρ) w vout_7 out_7) → KE Try.prog 20 (Ret (fun v w' => ∃ x1, v = x1 ∧ SlR strC (Wb ρA) w' x1 r ∧ Below w0.heap.size w0 w')) 58 [.code (sub (bodyOf Try.f20) [2, 2, 2, 1, 2, 2, 1]), .inLoop (sub (bodyOf Try.f20) [2, 2, 2, 1, 2, 2, 1]), .inBlock 0, .code (sub (bodyOf Try.f20) [2, 2, 2, 2])] [(0, .pointer (some ⟨gc_0, 0, none⟩)), (1, str user_1), (2, .int .i64 now_2), (7, vout_7), (8, .int .i64 i_8)] w := by
 intro n
 induction n with
 | zero => intro r oc_0 user_1 now_2 out_7 i_8 gc_0 vout_7 hS; cases hS
 | succ n ih =>
  have hr0 : ∀ {r : List Str} {oc_0 : ref32_Consents} {user_1 : Str} {now_2 : Int} {out_7 : List Str} {i_8 : Int} {gc_0 : Nat} {vout_7 : Value}, ref32_Consents_Clients_L1 n oc_0 user_1 now_2 out_7 i_8 = some r → ∀ {ρ : Tags} {w : World}, (Fr (flat1 ρA) w0 ρ w) → (ref32_Consents.O (fun _ => 1) ρ w gc_0 oc_0) → (SlR strC (Wb ρ) w vout_7 out_7) → KE Try.prog 20 (Ret (fun v w' => ∃ x1, v = x1 ∧ SlR strC (Wb ρA) w' x1 r ∧ Below w0.heap.size w0 w')) 58 [.inLoop (sub (bodyOf Try.f20) [2, 2, 2, 1, 2, 2, 1]), .inBlock 0, .code (sub (bodyOf Try.f20) [2, 2, 2, 2])] [(0, .pointer (some ⟨gc_0, 0, none⟩)), (1, str user_1), (2, .int .i64 now_2), (7, vout_7), (8, .int .i64 i_8)] w := fun {r} {oc_0} {user_1} {now_2} {out_7} {i_8} {gc_0} {vout_7} hS {ρ} {w} hb hoc_0 hout_7 => ke_inLoop (ih hS hb hoc_0 hout_7)
  clear ih
  intro r oc_0 user_1 now_2 out_7 i_8 gc_0 vout_7 hS ρ w hb hoc_0 hout_7
  unfold ref32_Consents_Clients_L1 at hS
  obtain ⟨v12, hB14, h13⟩ := hoc_0
  replace hB14 : Blk ρ 1 w gc_0 (.cells #[.bool oc_0.made, v12] 55 (0, 0)) := hB14
  replace h13 : OwnT ref32_pair.c 63 ρ 1 w v12 oc_0.pairs := h13
  refine ke_seq ?_
  refine ke_seq ?_
  refine ke_region ?_
  refine sr_ev (v := .int .i64 i_8) (ev_move rfl) (by decide) ?_
  refine sr_ev (v := .pointer (some ⟨gc_0, 0, none⟩)) (ev_move rfl) (by decide) ?_
  refine sr_ev (v := .pointer (some ⟨gc_0, 0, none⟩)) (ev_nilCheck rfl) (by decide) ?_
  refine sr_ev (v := .pointer (some ⟨gc_0, 1, none⟩)) (ev_fieldAddr (i := 1) Try.underlying55 rfl Try.info53 rfl rfl) (by decide) ?_
  refine sr_ev (v := v12) (ev_load Try.isAgg53 rfl (hB14.cell rfl)) (by decide) ?_
  refine sr_ev (v := .int .i64 (oc_0.pairs.length : Int)) (ev_sllen Try.underlying53 rfl h13.asSl) (by decide) ?_
  refine sr_ev (v := .bool (decide (i_8 < (oc_0.pairs.length : Int)))) (ev_lt rfl rfl) (by decide) ?_
  refine sr_end (l' := [(0, .pointer (some ⟨gc_0, 0, none⟩)), (1, str user_1), (2, .int .i64 now_2), (7, vout_7), (8, .int .i64 i_8), (18, .bool (decide (i_8 < (oc_0.pairs.length : Int))))]) (.cons rfl (.cons rfl (.cons rfl (.cons rfl (.cons rfl (.cons rfl (.nil _))))))) ?_
  refine ke_cond (t := decide (i_8 < (oc_0.pairs.length : Int))) rfl (fun hc17 => ?_) (fun hc17 => ?_)
  ·replace hS := ite_true' hS hc17
   refine ke_skip ?_
   refine ke_seq ?_
   refine ke_block ?_
   refine ke_seq ?_
   refine ke_region ?_
   refine sr_ev (v := .pointer (some ⟨gc_0, 0, none⟩)) (ev_move rfl) (by decide) ?_
   refine sr_ev (v := .pointer (some ⟨gc_0, 0, none⟩)) (ev_nilCheck rfl) (by decide) ?_
   refine sr_ev (v := .pointer (some ⟨gc_0, 1, none⟩)) (ev_fieldAddr (i := 1) Try.underlying55 rfl Try.info53 rfl rfl) (by decide) ?_
   refine sr_ev (v := v12) (ev_load Try.isAgg53 rfl (hB14.cell rfl)) (by decide) ?_
   refine sr_ev (v := .int .i64 i_8) (ev_move rfl) (by decide) ?_
   obtain ⟨y18, hy19, hS⟩ := bind_some' hS
   obtain ⟨b20, o21, cs23, hq24, he22, hg27, ho28⟩ := h13.elemQ (P := Try.prog) Try.underlying53 Try.info63 rfl hy19
   obtain ⟨v25, hcshe22, h26⟩ := he22.rd
   obtain rfl : cs23 = [str y18.user, str y18.client, v25] := hcshe22
   refine sr_ev (v := .pointer (some ⟨b20, o21, none⟩)) (hq24 w rfl rfl) (by decide) ?_
   refine sr_ev (v := .pointer (some ⟨b20, o21 + 0, none⟩)) (ev_fieldAddr (i := 0) Try.underlying63 rfl Try.info9 rfl rfl) (by decide) ?_
   refine sr_ev (v := str y18.user) (ev_load Try.isAgg9 rfl (he22.cell 0 _ rfl)) (by decide) ?_
   refine sr_ev (v := str user_1) (ev_move rfl) (by decide) ?_
   refine sr_ev (v := .bool (y18.user == user_1)) (ev_seq rfl rfl) (by decide) ?_
   refine sr_ev (v := .bool (y18.user == user_1)) (ev_move rfl) (by decide) ?_
   obtain ⟨z31, hz33, hS⟩ := bind_some' hS
   refine sr_join (m := 15) (C := fun (z : Bool) w1 => z31 = z ∧ ∃ ρ1, Tr ρ w (fun _ => false) ρ1 w1) (l' := fun z => [(0, .pointer (some ⟨gc_0, 0, none⟩)), (1, str user_1), (2, .int .i64 now_2), (7, vout_7), (8, .int .i64 i_8), (46, .bool z)]) ?_ ?_
   ·rintro _ w34 ⟨rfl, ρ35, hj32⟩
    replace hout_7 := hout_7.mv hj32.rd
    replace hB14 := hB14.mv (hj32.mv (i := 1) rfl)
    replace h13 := h13.mv (hj32.mv (i := 1) rfl) (by decide)
    replace hb := hb.trans hj32
    refine sr_end (l' := [(0, .pointer (some ⟨gc_0, 0, none⟩)), (1, str user_1), (2, .int .i64 now_2), (7, vout_7), (8, .int .i64 i_8), (46, .bool z31)]) (.cons rfl (.cons rfl (.cons rfl (.cons rfl (.cons rfl (.cons rfl (.nil _))))))) ?_
    refine ke_cond (t := z31) rfl (fun hc55 => ?_) (fun hc55 => ?_)
    ·replace hS := ite_true' hS hc55
     refine ke_region ?_
     refine sr_ev (v := vout_7) (ev_move rfl) (by decide) ?_
     refine sr_ev (v := .pointer (some ⟨gc_0, 0, none⟩)) (ev_move rfl) (by decide) ?_
     refine sr_ev (v := .pointer (some ⟨gc_0, 0, none⟩)) (ev_nilCheck rfl) (by decide) ?_
     refine sr_ev (v := .pointer (some ⟨gc_0, 1, none⟩)) (ev_fieldAddr (i := 1) Try.underlying55 rfl Try.info53 rfl rfl) (by decide) ?_
     refine sr_ev (v := v12) (ev_load Try.isAgg53 rfl (hB14.cell rfl)) (by decide) ?_
     refine sr_ev (v := .int .i64 i_8) (ev_move rfl) (by decide) ?_
     obtain ⟨y56, hy57, hS⟩ := bind_some' hS
     obtain ⟨b58, o59, cs61, hq62, he60, hg65, ho66⟩ := h13.elemQ (P := Try.prog) Try.underlying53 Try.info63 rfl hy57
     obtain ⟨v63, hcshe60, h64⟩ := he60.rd
     obtain rfl : cs61 = [str y56.user, str y56.client, v63] := hcshe60
     refine sr_ev (v := .pointer (some ⟨b58, o59, none⟩)) (hq62 w34 rfl rfl) (by decide) ?_
     refine sr_ev (v := .pointer (some ⟨b58, o59 + 1, none⟩)) (ev_fieldAddr (i := 1) Try.underlying63 rfl Try.info9 rfl rfl) (by decide) ?_
     refine sr_ev (v := str y56.client) (ev_load Try.isAgg9 rfl (he60.cell 1 _ rfl)) (by decide) ?_
     obtain ⟨y67, hy68, hS⟩ := bind_some' hS
     refine sr_call (vs := [vout_7, str y56.client]) rfl Try.call39 rfl (ref06_Insert_ok (A0 := Wb ρ35) _ (hg.fr hz hb) hout_7 hb.bd hy68) (by decide) ?_
     rintro v72 w69 ⟨_, rfl, h73, hbw70⟩
     have htr71 := Tr.of_below hbw70 hb.bd
     replace hB14 := hB14.mv (htr71.mv (i := 1) rfl)
     replace h13 := h13.mv (htr71.mv (i := 1) rfl) (by decide)
     replace hb := hb.trans htr71
     refine sr_ev (v := v72) (ev_assign rfl) (by decide) ?_
     refine sr_end (l' := [(0, .pointer (some ⟨gc_0, 0, none⟩)), (1, str user_1), (2, .int .i64 now_2), (7, v72), (8, .int .i64 i_8)]) (.cons rfl (.cons rfl (.cons rfl (.cons rfl (.cons rfl (.nil _)))))) ?_
     have hK := ref32_Consents_Clients_B2_ok hg hbd hz _ hr0 hS hb ⟨_, hB14, h13⟩ h73
     exact ke_weaken (l' := [(0, .pointer (some ⟨gc_0, 0, none⟩)), (1, str user_1), (2, .int .i64 now_2), (7, v72), (8, .int .i64 i_8)]) (.cons rfl (.cons rfl (.cons rfl (.cons rfl (.cons rfl (.nil _)))))) hK
    ·replace hS := ite_false' hS hc55
     refine ke_skip ?_
     have hK := ref32_Consents_Clients_B2_ok hg hbd hz _ hr0 hS hb ⟨_, hB14, h13⟩ hout_7
     exact ke_weaken (l' := [(0, .pointer (some ⟨gc_0, 0, none⟩)), (1, str user_1), (2, .int .i64 now_2), (7, vout_7), (8, .int .i64 i_8)]) (.cons rfl (.cons rfl (.cons rfl (.cons rfl (.cons rfl (.nil _)))))) hK
   ·intro K30
    clear hS
    have hj32 : Tr ρ w (fun _ => false) ρ w := (Tr.refl hb.bd).weak (fun _ _ => rfl) rfl rfl
    rcases Bool.eq_false_or_eq_true (y18.user == user_1) with hg29 | hg29
    ·have hS := ite_true' hz33 hg29
     refine sr_evg (b := true) (e := 31) rfl rfl hg29 (v := .pointer (some ⟨gc_0, 0, none⟩)) (ev_move rfl) (by decide) ?_
     refine sr_evg (b := true) (e := 31) rfl rfl hg29 (v := str user_1) (ev_move rfl) (by decide) ?_
     refine sr_evg (b := true) (e := 31) rfl rfl hg29 (v := .pointer (some ⟨gc_0, 0, none⟩)) (ev_move rfl) (by decide) ?_
     refine sr_evg (b := true) (e := 31) rfl rfl hg29 (v := .pointer (some ⟨gc_0, 0, none⟩)) (ev_nilCheck rfl) (by decide) ?_
     refine sr_evg (b := true) (e := 31) rfl rfl hg29 (v := .pointer (some ⟨gc_0, 1, none⟩)) (ev_fieldAddr (i := 1) Try.underlying55 rfl Try.info53 rfl rfl) (by decide) ?_
     refine sr_evg (b := true) (e := 31) rfl rfl hg29 (v := v12) (ev_load Try.isAgg53 rfl (hB14.cell rfl)) (by decide) ?_
     refine sr_evg (b := true) (e := 31) rfl rfl hg29 (v := .int .i64 i_8) (ev_move rfl) (by decide) ?_
     obtain ⟨y37, hy38, hS⟩ := bind_some' hS
     obtain ⟨b39, o40, cs42, hq43, he41, hg46, ho47⟩ := h13.elemQ (P := Try.prog) Try.underlying53 Try.info63 rfl hy38
     obtain ⟨v44, hcshe41, h45⟩ := he41.rd
     obtain rfl : cs42 = [str y37.user, str y37.client, v44] := hcshe41
     refine sr_evg (b := true) (e := 31) rfl rfl hg29 (v := .pointer (some ⟨b39, o40, none⟩)) (hq43 w rfl rfl) (by decide) ?_
     refine sr_evg (b := true) (e := 31) rfl rfl hg29 (v := .pointer (some ⟨b39, o40 + 1, none⟩)) (ev_fieldAddr (i := 1) Try.underlying63 rfl Try.info9 rfl rfl) (by decide) ?_
     refine sr_evg (b := true) (e := 31) rfl rfl hg29 (v := str y37.client) (ev_load Try.isAgg9 rfl (he41.cell 1 _ rfl)) (by decide) ?_
     refine sr_evg (b := true) (e := 31) rfl rfl hg29 (v := .int .i64 now_2) (ev_move rfl) (by decide) ?_
     obtain ⟨y48, hy49, hS⟩ := bind_some' hS
     refine sr_callg (b := true) (e := 31) rfl rfl hg29 (vs := [.pointer (some ⟨gc_0, 0, none⟩), str user_1, str y37.client, .int .i64 now_2]) rfl Try.call18 rfl (ref32_Consents_Scopes_ok _ (hg.fr hz hb) (ρA := ρ) hb.bd (hz.fr hg hb) (τ0 := (fun _ => 1)) (fun _ => Nat.le_refl 1) (⟨_, hB14, h13⟩ : ref32_Consents.O (fun _ => 1) ρ w gc_0 oc_0) hy49) (by decide) ?_
     rintro v53 w50 ⟨_, rfl, h54, hbw51⟩
     have htr52 := Tr.of_below hbw51 hb.bd
     replace hout_7 := hout_7.mv htr52.rd
     replace hB14 := hB14.mv (htr52.mv (i := 1) rfl)
     replace h13 := h13.mv (htr52.mv (i := 1) rfl) (by decide)
     replace hb := hb.trans htr52
     replace hj32 := (hj32.trans htr52).weak (J' := (fun _ => false)) (by intro t h; simp [rng] at h ⊢ <;> omega) rfl rfl
     refine sr_evg (b := true) (e := 31) rfl rfl hg29 (v := .int .i64 (y48.length : Int)) (ev_sllen Try.underlying30 rfl h54.asSl) (by decide) ?_
     refine sr_evg (b := true) (e := 31) rfl rfl hg29 (v := .bool (decide ((y48.length : Int) > 0))) (ev_gt rfl rfl) (by decide) ?_
     refine sr_ev (v := .bool (decide ((y48.length : Int) > 0))) (ev_pick_t rfl hg29 rfl) (by decide) ?_
     exact sr_weaken (l' := [(0, .pointer (some ⟨gc_0, 0, none⟩)), (1, str user_1), (2, .int .i64 now_2), (7, vout_7), (8, .int .i64 i_8), (46, .bool (decide ((y48.length : Int) > 0)))]) (.cons rfl (.cons rfl (.cons rfl (.cons rfl (.cons rfl (.cons rfl (.nil _))))))) (K30 (decide ((y48.length : Int) > 0)) _ ⟨(Option.some.inj hS).symm, _, hj32⟩)
    ·have hS := ite_false' hz33 hg29
     refine sr_pass (e := 31) rfl rfl (by rw [hg29]; rfl) (by decide) ?_
     refine sr_pass (e := 31) rfl rfl (by rw [hg29]; rfl) (by decide) ?_
     refine sr_pass (e := 31) rfl rfl (by rw [hg29]; rfl) (by decide) ?_
     refine sr_pass (e := 31) rfl rfl (by rw [hg29]; rfl) (by decide) ?_
     refine sr_pass (e := 31) rfl rfl (by rw [hg29]; rfl) (by decide) ?_
     refine sr_pass (e := 31) rfl rfl (by rw [hg29]; rfl) (by decide) ?_
     refine sr_pass (e := 31) rfl rfl (by rw [hg29]; rfl) (by decide) ?_
     refine sr_pass (e := 31) rfl rfl (by rw [hg29]; rfl) (by decide) ?_
     refine sr_pass (e := 31) rfl rfl (by rw [hg29]; rfl) (by decide) ?_
     refine sr_pass (e := 31) rfl rfl (by rw [hg29]; rfl) (by decide) ?_
     refine sr_pass (e := 31) rfl rfl (by rw [hg29]; rfl) (by decide) ?_
     refine sr_pass (e := 31) rfl rfl (by rw [hg29]; rfl) (by decide) ?_
     refine sr_pass (e := 31) rfl rfl (by rw [hg29]; rfl) (by decide) ?_
     refine sr_pass (e := 31) rfl rfl (by rw [hg29]; rfl) (by decide) ?_
     refine sr_ev (v := .bool false) (ev_pick_f rfl hg29 rfl) (by decide) ?_
     exact sr_weaken (l' := [(0, .pointer (some ⟨gc_0, 0, none⟩)), (1, str user_1), (2, .int .i64 now_2), (7, vout_7), (8, .int .i64 i_8), (46, .bool false)]) (.cons rfl (.cons rfl (.cons rfl (.cons rfl (.cons rfl (.cons rfl (.nil _))))))) (K30 false _ ⟨(Option.some.inj hS).symm, _, hj32⟩)
  ·replace hS := ite_false' hS hc17
   refine ke_exit (k' := _) rfl ?_
   refine ke_seq ?_
   refine ke_region ?_
   refine sr_ev (v := vout_7) (ev_move rfl) (by decide) ?_
   refine sr_ev (v := vout_7) (ev_assign rfl) (by decide) ?_
   refine sr_end (l' := [(6, vout_7)]) (.cons rfl (.nil _)) ?_
   cases hS
   exact ke_ret1 Try.func20 rfl rfl ⟨_, rfl, _, rfl, (SlR.mv hout_7 (flat1_back hb hbd)), (hb.below (flat1_le _))⟩
theorem ref32_Consents_Clients_ok (w0 : World) (hg : Gs w0) {ρA : Tags} (hbd : ∀ b, ρA b ≠ 0 → b < w0.heap.size) (hz : Gz ρA) {τ0 : Nat → Nat} (hτ0 : ∀ p, 1 ≤ τ0 p) {c_0 : ref32_Consents} {user_1 : Str} {now_2 : Int} {gc_0 : Nat} {r : List Str} (ho0 : ref32_Consents.O τ0 ρA w0 gc_0 c_0) (hS : ref32_Consents_Clients c_0 user_1 now_2 = some r) :
  Calls Try.prog 20 #[.pointer (some ⟨gc_0, 0, none⟩), str user_1, .int .i64 now_2] w0 (Ret (fun v w' => ∃ x1, v = x1 ∧ SlR strC (Wb ρA) w' x1 r ∧ Below w0.heap.size w0 w')) := by
 unfold ref32_Consents_Clients at hS
 have hb := flat1_fr (ρ := ρA) (w := w0) hbd
 have hz := hz.flat1
 obtain ⟨v1, hB3, h2⟩ := ho0
 replace hB3 := hB3.mv (flat1_mv (hτ0 0))
 replace h2 := h2.mv (flat1_mv (hτ0 1)) (by decide)
 replace hB3 : Blk (flat1 ρA) 1 w0 gc_0 (.cells #[.bool c_0.made, v1] 55 (0, 0)) := hB3
 replace h2 : OwnT ref32_pair.c 63 (flat1 ρA) 1 w0 v1 c_0.pairs := h2
 refine calls_of_ke Try.func20 rfl (n := 58) rfl rfl (l := [(0, .pointer (some ⟨gc_0, 0, none⟩)), (1, str user_1), (2, .int .i64 now_2)]) rfl ?_
 refine ke_seq ?_
 refine ke_region ?_
 refine sr_ev (v := .slice none 0 0) (ev_assign rfl) (by decide) ?_
 refine sr_end (l' := [(0, .pointer (some ⟨gc_0, 0, none⟩)), (1, str user_1), (2, .int .i64 now_2)]) (.cons rfl (.cons rfl (.cons rfl (.nil _)))) ?_
 refine ke_seq ?_
 refine ke_seq ?_
 refine ke_region ?_
 refine sr_ev (v := .pointer (some ⟨gc_0, 0, none⟩)) (ev_move rfl) (by decide) ?_
 obtain ⟨y6, hy7, hS⟩ := bind_some' hS
 refine sr_call (vs := [.pointer (some ⟨gc_0, 0, none⟩)]) rfl Try.call33 rfl (ref32_Consents_Made_ok _ (hg.fr hz hb) (ρA := (flat1 ρA)) hb.bd (hz.fr hg hb) (τ0 := (fun _ => 1)) (fun _ => Nat.le_refl 1) (⟨_, hB3, h2⟩ : ref32_Consents.O (fun _ => 1) (flat1 ρA) w0 gc_0 c_0) hy7) (by decide) ?_
 rintro _ w8 ⟨rfl, hbw9⟩
 have htr10 := Tr.of_below hbw9 hb.bd
 replace hB3 := hB3.mv (htr10.mv (i := 1) rfl)
 replace h2 := h2.mv (htr10.mv (i := 1) rfl) (by decide)
 replace hb := hb.trans htr10
 refine sr_ev (v := .bool (!y6)) (ev_not rfl) (by decide) ?_
 refine sr_end (l' := [(0, .pointer (some ⟨gc_0, 0, none⟩)), (1, str user_1), (2, .int .i64 now_2), (11, .bool (!y6))]) (.cons rfl (.cons rfl (.cons rfl (.cons rfl (.nil _))))) ?_
 refine ke_cond (t := !y6) rfl (fun hc11 => ?_) (fun hc11 => ?_)
 ·replace hS := ite_true' hS hc11
  refine ke_seq ?_
  refine ke_region ?_
  refine sr_ev (v := .slice none 0 0) (ev_assign rfl) (by decide) ?_
  refine sr_end (l' := [(6, .slice none 0 0)]) (.cons rfl (.nil _)) ?_
  cases hS
  exact ke_ret1 Try.func20 rfl rfl ⟨_, rfl, _, rfl, SlR.nil, (hb.below (flat1_le _))⟩
 ·replace hS := ite_false' hS hc11
  refine ke_skip ?_
  refine ke_seq ?_
  refine ke_region ?_
  refine sr_ev (v := .slice none 0 0) (ev_assign rfl) (by decide) ?_
  refine sr_end (l' := [(0, .pointer (some ⟨gc_0, 0, none⟩)), (1, str user_1), (2, .int .i64 now_2), (7, .slice none 0 0)]) (.cons rfl (.cons rfl (.cons rfl (.cons rfl (.nil _))))) ?_
  refine ke_seq ?_
  refine ke_seq ?_
  refine ke_region ?_
  refine sr_ev (v := .int .i64 0) (ev_assign rfl) (by decide) ?_
  refine sr_end (l' := [(0, .pointer (some ⟨gc_0, 0, none⟩)), (1, str user_1), (2, .int .i64 now_2), (7, .slice none 0 0), (8, .int .i64 0)]) (.cons rfl (.cons rfl (.cons rfl (.cons rfl (.cons rfl (.nil _)))))) ?_
  refine ke_block ?_
  have hK := ref32_Consents_Clients_L1_ok hg hbd hz _ hS hb ⟨_, hB3, h2⟩ SlR.nil
  exact ke_weaken (l' := [(0, .pointer (some ⟨gc_0, 0, none⟩)), (1, str user_1), (2, .int .i64 now_2), (7, (.slice none 0 0)), (8, .int .i64 0)]) (.cons rfl (.cons rfl (.cons rfl (.cons rfl (.cons rfl (.nil _)))))) (ke_loop hK)
theorem law32_ConsentPlays_B2_ok {w0 : World} (hg : Gs w0) {ρA : Tags} (hbd : ∀ b, ρA b ≠ 0 → b < w0.heap.size) (hz : Gz (flat1 ρA)) (r0 : List law32_Op → Int → consent_Consents → ref32_Consents → Int → Option (Bool))
  (hr0 : ∀ {r : Bool} {l_0 : List law32_Op} {at_1 : Int} {oc_5 : consent_Consents} {od_6 : ref32_Consents} {i_7 : Int} {vl_0 : Value} {gc_5 : Nat} {gd_6 : Nat}, r0 l_0 at_1 oc_5 od_6 i_7 = some r → ∀ {ρ : Tags} {w : World}, (Fr (flat1 ρA) w0 ρ w) → (SlR law32_Op.c (Wb ρ) w vl_0 l_0) → (consent_Consents.O (fun p => 100 + p) ρ w gc_5 oc_5) → (ref32_Consents.O (fun p => 200 + p) ρ w gd_6 od_6) → KE Try.prog 3 (Ret (fun v w' => v = .bool r ∧ Below w0.heap.size w0 w')) 131 [.inLoop (sub (bodyOf Try.f3) [2, 2, 2, 2, 1, 2, 2, 1]), .inBlock 0, .code (sub (bodyOf Try.f3) [2, 2, 2, 2, 2])] [(0, vl_0), (1, .int .i64 at_1), (5, .pointer (some ⟨gc_5, 0, none⟩)), (6, .pointer (some ⟨gd_6, 0, none⟩)), (7, .int .i64 i_7)] w) {r : Bool} {l_0 : List law32_Op} {at_1 : Int} {oc_5 : consent_Consents} {od_6 : ref32_Consents} {i_7 : Int} {t_129 : Bool} {vl_0 : Value} {gc_5 : Nat} {gd_6 : Nat} (hS : law32_ConsentPlays_B2 r0 l_0 at_1 oc_5 od_6 i_7 t_129 = some r) {ρ : Tags} {w : World} (hb : Fr (flat1 ρA) w0 ρ w) (hl_0 : SlR law32_Op.c (Wb ρ) w vl_0 l_0) (hoc_5 : consent_Consents.O (fun p => 100 + p) ρ w gc_5 oc_5) (hod_6 : ref32_Consents.O (fun p => 200 + p) ρ w gd_6 od_6) :
  KE Try.prog 3 (Ret (fun v w' => v = .bool r ∧ Below w0.heap.size w0 w')) 131 [.code (sub (bodyOf Try.f3) [2, 2, 2, 2, 1, 2, 2, 1, 2, 1, 2, 2]), .inBlock 1, .code (sub (bodyOf Try.f3) [2, 2, 2, 2, 1, 2, 2, 1, 2, 2]), .inLoop (sub (bodyOf Try.f3) [2, 2, 2, 2, 1, 2, 2, 1]), .inBlock 0, .code (sub (bodyOf Try.f3) [2, 2, 2, 2, 2])] [(0, vl_0), (1, .int .i64 at_1), (5, .pointer (some ⟨gc_5, 0, none⟩)), (6, .pointer (some ⟨gd_6, 0, none⟩)), (7, .int .i64 i_7), (129, .bool t_129)] w := by
 unfold law32_ConsentPlays_B2 at hS
 obtain ⟨v540, hB542, h541⟩ := hoc_5
 replace hB542 : Blk ρ 100 w gc_5 (.cells #[v540] 52 (0, 0)) := hB542
 replace h541 : MapT consent_pair.ek (mapC str (intC .i64) false) false ρ 101 w v540 oc_5.pairs := h541
 obtain ⟨v543, hB545, h544⟩ := hod_6
 replace hB545 : Blk ρ 200 w gd_6 (.cells #[.bool od_6.made, v543] 55 (0, 0)) := hB545
 replace h544 : OwnT ref32_pair.c 63 ρ 201 w v543 od_6.pairs := h544
 refine ke_cond (t := t_129) rfl (fun hc546 => ?_) (fun hc546 => ?_)
 ·replace hS := ite_true' hS hc546
  refine ke_seq ?_
  refine ke_region ?_
  refine sr_ev (v := .bool false) (ev_assign rfl) (by decide) ?_
  refine sr_end (l' := [(4, .bool false)]) (.cons rfl (.nil _)) ?_
  cases hS
  exact ke_ret1 Try.func3 rfl rfl ⟨_, rfl, rfl, (hb.below (flat1_le _))⟩
 ·replace hS := ite_false' hS hc546
  refine ke_skip ?_
  refine ke_inBlock ?_
  refine ke_region ?_
  refine sr_ev (v := .int .i64 i_7) (ev_move rfl) (by decide) ?_
  refine sr_ev (v := .int .i64 (IntKind.i64.wrap (i_7 + 1))) (ev_add rfl rfl) (by decide) ?_
  refine sr_ev (v := .int .i64 (IntKind.i64.wrap (i_7 + 1))) (ev_assign rfl) (by decide) ?_
  refine sr_end (l' := [(0, vl_0), (1, .int .i64 at_1), (5, .pointer (some ⟨gc_5, 0, none⟩)), (6, .pointer (some ⟨gd_6, 0, none⟩)), (7, .int .i64 (IntKind.i64.wrap (i_7 + 1)))]) (.cons rfl (.cons rfl (.cons rfl (.cons rfl (.cons rfl (.nil _)))))) ?_
  have hK := hr0 hS hb hl_0 ⟨_, hB542, h541⟩ ⟨_, hB545, h544⟩
  exact ke_weaken (l' := [(0, vl_0), (1, .int .i64 at_1), (5, .pointer (some ⟨gc_5, 0, none⟩)), (6, .pointer (some ⟨gd_6, 0, none⟩)), (7, .int .i64 (IntKind.i64.wrap (i_7 + 1)))]) (.cons rfl (.cons rfl (.cons rfl (.cons rfl (.cons rfl (.nil _)))))) hK

end Ytijiipelpgmhpaa
end Go.Proofs
