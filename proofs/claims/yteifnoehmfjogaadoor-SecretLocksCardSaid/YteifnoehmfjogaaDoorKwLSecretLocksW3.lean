/- Own work: a part of the proofs of this seat. -/
import Derived.Test.YteifnoehmfjogaaDoorProg
import Derived.Test.YteifnoehmfjogaaDoorShelf
import Derived.Test.YteifnoehmfjogaaDoorKwLS
import Derived.KernelRfl
import Derived.Test.YteifnoehmfjogaaDoorKwLSecretLocksW2
set_option linter.unusedVariables false
set_option linter.unusedSimpArgs false
set_option linter.unusedSectionVars false
set_option maxHeartbeats 8000000
set_option maxRecDepth 8000
namespace Go.Proofs
namespace YteifnoehmfjogaaDoor
open Go Go.KW Go.KW.S Go.RowKit
theorem ref22_Locks_Clear_ok (w0 : World) (hg : Gs w0) {ρA : Tags} (hbd : ∀ b, ρA b ≠ 0 → b < w0.heap.size) (hz : Gz ρA) {o : Nat} (ho2 : 2 ≤ o) {k_0 : ref22_Locks} {user_1 : Str} {gk_0 : Nat} {r : ref22_Locks} (ho0 : ref22_Locks.O (fun p => o + p) ρA w0 gk_0 k_0) (hS : ref22_Locks_Clear k_0 user_1 = some r) :
  Calls Tryd.prog 27 #[.pointer (some ⟨gk_0, 0, none⟩), str user_1] w0 (Ret (fun v w' => ∃ ρ', v = .tuple #[] ∧ ref22_Locks.O (fun p => o + p) ρ' w' gk_0 r ∧ Tr ρA w0 (rng o 2) ρ' w')) := by
 unfold ref22_Locks_Clear at hS
 have hb := enter_fr (ρ := ρA) (w := w0) (n := 2) ho2 hbd
 have hz := hz.enter (n := 2) ho2
 obtain ⟨v1, hB3, h2⟩ := ho0
 replace hB3 := hB3.mv (enter_mv (p := 0) (n := 2) (by decide) ho2)
 replace h2 := h2.mv (enter_mv (p := 1) (n := 2) (by decide) ho2) (by decide)
 replace hB3 : Blk (enter ρA o 2) 100 w0 gk_0 (.cells #[.bool k_0.made, .int .i64 k_0.most, .int .i64 k_0.window, .int .i64 k_0.lock, v1] 71 (0, 0)) := hB3
 replace h2 : OwnT ref22_record.c 79 (enter ρA o 2) 101 w0 v1 k_0.records := h2
 refine calls_of_ke Tryd.func27 rfl (n := 32) rfl rfl (l := [(0, .pointer (some ⟨gk_0, 0, none⟩)), (1, str user_1)]) rfl ?_
 refine ke_seq ?_
 refine ke_seq ?_
 refine ke_region ?_
 refine sr_ev (v := .pointer (some ⟨gk_0, 0, none⟩)) (ev_move rfl) (by decide) ?_
 obtain ⟨y4, hy5, hS⟩ := bind_some' hS
 refine sr_call (vs := [.pointer (some ⟨gk_0, 0, none⟩)]) rfl Tryd.call52 rfl (ref22_Locks_Made_ok _ (hg.fr hz hb) (ρA := (enter ρA o 2)) hb.bd (hz.fr hg hb) (τ0 := (fun p => 100 + p)) (fun p => Nat.le_add_right_of_le (by decide)) (⟨_, hB3, h2⟩ : ref22_Locks.O (fun p => 100 + p) (enter ρA o 2) w0 gk_0 k_0) hy5) (by decide) ?_
 rintro _ w6 ⟨rfl, hbw7⟩
 have htr8 := Tr.of_below hbw7 hb.bd
 replace hB3 := hB3.mv (htr8.mv (i := 100) rfl)
 replace h2 := h2.mv (htr8.mv (i := 101) rfl) (by decide)
 replace hb := hb.trans htr8
 refine sr_ev (v := .bool (!y4)) (ev_not rfl) (by decide) ?_
 refine sr_end (l' := [(0, .pointer (some ⟨gk_0, 0, none⟩)), (1, str user_1), (7, .bool (!y4))]) (.cons rfl (.cons rfl (.cons rfl (.nil _)))) ?_
 refine ke_cond (t := !y4) rfl (fun hc9 => ?_) (fun hc9 => ?_)
 ·replace hS := ite_true' hS hc9
  cases hS
  exact ke_ret0 Tryd.func27 rfl ⟨_, rfl, leave ρA w0 o 2 (enter ρA o 2), rfl, ⟨_, (hB3.mv (leave_mv (p := 0) (by decide) hb)), (h2.mv (leave_mv (p := 1) (by decide) hb) (Nat.ne_of_gt (Nat.lt_of_lt_of_le (Nat.lt_of_lt_of_le Nat.zero_lt_two ho2) (Nat.le_add_right _ _))))⟩, (leave_tr ho2 hb)⟩
 ·replace hS := ite_false' hS hc9
  refine ke_skip ?_
  refine ke_seq ?_
  refine ke_region ?_
  refine sr_ev (v := .pointer (some ⟨gk_0, 0, none⟩)) (ev_move rfl) (by decide) ?_
  refine sr_ev (v := str user_1) (ev_move rfl) (by decide) ?_
  obtain ⟨y10, hy11, hS⟩ := bind_some' hS
  refine sr_call (vs := [.pointer (some ⟨gk_0, 0, none⟩), str user_1]) rfl Tryd.call53 rfl (ref22_Locks_find_ok _ (hg.fr hz hb) (ρA := (enter ρA o 2)) hb.bd (hz.fr hg hb) (τ0 := (fun p => 100 + p)) (fun p => Nat.le_add_right_of_le (by decide)) (⟨_, hB3, h2⟩ : ref22_Locks.O (fun p => 100 + p) (enter ρA o 2) w6 gk_0 k_0) hy11) (by decide) ?_
  rintro _ w12 ⟨rfl, hbw13⟩
  have htr14 := Tr.of_below hbw13 hb.bd
  replace hB3 := hB3.mv (htr14.mv (i := 100) rfl)
  replace h2 := h2.mv (htr14.mv (i := 101) rfl) (by decide)
  replace hb := hb.trans htr14
  refine sr_ev (v := .int .i64 y10) (ev_assign rfl) (by decide) ?_
  refine sr_end (l' := [(0, .pointer (some ⟨gk_0, 0, none⟩)), (4, .int .i64 y10)]) (.cons rfl (.cons rfl (.nil _))) ?_
  refine ke_seq ?_
  refine ke_region ?_
  refine sr_ev (v := .int .i64 y10) (ev_move rfl) (by decide) ?_
  refine sr_ev (v := .bool (decide (y10 ≥ 0))) (ev_ge rfl rfl) (by decide) ?_
  refine sr_end (l' := [(0, .pointer (some ⟨gk_0, 0, none⟩)), (4, .int .i64 y10), (12, .bool (decide (y10 ≥ 0)))]) (.cons rfl (.cons rfl (.cons rfl (.nil _)))) ?_
  refine ke_cond (t := decide (y10 ≥ 0)) rfl (fun hc15 => ?_) (fun hc15 => ?_)
  ·replace hS := ite_true' hS hc15
   refine ke_region_j (ρ := (enter ρA o 2)) (fun t => ([16, 100] : List Nat).contains t) 20 Tryd.mixed (fun w17 hw16 => ?_)
   have htr18 := Tr.of_below hw16 hb.bd
   replace hB3 := hB3.mv (htr18.mv (i := 100) rfl)
   replace h2 := h2.mv (htr18.mv (i := 101) rfl) (by decide)
   replace hb := hb.trans htr18
   refine dj_H 0 (v := .pointer (some ⟨gk_0, 0, none⟩)) (by kernel_rfl) (by kernel_rfl) rfl (fun _ _ _ h => h) (sj_refl hb.bd rfl rfl) (fun w1 ρ1 hw1 => ev_move rfl) (by decide) ?_
   refine dj_H 2 (v := .pointer (some ⟨gk_0, 0, none⟩)) (by kernel_rfl) (by kernel_rfl) rfl (fun _ _ _ h => h) (sj_refl hb.bd rfl rfl) (fun w1 ρ1 hw1 => ev_move rfl) (by decide) ?_
   refine dj_H 3 (v := .pointer (some ⟨gk_0, 0, none⟩)) (by kernel_rfl) (by kernel_rfl) rfl (fun _ _ _ h => h) (sj_refl hb.bd rfl rfl) (fun w1 ρ1 hw1 => ev_nilCheck rfl) (by decide) ?_
   refine dj_H 4 (v := .pointer (some ⟨gk_0, 4, none⟩)) (by kernel_rfl) (by kernel_rfl) rfl (fun _ _ _ h => h) (sj_refl hb.bd rfl rfl) (fun w1 ρ1 hw1 => ev_fieldAddr (i := 4) Tryd.underlying71 rfl Tryd.info69 rfl rfl) (by decide) ?_
   refine dj_H 6 (v := .int .i64 y10) (by kernel_rfl) (by kernel_rfl) rfl (fun _ _ _ h => h) (sj_refl hb.bd rfl rfl) (fun w1 ρ1 hw1 => ev_move rfl) (by decide) ?_
   refine dj_H 9 (v := .pointer (some ⟨gk_0, 0, none⟩)) (by kernel_rfl) (by kernel_rfl) rfl (fun _ _ _ h => h) (sj_refl hb.bd rfl rfl) (fun w1 ρ1 hw1 => ev_move rfl) (by decide) ?_
   refine dj_H 10 (v := .pointer (some ⟨gk_0, 0, none⟩)) (by kernel_rfl) (by kernel_rfl) rfl (fun _ _ _ h => h) (sj_refl hb.bd rfl rfl) (fun w1 ρ1 hw1 => ev_nilCheck rfl) (by decide) ?_
   refine dj_H 11 (v := .pointer (some ⟨gk_0, 4, none⟩)) (by kernel_rfl) (by kernel_rfl) rfl (fun _ _ _ h => h) (sj_refl hb.bd rfl rfl) (fun w1 ρ1 hw1 => ev_fieldAddr (i := 4) Tryd.underlying71 rfl Tryd.info69 rfl rfl) (by decide) ?_
   refine dj_H 13 (v := .int .i64 y10) (by kernel_rfl) (by kernel_rfl) rfl (fun _ _ _ h => h) (sj_refl hb.bd rfl rfl) (fun w1 ρ1 hw1 => ev_move rfl) (by decide) ?_
   refine dj_H 14 (v := .int .i64 (IntKind.i64.wrap (y10 + 1))) (by kernel_rfl) (by kernel_rfl) rfl (fun _ _ _ h => h) (sj_refl hb.bd rfl rfl) (fun w1 ρ1 hw1 => ev_add rfl rfl) (by decide) ?_
   obtain ⟨hk284, hS⟩ := chk_some hS
   obtain ⟨hk289, hS⟩ := chk_some hS
   obtain ⟨hk296, hS⟩ := chk_some hS
   obtain ⟨hk301, hS⟩ := chk_some hS
   refine dj_all [1, 5, 12] (by kernel_rfl) (fun i hi => ?_)
   simp only [List.mem_cons, List.not_mem_nil, or_false] at hi
   rcases hi with rfl | rfl | rfl
   ·refine ⟨_, rfl, ?_⟩
    have jt310 : Tr (enter ρA o 2) w17 (fun t => ([16, 100] : List Nat).contains t) (enter ρA o 2) w17 := (Tr.refl hb.bd).weak (fun _ _ => rfl) rfl rfl
    refine sr_litOwnT (i := 16) (c := ref22_record.c) (ρ := (enter ρA o 2)) (E := 79) (xs := []) (vs := #[]) (cs := #[]) (css := []) rfl (fun _ => by kernel_rfl) rfl trivial rfl (by decide) (by decide) hb.bd (by decide) ?_
    intro v311 ρ315 w313 h312 htr314
    replace hB3 := hB3.mv (htr314.mv (i := 100) rfl)
    replace h2 := h2.mv (htr314.mv (i := 101) rfl) (by decide)
    replace hb := hb.trans htr314
    replace jt310 := (jt310.trans htr314).weak (J' := (fun t => ([16, 100] : List Nat).contains t)) (by intro t h; simp [rng] at h ⊢ <;> omega) rfl rfl
    refine dj_next (l' := [(13, .pointer (some ⟨gk_0, 0, none⟩)), (14, v311), (17, .pointer (some ⟨gk_0, 4, none⟩)), (19, .int .i64 y10), (24, .pointer (some ⟨gk_0, 4, none⟩)), (27, .int .i64 (IntKind.i64.wrap (y10 + 1)))]) rfl (.cons rfl (.cons rfl (.cons rfl (.cons rfl (.cons rfl (.cons rfl (.nil _))))))) jt310 (by intro t h; simp [rng] at h ⊢ <;> omega) rfl rfl ?_
    refine dj_all [5, 12] (by kernel_rfl) (fun i hi => ?_)
    simp only [List.mem_cons, List.not_mem_nil, or_false] at hi
    rcases hi with rfl | rfl
    ·refine ⟨_, rfl, ?_⟩
     have jt316 : Tr ρ315 w313 (fun t => ([16, 100] : List Nat).contains t) ρ315 w313 := (Tr.refl hb.bd).weak (fun _ _ => rfl) rfl rfl
     refine sr_ev (v := v1) (ev_load Tryd.isAgg69 rfl (hB3.cell rfl)) (by decide) ?_
     refine dj_next (l' := [(13, .pointer (some ⟨gk_0, 0, none⟩)), (14, v311), (18, v1), (19, .int .i64 y10), (24, .pointer (some ⟨gk_0, 4, none⟩)), (27, .int .i64 (IntKind.i64.wrap (y10 + 1)))]) rfl (.cons rfl (.cons rfl (.cons rfl (.cons rfl (.cons rfl (.cons rfl (.nil _))))))) jt316 (by intro t h; simp [rng] at h ⊢ <;> omega) rfl rfl ?_
     obtain ⟨v317, h318, hq319⟩ := (h2.sl).cutT_h (P := Tryd.prog) Tryd.underlying69 Tryd.info79 rfl hk284
     refine dj_H 7 (v := v317) (by kernel_rfl) (by kernel_rfl) rfl (fun _ _ _ h => h) (sj_refl hb.bd rfl rfl) (fun w1 ρ1 hw1 => hq319 w1 rfl rfl) (by decide) ?_
     refine dj_all [8, 12] (by kernel_rfl) (fun i hi => ?_)
     simp only [List.mem_cons, List.not_mem_nil, or_false] at hi
     rcases hi with rfl | rfl
     ·refine ⟨_, rfl, ?_⟩
      have jt320 : Tr ρ315 w313 (fun t => ([16, 100] : List Nat).contains t) ρ315 w313 := (Tr.refl hb.bd).weak (fun _ _ => rfl) rfl rfl
      refine sr_appendT (i := 16) (c := ref22_record.c) (ρ := ρ315) (E := 79) (xs := ([] : List ref22_record)) (ys := cut k_0.records 0 y10) h312 (h318).x Tryd.underlying69 Tryd.info79 rfl rfl rfl (by decide) (by decide) (by decide) hb.bd hk289 rfl rfl (by decide) ?_
      intro v321 ρ323 w324 h322 htr325
      replace hB3 := hB3.mv (htr325.mv (i := 100) rfl)
      replace h2 := h2.mv (htr325.mv (i := 101) rfl) (by decide)
      replace hb := hb.trans htr325
      replace jt320 := (jt320.trans htr325).weak (J' := (fun t => ([16, 100] : List Nat).contains t)) (by intro t h; simp [rng] at h ⊢ <;> omega) rfl rfl
      refine dj_next (l' := [(13, .pointer (some ⟨gk_0, 0, none⟩)), (21, v321), (24, .pointer (some ⟨gk_0, 4, none⟩)), (27, .int .i64 (IntKind.i64.wrap (y10 + 1)))]) rfl (.cons rfl (.cons rfl (.cons rfl (.cons rfl (.nil _))))) jt320 (by intro t h; simp [rng] at h ⊢ <;> omega) rfl rfl ?_
      refine dj_E 12 (by kernel_rfl) rfl ?_
      have jt326 : Tr ρ323 w324 (fun t => ([16, 100] : List Nat).contains t) ρ323 w324 := (Tr.refl hb.bd).weak (fun _ _ => rfl) rfl rfl
      refine sr_ev (v := v1) (ev_load Tryd.isAgg69 rfl (hB3.cell rfl)) (by decide) ?_
      refine dj_next (l' := [(13, .pointer (some ⟨gk_0, 0, none⟩)), (21, v321), (25, v1), (27, .int .i64 (IntKind.i64.wrap (y10 + 1)))]) rfl (.cons rfl (.cons rfl (.cons rfl (.cons rfl (.nil _))))) jt326 (by intro t h; simp [rng] at h ⊢ <;> omega) rfl rfl ?_
      obtain ⟨v327, h328, hq329⟩ := (h2.sl).cutT_l (P := Tryd.prog) Tryd.underlying69 Tryd.info79 rfl hk296
      refine dj_H 15 (v := v327) (by kernel_rfl) (by kernel_rfl) rfl (fun _ _ _ h => h) (sj_refl hb.bd rfl rfl) (fun w1 ρ1 hw1 => hq329 w1 rfl rfl) (by decide) ?_
      refine dj_E 16 (by kernel_rfl) rfl ?_
      have jt330 : Tr ρ323 w324 (fun t => ([16, 100] : List Nat).contains t) ρ323 w324 := (Tr.refl hb.bd).weak (fun _ _ => rfl) rfl rfl
      refine sr_appendT (i := 16) (c := ref22_record.c) (ρ := ρ323) (E := 79) (xs := ([] : List ref22_record) ++ (cut k_0.records 0 y10)) (ys := cut k_0.records (IntKind.i64.wrap (y10 + 1)) k_0.records.length) h322 (h328).x Tryd.underlying69 Tryd.info79 rfl rfl rfl (by decide) (by decide) (by decide) hb.bd hk301 rfl rfl (by decide) ?_
      intro v331 ρ333 w334 h332 htr335
      replace hB3 := hB3.mv (htr335.mv (i := 100) rfl)
      replace h2 := h2.mv (htr335.mv (i := 101) rfl) (by decide)
      replace hb := hb.trans htr335
      replace jt330 := (jt330.trans htr335).weak (J' := (fun t => ([16, 100] : List Nat).contains t)) (by intro t h; simp [rng] at h ⊢ <;> omega) rfl rfl
      refine dj_next (l' := [(13, .pointer (some ⟨gk_0, 0, none⟩)), (29, v331)]) rfl (.cons rfl (.cons rfl (.nil _))) jt330 (by intro t h; simp [rng] at h ⊢ <;> omega) rfl rfl ?_
      refine dj_H 17 (v := .pointer (some ⟨gk_0, 0, none⟩)) (by kernel_rfl) (by kernel_rfl) rfl (fun _ _ _ h => h) (sj_refl hb.bd rfl rfl) (fun w1 ρ1 hw1 => ev_nilCheck rfl) (by decide) ?_
      refine dj_H 18 (v := .pointer (some ⟨gk_0, 4, none⟩)) (by kernel_rfl) (by kernel_rfl) rfl (fun _ _ _ h => h) (sj_refl hb.bd rfl rfl) (fun w1 ρ1 hw1 => ev_fieldAddr (i := 4) Tryd.underlying71 rfl Tryd.info69 rfl rfl) (by decide) ?_
      refine dj_E 19 (by kernel_rfl) rfl ?_
      have jt336 : Tr ρ333 w334 (fun t => ([16, 100] : List Nat).contains t) ρ333 w334 := (Tr.refl hb.bd).weak (fun _ _ => rfl) rfl rfl
      refine sr_storeT (v := v331) (vs := [v331]) (cs' := #[.bool k_0.made, .int .i64 k_0.most, .int .i64 k_0.window, .int .i64 k_0.lock, v331]) hB3 (by decide) hb.bd rfl rfl (one_cells (OwnT.oneCell h332)) Tryd.sizeOf69 rfl (by first | rfl | (simp only [List.all_cons, List.all_nil, OwnT.oneCell h332]; done) | (simp only [List.all_cons, List.all_nil, OwnT.oneCell h332]; rfl)) rfl ?_
      intro w337 hB31 htr338
      replace h332 := h332.mv (htr338.mv (i := 16) rfl) (by decide)
      replace hb := hb.trans htr338
      replace jt336 := (jt336.trans htr338).weak (J' := (fun t => ([16, 100] : List Nat).contains t)) (by intro t h; simp [rng] at h ⊢ <;> omega) rfl rfl
      replace hB3 : Blk ρ333 100 w337 gk_0 (.cells #[.bool k_0.made, .int .i64 k_0.most, .int .i64 k_0.window, .int .i64 k_0.lock, v331] 71 (0, 0)) := hB31
      clear hB31
      refine dj_next (l' := []) rfl (.nil _) jt336 (by intro t h; simp [rng] at h ⊢ <;> omega) rfl rfl ?_
      refine dj_done rfl (by kernel_rfl) ?_
      refine ke_weaken (l' := []) (.nil _) ?_
      have htr339 := rtg_tr (ρ := ρ333) (w := w337) (i := 16) 101 (by decide) hb.bd
      have hmv340 : Mv ρ333 w337 16 (rtg ρ333 16 101) w337 101 := rtg_mv (by decide)
      replace hB3 := hB3.mv (htr339.mv (i := 100) rfl)
      replace hb := hb.trans htr339
      replace h332 := h332.mv hmv340 (by decide)
      cases hS
      exact ke_end0 Tryd.func27 rfl ⟨_, rfl, leave ρA w0 o 2 (rtg ρ333 16 101), rfl, ⟨_, (hB3.mv (leave_mv (p := 0) (by decide) hb)), (h332.mv (leave_mv (p := 1) (by decide) hb) (Nat.ne_of_gt (Nat.lt_of_lt_of_le (Nat.lt_of_lt_of_le Nat.zero_lt_two ho2) (Nat.le_add_right _ _))))⟩, (leave_tr ho2 hb)⟩
     ·refine ⟨_, rfl, ?_⟩
      have jt341 : Tr ρ315 w313 (fun t => ([16, 100] : List Nat).contains t) ρ315 w313 := (Tr.refl hb.bd).weak (fun _ _ => rfl) rfl rfl
      refine sr_ev (v := v1) (ev_load Tryd.isAgg69 rfl (hB3.cell rfl)) (by decide) ?_
      refine dj_next (l' := [(13, .pointer (some ⟨gk_0, 0, none⟩)), (14, v311), (20, v317), (25, v1), (27, .int .i64 (IntKind.i64.wrap (y10 + 1)))]) rfl (.cons rfl (.cons rfl (.cons rfl (.cons rfl (.cons rfl (.nil _)))))) jt341 (by intro t h; simp [rng] at h ⊢ <;> omega) rfl rfl ?_
      obtain ⟨v342, h343, hq344⟩ := (h2.sl).cutT_l (P := Tryd.prog) Tryd.underlying69 Tryd.info79 rfl hk296
      refine dj_H 15 (v := v342) (by kernel_rfl) (by kernel_rfl) rfl (fun _ _ _ h => h) (sj_refl hb.bd rfl rfl) (fun w1 ρ1 hw1 => hq344 w1 rfl rfl) (by decide) ?_
      refine dj_E 8 (by kernel_rfl) rfl ?_
      have jt345 : Tr ρ315 w313 (fun t => ([16, 100] : List Nat).contains t) ρ315 w313 := (Tr.refl hb.bd).weak (fun _ _ => rfl) rfl rfl
      refine sr_appendT (i := 16) (c := ref22_record.c) (ρ := ρ315) (E := 79) (xs := ([] : List ref22_record)) (ys := cut k_0.records 0 y10) h312 (h318).x Tryd.underlying69 Tryd.info79 rfl rfl rfl (by decide) (by decide) (by decide) hb.bd hk289 rfl rfl (by decide) ?_
      intro v346 ρ348 w349 h347 htr350
      replace h343 := h343.mv (htr350.mv (i := 101) rfl)
      replace hB3 := hB3.mv (htr350.mv (i := 100) rfl)
      replace h2 := h2.mv (htr350.mv (i := 101) rfl) (by decide)
      replace hb := hb.trans htr350
      replace jt345 := (jt345.trans htr350).weak (J' := (fun t => ([16, 100] : List Nat).contains t)) (by intro t h; simp [rng] at h ⊢ <;> omega) rfl rfl
      refine dj_next (l' := [(13, .pointer (some ⟨gk_0, 0, none⟩)), (21, v346), (28, v342)]) rfl (.cons rfl (.cons rfl (.cons rfl (.nil _)))) jt345 (by intro t h; simp [rng] at h ⊢ <;> omega) rfl rfl ?_
      refine dj_E 16 (by kernel_rfl) rfl ?_
      have jt351 : Tr ρ348 w349 (fun t => ([16, 100] : List Nat).contains t) ρ348 w349 := (Tr.refl hb.bd).weak (fun _ _ => rfl) rfl rfl
      refine sr_appendT (i := 16) (c := ref22_record.c) (ρ := ρ348) (E := 79) (xs := ([] : List ref22_record) ++ (cut k_0.records 0 y10)) (ys := cut k_0.records (IntKind.i64.wrap (y10 + 1)) k_0.records.length) h347 (h343).x Tryd.underlying69 Tryd.info79 rfl rfl rfl (by decide) (by decide) (by decide) hb.bd hk301 rfl rfl (by decide) ?_
      intro v352 ρ354 w355 h353 htr356
      replace hB3 := hB3.mv (htr356.mv (i := 100) rfl)
      replace h2 := h2.mv (htr356.mv (i := 101) rfl) (by decide)
      replace hb := hb.trans htr356
      replace jt351 := (jt351.trans htr356).weak (J' := (fun t => ([16, 100] : List Nat).contains t)) (by intro t h; simp [rng] at h ⊢ <;> omega) rfl rfl
      refine dj_next (l' := [(13, .pointer (some ⟨gk_0, 0, none⟩)), (29, v352)]) rfl (.cons rfl (.cons rfl (.nil _))) jt351 (by intro t h; simp [rng] at h ⊢ <;> omega) rfl rfl ?_
      refine dj_H 17 (v := .pointer (some ⟨gk_0, 0, none⟩)) (by kernel_rfl) (by kernel_rfl) rfl (fun _ _ _ h => h) (sj_refl hb.bd rfl rfl) (fun w1 ρ1 hw1 => ev_nilCheck rfl) (by decide) ?_
      refine dj_H 18 (v := .pointer (some ⟨gk_0, 4, none⟩)) (by kernel_rfl) (by kernel_rfl) rfl (fun _ _ _ h => h) (sj_refl hb.bd rfl rfl) (fun w1 ρ1 hw1 => ev_fieldAddr (i := 4) Tryd.underlying71 rfl Tryd.info69 rfl rfl) (by decide) ?_
      refine dj_E 19 (by kernel_rfl) rfl ?_
      have jt357 : Tr ρ354 w355 (fun t => ([16, 100] : List Nat).contains t) ρ354 w355 := (Tr.refl hb.bd).weak (fun _ _ => rfl) rfl rfl
      refine sr_storeT (v := v352) (vs := [v352]) (cs' := #[.bool k_0.made, .int .i64 k_0.most, .int .i64 k_0.window, .int .i64 k_0.lock, v352]) hB3 (by decide) hb.bd rfl rfl (one_cells (OwnT.oneCell h353)) Tryd.sizeOf69 rfl (by first | rfl | (simp only [List.all_cons, List.all_nil, OwnT.oneCell h353]; done) | (simp only [List.all_cons, List.all_nil, OwnT.oneCell h353]; rfl)) rfl ?_
      intro w358 hB31 htr359
      replace h353 := h353.mv (htr359.mv (i := 16) rfl) (by decide)
      replace hb := hb.trans htr359
      replace jt357 := (jt357.trans htr359).weak (J' := (fun t => ([16, 100] : List Nat).contains t)) (by intro t h; simp [rng] at h ⊢ <;> omega) rfl rfl
      replace hB3 : Blk ρ354 100 w358 gk_0 (.cells #[.bool k_0.made, .int .i64 k_0.most, .int .i64 k_0.window, .int .i64 k_0.lock, v352] 71 (0, 0)) := hB31
      clear hB31
      refine dj_next (l' := []) rfl (.nil _) jt357 (by intro t h; simp [rng] at h ⊢ <;> omega) rfl rfl ?_
      refine dj_done rfl (by kernel_rfl) ?_
      refine ke_weaken (l' := []) (.nil _) ?_
      have htr360 := rtg_tr (ρ := ρ354) (w := w358) (i := 16) 101 (by decide) hb.bd
      have hmv361 : Mv ρ354 w358 16 (rtg ρ354 16 101) w358 101 := rtg_mv (by decide)
      replace hB3 := hB3.mv (htr360.mv (i := 100) rfl)
      replace hb := hb.trans htr360
      replace h353 := h353.mv hmv361 (by decide)
      cases hS
      exact ke_end0 Tryd.func27 rfl ⟨_, rfl, leave ρA w0 o 2 (rtg ρ354 16 101), rfl, ⟨_, (hB3.mv (leave_mv (p := 0) (by decide) hb)), (h353.mv (leave_mv (p := 1) (by decide) hb) (Nat.ne_of_gt (Nat.lt_of_lt_of_le (Nat.lt_of_lt_of_le Nat.zero_lt_two ho2) (Nat.le_add_right _ _))))⟩, (leave_tr ho2 hb)⟩
    ·refine ⟨_, rfl, ?_⟩
     have jt362 : Tr ρ315 w313 (fun t => ([16, 100] : List Nat).contains t) ρ315 w313 := (Tr.refl hb.bd).weak (fun _ _ => rfl) rfl rfl
     refine sr_ev (v := v1) (ev_load Tryd.isAgg69 rfl (hB3.cell rfl)) (by decide) ?_
     refine dj_next (l' := [(13, .pointer (some ⟨gk_0, 0, none⟩)), (14, v311), (17, .pointer (some ⟨gk_0, 4, none⟩)), (19, .int .i64 y10), (25, v1), (27, .int .i64 (IntKind.i64.wrap (y10 + 1)))]) rfl (.cons rfl (.cons rfl (.cons rfl (.cons rfl (.cons rfl (.cons rfl (.nil _))))))) jt362 (by intro t h; simp [rng] at h ⊢ <;> omega) rfl rfl ?_
     obtain ⟨v363, h364, hq365⟩ := (h2.sl).cutT_l (P := Tryd.prog) Tryd.underlying69 Tryd.info79 rfl hk296
     refine dj_H 15 (v := v363) (by kernel_rfl) (by kernel_rfl) rfl (fun _ _ _ h => h) (sj_refl hb.bd rfl rfl) (fun w1 ρ1 hw1 => hq365 w1 rfl rfl) (by decide) ?_
     refine dj_E 5 (by kernel_rfl) rfl ?_
     have jt366 : Tr ρ315 w313 (fun t => ([16, 100] : List Nat).contains t) ρ315 w313 := (Tr.refl hb.bd).weak (fun _ _ => rfl) rfl rfl
     refine sr_ev (v := v1) (ev_load Tryd.isAgg69 rfl (hB3.cell rfl)) (by decide) ?_
     refine dj_next (l' := [(13, .pointer (some ⟨gk_0, 0, none⟩)), (14, v311), (18, v1), (19, .int .i64 y10), (28, v363)]) rfl (.cons rfl (.cons rfl (.cons rfl (.cons rfl (.cons rfl (.nil _)))))) jt366 (by intro t h; simp [rng] at h ⊢ <;> omega) rfl rfl ?_
     obtain ⟨v367, h368, hq369⟩ := (h2.sl).cutT_h (P := Tryd.prog) Tryd.underlying69 Tryd.info79 rfl hk284
     refine dj_H 7 (v := v367) (by kernel_rfl) (by kernel_rfl) rfl (fun _ _ _ h => h) (sj_refl hb.bd rfl rfl) (fun w1 ρ1 hw1 => hq369 w1 rfl rfl) (by decide) ?_
     refine dj_E 8 (by kernel_rfl) rfl ?_
     have jt370 : Tr ρ315 w313 (fun t => ([16, 100] : List Nat).contains t) ρ315 w313 := (Tr.refl hb.bd).weak (fun _ _ => rfl) rfl rfl
     refine sr_appendT (i := 16) (c := ref22_record.c) (ρ := ρ315) (E := 79) (xs := ([] : List ref22_record)) (ys := cut k_0.records 0 y10) h312 (h368).x Tryd.underlying69 Tryd.info79 rfl rfl rfl (by decide) (by decide) (by decide) hb.bd hk289 rfl rfl (by decide) ?_
     intro v371 ρ373 w374 h372 htr375
     replace h364 := h364.mv (htr375.mv (i := 101) rfl)
     replace hB3 := hB3.mv (htr375.mv (i := 100) rfl)
     replace h2 := h2.mv (htr375.mv (i := 101) rfl) (by decide)
     replace hb := hb.trans htr375
     replace jt370 := (jt370.trans htr375).weak (J' := (fun t => ([16, 100] : List Nat).contains t)) (by intro t h; simp [rng] at h ⊢ <;> omega) rfl rfl
     refine dj_next (l' := [(13, .pointer (some ⟨gk_0, 0, none⟩)), (21, v371), (28, v363)]) rfl (.cons rfl (.cons rfl (.cons rfl (.nil _)))) jt370 (by intro t h; simp [rng] at h ⊢ <;> omega) rfl rfl ?_
     refine dj_E 16 (by kernel_rfl) rfl ?_
     have jt376 : Tr ρ373 w374 (fun t => ([16, 100] : List Nat).contains t) ρ373 w374 := (Tr.refl hb.bd).weak (fun _ _ => rfl) rfl rfl
     refine sr_appendT (i := 16) (c := ref22_record.c) (ρ := ρ373) (E := 79) (xs := ([] : List ref22_record) ++ (cut k_0.records 0 y10)) (ys := cut k_0.records (IntKind.i64.wrap (y10 + 1)) k_0.records.length) h372 (h364).x Tryd.underlying69 Tryd.info79 rfl rfl rfl (by decide) (by decide) (by decide) hb.bd hk301 rfl rfl (by decide) ?_
     intro v377 ρ379 w380 h378 htr381
     replace hB3 := hB3.mv (htr381.mv (i := 100) rfl)
     replace h2 := h2.mv (htr381.mv (i := 101) rfl) (by decide)
     replace hb := hb.trans htr381
     replace jt376 := (jt376.trans htr381).weak (J' := (fun t => ([16, 100] : List Nat).contains t)) (by intro t h; simp [rng] at h ⊢ <;> omega) rfl rfl
     refine dj_next (l' := [(13, .pointer (some ⟨gk_0, 0, none⟩)), (29, v377)]) rfl (.cons rfl (.cons rfl (.nil _))) jt376 (by intro t h; simp [rng] at h ⊢ <;> omega) rfl rfl ?_
     refine dj_H 17 (v := .pointer (some ⟨gk_0, 0, none⟩)) (by kernel_rfl) (by kernel_rfl) rfl (fun _ _ _ h => h) (sj_refl hb.bd rfl rfl) (fun w1 ρ1 hw1 => ev_nilCheck rfl) (by decide) ?_
     refine dj_H 18 (v := .pointer (some ⟨gk_0, 4, none⟩)) (by kernel_rfl) (by kernel_rfl) rfl (fun _ _ _ h => h) (sj_refl hb.bd rfl rfl) (fun w1 ρ1 hw1 => ev_fieldAddr (i := 4) Tryd.underlying71 rfl Tryd.info69 rfl rfl) (by decide) ?_
     refine dj_E 19 (by kernel_rfl) rfl ?_
     have jt382 : Tr ρ379 w380 (fun t => ([16, 100] : List Nat).contains t) ρ379 w380 := (Tr.refl hb.bd).weak (fun _ _ => rfl) rfl rfl
     refine sr_storeT (v := v377) (vs := [v377]) (cs' := #[.bool k_0.made, .int .i64 k_0.most, .int .i64 k_0.window, .int .i64 k_0.lock, v377]) hB3 (by decide) hb.bd rfl rfl (one_cells (OwnT.oneCell h378)) Tryd.sizeOf69 rfl (by first | rfl | (simp only [List.all_cons, List.all_nil, OwnT.oneCell h378]; done) | (simp only [List.all_cons, List.all_nil, OwnT.oneCell h378]; rfl)) rfl ?_
     intro w383 hB31 htr384
     replace h378 := h378.mv (htr384.mv (i := 16) rfl) (by decide)
     replace hb := hb.trans htr384
     replace jt382 := (jt382.trans htr384).weak (J' := (fun t => ([16, 100] : List Nat).contains t)) (by intro t h; simp [rng] at h ⊢ <;> omega) rfl rfl
     replace hB3 : Blk ρ379 100 w383 gk_0 (.cells #[.bool k_0.made, .int .i64 k_0.most, .int .i64 k_0.window, .int .i64 k_0.lock, v377] 71 (0, 0)) := hB31
     clear hB31
     refine dj_next (l' := []) rfl (.nil _) jt382 (by intro t h; simp [rng] at h ⊢ <;> omega) rfl rfl ?_
     refine dj_done rfl (by kernel_rfl) ?_
     refine ke_weaken (l' := []) (.nil _) ?_
     have htr385 := rtg_tr (ρ := ρ379) (w := w383) (i := 16) 101 (by decide) hb.bd
     have hmv386 : Mv ρ379 w383 16 (rtg ρ379 16 101) w383 101 := rtg_mv (by decide)
     replace hB3 := hB3.mv (htr385.mv (i := 100) rfl)
     replace hb := hb.trans htr385
     replace h378 := h378.mv hmv386 (by decide)
     cases hS
     exact ke_end0 Tryd.func27 rfl ⟨_, rfl, leave ρA w0 o 2 (rtg ρ379 16 101), rfl, ⟨_, (hB3.mv (leave_mv (p := 0) (by decide) hb)), (h378.mv (leave_mv (p := 1) (by decide) hb) (Nat.ne_of_gt (Nat.lt_of_lt_of_le (Nat.lt_of_lt_of_le Nat.zero_lt_two ho2) (Nat.le_add_right _ _))))⟩, (leave_tr ho2 hb)⟩
   ·refine ⟨_, rfl, ?_⟩
    have jt387 : Tr (enter ρA o 2) w17 (fun t => ([16, 100] : List Nat).contains t) (enter ρA o 2) w17 := (Tr.refl hb.bd).weak (fun _ _ => rfl) rfl rfl
    refine sr_ev (v := v1) (ev_load Tryd.isAgg69 rfl (hB3.cell rfl)) (by decide) ?_
    refine dj_next (l' := [(13, .pointer (some ⟨gk_0, 0, none⟩)), (18, v1), (19, .int .i64 y10), (24, .pointer (some ⟨gk_0, 4, none⟩)), (27, .int .i64 (IntKind.i64.wrap (y10 + 1)))]) rfl (.cons rfl (.cons rfl (.cons rfl (.cons rfl (.cons rfl (.nil _)))))) jt387 (by intro t h; simp [rng] at h ⊢ <;> omega) rfl rfl ?_
    obtain ⟨v388, h389, hq390⟩ := (h2.sl).cutT_h (P := Tryd.prog) Tryd.underlying69 Tryd.info79 rfl hk284
    refine dj_H 7 (v := v388) (by kernel_rfl) (by kernel_rfl) rfl (fun _ _ _ h => h) (sj_refl hb.bd rfl rfl) (fun w1 ρ1 hw1 => hq390 w1 rfl rfl) (by decide) ?_
    refine dj_all [1, 12] (by kernel_rfl) (fun i hi => ?_)
    simp only [List.mem_cons, List.not_mem_nil, or_false] at hi
    rcases hi with rfl | rfl
    ·refine ⟨_, rfl, ?_⟩
     have jt391 : Tr (enter ρA o 2) w17 (fun t => ([16, 100] : List Nat).contains t) (enter ρA o 2) w17 := (Tr.refl hb.bd).weak (fun _ _ => rfl) rfl rfl
     refine sr_litOwnT (i := 16) (c := ref22_record.c) (ρ := (enter ρA o 2)) (E := 79) (xs := []) (vs := #[]) (cs := #[]) (css := []) rfl (fun _ => by kernel_rfl) rfl trivial rfl (by decide) (by decide) hb.bd (by decide) ?_
     intro v392 ρ396 w394 h393 htr395
     replace h389 := h389.mv (htr395.mv (i := 101) rfl)
     replace hB3 := hB3.mv (htr395.mv (i := 100) rfl)
     replace h2 := h2.mv (htr395.mv (i := 101) rfl) (by decide)
     replace hb := hb.trans htr395
     replace jt391 := (jt391.trans htr395).weak (J' := (fun t => ([16, 100] : List Nat).contains t)) (by intro t h; simp [rng] at h ⊢ <;> omega) rfl rfl
     refine dj_next (l' := [(13, .pointer (some ⟨gk_0, 0, none⟩)), (14, v392), (20, v388), (24, .pointer (some ⟨gk_0, 4, none⟩)), (27, .int .i64 (IntKind.i64.wrap (y10 + 1)))]) rfl (.cons rfl (.cons rfl (.cons rfl (.cons rfl (.cons rfl (.nil _)))))) jt391 (by intro t h; simp [rng] at h ⊢ <;> omega) rfl rfl ?_
     refine dj_all [8, 12] (by kernel_rfl) (fun i hi => ?_)
     simp only [List.mem_cons, List.not_mem_nil, or_false] at hi
     rcases hi with rfl | rfl
     ·refine ⟨_, rfl, ?_⟩
      have jt397 : Tr ρ396 w394 (fun t => ([16, 100] : List Nat).contains t) ρ396 w394 := (Tr.refl hb.bd).weak (fun _ _ => rfl) rfl rfl
      refine sr_appendT (i := 16) (c := ref22_record.c) (ρ := ρ396) (E := 79) (xs := ([] : List ref22_record)) (ys := cut k_0.records 0 y10) h393 (h389).x Tryd.underlying69 Tryd.info79 rfl rfl rfl (by decide) (by decide) (by decide) hb.bd hk289 rfl rfl (by decide) ?_
      intro v398 ρ400 w401 h399 htr402
      replace hB3 := hB3.mv (htr402.mv (i := 100) rfl)
      replace h2 := h2.mv (htr402.mv (i := 101) rfl) (by decide)
      replace hb := hb.trans htr402
      replace jt397 := (jt397.trans htr402).weak (J' := (fun t => ([16, 100] : List Nat).contains t)) (by intro t h; simp [rng] at h ⊢ <;> omega) rfl rfl
      refine dj_next (l' := [(13, .pointer (some ⟨gk_0, 0, none⟩)), (21, v398), (24, .pointer (some ⟨gk_0, 4, none⟩)), (27, .int .i64 (IntKind.i64.wrap (y10 + 1)))]) rfl (.cons rfl (.cons rfl (.cons rfl (.cons rfl (.nil _))))) jt397 (by intro t h; simp [rng] at h ⊢ <;> omega) rfl rfl ?_
      refine dj_E 12 (by kernel_rfl) rfl ?_
      have jt403 : Tr ρ400 w401 (fun t => ([16, 100] : List Nat).contains t) ρ400 w401 := (Tr.refl hb.bd).weak (fun _ _ => rfl) rfl rfl
      refine sr_ev (v := v1) (ev_load Tryd.isAgg69 rfl (hB3.cell rfl)) (by decide) ?_
      refine dj_next (l' := [(13, .pointer (some ⟨gk_0, 0, none⟩)), (21, v398), (25, v1), (27, .int .i64 (IntKind.i64.wrap (y10 + 1)))]) rfl (.cons rfl (.cons rfl (.cons rfl (.cons rfl (.nil _))))) jt403 (by intro t h; simp [rng] at h ⊢ <;> omega) rfl rfl ?_
      obtain ⟨v404, h405, hq406⟩ := (h2.sl).cutT_l (P := Tryd.prog) Tryd.underlying69 Tryd.info79 rfl hk296
      refine dj_H 15 (v := v404) (by kernel_rfl) (by kernel_rfl) rfl (fun _ _ _ h => h) (sj_refl hb.bd rfl rfl) (fun w1 ρ1 hw1 => hq406 w1 rfl rfl) (by decide) ?_
      refine dj_E 16 (by kernel_rfl) rfl ?_
      have jt407 : Tr ρ400 w401 (fun t => ([16, 100] : List Nat).contains t) ρ400 w401 := (Tr.refl hb.bd).weak (fun _ _ => rfl) rfl rfl
      refine sr_appendT (i := 16) (c := ref22_record.c) (ρ := ρ400) (E := 79) (xs := ([] : List ref22_record) ++ (cut k_0.records 0 y10)) (ys := cut k_0.records (IntKind.i64.wrap (y10 + 1)) k_0.records.length) h399 (h405).x Tryd.underlying69 Tryd.info79 rfl rfl rfl (by decide) (by decide) (by decide) hb.bd hk301 rfl rfl (by decide) ?_
      intro v408 ρ410 w411 h409 htr412
      replace hB3 := hB3.mv (htr412.mv (i := 100) rfl)
      replace h2 := h2.mv (htr412.mv (i := 101) rfl) (by decide)
      replace hb := hb.trans htr412
      replace jt407 := (jt407.trans htr412).weak (J' := (fun t => ([16, 100] : List Nat).contains t)) (by intro t h; simp [rng] at h ⊢ <;> omega) rfl rfl
      refine dj_next (l' := [(13, .pointer (some ⟨gk_0, 0, none⟩)), (29, v408)]) rfl (.cons rfl (.cons rfl (.nil _))) jt407 (by intro t h; simp [rng] at h ⊢ <;> omega) rfl rfl ?_
      refine dj_H 17 (v := .pointer (some ⟨gk_0, 0, none⟩)) (by kernel_rfl) (by kernel_rfl) rfl (fun _ _ _ h => h) (sj_refl hb.bd rfl rfl) (fun w1 ρ1 hw1 => ev_nilCheck rfl) (by decide) ?_
      refine dj_H 18 (v := .pointer (some ⟨gk_0, 4, none⟩)) (by kernel_rfl) (by kernel_rfl) rfl (fun _ _ _ h => h) (sj_refl hb.bd rfl rfl) (fun w1 ρ1 hw1 => ev_fieldAddr (i := 4) Tryd.underlying71 rfl Tryd.info69 rfl rfl) (by decide) ?_
      refine dj_E 19 (by kernel_rfl) rfl ?_
      have jt413 : Tr ρ410 w411 (fun t => ([16, 100] : List Nat).contains t) ρ410 w411 := (Tr.refl hb.bd).weak (fun _ _ => rfl) rfl rfl
      refine sr_storeT (v := v408) (vs := [v408]) (cs' := #[.bool k_0.made, .int .i64 k_0.most, .int .i64 k_0.window, .int .i64 k_0.lock, v408]) hB3 (by decide) hb.bd rfl rfl (one_cells (OwnT.oneCell h409)) Tryd.sizeOf69 rfl (by first | rfl | (simp only [List.all_cons, List.all_nil, OwnT.oneCell h409]; done) | (simp only [List.all_cons, List.all_nil, OwnT.oneCell h409]; rfl)) rfl ?_
      intro w414 hB31 htr415
      replace h409 := h409.mv (htr415.mv (i := 16) rfl) (by decide)
      replace hb := hb.trans htr415
      replace jt413 := (jt413.trans htr415).weak (J' := (fun t => ([16, 100] : List Nat).contains t)) (by intro t h; simp [rng] at h ⊢ <;> omega) rfl rfl
      replace hB3 : Blk ρ410 100 w414 gk_0 (.cells #[.bool k_0.made, .int .i64 k_0.most, .int .i64 k_0.window, .int .i64 k_0.lock, v408] 71 (0, 0)) := hB31
      clear hB31
      refine dj_next (l' := []) rfl (.nil _) jt413 (by intro t h; simp [rng] at h ⊢ <;> omega) rfl rfl ?_
      refine dj_done rfl (by kernel_rfl) ?_
      refine ke_weaken (l' := []) (.nil _) ?_
      have htr416 := rtg_tr (ρ := ρ410) (w := w414) (i := 16) 101 (by decide) hb.bd
      have hmv417 : Mv ρ410 w414 16 (rtg ρ410 16 101) w414 101 := rtg_mv (by decide)
      replace hB3 := hB3.mv (htr416.mv (i := 100) rfl)
      replace hb := hb.trans htr416
      replace h409 := h409.mv hmv417 (by decide)
      cases hS
      exact ke_end0 Tryd.func27 rfl ⟨_, rfl, leave ρA w0 o 2 (rtg ρ410 16 101), rfl, ⟨_, (hB3.mv (leave_mv (p := 0) (by decide) hb)), (h409.mv (leave_mv (p := 1) (by decide) hb) (Nat.ne_of_gt (Nat.lt_of_lt_of_le (Nat.lt_of_lt_of_le Nat.zero_lt_two ho2) (Nat.le_add_right _ _))))⟩, (leave_tr ho2 hb)⟩
     ·refine ⟨_, rfl, ?_⟩
      have jt418 : Tr ρ396 w394 (fun t => ([16, 100] : List Nat).contains t) ρ396 w394 := (Tr.refl hb.bd).weak (fun _ _ => rfl) rfl rfl
      refine sr_ev (v := v1) (ev_load Tryd.isAgg69 rfl (hB3.cell rfl)) (by decide) ?_
      refine dj_next (l' := [(13, .pointer (some ⟨gk_0, 0, none⟩)), (14, v392), (20, v388), (25, v1), (27, .int .i64 (IntKind.i64.wrap (y10 + 1)))]) rfl (.cons rfl (.cons rfl (.cons rfl (.cons rfl (.cons rfl (.nil _)))))) jt418 (by intro t h; simp [rng] at h ⊢ <;> omega) rfl rfl ?_
      obtain ⟨v419, h420, hq421⟩ := (h2.sl).cutT_l (P := Tryd.prog) Tryd.underlying69 Tryd.info79 rfl hk296
      refine dj_H 15 (v := v419) (by kernel_rfl) (by kernel_rfl) rfl (fun _ _ _ h => h) (sj_refl hb.bd rfl rfl) (fun w1 ρ1 hw1 => hq421 w1 rfl rfl) (by decide) ?_
      refine dj_E 8 (by kernel_rfl) rfl ?_
      have jt422 : Tr ρ396 w394 (fun t => ([16, 100] : List Nat).contains t) ρ396 w394 := (Tr.refl hb.bd).weak (fun _ _ => rfl) rfl rfl
      refine sr_appendT (i := 16) (c := ref22_record.c) (ρ := ρ396) (E := 79) (xs := ([] : List ref22_record)) (ys := cut k_0.records 0 y10) h393 (h389).x Tryd.underlying69 Tryd.info79 rfl rfl rfl (by decide) (by decide) (by decide) hb.bd hk289 rfl rfl (by decide) ?_
      intro v423 ρ425 w426 h424 htr427
      replace h420 := h420.mv (htr427.mv (i := 101) rfl)
      replace hB3 := hB3.mv (htr427.mv (i := 100) rfl)
      replace h2 := h2.mv (htr427.mv (i := 101) rfl) (by decide)
      replace hb := hb.trans htr427
      replace jt422 := (jt422.trans htr427).weak (J' := (fun t => ([16, 100] : List Nat).contains t)) (by intro t h; simp [rng] at h ⊢ <;> omega) rfl rfl
      refine dj_next (l' := [(13, .pointer (some ⟨gk_0, 0, none⟩)), (21, v423), (28, v419)]) rfl (.cons rfl (.cons rfl (.cons rfl (.nil _)))) jt422 (by intro t h; simp [rng] at h ⊢ <;> omega) rfl rfl ?_
      refine dj_E 16 (by kernel_rfl) rfl ?_
      have jt428 : Tr ρ425 w426 (fun t => ([16, 100] : List Nat).contains t) ρ425 w426 := (Tr.refl hb.bd).weak (fun _ _ => rfl) rfl rfl
      refine sr_appendT (i := 16) (c := ref22_record.c) (ρ := ρ425) (E := 79) (xs := ([] : List ref22_record) ++ (cut k_0.records 0 y10)) (ys := cut k_0.records (IntKind.i64.wrap (y10 + 1)) k_0.records.length) h424 (h420).x Tryd.underlying69 Tryd.info79 rfl rfl rfl (by decide) (by decide) (by decide) hb.bd hk301 rfl rfl (by decide) ?_
      intro v429 ρ431 w432 h430 htr433
      replace hB3 := hB3.mv (htr433.mv (i := 100) rfl)
      replace h2 := h2.mv (htr433.mv (i := 101) rfl) (by decide)
      replace hb := hb.trans htr433
      replace jt428 := (jt428.trans htr433).weak (J' := (fun t => ([16, 100] : List Nat).contains t)) (by intro t h; simp [rng] at h ⊢ <;> omega) rfl rfl
      refine dj_next (l' := [(13, .pointer (some ⟨gk_0, 0, none⟩)), (29, v429)]) rfl (.cons rfl (.cons rfl (.nil _))) jt428 (by intro t h; simp [rng] at h ⊢ <;> omega) rfl rfl ?_
      refine dj_H 17 (v := .pointer (some ⟨gk_0, 0, none⟩)) (by kernel_rfl) (by kernel_rfl) rfl (fun _ _ _ h => h) (sj_refl hb.bd rfl rfl) (fun w1 ρ1 hw1 => ev_nilCheck rfl) (by decide) ?_
      refine dj_H 18 (v := .pointer (some ⟨gk_0, 4, none⟩)) (by kernel_rfl) (by kernel_rfl) rfl (fun _ _ _ h => h) (sj_refl hb.bd rfl rfl) (fun w1 ρ1 hw1 => ev_fieldAddr (i := 4) Tryd.underlying71 rfl Tryd.info69 rfl rfl) (by decide) ?_
      refine dj_E 19 (by kernel_rfl) rfl ?_
      have jt434 : Tr ρ431 w432 (fun t => ([16, 100] : List Nat).contains t) ρ431 w432 := (Tr.refl hb.bd).weak (fun _ _ => rfl) rfl rfl
      refine sr_storeT (v := v429) (vs := [v429]) (cs' := #[.bool k_0.made, .int .i64 k_0.most, .int .i64 k_0.window, .int .i64 k_0.lock, v429]) hB3 (by decide) hb.bd rfl rfl (one_cells (OwnT.oneCell h430)) Tryd.sizeOf69 rfl (by first | rfl | (simp only [List.all_cons, List.all_nil, OwnT.oneCell h430]; done) | (simp only [List.all_cons, List.all_nil, OwnT.oneCell h430]; rfl)) rfl ?_
      intro w435 hB31 htr436
      replace h430 := h430.mv (htr436.mv (i := 16) rfl) (by decide)
      replace hb := hb.trans htr436
      replace jt434 := (jt434.trans htr436).weak (J' := (fun t => ([16, 100] : List Nat).contains t)) (by intro t h; simp [rng] at h ⊢ <;> omega) rfl rfl
      replace hB3 : Blk ρ431 100 w435 gk_0 (.cells #[.bool k_0.made, .int .i64 k_0.most, .int .i64 k_0.window, .int .i64 k_0.lock, v429] 71 (0, 0)) := hB31
      clear hB31
      refine dj_next (l' := []) rfl (.nil _) jt434 (by intro t h; simp [rng] at h ⊢ <;> omega) rfl rfl ?_
      refine dj_done rfl (by kernel_rfl) ?_
      refine ke_weaken (l' := []) (.nil _) ?_
      have htr437 := rtg_tr (ρ := ρ431) (w := w435) (i := 16) 101 (by decide) hb.bd
      have hmv438 : Mv ρ431 w435 16 (rtg ρ431 16 101) w435 101 := rtg_mv (by decide)
      replace hB3 := hB3.mv (htr437.mv (i := 100) rfl)
      replace hb := hb.trans htr437
      replace h430 := h430.mv hmv438 (by decide)
      cases hS
      exact ke_end0 Tryd.func27 rfl ⟨_, rfl, leave ρA w0 o 2 (rtg ρ431 16 101), rfl, ⟨_, (hB3.mv (leave_mv (p := 0) (by decide) hb)), (h430.mv (leave_mv (p := 1) (by decide) hb) (Nat.ne_of_gt (Nat.lt_of_lt_of_le (Nat.lt_of_lt_of_le Nat.zero_lt_two ho2) (Nat.le_add_right _ _))))⟩, (leave_tr ho2 hb)⟩
    ·refine ⟨_, rfl, ?_⟩
     have jt439 : Tr (enter ρA o 2) w17 (fun t => ([16, 100] : List Nat).contains t) (enter ρA o 2) w17 := (Tr.refl hb.bd).weak (fun _ _ => rfl) rfl rfl
     refine sr_ev (v := v1) (ev_load Tryd.isAgg69 rfl (hB3.cell rfl)) (by decide) ?_
     refine dj_next (l' := [(13, .pointer (some ⟨gk_0, 0, none⟩)), (20, v388), (25, v1), (27, .int .i64 (IntKind.i64.wrap (y10 + 1)))]) rfl (.cons rfl (.cons rfl (.cons rfl (.cons rfl (.nil _))))) jt439 (by intro t h; simp [rng] at h ⊢ <;> omega) rfl rfl ?_
     obtain ⟨v440, h441, hq442⟩ := (h2.sl).cutT_l (P := Tryd.prog) Tryd.underlying69 Tryd.info79 rfl hk296
     refine dj_H 15 (v := v440) (by kernel_rfl) (by kernel_rfl) rfl (fun _ _ _ h => h) (sj_refl hb.bd rfl rfl) (fun w1 ρ1 hw1 => hq442 w1 rfl rfl) (by decide) ?_
     refine dj_E 1 (by kernel_rfl) rfl ?_
     have jt443 : Tr (enter ρA o 2) w17 (fun t => ([16, 100] : List Nat).contains t) (enter ρA o 2) w17 := (Tr.refl hb.bd).weak (fun _ _ => rfl) rfl rfl
     refine sr_litOwnT (i := 16) (c := ref22_record.c) (ρ := (enter ρA o 2)) (E := 79) (xs := []) (vs := #[]) (cs := #[]) (css := []) rfl (fun _ => by kernel_rfl) rfl trivial rfl (by decide) (by decide) hb.bd (by decide) ?_
     intro v444 ρ448 w446 h445 htr447
     replace h389 := h389.mv (htr447.mv (i := 101) rfl)
     replace h441 := h441.mv (htr447.mv (i := 101) rfl)
     replace hB3 := hB3.mv (htr447.mv (i := 100) rfl)
     replace h2 := h2.mv (htr447.mv (i := 101) rfl) (by decide)
     replace hb := hb.trans htr447
     replace jt443 := (jt443.trans htr447).weak (J' := (fun t => ([16, 100] : List Nat).contains t)) (by intro t h; simp [rng] at h ⊢ <;> omega) rfl rfl
     refine dj_next (l' := [(13, .pointer (some ⟨gk_0, 0, none⟩)), (14, v444), (20, v388), (28, v440)]) rfl (.cons rfl (.cons rfl (.cons rfl (.cons rfl (.nil _))))) jt443 (by intro t h; simp [rng] at h ⊢ <;> omega) rfl rfl ?_
     refine dj_E 8 (by kernel_rfl) rfl ?_
     have jt449 : Tr ρ448 w446 (fun t => ([16, 100] : List Nat).contains t) ρ448 w446 := (Tr.refl hb.bd).weak (fun _ _ => rfl) rfl rfl
     refine sr_appendT (i := 16) (c := ref22_record.c) (ρ := ρ448) (E := 79) (xs := ([] : List ref22_record)) (ys := cut k_0.records 0 y10) h445 (h389).x Tryd.underlying69 Tryd.info79 rfl rfl rfl (by decide) (by decide) (by decide) hb.bd hk289 rfl rfl (by decide) ?_
     intro v450 ρ452 w453 h451 htr454
     replace h441 := h441.mv (htr454.mv (i := 101) rfl)
     replace hB3 := hB3.mv (htr454.mv (i := 100) rfl)
     replace h2 := h2.mv (htr454.mv (i := 101) rfl) (by decide)
     replace hb := hb.trans htr454
     replace jt449 := (jt449.trans htr454).weak (J' := (fun t => ([16, 100] : List Nat).contains t)) (by intro t h; simp [rng] at h ⊢ <;> omega) rfl rfl
     refine dj_next (l' := [(13, .pointer (some ⟨gk_0, 0, none⟩)), (21, v450), (28, v440)]) rfl (.cons rfl (.cons rfl (.cons rfl (.nil _)))) jt449 (by intro t h; simp [rng] at h ⊢ <;> omega) rfl rfl ?_
     refine dj_E 16 (by kernel_rfl) rfl ?_
     have jt455 : Tr ρ452 w453 (fun t => ([16, 100] : List Nat).contains t) ρ452 w453 := (Tr.refl hb.bd).weak (fun _ _ => rfl) rfl rfl
     refine sr_appendT (i := 16) (c := ref22_record.c) (ρ := ρ452) (E := 79) (xs := ([] : List ref22_record) ++ (cut k_0.records 0 y10)) (ys := cut k_0.records (IntKind.i64.wrap (y10 + 1)) k_0.records.length) h451 (h441).x Tryd.underlying69 Tryd.info79 rfl rfl rfl (by decide) (by decide) (by decide) hb.bd hk301 rfl rfl (by decide) ?_
     intro v456 ρ458 w459 h457 htr460
     replace hB3 := hB3.mv (htr460.mv (i := 100) rfl)
     replace h2 := h2.mv (htr460.mv (i := 101) rfl) (by decide)
     replace hb := hb.trans htr460
     replace jt455 := (jt455.trans htr460).weak (J' := (fun t => ([16, 100] : List Nat).contains t)) (by intro t h; simp [rng] at h ⊢ <;> omega) rfl rfl
     refine dj_next (l' := [(13, .pointer (some ⟨gk_0, 0, none⟩)), (29, v456)]) rfl (.cons rfl (.cons rfl (.nil _))) jt455 (by intro t h; simp [rng] at h ⊢ <;> omega) rfl rfl ?_
     refine dj_H 17 (v := .pointer (some ⟨gk_0, 0, none⟩)) (by kernel_rfl) (by kernel_rfl) rfl (fun _ _ _ h => h) (sj_refl hb.bd rfl rfl) (fun w1 ρ1 hw1 => ev_nilCheck rfl) (by decide) ?_
     refine dj_H 18 (v := .pointer (some ⟨gk_0, 4, none⟩)) (by kernel_rfl) (by kernel_rfl) rfl (fun _ _ _ h => h) (sj_refl hb.bd rfl rfl) (fun w1 ρ1 hw1 => ev_fieldAddr (i := 4) Tryd.underlying71 rfl Tryd.info69 rfl rfl) (by decide) ?_
     refine dj_E 19 (by kernel_rfl) rfl ?_
     have jt461 : Tr ρ458 w459 (fun t => ([16, 100] : List Nat).contains t) ρ458 w459 := (Tr.refl hb.bd).weak (fun _ _ => rfl) rfl rfl
     refine sr_storeT (v := v456) (vs := [v456]) (cs' := #[.bool k_0.made, .int .i64 k_0.most, .int .i64 k_0.window, .int .i64 k_0.lock, v456]) hB3 (by decide) hb.bd rfl rfl (one_cells (OwnT.oneCell h457)) Tryd.sizeOf69 rfl (by first | rfl | (simp only [List.all_cons, List.all_nil, OwnT.oneCell h457]; done) | (simp only [List.all_cons, List.all_nil, OwnT.oneCell h457]; rfl)) rfl ?_
     intro w462 hB31 htr463
     replace h457 := h457.mv (htr463.mv (i := 16) rfl) (by decide)
     replace hb := hb.trans htr463
     replace jt461 := (jt461.trans htr463).weak (J' := (fun t => ([16, 100] : List Nat).contains t)) (by intro t h; simp [rng] at h ⊢ <;> omega) rfl rfl
     replace hB3 : Blk ρ458 100 w462 gk_0 (.cells #[.bool k_0.made, .int .i64 k_0.most, .int .i64 k_0.window, .int .i64 k_0.lock, v456] 71 (0, 0)) := hB31
     clear hB31
     refine dj_next (l' := []) rfl (.nil _) jt461 (by intro t h; simp [rng] at h ⊢ <;> omega) rfl rfl ?_
     refine dj_done rfl (by kernel_rfl) ?_
     refine ke_weaken (l' := []) (.nil _) ?_
     have htr464 := rtg_tr (ρ := ρ458) (w := w462) (i := 16) 101 (by decide) hb.bd
     have hmv465 : Mv ρ458 w462 16 (rtg ρ458 16 101) w462 101 := rtg_mv (by decide)
     replace hB3 := hB3.mv (htr464.mv (i := 100) rfl)
     replace hb := hb.trans htr464
     replace h457 := h457.mv hmv465 (by decide)
     cases hS
     exact ke_end0 Tryd.func27 rfl ⟨_, rfl, leave ρA w0 o 2 (rtg ρ458 16 101), rfl, ⟨_, (hB3.mv (leave_mv (p := 0) (by decide) hb)), (h457.mv (leave_mv (p := 1) (by decide) hb) (Nat.ne_of_gt (Nat.lt_of_lt_of_le (Nat.lt_of_lt_of_le Nat.zero_lt_two ho2) (Nat.le_add_right _ _))))⟩, (leave_tr ho2 hb)⟩
   ·refine ⟨_, rfl, ?_⟩
    have jt466 : Tr (enter ρA o 2) w17 (fun t => ([16, 100] : List Nat).contains t) (enter ρA o 2) w17 := (Tr.refl hb.bd).weak (fun _ _ => rfl) rfl rfl
    refine sr_ev (v := v1) (ev_load Tryd.isAgg69 rfl (hB3.cell rfl)) (by decide) ?_
    refine dj_next (l' := [(13, .pointer (some ⟨gk_0, 0, none⟩)), (17, .pointer (some ⟨gk_0, 4, none⟩)), (19, .int .i64 y10), (25, v1), (27, .int .i64 (IntKind.i64.wrap (y10 + 1)))]) rfl (.cons rfl (.cons rfl (.cons rfl (.cons rfl (.cons rfl (.nil _)))))) jt466 (by intro t h; simp [rng] at h ⊢ <;> omega) rfl rfl ?_
    obtain ⟨v467, h468, hq469⟩ := (h2.sl).cutT_l (P := Tryd.prog) Tryd.underlying69 Tryd.info79 rfl hk296
    refine dj_H 15 (v := v467) (by kernel_rfl) (by kernel_rfl) rfl (fun _ _ _ h => h) (sj_refl hb.bd rfl rfl) (fun w1 ρ1 hw1 => hq469 w1 rfl rfl) (by decide) ?_
    refine dj_all [1, 5] (by kernel_rfl) (fun i hi => ?_)
    simp only [List.mem_cons, List.not_mem_nil, or_false] at hi
    rcases hi with rfl | rfl
    ·refine ⟨_, rfl, ?_⟩
     have jt470 : Tr (enter ρA o 2) w17 (fun t => ([16, 100] : List Nat).contains t) (enter ρA o 2) w17 := (Tr.refl hb.bd).weak (fun _ _ => rfl) rfl rfl
     refine sr_litOwnT (i := 16) (c := ref22_record.c) (ρ := (enter ρA o 2)) (E := 79) (xs := []) (vs := #[]) (cs := #[]) (css := []) rfl (fun _ => by kernel_rfl) rfl trivial rfl (by decide) (by decide) hb.bd (by decide) ?_
     intro v471 ρ475 w473 h472 htr474
     replace h468 := h468.mv (htr474.mv (i := 101) rfl)
     replace hB3 := hB3.mv (htr474.mv (i := 100) rfl)
     replace h2 := h2.mv (htr474.mv (i := 101) rfl) (by decide)
     replace hb := hb.trans htr474
     replace jt470 := (jt470.trans htr474).weak (J' := (fun t => ([16, 100] : List Nat).contains t)) (by intro t h; simp [rng] at h ⊢ <;> omega) rfl rfl
     refine dj_next (l' := [(13, .pointer (some ⟨gk_0, 0, none⟩)), (14, v471), (17, .pointer (some ⟨gk_0, 4, none⟩)), (19, .int .i64 y10), (28, v467)]) rfl (.cons rfl (.cons rfl (.cons rfl (.cons rfl (.cons rfl (.nil _)))))) jt470 (by intro t h; simp [rng] at h ⊢ <;> omega) rfl rfl ?_
     refine dj_E 5 (by kernel_rfl) rfl ?_
     have jt476 : Tr ρ475 w473 (fun t => ([16, 100] : List Nat).contains t) ρ475 w473 := (Tr.refl hb.bd).weak (fun _ _ => rfl) rfl rfl
     refine sr_ev (v := v1) (ev_load Tryd.isAgg69 rfl (hB3.cell rfl)) (by decide) ?_
     refine dj_next (l' := [(13, .pointer (some ⟨gk_0, 0, none⟩)), (14, v471), (18, v1), (19, .int .i64 y10), (28, v467)]) rfl (.cons rfl (.cons rfl (.cons rfl (.cons rfl (.cons rfl (.nil _)))))) jt476 (by intro t h; simp [rng] at h ⊢ <;> omega) rfl rfl ?_
     obtain ⟨v477, h478, hq479⟩ := (h2.sl).cutT_h (P := Tryd.prog) Tryd.underlying69 Tryd.info79 rfl hk284
     refine dj_H 7 (v := v477) (by kernel_rfl) (by kernel_rfl) rfl (fun _ _ _ h => h) (sj_refl hb.bd rfl rfl) (fun w1 ρ1 hw1 => hq479 w1 rfl rfl) (by decide) ?_
     refine dj_E 8 (by kernel_rfl) rfl ?_
     have jt480 : Tr ρ475 w473 (fun t => ([16, 100] : List Nat).contains t) ρ475 w473 := (Tr.refl hb.bd).weak (fun _ _ => rfl) rfl rfl
     refine sr_appendT (i := 16) (c := ref22_record.c) (ρ := ρ475) (E := 79) (xs := ([] : List ref22_record)) (ys := cut k_0.records 0 y10) h472 (h478).x Tryd.underlying69 Tryd.info79 rfl rfl rfl (by decide) (by decide) (by decide) hb.bd hk289 rfl rfl (by decide) ?_
     intro v481 ρ483 w484 h482 htr485
     replace h468 := h468.mv (htr485.mv (i := 101) rfl)
     replace hB3 := hB3.mv (htr485.mv (i := 100) rfl)
     replace h2 := h2.mv (htr485.mv (i := 101) rfl) (by decide)
     replace hb := hb.trans htr485
     replace jt480 := (jt480.trans htr485).weak (J' := (fun t => ([16, 100] : List Nat).contains t)) (by intro t h; simp [rng] at h ⊢ <;> omega) rfl rfl
     refine dj_next (l' := [(13, .pointer (some ⟨gk_0, 0, none⟩)), (21, v481), (28, v467)]) rfl (.cons rfl (.cons rfl (.cons rfl (.nil _)))) jt480 (by intro t h; simp [rng] at h ⊢ <;> omega) rfl rfl ?_
     refine dj_E 16 (by kernel_rfl) rfl ?_
     have jt486 : Tr ρ483 w484 (fun t => ([16, 100] : List Nat).contains t) ρ483 w484 := (Tr.refl hb.bd).weak (fun _ _ => rfl) rfl rfl
     refine sr_appendT (i := 16) (c := ref22_record.c) (ρ := ρ483) (E := 79) (xs := ([] : List ref22_record) ++ (cut k_0.records 0 y10)) (ys := cut k_0.records (IntKind.i64.wrap (y10 + 1)) k_0.records.length) h482 (h468).x Tryd.underlying69 Tryd.info79 rfl rfl rfl (by decide) (by decide) (by decide) hb.bd hk301 rfl rfl (by decide) ?_
     intro v487 ρ489 w490 h488 htr491
     replace hB3 := hB3.mv (htr491.mv (i := 100) rfl)
     replace h2 := h2.mv (htr491.mv (i := 101) rfl) (by decide)
     replace hb := hb.trans htr491
     replace jt486 := (jt486.trans htr491).weak (J' := (fun t => ([16, 100] : List Nat).contains t)) (by intro t h; simp [rng] at h ⊢ <;> omega) rfl rfl
     refine dj_next (l' := [(13, .pointer (some ⟨gk_0, 0, none⟩)), (29, v487)]) rfl (.cons rfl (.cons rfl (.nil _))) jt486 (by intro t h; simp [rng] at h ⊢ <;> omega) rfl rfl ?_
     refine dj_H 17 (v := .pointer (some ⟨gk_0, 0, none⟩)) (by kernel_rfl) (by kernel_rfl) rfl (fun _ _ _ h => h) (sj_refl hb.bd rfl rfl) (fun w1 ρ1 hw1 => ev_nilCheck rfl) (by decide) ?_
     refine dj_H 18 (v := .pointer (some ⟨gk_0, 4, none⟩)) (by kernel_rfl) (by kernel_rfl) rfl (fun _ _ _ h => h) (sj_refl hb.bd rfl rfl) (fun w1 ρ1 hw1 => ev_fieldAddr (i := 4) Tryd.underlying71 rfl Tryd.info69 rfl rfl) (by decide) ?_
     refine dj_E 19 (by kernel_rfl) rfl ?_
     have jt492 : Tr ρ489 w490 (fun t => ([16, 100] : List Nat).contains t) ρ489 w490 := (Tr.refl hb.bd).weak (fun _ _ => rfl) rfl rfl
     refine sr_storeT (v := v487) (vs := [v487]) (cs' := #[.bool k_0.made, .int .i64 k_0.most, .int .i64 k_0.window, .int .i64 k_0.lock, v487]) hB3 (by decide) hb.bd rfl rfl (one_cells (OwnT.oneCell h488)) Tryd.sizeOf69 rfl (by first | rfl | (simp only [List.all_cons, List.all_nil, OwnT.oneCell h488]; done) | (simp only [List.all_cons, List.all_nil, OwnT.oneCell h488]; rfl)) rfl ?_
     intro w493 hB31 htr494
     replace h488 := h488.mv (htr494.mv (i := 16) rfl) (by decide)
     replace hb := hb.trans htr494
     replace jt492 := (jt492.trans htr494).weak (J' := (fun t => ([16, 100] : List Nat).contains t)) (by intro t h; simp [rng] at h ⊢ <;> omega) rfl rfl
     replace hB3 : Blk ρ489 100 w493 gk_0 (.cells #[.bool k_0.made, .int .i64 k_0.most, .int .i64 k_0.window, .int .i64 k_0.lock, v487] 71 (0, 0)) := hB31
     clear hB31
     refine dj_next (l' := []) rfl (.nil _) jt492 (by intro t h; simp [rng] at h ⊢ <;> omega) rfl rfl ?_
     refine dj_done rfl (by kernel_rfl) ?_
     refine ke_weaken (l' := []) (.nil _) ?_
     have htr495 := rtg_tr (ρ := ρ489) (w := w493) (i := 16) 101 (by decide) hb.bd
     have hmv496 : Mv ρ489 w493 16 (rtg ρ489 16 101) w493 101 := rtg_mv (by decide)
     replace hB3 := hB3.mv (htr495.mv (i := 100) rfl)
     replace hb := hb.trans htr495
     replace h488 := h488.mv hmv496 (by decide)
     cases hS
     exact ke_end0 Tryd.func27 rfl ⟨_, rfl, leave ρA w0 o 2 (rtg ρ489 16 101), rfl, ⟨_, (hB3.mv (leave_mv (p := 0) (by decide) hb)), (h488.mv (leave_mv (p := 1) (by decide) hb) (Nat.ne_of_gt (Nat.lt_of_lt_of_le (Nat.lt_of_lt_of_le Nat.zero_lt_two ho2) (Nat.le_add_right _ _))))⟩, (leave_tr ho2 hb)⟩
    ·refine ⟨_, rfl, ?_⟩
     have jt497 : Tr (enter ρA o 2) w17 (fun t => ([16, 100] : List Nat).contains t) (enter ρA o 2) w17 := (Tr.refl hb.bd).weak (fun _ _ => rfl) rfl rfl
     refine sr_ev (v := v1) (ev_load Tryd.isAgg69 rfl (hB3.cell rfl)) (by decide) ?_
     refine dj_next (l' := [(13, .pointer (some ⟨gk_0, 0, none⟩)), (18, v1), (19, .int .i64 y10), (28, v467)]) rfl (.cons rfl (.cons rfl (.cons rfl (.cons rfl (.nil _))))) jt497 (by intro t h; simp [rng] at h ⊢ <;> omega) rfl rfl ?_
     obtain ⟨v498, h499, hq500⟩ := (h2.sl).cutT_h (P := Tryd.prog) Tryd.underlying69 Tryd.info79 rfl hk284
     refine dj_H 7 (v := v498) (by kernel_rfl) (by kernel_rfl) rfl (fun _ _ _ h => h) (sj_refl hb.bd rfl rfl) (fun w1 ρ1 hw1 => hq500 w1 rfl rfl) (by decide) ?_
     refine dj_E 1 (by kernel_rfl) rfl ?_
     have jt501 : Tr (enter ρA o 2) w17 (fun t => ([16, 100] : List Nat).contains t) (enter ρA o 2) w17 := (Tr.refl hb.bd).weak (fun _ _ => rfl) rfl rfl
     refine sr_litOwnT (i := 16) (c := ref22_record.c) (ρ := (enter ρA o 2)) (E := 79) (xs := []) (vs := #[]) (cs := #[]) (css := []) rfl (fun _ => by kernel_rfl) rfl trivial rfl (by decide) (by decide) hb.bd (by decide) ?_
     intro v502 ρ506 w504 h503 htr505
     replace h468 := h468.mv (htr505.mv (i := 101) rfl)
     replace h499 := h499.mv (htr505.mv (i := 101) rfl)
     replace hB3 := hB3.mv (htr505.mv (i := 100) rfl)
     replace h2 := h2.mv (htr505.mv (i := 101) rfl) (by decide)
     replace hb := hb.trans htr505
     replace jt501 := (jt501.trans htr505).weak (J' := (fun t => ([16, 100] : List Nat).contains t)) (by intro t h; simp [rng] at h ⊢ <;> omega) rfl rfl
     refine dj_next (l' := [(13, .pointer (some ⟨gk_0, 0, none⟩)), (14, v502), (20, v498), (28, v467)]) rfl (.cons rfl (.cons rfl (.cons rfl (.cons rfl (.nil _))))) jt501 (by intro t h; simp [rng] at h ⊢ <;> omega) rfl rfl ?_
     refine dj_E 8 (by kernel_rfl) rfl ?_
     have jt507 : Tr ρ506 w504 (fun t => ([16, 100] : List Nat).contains t) ρ506 w504 := (Tr.refl hb.bd).weak (fun _ _ => rfl) rfl rfl
     refine sr_appendT (i := 16) (c := ref22_record.c) (ρ := ρ506) (E := 79) (xs := ([] : List ref22_record)) (ys := cut k_0.records 0 y10) h503 (h499).x Tryd.underlying69 Tryd.info79 rfl rfl rfl (by decide) (by decide) (by decide) hb.bd hk289 rfl rfl (by decide) ?_
     intro v508 ρ510 w511 h509 htr512
     replace h468 := h468.mv (htr512.mv (i := 101) rfl)
     replace hB3 := hB3.mv (htr512.mv (i := 100) rfl)
     replace h2 := h2.mv (htr512.mv (i := 101) rfl) (by decide)
     replace hb := hb.trans htr512
     replace jt507 := (jt507.trans htr512).weak (J' := (fun t => ([16, 100] : List Nat).contains t)) (by intro t h; simp [rng] at h ⊢ <;> omega) rfl rfl
     refine dj_next (l' := [(13, .pointer (some ⟨gk_0, 0, none⟩)), (21, v508), (28, v467)]) rfl (.cons rfl (.cons rfl (.cons rfl (.nil _)))) jt507 (by intro t h; simp [rng] at h ⊢ <;> omega) rfl rfl ?_
     refine dj_E 16 (by kernel_rfl) rfl ?_
     have jt513 : Tr ρ510 w511 (fun t => ([16, 100] : List Nat).contains t) ρ510 w511 := (Tr.refl hb.bd).weak (fun _ _ => rfl) rfl rfl
     refine sr_appendT (i := 16) (c := ref22_record.c) (ρ := ρ510) (E := 79) (xs := ([] : List ref22_record) ++ (cut k_0.records 0 y10)) (ys := cut k_0.records (IntKind.i64.wrap (y10 + 1)) k_0.records.length) h509 (h468).x Tryd.underlying69 Tryd.info79 rfl rfl rfl (by decide) (by decide) (by decide) hb.bd hk301 rfl rfl (by decide) ?_
     intro v514 ρ516 w517 h515 htr518
     replace hB3 := hB3.mv (htr518.mv (i := 100) rfl)
     replace h2 := h2.mv (htr518.mv (i := 101) rfl) (by decide)
     replace hb := hb.trans htr518
     replace jt513 := (jt513.trans htr518).weak (J' := (fun t => ([16, 100] : List Nat).contains t)) (by intro t h; simp [rng] at h ⊢ <;> omega) rfl rfl
     refine dj_next (l' := [(13, .pointer (some ⟨gk_0, 0, none⟩)), (29, v514)]) rfl (.cons rfl (.cons rfl (.nil _))) jt513 (by intro t h; simp [rng] at h ⊢ <;> omega) rfl rfl ?_
     refine dj_H 17 (v := .pointer (some ⟨gk_0, 0, none⟩)) (by kernel_rfl) (by kernel_rfl) rfl (fun _ _ _ h => h) (sj_refl hb.bd rfl rfl) (fun w1 ρ1 hw1 => ev_nilCheck rfl) (by decide) ?_
     refine dj_H 18 (v := .pointer (some ⟨gk_0, 4, none⟩)) (by kernel_rfl) (by kernel_rfl) rfl (fun _ _ _ h => h) (sj_refl hb.bd rfl rfl) (fun w1 ρ1 hw1 => ev_fieldAddr (i := 4) Tryd.underlying71 rfl Tryd.info69 rfl rfl) (by decide) ?_
     refine dj_E 19 (by kernel_rfl) rfl ?_
     have jt519 : Tr ρ516 w517 (fun t => ([16, 100] : List Nat).contains t) ρ516 w517 := (Tr.refl hb.bd).weak (fun _ _ => rfl) rfl rfl
     refine sr_storeT (v := v514) (vs := [v514]) (cs' := #[.bool k_0.made, .int .i64 k_0.most, .int .i64 k_0.window, .int .i64 k_0.lock, v514]) hB3 (by decide) hb.bd rfl rfl (one_cells (OwnT.oneCell h515)) Tryd.sizeOf69 rfl (by first | rfl | (simp only [List.all_cons, List.all_nil, OwnT.oneCell h515]; done) | (simp only [List.all_cons, List.all_nil, OwnT.oneCell h515]; rfl)) rfl ?_
     intro w520 hB31 htr521
     replace h515 := h515.mv (htr521.mv (i := 16) rfl) (by decide)
     replace hb := hb.trans htr521
     replace jt519 := (jt519.trans htr521).weak (J' := (fun t => ([16, 100] : List Nat).contains t)) (by intro t h; simp [rng] at h ⊢ <;> omega) rfl rfl
     replace hB3 : Blk ρ516 100 w520 gk_0 (.cells #[.bool k_0.made, .int .i64 k_0.most, .int .i64 k_0.window, .int .i64 k_0.lock, v514] 71 (0, 0)) := hB31
     clear hB31
     refine dj_next (l' := []) rfl (.nil _) jt519 (by intro t h; simp [rng] at h ⊢ <;> omega) rfl rfl ?_
     refine dj_done rfl (by kernel_rfl) ?_
     refine ke_weaken (l' := []) (.nil _) ?_
     have htr522 := rtg_tr (ρ := ρ516) (w := w520) (i := 16) 101 (by decide) hb.bd
     have hmv523 : Mv ρ516 w520 16 (rtg ρ516 16 101) w520 101 := rtg_mv (by decide)
     replace hB3 := hB3.mv (htr522.mv (i := 100) rfl)
     replace hb := hb.trans htr522
     replace h515 := h515.mv hmv523 (by decide)
     cases hS
     exact ke_end0 Tryd.func27 rfl ⟨_, rfl, leave ρA w0 o 2 (rtg ρ516 16 101), rfl, ⟨_, (hB3.mv (leave_mv (p := 0) (by decide) hb)), (h515.mv (leave_mv (p := 1) (by decide) hb) (Nat.ne_of_gt (Nat.lt_of_lt_of_le (Nat.lt_of_lt_of_le Nat.zero_lt_two ho2) (Nat.le_add_right _ _))))⟩, (leave_tr ho2 hb)⟩
  ·replace hS := ite_false' hS hc15
   refine ke_skip ?_
   cases hS
   exact ke_end0 Tryd.func27 rfl ⟨_, rfl, leave ρA w0 o 2 (enter ρA o 2), rfl, ⟨_, (hB3.mv (leave_mv (p := 0) (by decide) hb)), (h2.mv (leave_mv (p := 1) (by decide) hb) (Nat.ne_of_gt (Nat.lt_of_lt_of_le (Nat.lt_of_lt_of_le Nat.zero_lt_two ho2) (Nat.le_add_right _ _))))⟩, (leave_tr ho2 hb)⟩
theorem secret_Locks_Fail__nil_ok (w0 : World) (hg : Gs w0) {ρA : Tags} (hbd : ∀ b, ρA b ≠ 0 → b < w0.heap.size) (hz : Gz ρA) {user_1 : Str} {now_2 : Int} {r : Unit} (hS : secret_Locks_Fail__nil user_1 now_2 = some r) :
  Calls Tryd.prog 24 #[.pointer none, str user_1, .int .i64 now_2] w0 (Ret (fun v w' => v = .tuple #[] ∧ Below w0.heap.size w0 w')) := by
 unfold secret_Locks_Fail__nil at hS
 have hb := flat1_fr (ρ := ρA) (w := w0) hbd
 have hz := hz.flat1
 refine calls_of_ke Tryd.func24 rfl (n := 103) rfl rfl (l := [(0, .pointer none), (1, str user_1), (2, .int .i64 now_2)]) rfl ?_
 refine ke_seq ?_
 refine ke_seq ?_
 refine ke_region ?_
 refine sr_ev (v := .pointer none) (ev_move rfl) (by decide) ?_
 refine sr_ev (v := .bool true) (ev_peqT_nil Tryd.underlying39 rfl rfl) (by decide) ?_
 refine sr_ev (v := .bool true) (ev_move rfl) (by decide) ?_
 refine sr_pass (e := 11) rfl rfl rfl (by decide) ?_
 refine sr_pass (e := 11) rfl rfl rfl (by decide) ?_
 refine sr_pass (e := 11) rfl rfl rfl (by decide) ?_
 refine sr_pass (e := 11) rfl rfl rfl (by decide) ?_
 refine sr_pass (e := 11) rfl rfl rfl (by decide) ?_
 refine sr_ev (v := .bool true) (ev_pick_t rfl rfl rfl) (by decide) ?_
 refine sr_ev (v := .bool true) (ev_move rfl) (by decide) ?_
 refine sr_pass (e := 18) rfl rfl rfl (by decide) ?_
 refine sr_pass (e := 18) rfl rfl rfl (by decide) ?_
 refine sr_pass (e := 18) rfl rfl rfl (by decide) ?_
 refine sr_ev (v := .bool true) (ev_pick_t rfl rfl rfl) (by decide) ?_
 refine sr_end (l' := [(0, .pointer none), (1, str user_1), (2, .int .i64 now_2), (22, .bool true)]) (.cons rfl (.cons rfl (.cons rfl (.cons rfl (.nil _))))) ?_
 refine ke_cond (t := true) rfl (fun _ => ?_) (fun h => by cases h)
 cases hS
 exact ke_ret0 Tryd.func24 rfl ⟨_, rfl, rfl, (hb.below (flat1_le _))⟩
theorem secret_Locks_Clear__nil_ok (w0 : World) (hg : Gs w0) {ρA : Tags} (hbd : ∀ b, ρA b ≠ 0 → b < w0.heap.size) (hz : Gz ρA) {user_1 : Str} {r : Unit} (hS : secret_Locks_Clear__nil user_1 = some r) :
  Calls Tryd.prog 26 #[.pointer none, str user_1] w0 (Ret (fun v w' => v = .tuple #[] ∧ Below w0.heap.size w0 w')) := by
 unfold secret_Locks_Clear__nil at hS
 have hb := flat1_fr (ρ := ρA) (w := w0) hbd
 have hz := hz.flat1
 refine calls_of_ke Tryd.func26 rfl (n := 11) rfl rfl (l := [(0, .pointer none), (1, str user_1)]) rfl ?_
 refine ke_seq ?_
 refine ke_region ?_
 refine sr_ev (v := .pointer none) (ev_move rfl) (by decide) ?_
 refine sr_ev (v := .bool false) (ev_pneT_nil Tryd.underlying39 rfl rfl) (by decide) ?_
 refine sr_end (l' := [(0, .pointer none), (1, str user_1), (5, .bool false)]) (.cons rfl (.cons rfl (.cons rfl (.nil _)))) ?_
 refine ke_cond (t := false) rfl (fun h => by cases h) (fun _ => ?_)
 refine ke_skip ?_
 cases hS
 exact ke_end0 Tryd.func26 rfl ⟨_, rfl, rfl, (hb.below (flat1_le _))⟩
theorem secret_Locks_Locked__nil_ok (w0 : World) (hg : Gs w0) {ρA : Tags} (hbd : ∀ b, ρA b ≠ 0 → b < w0.heap.size) (hz : Gz ρA) {user_1 : Str} {now_2 : Int} {r : Bool} (hS : secret_Locks_Locked__nil user_1 now_2 = some r) :
  Calls Tryd.prog 28 #[.pointer none, str user_1, .int .i64 now_2] w0 (Ret (fun v w' => v = .bool r ∧ Below w0.heap.size w0 w')) := by
 unfold secret_Locks_Locked__nil at hS
 have hb := flat1_fr (ρ := ρA) (w := w0) hbd
 have hz := hz.flat1
 refine calls_of_ke Tryd.func28 rfl (n := 32) rfl rfl (l := [(0, .pointer none), (1, str user_1), (2, .int .i64 now_2)]) rfl ?_
 refine ke_seq ?_
 refine ke_region ?_
 refine sr_ev (v := .bool false) (ev_assign rfl) (by decide) ?_
 refine sr_end (l' := [(0, .pointer none), (1, str user_1), (2, .int .i64 now_2)]) (.cons rfl (.cons rfl (.cons rfl (.nil _)))) ?_
 refine ke_seq ?_
 refine ke_region_q Tryd.mixed (by kernel_rfl) ?_
 refine sq_ev (v := .pointer none) (fun w1 hw1 => ev_move rfl) (by decide) ?_
 refine sq_ev (v := .bool false) (fun w1 hw1 => ev_pneT_nil Tryd.underlying39 rfl rfl) (by decide) ?_
 refine sq_ev (v := .bool false) (fun w1 hw1 => ev_move rfl) (by decide) ?_
 refine sq_pass (e := 9) rfl rfl rfl (by decide) ?_
 refine sq_pass (e := 9) rfl rfl rfl (by decide) ?_
 refine sq_pass (e := 9) rfl rfl rfl (by decide) ?_
 refine sq_pass (e := 9) rfl rfl rfl (by decide) ?_
 refine sq_pass (e := 9) rfl rfl rfl (by decide) ?_
 refine sq_pass (e := 9) rfl rfl rfl (by decide) ?_
 refine sq_pass (e := 9) rfl rfl rfl (by decide) ?_
 refine sq_ev (v := .bool false) (fun w1 hw1 => ev_pick_f rfl rfl rfl) (by decide) ?_
 refine sq_ev (v := .bool false) (fun w1 hw1 => ev_move rfl) (by decide) ?_
 refine sq_pass (e := 18) rfl rfl rfl (by decide) ?_
 refine sq_pass (e := 18) rfl rfl rfl (by decide) ?_
 refine sq_pass (e := 18) rfl rfl rfl (by decide) ?_
 refine sq_pass (e := 18) rfl rfl rfl (by decide) ?_
 refine sq_pass (e := 18) rfl rfl rfl (by decide) ?_
 refine sq_pass (e := 18) rfl rfl rfl (by decide) ?_
 refine sq_pass (e := 18) rfl rfl rfl (by decide) ?_
 refine sq_pass (e := 18) rfl rfl rfl (by decide) ?_
 refine sq_pass (e := 18) rfl rfl rfl (by decide) ?_
 refine sq_pass (e := 18) rfl rfl rfl (by decide) ?_
 refine sq_pass (e := 18) rfl rfl rfl (by decide) ?_
 refine sq_pass (e := 18) rfl rfl rfl (by decide) ?_
 refine sq_ev (v := .bool false) (fun w1 hw1 => ev_pick_f rfl rfl rfl) (by decide) ?_
 refine sq_ev (v := .bool false) (fun w1 hw1 => ev_assign rfl) (by decide) ?_
 refine sq_end (l' := [(6, .bool false)]) (.cons rfl (.nil _)) (fun w2 hw1 => ?_)
 have htr3 := Tr.of_below hw1 hb.bd
 replace hb := hb.trans htr3
 cases hS
 exact ke_ret1 Tryd.func28 rfl rfl ⟨_, rfl, rfl, (hb.below (flat1_le _))⟩
theorem secret_Locks_Failures__nil_ok (w0 : World) (hg : Gs w0) {ρA : Tags} (hbd : ∀ b, ρA b ≠ 0 → b < w0.heap.size) (hz : Gz ρA) {user_1 : Str} {now_2 : Int} {r : Int} (hS : secret_Locks_Failures__nil user_1 now_2 = some r) :
  Calls Tryd.prog 30 #[.pointer none, str user_1, .int .i64 now_2] w0 (Ret (fun v w' => v = .int .i64 r ∧ Below w0.heap.size w0 w')) := by
 unfold secret_Locks_Failures__nil at hS
 have hb := flat1_fr (ρ := ρA) (w := w0) hbd
 have hz := hz.flat1
 refine calls_of_ke Tryd.func30 rfl (n := 28) rfl rfl (l := [(0, .pointer none), (1, str user_1), (2, .int .i64 now_2)]) rfl ?_
 refine ke_seq ?_
 refine ke_region ?_
 refine sr_ev (v := .int .i64 0) (ev_assign rfl) (by decide) ?_
 refine sr_end (l' := [(0, .pointer none), (1, str user_1), (2, .int .i64 now_2)]) (.cons rfl (.cons rfl (.cons rfl (.nil _)))) ?_
 refine ke_seq ?_
 refine ke_seq ?_
 refine ke_region ?_
 refine sr_ev (v := .pointer none) (ev_move rfl) (by decide) ?_
 refine sr_ev (v := .bool true) (ev_peqT_nil Tryd.underlying39 rfl rfl) (by decide) ?_
 refine sr_ev (v := .bool true) (ev_move rfl) (by decide) ?_
 refine sr_pass (e := 9) rfl rfl rfl (by decide) ?_
 refine sr_pass (e := 9) rfl rfl rfl (by decide) ?_
 refine sr_pass (e := 9) rfl rfl rfl (by decide) ?_
 refine sr_pass (e := 9) rfl rfl rfl (by decide) ?_
 refine sr_pass (e := 9) rfl rfl rfl (by decide) ?_
 refine sr_pass (e := 9) rfl rfl rfl (by decide) ?_
 refine sr_pass (e := 9) rfl rfl rfl (by decide) ?_
 refine sr_ev (v := .bool true) (ev_pick_t rfl rfl rfl) (by decide) ?_
 refine sr_end (l' := [(0, .pointer none), (1, str user_1), (2, .int .i64 now_2), (17, .bool true)]) (.cons rfl (.cons rfl (.cons rfl (.cons rfl (.nil _))))) ?_
 refine ke_cond (t := true) rfl (fun _ => ?_) (fun h => by cases h)
 refine ke_seq ?_
 refine ke_region ?_
 refine sr_ev (v := .int .i64 0) (ev_assign rfl) (by decide) ?_
 refine sr_end (l' := [(6, .int .i64 0)]) (.cons rfl (.nil _)) ?_
 cases hS
 exact ke_ret1 Tryd.func30 rfl rfl ⟨_, rfl, rfl, (hb.below (flat1_le _))⟩
theorem law22_SecretLocks_B2_ok {w0 : World} (hg : Gs w0) {ρA : Tags} (hbd : ∀ b, ρA b ≠ 0 → b < w0.heap.size) (hz : Gz (flat1 ρA)) (r0 : List law22_Op → secret_Locks → ref22_Locks → Int → Option (Bool))
  (hr0 : ∀ {r : Bool} {l_3 : List law22_Op} {ok_9 : secret_Locks} {oj_11 : ref22_Locks} {i_13 : Int} {vl_3 : Value} {gk_9 : Nat} {gj_11 : Nat}, r0 l_3 ok_9 oj_11 i_13 = some r → ∀ {ρ : Tags} {w : World}, (Fr (flat1 ρA) w0 ρ w) → (SlR law22_Op.c (Wb ρ) w vl_3 l_3) → (secret_Locks.O (fun p => 100 + p) ρ w gk_9 ok_9) → (ref22_Locks.O (fun p => 200 + p) ρ w gj_11 oj_11) → KE Tryd.prog 6 (Ret (fun v w' => v = .bool r ∧ Below w0.heap.size w0 w')) 178 [.inLoop (sub (bodyOf Tryd.f6) [2, 2, 2, 2, 2, 1, 2, 2, 1]), .inBlock 0, .code (sub (bodyOf Tryd.f6) [2, 2, 2, 2, 2, 2])] [(3, vl_3), (9, .pointer (some ⟨gk_9, 0, none⟩)), (11, .pointer (some ⟨gj_11, 0, none⟩)), (13, .int .i64 i_13)] w) {r : Bool} {l_3 : List law22_Op} {ok_9 : secret_Locks} {oj_11 : ref22_Locks} {i_13 : Int} {vl_3 : Value} {gk_9 : Nat} {gj_11 : Nat} (hS : law22_SecretLocks_B2 r0 l_3 ok_9 oj_11 i_13 = some r) {ρ : Tags} {w : World} (hb : Fr (flat1 ρA) w0 ρ w) (hl_3 : SlR law22_Op.c (Wb ρ) w vl_3 l_3) (hok_9 : secret_Locks.O (fun p => 100 + p) ρ w gk_9 ok_9) (hoj_11 : ref22_Locks.O (fun p => 200 + p) ρ w gj_11 oj_11) :
  KE Tryd.prog 6 (Ret (fun v w' => v = .bool r ∧ Below w0.heap.size w0 w')) 178 [.inBlock 2, .code (sub (bodyOf Tryd.f6) [2, 2, 2, 2, 2, 1, 2, 2, 1, 2, 1, 2, 2]), .inBlock 1, .code (sub (bodyOf Tryd.f6) [2, 2, 2, 2, 2, 1, 2, 2, 1, 2, 2]), .inLoop (sub (bodyOf Tryd.f6) [2, 2, 2, 2, 2, 1, 2, 2, 1]), .inBlock 0, .code (sub (bodyOf Tryd.f6) [2, 2, 2, 2, 2, 2])] [(3, vl_3), (9, .pointer (some ⟨gk_9, 0, none⟩)), (11, .pointer (some ⟨gj_11, 0, none⟩)), (13, .int .i64 i_13)] w := by
 unfold law22_SecretLocks_B2 at hS
 obtain ⟨v252, lp254, hB256, h253, hR255⟩ := hok_9
 replace hB256 : Blk ρ 100 w gk_9 (.cells #[.int .i64 ok_9.most, .int .i64 ok_9.window, .int .i64 ok_9.lock, v252] 67 (0, 0)) := hB256
 replace h253 : MapT str ptrC false ρ 101 w v252 lp254 := h253
 replace hR255 : Recs secret_record.O 2 ρ 102 w lp254 ok_9.users := hR255
 obtain ⟨v257, hB259, h258⟩ := hoj_11
 replace hB259 : Blk ρ 200 w gj_11 (.cells #[.bool oj_11.made, .int .i64 oj_11.most, .int .i64 oj_11.window, .int .i64 oj_11.lock, v257] 71 (0, 0)) := hB259
 replace h258 : OwnT ref22_record.c 79 ρ 201 w v257 oj_11.records := h258
 refine ke_inBlock ?_
 refine ke_seq ?_
 refine ke_region_q Tryd.mixed (by kernel_rfl) ?_
 refine sq_ev (v := .pointer (some ⟨gk_9, 0, none⟩)) (fun w1 hw1 => ev_move rfl) (by decide) ?_
 refine sq_ev (v := vl_3) (fun w1 hw1 => ev_move rfl) (by decide) ?_
 refine sq_ev (v := .int .i64 i_13) (fun w1 hw1 => ev_move rfl) (by decide) ?_
 obtain ⟨y262, hy263, hS⟩ := bind_some' hS
 obtain ⟨b264, o265, cs267, hq268, he266⟩ := ((SlT.of_sl (i := 0) hl_3)).elem (P := Tryd.prog) Tryd.underlying37 Tryd.info46 rfl hy263
 obtain rfl : cs267 = [.int .i64 y262.Call, .int .i64 y262.Now, str y262.User] := he266.rd
 refine sq_ev (v := .pointer (some ⟨b264, o265, none⟩)) (fun w1 hw1 => hq268 w1 rfl rfl) (by decide) ?_
 refine sq_ev (v := .pointer (some ⟨b264, o265 + 2, none⟩)) (fun w1 hw1 => ev_fieldAddr (i := 2) Tryd.underlying46 rfl Tryd.info9 rfl rfl) (by decide) ?_
 refine sq_ev (v := str y262.User) (fun w1 hw1 => ev_load Tryd.isAgg9 rfl ((he266.mv (Mv.of_below (i := 0) (ρ := ρ) hw1) (Nat.succ_pos _)).cell 2 _ rfl)) (by decide) ?_
 refine sq_ev (v := vl_3) (fun w1 hw1 => ev_move rfl) (by decide) ?_
 refine sq_ev (v := .int .i64 i_13) (fun w1 hw1 => ev_move rfl) (by decide) ?_
 obtain ⟨y269, hy270, hS⟩ := bind_some' hS
 obtain ⟨b271, o272, cs274, hq275, he273⟩ := ((SlT.of_sl (i := 0) hl_3)).elem (P := Tryd.prog) Tryd.underlying37 Tryd.info46 rfl hy270
 obtain rfl : cs274 = [.int .i64 y269.Call, .int .i64 y269.Now, str y269.User] := he273.rd
 refine sq_ev (v := .pointer (some ⟨b271, o272, none⟩)) (fun w1 hw1 => hq275 w1 rfl rfl) (by decide) ?_
 refine sq_ev (v := .pointer (some ⟨b271, o272 + 1, none⟩)) (fun w1 hw1 => ev_fieldAddr (i := 1) Tryd.underlying46 rfl Tryd.info3 rfl rfl) (by decide) ?_
 refine sq_ev (v := .int .i64 y269.Now) (fun w1 hw1 => ev_load Tryd.isAgg3 rfl ((he273.mv (Mv.of_below (i := 0) (ρ := ρ) hw1) (Nat.succ_pos _)).cell 1 _ rfl)) (by decide) ?_
 obtain ⟨y276, hy277, hS⟩ := bind_some' hS
 refine sq_call (v := .bool y276) (vs := [.pointer (some ⟨gk_9, 0, none⟩), str y262.User, .int .i64 y269.Now]) rfl Tryd.call28 rfl (fun w1 hw1 => (secret_Locks_Locked_ok _ ((hg.fr hz hb).below hw1) (ρA := ρ) (fun b h => Nat.lt_of_lt_of_le (hb.bd b h) hw1.size) (hz.fr hg hb) (τ0 := (fun p => 100 + p)) (fun p => Nat.le_add_right_of_le (by decide)) (⟨_, _, (hB256.mv (Mv.of_below (i := 100) (ρ := ρ) hw1)), (h253.mv (Mv.of_below (i := 101) (ρ := ρ) hw1)), (Recs.mv hR255 secret_record.objK (Mv.of_below (i := 102) (ρ := ρ) hw1) (by decide))⟩ : secret_Locks.O (fun p => 100 + p) ρ w1 gk_9 ok_9) hy277)) (by decide) ?_
 refine sq_ev (v := .pointer (some ⟨gj_11, 0, none⟩)) (fun w1 hw1 => ev_move rfl) (by decide) ?_
 refine sq_ev (v := vl_3) (fun w1 hw1 => ev_move rfl) (by decide) ?_
 refine sq_ev (v := .int .i64 i_13) (fun w1 hw1 => ev_move rfl) (by decide) ?_
 obtain ⟨y281, hy282, hS⟩ := bind_some' hS
 obtain ⟨b283, o284, cs286, hq287, he285⟩ := ((SlT.of_sl (i := 0) hl_3)).elem (P := Tryd.prog) Tryd.underlying37 Tryd.info46 rfl hy282
 obtain rfl : cs286 = [.int .i64 y281.Call, .int .i64 y281.Now, str y281.User] := he285.rd
 refine sq_ev (v := .pointer (some ⟨b283, o284, none⟩)) (fun w1 hw1 => hq287 w1 rfl rfl) (by decide) ?_
 refine sq_ev (v := .pointer (some ⟨b283, o284 + 2, none⟩)) (fun w1 hw1 => ev_fieldAddr (i := 2) Tryd.underlying46 rfl Tryd.info9 rfl rfl) (by decide) ?_
 refine sq_ev (v := str y281.User) (fun w1 hw1 => ev_load Tryd.isAgg9 rfl ((he285.mv (Mv.of_below (i := 0) (ρ := ρ) hw1) (Nat.succ_pos _)).cell 2 _ rfl)) (by decide) ?_
 refine sq_ev (v := vl_3) (fun w1 hw1 => ev_move rfl) (by decide) ?_
 refine sq_ev (v := .int .i64 i_13) (fun w1 hw1 => ev_move rfl) (by decide) ?_
 obtain ⟨y288, hy289, hS⟩ := bind_some' hS
 obtain ⟨b290, o291, cs293, hq294, he292⟩ := ((SlT.of_sl (i := 0) hl_3)).elem (P := Tryd.prog) Tryd.underlying37 Tryd.info46 rfl hy289
 obtain rfl : cs293 = [.int .i64 y288.Call, .int .i64 y288.Now, str y288.User] := he292.rd
 refine sq_ev (v := .pointer (some ⟨b290, o291, none⟩)) (fun w1 hw1 => hq294 w1 rfl rfl) (by decide) ?_
 refine sq_ev (v := .pointer (some ⟨b290, o291 + 1, none⟩)) (fun w1 hw1 => ev_fieldAddr (i := 1) Tryd.underlying46 rfl Tryd.info3 rfl rfl) (by decide) ?_
 refine sq_ev (v := .int .i64 y288.Now) (fun w1 hw1 => ev_load Tryd.isAgg3 rfl ((he292.mv (Mv.of_below (i := 0) (ρ := ρ) hw1) (Nat.succ_pos _)).cell 1 _ rfl)) (by decide) ?_
 obtain ⟨y295, hy296, hS⟩ := bind_some' hS
 refine sq_call (v := .bool y295) (vs := [.pointer (some ⟨gj_11, 0, none⟩), str y281.User, .int .i64 y288.Now]) rfl Tryd.call29 rfl (fun w1 hw1 => (ref22_Locks_Locked_ok _ ((hg.fr hz hb).below hw1) (ρA := ρ) (fun b h => Nat.lt_of_lt_of_le (hb.bd b h) hw1.size) (hz.fr hg hb) (τ0 := (fun p => 200 + p)) (fun p => Nat.le_add_right_of_le (by decide)) (⟨_, (hB259.mv (Mv.of_below (i := 200) (ρ := ρ) hw1)), (h258.mv (Mv.of_below (i := 201) (ρ := ρ) hw1) (by decide))⟩ : ref22_Locks.O (fun p => 200 + p) ρ w1 gj_11 oj_11) hy296)) (by decide) ?_
 refine sq_ev (v := .bool (y276 != y295)) (fun w1 hw1 => ev_bne Tryd.underlying4 rfl rfl) (by decide) ?_
 refine sq_ev (v := .bool (y276 != y295)) (fun w1 hw1 => ev_move rfl) (by decide) ?_
 obtain ⟨z302, hz304, hS⟩ := bind_some' hS
 refine sq_join (m := 26) (C := fun (x : Bool) => z302 = x) (l' := fun x => [(3, vl_3), (9, .pointer (some ⟨gk_9, 0, none⟩)), (11, .pointer (some ⟨gj_11, 0, none⟩)), (13, .int .i64 i_13), (162, .bool x)]) ?_ ?_
 ·rintro _ rfl
  refine sq_end (l' := [(3, vl_3), (9, .pointer (some ⟨gk_9, 0, none⟩)), (11, .pointer (some ⟨gj_11, 0, none⟩)), (13, .int .i64 i_13), (162, .bool z302)]) (.cons rfl (.cons rfl (.cons rfl (.cons rfl (.cons rfl (.nil _)))))) (fun w261 hw260 => ?_)
  have htr345 := Tr.of_below hw260 hb.bd
  replace hl_3 := hl_3.mv htr345.rd
  replace hB256 := hB256.mv (htr345.mv (i := 100) rfl)
  replace h253 := h253.mv (htr345.mv (i := 101) rfl)
  replace hR255 := Recs.mv hR255 secret_record.objK (htr345.mv (i := 102) rfl) (by decide)
  replace hB259 := hB259.mv (htr345.mv (i := 200) rfl)
  replace h258 := h258.mv (htr345.mv (i := 201) rfl) (by decide)
  replace hb := hb.trans htr345
  refine ke_cond (t := z302) rfl (fun hc346 => ?_) (fun hc346 => ?_)
  ·replace hS := ite_true' hS hc346
   refine ke_seq ?_
   refine ke_region ?_
   refine sr_ev (v := .bool false) (ev_assign rfl) (by decide) ?_
   refine sr_end (l' := [(8, .bool false)]) (.cons rfl (.nil _)) ?_
   cases hS
   exact ke_ret1 Tryd.func6 rfl rfl ⟨_, rfl, rfl, (hb.below (flat1_le _))⟩
  ·replace hS := ite_false' hS hc346
   refine ke_skip ?_
   refine ke_inBlock ?_
   refine ke_region ?_
   refine sr_ev (v := .int .i64 i_13) (ev_move rfl) (by decide) ?_
   refine sr_ev (v := .int .i64 (IntKind.i64.wrap (i_13 + 1))) (ev_add rfl rfl) (by decide) ?_
   refine sr_ev (v := .int .i64 (IntKind.i64.wrap (i_13 + 1))) (ev_assign rfl) (by decide) ?_
   refine sr_end (l' := [(3, vl_3), (9, .pointer (some ⟨gk_9, 0, none⟩)), (11, .pointer (some ⟨gj_11, 0, none⟩)), (13, .int .i64 (IntKind.i64.wrap (i_13 + 1)))]) (.cons rfl (.cons rfl (.cons rfl (.cons rfl (.nil _))))) ?_
   have hK := hr0 hS hb hl_3 ⟨_, _, hB256, h253, hR255⟩ ⟨_, hB259, h258⟩
   exact ke_weaken (l' := [(3, vl_3), (9, .pointer (some ⟨gk_9, 0, none⟩)), (11, .pointer (some ⟨gj_11, 0, none⟩)), (13, .int .i64 (IntKind.i64.wrap (i_13 + 1)))]) (.cons rfl (.cons rfl (.cons rfl (.cons rfl (.nil _))))) hK
 ·intro K301
  clear hS
  rcases Bool.eq_false_or_eq_true (y276 != y295) with hg300 | hg300
  ·have hS := ite_true' hz304 hg300
   refine sq_pass (e := 136) rfl rfl (by rw [hg300]; rfl) (by decide) ?_
   refine sq_pass (e := 136) rfl rfl (by rw [hg300]; rfl) (by decide) ?_
   refine sq_pass (e := 136) rfl rfl (by rw [hg300]; rfl) (by decide) ?_
   refine sq_pass (e := 136) rfl rfl (by rw [hg300]; rfl) (by decide) ?_
   refine sq_pass (e := 136) rfl rfl (by rw [hg300]; rfl) (by decide) ?_
   refine sq_pass (e := 136) rfl rfl (by rw [hg300]; rfl) (by decide) ?_
   refine sq_pass (e := 136) rfl rfl (by rw [hg300]; rfl) (by decide) ?_
   refine sq_pass (e := 136) rfl rfl (by rw [hg300]; rfl) (by decide) ?_
   refine sq_pass (e := 136) rfl rfl (by rw [hg300]; rfl) (by decide) ?_
   refine sq_pass (e := 136) rfl rfl (by rw [hg300]; rfl) (by decide) ?_
   refine sq_pass (e := 136) rfl rfl (by rw [hg300]; rfl) (by decide) ?_
   refine sq_pass (e := 136) rfl rfl (by rw [hg300]; rfl) (by decide) ?_
   refine sq_pass (e := 136) rfl rfl (by rw [hg300]; rfl) (by decide) ?_
   refine sq_pass (e := 136) rfl rfl (by rw [hg300]; rfl) (by decide) ?_
   refine sq_pass (e := 136) rfl rfl (by rw [hg300]; rfl) (by decide) ?_
   refine sq_pass (e := 136) rfl rfl (by rw [hg300]; rfl) (by decide) ?_
   refine sq_pass (e := 136) rfl rfl (by rw [hg300]; rfl) (by decide) ?_
   refine sq_pass (e := 136) rfl rfl (by rw [hg300]; rfl) (by decide) ?_
   refine sq_pass (e := 136) rfl rfl (by rw [hg300]; rfl) (by decide) ?_
   refine sq_pass (e := 136) rfl rfl (by rw [hg300]; rfl) (by decide) ?_
   refine sq_pass (e := 136) rfl rfl (by rw [hg300]; rfl) (by decide) ?_
   refine sq_pass (e := 136) rfl rfl (by rw [hg300]; rfl) (by decide) ?_
   refine sq_pass (e := 136) rfl rfl (by rw [hg300]; rfl) (by decide) ?_
   refine sq_pass (e := 136) rfl rfl (by rw [hg300]; rfl) (by decide) ?_
   refine sq_pass (e := 136) rfl rfl (by rw [hg300]; rfl) (by decide) ?_
   refine sq_ev (v := .bool true) (fun w1 hw1 => ev_pick_t rfl hg300 rfl) (by decide) ?_
   exact sq_weaken (l' := [(3, vl_3), (9, .pointer (some ⟨gk_9, 0, none⟩)), (11, .pointer (some ⟨gj_11, 0, none⟩)), (13, .int .i64 i_13), (162, .bool true)]) (.cons rfl (.cons rfl (.cons rfl (.cons rfl (.cons rfl (.nil _)))))) (K301 true (Option.some.inj hS).symm)
  ·have hS := ite_false' hz304 hg300
   refine sq_evg (b := false) (e := 136) rfl rfl hg300 (v := .pointer (some ⟨gk_9, 0, none⟩)) (fun w1 hw1 => ev_move rfl) (by decide) ?_
   refine sq_evg (b := false) (e := 136) rfl rfl hg300 (v := vl_3) (fun w1 hw1 => ev_move rfl) (by decide) ?_
   refine sq_evg (b := false) (e := 136) rfl rfl hg300 (v := .int .i64 i_13) (fun w1 hw1 => ev_move rfl) (by decide) ?_
   obtain ⟨y307, hy308, hS⟩ := bind_some' hS
   obtain ⟨b309, o310, cs312, hq313, he311⟩ := ((SlT.of_sl (i := 0) hl_3)).elem (P := Tryd.prog) Tryd.underlying37 Tryd.info46 rfl hy308
   obtain rfl : cs312 = [.int .i64 y307.Call, .int .i64 y307.Now, str y307.User] := he311.rd
   refine sq_evg (b := false) (e := 136) rfl rfl hg300 (v := .pointer (some ⟨b309, o310, none⟩)) (fun w1 hw1 => hq313 w1 rfl rfl) (by decide) ?_
   refine sq_evg (b := false) (e := 136) rfl rfl hg300 (v := .pointer (some ⟨b309, o310 + 2, none⟩)) (fun w1 hw1 => ev_fieldAddr (i := 2) Tryd.underlying46 rfl Tryd.info9 rfl rfl) (by decide) ?_
   refine sq_evg (b := false) (e := 136) rfl rfl hg300 (v := str y307.User) (fun w1 hw1 => ev_load Tryd.isAgg9 rfl ((he311.mv (Mv.of_below (i := 0) (ρ := ρ) hw1) (Nat.succ_pos _)).cell 2 _ rfl)) (by decide) ?_
   refine sq_evg (b := false) (e := 136) rfl rfl hg300 (v := vl_3) (fun w1 hw1 => ev_move rfl) (by decide) ?_
   refine sq_evg (b := false) (e := 136) rfl rfl hg300 (v := .int .i64 i_13) (fun w1 hw1 => ev_move rfl) (by decide) ?_
   obtain ⟨y314, hy315, hS⟩ := bind_some' hS
   obtain ⟨b316, o317, cs319, hq320, he318⟩ := ((SlT.of_sl (i := 0) hl_3)).elem (P := Tryd.prog) Tryd.underlying37 Tryd.info46 rfl hy315
   obtain rfl : cs319 = [.int .i64 y314.Call, .int .i64 y314.Now, str y314.User] := he318.rd
   refine sq_evg (b := false) (e := 136) rfl rfl hg300 (v := .pointer (some ⟨b316, o317, none⟩)) (fun w1 hw1 => hq320 w1 rfl rfl) (by decide) ?_
   refine sq_evg (b := false) (e := 136) rfl rfl hg300 (v := .pointer (some ⟨b316, o317 + 1, none⟩)) (fun w1 hw1 => ev_fieldAddr (i := 1) Tryd.underlying46 rfl Tryd.info3 rfl rfl) (by decide) ?_
   refine sq_evg (b := false) (e := 136) rfl rfl hg300 (v := .int .i64 y314.Now) (fun w1 hw1 => ev_load Tryd.isAgg3 rfl ((he318.mv (Mv.of_below (i := 0) (ρ := ρ) hw1) (Nat.succ_pos _)).cell 1 _ rfl)) (by decide) ?_
   obtain ⟨y321, hy322, hS⟩ := bind_some' hS
   refine sq_callg (b := false) (e := 136) rfl rfl hg300 (v := .int .i64 y321) (vs := [.pointer (some ⟨gk_9, 0, none⟩), str y307.User, .int .i64 y314.Now]) rfl Tryd.call30 rfl (fun w1 hw1 => (secret_Locks_Failures_ok _ ((hg.fr hz hb).below hw1) (ρA := ρ) (fun b h => Nat.lt_of_lt_of_le (hb.bd b h) hw1.size) (hz.fr hg hb) (τ0 := (fun p => 100 + p)) (fun p => Nat.le_add_right_of_le (by decide)) (⟨_, _, (hB256.mv (Mv.of_below (i := 100) (ρ := ρ) hw1)), (h253.mv (Mv.of_below (i := 101) (ρ := ρ) hw1)), (Recs.mv hR255 secret_record.objK (Mv.of_below (i := 102) (ρ := ρ) hw1) (by decide))⟩ : secret_Locks.O (fun p => 100 + p) ρ w1 gk_9 ok_9) hy322)) (by decide) ?_
   refine sq_evg (b := false) (e := 136) rfl rfl hg300 (v := .pointer (some ⟨gj_11, 0, none⟩)) (fun w1 hw1 => ev_move rfl) (by decide) ?_
   refine sq_evg (b := false) (e := 136) rfl rfl hg300 (v := vl_3) (fun w1 hw1 => ev_move rfl) (by decide) ?_
   refine sq_evg (b := false) (e := 136) rfl rfl hg300 (v := .int .i64 i_13) (fun w1 hw1 => ev_move rfl) (by decide) ?_
   obtain ⟨y326, hy327, hS⟩ := bind_some' hS
   obtain ⟨b328, o329, cs331, hq332, he330⟩ := ((SlT.of_sl (i := 0) hl_3)).elem (P := Tryd.prog) Tryd.underlying37 Tryd.info46 rfl hy327
   obtain rfl : cs331 = [.int .i64 y326.Call, .int .i64 y326.Now, str y326.User] := he330.rd
   refine sq_evg (b := false) (e := 136) rfl rfl hg300 (v := .pointer (some ⟨b328, o329, none⟩)) (fun w1 hw1 => hq332 w1 rfl rfl) (by decide) ?_
   refine sq_evg (b := false) (e := 136) rfl rfl hg300 (v := .pointer (some ⟨b328, o329 + 2, none⟩)) (fun w1 hw1 => ev_fieldAddr (i := 2) Tryd.underlying46 rfl Tryd.info9 rfl rfl) (by decide) ?_
   refine sq_evg (b := false) (e := 136) rfl rfl hg300 (v := str y326.User) (fun w1 hw1 => ev_load Tryd.isAgg9 rfl ((he330.mv (Mv.of_below (i := 0) (ρ := ρ) hw1) (Nat.succ_pos _)).cell 2 _ rfl)) (by decide) ?_
   refine sq_evg (b := false) (e := 136) rfl rfl hg300 (v := vl_3) (fun w1 hw1 => ev_move rfl) (by decide) ?_
   refine sq_evg (b := false) (e := 136) rfl rfl hg300 (v := .int .i64 i_13) (fun w1 hw1 => ev_move rfl) (by decide) ?_
   obtain ⟨y333, hy334, hS⟩ := bind_some' hS
   obtain ⟨b335, o336, cs338, hq339, he337⟩ := ((SlT.of_sl (i := 0) hl_3)).elem (P := Tryd.prog) Tryd.underlying37 Tryd.info46 rfl hy334
   obtain rfl : cs338 = [.int .i64 y333.Call, .int .i64 y333.Now, str y333.User] := he337.rd
   refine sq_evg (b := false) (e := 136) rfl rfl hg300 (v := .pointer (some ⟨b335, o336, none⟩)) (fun w1 hw1 => hq339 w1 rfl rfl) (by decide) ?_
   refine sq_evg (b := false) (e := 136) rfl rfl hg300 (v := .pointer (some ⟨b335, o336 + 1, none⟩)) (fun w1 hw1 => ev_fieldAddr (i := 1) Tryd.underlying46 rfl Tryd.info3 rfl rfl) (by decide) ?_
   refine sq_evg (b := false) (e := 136) rfl rfl hg300 (v := .int .i64 y333.Now) (fun w1 hw1 => ev_load Tryd.isAgg3 rfl ((he337.mv (Mv.of_below (i := 0) (ρ := ρ) hw1) (Nat.succ_pos _)).cell 1 _ rfl)) (by decide) ?_
   obtain ⟨y340, hy341, hS⟩ := bind_some' hS
   refine sq_callg (b := false) (e := 136) rfl rfl hg300 (v := .int .i64 y340) (vs := [.pointer (some ⟨gj_11, 0, none⟩), str y326.User, .int .i64 y333.Now]) rfl Tryd.call31 rfl (fun w1 hw1 => (ref22_Locks_Failures_ok _ ((hg.fr hz hb).below hw1) (ρA := ρ) (fun b h => Nat.lt_of_lt_of_le (hb.bd b h) hw1.size) (hz.fr hg hb) (τ0 := (fun p => 200 + p)) (fun p => Nat.le_add_right_of_le (by decide)) (⟨_, (hB259.mv (Mv.of_below (i := 200) (ρ := ρ) hw1)), (h258.mv (Mv.of_below (i := 201) (ρ := ρ) hw1) (by decide))⟩ : ref22_Locks.O (fun p => 200 + p) ρ w1 gj_11 oj_11) hy341)) (by decide) ?_
   refine sq_evg (b := false) (e := 136) rfl rfl hg300 (v := .bool (y321 != y340)) (fun w1 hw1 => ev_ne rfl rfl) (by decide) ?_
   refine sq_ev (v := .bool (y321 != y340)) (fun w1 hw1 => ev_pick_f rfl hg300 rfl) (by decide) ?_
   exact sq_weaken (l' := [(3, vl_3), (9, .pointer (some ⟨gk_9, 0, none⟩)), (11, .pointer (some ⟨gj_11, 0, none⟩)), (13, .int .i64 i_13), (162, .bool (y321 != y340))]) (.cons rfl (.cons rfl (.cons rfl (.cons rfl (.cons rfl (.nil _)))))) (K301 (y321 != y340) (Option.some.inj hS).symm)
theorem law22_SecretLocks_L1_ok {w0 : World} (hg : Gs w0) {ρA : Tags} (hbd : ∀ b, ρA b ≠ 0 → b < w0.heap.size) (hz : Gz (flat1 ρA)) : ∀ (n : Nat), ∀ {r : Bool} {l_3 : List law22_Op} {ok_9 : secret_Locks} {oj_11 : ref22_Locks} {i_13 : Int} {vl_3 : Value} {gk_9 : Nat} {gj_11 : Nat}, law22_SecretLocks_L1 n l_3 ok_9 oj_11 i_13 = some r → ∀ {ρ : Tags} {w : World}, (Fr (flat1 ρA) w0 ρ w) → (SlR law22_Op.c (Wb ρ) w vl_3 l_3) → (secret_Locks.O (fun p => 100 + p) ρ w gk_9 ok_9) → (ref22_Locks.O (fun p => 200 + p) ρ w gj_11 oj_11) → KE Tryd.prog 6 (Ret (fun v w' => v = .bool r ∧ Below w0.heap.size w0 w')) 178 [.code (sub (bodyOf Tryd.f6) [2, 2, 2, 2, 2, 1, 2, 2, 1]), .inLoop (sub (bodyOf Tryd.f6) [2, 2, 2, 2, 2, 1, 2, 2, 1]), .inBlock 0, .code (sub (bodyOf Tryd.f6) [2, 2, 2, 2, 2, 2])] [(3, vl_3), (9, .pointer (some ⟨gk_9, 0, none⟩)), (11, .pointer (some ⟨gj_11, 0, none⟩)), (13, .int .i64 i_13)] w := by
 intro n
 induction n with
 | zero => intro r l_3 ok_9 oj_11 i_13 vl_3 gk_9 gj_11 hS; cases hS
 | succ n ih =>
  have hr0 : ∀ {r : Bool} {l_3 : List law22_Op} {ok_9 : secret_Locks} {oj_11 : ref22_Locks} {i_13 : Int} {vl_3 : Value} {gk_9 : Nat} {gj_11 : Nat}, law22_SecretLocks_L1 n l_3 ok_9 oj_11 i_13 = some r → ∀ {ρ : Tags} {w : World}, (Fr (flat1 ρA) w0 ρ w) → (SlR law22_Op.c (Wb ρ) w vl_3 l_3) → (secret_Locks.O (fun p => 100 + p) ρ w gk_9 ok_9) → (ref22_Locks.O (fun p => 200 + p) ρ w gj_11 oj_11) → KE Tryd.prog 6 (Ret (fun v w' => v = .bool r ∧ Below w0.heap.size w0 w')) 178 [.inLoop (sub (bodyOf Tryd.f6) [2, 2, 2, 2, 2, 1, 2, 2, 1]), .inBlock 0, .code (sub (bodyOf Tryd.f6) [2, 2, 2, 2, 2, 2])] [(3, vl_3), (9, .pointer (some ⟨gk_9, 0, none⟩)), (11, .pointer (some ⟨gj_11, 0, none⟩)), (13, .int .i64 i_13)] w := fun {r} {l_3} {ok_9} {oj_11} {i_13} {vl_3} {gk_9} {gj_11} hS {ρ} {w} hb hl_3 hok_9 hoj_11 => ke_inLoop (ih hS hb hl_3 hok_9 hoj_11)
  clear ih
  intro r l_3 ok_9 oj_11 i_13 vl_3 gk_9 gj_11 hS ρ w hb hl_3 hok_9 hoj_11
  unfold law22_SecretLocks_L1 at hS
  obtain ⟨v77, lp79, hB81, h78, hR80⟩ := hok_9
  replace hB81 : Blk ρ 100 w gk_9 (.cells #[.int .i64 ok_9.most, .int .i64 ok_9.window, .int .i64 ok_9.lock, v77] 67 (0, 0)) := hB81
  replace h78 : MapT str ptrC false ρ 101 w v77 lp79 := h78
  replace hR80 : Recs secret_record.O 2 ρ 102 w lp79 ok_9.users := hR80
  obtain ⟨v82, hB84, h83⟩ := hoj_11
  replace hB84 : Blk ρ 200 w gj_11 (.cells #[.bool oj_11.made, .int .i64 oj_11.most, .int .i64 oj_11.window, .int .i64 oj_11.lock, v82] 71 (0, 0)) := hB84
  replace h83 : OwnT ref22_record.c 79 ρ 201 w v82 oj_11.records := h83
  refine ke_seq ?_
  refine ke_seq ?_
  refine ke_region ?_
  refine sr_ev (v := .int .i64 i_13) (ev_move rfl) (by decide) ?_
  refine sr_ev (v := vl_3) (ev_move rfl) (by decide) ?_
  refine sr_ev (v := .int .i64 (l_3.length : Int)) (ev_sllenW Tryd.underlying37 rfl hl_3.asSl) (by decide) ?_
  refine sr_ev (v := .bool (decide (i_13 < (l_3.length : Int)))) (ev_lt rfl rfl) (by decide) ?_
  refine sr_end (l' := [(3, vl_3), (9, .pointer (some ⟨gk_9, 0, none⟩)), (11, .pointer (some ⟨gj_11, 0, none⟩)), (13, .int .i64 i_13), (61, .bool (decide (i_13 < (l_3.length : Int))))]) (.cons rfl (.cons rfl (.cons rfl (.cons rfl (.cons rfl (.nil _)))))) ?_
  refine ke_cond (t := decide (i_13 < (l_3.length : Int))) rfl (fun hc85 => ?_) (fun hc85 => ?_)
  ·replace hS := ite_true' hS hc85
   refine ke_skip ?_
   refine ke_seq ?_
   refine ke_block ?_
   refine ke_seq ?_
   refine ke_seq ?_
   refine ke_region ?_
   refine sr_ev (v := vl_3) (ev_move rfl) (by decide) ?_
   refine sr_ev (v := .int .i64 i_13) (ev_move rfl) (by decide) ?_
   obtain ⟨y86, hy87, hS⟩ := bind_some' hS
   obtain ⟨b88, o89, cs91, hq92, he90⟩ := ((SlT.of_sl (i := 0) hl_3)).elem (P := Tryd.prog) Tryd.underlying37 Tryd.info46 rfl hy87
   obtain rfl : cs91 = [.int .i64 y86.Call, .int .i64 y86.Now, str y86.User] := he90.rd
   refine sr_ev (v := .pointer (some ⟨b88, o89, none⟩)) (hq92 w rfl rfl) (by decide) ?_
   refine sr_ev (v := .pointer (some ⟨b88, o89 + 0, none⟩)) (ev_fieldAddr (i := 0) Tryd.underlying46 rfl Tryd.info3 rfl rfl) (by decide) ?_
   refine sr_ev (v := .int .i64 y86.Call) (ev_load Tryd.isAgg3 rfl (he90.cell 0 _ rfl)) (by decide) ?_
   refine sr_end (l' := [(3, vl_3), (9, .pointer (some ⟨gk_9, 0, none⟩)), (11, .pointer (some ⟨gj_11, 0, none⟩)), (13, .int .i64 i_13), (68, .int .i64 y86.Call)]) (.cons rfl (.cons rfl (.cons rfl (.cons rfl (.cons rfl (.nil _)))))) ?_
   refine ke_block ?_
   refine ke_seq ?_
   refine ke_region ?_
   refine sr_ev (v := .bool (y86.Call == 0)) (ev_eq rfl rfl) (by decide) ?_
   refine sr_ev (v := .bool (y86.Call == 0)) (ev_assign rfl) (by decide) ?_
   refine sr_end (l' := [(3, vl_3), (9, .pointer (some ⟨gk_9, 0, none⟩)), (11, .pointer (some ⟨gj_11, 0, none⟩)), (13, .int .i64 i_13), (68, .int .i64 y86.Call), (69, .bool (y86.Call == 0))]) (.cons rfl (.cons rfl (.cons rfl (.cons rfl (.cons rfl (.cons rfl (.nil _))))))) ?_
   refine ke_cond (t := y86.Call == 0) rfl (fun hc93 => ?_) (fun hc93 => ?_)
   ·replace hS := ite_true' hS hc93
    refine ke_seq ?_
    refine ke_region_j (ρ := ρ) (fun t => ([100, 101, 102] : List Nat).contains t) 12 Tryd.mixed (fun w95 hw94 => ?_)
    have htr96 := Tr.of_below hw94 hb.bd
    replace hl_3 := hl_3.mv htr96.rd
    replace hB81 := hB81.mv (htr96.mv (i := 100) rfl)
    replace h78 := h78.mv (htr96.mv (i := 101) rfl)
    replace hR80 := Recs.mv hR80 secret_record.objK (htr96.mv (i := 102) rfl) (by decide)
    replace hB84 := hB84.mv (htr96.mv (i := 200) rfl)
    replace h83 := h83.mv (htr96.mv (i := 201) rfl) (by decide)
    replace hb := hb.trans htr96
    refine dj_H 0 (v := .pointer (some ⟨gk_9, 0, none⟩)) (by kernel_rfl) (by kernel_rfl) rfl (fun _ _ _ h => h) (sj_refl hb.bd rfl rfl) (fun w1 ρ1 hw1 => ev_move rfl) (by decide) ?_
    refine dj_H 1 (v := vl_3) (by kernel_rfl) (by kernel_rfl) rfl (fun _ _ _ h => h) (sj_refl hb.bd rfl rfl) (fun w1 ρ1 hw1 => ev_move rfl) (by decide) ?_
    refine dj_H 2 (v := .int .i64 i_13) (by kernel_rfl) (by kernel_rfl) rfl (fun _ _ _ h => h) (sj_refl hb.bd rfl rfl) (fun w1 ρ1 hw1 => ev_move rfl) (by decide) ?_
    obtain ⟨y150, hy151, hS⟩ := bind_some' hS
    obtain ⟨b152, o153, cs155, hq156, he154⟩ := ((SlT.of_sl (i := 0) hl_3)).elem (P := Tryd.prog) Tryd.underlying37 Tryd.info46 rfl hy151
    obtain rfl : cs155 = [.int .i64 y150.Call, .int .i64 y150.Now, str y150.User] := he154.rd
    refine dj_H 3 (v := .pointer (some ⟨b152, o153, none⟩)) (by kernel_rfl) (by kernel_rfl) rfl (fun _ _ _ h => h) (sj_refl hb.bd rfl rfl) (fun w1 ρ1 hw1 => hq156 w1 rfl rfl) (by decide) ?_
    refine dj_H 4 (v := .pointer (some ⟨b152, o153 + 2, none⟩)) (by kernel_rfl) (by kernel_rfl) rfl (fun _ _ _ h => h) (sj_refl hb.bd rfl rfl) (fun w1 ρ1 hw1 => ev_fieldAddr (i := 2) Tryd.underlying46 rfl Tryd.info9 rfl rfl) (by decide) ?_
    refine dj_H 5 (v := str y150.User) (by kernel_rfl) (by kernel_rfl) rfl (fun _ _ _ h => h) (sj_refl hb.bd rfl rfl) (fun w1 ρ1 hw1 => ev_load Tryd.isAgg9 rfl ((he154.mv (hw1.mv (i := 0) rfl) (Nat.succ_pos _)).cell 2 _ rfl)) (by decide) ?_
    refine dj_H 6 (v := vl_3) (by kernel_rfl) (by kernel_rfl) rfl (fun _ _ _ h => h) (sj_refl hb.bd rfl rfl) (fun w1 ρ1 hw1 => ev_move rfl) (by decide) ?_
    refine dj_H 7 (v := .int .i64 i_13) (by kernel_rfl) (by kernel_rfl) rfl (fun _ _ _ h => h) (sj_refl hb.bd rfl rfl) (fun w1 ρ1 hw1 => ev_move rfl) (by decide) ?_
    obtain ⟨y157, hy158, hS⟩ := bind_some' hS
    obtain ⟨b159, o160, cs162, hq163, he161⟩ := ((SlT.of_sl (i := 0) hl_3)).elem (P := Tryd.prog) Tryd.underlying37 Tryd.info46 rfl hy158
    obtain rfl : cs162 = [.int .i64 y157.Call, .int .i64 y157.Now, str y157.User] := he161.rd
    refine dj_H 8 (v := .pointer (some ⟨b159, o160, none⟩)) (by kernel_rfl) (by kernel_rfl) rfl (fun _ _ _ h => h) (sj_refl hb.bd rfl rfl) (fun w1 ρ1 hw1 => hq163 w1 rfl rfl) (by decide) ?_
    refine dj_H 9 (v := .pointer (some ⟨b159, o160 + 1, none⟩)) (by kernel_rfl) (by kernel_rfl) rfl (fun _ _ _ h => h) (sj_refl hb.bd rfl rfl) (fun w1 ρ1 hw1 => ev_fieldAddr (i := 1) Tryd.underlying46 rfl Tryd.info3 rfl rfl) (by decide) ?_
    refine dj_H 10 (v := .int .i64 y157.Now) (by kernel_rfl) (by kernel_rfl) rfl (fun _ _ _ h => h) (sj_refl hb.bd rfl rfl) (fun w1 ρ1 hw1 => ev_load Tryd.isAgg3 rfl ((he161.mv (hw1.mv (i := 0) rfl) (Nat.succ_pos _)).cell 1 _ rfl)) (by decide) ?_
    refine dj_E 11 (by kernel_rfl) rfl ?_
    have jt164 : Tr ρ w95 (fun t => ([100, 101, 102] : List Nat).contains t) ρ w95 := (Tr.refl hb.bd).weak (fun _ _ => rfl) rfl rfl
    obtain ⟨y165, hy166, hS⟩ := bind_some' hS
    refine sr_call (vs := [.pointer (some ⟨gk_9, 0, none⟩), str y150.User, .int .i64 y157.Now]) rfl Tryd.call24 rfl (secret_Locks_Fail_ok _ (hg.fr hz hb) (ρA := ρ) hb.bd (hz.fr hg hb) (o := 100) (by decide) (⟨_, _, hB81, h78, hR80⟩ : secret_Locks.O (fun p => 100 + p) ρ w95 gk_9 ok_9) hy166) (by decide) ?_
    rintro _ w167 ⟨ρ175, rfl, ⟨v170, lp172, hB174, h171, hR173⟩, htr169⟩
    replace hl_3 := hl_3.mv htr169.rd
    replace hB84 := hB84.mv (htr169.mv (i := 200) rfl)
    replace h83 := h83.mv (htr169.mv (i := 201) rfl) (by decide)
    replace hb := hb.trans htr169
    replace jt164 := (jt164.trans htr169).weak (J' := (fun t => ([100, 101, 102] : List Nat).contains t)) (by intro t h; simp [rng] at h ⊢ <;> omega) rfl rfl
    replace hB174 : Blk ρ175 100 w167 gk_9 (.cells #[.int .i64 y165.most, .int .i64 y165.window, .int .i64 y165.lock, v170] 67 (0, 0)) := hB174
    replace h171 : MapT str ptrC false ρ175 101 w167 v170 lp172 := h171
    replace hR173 : Recs secret_record.O 2 ρ175 102 w167 lp172 y165.users := hR173
    refine dj_next (l' := [(3, vl_3), (9, .pointer (some ⟨gk_9, 0, none⟩)), (11, .pointer (some ⟨gj_11, 0, none⟩)), (13, .int .i64 i_13)]) rfl (.cons rfl (.cons rfl (.cons rfl (.cons rfl (.nil _))))) jt164 (by intro t h; simp [rng] at h ⊢ <;> omega) rfl rfl ?_
    refine dj_done rfl (by kernel_rfl) ?_
    refine ke_weaken (l' := [(3, vl_3), (9, .pointer (some ⟨gk_9, 0, none⟩)), (11, .pointer (some ⟨gj_11, 0, none⟩)), (13, .int .i64 i_13)]) (.cons rfl (.cons rfl (.cons rfl (.cons rfl (.nil _))))) ?_
    refine ke_region_j (ρ := ρ175) (fun t => ([200, 201] : List Nat).contains t) 12 Tryd.mixed (fun w177 hw176 => ?_)
    have htr178 := Tr.of_below hw176 hb.bd
    replace hl_3 := hl_3.mv htr178.rd
    replace hB174 := hB174.mv (htr178.mv (i := 100) rfl)
    replace h171 := h171.mv (htr178.mv (i := 101) rfl)
    replace hR173 := Recs.mv hR173 secret_record.objK (htr178.mv (i := 102) rfl) (by decide)
    replace hB84 := hB84.mv (htr178.mv (i := 200) rfl)
    replace h83 := h83.mv (htr178.mv (i := 201) rfl) (by decide)
    replace hb := hb.trans htr178
    refine dj_H 0 (v := .pointer (some ⟨gj_11, 0, none⟩)) (by kernel_rfl) (by kernel_rfl) rfl (fun _ _ _ h => h) (sj_refl hb.bd rfl rfl) (fun w1 ρ1 hw1 => ev_move rfl) (by decide) ?_
    refine dj_H 1 (v := vl_3) (by kernel_rfl) (by kernel_rfl) rfl (fun _ _ _ h => h) (sj_refl hb.bd rfl rfl) (fun w1 ρ1 hw1 => ev_move rfl) (by decide) ?_
    refine dj_H 2 (v := .int .i64 i_13) (by kernel_rfl) (by kernel_rfl) rfl (fun _ _ _ h => h) (sj_refl hb.bd rfl rfl) (fun w1 ρ1 hw1 => ev_move rfl) (by decide) ?_
    obtain ⟨y228, hy229, hS⟩ := bind_some' hS
    obtain ⟨b230, o231, cs233, hq234, he232⟩ := ((SlT.of_sl (i := 0) hl_3)).elem (P := Tryd.prog) Tryd.underlying37 Tryd.info46 rfl hy229
    obtain rfl : cs233 = [.int .i64 y228.Call, .int .i64 y228.Now, str y228.User] := he232.rd
    refine dj_H 3 (v := .pointer (some ⟨b230, o231, none⟩)) (by kernel_rfl) (by kernel_rfl) rfl (fun _ _ _ h => h) (sj_refl hb.bd rfl rfl) (fun w1 ρ1 hw1 => hq234 w1 rfl rfl) (by decide) ?_
    refine dj_H 4 (v := .pointer (some ⟨b230, o231 + 2, none⟩)) (by kernel_rfl) (by kernel_rfl) rfl (fun _ _ _ h => h) (sj_refl hb.bd rfl rfl) (fun w1 ρ1 hw1 => ev_fieldAddr (i := 2) Tryd.underlying46 rfl Tryd.info9 rfl rfl) (by decide) ?_
    refine dj_H 5 (v := str y228.User) (by kernel_rfl) (by kernel_rfl) rfl (fun _ _ _ h => h) (sj_refl hb.bd rfl rfl) (fun w1 ρ1 hw1 => ev_load Tryd.isAgg9 rfl ((he232.mv (hw1.mv (i := 0) rfl) (Nat.succ_pos _)).cell 2 _ rfl)) (by decide) ?_
    refine dj_H 6 (v := vl_3) (by kernel_rfl) (by kernel_rfl) rfl (fun _ _ _ h => h) (sj_refl hb.bd rfl rfl) (fun w1 ρ1 hw1 => ev_move rfl) (by decide) ?_
    refine dj_H 7 (v := .int .i64 i_13) (by kernel_rfl) (by kernel_rfl) rfl (fun _ _ _ h => h) (sj_refl hb.bd rfl rfl) (fun w1 ρ1 hw1 => ev_move rfl) (by decide) ?_
    obtain ⟨y235, hy236, hS⟩ := bind_some' hS
    obtain ⟨b237, o238, cs240, hq241, he239⟩ := ((SlT.of_sl (i := 0) hl_3)).elem (P := Tryd.prog) Tryd.underlying37 Tryd.info46 rfl hy236
    obtain rfl : cs240 = [.int .i64 y235.Call, .int .i64 y235.Now, str y235.User] := he239.rd
    refine dj_H 8 (v := .pointer (some ⟨b237, o238, none⟩)) (by kernel_rfl) (by kernel_rfl) rfl (fun _ _ _ h => h) (sj_refl hb.bd rfl rfl) (fun w1 ρ1 hw1 => hq241 w1 rfl rfl) (by decide) ?_
    refine dj_H 9 (v := .pointer (some ⟨b237, o238 + 1, none⟩)) (by kernel_rfl) (by kernel_rfl) rfl (fun _ _ _ h => h) (sj_refl hb.bd rfl rfl) (fun w1 ρ1 hw1 => ev_fieldAddr (i := 1) Tryd.underlying46 rfl Tryd.info3 rfl rfl) (by decide) ?_
    refine dj_H 10 (v := .int .i64 y235.Now) (by kernel_rfl) (by kernel_rfl) rfl (fun _ _ _ h => h) (sj_refl hb.bd rfl rfl) (fun w1 ρ1 hw1 => ev_load Tryd.isAgg3 rfl ((he239.mv (hw1.mv (i := 0) rfl) (Nat.succ_pos _)).cell 1 _ rfl)) (by decide) ?_
    refine dj_E 11 (by kernel_rfl) rfl ?_
    have jt242 : Tr ρ175 w177 (fun t => ([200, 201] : List Nat).contains t) ρ175 w177 := (Tr.refl hb.bd).weak (fun _ _ => rfl) rfl rfl
    obtain ⟨y243, hy244, hS⟩ := bind_some' hS
    refine sr_call (vs := [.pointer (some ⟨gj_11, 0, none⟩), str y228.User, .int .i64 y235.Now]) rfl Tryd.call25 rfl (ref22_Locks_Fail_ok _ (hg.fr hz hb) (ρA := ρ175) hb.bd (hz.fr hg hb) (o := 200) (by decide) (⟨_, hB84, h83⟩ : ref22_Locks.O (fun p => 200 + p) ρ175 w177 gj_11 oj_11) hy244) (by decide) ?_
    rintro _ w245 ⟨ρ251, rfl, ⟨v248, hB250, h249⟩, htr247⟩
    replace hl_3 := hl_3.mv htr247.rd
    replace hB174 := hB174.mv (htr247.mv (i := 100) rfl)
    replace h171 := h171.mv (htr247.mv (i := 101) rfl)
    replace hR173 := Recs.mv hR173 secret_record.objK (htr247.mv (i := 102) rfl) (by decide)
    replace hb := hb.trans htr247
    replace jt242 := (jt242.trans htr247).weak (J' := (fun t => ([200, 201] : List Nat).contains t)) (by intro t h; simp [rng] at h ⊢ <;> omega) rfl rfl
    replace hB250 : Blk ρ251 200 w245 gj_11 (.cells #[.bool y243.made, .int .i64 y243.most, .int .i64 y243.window, .int .i64 y243.lock, v248] 71 (0, 0)) := hB250
    replace h249 : OwnT ref22_record.c 79 ρ251 201 w245 v248 y243.records := h249
    refine dj_next (l' := [(3, vl_3), (9, .pointer (some ⟨gk_9, 0, none⟩)), (11, .pointer (some ⟨gj_11, 0, none⟩)), (13, .int .i64 i_13)]) rfl (.cons rfl (.cons rfl (.cons rfl (.cons rfl (.nil _))))) jt242 (by intro t h; simp [rng] at h ⊢ <;> omega) rfl rfl ?_
    refine dj_done rfl (by kernel_rfl) ?_
    refine ke_weaken (l' := [(3, vl_3), (9, .pointer (some ⟨gk_9, 0, none⟩)), (11, .pointer (some ⟨gj_11, 0, none⟩)), (13, .int .i64 i_13)]) (.cons rfl (.cons rfl (.cons rfl (.cons rfl (.nil _))))) ?_
    have hK := law22_SecretLocks_B2_ok hg hbd hz _ hr0 hS hb hl_3 ⟨_, _, hB174, h171, hR173⟩ ⟨_, hB250, h249⟩
    exact ke_weaken (l' := [(3, vl_3), (9, .pointer (some ⟨gk_9, 0, none⟩)), (11, .pointer (some ⟨gj_11, 0, none⟩)), (13, .int .i64 i_13)]) (.cons rfl (.cons rfl (.cons rfl (.cons rfl (.nil _))))) hK
   ·replace hS := ite_false' hS hc93
    refine ke_seq ?_
    refine ke_region ?_
    refine sr_ev (v := .bool (y86.Call == 1)) (ev_eq rfl rfl) (by decide) ?_
    refine sr_ev (v := .bool (y86.Call == 1)) (ev_assign rfl) (by decide) ?_
    refine sr_end (l' := [(3, vl_3), (9, .pointer (some ⟨gk_9, 0, none⟩)), (11, .pointer (some ⟨gj_11, 0, none⟩)), (13, .int .i64 i_13), (95, .bool (y86.Call == 1))]) (.cons rfl (.cons rfl (.cons rfl (.cons rfl (.cons rfl (.nil _)))))) ?_
    refine ke_cond (t := y86.Call == 1) rfl (fun hc347 => ?_) (fun hc347 => ?_)
    ·replace hS := ite_true' hS hc347
     refine ke_seq ?_
     refine ke_region ?_
     refine sr_ev (v := .pointer (some ⟨gk_9, 0, none⟩)) (ev_move rfl) (by decide) ?_
     refine sr_ev (v := vl_3) (ev_move rfl) (by decide) ?_
     refine sr_ev (v := .int .i64 i_13) (ev_move rfl) (by decide) ?_
     obtain ⟨y348, hy349, hS⟩ := bind_some' hS
     obtain ⟨b350, o351, cs353, hq354, he352⟩ := ((SlT.of_sl (i := 0) hl_3)).elem (P := Tryd.prog) Tryd.underlying37 Tryd.info46 rfl hy349
     obtain rfl : cs353 = [.int .i64 y348.Call, .int .i64 y348.Now, str y348.User] := he352.rd
     refine sr_ev (v := .pointer (some ⟨b350, o351, none⟩)) (hq354 w rfl rfl) (by decide) ?_
     refine sr_ev (v := .pointer (some ⟨b350, o351 + 2, none⟩)) (ev_fieldAddr (i := 2) Tryd.underlying46 rfl Tryd.info9 rfl rfl) (by decide) ?_
     refine sr_ev (v := str y348.User) (ev_load Tryd.isAgg9 rfl (he352.cell 2 _ rfl)) (by decide) ?_
     obtain ⟨y355, hy356, hS⟩ := bind_some' hS
     refine sr_call (vs := [.pointer (some ⟨gk_9, 0, none⟩), str y348.User]) rfl Tryd.call26 rfl (secret_Locks_Clear_ok _ (hg.fr hz hb) (ρA := ρ) hb.bd (hz.fr hg hb) (o := 100) (by decide) (⟨_, _, hB81, h78, hR80⟩ : secret_Locks.O (fun p => 100 + p) ρ w gk_9 ok_9) hy356) (by decide) ?_
     rintro _ w357 ⟨ρ365, rfl, ⟨v360, lp362, hB364, h361, hR363⟩, htr359⟩
     replace hl_3 := hl_3.mv htr359.rd
     replace hB84 := hB84.mv (htr359.mv (i := 200) rfl)
     replace h83 := h83.mv (htr359.mv (i := 201) rfl) (by decide)
     replace hb := hb.trans htr359
     replace hB364 : Blk ρ365 100 w357 gk_9 (.cells #[.int .i64 y355.most, .int .i64 y355.window, .int .i64 y355.lock, v360] 67 (0, 0)) := hB364
     replace h361 : MapT str ptrC false ρ365 101 w357 v360 lp362 := h361
     replace hR363 : Recs secret_record.O 2 ρ365 102 w357 lp362 y355.users := hR363
     refine sr_end (l' := [(3, vl_3), (9, .pointer (some ⟨gk_9, 0, none⟩)), (11, .pointer (some ⟨gj_11, 0, none⟩)), (13, .int .i64 i_13)]) (.cons rfl (.cons rfl (.cons rfl (.cons rfl (.nil _))))) ?_
     refine ke_region ?_
     refine sr_ev (v := .pointer (some ⟨gj_11, 0, none⟩)) (ev_move rfl) (by decide) ?_
     refine sr_ev (v := vl_3) (ev_move rfl) (by decide) ?_
     refine sr_ev (v := .int .i64 i_13) (ev_move rfl) (by decide) ?_
     obtain ⟨y366, hy367, hS⟩ := bind_some' hS
     obtain ⟨b368, o369, cs371, hq372, he370⟩ := ((SlT.of_sl (i := 0) hl_3)).elem (P := Tryd.prog) Tryd.underlying37 Tryd.info46 rfl hy367
     obtain rfl : cs371 = [.int .i64 y366.Call, .int .i64 y366.Now, str y366.User] := he370.rd
     refine sr_ev (v := .pointer (some ⟨b368, o369, none⟩)) (hq372 w357 rfl rfl) (by decide) ?_
     refine sr_ev (v := .pointer (some ⟨b368, o369 + 2, none⟩)) (ev_fieldAddr (i := 2) Tryd.underlying46 rfl Tryd.info9 rfl rfl) (by decide) ?_
     refine sr_ev (v := str y366.User) (ev_load Tryd.isAgg9 rfl (he370.cell 2 _ rfl)) (by decide) ?_
     obtain ⟨y373, hy374, hS⟩ := bind_some' hS
     refine sr_call (vs := [.pointer (some ⟨gj_11, 0, none⟩), str y366.User]) rfl Tryd.call27 rfl (ref22_Locks_Clear_ok _ (hg.fr hz hb) (ρA := ρ365) hb.bd (hz.fr hg hb) (o := 200) (by decide) (⟨_, hB84, h83⟩ : ref22_Locks.O (fun p => 200 + p) ρ365 w357 gj_11 oj_11) hy374) (by decide) ?_
     rintro _ w375 ⟨ρ381, rfl, ⟨v378, hB380, h379⟩, htr377⟩
     replace hl_3 := hl_3.mv htr377.rd
     replace hB364 := hB364.mv (htr377.mv (i := 100) rfl)
     replace h361 := h361.mv (htr377.mv (i := 101) rfl)
     replace hR363 := Recs.mv hR363 secret_record.objK (htr377.mv (i := 102) rfl) (by decide)
     replace hb := hb.trans htr377
     replace hB380 : Blk ρ381 200 w375 gj_11 (.cells #[.bool y373.made, .int .i64 y373.most, .int .i64 y373.window, .int .i64 y373.lock, v378] 71 (0, 0)) := hB380
     replace h379 : OwnT ref22_record.c 79 ρ381 201 w375 v378 y373.records := h379
     refine sr_end (l' := [(3, vl_3), (9, .pointer (some ⟨gk_9, 0, none⟩)), (11, .pointer (some ⟨gj_11, 0, none⟩)), (13, .int .i64 i_13)]) (.cons rfl (.cons rfl (.cons rfl (.cons rfl (.nil _))))) ?_
     have hK := law22_SecretLocks_B2_ok hg hbd hz _ hr0 hS hb hl_3 ⟨_, _, hB364, h361, hR363⟩ ⟨_, hB380, h379⟩
     exact ke_weaken (l' := [(3, vl_3), (9, .pointer (some ⟨gk_9, 0, none⟩)), (11, .pointer (some ⟨gj_11, 0, none⟩)), (13, .int .i64 i_13)]) (.cons rfl (.cons rfl (.cons rfl (.cons rfl (.nil _))))) hK
    ·replace hS := ite_false' hS hc347
     refine ke_skip ?_
     have hK := law22_SecretLocks_B2_ok hg hbd hz _ hr0 hS hb hl_3 ⟨_, _, hB81, h78, hR80⟩ ⟨_, hB84, h83⟩
     exact ke_weaken (l' := [(3, vl_3), (9, .pointer (some ⟨gk_9, 0, none⟩)), (11, .pointer (some ⟨gj_11, 0, none⟩)), (13, .int .i64 i_13)]) (.cons rfl (.cons rfl (.cons rfl (.cons rfl (.nil _))))) hK
  ·replace hS := ite_false' hS hc85
   refine ke_exit (k' := _) rfl ?_
   refine ke_seq ?_
   refine ke_region ?_
   refine sr_ev (v := .pointer none) (ev_assign rfl) (by decide) ?_
   refine sr_end (l' := [(14, .pointer none)]) (.cons rfl (.nil _)) ?_
   refine ke_seq ?_
   refine ke_region ?_
   refine sr_ev (v := .pointer none) (ev_move rfl) (by decide) ?_
   obtain ⟨y382, hy383, hS⟩ := bind_some' hS
   refine sr_call (vs := [.pointer none, str ([97, 110, 110]), .int .i64 1]) rfl Tryd.call24 rfl (secret_Locks_Fail__nil_ok _ (hg.fr hz hb) (ρA := ρ) hb.bd (hz.fr hg hb) hy383) (by decide) ?_
   rintro _ w384 ⟨rfl, hbw385⟩
   have htr386 := Tr.of_below hbw385 hb.bd
   replace hb := hb.trans htr386
   refine sr_end (l' := [(14, .pointer none)]) (.cons rfl (.nil _)) ?_
   refine ke_seq ?_
   refine ke_region ?_
   refine sr_ev (v := .pointer none) (ev_move rfl) (by decide) ?_
   obtain ⟨y387, hy388, hS⟩ := bind_some' hS
   refine sr_call (vs := [.pointer none, str ([97, 110, 110])]) rfl Tryd.call26 rfl (secret_Locks_Clear__nil_ok _ (hg.fr hz hb) (ρA := ρ) hb.bd (hz.fr hg hb) hy388) (by decide) ?_
   rintro _ w389 ⟨rfl, hbw390⟩
   have htr391 := Tr.of_below hbw390 hb.bd
   replace hb := hb.trans htr391
   refine sr_end (l' := [(14, .pointer none)]) (.cons rfl (.nil _)) ?_
   refine ke_seq ?_
   refine ke_region ?_
   refine sr_ev (v := .pointer none) (ev_move rfl) (by decide) ?_
   obtain ⟨y392, hy393, hS⟩ := bind_some' hS
   obtain rfl : y392 = false := (Option.some.inj hy393).symm
   refine sr_call (vs := [.pointer none, str ([97, 110, 110]), .int .i64 1]) rfl Tryd.call28 rfl (secret_Locks_Locked__nil_ok _ (hg.fr hz hb) (ρA := ρ) hb.bd (hz.fr hg hb) hy393) (by decide) ?_
   rintro _ w394 ⟨rfl, hbw395⟩
   have htr396 := Tr.of_below hbw395 hb.bd
   replace hb := hb.trans htr396
   refine sr_ev (v := .bool true) (ev_notc rfl rfl) (by decide) ?_
   refine sr_ev (v := .bool true) (ev_move rfl) (by decide) ?_
   refine sr_evg (b := true) (e := 170) rfl rfl rfl (v := .pointer none) (ev_move rfl) (by decide) ?_
   obtain ⟨y397, hy398, hS⟩ := bind_some' hS
   refine sr_callg (b := true) (e := 170) rfl rfl rfl (vs := [.pointer none, str ([97, 110, 110]), .int .i64 1]) rfl Tryd.call30 rfl (secret_Locks_Failures__nil_ok _ (hg.fr hz hb) (ρA := ρ) hb.bd (hz.fr hg hb) hy398) (by decide) ?_
   rintro _ w399 ⟨rfl, hbw400⟩
   have htr401 := Tr.of_below hbw400 hb.bd
   replace hb := hb.trans htr401
   refine sr_evg (b := true) (e := 170) rfl rfl rfl (v := .bool (y397 == 0)) (ev_eq rfl rfl) (by decide) ?_
   refine sr_ev (v := .bool (y397 == 0)) (ev_pick_t rfl rfl rfl) (by decide) ?_
   refine sr_ev (v := .bool (y397 == 0)) (ev_move rfl) (by decide) ?_
   obtain ⟨z404, hz406, hS⟩ := bind_some' hS
   refine sr_join (m := 2) (C := fun (z : Bool) w1 => z404 = z ∧ ∃ ρ1, Tr ρ w399 (fun _ => false) ρ1 w1) (l' := fun z => [(177, .bool z)]) ?_ ?_
   ·rintro _ w407 ⟨rfl, ρ408, hj405⟩
    replace hb := hb.trans hj405
    refine sr_ev (v := .bool z404) (ev_assign rfl) (by decide) ?_
    refine sr_end (l' := [(8, .bool z404)]) (.cons rfl (.nil _)) ?_
    cases hS
    exact ke_ret1 Tryd.func6 rfl rfl ⟨_, rfl, rfl, (hb.below (flat1_le _))⟩
   ·intro K403
    clear hS
    have hj405 : Tr ρ w399 (fun _ => false) ρ w399 := (Tr.refl hb.bd).weak (fun _ _ => rfl) rfl rfl
    rcases Bool.eq_false_or_eq_true (y397 == 0) with hg402 | hg402
    ·have hS := ite_true' hz406 hg402
     obtain ⟨y410, hy411, hS⟩ := bind_some' hS
     refine sr_callg (b := true) (e := 175) rfl rfl hg402 (vs := []) rfl Tryd.call9 rfl (law22_awake_ok _ (hg.fr hz hb) (ρA := ρ) hb.bd (hz.fr hg hb) hy411) (by decide) ?_
     rintro _ w412 ⟨rfl, hbw413⟩
     have htr414 := Tr.of_below hbw413 hb.bd
     replace hb := hb.trans htr414
     replace hj405 := (hj405.trans htr414).weak (J' := (fun _ => false)) (by intro t h; simp [rng] at h ⊢ <;> omega) rfl rfl
     refine sr_ev (v := .bool y410) (ev_pick_t rfl hg402 rfl) (by decide) ?_
     exact sr_weaken (l' := [(177, .bool y410)]) (.cons rfl (.nil _)) (K403 y410 _ ⟨(Option.some.inj hS).symm, _, hj405⟩)
    ·have hS := ite_false' hz406 hg402
     refine sr_pass (e := 175) rfl rfl (by rw [hg402]; rfl) (by decide) ?_
     refine sr_ev (v := .bool false) (ev_pick_f rfl hg402 rfl) (by decide) ?_
     exact sr_weaken (l' := [(177, .bool false)]) (.cons rfl (.nil _)) (K403 false _ ⟨(Option.some.inj hS).symm, _, hj405⟩)
theorem law22_SecretLocks_ok (w0 : World) (hg : Gs w0) {ρA : Tags} (hbd : ∀ b, ρA b ≠ 0 → b < w0.heap.size) (hz : Gz ρA) {most_0 : Int} {window_1 : Int} {lock_2 : Int} {l_3 : List law22_Op} {v1 : Value} {r : Bool} (h2 : SlR law22_Op.c (Wb ρA) w0 v1 l_3) (hS : law22_SecretLocks most_0 window_1 lock_2 l_3 = some r) :
  Calls Tryd.prog 6 #[.int .i64 most_0, .int .i64 window_1, .int .i64 lock_2, v1] w0 (Ret (fun v w' => v = .bool r ∧ Below w0.heap.size w0 w')) := by
 unfold law22_SecretLocks at hS
 have hb := flat1_fr (ρ := ρA) (w := w0) hbd
 have hz := hz.flat1
 replace h2 := SlR.mv h2 flat1_rd
 refine calls_of_ke Tryd.func6 rfl (n := 178) rfl rfl (l := [(0, .int .i64 most_0), (1, .int .i64 window_1), (2, .int .i64 lock_2), (3, v1)]) rfl ?_
 refine ke_seq ?_
 refine ke_region ?_
 refine sr_ev (v := .bool false) (ev_assign rfl) (by decide) ?_
 refine sr_end (l' := [(0, .int .i64 most_0), (1, .int .i64 window_1), (2, .int .i64 lock_2), (3, v1)]) (.cons rfl (.cons rfl (.cons rfl (.cons rfl (.nil _))))) ?_
 refine ke_seq ?_
 refine ke_seq ?_
 refine ke_region ?_
 refine sr_ev (v := v1) (ev_move rfl) (by decide) ?_
 obtain ⟨y3, hy4, hS⟩ := bind_some' hS
 refine sr_call (vs := [v1]) rfl Tryd.call21 rfl (law22_light_ok _ (hg.fr hz hb) h2.asSl hy4) (by decide) ?_
 rintro _ w5 ⟨rfl, hbw6⟩
 have htr7 := Tr.of_below hbw6 hb.bd
 replace h2 := h2.mv htr7.rd
 replace hb := hb.trans htr7
 refine sr_ev (v := .bool (!y3)) (ev_not rfl) (by decide) ?_
 refine sr_end (l' := [(0, .int .i64 most_0), (1, .int .i64 window_1), (2, .int .i64 lock_2), (3, v1), (17, .bool (!y3))]) (.cons rfl (.cons rfl (.cons rfl (.cons rfl (.cons rfl (.nil _)))))) ?_
 refine ke_cond (t := !y3) rfl (fun hc8 => ?_) (fun hc8 => ?_)
 ·replace hS := ite_true' hS hc8
  refine ke_seq ?_
  refine ke_region ?_
  obtain ⟨y9, hy10, hS⟩ := bind_some' hS
  refine sr_call (vs := []) rfl Tryd.call9 rfl (law22_awake_ok _ (hg.fr hz hb) (ρA := (flat1 ρA)) hb.bd (hz.fr hg hb) hy10) (by decide) ?_
  rintro _ w11 ⟨rfl, hbw12⟩
  have htr13 := Tr.of_below hbw12 hb.bd
  replace hb := hb.trans htr13
  refine sr_ev (v := .bool y9) (ev_assign rfl) (by decide) ?_
  refine sr_end (l' := [(8, .bool y9)]) (.cons rfl (.nil _)) ?_
  cases hS
  exact ke_ret1 Tryd.func6 rfl rfl ⟨_, rfl, rfl, (hb.below (flat1_le _))⟩
 ·replace hS := ite_false' hS hc8
  refine ke_skip ?_
  refine ke_seq ?_
  refine ke_region ?_
  refine sr_ev (v := .int .i64 most_0) (ev_move rfl) (by decide) ?_
  refine sr_ev (v := .int .i64 window_1) (ev_move rfl) (by decide) ?_
  refine sr_ev (v := .int .i64 lock_2) (ev_move rfl) (by decide) ?_
  obtain ⟨y14, hy15, hS⟩ := bind_some' hS
  refine sr_call (vs := [.int .i64 most_0, .int .i64 window_1, .int .i64 lock_2]) rfl Tryd.call22 rfl (secret_NewLocks_ok _ (hg.fr hz hb) (ρA := (flat1 ρA)) hb.bd (hz.fr hg hb) (o := 100) (by decide) hy15) (by decide) ?_
  rintro _ w16 ⟨ρ21, v19, rfl, hP20, htr18⟩
  replace h2 := h2.mv htr18.rd
  replace hb := hb.trans htr18
  rcases ho23 : y14.1 with _ | z22
  ·replace hS := optC_none hS ho23
   obtain rfl := hP20.none_ ho23
   refine sr_ev (v := .tuple #[.pointer none, .int .i64 y14.2]) (ev_move rfl) (by decide) ?_
   refine sr_ev (v := .pointer none) (ev_extract rfl rfl) (by decide) ?_
   refine sr_ev (v := .int .i64 y14.2) (ev_extract rfl rfl) (by decide) ?_
   refine sr_ev (v := .pointer none) (ev_assign rfl) (by decide) ?_
   refine sr_ev (v := .int .i64 y14.2) (ev_assign rfl) (by decide) ?_
   refine sr_end (l' := [(0, .int .i64 most_0), (1, .int .i64 window_1), (2, .int .i64 lock_2), (3, v1), (9, .pointer none), (10, .int .i64 y14.2)]) (.cons rfl (.cons rfl (.cons rfl (.cons rfl (.cons rfl (.cons rfl (.nil _))))))) ?_
   refine ke_seq ?_
   refine ke_region ?_
   refine sr_ev (v := .int .i64 most_0) (ev_move rfl) (by decide) ?_
   refine sr_ev (v := .int .i64 window_1) (ev_move rfl) (by decide) ?_
   refine sr_ev (v := .int .i64 lock_2) (ev_move rfl) (by decide) ?_
   obtain ⟨y448, hy449, hS⟩ := bind_some' hS
   refine sr_call (vs := [.int .i64 most_0, .int .i64 window_1, .int .i64 lock_2]) rfl Tryd.call23 rfl (ref22_NewLocks_ok _ (hg.fr hz hb) (ρA := ρ21) hb.bd (hz.fr hg hb) (o := 100) (by decide) hy449) (by decide) ?_
   rintro _ w450 ⟨ρ455, v453, rfl, hP454, htr452⟩
   replace h2 := h2.mv htr452.rd
   replace hb := hb.trans htr452
   rcases ho457 : y448.1 with _ | z456
   ·replace hS := optC_none hS ho457
    obtain rfl := hP454.none_ ho457
    refine sr_ev (v := .tuple #[.pointer none, .int .i64 y448.2]) (ev_move rfl) (by decide) ?_
    refine sr_ev (v := .pointer none) (ev_extract rfl rfl) (by decide) ?_
    refine sr_ev (v := .int .i64 y448.2) (ev_extract rfl rfl) (by decide) ?_
    refine sr_ev (v := .pointer none) (ev_assign rfl) (by decide) ?_
    refine sr_ev (v := .int .i64 y448.2) (ev_assign rfl) (by decide) ?_
    refine sr_end (l' := [(3, v1), (9, .pointer none), (10, .int .i64 y14.2), (11, .pointer none), (12, .int .i64 y448.2)]) (.cons rfl (.cons rfl (.cons rfl (.cons rfl (.cons rfl (.nil _)))))) ?_
    refine ke_seq ?_
    refine ke_seq ?_
    refine ke_region ?_
    refine sr_ev (v := .int .i64 y14.2) (ev_move rfl) (by decide) ?_
    refine sr_ev (v := .int .i64 y448.2) (ev_move rfl) (by decide) ?_
    refine sr_ev (v := .bool (y14.2 != y448.2)) (ev_ne rfl rfl) (by decide) ?_
    refine sr_ev (v := .bool (y14.2 != y448.2)) (ev_move rfl) (by decide) ?_
    refine sr_join (m := 3) (C := fun (x : Bool) w1 => x = ((y14.2 != y448.2) || (y14.2 != 0)) ∧ w450 = w1) (l' := fun x => [(3, v1), (9, .pointer none), (10, .int .i64 y14.2), (11, .pointer none), (12, .int .i64 y448.2), (39, .bool x)]) ?_ ?_
    ·rintro _ _ ⟨rfl, rfl⟩
     refine sr_ev (v := .bool ((y14.2 != y448.2) || (y14.2 != 0))) (ev_move rfl) (by decide) ?_
     refine sr_join (m := 3) (C := fun (x : Bool) w1 => x = (true) ∧ w450 = w1) (l' := fun x => [(3, v1), (9, .pointer none), (10, .int .i64 y14.2), (11, .pointer none), (12, .int .i64 y448.2), (43, .bool x)]) ?_ ?_
     ·rintro _ _ ⟨rfl, rfl⟩
      refine sr_end (l' := [(3, v1), (9, .pointer none), (10, .int .i64 y14.2), (11, .pointer none), (12, .int .i64 y448.2), (43, .bool true)]) (.cons rfl (.cons rfl (.cons rfl (.cons rfl (.cons rfl (.cons rfl (.nil _))))))) ?_
      refine ke_cond (t := true) rfl (fun _ => ?_) (fun h => by cases h)
      refine ke_seq ?_
      refine ke_region ?_
      refine sr_ev (v := .int .i64 y14.2) (ev_move rfl) (by decide) ?_
      refine sr_ev (v := .int .i64 y448.2) (ev_move rfl) (by decide) ?_
      refine sr_ev (v := .bool (y14.2 == y448.2)) (ev_eq rfl rfl) (by decide) ?_
      refine sr_ev (v := .bool (y14.2 == y448.2)) (ev_move rfl) (by decide) ?_
      refine sr_join (m := 3) (C := fun (x : Bool) w1 => x = ((y14.2 == y448.2) && (y14.2 != 0)) ∧ w450 = w1) (l' := fun x => [(9, .pointer none), (50, .bool x)]) ?_ ?_
      ·rintro _ _ ⟨rfl, rfl⟩
       refine sr_ev (v := .bool ((y14.2 == y448.2) && (y14.2 != 0))) (ev_move rfl) (by decide) ?_
       refine sr_join (m := 3) (C := fun (x : Bool) w1 => x = (((y14.2 == y448.2) && (y14.2 != 0)) && true) ∧ w450 = w1) (l' := fun x => [(54, .bool x)]) ?_ ?_
       ·rintro _ _ ⟨rfl, rfl⟩
        refine sr_ev (v := .bool (((y14.2 == y448.2) && (y14.2 != 0)) && true)) (ev_move rfl) (by decide) ?_
        obtain ⟨z541, hz543, hS⟩ := bind_some' hS
        refine sr_join (m := 2) (C := fun (z : Bool) w1 => z541 = z ∧ ∃ ρ1, Tr ρ455 w450 (fun _ => false) ρ1 w1) (l' := fun z => [(57, .bool z)]) ?_ ?_
        ·rintro _ w544 ⟨rfl, ρ545, hj542⟩
         replace hb := hb.trans hj542
         refine sr_ev (v := .bool z541) (ev_assign rfl) (by decide) ?_
         refine sr_end (l' := [(8, .bool z541)]) (.cons rfl (.nil _)) ?_
         cases hS
         exact ke_ret1 Tryd.func6 rfl rfl ⟨_, rfl, rfl, (hb.below (flat1_le _))⟩
        ·intro K540
         clear hS
         have hj542 : Tr ρ455 w450 (fun _ => false) ρ455 w450 := (Tr.refl hb.bd).weak (fun _ _ => rfl) rfl rfl
         rcases Bool.eq_false_or_eq_true (((y14.2 == y448.2) && (y14.2 != 0)) && true) with hg539 | hg539
         ·have hS := ite_true' hz543 hg539
          obtain ⟨y547, hy548, hS⟩ := bind_some' hS
          refine sr_callg (b := true) (e := 55) rfl rfl hg539 (vs := []) rfl Tryd.call9 rfl (law22_awake_ok _ (hg.fr hz hb) (ρA := ρ455) hb.bd (hz.fr hg hb) hy548) (by decide) ?_
          rintro _ w549 ⟨rfl, hbw550⟩
          have htr551 := Tr.of_below hbw550 hb.bd
          replace hb := hb.trans htr551
          replace hj542 := (hj542.trans htr551).weak (J' := (fun _ => false)) (by intro t h; simp [rng] at h ⊢ <;> omega) rfl rfl
          refine sr_ev (v := .bool y547) (ev_pick_t rfl hg539 rfl) (by decide) ?_
          exact sr_weaken (l' := [(57, .bool y547)]) (.cons rfl (.nil _)) (K540 y547 _ ⟨(Option.some.inj hS).symm, _, hj542⟩)
         ·have hS := ite_false' hz543 hg539
          refine sr_pass (e := 55) rfl rfl (by rw [hg539]; rfl) (by decide) ?_
          refine sr_ev (v := .bool false) (ev_pick_f rfl hg539 rfl) (by decide) ?_
          exact sr_weaken (l' := [(57, .bool false)]) (.cons rfl (.nil _)) (K540 false _ ⟨(Option.some.inj hS).symm, _, hj542⟩)
       ·intro K532
        rcases Bool.eq_false_or_eq_true ((y14.2 == y448.2) && (y14.2 != 0)) with hg531 | hg531
        all_goals try have hj534 : Tr ρ455 w450 (fun _ => false) ρ455 w450 := Tr.refl hb.bd
        ·refine sr_evg (b := true) (e := 51) rfl rfl hg531 (v := .pointer none) (ev_move rfl) (by decide) ?_
         refine sr_evg (b := true) (e := 51) rfl rfl hg531 (v := .bool true) (ev_peqT_nil Tryd.underlying39 rfl rfl) (by decide) ?_
         refine sr_ev (v := .bool true) (ev_pick_t rfl hg531 rfl) (by decide) ?_
         exact sr_weaken (l' := [(54, .bool true)]) (.cons rfl (.nil _)) (K532 true _ ⟨by first | (rw [hg531]; rfl) | rfl, rfl⟩)
        ·refine sr_pass (e := 51) rfl rfl (by rw [hg531]; rfl) (by decide) ?_
         refine sr_pass (e := 51) rfl rfl (by rw [hg531]; rfl) (by decide) ?_
         refine sr_ev (v := .bool false) (ev_pick_f rfl hg531 rfl) (by decide) ?_
         exact sr_weaken (l' := [(54, .bool false)]) (.cons rfl (.nil _)) (K532 false _ ⟨by first | (rw [hg531]; rfl) | rfl, rfl⟩)
      ·intro K524
       rcases Bool.eq_false_or_eq_true (y14.2 == y448.2) with hg523 | hg523
       all_goals try have hj526 : Tr ρ455 w450 (fun _ => false) ρ455 w450 := Tr.refl hb.bd
       ·refine sr_evg (b := true) (e := 47) rfl rfl hg523 (v := .int .i64 y14.2) (ev_move rfl) (by decide) ?_
        refine sr_evg (b := true) (e := 47) rfl rfl hg523 (v := .bool (y14.2 != 0)) (ev_ne rfl rfl) (by decide) ?_
        refine sr_ev (v := .bool (y14.2 != 0)) (ev_pick_t rfl hg523 rfl) (by decide) ?_
        exact sr_weaken (l' := [(9, .pointer none), (50, .bool (y14.2 != 0))]) (.cons rfl (.cons rfl (.nil _))) (K524 (y14.2 != 0) _ ⟨by first | (rw [hg523]; rfl) | rfl, rfl⟩)
       ·refine sr_pass (e := 47) rfl rfl (by rw [hg523]; rfl) (by decide) ?_
        refine sr_pass (e := 47) rfl rfl (by rw [hg523]; rfl) (by decide) ?_
        refine sr_ev (v := .bool false) (ev_pick_f rfl hg523 rfl) (by decide) ?_
        exact sr_weaken (l' := [(9, .pointer none), (50, .bool false)]) (.cons rfl (.cons rfl (.nil _))) (K524 false _ ⟨by first | (rw [hg523]; rfl) | rfl, rfl⟩)
     ·intro K516
      rcases Bool.eq_false_or_eq_true ((y14.2 != y448.2) || (y14.2 != 0)) with hg515 | hg515
      all_goals try have hj518 : Tr ρ455 w450 (fun _ => false) ρ455 w450 := Tr.refl hb.bd
      ·refine sr_pass (e := 40) rfl rfl (by rw [hg515]; rfl) (by decide) ?_
       refine sr_pass (e := 40) rfl rfl (by rw [hg515]; rfl) (by decide) ?_
       refine sr_ev (v := .bool true) (ev_pick_t rfl hg515 rfl) (by decide) ?_
       exact sr_weaken (l' := [(3, v1), (9, .pointer none), (10, .int .i64 y14.2), (11, .pointer none), (12, .int .i64 y448.2), (43, .bool true)]) (.cons rfl (.cons rfl (.cons rfl (.cons rfl (.cons rfl (.cons rfl (.nil _))))))) (K516 true _ ⟨by first | (rw [hg515]; rfl) | rfl, rfl⟩)
      ·refine sr_evg (b := false) (e := 40) rfl rfl hg515 (v := .pointer none) (ev_move rfl) (by decide) ?_
       refine sr_evg (b := false) (e := 40) rfl rfl hg515 (v := .bool true) (ev_peqT_nil Tryd.underlying39 rfl rfl) (by decide) ?_
       refine sr_ev (v := .bool true) (ev_pick_f rfl hg515 rfl) (by decide) ?_
       exact sr_weaken (l' := [(3, v1), (9, .pointer none), (10, .int .i64 y14.2), (11, .pointer none), (12, .int .i64 y448.2), (43, .bool true)]) (.cons rfl (.cons rfl (.cons rfl (.cons rfl (.cons rfl (.cons rfl (.nil _))))))) (K516 true _ ⟨by first | (rw [hg515]; rfl) | rfl, rfl⟩)
    ·intro K508
     rcases Bool.eq_false_or_eq_true (y14.2 != y448.2) with hg507 | hg507
     all_goals try have hj510 : Tr ρ455 w450 (fun _ => false) ρ455 w450 := Tr.refl hb.bd
     ·refine sr_pass (e := 36) rfl rfl (by rw [hg507]; rfl) (by decide) ?_
      refine sr_pass (e := 36) rfl rfl (by rw [hg507]; rfl) (by decide) ?_
      refine sr_ev (v := .bool true) (ev_pick_t rfl hg507 rfl) (by decide) ?_
      exact sr_weaken (l' := [(3, v1), (9, .pointer none), (10, .int .i64 y14.2), (11, .pointer none), (12, .int .i64 y448.2), (39, .bool true)]) (.cons rfl (.cons rfl (.cons rfl (.cons rfl (.cons rfl (.cons rfl (.nil _))))))) (K508 true _ ⟨by first | (rw [hg507]; rfl) | rfl, rfl⟩)
     ·refine sr_evg (b := false) (e := 36) rfl rfl hg507 (v := .int .i64 y14.2) (ev_move rfl) (by decide) ?_
      refine sr_evg (b := false) (e := 36) rfl rfl hg507 (v := .bool (y14.2 != 0)) (ev_ne rfl rfl) (by decide) ?_
      refine sr_ev (v := .bool (y14.2 != 0)) (ev_pick_f rfl hg507 rfl) (by decide) ?_
      exact sr_weaken (l' := [(3, v1), (9, .pointer none), (10, .int .i64 y14.2), (11, .pointer none), (12, .int .i64 y448.2), (39, .bool (y14.2 != 0))]) (.cons rfl (.cons rfl (.cons rfl (.cons rfl (.cons rfl (.cons rfl (.nil _))))))) (K508 (y14.2 != 0) _ ⟨by first | (rw [hg507]; rfl) | rfl, rfl⟩)
   ·replace hS := optC_some hS ho457
    obtain ⟨g458, rfl, ⟨v459, hB461, h460⟩⟩ := hP454.some_ ho457
    replace hB461 : Blk ρ455 100 w450 g458 (.cells #[.bool z456.made, .int .i64 z456.most, .int .i64 z456.window, .int .i64 z456.lock, v459] 71 (0, 0)) := hB461
    replace h460 : OwnT ref22_record.c 79 ρ455 101 w450 v459 z456.records := h460
    refine sr_ev (v := .tuple #[.pointer (some ⟨g458, 0, none⟩), .int .i64 y448.2]) (ev_move rfl) (by decide) ?_
    refine sr_ev (v := .pointer (some ⟨g458, 0, none⟩)) (ev_extract rfl rfl) (by decide) ?_
    refine sr_ev (v := .int .i64 y448.2) (ev_extract rfl rfl) (by decide) ?_
    refine sr_ev (v := .pointer (some ⟨g458, 0, none⟩)) (ev_assign rfl) (by decide) ?_
    refine sr_ev (v := .int .i64 y448.2) (ev_assign rfl) (by decide) ?_
    refine sr_end (l' := [(3, v1), (9, .pointer none), (10, .int .i64 y14.2), (11, .pointer (some ⟨g458, 0, none⟩)), (12, .int .i64 y448.2)]) (.cons rfl (.cons rfl (.cons rfl (.cons rfl (.cons rfl (.nil _)))))) ?_
    refine ke_seq ?_
    refine ke_seq ?_
    refine ke_region ?_
    refine sr_ev (v := .int .i64 y14.2) (ev_move rfl) (by decide) ?_
    refine sr_ev (v := .int .i64 y448.2) (ev_move rfl) (by decide) ?_
    refine sr_ev (v := .bool (y14.2 != y448.2)) (ev_ne rfl rfl) (by decide) ?_
    refine sr_ev (v := .bool (y14.2 != y448.2)) (ev_move rfl) (by decide) ?_
    refine sr_join (m := 3) (C := fun (x : Bool) w1 => x = ((y14.2 != y448.2) || (y14.2 != 0)) ∧ w450 = w1) (l' := fun x => [(3, v1), (9, .pointer none), (10, .int .i64 y14.2), (11, .pointer (some ⟨g458, 0, none⟩)), (12, .int .i64 y448.2), (39, .bool x)]) ?_ ?_
    ·rintro _ _ ⟨rfl, rfl⟩
     refine sr_ev (v := .bool ((y14.2 != y448.2) || (y14.2 != 0))) (ev_move rfl) (by decide) ?_
     refine sr_join (m := 3) (C := fun (x : Bool) w1 => x = (true) ∧ w450 = w1) (l' := fun x => [(3, v1), (9, .pointer none), (10, .int .i64 y14.2), (11, .pointer (some ⟨g458, 0, none⟩)), (12, .int .i64 y448.2), (43, .bool x)]) ?_ ?_
     ·rintro _ _ ⟨rfl, rfl⟩
      refine sr_end (l' := [(3, v1), (9, .pointer none), (10, .int .i64 y14.2), (11, .pointer (some ⟨g458, 0, none⟩)), (12, .int .i64 y448.2), (43, .bool true)]) (.cons rfl (.cons rfl (.cons rfl (.cons rfl (.cons rfl (.cons rfl (.nil _))))))) ?_
      refine ke_cond (t := true) rfl (fun _ => ?_) (fun h => by cases h)
      refine ke_seq ?_
      refine ke_region ?_
      refine sr_ev (v := .int .i64 y14.2) (ev_move rfl) (by decide) ?_
      refine sr_ev (v := .int .i64 y448.2) (ev_move rfl) (by decide) ?_
      refine sr_ev (v := .bool (y14.2 == y448.2)) (ev_eq rfl rfl) (by decide) ?_
      refine sr_ev (v := .bool (y14.2 == y448.2)) (ev_move rfl) (by decide) ?_
      refine sr_join (m := 3) (C := fun (x : Bool) w1 => x = ((y14.2 == y448.2) && (y14.2 != 0)) ∧ w450 = w1) (l' := fun x => [(9, .pointer none), (50, .bool x)]) ?_ ?_
      ·rintro _ _ ⟨rfl, rfl⟩
       refine sr_ev (v := .bool ((y14.2 == y448.2) && (y14.2 != 0))) (ev_move rfl) (by decide) ?_
       refine sr_join (m := 3) (C := fun (x : Bool) w1 => x = (((y14.2 == y448.2) && (y14.2 != 0)) && true) ∧ w450 = w1) (l' := fun x => [(54, .bool x)]) ?_ ?_
       ·rintro _ _ ⟨rfl, rfl⟩
        refine sr_ev (v := .bool (((y14.2 == y448.2) && (y14.2 != 0)) && true)) (ev_move rfl) (by decide) ?_
        obtain ⟨z496, hz498, hS⟩ := bind_some' hS
        refine sr_join (m := 2) (C := fun (z : Bool) w1 => z496 = z ∧ ∃ ρ1, Tr ρ455 w450 (fun _ => false) ρ1 w1) (l' := fun z => [(57, .bool z)]) ?_ ?_
        ·rintro _ w499 ⟨rfl, ρ500, hj497⟩
         replace hb := hb.trans hj497
         refine sr_ev (v := .bool z496) (ev_assign rfl) (by decide) ?_
         refine sr_end (l' := [(8, .bool z496)]) (.cons rfl (.nil _)) ?_
         cases hS
         exact ke_ret1 Tryd.func6 rfl rfl ⟨_, rfl, rfl, (hb.below (flat1_le _))⟩
        ·intro K495
         clear hS
         have hj497 : Tr ρ455 w450 (fun _ => false) ρ455 w450 := (Tr.refl hb.bd).weak (fun _ _ => rfl) rfl rfl
         rcases Bool.eq_false_or_eq_true (((y14.2 == y448.2) && (y14.2 != 0)) && true) with hg494 | hg494
         ·have hS := ite_true' hz498 hg494
          obtain ⟨y502, hy503, hS⟩ := bind_some' hS
          refine sr_callg (b := true) (e := 55) rfl rfl hg494 (vs := []) rfl Tryd.call9 rfl (law22_awake_ok _ (hg.fr hz hb) (ρA := ρ455) hb.bd (hz.fr hg hb) hy503) (by decide) ?_
          rintro _ w504 ⟨rfl, hbw505⟩
          have htr506 := Tr.of_below hbw505 hb.bd
          replace hb := hb.trans htr506
          replace hj497 := (hj497.trans htr506).weak (J' := (fun _ => false)) (by intro t h; simp [rng] at h ⊢ <;> omega) rfl rfl
          refine sr_ev (v := .bool y502) (ev_pick_t rfl hg494 rfl) (by decide) ?_
          exact sr_weaken (l' := [(57, .bool y502)]) (.cons rfl (.nil _)) (K495 y502 _ ⟨(Option.some.inj hS).symm, _, hj497⟩)
         ·have hS := ite_false' hz498 hg494
          refine sr_pass (e := 55) rfl rfl (by rw [hg494]; rfl) (by decide) ?_
          refine sr_ev (v := .bool false) (ev_pick_f rfl hg494 rfl) (by decide) ?_
          exact sr_weaken (l' := [(57, .bool false)]) (.cons rfl (.nil _)) (K495 false _ ⟨(Option.some.inj hS).symm, _, hj497⟩)
       ·intro K487
        rcases Bool.eq_false_or_eq_true ((y14.2 == y448.2) && (y14.2 != 0)) with hg486 | hg486
        all_goals try have hj489 : Tr ρ455 w450 (fun _ => false) ρ455 w450 := Tr.refl hb.bd
        ·refine sr_evg (b := true) (e := 51) rfl rfl hg486 (v := .pointer none) (ev_move rfl) (by decide) ?_
         refine sr_evg (b := true) (e := 51) rfl rfl hg486 (v := .bool true) (ev_peqT_nil Tryd.underlying39 rfl rfl) (by decide) ?_
         refine sr_ev (v := .bool true) (ev_pick_t rfl hg486 rfl) (by decide) ?_
         exact sr_weaken (l' := [(54, .bool true)]) (.cons rfl (.nil _)) (K487 true _ ⟨by first | (rw [hg486]; rfl) | rfl, rfl⟩)
        ·refine sr_pass (e := 51) rfl rfl (by rw [hg486]; rfl) (by decide) ?_
         refine sr_pass (e := 51) rfl rfl (by rw [hg486]; rfl) (by decide) ?_
         refine sr_ev (v := .bool false) (ev_pick_f rfl hg486 rfl) (by decide) ?_
         exact sr_weaken (l' := [(54, .bool false)]) (.cons rfl (.nil _)) (K487 false _ ⟨by first | (rw [hg486]; rfl) | rfl, rfl⟩)
      ·intro K479
       rcases Bool.eq_false_or_eq_true (y14.2 == y448.2) with hg478 | hg478
       all_goals try have hj481 : Tr ρ455 w450 (fun _ => false) ρ455 w450 := Tr.refl hb.bd
       ·refine sr_evg (b := true) (e := 47) rfl rfl hg478 (v := .int .i64 y14.2) (ev_move rfl) (by decide) ?_
        refine sr_evg (b := true) (e := 47) rfl rfl hg478 (v := .bool (y14.2 != 0)) (ev_ne rfl rfl) (by decide) ?_
        refine sr_ev (v := .bool (y14.2 != 0)) (ev_pick_t rfl hg478 rfl) (by decide) ?_
        exact sr_weaken (l' := [(9, .pointer none), (50, .bool (y14.2 != 0))]) (.cons rfl (.cons rfl (.nil _))) (K479 (y14.2 != 0) _ ⟨by first | (rw [hg478]; rfl) | rfl, rfl⟩)
       ·refine sr_pass (e := 47) rfl rfl (by rw [hg478]; rfl) (by decide) ?_
        refine sr_pass (e := 47) rfl rfl (by rw [hg478]; rfl) (by decide) ?_
        refine sr_ev (v := .bool false) (ev_pick_f rfl hg478 rfl) (by decide) ?_
        exact sr_weaken (l' := [(9, .pointer none), (50, .bool false)]) (.cons rfl (.cons rfl (.nil _))) (K479 false _ ⟨by first | (rw [hg478]; rfl) | rfl, rfl⟩)
     ·intro K471
      rcases Bool.eq_false_or_eq_true ((y14.2 != y448.2) || (y14.2 != 0)) with hg470 | hg470
      all_goals try have hj473 : Tr ρ455 w450 (fun _ => false) ρ455 w450 := Tr.refl hb.bd
      ·refine sr_pass (e := 40) rfl rfl (by rw [hg470]; rfl) (by decide) ?_
       refine sr_pass (e := 40) rfl rfl (by rw [hg470]; rfl) (by decide) ?_
       refine sr_ev (v := .bool true) (ev_pick_t rfl hg470 rfl) (by decide) ?_
       exact sr_weaken (l' := [(3, v1), (9, .pointer none), (10, .int .i64 y14.2), (11, .pointer (some ⟨g458, 0, none⟩)), (12, .int .i64 y448.2), (43, .bool true)]) (.cons rfl (.cons rfl (.cons rfl (.cons rfl (.cons rfl (.cons rfl (.nil _))))))) (K471 true _ ⟨by first | (rw [hg470]; rfl) | rfl, rfl⟩)
      ·refine sr_evg (b := false) (e := 40) rfl rfl hg470 (v := .pointer none) (ev_move rfl) (by decide) ?_
       refine sr_evg (b := false) (e := 40) rfl rfl hg470 (v := .bool true) (ev_peqT_nil Tryd.underlying39 rfl rfl) (by decide) ?_
       refine sr_ev (v := .bool true) (ev_pick_f rfl hg470 rfl) (by decide) ?_
       exact sr_weaken (l' := [(3, v1), (9, .pointer none), (10, .int .i64 y14.2), (11, .pointer (some ⟨g458, 0, none⟩)), (12, .int .i64 y448.2), (43, .bool true)]) (.cons rfl (.cons rfl (.cons rfl (.cons rfl (.cons rfl (.cons rfl (.nil _))))))) (K471 true _ ⟨by first | (rw [hg470]; rfl) | rfl, rfl⟩)
    ·intro K463
     rcases Bool.eq_false_or_eq_true (y14.2 != y448.2) with hg462 | hg462
     all_goals try have hj465 : Tr ρ455 w450 (fun _ => false) ρ455 w450 := Tr.refl hb.bd
     ·refine sr_pass (e := 36) rfl rfl (by rw [hg462]; rfl) (by decide) ?_
      refine sr_pass (e := 36) rfl rfl (by rw [hg462]; rfl) (by decide) ?_
      refine sr_ev (v := .bool true) (ev_pick_t rfl hg462 rfl) (by decide) ?_
      exact sr_weaken (l' := [(3, v1), (9, .pointer none), (10, .int .i64 y14.2), (11, .pointer (some ⟨g458, 0, none⟩)), (12, .int .i64 y448.2), (39, .bool true)]) (.cons rfl (.cons rfl (.cons rfl (.cons rfl (.cons rfl (.cons rfl (.nil _))))))) (K463 true _ ⟨by first | (rw [hg462]; rfl) | rfl, rfl⟩)
     ·refine sr_evg (b := false) (e := 36) rfl rfl hg462 (v := .int .i64 y14.2) (ev_move rfl) (by decide) ?_
      refine sr_evg (b := false) (e := 36) rfl rfl hg462 (v := .bool (y14.2 != 0)) (ev_ne rfl rfl) (by decide) ?_
      refine sr_ev (v := .bool (y14.2 != 0)) (ev_pick_f rfl hg462 rfl) (by decide) ?_
      exact sr_weaken (l' := [(3, v1), (9, .pointer none), (10, .int .i64 y14.2), (11, .pointer (some ⟨g458, 0, none⟩)), (12, .int .i64 y448.2), (39, .bool (y14.2 != 0))]) (.cons rfl (.cons rfl (.cons rfl (.cons rfl (.cons rfl (.cons rfl (.nil _))))))) (K463 (y14.2 != 0) _ ⟨by first | (rw [hg462]; rfl) | rfl, rfl⟩)
  ·replace hS := optC_some hS ho23
   obtain ⟨g24, rfl, ⟨v25, lp27, hB29, h26, hR28⟩⟩ := hP20.some_ ho23
   replace hB29 : Blk ρ21 100 w16 g24 (.cells #[.int .i64 z22.most, .int .i64 z22.window, .int .i64 z22.lock, v25] 67 (0, 0)) := hB29
   replace h26 : MapT str ptrC false ρ21 101 w16 v25 lp27 := h26
   replace hR28 : Recs secret_record.O 2 ρ21 102 w16 lp27 z22.users := hR28
   refine sr_ev (v := .tuple #[.pointer (some ⟨g24, 0, none⟩), .int .i64 y14.2]) (ev_move rfl) (by decide) ?_
   refine sr_ev (v := .pointer (some ⟨g24, 0, none⟩)) (ev_extract rfl rfl) (by decide) ?_
   refine sr_ev (v := .int .i64 y14.2) (ev_extract rfl rfl) (by decide) ?_
   refine sr_ev (v := .pointer (some ⟨g24, 0, none⟩)) (ev_assign rfl) (by decide) ?_
   refine sr_ev (v := .int .i64 y14.2) (ev_assign rfl) (by decide) ?_
   refine sr_end (l' := [(0, .int .i64 most_0), (1, .int .i64 window_1), (2, .int .i64 lock_2), (3, v1), (9, .pointer (some ⟨g24, 0, none⟩)), (10, .int .i64 y14.2)]) (.cons rfl (.cons rfl (.cons rfl (.cons rfl (.cons rfl (.cons rfl (.nil _))))))) ?_
   refine ke_seq ?_
   refine ke_region ?_
   refine sr_ev (v := .int .i64 most_0) (ev_move rfl) (by decide) ?_
   refine sr_ev (v := .int .i64 window_1) (ev_move rfl) (by decide) ?_
   refine sr_ev (v := .int .i64 lock_2) (ev_move rfl) (by decide) ?_
   obtain ⟨y30, hy31, hS⟩ := bind_some' hS
   refine sr_call (vs := [.int .i64 most_0, .int .i64 window_1, .int .i64 lock_2]) rfl Tryd.call23 rfl (ref22_NewLocks_ok _ (hg.fr hz hb) (ρA := ρ21) hb.bd (hz.fr hg hb) (o := 200) (by decide) hy31) (by decide) ?_
   rintro _ w32 ⟨ρ37, v35, rfl, hP36, htr34⟩
   replace h2 := h2.mv htr34.rd
   replace hB29 := hB29.mv (htr34.mv (i := 100) rfl)
   replace h26 := h26.mv (htr34.mv (i := 101) rfl)
   replace hR28 := Recs.mv hR28 secret_record.objK (htr34.mv (i := 102) rfl) (by decide)
   replace hb := hb.trans htr34
   rcases ho39 : y30.1 with _ | z38
   ·replace hS := optC_none hS ho39
    obtain rfl := hP36.none_ ho39
    refine sr_ev (v := .tuple #[.pointer none, .int .i64 y30.2]) (ev_move rfl) (by decide) ?_
    refine sr_ev (v := .pointer none) (ev_extract rfl rfl) (by decide) ?_
    refine sr_ev (v := .int .i64 y30.2) (ev_extract rfl rfl) (by decide) ?_
    refine sr_ev (v := .pointer none) (ev_assign rfl) (by decide) ?_
    refine sr_ev (v := .int .i64 y30.2) (ev_assign rfl) (by decide) ?_
    refine sr_end (l' := [(3, v1), (9, .pointer (some ⟨g24, 0, none⟩)), (10, .int .i64 y14.2), (11, .pointer none), (12, .int .i64 y30.2)]) (.cons rfl (.cons rfl (.cons rfl (.cons rfl (.cons rfl (.nil _)))))) ?_
    refine ke_seq ?_
    refine ke_seq ?_
    refine ke_region ?_
    refine sr_ev (v := .int .i64 y14.2) (ev_move rfl) (by decide) ?_
    refine sr_ev (v := .int .i64 y30.2) (ev_move rfl) (by decide) ?_
    refine sr_ev (v := .bool (y14.2 != y30.2)) (ev_ne rfl rfl) (by decide) ?_
    refine sr_ev (v := .bool (y14.2 != y30.2)) (ev_move rfl) (by decide) ?_
    refine sr_join (m := 3) (C := fun (x : Bool) w1 => x = ((y14.2 != y30.2) || (y14.2 != 0)) ∧ w32 = w1) (l' := fun x => [(3, v1), (9, .pointer (some ⟨g24, 0, none⟩)), (10, .int .i64 y14.2), (11, .pointer none), (12, .int .i64 y30.2), (39, .bool x)]) ?_ ?_
    ·rintro _ _ ⟨rfl, rfl⟩
     refine sr_ev (v := .bool ((y14.2 != y30.2) || (y14.2 != 0))) (ev_move rfl) (by decide) ?_
     refine sr_join (m := 3) (C := fun (x : Bool) w1 => x = (((y14.2 != y30.2) || (y14.2 != 0)) || false) ∧ w32 = w1) (l' := fun x => [(3, v1), (9, .pointer (some ⟨g24, 0, none⟩)), (10, .int .i64 y14.2), (11, .pointer none), (12, .int .i64 y30.2), (43, .bool x)]) ?_ ?_
     ·rintro _ _ ⟨rfl, rfl⟩
      refine sr_end (l' := [(3, v1), (9, .pointer (some ⟨g24, 0, none⟩)), (10, .int .i64 y14.2), (11, .pointer none), (12, .int .i64 y30.2), (43, .bool (((y14.2 != y30.2) || (y14.2 != 0)) || false))]) (.cons rfl (.cons rfl (.cons rfl (.cons rfl (.cons rfl (.cons rfl (.nil _))))))) ?_
      refine ke_cond (t := ((y14.2 != y30.2) || (y14.2 != 0)) || false) rfl (fun hc431 => ?_) (fun hc431 => ?_)
      ·replace hS := ite_true' hS hc431
       refine ke_seq ?_
       refine ke_region ?_
       refine sr_ev (v := .int .i64 y14.2) (ev_move rfl) (by decide) ?_
       refine sr_ev (v := .int .i64 y30.2) (ev_move rfl) (by decide) ?_
       refine sr_ev (v := .bool (y14.2 == y30.2)) (ev_eq rfl rfl) (by decide) ?_
       refine sr_ev (v := .bool (y14.2 == y30.2)) (ev_move rfl) (by decide) ?_
       refine sr_join (m := 3) (C := fun (x : Bool) w1 => x = ((y14.2 == y30.2) && (y14.2 != 0)) ∧ w32 = w1) (l' := fun x => [(9, .pointer (some ⟨g24, 0, none⟩)), (50, .bool x)]) ?_ ?_
       ·rintro _ _ ⟨rfl, rfl⟩
        refine sr_ev (v := .bool ((y14.2 == y30.2) && (y14.2 != 0))) (ev_move rfl) (by decide) ?_
        refine sr_join (m := 3) (C := fun (x : Bool) w1 => x = (false) ∧ w32 = w1) (l' := fun x => [(54, .bool x)]) ?_ ?_
        ·rintro _ _ ⟨rfl, rfl⟩
         refine sr_ev (v := .bool false) (ev_move rfl) (by decide) ?_
         refine sr_pass (e := 55) rfl rfl rfl (by decide) ?_
         refine sr_ev (v := .bool false) (ev_pick_f rfl rfl rfl) (by decide) ?_
         refine sr_ev (v := .bool false) (ev_assign rfl) (by decide) ?_
         refine sr_end (l' := [(8, .bool false)]) (.cons rfl (.nil _)) ?_
         cases hS
         exact ke_ret1 Tryd.func6 rfl rfl ⟨_, rfl, rfl, (hb.below (flat1_le _))⟩
        ·intro K441
         rcases Bool.eq_false_or_eq_true ((y14.2 == y30.2) && (y14.2 != 0)) with hg440 | hg440
         all_goals try have hj443 : Tr ρ37 w32 (fun _ => false) ρ37 w32 := Tr.refl hb.bd
         ·refine sr_evg (b := true) (e := 51) rfl rfl hg440 (v := .pointer (some ⟨g24, 0, none⟩)) (ev_move rfl) (by decide) ?_
          refine sr_evg (b := true) (e := 51) rfl rfl hg440 (v := .bool false) (ev_peqT_some Tryd.underlying39 rfl rfl) (by decide) ?_
          refine sr_ev (v := .bool false) (ev_pick_t rfl hg440 rfl) (by decide) ?_
          exact sr_weaken (l' := [(54, .bool false)]) (.cons rfl (.nil _)) (K441 false _ ⟨by first | (rw [hg440]; rfl) | rfl, rfl⟩)
         ·refine sr_pass (e := 51) rfl rfl (by rw [hg440]; rfl) (by decide) ?_
          refine sr_pass (e := 51) rfl rfl (by rw [hg440]; rfl) (by decide) ?_
          refine sr_ev (v := .bool false) (ev_pick_f rfl hg440 rfl) (by decide) ?_
          exact sr_weaken (l' := [(54, .bool false)]) (.cons rfl (.nil _)) (K441 false _ ⟨by first | (rw [hg440]; rfl) | rfl, rfl⟩)
       ·intro K433
        rcases Bool.eq_false_or_eq_true (y14.2 == y30.2) with hg432 | hg432
        all_goals try have hj435 : Tr ρ37 w32 (fun _ => false) ρ37 w32 := Tr.refl hb.bd
        ·refine sr_evg (b := true) (e := 47) rfl rfl hg432 (v := .int .i64 y14.2) (ev_move rfl) (by decide) ?_
         refine sr_evg (b := true) (e := 47) rfl rfl hg432 (v := .bool (y14.2 != 0)) (ev_ne rfl rfl) (by decide) ?_
         refine sr_ev (v := .bool (y14.2 != 0)) (ev_pick_t rfl hg432 rfl) (by decide) ?_
         exact sr_weaken (l' := [(9, .pointer (some ⟨g24, 0, none⟩)), (50, .bool (y14.2 != 0))]) (.cons rfl (.cons rfl (.nil _))) (K433 (y14.2 != 0) _ ⟨by first | (rw [hg432]; rfl) | rfl, rfl⟩)
        ·refine sr_pass (e := 47) rfl rfl (by rw [hg432]; rfl) (by decide) ?_
         refine sr_pass (e := 47) rfl rfl (by rw [hg432]; rfl) (by decide) ?_
         refine sr_ev (v := .bool false) (ev_pick_f rfl hg432 rfl) (by decide) ?_
         exact sr_weaken (l' := [(9, .pointer (some ⟨g24, 0, none⟩)), (50, .bool false)]) (.cons rfl (.cons rfl (.nil _))) (K433 false _ ⟨by first | (rw [hg432]; rfl) | rfl, rfl⟩)
      ·replace hS := ite_false' hS hc431
       refine ke_skip ?_
       refine ke_seq ?_
       refine ke_seq ?_
       refine ke_region ?_
       refine sr_ev (v := .int .i64 0) (ev_assign rfl) (by decide) ?_
       refine sr_end (l' := [(3, v1), (9, .pointer (some ⟨g24, 0, none⟩)), (11, .pointer none), (13, .int .i64 0)]) (.cons rfl (.cons rfl (.cons rfl (.cons rfl (.nil _))))) ?_
       refine ke_block ?_
       cases hS
     ·intro K424
      rcases Bool.eq_false_or_eq_true ((y14.2 != y30.2) || (y14.2 != 0)) with hg423 | hg423
      all_goals try have hj426 : Tr ρ37 w32 (fun _ => false) ρ37 w32 := Tr.refl hb.bd
      ·refine sr_pass (e := 40) rfl rfl (by rw [hg423]; rfl) (by decide) ?_
       refine sr_pass (e := 40) rfl rfl (by rw [hg423]; rfl) (by decide) ?_
       refine sr_ev (v := .bool true) (ev_pick_t rfl hg423 rfl) (by decide) ?_
       exact sr_weaken (l' := [(3, v1), (9, .pointer (some ⟨g24, 0, none⟩)), (10, .int .i64 y14.2), (11, .pointer none), (12, .int .i64 y30.2), (43, .bool true)]) (.cons rfl (.cons rfl (.cons rfl (.cons rfl (.cons rfl (.cons rfl (.nil _))))))) (K424 true _ ⟨by first | (rw [hg423]; rfl) | rfl, rfl⟩)
      ·refine sr_evg (b := false) (e := 40) rfl rfl hg423 (v := .pointer (some ⟨g24, 0, none⟩)) (ev_move rfl) (by decide) ?_
       refine sr_evg (b := false) (e := 40) rfl rfl hg423 (v := .bool false) (ev_peqT_some Tryd.underlying39 rfl rfl) (by decide) ?_
       refine sr_ev (v := .bool false) (ev_pick_f rfl hg423 rfl) (by decide) ?_
       exact sr_weaken (l' := [(3, v1), (9, .pointer (some ⟨g24, 0, none⟩)), (10, .int .i64 y14.2), (11, .pointer none), (12, .int .i64 y30.2), (43, .bool false)]) (.cons rfl (.cons rfl (.cons rfl (.cons rfl (.cons rfl (.cons rfl (.nil _))))))) (K424 false _ ⟨by first | (rw [hg423]; rfl) | rfl, rfl⟩)
    ·intro K416
     rcases Bool.eq_false_or_eq_true (y14.2 != y30.2) with hg415 | hg415
     all_goals try have hj418 : Tr ρ37 w32 (fun _ => false) ρ37 w32 := Tr.refl hb.bd
     ·refine sr_pass (e := 36) rfl rfl (by rw [hg415]; rfl) (by decide) ?_
      refine sr_pass (e := 36) rfl rfl (by rw [hg415]; rfl) (by decide) ?_
      refine sr_ev (v := .bool true) (ev_pick_t rfl hg415 rfl) (by decide) ?_
      exact sr_weaken (l' := [(3, v1), (9, .pointer (some ⟨g24, 0, none⟩)), (10, .int .i64 y14.2), (11, .pointer none), (12, .int .i64 y30.2), (39, .bool true)]) (.cons rfl (.cons rfl (.cons rfl (.cons rfl (.cons rfl (.cons rfl (.nil _))))))) (K416 true _ ⟨by first | (rw [hg415]; rfl) | rfl, rfl⟩)
     ·refine sr_evg (b := false) (e := 36) rfl rfl hg415 (v := .int .i64 y14.2) (ev_move rfl) (by decide) ?_
      refine sr_evg (b := false) (e := 36) rfl rfl hg415 (v := .bool (y14.2 != 0)) (ev_ne rfl rfl) (by decide) ?_
      refine sr_ev (v := .bool (y14.2 != 0)) (ev_pick_f rfl hg415 rfl) (by decide) ?_
      exact sr_weaken (l' := [(3, v1), (9, .pointer (some ⟨g24, 0, none⟩)), (10, .int .i64 y14.2), (11, .pointer none), (12, .int .i64 y30.2), (39, .bool (y14.2 != 0))]) (.cons rfl (.cons rfl (.cons rfl (.cons rfl (.cons rfl (.cons rfl (.nil _))))))) (K416 (y14.2 != 0) _ ⟨by first | (rw [hg415]; rfl) | rfl, rfl⟩)
   ·replace hS := optC_some hS ho39
    obtain ⟨g40, rfl, ⟨v41, hB43, h42⟩⟩ := hP36.some_ ho39
    replace hB43 : Blk ρ37 200 w32 g40 (.cells #[.bool z38.made, .int .i64 z38.most, .int .i64 z38.window, .int .i64 z38.lock, v41] 71 (0, 0)) := hB43
    replace h42 : OwnT ref22_record.c 79 ρ37 201 w32 v41 z38.records := h42
    refine sr_ev (v := .tuple #[.pointer (some ⟨g40, 0, none⟩), .int .i64 y30.2]) (ev_move rfl) (by decide) ?_
    refine sr_ev (v := .pointer (some ⟨g40, 0, none⟩)) (ev_extract rfl rfl) (by decide) ?_
    refine sr_ev (v := .int .i64 y30.2) (ev_extract rfl rfl) (by decide) ?_
    refine sr_ev (v := .pointer (some ⟨g40, 0, none⟩)) (ev_assign rfl) (by decide) ?_
    refine sr_ev (v := .int .i64 y30.2) (ev_assign rfl) (by decide) ?_
    refine sr_end (l' := [(3, v1), (9, .pointer (some ⟨g24, 0, none⟩)), (10, .int .i64 y14.2), (11, .pointer (some ⟨g40, 0, none⟩)), (12, .int .i64 y30.2)]) (.cons rfl (.cons rfl (.cons rfl (.cons rfl (.cons rfl (.nil _)))))) ?_
    refine ke_seq ?_
    refine ke_seq ?_
    refine ke_region ?_
    refine sr_ev (v := .int .i64 y14.2) (ev_move rfl) (by decide) ?_
    refine sr_ev (v := .int .i64 y30.2) (ev_move rfl) (by decide) ?_
    refine sr_ev (v := .bool (y14.2 != y30.2)) (ev_ne rfl rfl) (by decide) ?_
    refine sr_ev (v := .bool (y14.2 != y30.2)) (ev_move rfl) (by decide) ?_
    refine sr_join (m := 3) (C := fun (x : Bool) w1 => x = ((y14.2 != y30.2) || (y14.2 != 0)) ∧ w32 = w1) (l' := fun x => [(3, v1), (9, .pointer (some ⟨g24, 0, none⟩)), (10, .int .i64 y14.2), (11, .pointer (some ⟨g40, 0, none⟩)), (12, .int .i64 y30.2), (39, .bool x)]) ?_ ?_
    ·rintro _ _ ⟨rfl, rfl⟩
     refine sr_ev (v := .bool ((y14.2 != y30.2) || (y14.2 != 0))) (ev_move rfl) (by decide) ?_
     refine sr_join (m := 3) (C := fun (x : Bool) w1 => x = (((y14.2 != y30.2) || (y14.2 != 0)) || false) ∧ w32 = w1) (l' := fun x => [(3, v1), (9, .pointer (some ⟨g24, 0, none⟩)), (10, .int .i64 y14.2), (11, .pointer (some ⟨g40, 0, none⟩)), (12, .int .i64 y30.2), (43, .bool x)]) ?_ ?_
     ·rintro _ _ ⟨rfl, rfl⟩
      refine sr_end (l' := [(3, v1), (9, .pointer (some ⟨g24, 0, none⟩)), (10, .int .i64 y14.2), (11, .pointer (some ⟨g40, 0, none⟩)), (12, .int .i64 y30.2), (43, .bool (((y14.2 != y30.2) || (y14.2 != 0)) || false))]) (.cons rfl (.cons rfl (.cons rfl (.cons rfl (.cons rfl (.cons rfl (.nil _))))))) ?_
      refine ke_cond (t := ((y14.2 != y30.2) || (y14.2 != 0)) || false) rfl (fun hc60 => ?_) (fun hc60 => ?_)
      ·replace hS := ite_true' hS hc60
       refine ke_seq ?_
       refine ke_region ?_
       refine sr_ev (v := .int .i64 y14.2) (ev_move rfl) (by decide) ?_
       refine sr_ev (v := .int .i64 y30.2) (ev_move rfl) (by decide) ?_
       refine sr_ev (v := .bool (y14.2 == y30.2)) (ev_eq rfl rfl) (by decide) ?_
       refine sr_ev (v := .bool (y14.2 == y30.2)) (ev_move rfl) (by decide) ?_
       refine sr_join (m := 3) (C := fun (x : Bool) w1 => x = ((y14.2 == y30.2) && (y14.2 != 0)) ∧ w32 = w1) (l' := fun x => [(9, .pointer (some ⟨g24, 0, none⟩)), (50, .bool x)]) ?_ ?_
       ·rintro _ _ ⟨rfl, rfl⟩
        refine sr_ev (v := .bool ((y14.2 == y30.2) && (y14.2 != 0))) (ev_move rfl) (by decide) ?_
        refine sr_join (m := 3) (C := fun (x : Bool) w1 => x = (false) ∧ w32 = w1) (l' := fun x => [(54, .bool x)]) ?_ ?_
        ·rintro _ _ ⟨rfl, rfl⟩
         refine sr_ev (v := .bool false) (ev_move rfl) (by decide) ?_
         refine sr_pass (e := 55) rfl rfl rfl (by decide) ?_
         refine sr_ev (v := .bool false) (ev_pick_f rfl rfl rfl) (by decide) ?_
         refine sr_ev (v := .bool false) (ev_assign rfl) (by decide) ?_
         refine sr_end (l' := [(8, .bool false)]) (.cons rfl (.nil _)) ?_
         cases hS
         exact ke_ret1 Tryd.func6 rfl rfl ⟨_, rfl, rfl, (hb.below (flat1_le _))⟩
        ·intro K70
         rcases Bool.eq_false_or_eq_true ((y14.2 == y30.2) && (y14.2 != 0)) with hg69 | hg69
         all_goals try have hj72 : Tr ρ37 w32 (fun _ => false) ρ37 w32 := Tr.refl hb.bd
         ·refine sr_evg (b := true) (e := 51) rfl rfl hg69 (v := .pointer (some ⟨g24, 0, none⟩)) (ev_move rfl) (by decide) ?_
          refine sr_evg (b := true) (e := 51) rfl rfl hg69 (v := .bool false) (ev_peqT_some Tryd.underlying39 rfl rfl) (by decide) ?_
          refine sr_ev (v := .bool false) (ev_pick_t rfl hg69 rfl) (by decide) ?_
          exact sr_weaken (l' := [(54, .bool false)]) (.cons rfl (.nil _)) (K70 false _ ⟨by first | (rw [hg69]; rfl) | rfl, rfl⟩)
         ·refine sr_pass (e := 51) rfl rfl (by rw [hg69]; rfl) (by decide) ?_
          refine sr_pass (e := 51) rfl rfl (by rw [hg69]; rfl) (by decide) ?_
          refine sr_ev (v := .bool false) (ev_pick_f rfl hg69 rfl) (by decide) ?_
          exact sr_weaken (l' := [(54, .bool false)]) (.cons rfl (.nil _)) (K70 false _ ⟨by first | (rw [hg69]; rfl) | rfl, rfl⟩)
       ·intro K62
        rcases Bool.eq_false_or_eq_true (y14.2 == y30.2) with hg61 | hg61
        all_goals try have hj64 : Tr ρ37 w32 (fun _ => false) ρ37 w32 := Tr.refl hb.bd
        ·refine sr_evg (b := true) (e := 47) rfl rfl hg61 (v := .int .i64 y14.2) (ev_move rfl) (by decide) ?_
         refine sr_evg (b := true) (e := 47) rfl rfl hg61 (v := .bool (y14.2 != 0)) (ev_ne rfl rfl) (by decide) ?_
         refine sr_ev (v := .bool (y14.2 != 0)) (ev_pick_t rfl hg61 rfl) (by decide) ?_
         exact sr_weaken (l' := [(9, .pointer (some ⟨g24, 0, none⟩)), (50, .bool (y14.2 != 0))]) (.cons rfl (.cons rfl (.nil _))) (K62 (y14.2 != 0) _ ⟨by first | (rw [hg61]; rfl) | rfl, rfl⟩)
        ·refine sr_pass (e := 47) rfl rfl (by rw [hg61]; rfl) (by decide) ?_
         refine sr_pass (e := 47) rfl rfl (by rw [hg61]; rfl) (by decide) ?_
         refine sr_ev (v := .bool false) (ev_pick_f rfl hg61 rfl) (by decide) ?_
         exact sr_weaken (l' := [(9, .pointer (some ⟨g24, 0, none⟩)), (50, .bool false)]) (.cons rfl (.cons rfl (.nil _))) (K62 false _ ⟨by first | (rw [hg61]; rfl) | rfl, rfl⟩)
      ·replace hS := ite_false' hS hc60
       refine ke_skip ?_
       refine ke_seq ?_
       refine ke_seq ?_
       refine ke_region ?_
       refine sr_ev (v := .int .i64 0) (ev_assign rfl) (by decide) ?_
       refine sr_end (l' := [(3, v1), (9, .pointer (some ⟨g24, 0, none⟩)), (11, .pointer (some ⟨g40, 0, none⟩)), (13, .int .i64 0)]) (.cons rfl (.cons rfl (.cons rfl (.cons rfl (.nil _))))) ?_
       refine ke_block ?_
       have hK := law22_SecretLocks_L1_ok hg hbd hz _ hS hb h2 ⟨_, _, hB29, h26, hR28⟩ ⟨_, hB43, h42⟩
       exact ke_weaken (l' := [(3, v1), (9, .pointer (some ⟨g24, 0, none⟩)), (11, .pointer (some ⟨g40, 0, none⟩)), (13, .int .i64 0)]) (.cons rfl (.cons rfl (.cons rfl (.cons rfl (.nil _))))) (ke_loop hK)
     ·intro K53
      rcases Bool.eq_false_or_eq_true ((y14.2 != y30.2) || (y14.2 != 0)) with hg52 | hg52
      all_goals try have hj55 : Tr ρ37 w32 (fun _ => false) ρ37 w32 := Tr.refl hb.bd
      ·refine sr_pass (e := 40) rfl rfl (by rw [hg52]; rfl) (by decide) ?_
       refine sr_pass (e := 40) rfl rfl (by rw [hg52]; rfl) (by decide) ?_
       refine sr_ev (v := .bool true) (ev_pick_t rfl hg52 rfl) (by decide) ?_
       exact sr_weaken (l' := [(3, v1), (9, .pointer (some ⟨g24, 0, none⟩)), (10, .int .i64 y14.2), (11, .pointer (some ⟨g40, 0, none⟩)), (12, .int .i64 y30.2), (43, .bool true)]) (.cons rfl (.cons rfl (.cons rfl (.cons rfl (.cons rfl (.cons rfl (.nil _))))))) (K53 true _ ⟨by first | (rw [hg52]; rfl) | rfl, rfl⟩)
      ·refine sr_evg (b := false) (e := 40) rfl rfl hg52 (v := .pointer (some ⟨g24, 0, none⟩)) (ev_move rfl) (by decide) ?_
       refine sr_evg (b := false) (e := 40) rfl rfl hg52 (v := .bool false) (ev_peqT_some Tryd.underlying39 rfl rfl) (by decide) ?_
       refine sr_ev (v := .bool false) (ev_pick_f rfl hg52 rfl) (by decide) ?_
       exact sr_weaken (l' := [(3, v1), (9, .pointer (some ⟨g24, 0, none⟩)), (10, .int .i64 y14.2), (11, .pointer (some ⟨g40, 0, none⟩)), (12, .int .i64 y30.2), (43, .bool false)]) (.cons rfl (.cons rfl (.cons rfl (.cons rfl (.cons rfl (.cons rfl (.nil _))))))) (K53 false _ ⟨by first | (rw [hg52]; rfl) | rfl, rfl⟩)
    ·intro K45
     rcases Bool.eq_false_or_eq_true (y14.2 != y30.2) with hg44 | hg44
     all_goals try have hj47 : Tr ρ37 w32 (fun _ => false) ρ37 w32 := Tr.refl hb.bd
     ·refine sr_pass (e := 36) rfl rfl (by rw [hg44]; rfl) (by decide) ?_
      refine sr_pass (e := 36) rfl rfl (by rw [hg44]; rfl) (by decide) ?_
      refine sr_ev (v := .bool true) (ev_pick_t rfl hg44 rfl) (by decide) ?_
      exact sr_weaken (l' := [(3, v1), (9, .pointer (some ⟨g24, 0, none⟩)), (10, .int .i64 y14.2), (11, .pointer (some ⟨g40, 0, none⟩)), (12, .int .i64 y30.2), (39, .bool true)]) (.cons rfl (.cons rfl (.cons rfl (.cons rfl (.cons rfl (.cons rfl (.nil _))))))) (K45 true _ ⟨by first | (rw [hg44]; rfl) | rfl, rfl⟩)
     ·refine sr_evg (b := false) (e := 36) rfl rfl hg44 (v := .int .i64 y14.2) (ev_move rfl) (by decide) ?_
      refine sr_evg (b := false) (e := 36) rfl rfl hg44 (v := .bool (y14.2 != 0)) (ev_ne rfl rfl) (by decide) ?_
      refine sr_ev (v := .bool (y14.2 != 0)) (ev_pick_f rfl hg44 rfl) (by decide) ?_
      exact sr_weaken (l' := [(3, v1), (9, .pointer (some ⟨g24, 0, none⟩)), (10, .int .i64 y14.2), (11, .pointer (some ⟨g40, 0, none⟩)), (12, .int .i64 y30.2), (39, .bool (y14.2 != 0))]) (.cons rfl (.cons rfl (.cons rfl (.cons rfl (.cons rfl (.cons rfl (.nil _))))))) (K45 (y14.2 != 0) _ ⟨by first | (rw [hg44]; rfl) | rfl, rfl⟩)
end YteifnoehmfjogaaDoor
end Go.Proofs
