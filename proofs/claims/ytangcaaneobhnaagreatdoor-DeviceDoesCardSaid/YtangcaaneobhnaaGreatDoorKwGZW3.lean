/- Own work: a part of the proofs of this seat. -/
import Derived.Test.YtangcaaneobhnaaGreatDoorProg
import Derived.Test.YtangcaaneobhnaaGreatDoorShelf
import Derived.Test.YtangcaaneobhnaaGreatDoorKwGZS
import Derived.KernelRfl
import Derived.Test.YtangcaaneobhnaaGreatDoorKwGZW2
set_option linter.unusedVariables false
set_option linter.unusedSimpArgs false
set_option linter.unusedSectionVars false
set_option maxHeartbeats 8000000
set_option maxRecDepth 8000
namespace Go.Proofs
namespace YtangcaaneobhnaaGreatDoor
open Go Go.KW Go.KW.S Go.RowKit
theorem ref37_Devices_Revoke_ok (w0 : World) (hg : Gs w0) {ρA : Tags} (hbd : ∀ b, ρA b ≠ 0 → b < w0.heap.size) (hz : Gz ρA) {o : Nat} (ho2 : 2 ≤ o) {d_0 : ref37_Devices} {user_1 : Str} {id_2 : Str} {gd_0 : Nat} {r : Bool × ref37_Devices} (ho0 : ref37_Devices.O (fun p => o + p) ρA w0 gd_0 d_0) (hS : ref37_Devices_Revoke d_0 user_1 id_2 = some r) :
  Calls Tryz.prog 26 #[.pointer (some ⟨gd_0, 0, none⟩), str user_1, str id_2] w0 (Ret (fun v w' => ∃ ρ', v = .bool r.1 ∧ ref37_Devices.O (fun p => o + p) ρ' w' gd_0 r.2 ∧ Tr ρA w0 (rng o 2) ρ' w')) := by
 unfold ref37_Devices_Revoke at hS
 have hb := enter_fr (ρ := ρA) (w := w0) (n := 2) ho2 hbd
 have hz := hz.enter (n := 2) ho2
 obtain ⟨v1, hB3, h2⟩ := ho0
 replace hB3 := hB3.mv (enter_mv (p := 0) (n := 2) (by decide) ho2)
 replace h2 := h2.mv (enter_mv (p := 1) (n := 2) (by decide) ho2) (by decide)
 replace hB3 : Blk (enter ρA o 2) 100 w0 gd_0 (.cells #[v1, .int .i64 d_0.N] 55 (0, 0)) := hB3
 replace h2 : OwnT ref37_Device.c 70 (enter ρA o 2) 101 w0 v1 d_0.L := h2
 refine calls_of_ke Tryz.func26 rfl (n := 33) rfl rfl (l := [(0, .pointer (some ⟨gd_0, 0, none⟩)), (1, str user_1), (2, str id_2)]) rfl ?_
 refine ke_seq ?_
 refine ke_region ?_
 refine sr_ev (v := .bool false) (ev_assign rfl) (by decide) ?_
 refine sr_end (l' := [(0, .pointer (some ⟨gd_0, 0, none⟩)), (1, str user_1), (2, str id_2)]) (.cons rfl (.cons rfl (.cons rfl (.nil _)))) ?_
 refine ke_seq ?_
 refine ke_region ?_
 refine sr_ev (v := .pointer (some ⟨gd_0, 0, none⟩)) (ev_move rfl) (by decide) ?_
 refine sr_ev (v := str user_1) (ev_move rfl) (by decide) ?_
 refine sr_ev (v := str id_2) (ev_move rfl) (by decide) ?_
 obtain ⟨y4, hy5, hS⟩ := bind_some' hS
 refine sr_call (vs := [.pointer (some ⟨gd_0, 0, none⟩), str user_1, str id_2]) rfl Tryz.call42 rfl (ref37_Devices_find_ok _ (hg.fr hz hb) (ρA := (enter ρA o 2)) hb.bd (hz.fr hg hb) (τ0 := (fun p => 100 + p)) (fun p => Nat.le_add_right_of_le (by decide)) (⟨_, hB3, h2⟩ : ref37_Devices.O (fun p => 100 + p) (enter ρA o 2) w0 gd_0 d_0) hy5) (by decide) ?_
 rintro _ w6 ⟨rfl, hbw7⟩
 have htr8 := Tr.of_below hbw7 hb.bd
 replace hB3 := hB3.mv (htr8.mv (i := 100) rfl)
 replace h2 := h2.mv (htr8.mv (i := 101) rfl) (by decide)
 replace hb := hb.trans htr8
 refine sr_ev (v := .int .i64 y4) (ev_assign rfl) (by decide) ?_
 refine sr_end (l' := [(0, .pointer (some ⟨gd_0, 0, none⟩)), (7, .int .i64 y4)]) (.cons rfl (.cons rfl (.nil _))) ?_
 refine ke_seq ?_
 refine ke_seq ?_
 refine ke_region ?_
 refine sr_ev (v := .int .i64 y4) (ev_move rfl) (by decide) ?_
 refine sr_ev (v := .bool (decide (y4 < 0))) (ev_lt rfl rfl) (by decide) ?_
 refine sr_end (l' := [(0, .pointer (some ⟨gd_0, 0, none⟩)), (7, .int .i64 y4), (13, .bool (decide (y4 < 0)))]) (.cons rfl (.cons rfl (.cons rfl (.nil _)))) ?_
 refine ke_cond (t := decide (y4 < 0)) rfl (fun hc9 => ?_) (fun hc9 => ?_)
 ·replace hS := ite_true' hS hc9
  refine ke_seq ?_
  refine ke_region ?_
  refine sr_ev (v := .bool false) (ev_assign rfl) (by decide) ?_
  refine sr_end (l' := [(6, .bool false)]) (.cons rfl (.nil _)) ?_
  cases hS
  exact ke_ret1 Tryz.func26 rfl rfl ⟨_, rfl, leave ρA w0 o 2 (enter ρA o 2), rfl, ⟨_, (hB3.mv (leave_mv (p := 0) (by decide) hb)), (h2.mv (leave_mv (p := 1) (by decide) hb) (Nat.ne_of_gt (Nat.lt_of_lt_of_le (Nat.lt_of_lt_of_le Nat.zero_lt_two ho2) (Nat.le_add_right _ _))))⟩, (leave_tr ho2 hb)⟩
 ·replace hS := ite_false' hS hc9
  refine ke_skip ?_
  refine ke_seq ?_
  refine ke_region_j (ρ := (enter ρA o 2)) (fun t => ([17, 100] : List Nat).contains t) 20 Tryz.mixed (fun w11 hw10 => ?_)
  have htr12 := Tr.of_below hw10 hb.bd
  replace hB3 := hB3.mv (htr12.mv (i := 100) rfl)
  replace h2 := h2.mv (htr12.mv (i := 101) rfl) (by decide)
  replace hb := hb.trans htr12
  refine dj_H 0 (v := .pointer (some ⟨gd_0, 0, none⟩)) (by kernel_rfl) (by kernel_rfl) rfl (fun _ _ _ h => h) (sj_refl hb.bd rfl rfl) (fun w1 ρ1 hw1 => ev_move rfl) (by decide) ?_
  refine dj_H 2 (v := .pointer (some ⟨gd_0, 0, none⟩)) (by kernel_rfl) (by kernel_rfl) rfl (fun _ _ _ h => h) (sj_refl hb.bd rfl rfl) (fun w1 ρ1 hw1 => ev_move rfl) (by decide) ?_
  refine dj_H 3 (v := .pointer (some ⟨gd_0, 0, none⟩)) (by kernel_rfl) (by kernel_rfl) rfl (fun _ _ _ h => h) (sj_refl hb.bd rfl rfl) (fun w1 ρ1 hw1 => ev_nilCheck rfl) (by decide) ?_
  refine dj_H 4 (v := .pointer (some ⟨gd_0, 0, none⟩)) (by kernel_rfl) (by kernel_rfl) rfl (fun _ _ _ h => h) (sj_refl hb.bd rfl rfl) (fun w1 ρ1 hw1 => ev_fieldAddr (i := 0) Tryz.underlying55 rfl Tryz.info53 rfl rfl) (by decide) ?_
  refine dj_H 6 (v := .int .i64 y4) (by kernel_rfl) (by kernel_rfl) rfl (fun _ _ _ h => h) (sj_refl hb.bd rfl rfl) (fun w1 ρ1 hw1 => ev_move rfl) (by decide) ?_
  refine dj_H 9 (v := .pointer (some ⟨gd_0, 0, none⟩)) (by kernel_rfl) (by kernel_rfl) rfl (fun _ _ _ h => h) (sj_refl hb.bd rfl rfl) (fun w1 ρ1 hw1 => ev_move rfl) (by decide) ?_
  refine dj_H 10 (v := .pointer (some ⟨gd_0, 0, none⟩)) (by kernel_rfl) (by kernel_rfl) rfl (fun _ _ _ h => h) (sj_refl hb.bd rfl rfl) (fun w1 ρ1 hw1 => ev_nilCheck rfl) (by decide) ?_
  refine dj_H 11 (v := .pointer (some ⟨gd_0, 0, none⟩)) (by kernel_rfl) (by kernel_rfl) rfl (fun _ _ _ h => h) (sj_refl hb.bd rfl rfl) (fun w1 ρ1 hw1 => ev_fieldAddr (i := 0) Tryz.underlying55 rfl Tryz.info53 rfl rfl) (by decide) ?_
  refine dj_H 13 (v := .int .i64 y4) (by kernel_rfl) (by kernel_rfl) rfl (fun _ _ _ h => h) (sj_refl hb.bd rfl rfl) (fun w1 ρ1 hw1 => ev_move rfl) (by decide) ?_
  refine dj_H 14 (v := .int .i64 (IntKind.i64.wrap (y4 + 1))) (by kernel_rfl) (by kernel_rfl) rfl (fun _ _ _ h => h) (sj_refl hb.bd rfl rfl) (fun w1 ρ1 hw1 => ev_add rfl rfl) (by decide) ?_
  obtain ⟨hk278, hS⟩ := chk_some hS
  obtain ⟨hk283, hS⟩ := chk_some hS
  obtain ⟨hk290, hS⟩ := chk_some hS
  obtain ⟨hk295, hS⟩ := chk_some hS
  refine dj_all [1, 5, 12] (by kernel_rfl) (fun i hi => ?_)
  simp only [List.mem_cons, List.not_mem_nil, or_false] at hi
  rcases hi with rfl | rfl | rfl
  ·refine ⟨_, rfl, ?_⟩
   have jt304 : Tr (enter ρA o 2) w11 (fun t => ([17, 100] : List Nat).contains t) (enter ρA o 2) w11 := (Tr.refl hb.bd).weak (fun _ _ => rfl) rfl rfl
   refine sr_litOwnT (i := 17) (c := ref37_Device.c) (ρ := (enter ρA o 2)) (E := 70) (xs := []) (vs := #[]) (cs := #[]) (css := []) rfl (fun _ => by kernel_rfl) rfl trivial rfl (by decide) (by decide) hb.bd (by decide) ?_
   intro v305 ρ309 w307 h306 htr308
   replace hB3 := hB3.mv (htr308.mv (i := 100) rfl)
   replace h2 := h2.mv (htr308.mv (i := 101) rfl) (by decide)
   replace hb := hb.trans htr308
   replace jt304 := (jt304.trans htr308).weak (J' := (fun t => ([17, 100] : List Nat).contains t)) (by intro t h; simp [rng] at h ⊢ <;> omega) rfl rfl
   refine dj_next (l' := [(14, .pointer (some ⟨gd_0, 0, none⟩)), (15, v305), (18, .pointer (some ⟨gd_0, 0, none⟩)), (20, .int .i64 y4), (25, .pointer (some ⟨gd_0, 0, none⟩)), (28, .int .i64 (IntKind.i64.wrap (y4 + 1)))]) rfl (.cons rfl (.cons rfl (.cons rfl (.cons rfl (.cons rfl (.cons rfl (.nil _))))))) jt304 (by intro t h; simp [rng] at h ⊢ <;> omega) rfl rfl ?_
   refine dj_all [5, 12] (by kernel_rfl) (fun i hi => ?_)
   simp only [List.mem_cons, List.not_mem_nil, or_false] at hi
   rcases hi with rfl | rfl
   ·refine ⟨_, rfl, ?_⟩
    have jt310 : Tr ρ309 w307 (fun t => ([17, 100] : List Nat).contains t) ρ309 w307 := (Tr.refl hb.bd).weak (fun _ _ => rfl) rfl rfl
    refine sr_ev (v := v1) (ev_load Tryz.isAgg53 rfl (hB3.cell rfl)) (by decide) ?_
    refine dj_next (l' := [(14, .pointer (some ⟨gd_0, 0, none⟩)), (15, v305), (19, v1), (20, .int .i64 y4), (25, .pointer (some ⟨gd_0, 0, none⟩)), (28, .int .i64 (IntKind.i64.wrap (y4 + 1)))]) rfl (.cons rfl (.cons rfl (.cons rfl (.cons rfl (.cons rfl (.cons rfl (.nil _))))))) jt310 (by intro t h; simp [rng] at h ⊢ <;> omega) rfl rfl ?_
    obtain ⟨v311, h312, hq313⟩ := (h2.sl).cutT_h (P := Tryz.prog) Tryz.underlying53 Tryz.info70 rfl hk278
    refine dj_H 7 (v := v311) (by kernel_rfl) (by kernel_rfl) rfl (fun _ _ _ h => h) (sj_refl hb.bd rfl rfl) (fun w1 ρ1 hw1 => hq313 w1 rfl rfl) (by decide) ?_
    refine dj_all [8, 12] (by kernel_rfl) (fun i hi => ?_)
    simp only [List.mem_cons, List.not_mem_nil, or_false] at hi
    rcases hi with rfl | rfl
    ·refine ⟨_, rfl, ?_⟩
     have jt314 : Tr ρ309 w307 (fun t => ([17, 100] : List Nat).contains t) ρ309 w307 := (Tr.refl hb.bd).weak (fun _ _ => rfl) rfl rfl
     refine sr_appendT (i := 17) (c := ref37_Device.c) (ρ := ρ309) (E := 70) (xs := ([] : List ref37_Device)) (ys := cut d_0.L 0 y4) h306 (h312).x Tryz.underlying53 Tryz.info70 rfl rfl rfl (by decide) (by decide) (by decide) hb.bd hk283 rfl rfl (by decide) ?_
     intro v315 ρ317 w318 h316 htr319
     replace hB3 := hB3.mv (htr319.mv (i := 100) rfl)
     replace h2 := h2.mv (htr319.mv (i := 101) rfl) (by decide)
     replace hb := hb.trans htr319
     replace jt314 := (jt314.trans htr319).weak (J' := (fun t => ([17, 100] : List Nat).contains t)) (by intro t h; simp [rng] at h ⊢ <;> omega) rfl rfl
     refine dj_next (l' := [(14, .pointer (some ⟨gd_0, 0, none⟩)), (22, v315), (25, .pointer (some ⟨gd_0, 0, none⟩)), (28, .int .i64 (IntKind.i64.wrap (y4 + 1)))]) rfl (.cons rfl (.cons rfl (.cons rfl (.cons rfl (.nil _))))) jt314 (by intro t h; simp [rng] at h ⊢ <;> omega) rfl rfl ?_
     refine dj_E 12 (by kernel_rfl) rfl ?_
     have jt320 : Tr ρ317 w318 (fun t => ([17, 100] : List Nat).contains t) ρ317 w318 := (Tr.refl hb.bd).weak (fun _ _ => rfl) rfl rfl
     refine sr_ev (v := v1) (ev_load Tryz.isAgg53 rfl (hB3.cell rfl)) (by decide) ?_
     refine dj_next (l' := [(14, .pointer (some ⟨gd_0, 0, none⟩)), (22, v315), (26, v1), (28, .int .i64 (IntKind.i64.wrap (y4 + 1)))]) rfl (.cons rfl (.cons rfl (.cons rfl (.cons rfl (.nil _))))) jt320 (by intro t h; simp [rng] at h ⊢ <;> omega) rfl rfl ?_
     obtain ⟨v321, h322, hq323⟩ := (h2.sl).cutT_l (P := Tryz.prog) Tryz.underlying53 Tryz.info70 rfl hk290
     refine dj_H 15 (v := v321) (by kernel_rfl) (by kernel_rfl) rfl (fun _ _ _ h => h) (sj_refl hb.bd rfl rfl) (fun w1 ρ1 hw1 => hq323 w1 rfl rfl) (by decide) ?_
     refine dj_E 16 (by kernel_rfl) rfl ?_
     have jt324 : Tr ρ317 w318 (fun t => ([17, 100] : List Nat).contains t) ρ317 w318 := (Tr.refl hb.bd).weak (fun _ _ => rfl) rfl rfl
     refine sr_appendT (i := 17) (c := ref37_Device.c) (ρ := ρ317) (E := 70) (xs := ([] : List ref37_Device) ++ (cut d_0.L 0 y4)) (ys := cut d_0.L (IntKind.i64.wrap (y4 + 1)) d_0.L.length) h316 (h322).x Tryz.underlying53 Tryz.info70 rfl rfl rfl (by decide) (by decide) (by decide) hb.bd hk295 rfl rfl (by decide) ?_
     intro v325 ρ327 w328 h326 htr329
     replace hB3 := hB3.mv (htr329.mv (i := 100) rfl)
     replace h2 := h2.mv (htr329.mv (i := 101) rfl) (by decide)
     replace hb := hb.trans htr329
     replace jt324 := (jt324.trans htr329).weak (J' := (fun t => ([17, 100] : List Nat).contains t)) (by intro t h; simp [rng] at h ⊢ <;> omega) rfl rfl
     refine dj_next (l' := [(14, .pointer (some ⟨gd_0, 0, none⟩)), (30, v325)]) rfl (.cons rfl (.cons rfl (.nil _))) jt324 (by intro t h; simp [rng] at h ⊢ <;> omega) rfl rfl ?_
     refine dj_H 17 (v := .pointer (some ⟨gd_0, 0, none⟩)) (by kernel_rfl) (by kernel_rfl) rfl (fun _ _ _ h => h) (sj_refl hb.bd rfl rfl) (fun w1 ρ1 hw1 => ev_nilCheck rfl) (by decide) ?_
     refine dj_H 18 (v := .pointer (some ⟨gd_0, 0, none⟩)) (by kernel_rfl) (by kernel_rfl) rfl (fun _ _ _ h => h) (sj_refl hb.bd rfl rfl) (fun w1 ρ1 hw1 => ev_fieldAddr (i := 0) Tryz.underlying55 rfl Tryz.info53 rfl rfl) (by decide) ?_
     refine dj_E 19 (by kernel_rfl) rfl ?_
     have jt330 : Tr ρ327 w328 (fun t => ([17, 100] : List Nat).contains t) ρ327 w328 := (Tr.refl hb.bd).weak (fun _ _ => rfl) rfl rfl
     refine sr_storeT (v := v325) (vs := [v325]) (cs' := #[v325, .int .i64 d_0.N]) hB3 (by decide) hb.bd rfl rfl (one_cells (OwnT.oneCell h326)) Tryz.sizeOf53 rfl (by first | rfl | (simp only [List.all_cons, List.all_nil, OwnT.oneCell h326]; done) | (simp only [List.all_cons, List.all_nil, OwnT.oneCell h326]; rfl)) rfl ?_
     intro w331 hB31 htr332
     replace h326 := h326.mv (htr332.mv (i := 17) rfl) (by decide)
     replace hb := hb.trans htr332
     replace jt330 := (jt330.trans htr332).weak (J' := (fun t => ([17, 100] : List Nat).contains t)) (by intro t h; simp [rng] at h ⊢ <;> omega) rfl rfl
     replace hB3 : Blk ρ327 100 w331 gd_0 (.cells #[v325, .int .i64 d_0.N] 55 (0, 0)) := hB31
     clear hB31
     refine dj_next (l' := []) rfl (.nil _) jt330 (by intro t h; simp [rng] at h ⊢ <;> omega) rfl rfl ?_
     refine dj_done rfl (by kernel_rfl) ?_
     refine ke_weaken (l' := []) (.nil _) ?_
     have hK := ref37_Devices_Revoke_B1_ok hg hbd ho2 hz hS hb h326 hB3
     exact ke_weaken (l' := []) (.nil _) hK
    ·refine ⟨_, rfl, ?_⟩
     have jt335 : Tr ρ309 w307 (fun t => ([17, 100] : List Nat).contains t) ρ309 w307 := (Tr.refl hb.bd).weak (fun _ _ => rfl) rfl rfl
     refine sr_ev (v := v1) (ev_load Tryz.isAgg53 rfl (hB3.cell rfl)) (by decide) ?_
     refine dj_next (l' := [(14, .pointer (some ⟨gd_0, 0, none⟩)), (15, v305), (21, v311), (26, v1), (28, .int .i64 (IntKind.i64.wrap (y4 + 1)))]) rfl (.cons rfl (.cons rfl (.cons rfl (.cons rfl (.cons rfl (.nil _)))))) jt335 (by intro t h; simp [rng] at h ⊢ <;> omega) rfl rfl ?_
     obtain ⟨v336, h337, hq338⟩ := (h2.sl).cutT_l (P := Tryz.prog) Tryz.underlying53 Tryz.info70 rfl hk290
     refine dj_H 15 (v := v336) (by kernel_rfl) (by kernel_rfl) rfl (fun _ _ _ h => h) (sj_refl hb.bd rfl rfl) (fun w1 ρ1 hw1 => hq338 w1 rfl rfl) (by decide) ?_
     refine dj_E 8 (by kernel_rfl) rfl ?_
     have jt339 : Tr ρ309 w307 (fun t => ([17, 100] : List Nat).contains t) ρ309 w307 := (Tr.refl hb.bd).weak (fun _ _ => rfl) rfl rfl
     refine sr_appendT (i := 17) (c := ref37_Device.c) (ρ := ρ309) (E := 70) (xs := ([] : List ref37_Device)) (ys := cut d_0.L 0 y4) h306 (h312).x Tryz.underlying53 Tryz.info70 rfl rfl rfl (by decide) (by decide) (by decide) hb.bd hk283 rfl rfl (by decide) ?_
     intro v340 ρ342 w343 h341 htr344
     replace h337 := h337.mv (htr344.mv (i := 101) rfl)
     replace hB3 := hB3.mv (htr344.mv (i := 100) rfl)
     replace h2 := h2.mv (htr344.mv (i := 101) rfl) (by decide)
     replace hb := hb.trans htr344
     replace jt339 := (jt339.trans htr344).weak (J' := (fun t => ([17, 100] : List Nat).contains t)) (by intro t h; simp [rng] at h ⊢ <;> omega) rfl rfl
     refine dj_next (l' := [(14, .pointer (some ⟨gd_0, 0, none⟩)), (22, v340), (29, v336)]) rfl (.cons rfl (.cons rfl (.cons rfl (.nil _)))) jt339 (by intro t h; simp [rng] at h ⊢ <;> omega) rfl rfl ?_
     refine dj_E 16 (by kernel_rfl) rfl ?_
     have jt345 : Tr ρ342 w343 (fun t => ([17, 100] : List Nat).contains t) ρ342 w343 := (Tr.refl hb.bd).weak (fun _ _ => rfl) rfl rfl
     refine sr_appendT (i := 17) (c := ref37_Device.c) (ρ := ρ342) (E := 70) (xs := ([] : List ref37_Device) ++ (cut d_0.L 0 y4)) (ys := cut d_0.L (IntKind.i64.wrap (y4 + 1)) d_0.L.length) h341 (h337).x Tryz.underlying53 Tryz.info70 rfl rfl rfl (by decide) (by decide) (by decide) hb.bd hk295 rfl rfl (by decide) ?_
     intro v346 ρ348 w349 h347 htr350
     replace hB3 := hB3.mv (htr350.mv (i := 100) rfl)
     replace h2 := h2.mv (htr350.mv (i := 101) rfl) (by decide)
     replace hb := hb.trans htr350
     replace jt345 := (jt345.trans htr350).weak (J' := (fun t => ([17, 100] : List Nat).contains t)) (by intro t h; simp [rng] at h ⊢ <;> omega) rfl rfl
     refine dj_next (l' := [(14, .pointer (some ⟨gd_0, 0, none⟩)), (30, v346)]) rfl (.cons rfl (.cons rfl (.nil _))) jt345 (by intro t h; simp [rng] at h ⊢ <;> omega) rfl rfl ?_
     refine dj_H 17 (v := .pointer (some ⟨gd_0, 0, none⟩)) (by kernel_rfl) (by kernel_rfl) rfl (fun _ _ _ h => h) (sj_refl hb.bd rfl rfl) (fun w1 ρ1 hw1 => ev_nilCheck rfl) (by decide) ?_
     refine dj_H 18 (v := .pointer (some ⟨gd_0, 0, none⟩)) (by kernel_rfl) (by kernel_rfl) rfl (fun _ _ _ h => h) (sj_refl hb.bd rfl rfl) (fun w1 ρ1 hw1 => ev_fieldAddr (i := 0) Tryz.underlying55 rfl Tryz.info53 rfl rfl) (by decide) ?_
     refine dj_E 19 (by kernel_rfl) rfl ?_
     have jt351 : Tr ρ348 w349 (fun t => ([17, 100] : List Nat).contains t) ρ348 w349 := (Tr.refl hb.bd).weak (fun _ _ => rfl) rfl rfl
     refine sr_storeT (v := v346) (vs := [v346]) (cs' := #[v346, .int .i64 d_0.N]) hB3 (by decide) hb.bd rfl rfl (one_cells (OwnT.oneCell h347)) Tryz.sizeOf53 rfl (by first | rfl | (simp only [List.all_cons, List.all_nil, OwnT.oneCell h347]; done) | (simp only [List.all_cons, List.all_nil, OwnT.oneCell h347]; rfl)) rfl ?_
     intro w352 hB31 htr353
     replace h347 := h347.mv (htr353.mv (i := 17) rfl) (by decide)
     replace hb := hb.trans htr353
     replace jt351 := (jt351.trans htr353).weak (J' := (fun t => ([17, 100] : List Nat).contains t)) (by intro t h; simp [rng] at h ⊢ <;> omega) rfl rfl
     replace hB3 : Blk ρ348 100 w352 gd_0 (.cells #[v346, .int .i64 d_0.N] 55 (0, 0)) := hB31
     clear hB31
     refine dj_next (l' := []) rfl (.nil _) jt351 (by intro t h; simp [rng] at h ⊢ <;> omega) rfl rfl ?_
     refine dj_done rfl (by kernel_rfl) ?_
     refine ke_weaken (l' := []) (.nil _) ?_
     have hK := ref37_Devices_Revoke_B1_ok hg hbd ho2 hz hS hb h347 hB3
     exact ke_weaken (l' := []) (.nil _) hK
   ·refine ⟨_, rfl, ?_⟩
    have jt354 : Tr ρ309 w307 (fun t => ([17, 100] : List Nat).contains t) ρ309 w307 := (Tr.refl hb.bd).weak (fun _ _ => rfl) rfl rfl
    refine sr_ev (v := v1) (ev_load Tryz.isAgg53 rfl (hB3.cell rfl)) (by decide) ?_
    refine dj_next (l' := [(14, .pointer (some ⟨gd_0, 0, none⟩)), (15, v305), (18, .pointer (some ⟨gd_0, 0, none⟩)), (20, .int .i64 y4), (26, v1), (28, .int .i64 (IntKind.i64.wrap (y4 + 1)))]) rfl (.cons rfl (.cons rfl (.cons rfl (.cons rfl (.cons rfl (.cons rfl (.nil _))))))) jt354 (by intro t h; simp [rng] at h ⊢ <;> omega) rfl rfl ?_
    obtain ⟨v355, h356, hq357⟩ := (h2.sl).cutT_l (P := Tryz.prog) Tryz.underlying53 Tryz.info70 rfl hk290
    refine dj_H 15 (v := v355) (by kernel_rfl) (by kernel_rfl) rfl (fun _ _ _ h => h) (sj_refl hb.bd rfl rfl) (fun w1 ρ1 hw1 => hq357 w1 rfl rfl) (by decide) ?_
    refine dj_E 5 (by kernel_rfl) rfl ?_
    have jt358 : Tr ρ309 w307 (fun t => ([17, 100] : List Nat).contains t) ρ309 w307 := (Tr.refl hb.bd).weak (fun _ _ => rfl) rfl rfl
    refine sr_ev (v := v1) (ev_load Tryz.isAgg53 rfl (hB3.cell rfl)) (by decide) ?_
    refine dj_next (l' := [(14, .pointer (some ⟨gd_0, 0, none⟩)), (15, v305), (19, v1), (20, .int .i64 y4), (29, v355)]) rfl (.cons rfl (.cons rfl (.cons rfl (.cons rfl (.cons rfl (.nil _)))))) jt358 (by intro t h; simp [rng] at h ⊢ <;> omega) rfl rfl ?_
    obtain ⟨v359, h360, hq361⟩ := (h2.sl).cutT_h (P := Tryz.prog) Tryz.underlying53 Tryz.info70 rfl hk278
    refine dj_H 7 (v := v359) (by kernel_rfl) (by kernel_rfl) rfl (fun _ _ _ h => h) (sj_refl hb.bd rfl rfl) (fun w1 ρ1 hw1 => hq361 w1 rfl rfl) (by decide) ?_
    refine dj_E 8 (by kernel_rfl) rfl ?_
    have jt362 : Tr ρ309 w307 (fun t => ([17, 100] : List Nat).contains t) ρ309 w307 := (Tr.refl hb.bd).weak (fun _ _ => rfl) rfl rfl
    refine sr_appendT (i := 17) (c := ref37_Device.c) (ρ := ρ309) (E := 70) (xs := ([] : List ref37_Device)) (ys := cut d_0.L 0 y4) h306 (h360).x Tryz.underlying53 Tryz.info70 rfl rfl rfl (by decide) (by decide) (by decide) hb.bd hk283 rfl rfl (by decide) ?_
    intro v363 ρ365 w366 h364 htr367
    replace h356 := h356.mv (htr367.mv (i := 101) rfl)
    replace hB3 := hB3.mv (htr367.mv (i := 100) rfl)
    replace h2 := h2.mv (htr367.mv (i := 101) rfl) (by decide)
    replace hb := hb.trans htr367
    replace jt362 := (jt362.trans htr367).weak (J' := (fun t => ([17, 100] : List Nat).contains t)) (by intro t h; simp [rng] at h ⊢ <;> omega) rfl rfl
    refine dj_next (l' := [(14, .pointer (some ⟨gd_0, 0, none⟩)), (22, v363), (29, v355)]) rfl (.cons rfl (.cons rfl (.cons rfl (.nil _)))) jt362 (by intro t h; simp [rng] at h ⊢ <;> omega) rfl rfl ?_
    refine dj_E 16 (by kernel_rfl) rfl ?_
    have jt368 : Tr ρ365 w366 (fun t => ([17, 100] : List Nat).contains t) ρ365 w366 := (Tr.refl hb.bd).weak (fun _ _ => rfl) rfl rfl
    refine sr_appendT (i := 17) (c := ref37_Device.c) (ρ := ρ365) (E := 70) (xs := ([] : List ref37_Device) ++ (cut d_0.L 0 y4)) (ys := cut d_0.L (IntKind.i64.wrap (y4 + 1)) d_0.L.length) h364 (h356).x Tryz.underlying53 Tryz.info70 rfl rfl rfl (by decide) (by decide) (by decide) hb.bd hk295 rfl rfl (by decide) ?_
    intro v369 ρ371 w372 h370 htr373
    replace hB3 := hB3.mv (htr373.mv (i := 100) rfl)
    replace h2 := h2.mv (htr373.mv (i := 101) rfl) (by decide)
    replace hb := hb.trans htr373
    replace jt368 := (jt368.trans htr373).weak (J' := (fun t => ([17, 100] : List Nat).contains t)) (by intro t h; simp [rng] at h ⊢ <;> omega) rfl rfl
    refine dj_next (l' := [(14, .pointer (some ⟨gd_0, 0, none⟩)), (30, v369)]) rfl (.cons rfl (.cons rfl (.nil _))) jt368 (by intro t h; simp [rng] at h ⊢ <;> omega) rfl rfl ?_
    refine dj_H 17 (v := .pointer (some ⟨gd_0, 0, none⟩)) (by kernel_rfl) (by kernel_rfl) rfl (fun _ _ _ h => h) (sj_refl hb.bd rfl rfl) (fun w1 ρ1 hw1 => ev_nilCheck rfl) (by decide) ?_
    refine dj_H 18 (v := .pointer (some ⟨gd_0, 0, none⟩)) (by kernel_rfl) (by kernel_rfl) rfl (fun _ _ _ h => h) (sj_refl hb.bd rfl rfl) (fun w1 ρ1 hw1 => ev_fieldAddr (i := 0) Tryz.underlying55 rfl Tryz.info53 rfl rfl) (by decide) ?_
    refine dj_E 19 (by kernel_rfl) rfl ?_
    have jt374 : Tr ρ371 w372 (fun t => ([17, 100] : List Nat).contains t) ρ371 w372 := (Tr.refl hb.bd).weak (fun _ _ => rfl) rfl rfl
    refine sr_storeT (v := v369) (vs := [v369]) (cs' := #[v369, .int .i64 d_0.N]) hB3 (by decide) hb.bd rfl rfl (one_cells (OwnT.oneCell h370)) Tryz.sizeOf53 rfl (by first | rfl | (simp only [List.all_cons, List.all_nil, OwnT.oneCell h370]; done) | (simp only [List.all_cons, List.all_nil, OwnT.oneCell h370]; rfl)) rfl ?_
    intro w375 hB31 htr376
    replace h370 := h370.mv (htr376.mv (i := 17) rfl) (by decide)
    replace hb := hb.trans htr376
    replace jt374 := (jt374.trans htr376).weak (J' := (fun t => ([17, 100] : List Nat).contains t)) (by intro t h; simp [rng] at h ⊢ <;> omega) rfl rfl
    replace hB3 : Blk ρ371 100 w375 gd_0 (.cells #[v369, .int .i64 d_0.N] 55 (0, 0)) := hB31
    clear hB31
    refine dj_next (l' := []) rfl (.nil _) jt374 (by intro t h; simp [rng] at h ⊢ <;> omega) rfl rfl ?_
    refine dj_done rfl (by kernel_rfl) ?_
    refine ke_weaken (l' := []) (.nil _) ?_
    have hK := ref37_Devices_Revoke_B1_ok hg hbd ho2 hz hS hb h370 hB3
    exact ke_weaken (l' := []) (.nil _) hK
  ·refine ⟨_, rfl, ?_⟩
   have jt377 : Tr (enter ρA o 2) w11 (fun t => ([17, 100] : List Nat).contains t) (enter ρA o 2) w11 := (Tr.refl hb.bd).weak (fun _ _ => rfl) rfl rfl
   refine sr_ev (v := v1) (ev_load Tryz.isAgg53 rfl (hB3.cell rfl)) (by decide) ?_
   refine dj_next (l' := [(14, .pointer (some ⟨gd_0, 0, none⟩)), (19, v1), (20, .int .i64 y4), (25, .pointer (some ⟨gd_0, 0, none⟩)), (28, .int .i64 (IntKind.i64.wrap (y4 + 1)))]) rfl (.cons rfl (.cons rfl (.cons rfl (.cons rfl (.cons rfl (.nil _)))))) jt377 (by intro t h; simp [rng] at h ⊢ <;> omega) rfl rfl ?_
   obtain ⟨v378, h379, hq380⟩ := (h2.sl).cutT_h (P := Tryz.prog) Tryz.underlying53 Tryz.info70 rfl hk278
   refine dj_H 7 (v := v378) (by kernel_rfl) (by kernel_rfl) rfl (fun _ _ _ h => h) (sj_refl hb.bd rfl rfl) (fun w1 ρ1 hw1 => hq380 w1 rfl rfl) (by decide) ?_
   refine dj_all [1, 12] (by kernel_rfl) (fun i hi => ?_)
   simp only [List.mem_cons, List.not_mem_nil, or_false] at hi
   rcases hi with rfl | rfl
   ·refine ⟨_, rfl, ?_⟩
    have jt381 : Tr (enter ρA o 2) w11 (fun t => ([17, 100] : List Nat).contains t) (enter ρA o 2) w11 := (Tr.refl hb.bd).weak (fun _ _ => rfl) rfl rfl
    refine sr_litOwnT (i := 17) (c := ref37_Device.c) (ρ := (enter ρA o 2)) (E := 70) (xs := []) (vs := #[]) (cs := #[]) (css := []) rfl (fun _ => by kernel_rfl) rfl trivial rfl (by decide) (by decide) hb.bd (by decide) ?_
    intro v382 ρ386 w384 h383 htr385
    replace h379 := h379.mv (htr385.mv (i := 101) rfl)
    replace hB3 := hB3.mv (htr385.mv (i := 100) rfl)
    replace h2 := h2.mv (htr385.mv (i := 101) rfl) (by decide)
    replace hb := hb.trans htr385
    replace jt381 := (jt381.trans htr385).weak (J' := (fun t => ([17, 100] : List Nat).contains t)) (by intro t h; simp [rng] at h ⊢ <;> omega) rfl rfl
    refine dj_next (l' := [(14, .pointer (some ⟨gd_0, 0, none⟩)), (15, v382), (21, v378), (25, .pointer (some ⟨gd_0, 0, none⟩)), (28, .int .i64 (IntKind.i64.wrap (y4 + 1)))]) rfl (.cons rfl (.cons rfl (.cons rfl (.cons rfl (.cons rfl (.nil _)))))) jt381 (by intro t h; simp [rng] at h ⊢ <;> omega) rfl rfl ?_
    refine dj_all [8, 12] (by kernel_rfl) (fun i hi => ?_)
    simp only [List.mem_cons, List.not_mem_nil, or_false] at hi
    rcases hi with rfl | rfl
    ·refine ⟨_, rfl, ?_⟩
     have jt387 : Tr ρ386 w384 (fun t => ([17, 100] : List Nat).contains t) ρ386 w384 := (Tr.refl hb.bd).weak (fun _ _ => rfl) rfl rfl
     refine sr_appendT (i := 17) (c := ref37_Device.c) (ρ := ρ386) (E := 70) (xs := ([] : List ref37_Device)) (ys := cut d_0.L 0 y4) h383 (h379).x Tryz.underlying53 Tryz.info70 rfl rfl rfl (by decide) (by decide) (by decide) hb.bd hk283 rfl rfl (by decide) ?_
     intro v388 ρ390 w391 h389 htr392
     replace hB3 := hB3.mv (htr392.mv (i := 100) rfl)
     replace h2 := h2.mv (htr392.mv (i := 101) rfl) (by decide)
     replace hb := hb.trans htr392
     replace jt387 := (jt387.trans htr392).weak (J' := (fun t => ([17, 100] : List Nat).contains t)) (by intro t h; simp [rng] at h ⊢ <;> omega) rfl rfl
     refine dj_next (l' := [(14, .pointer (some ⟨gd_0, 0, none⟩)), (22, v388), (25, .pointer (some ⟨gd_0, 0, none⟩)), (28, .int .i64 (IntKind.i64.wrap (y4 + 1)))]) rfl (.cons rfl (.cons rfl (.cons rfl (.cons rfl (.nil _))))) jt387 (by intro t h; simp [rng] at h ⊢ <;> omega) rfl rfl ?_
     refine dj_E 12 (by kernel_rfl) rfl ?_
     have jt393 : Tr ρ390 w391 (fun t => ([17, 100] : List Nat).contains t) ρ390 w391 := (Tr.refl hb.bd).weak (fun _ _ => rfl) rfl rfl
     refine sr_ev (v := v1) (ev_load Tryz.isAgg53 rfl (hB3.cell rfl)) (by decide) ?_
     refine dj_next (l' := [(14, .pointer (some ⟨gd_0, 0, none⟩)), (22, v388), (26, v1), (28, .int .i64 (IntKind.i64.wrap (y4 + 1)))]) rfl (.cons rfl (.cons rfl (.cons rfl (.cons rfl (.nil _))))) jt393 (by intro t h; simp [rng] at h ⊢ <;> omega) rfl rfl ?_
     obtain ⟨v394, h395, hq396⟩ := (h2.sl).cutT_l (P := Tryz.prog) Tryz.underlying53 Tryz.info70 rfl hk290
     refine dj_H 15 (v := v394) (by kernel_rfl) (by kernel_rfl) rfl (fun _ _ _ h => h) (sj_refl hb.bd rfl rfl) (fun w1 ρ1 hw1 => hq396 w1 rfl rfl) (by decide) ?_
     refine dj_E 16 (by kernel_rfl) rfl ?_
     have jt397 : Tr ρ390 w391 (fun t => ([17, 100] : List Nat).contains t) ρ390 w391 := (Tr.refl hb.bd).weak (fun _ _ => rfl) rfl rfl
     refine sr_appendT (i := 17) (c := ref37_Device.c) (ρ := ρ390) (E := 70) (xs := ([] : List ref37_Device) ++ (cut d_0.L 0 y4)) (ys := cut d_0.L (IntKind.i64.wrap (y4 + 1)) d_0.L.length) h389 (h395).x Tryz.underlying53 Tryz.info70 rfl rfl rfl (by decide) (by decide) (by decide) hb.bd hk295 rfl rfl (by decide) ?_
     intro v398 ρ400 w401 h399 htr402
     replace hB3 := hB3.mv (htr402.mv (i := 100) rfl)
     replace h2 := h2.mv (htr402.mv (i := 101) rfl) (by decide)
     replace hb := hb.trans htr402
     replace jt397 := (jt397.trans htr402).weak (J' := (fun t => ([17, 100] : List Nat).contains t)) (by intro t h; simp [rng] at h ⊢ <;> omega) rfl rfl
     refine dj_next (l' := [(14, .pointer (some ⟨gd_0, 0, none⟩)), (30, v398)]) rfl (.cons rfl (.cons rfl (.nil _))) jt397 (by intro t h; simp [rng] at h ⊢ <;> omega) rfl rfl ?_
     refine dj_H 17 (v := .pointer (some ⟨gd_0, 0, none⟩)) (by kernel_rfl) (by kernel_rfl) rfl (fun _ _ _ h => h) (sj_refl hb.bd rfl rfl) (fun w1 ρ1 hw1 => ev_nilCheck rfl) (by decide) ?_
     refine dj_H 18 (v := .pointer (some ⟨gd_0, 0, none⟩)) (by kernel_rfl) (by kernel_rfl) rfl (fun _ _ _ h => h) (sj_refl hb.bd rfl rfl) (fun w1 ρ1 hw1 => ev_fieldAddr (i := 0) Tryz.underlying55 rfl Tryz.info53 rfl rfl) (by decide) ?_
     refine dj_E 19 (by kernel_rfl) rfl ?_
     have jt403 : Tr ρ400 w401 (fun t => ([17, 100] : List Nat).contains t) ρ400 w401 := (Tr.refl hb.bd).weak (fun _ _ => rfl) rfl rfl
     refine sr_storeT (v := v398) (vs := [v398]) (cs' := #[v398, .int .i64 d_0.N]) hB3 (by decide) hb.bd rfl rfl (one_cells (OwnT.oneCell h399)) Tryz.sizeOf53 rfl (by first | rfl | (simp only [List.all_cons, List.all_nil, OwnT.oneCell h399]; done) | (simp only [List.all_cons, List.all_nil, OwnT.oneCell h399]; rfl)) rfl ?_
     intro w404 hB31 htr405
     replace h399 := h399.mv (htr405.mv (i := 17) rfl) (by decide)
     replace hb := hb.trans htr405
     replace jt403 := (jt403.trans htr405).weak (J' := (fun t => ([17, 100] : List Nat).contains t)) (by intro t h; simp [rng] at h ⊢ <;> omega) rfl rfl
     replace hB3 : Blk ρ400 100 w404 gd_0 (.cells #[v398, .int .i64 d_0.N] 55 (0, 0)) := hB31
     clear hB31
     refine dj_next (l' := []) rfl (.nil _) jt403 (by intro t h; simp [rng] at h ⊢ <;> omega) rfl rfl ?_
     refine dj_done rfl (by kernel_rfl) ?_
     refine ke_weaken (l' := []) (.nil _) ?_
     have hK := ref37_Devices_Revoke_B1_ok hg hbd ho2 hz hS hb h399 hB3
     exact ke_weaken (l' := []) (.nil _) hK
    ·refine ⟨_, rfl, ?_⟩
     have jt406 : Tr ρ386 w384 (fun t => ([17, 100] : List Nat).contains t) ρ386 w384 := (Tr.refl hb.bd).weak (fun _ _ => rfl) rfl rfl
     refine sr_ev (v := v1) (ev_load Tryz.isAgg53 rfl (hB3.cell rfl)) (by decide) ?_
     refine dj_next (l' := [(14, .pointer (some ⟨gd_0, 0, none⟩)), (15, v382), (21, v378), (26, v1), (28, .int .i64 (IntKind.i64.wrap (y4 + 1)))]) rfl (.cons rfl (.cons rfl (.cons rfl (.cons rfl (.cons rfl (.nil _)))))) jt406 (by intro t h; simp [rng] at h ⊢ <;> omega) rfl rfl ?_
     obtain ⟨v407, h408, hq409⟩ := (h2.sl).cutT_l (P := Tryz.prog) Tryz.underlying53 Tryz.info70 rfl hk290
     refine dj_H 15 (v := v407) (by kernel_rfl) (by kernel_rfl) rfl (fun _ _ _ h => h) (sj_refl hb.bd rfl rfl) (fun w1 ρ1 hw1 => hq409 w1 rfl rfl) (by decide) ?_
     refine dj_E 8 (by kernel_rfl) rfl ?_
     have jt410 : Tr ρ386 w384 (fun t => ([17, 100] : List Nat).contains t) ρ386 w384 := (Tr.refl hb.bd).weak (fun _ _ => rfl) rfl rfl
     refine sr_appendT (i := 17) (c := ref37_Device.c) (ρ := ρ386) (E := 70) (xs := ([] : List ref37_Device)) (ys := cut d_0.L 0 y4) h383 (h379).x Tryz.underlying53 Tryz.info70 rfl rfl rfl (by decide) (by decide) (by decide) hb.bd hk283 rfl rfl (by decide) ?_
     intro v411 ρ413 w414 h412 htr415
     replace h408 := h408.mv (htr415.mv (i := 101) rfl)
     replace hB3 := hB3.mv (htr415.mv (i := 100) rfl)
     replace h2 := h2.mv (htr415.mv (i := 101) rfl) (by decide)
     replace hb := hb.trans htr415
     replace jt410 := (jt410.trans htr415).weak (J' := (fun t => ([17, 100] : List Nat).contains t)) (by intro t h; simp [rng] at h ⊢ <;> omega) rfl rfl
     refine dj_next (l' := [(14, .pointer (some ⟨gd_0, 0, none⟩)), (22, v411), (29, v407)]) rfl (.cons rfl (.cons rfl (.cons rfl (.nil _)))) jt410 (by intro t h; simp [rng] at h ⊢ <;> omega) rfl rfl ?_
     refine dj_E 16 (by kernel_rfl) rfl ?_
     have jt416 : Tr ρ413 w414 (fun t => ([17, 100] : List Nat).contains t) ρ413 w414 := (Tr.refl hb.bd).weak (fun _ _ => rfl) rfl rfl
     refine sr_appendT (i := 17) (c := ref37_Device.c) (ρ := ρ413) (E := 70) (xs := ([] : List ref37_Device) ++ (cut d_0.L 0 y4)) (ys := cut d_0.L (IntKind.i64.wrap (y4 + 1)) d_0.L.length) h412 (h408).x Tryz.underlying53 Tryz.info70 rfl rfl rfl (by decide) (by decide) (by decide) hb.bd hk295 rfl rfl (by decide) ?_
     intro v417 ρ419 w420 h418 htr421
     replace hB3 := hB3.mv (htr421.mv (i := 100) rfl)
     replace h2 := h2.mv (htr421.mv (i := 101) rfl) (by decide)
     replace hb := hb.trans htr421
     replace jt416 := (jt416.trans htr421).weak (J' := (fun t => ([17, 100] : List Nat).contains t)) (by intro t h; simp [rng] at h ⊢ <;> omega) rfl rfl
     refine dj_next (l' := [(14, .pointer (some ⟨gd_0, 0, none⟩)), (30, v417)]) rfl (.cons rfl (.cons rfl (.nil _))) jt416 (by intro t h; simp [rng] at h ⊢ <;> omega) rfl rfl ?_
     refine dj_H 17 (v := .pointer (some ⟨gd_0, 0, none⟩)) (by kernel_rfl) (by kernel_rfl) rfl (fun _ _ _ h => h) (sj_refl hb.bd rfl rfl) (fun w1 ρ1 hw1 => ev_nilCheck rfl) (by decide) ?_
     refine dj_H 18 (v := .pointer (some ⟨gd_0, 0, none⟩)) (by kernel_rfl) (by kernel_rfl) rfl (fun _ _ _ h => h) (sj_refl hb.bd rfl rfl) (fun w1 ρ1 hw1 => ev_fieldAddr (i := 0) Tryz.underlying55 rfl Tryz.info53 rfl rfl) (by decide) ?_
     refine dj_E 19 (by kernel_rfl) rfl ?_
     have jt422 : Tr ρ419 w420 (fun t => ([17, 100] : List Nat).contains t) ρ419 w420 := (Tr.refl hb.bd).weak (fun _ _ => rfl) rfl rfl
     refine sr_storeT (v := v417) (vs := [v417]) (cs' := #[v417, .int .i64 d_0.N]) hB3 (by decide) hb.bd rfl rfl (one_cells (OwnT.oneCell h418)) Tryz.sizeOf53 rfl (by first | rfl | (simp only [List.all_cons, List.all_nil, OwnT.oneCell h418]; done) | (simp only [List.all_cons, List.all_nil, OwnT.oneCell h418]; rfl)) rfl ?_
     intro w423 hB31 htr424
     replace h418 := h418.mv (htr424.mv (i := 17) rfl) (by decide)
     replace hb := hb.trans htr424
     replace jt422 := (jt422.trans htr424).weak (J' := (fun t => ([17, 100] : List Nat).contains t)) (by intro t h; simp [rng] at h ⊢ <;> omega) rfl rfl
     replace hB3 : Blk ρ419 100 w423 gd_0 (.cells #[v417, .int .i64 d_0.N] 55 (0, 0)) := hB31
     clear hB31
     refine dj_next (l' := []) rfl (.nil _) jt422 (by intro t h; simp [rng] at h ⊢ <;> omega) rfl rfl ?_
     refine dj_done rfl (by kernel_rfl) ?_
     refine ke_weaken (l' := []) (.nil _) ?_
     have hK := ref37_Devices_Revoke_B1_ok hg hbd ho2 hz hS hb h418 hB3
     exact ke_weaken (l' := []) (.nil _) hK
   ·refine ⟨_, rfl, ?_⟩
    have jt425 : Tr (enter ρA o 2) w11 (fun t => ([17, 100] : List Nat).contains t) (enter ρA o 2) w11 := (Tr.refl hb.bd).weak (fun _ _ => rfl) rfl rfl
    refine sr_ev (v := v1) (ev_load Tryz.isAgg53 rfl (hB3.cell rfl)) (by decide) ?_
    refine dj_next (l' := [(14, .pointer (some ⟨gd_0, 0, none⟩)), (21, v378), (26, v1), (28, .int .i64 (IntKind.i64.wrap (y4 + 1)))]) rfl (.cons rfl (.cons rfl (.cons rfl (.cons rfl (.nil _))))) jt425 (by intro t h; simp [rng] at h ⊢ <;> omega) rfl rfl ?_
    obtain ⟨v426, h427, hq428⟩ := (h2.sl).cutT_l (P := Tryz.prog) Tryz.underlying53 Tryz.info70 rfl hk290
    refine dj_H 15 (v := v426) (by kernel_rfl) (by kernel_rfl) rfl (fun _ _ _ h => h) (sj_refl hb.bd rfl rfl) (fun w1 ρ1 hw1 => hq428 w1 rfl rfl) (by decide) ?_
    refine dj_E 1 (by kernel_rfl) rfl ?_
    have jt429 : Tr (enter ρA o 2) w11 (fun t => ([17, 100] : List Nat).contains t) (enter ρA o 2) w11 := (Tr.refl hb.bd).weak (fun _ _ => rfl) rfl rfl
    refine sr_litOwnT (i := 17) (c := ref37_Device.c) (ρ := (enter ρA o 2)) (E := 70) (xs := []) (vs := #[]) (cs := #[]) (css := []) rfl (fun _ => by kernel_rfl) rfl trivial rfl (by decide) (by decide) hb.bd (by decide) ?_
    intro v430 ρ434 w432 h431 htr433
    replace h379 := h379.mv (htr433.mv (i := 101) rfl)
    replace h427 := h427.mv (htr433.mv (i := 101) rfl)
    replace hB3 := hB3.mv (htr433.mv (i := 100) rfl)
    replace h2 := h2.mv (htr433.mv (i := 101) rfl) (by decide)
    replace hb := hb.trans htr433
    replace jt429 := (jt429.trans htr433).weak (J' := (fun t => ([17, 100] : List Nat).contains t)) (by intro t h; simp [rng] at h ⊢ <;> omega) rfl rfl
    refine dj_next (l' := [(14, .pointer (some ⟨gd_0, 0, none⟩)), (15, v430), (21, v378), (29, v426)]) rfl (.cons rfl (.cons rfl (.cons rfl (.cons rfl (.nil _))))) jt429 (by intro t h; simp [rng] at h ⊢ <;> omega) rfl rfl ?_
    refine dj_E 8 (by kernel_rfl) rfl ?_
    have jt435 : Tr ρ434 w432 (fun t => ([17, 100] : List Nat).contains t) ρ434 w432 := (Tr.refl hb.bd).weak (fun _ _ => rfl) rfl rfl
    refine sr_appendT (i := 17) (c := ref37_Device.c) (ρ := ρ434) (E := 70) (xs := ([] : List ref37_Device)) (ys := cut d_0.L 0 y4) h431 (h379).x Tryz.underlying53 Tryz.info70 rfl rfl rfl (by decide) (by decide) (by decide) hb.bd hk283 rfl rfl (by decide) ?_
    intro v436 ρ438 w439 h437 htr440
    replace h427 := h427.mv (htr440.mv (i := 101) rfl)
    replace hB3 := hB3.mv (htr440.mv (i := 100) rfl)
    replace h2 := h2.mv (htr440.mv (i := 101) rfl) (by decide)
    replace hb := hb.trans htr440
    replace jt435 := (jt435.trans htr440).weak (J' := (fun t => ([17, 100] : List Nat).contains t)) (by intro t h; simp [rng] at h ⊢ <;> omega) rfl rfl
    refine dj_next (l' := [(14, .pointer (some ⟨gd_0, 0, none⟩)), (22, v436), (29, v426)]) rfl (.cons rfl (.cons rfl (.cons rfl (.nil _)))) jt435 (by intro t h; simp [rng] at h ⊢ <;> omega) rfl rfl ?_
    refine dj_E 16 (by kernel_rfl) rfl ?_
    have jt441 : Tr ρ438 w439 (fun t => ([17, 100] : List Nat).contains t) ρ438 w439 := (Tr.refl hb.bd).weak (fun _ _ => rfl) rfl rfl
    refine sr_appendT (i := 17) (c := ref37_Device.c) (ρ := ρ438) (E := 70) (xs := ([] : List ref37_Device) ++ (cut d_0.L 0 y4)) (ys := cut d_0.L (IntKind.i64.wrap (y4 + 1)) d_0.L.length) h437 (h427).x Tryz.underlying53 Tryz.info70 rfl rfl rfl (by decide) (by decide) (by decide) hb.bd hk295 rfl rfl (by decide) ?_
    intro v442 ρ444 w445 h443 htr446
    replace hB3 := hB3.mv (htr446.mv (i := 100) rfl)
    replace h2 := h2.mv (htr446.mv (i := 101) rfl) (by decide)
    replace hb := hb.trans htr446
    replace jt441 := (jt441.trans htr446).weak (J' := (fun t => ([17, 100] : List Nat).contains t)) (by intro t h; simp [rng] at h ⊢ <;> omega) rfl rfl
    refine dj_next (l' := [(14, .pointer (some ⟨gd_0, 0, none⟩)), (30, v442)]) rfl (.cons rfl (.cons rfl (.nil _))) jt441 (by intro t h; simp [rng] at h ⊢ <;> omega) rfl rfl ?_
    refine dj_H 17 (v := .pointer (some ⟨gd_0, 0, none⟩)) (by kernel_rfl) (by kernel_rfl) rfl (fun _ _ _ h => h) (sj_refl hb.bd rfl rfl) (fun w1 ρ1 hw1 => ev_nilCheck rfl) (by decide) ?_
    refine dj_H 18 (v := .pointer (some ⟨gd_0, 0, none⟩)) (by kernel_rfl) (by kernel_rfl) rfl (fun _ _ _ h => h) (sj_refl hb.bd rfl rfl) (fun w1 ρ1 hw1 => ev_fieldAddr (i := 0) Tryz.underlying55 rfl Tryz.info53 rfl rfl) (by decide) ?_
    refine dj_E 19 (by kernel_rfl) rfl ?_
    have jt447 : Tr ρ444 w445 (fun t => ([17, 100] : List Nat).contains t) ρ444 w445 := (Tr.refl hb.bd).weak (fun _ _ => rfl) rfl rfl
    refine sr_storeT (v := v442) (vs := [v442]) (cs' := #[v442, .int .i64 d_0.N]) hB3 (by decide) hb.bd rfl rfl (one_cells (OwnT.oneCell h443)) Tryz.sizeOf53 rfl (by first | rfl | (simp only [List.all_cons, List.all_nil, OwnT.oneCell h443]; done) | (simp only [List.all_cons, List.all_nil, OwnT.oneCell h443]; rfl)) rfl ?_
    intro w448 hB31 htr449
    replace h443 := h443.mv (htr449.mv (i := 17) rfl) (by decide)
    replace hb := hb.trans htr449
    replace jt447 := (jt447.trans htr449).weak (J' := (fun t => ([17, 100] : List Nat).contains t)) (by intro t h; simp [rng] at h ⊢ <;> omega) rfl rfl
    replace hB3 : Blk ρ444 100 w448 gd_0 (.cells #[v442, .int .i64 d_0.N] 55 (0, 0)) := hB31
    clear hB31
    refine dj_next (l' := []) rfl (.nil _) jt447 (by intro t h; simp [rng] at h ⊢ <;> omega) rfl rfl ?_
    refine dj_done rfl (by kernel_rfl) ?_
    refine ke_weaken (l' := []) (.nil _) ?_
    have hK := ref37_Devices_Revoke_B1_ok hg hbd ho2 hz hS hb h443 hB3
    exact ke_weaken (l' := []) (.nil _) hK
  ·refine ⟨_, rfl, ?_⟩
   have jt450 : Tr (enter ρA o 2) w11 (fun t => ([17, 100] : List Nat).contains t) (enter ρA o 2) w11 := (Tr.refl hb.bd).weak (fun _ _ => rfl) rfl rfl
   refine sr_ev (v := v1) (ev_load Tryz.isAgg53 rfl (hB3.cell rfl)) (by decide) ?_
   refine dj_next (l' := [(14, .pointer (some ⟨gd_0, 0, none⟩)), (18, .pointer (some ⟨gd_0, 0, none⟩)), (20, .int .i64 y4), (26, v1), (28, .int .i64 (IntKind.i64.wrap (y4 + 1)))]) rfl (.cons rfl (.cons rfl (.cons rfl (.cons rfl (.cons rfl (.nil _)))))) jt450 (by intro t h; simp [rng] at h ⊢ <;> omega) rfl rfl ?_
   obtain ⟨v451, h452, hq453⟩ := (h2.sl).cutT_l (P := Tryz.prog) Tryz.underlying53 Tryz.info70 rfl hk290
   refine dj_H 15 (v := v451) (by kernel_rfl) (by kernel_rfl) rfl (fun _ _ _ h => h) (sj_refl hb.bd rfl rfl) (fun w1 ρ1 hw1 => hq453 w1 rfl rfl) (by decide) ?_
   refine dj_all [1, 5] (by kernel_rfl) (fun i hi => ?_)
   simp only [List.mem_cons, List.not_mem_nil, or_false] at hi
   rcases hi with rfl | rfl
   ·refine ⟨_, rfl, ?_⟩
    have jt454 : Tr (enter ρA o 2) w11 (fun t => ([17, 100] : List Nat).contains t) (enter ρA o 2) w11 := (Tr.refl hb.bd).weak (fun _ _ => rfl) rfl rfl
    refine sr_litOwnT (i := 17) (c := ref37_Device.c) (ρ := (enter ρA o 2)) (E := 70) (xs := []) (vs := #[]) (cs := #[]) (css := []) rfl (fun _ => by kernel_rfl) rfl trivial rfl (by decide) (by decide) hb.bd (by decide) ?_
    intro v455 ρ459 w457 h456 htr458
    replace h452 := h452.mv (htr458.mv (i := 101) rfl)
    replace hB3 := hB3.mv (htr458.mv (i := 100) rfl)
    replace h2 := h2.mv (htr458.mv (i := 101) rfl) (by decide)
    replace hb := hb.trans htr458
    replace jt454 := (jt454.trans htr458).weak (J' := (fun t => ([17, 100] : List Nat).contains t)) (by intro t h; simp [rng] at h ⊢ <;> omega) rfl rfl
    refine dj_next (l' := [(14, .pointer (some ⟨gd_0, 0, none⟩)), (15, v455), (18, .pointer (some ⟨gd_0, 0, none⟩)), (20, .int .i64 y4), (29, v451)]) rfl (.cons rfl (.cons rfl (.cons rfl (.cons rfl (.cons rfl (.nil _)))))) jt454 (by intro t h; simp [rng] at h ⊢ <;> omega) rfl rfl ?_
    refine dj_E 5 (by kernel_rfl) rfl ?_
    have jt460 : Tr ρ459 w457 (fun t => ([17, 100] : List Nat).contains t) ρ459 w457 := (Tr.refl hb.bd).weak (fun _ _ => rfl) rfl rfl
    refine sr_ev (v := v1) (ev_load Tryz.isAgg53 rfl (hB3.cell rfl)) (by decide) ?_
    refine dj_next (l' := [(14, .pointer (some ⟨gd_0, 0, none⟩)), (15, v455), (19, v1), (20, .int .i64 y4), (29, v451)]) rfl (.cons rfl (.cons rfl (.cons rfl (.cons rfl (.cons rfl (.nil _)))))) jt460 (by intro t h; simp [rng] at h ⊢ <;> omega) rfl rfl ?_
    obtain ⟨v461, h462, hq463⟩ := (h2.sl).cutT_h (P := Tryz.prog) Tryz.underlying53 Tryz.info70 rfl hk278
    refine dj_H 7 (v := v461) (by kernel_rfl) (by kernel_rfl) rfl (fun _ _ _ h => h) (sj_refl hb.bd rfl rfl) (fun w1 ρ1 hw1 => hq463 w1 rfl rfl) (by decide) ?_
    refine dj_E 8 (by kernel_rfl) rfl ?_
    have jt464 : Tr ρ459 w457 (fun t => ([17, 100] : List Nat).contains t) ρ459 w457 := (Tr.refl hb.bd).weak (fun _ _ => rfl) rfl rfl
    refine sr_appendT (i := 17) (c := ref37_Device.c) (ρ := ρ459) (E := 70) (xs := ([] : List ref37_Device)) (ys := cut d_0.L 0 y4) h456 (h462).x Tryz.underlying53 Tryz.info70 rfl rfl rfl (by decide) (by decide) (by decide) hb.bd hk283 rfl rfl (by decide) ?_
    intro v465 ρ467 w468 h466 htr469
    replace h452 := h452.mv (htr469.mv (i := 101) rfl)
    replace hB3 := hB3.mv (htr469.mv (i := 100) rfl)
    replace h2 := h2.mv (htr469.mv (i := 101) rfl) (by decide)
    replace hb := hb.trans htr469
    replace jt464 := (jt464.trans htr469).weak (J' := (fun t => ([17, 100] : List Nat).contains t)) (by intro t h; simp [rng] at h ⊢ <;> omega) rfl rfl
    refine dj_next (l' := [(14, .pointer (some ⟨gd_0, 0, none⟩)), (22, v465), (29, v451)]) rfl (.cons rfl (.cons rfl (.cons rfl (.nil _)))) jt464 (by intro t h; simp [rng] at h ⊢ <;> omega) rfl rfl ?_
    refine dj_E 16 (by kernel_rfl) rfl ?_
    have jt470 : Tr ρ467 w468 (fun t => ([17, 100] : List Nat).contains t) ρ467 w468 := (Tr.refl hb.bd).weak (fun _ _ => rfl) rfl rfl
    refine sr_appendT (i := 17) (c := ref37_Device.c) (ρ := ρ467) (E := 70) (xs := ([] : List ref37_Device) ++ (cut d_0.L 0 y4)) (ys := cut d_0.L (IntKind.i64.wrap (y4 + 1)) d_0.L.length) h466 (h452).x Tryz.underlying53 Tryz.info70 rfl rfl rfl (by decide) (by decide) (by decide) hb.bd hk295 rfl rfl (by decide) ?_
    intro v471 ρ473 w474 h472 htr475
    replace hB3 := hB3.mv (htr475.mv (i := 100) rfl)
    replace h2 := h2.mv (htr475.mv (i := 101) rfl) (by decide)
    replace hb := hb.trans htr475
    replace jt470 := (jt470.trans htr475).weak (J' := (fun t => ([17, 100] : List Nat).contains t)) (by intro t h; simp [rng] at h ⊢ <;> omega) rfl rfl
    refine dj_next (l' := [(14, .pointer (some ⟨gd_0, 0, none⟩)), (30, v471)]) rfl (.cons rfl (.cons rfl (.nil _))) jt470 (by intro t h; simp [rng] at h ⊢ <;> omega) rfl rfl ?_
    refine dj_H 17 (v := .pointer (some ⟨gd_0, 0, none⟩)) (by kernel_rfl) (by kernel_rfl) rfl (fun _ _ _ h => h) (sj_refl hb.bd rfl rfl) (fun w1 ρ1 hw1 => ev_nilCheck rfl) (by decide) ?_
    refine dj_H 18 (v := .pointer (some ⟨gd_0, 0, none⟩)) (by kernel_rfl) (by kernel_rfl) rfl (fun _ _ _ h => h) (sj_refl hb.bd rfl rfl) (fun w1 ρ1 hw1 => ev_fieldAddr (i := 0) Tryz.underlying55 rfl Tryz.info53 rfl rfl) (by decide) ?_
    refine dj_E 19 (by kernel_rfl) rfl ?_
    have jt476 : Tr ρ473 w474 (fun t => ([17, 100] : List Nat).contains t) ρ473 w474 := (Tr.refl hb.bd).weak (fun _ _ => rfl) rfl rfl
    refine sr_storeT (v := v471) (vs := [v471]) (cs' := #[v471, .int .i64 d_0.N]) hB3 (by decide) hb.bd rfl rfl (one_cells (OwnT.oneCell h472)) Tryz.sizeOf53 rfl (by first | rfl | (simp only [List.all_cons, List.all_nil, OwnT.oneCell h472]; done) | (simp only [List.all_cons, List.all_nil, OwnT.oneCell h472]; rfl)) rfl ?_
    intro w477 hB31 htr478
    replace h472 := h472.mv (htr478.mv (i := 17) rfl) (by decide)
    replace hb := hb.trans htr478
    replace jt476 := (jt476.trans htr478).weak (J' := (fun t => ([17, 100] : List Nat).contains t)) (by intro t h; simp [rng] at h ⊢ <;> omega) rfl rfl
    replace hB3 : Blk ρ473 100 w477 gd_0 (.cells #[v471, .int .i64 d_0.N] 55 (0, 0)) := hB31
    clear hB31
    refine dj_next (l' := []) rfl (.nil _) jt476 (by intro t h; simp [rng] at h ⊢ <;> omega) rfl rfl ?_
    refine dj_done rfl (by kernel_rfl) ?_
    refine ke_weaken (l' := []) (.nil _) ?_
    have hK := ref37_Devices_Revoke_B1_ok hg hbd ho2 hz hS hb h472 hB3
    exact ke_weaken (l' := []) (.nil _) hK
   ·refine ⟨_, rfl, ?_⟩
    have jt479 : Tr (enter ρA o 2) w11 (fun t => ([17, 100] : List Nat).contains t) (enter ρA o 2) w11 := (Tr.refl hb.bd).weak (fun _ _ => rfl) rfl rfl
    refine sr_ev (v := v1) (ev_load Tryz.isAgg53 rfl (hB3.cell rfl)) (by decide) ?_
    refine dj_next (l' := [(14, .pointer (some ⟨gd_0, 0, none⟩)), (19, v1), (20, .int .i64 y4), (29, v451)]) rfl (.cons rfl (.cons rfl (.cons rfl (.cons rfl (.nil _))))) jt479 (by intro t h; simp [rng] at h ⊢ <;> omega) rfl rfl ?_
    obtain ⟨v480, h481, hq482⟩ := (h2.sl).cutT_h (P := Tryz.prog) Tryz.underlying53 Tryz.info70 rfl hk278
    refine dj_H 7 (v := v480) (by kernel_rfl) (by kernel_rfl) rfl (fun _ _ _ h => h) (sj_refl hb.bd rfl rfl) (fun w1 ρ1 hw1 => hq482 w1 rfl rfl) (by decide) ?_
    refine dj_E 1 (by kernel_rfl) rfl ?_
    have jt483 : Tr (enter ρA o 2) w11 (fun t => ([17, 100] : List Nat).contains t) (enter ρA o 2) w11 := (Tr.refl hb.bd).weak (fun _ _ => rfl) rfl rfl
    refine sr_litOwnT (i := 17) (c := ref37_Device.c) (ρ := (enter ρA o 2)) (E := 70) (xs := []) (vs := #[]) (cs := #[]) (css := []) rfl (fun _ => by kernel_rfl) rfl trivial rfl (by decide) (by decide) hb.bd (by decide) ?_
    intro v484 ρ488 w486 h485 htr487
    replace h452 := h452.mv (htr487.mv (i := 101) rfl)
    replace h481 := h481.mv (htr487.mv (i := 101) rfl)
    replace hB3 := hB3.mv (htr487.mv (i := 100) rfl)
    replace h2 := h2.mv (htr487.mv (i := 101) rfl) (by decide)
    replace hb := hb.trans htr487
    replace jt483 := (jt483.trans htr487).weak (J' := (fun t => ([17, 100] : List Nat).contains t)) (by intro t h; simp [rng] at h ⊢ <;> omega) rfl rfl
    refine dj_next (l' := [(14, .pointer (some ⟨gd_0, 0, none⟩)), (15, v484), (21, v480), (29, v451)]) rfl (.cons rfl (.cons rfl (.cons rfl (.cons rfl (.nil _))))) jt483 (by intro t h; simp [rng] at h ⊢ <;> omega) rfl rfl ?_
    refine dj_E 8 (by kernel_rfl) rfl ?_
    have jt489 : Tr ρ488 w486 (fun t => ([17, 100] : List Nat).contains t) ρ488 w486 := (Tr.refl hb.bd).weak (fun _ _ => rfl) rfl rfl
    refine sr_appendT (i := 17) (c := ref37_Device.c) (ρ := ρ488) (E := 70) (xs := ([] : List ref37_Device)) (ys := cut d_0.L 0 y4) h485 (h481).x Tryz.underlying53 Tryz.info70 rfl rfl rfl (by decide) (by decide) (by decide) hb.bd hk283 rfl rfl (by decide) ?_
    intro v490 ρ492 w493 h491 htr494
    replace h452 := h452.mv (htr494.mv (i := 101) rfl)
    replace hB3 := hB3.mv (htr494.mv (i := 100) rfl)
    replace h2 := h2.mv (htr494.mv (i := 101) rfl) (by decide)
    replace hb := hb.trans htr494
    replace jt489 := (jt489.trans htr494).weak (J' := (fun t => ([17, 100] : List Nat).contains t)) (by intro t h; simp [rng] at h ⊢ <;> omega) rfl rfl
    refine dj_next (l' := [(14, .pointer (some ⟨gd_0, 0, none⟩)), (22, v490), (29, v451)]) rfl (.cons rfl (.cons rfl (.cons rfl (.nil _)))) jt489 (by intro t h; simp [rng] at h ⊢ <;> omega) rfl rfl ?_
    refine dj_E 16 (by kernel_rfl) rfl ?_
    have jt495 : Tr ρ492 w493 (fun t => ([17, 100] : List Nat).contains t) ρ492 w493 := (Tr.refl hb.bd).weak (fun _ _ => rfl) rfl rfl
    refine sr_appendT (i := 17) (c := ref37_Device.c) (ρ := ρ492) (E := 70) (xs := ([] : List ref37_Device) ++ (cut d_0.L 0 y4)) (ys := cut d_0.L (IntKind.i64.wrap (y4 + 1)) d_0.L.length) h491 (h452).x Tryz.underlying53 Tryz.info70 rfl rfl rfl (by decide) (by decide) (by decide) hb.bd hk295 rfl rfl (by decide) ?_
    intro v496 ρ498 w499 h497 htr500
    replace hB3 := hB3.mv (htr500.mv (i := 100) rfl)
    replace h2 := h2.mv (htr500.mv (i := 101) rfl) (by decide)
    replace hb := hb.trans htr500
    replace jt495 := (jt495.trans htr500).weak (J' := (fun t => ([17, 100] : List Nat).contains t)) (by intro t h; simp [rng] at h ⊢ <;> omega) rfl rfl
    refine dj_next (l' := [(14, .pointer (some ⟨gd_0, 0, none⟩)), (30, v496)]) rfl (.cons rfl (.cons rfl (.nil _))) jt495 (by intro t h; simp [rng] at h ⊢ <;> omega) rfl rfl ?_
    refine dj_H 17 (v := .pointer (some ⟨gd_0, 0, none⟩)) (by kernel_rfl) (by kernel_rfl) rfl (fun _ _ _ h => h) (sj_refl hb.bd rfl rfl) (fun w1 ρ1 hw1 => ev_nilCheck rfl) (by decide) ?_
    refine dj_H 18 (v := .pointer (some ⟨gd_0, 0, none⟩)) (by kernel_rfl) (by kernel_rfl) rfl (fun _ _ _ h => h) (sj_refl hb.bd rfl rfl) (fun w1 ρ1 hw1 => ev_fieldAddr (i := 0) Tryz.underlying55 rfl Tryz.info53 rfl rfl) (by decide) ?_
    refine dj_E 19 (by kernel_rfl) rfl ?_
    have jt501 : Tr ρ498 w499 (fun t => ([17, 100] : List Nat).contains t) ρ498 w499 := (Tr.refl hb.bd).weak (fun _ _ => rfl) rfl rfl
    refine sr_storeT (v := v496) (vs := [v496]) (cs' := #[v496, .int .i64 d_0.N]) hB3 (by decide) hb.bd rfl rfl (one_cells (OwnT.oneCell h497)) Tryz.sizeOf53 rfl (by first | rfl | (simp only [List.all_cons, List.all_nil, OwnT.oneCell h497]; done) | (simp only [List.all_cons, List.all_nil, OwnT.oneCell h497]; rfl)) rfl ?_
    intro w502 hB31 htr503
    replace h497 := h497.mv (htr503.mv (i := 17) rfl) (by decide)
    replace hb := hb.trans htr503
    replace jt501 := (jt501.trans htr503).weak (J' := (fun t => ([17, 100] : List Nat).contains t)) (by intro t h; simp [rng] at h ⊢ <;> omega) rfl rfl
    replace hB3 : Blk ρ498 100 w502 gd_0 (.cells #[v496, .int .i64 d_0.N] 55 (0, 0)) := hB31
    clear hB31
    refine dj_next (l' := []) rfl (.nil _) jt501 (by intro t h; simp [rng] at h ⊢ <;> omega) rfl rfl ?_
    refine dj_done rfl (by kernel_rfl) ?_
    refine ke_weaken (l' := []) (.nil _) ?_
    have hK := ref37_Devices_Revoke_B1_ok hg hbd ho2 hz hS hb h497 hB3
    exact ke_weaken (l' := []) (.nil _) hK
theorem ref09_Ascending_B3_ok {w0 : World} (hg : Gs w0) {ρA : Tags} (hbd : ∀ b, ρA b ≠ 0 → b < w0.heap.size) (hz : Gz (flat1 ρA)) (r0 : List Str → List Str → Int → Option (List Str)) (r1 : List Str → List Str → Int → Int → Option (List Str))
  (hr0 : ∀ {r : List Str} {l_0 : List Str} {out_3 : List Str} {i_4 : Int} {vl_0 : Value} {vout_3 : Value}, r0 l_0 out_3 i_4 = some r → ∀ {ρ : Tags} {w : World}, (Fr (flat1 ρA) w0 ρ w) → (SlR strC (Wb ρ) w vl_0 l_0) → (OwnT strC 9 ρ 5 w vout_3 out_3) → KE Tryz.prog 46 (Ret (fun v w' => ∃ x1, v = x1 ∧ SlR strC (Wb ρA) w' x1 r ∧ Below w0.heap.size w0 w')) 63 [.inLoop (sub (bodyOf Tryz.f46) [2, 2, 1, 2, 2, 1]), .inBlock 0, .code (sub (bodyOf Tryz.f46) [2, 2, 2])] [(0, vl_0), (3, vout_3), (4, .int .i64 i_4)] w)
  (hr1 : ∀ {r : List Str} {l_0 : List Str} {out_3 : List Str} {i_4 : Int} {k_5 : Int} {vl_0 : Value} {vout_3 : Value}, r1 l_0 out_3 i_4 k_5 = some r → ∀ {ρ : Tags} {w : World}, (Fr (flat1 ρA) w0 ρ w) → (SlR strC (Wb ρ) w vl_0 l_0) → (OwnT strC 9 ρ 5 w vout_3 out_3) → KE Tryz.prog 46 (Ret (fun v w' => ∃ x1, v = x1 ∧ SlR strC (Wb ρA) w' x1 r ∧ Below w0.heap.size w0 w')) 63 [.inLoop (sub (bodyOf Tryz.f46) [2, 2, 1, 2, 2, 1, 2, 1, 2, 2, 1, 2, 1]), .inBlock 2, .code (sub (bodyOf Tryz.f46) [2, 2, 1, 2, 2, 1, 2, 1, 2, 2, 2]), .inBlock 1, .code (sub (bodyOf Tryz.f46) [2, 2, 1, 2, 2, 1, 2, 2]), .inLoop (sub (bodyOf Tryz.f46) [2, 2, 1, 2, 2, 1]), .inBlock 0, .code (sub (bodyOf Tryz.f46) [2, 2, 2])] [(0, vl_0), (3, vout_3), (4, .int .i64 i_4), (5, .int .i64 k_5)] w) {r : List Str} {l_0 : List Str} {out_3 : List Str} {i_4 : Int} {vl_0 : Value} {vout_3 : Value} (hS : ref09_Ascending_B3 r0 r1 l_0 out_3 i_4 = some r) {ρ : Tags} {w : World} (hb : Fr (flat1 ρA) w0 ρ w) (hl_0 : SlR strC (Wb ρ) w vl_0 l_0) (hout_3 : OwnT strC 9 ρ 5 w vout_3 out_3) :
  KE Tryz.prog 46 (Ret (fun v w' => ∃ x1, v = x1 ∧ SlR strC (Wb ρA) w' x1 r ∧ Below w0.heap.size w0 w')) 63 [.code (sub (bodyOf Tryz.f46) [2, 2, 1, 2, 2, 1, 2, 2]), .inLoop (sub (bodyOf Tryz.f46) [2, 2, 1, 2, 2, 1]), .inBlock 0, .code (sub (bodyOf Tryz.f46) [2, 2, 2])] [(0, vl_0), (3, vout_3), (4, .int .i64 i_4)] w := by
 unfold ref09_Ascending_B3 at hS
 refine ke_region ?_
 refine sr_ev (v := .int .i64 i_4) (ev_move rfl) (by decide) ?_
 refine sr_ev (v := .int .i64 (IntKind.i64.wrap (i_4 + 1))) (ev_add rfl rfl) (by decide) ?_
 refine sr_ev (v := .int .i64 (IntKind.i64.wrap (i_4 + 1))) (ev_assign rfl) (by decide) ?_
 refine sr_end (l' := [(0, vl_0), (3, vout_3), (4, .int .i64 (IntKind.i64.wrap (i_4 + 1)))]) (.cons rfl (.cons rfl (.cons rfl (.nil _)))) ?_
 have hK := hr0 hS hb hl_0 hout_3
 exact ke_weaken (l' := [(0, vl_0), (3, vout_3), (4, .int .i64 (IntKind.i64.wrap (i_4 + 1)))]) (.cons rfl (.cons rfl (.cons rfl (.nil _)))) hK
theorem ref09_Ascending_L2_ok {w0 : World} (hg : Gs w0) {ρA : Tags} (hbd : ∀ b, ρA b ≠ 0 → b < w0.heap.size) (hz : Gz (flat1 ρA)) (r0 : List Str → List Str → Int → Option (List Str))
  (hr0 : ∀ {r : List Str} {l_0 : List Str} {out_3 : List Str} {i_4 : Int} {vl_0 : Value} {vout_3 : Value}, r0 l_0 out_3 i_4 = some r → ∀ {ρ : Tags} {w : World}, (Fr (flat1 ρA) w0 ρ w) → (SlR strC (Wb ρ) w vl_0 l_0) → (OwnT strC 9 ρ 5 w vout_3 out_3) → KE Tryz.prog 46 (Ret (fun v w' => ∃ x1, v = x1 ∧ SlR strC (Wb ρA) w' x1 r ∧ Below w0.heap.size w0 w')) 63 [.inLoop (sub (bodyOf Tryz.f46) [2, 2, 1, 2, 2, 1]), .inBlock 0, .code (sub (bodyOf Tryz.f46) [2, 2, 2])] [(0, vl_0), (3, vout_3), (4, .int .i64 i_4)] w) : ∀ (n : Nat), ∀ {r : List Str} {l_0 : List Str} {out_3 : List Str} {i_4 : Int} {k_5 : Int} {vl_0 : Value} {vout_3 : Value}, ref09_Ascending_L2 r0 n l_0 out_3 i_4 k_5 = some r → ∀ {ρ : Tags} {w : World}, (Fr (flat1 ρA) w0 ρ w) → (SlR strC (Wb ρ) w vl_0 l_0) → (OwnT strC 9 ρ 5 w vout_3 out_3) → KE Tryz.prog 46 (Ret (fun v w' => ∃ x1, v = x1 ∧ SlR strC (Wb ρA) w' x1 r ∧ Below w0.heap.size w0 w')) 63 [.code (sub (bodyOf Tryz.f46) [2, 2, 1, 2, 2, 1, 2, 1, 2, 2, 1, 2, 1]), .inLoop (sub (bodyOf Tryz.f46) [2, 2, 1, 2, 2, 1, 2, 1, 2, 2, 1, 2, 1]), .inBlock 2, .code (sub (bodyOf Tryz.f46) [2, 2, 1, 2, 2, 1, 2, 1, 2, 2, 2]), .inBlock 1, .code (sub (bodyOf Tryz.f46) [2, 2, 1, 2, 2, 1, 2, 2]), .inLoop (sub (bodyOf Tryz.f46) [2, 2, 1, 2, 2, 1]), .inBlock 0, .code (sub (bodyOf Tryz.f46) [2, 2, 2])] [(0, vl_0), (3, vout_3), (4, .int .i64 i_4), (5, .int .i64 k_5)] w := by
 intro n
 induction n with
 | zero => intro r l_0 out_3 i_4 k_5 vl_0 vout_3 hS; cases hS
 | succ n ih =>
  have hr1 : ∀ {r : List Str} {l_0 : List Str} {out_3 : List Str} {i_4 : Int} {k_5 : Int} {vl_0 : Value} {vout_3 : Value}, ref09_Ascending_L2 r0 n l_0 out_3 i_4 k_5 = some r → ∀ {ρ : Tags} {w : World}, (Fr (flat1 ρA) w0 ρ w) → (SlR strC (Wb ρ) w vl_0 l_0) → (OwnT strC 9 ρ 5 w vout_3 out_3) → KE Tryz.prog 46 (Ret (fun v w' => ∃ x1, v = x1 ∧ SlR strC (Wb ρA) w' x1 r ∧ Below w0.heap.size w0 w')) 63 [.inLoop (sub (bodyOf Tryz.f46) [2, 2, 1, 2, 2, 1, 2, 1, 2, 2, 1, 2, 1]), .inBlock 2, .code (sub (bodyOf Tryz.f46) [2, 2, 1, 2, 2, 1, 2, 1, 2, 2, 2]), .inBlock 1, .code (sub (bodyOf Tryz.f46) [2, 2, 1, 2, 2, 1, 2, 2]), .inLoop (sub (bodyOf Tryz.f46) [2, 2, 1, 2, 2, 1]), .inBlock 0, .code (sub (bodyOf Tryz.f46) [2, 2, 2])] [(0, vl_0), (3, vout_3), (4, .int .i64 i_4), (5, .int .i64 k_5)] w := fun {r} {l_0} {out_3} {i_4} {k_5} {vl_0} {vout_3} hS {ρ} {w} hb hl_0 hout_3 => ke_inLoop (ih hS hb hl_0 hout_3)
  clear ih
  intro r l_0 out_3 i_4 k_5 vl_0 vout_3 hS ρ w hb hl_0 hout_3
  unfold ref09_Ascending_L2 at hS
  refine ke_seq ?_
  refine ke_seq ?_
  refine ke_region_q Tryz.mixed (by kernel_rfl) ?_
  refine sq_ev (v := .int .i64 k_5) (fun w1 hw1 => ev_move rfl) (by decide) ?_
  refine sq_ev (v := vout_3) (fun w1 hw1 => ev_move rfl) (by decide) ?_
  refine sq_ev (v := .int .i64 (out_3.length : Int)) (fun w1 hw1 => ev_sllen Tryz.underlying29 rfl (hout_3.mv (Mv.of_below (i := 5) (ρ := ρ) hw1) (by decide)).asSl) (by decide) ?_
  refine sq_ev (v := .bool (decide (k_5 < (out_3.length : Int)))) (fun w1 hw1 => ev_lt rfl rfl) (by decide) ?_
  refine sq_ev (v := .bool (decide (k_5 < (out_3.length : Int)))) (fun w1 hw1 => ev_move rfl) (by decide) ?_
  obtain ⟨z14, hz16, hS⟩ := bind_some' hS
  refine sq_join (m := 10) (C := fun (x : Bool) => z14 = x) (l' := fun x => [(0, vl_0), (3, vout_3), (4, .int .i64 i_4), (5, .int .i64 k_5), (27, .bool x)]) ?_ ?_
  ·rintro _ rfl
   refine sq_end (l' := [(0, vl_0), (3, vout_3), (4, .int .i64 i_4), (5, .int .i64 k_5), (27, .bool z14)]) (.cons rfl (.cons rfl (.cons rfl (.cons rfl (.cons rfl (.nil _)))))) (fun w11 hw10 => ?_)
   have htr35 := Tr.of_below hw10 hb.bd
   replace hl_0 := hl_0.mv htr35.rd
   replace hout_3 := hout_3.mv (htr35.mv (i := 5) rfl) (by decide)
   replace hb := hb.trans htr35
   refine ke_cond (t := z14) rfl (fun hc36 => ?_) (fun hc36 => ?_)
   ·replace hS := ite_true' hS hc36
    refine ke_skip ?_
    refine ke_block ?_
    refine ke_region ?_
    refine sr_ev (v := .int .i64 k_5) (ev_move rfl) (by decide) ?_
    refine sr_ev (v := .int .i64 (IntKind.i64.wrap (k_5 + 1))) (ev_add rfl rfl) (by decide) ?_
    refine sr_ev (v := .int .i64 (IntKind.i64.wrap (k_5 + 1))) (ev_assign rfl) (by decide) ?_
    refine sr_end (l' := [(0, vl_0), (3, vout_3), (4, .int .i64 i_4), (5, .int .i64 (IntKind.i64.wrap (k_5 + 1)))]) (.cons rfl (.cons rfl (.cons rfl (.cons rfl (.nil _))))) ?_
    refine ke_inBlock ?_
    have hK := hr1 hS hb hl_0 hout_3
    exact ke_weaken (l' := [(0, vl_0), (3, vout_3), (4, .int .i64 i_4), (5, .int .i64 (IntKind.i64.wrap (k_5 + 1)))]) (.cons rfl (.cons rfl (.cons rfl (.cons rfl (.nil _))))) hK
   ·replace hS := ite_false' hS hc36
    refine ke_exit (k' := _) rfl ?_
    refine ke_seq ?_
    refine ke_seq ?_
    refine ke_region_q Tryz.mixed (by kernel_rfl) ?_
    refine sq_ev (v := .int .i64 k_5) (fun w1 hw1 => ev_move rfl) (by decide) ?_
    refine sq_ev (v := vout_3) (fun w1 hw1 => ev_move rfl) (by decide) ?_
    refine sq_ev (v := .int .i64 (out_3.length : Int)) (fun w1 hw1 => ev_sllen Tryz.underlying29 rfl (hout_3.mv (Mv.of_below (i := 5) (ρ := ρ) hw1) (by decide)).asSl) (by decide) ?_
    refine sq_ev (v := .bool (decide (k_5 < (out_3.length : Int)))) (fun w1 hw1 => ev_lt rfl rfl) (by decide) ?_
    refine sq_ev (v := .bool (decide (k_5 < (out_3.length : Int)))) (fun w1 hw1 => ev_move rfl) (by decide) ?_
    obtain ⟨z41, hz43, hS⟩ := bind_some' hS
    refine sq_join (m := 10) (C := fun (x : Bool) => z41 = x) (l' := fun x => [(0, vl_0), (3, vout_3), (4, .int .i64 i_4), (5, .int .i64 k_5), (44, .bool x)]) ?_ ?_
    ·rintro _ rfl
     refine sq_end (l' := [(0, vl_0), (3, vout_3), (4, .int .i64 i_4), (5, .int .i64 k_5), (44, .bool z41)]) (.cons rfl (.cons rfl (.cons rfl (.cons rfl (.cons rfl (.nil _)))))) (fun w38 hw37 => ?_)
     have htr62 := Tr.of_below hw37 hb.bd
     replace hl_0 := hl_0.mv htr62.rd
     replace hout_3 := hout_3.mv (htr62.mv (i := 5) rfl) (by decide)
     replace hb := hb.trans htr62
     refine ke_cond (t := z41) rfl (fun hc63 => ?_) (fun hc63 => ?_)
     ·replace hS := ite_true' hS hc63
      refine ke_exit (k' := _) rfl ?_
      have hK := ref09_Ascending_B3_ok hg hbd hz _ _ hr0 hr1 hS hb hl_0 hout_3
      exact ke_weaken (l' := [(0, vl_0), (3, vout_3), (4, .int .i64 i_4)]) (.cons rfl (.cons rfl (.cons rfl (.nil _)))) hK
     ·replace hS := ite_false' hS hc63
      refine ke_skip ?_
      refine ke_seq ?_
      refine ke_region ?_
      refine sr_litOwnT (i := 47) (c := strC) (ρ := ρ) (E := 9) (xs := []) (vs := #[]) (cs := #[]) (css := []) rfl (fun _ => by kernel_rfl) rfl trivial rfl (by decide) (by decide) hb.bd (by decide) ?_
      intro v66 ρ70 w68 h67 htr69
      replace hl_0 := hl_0.mv htr69.rd
      replace hout_3 := hout_3.mv (htr69.mv (i := 5) rfl) (by decide)
      replace hb := hb.trans htr69
      refine sr_ev (v := vout_3) (ev_move rfl) (by decide) ?_
      refine sr_ev (v := .int .i64 k_5) (ev_move rfl) (by decide) ?_
      obtain ⟨hk71, hS⟩ := chk_some hS
      obtain ⟨v72, h73, hq74⟩ := (hout_3.sl).cutT_h (P := Tryz.prog) Tryz.underlying29 Tryz.info9 rfl hk71
      refine sr_ev (v := v72) (hq74 w68 rfl rfl) (by decide) ?_
      obtain ⟨hk75, hS⟩ := chk_some hS
      refine sr_appendT (i := 47) (c := strC) (ρ := ρ70) (E := 9) (xs := ([] : List Str)) (ys := cut out_3 0 k_5) h67 (h73).x Tryz.underlying29 Tryz.info9 rfl rfl rfl (by decide) (by decide) (by decide) hb.bd hk75 rfl rfl (by decide) ?_
      intro v76 ρ78 w79 h77 htr80
      replace hl_0 := hl_0.mv htr80.rd
      replace hout_3 := hout_3.mv (htr80.mv (i := 5) rfl) (by decide)
      replace hb := hb.trans htr80
      refine sr_ev (v := v76) (ev_assign rfl) (by decide) ?_
      refine sr_end (l' := [(0, vl_0), (3, vout_3), (4, .int .i64 i_4), (5, .int .i64 k_5), (6, v76)]) (.cons rfl (.cons rfl (.cons rfl (.cons rfl (.cons rfl (.nil _)))))) ?_
      refine ke_seq ?_
      refine ke_region ?_
      refine sr_ev (v := v76) (ev_move rfl) (by decide) ?_
      refine sr_ev (v := vl_0) (ev_move rfl) (by decide) ?_
      refine sr_ev (v := .int .i64 i_4) (ev_move rfl) (by decide) ?_
      obtain ⟨y81, hy82, hS⟩ := bind_some' hS
      obtain ⟨b83, o84, cs86, hq87, he85⟩ := ((SlT.of_sl (i := 0) hl_0)).elem (P := Tryz.prog) Tryz.underlying29 Tryz.info9 rfl hy82
      obtain rfl : cs86 = [str y81] := he85.rd
      refine sr_ev (v := .pointer (some ⟨b83, o84, none⟩)) (hq87 w79 rfl rfl) (by decide) ?_
      refine sr_ev (v := str y81) (ev_load Tryz.isAgg9 rfl (he85.cell 0 _ rfl)) (by decide) ?_
      refine sr_litT (c := strC) (ρ := ρ78) (E := 9) (xs := [y81]) (vs := #[(0, str y81)]) (cs := #[str y81]) (css := [[str y81]]) rfl (fun _ => by kernel_rfl) rfl ⟨rfl, trivial⟩ rfl (by decide) hb.bd (by decide) ?_
      intro v88 w90 h89 hbw92
      have htr91 := Tr.of_below hbw92 hb.bd
      replace hl_0 := hl_0.mv htr91.rd
      replace hout_3 := hout_3.mv (htr91.mv (i := 5) rfl) (by decide)
      replace h77 := h77.mv (htr91.mv (i := 47) rfl) (by decide)
      replace hb := hb.trans htr91
      obtain ⟨hk93, hS⟩ := chk_some hS
      refine sr_appendT (i := 47) (c := strC) (ρ := ρ78) (E := 9) (xs := ([] : List Str) ++ (cut out_3 0 k_5)) (ys := ([y81] : List Str)) h77 ((SlT.of_sl (i := 0) h89)).x Tryz.underlying29 Tryz.info9 rfl rfl rfl (by decide) (by decide) (by decide) hb.bd hk93 rfl rfl (by decide) ?_
      intro v94 ρ96 w97 h95 htr98
      replace hl_0 := hl_0.mv htr98.rd
      replace hout_3 := hout_3.mv (htr98.mv (i := 5) rfl) (by decide)
      replace hb := hb.trans htr98
      refine sr_ev (v := v94) (ev_assign rfl) (by decide) ?_
      refine sr_end (l' := [(0, vl_0), (3, vout_3), (4, .int .i64 i_4), (5, .int .i64 k_5), (6, v94)]) (.cons rfl (.cons rfl (.cons rfl (.cons rfl (.cons rfl (.nil _)))))) ?_
      refine ke_region ?_
      refine sr_ev (v := v94) (ev_move rfl) (by decide) ?_
      refine sr_ev (v := vout_3) (ev_move rfl) (by decide) ?_
      refine sr_ev (v := .int .i64 k_5) (ev_move rfl) (by decide) ?_
      obtain ⟨hk99, hS⟩ := chk_some hS
      obtain ⟨v100, h101, hq102⟩ := (hout_3.sl).cutT_l (P := Tryz.prog) Tryz.underlying29 Tryz.info9 rfl hk99
      refine sr_ev (v := v100) (hq102 w97 rfl rfl) (by decide) ?_
      obtain ⟨hk103, hS⟩ := chk_some hS
      refine sr_appendT (i := 47) (c := strC) (ρ := ρ96) (E := 9) (xs := (([] : List Str) ++ (cut out_3 0 k_5)) ++ ([y81] : List Str)) (ys := cut out_3 k_5 out_3.length) h95 (h101).x Tryz.underlying29 Tryz.info9 rfl rfl rfl (by decide) (by decide) (by decide) hb.bd hk103 rfl rfl (by decide) ?_
      intro v104 ρ106 w107 h105 htr108
      replace hl_0 := hl_0.mv htr108.rd
      replace hb := hb.trans htr108
      refine sr_ev (v := v104) (ev_assign rfl) (by decide) ?_
      refine sr_end (l' := [(0, vl_0), (3, v104), (4, .int .i64 i_4)]) (.cons rfl (.cons rfl (.cons rfl (.nil _)))) ?_
      refine ke_inBlock ?_
      have htr109 := rtg_tr (ρ := ρ106) (w := w107) (i := 47) 5 (by decide) hb.bd
      have hmv110 : Mv ρ106 w107 47 (rtg ρ106 47 5) w107 5 := rtg_mv (by decide)
      replace hl_0 := hl_0.mv htr109.rd
      replace hb := hb.trans htr109
      replace h105 := h105.mv hmv110 (by decide)
      have hK := ref09_Ascending_B3_ok hg hbd hz _ _ hr0 hr1 hS hb hl_0 h105
      exact ke_weaken (l' := [(0, vl_0), (3, v104), (4, .int .i64 i_4)]) (.cons rfl (.cons rfl (.cons rfl (.nil _)))) hK
    ·intro K40
     clear hS
     rcases Bool.eq_false_or_eq_true (decide (k_5 < (out_3.length : Int))) with hg39 | hg39
     ·have hS := ite_true' hz43 hg39
      refine sq_evg (b := true) (e := 34) rfl rfl hg39 (v := vout_3) (fun w1 hw1 => ev_move rfl) (by decide) ?_
      refine sq_evg (b := true) (e := 34) rfl rfl hg39 (v := .int .i64 k_5) (fun w1 hw1 => ev_move rfl) (by decide) ?_
      obtain ⟨y46, hy47, hS⟩ := bind_some' hS
      obtain ⟨b48, o49, cs51, hq52, he50, hg53, ho54⟩ := hout_3.elemQ (P := Tryz.prog) Tryz.underlying29 Tryz.info9 rfl hy47
      obtain rfl : cs51 = [str y46] := he50.rd
      refine sq_evg (b := true) (e := 34) rfl rfl hg39 (v := .pointer (some ⟨b48, o49, none⟩)) (fun w1 hw1 => hq52 w1 rfl rfl) (by decide) ?_
      refine sq_evg (b := true) (e := 34) rfl rfl hg39 (v := str y46) (fun w1 hw1 => ev_load Tryz.isAgg9 rfl ((he50.mv (Mv.of_below (i := 5) (ρ := ρ) hw1) (Nat.succ_pos _)).cell 0 _ rfl)) (by decide) ?_
      refine sq_evg (b := true) (e := 34) rfl rfl hg39 (v := vl_0) (fun w1 hw1 => ev_move rfl) (by decide) ?_
      refine sq_evg (b := true) (e := 34) rfl rfl hg39 (v := .int .i64 i_4) (fun w1 hw1 => ev_move rfl) (by decide) ?_
      obtain ⟨y55, hy56, hS⟩ := bind_some' hS
      obtain ⟨b57, o58, cs60, hq61, he59⟩ := ((SlT.of_sl (i := 0) hl_0)).elem (P := Tryz.prog) Tryz.underlying29 Tryz.info9 rfl hy56
      obtain rfl : cs60 = [str y55] := he59.rd
      refine sq_evg (b := true) (e := 34) rfl rfl hg39 (v := .pointer (some ⟨b57, o58, none⟩)) (fun w1 hw1 => hq61 w1 rfl rfl) (by decide) ?_
      refine sq_evg (b := true) (e := 34) rfl rfl hg39 (v := str y55) (fun w1 hw1 => ev_load Tryz.isAgg9 rfl ((he59.mv (Mv.of_below (i := 0) (ρ := ρ) hw1) (Nat.succ_pos _)).cell 0 _ rfl)) (by decide) ?_
      refine sq_evg (b := true) (e := 34) rfl rfl hg39 (v := .bool (y46 == y55)) (fun w1 hw1 => ev_seq rfl rfl) (by decide) ?_
      refine sq_ev (v := .bool (y46 == y55)) (fun w1 hw1 => ev_pick_t rfl hg39 rfl) (by decide) ?_
      exact sq_weaken (l' := [(0, vl_0), (3, vout_3), (4, .int .i64 i_4), (5, .int .i64 k_5), (44, .bool (y46 == y55))]) (.cons rfl (.cons rfl (.cons rfl (.cons rfl (.cons rfl (.nil _)))))) (K40 (y46 == y55) (Option.some.inj hS).symm)
     ·have hS := ite_false' hz43 hg39
      refine sq_pass (e := 34) rfl rfl (by rw [hg39]; rfl) (by decide) ?_
      refine sq_pass (e := 34) rfl rfl (by rw [hg39]; rfl) (by decide) ?_
      refine sq_pass (e := 34) rfl rfl (by rw [hg39]; rfl) (by decide) ?_
      refine sq_pass (e := 34) rfl rfl (by rw [hg39]; rfl) (by decide) ?_
      refine sq_pass (e := 34) rfl rfl (by rw [hg39]; rfl) (by decide) ?_
      refine sq_pass (e := 34) rfl rfl (by rw [hg39]; rfl) (by decide) ?_
      refine sq_pass (e := 34) rfl rfl (by rw [hg39]; rfl) (by decide) ?_
      refine sq_pass (e := 34) rfl rfl (by rw [hg39]; rfl) (by decide) ?_
      refine sq_pass (e := 34) rfl rfl (by rw [hg39]; rfl) (by decide) ?_
      refine sq_ev (v := .bool false) (fun w1 hw1 => ev_pick_f rfl hg39 rfl) (by decide) ?_
      exact sq_weaken (l' := [(0, vl_0), (3, vout_3), (4, .int .i64 i_4), (5, .int .i64 k_5), (44, .bool false)]) (.cons rfl (.cons rfl (.cons rfl (.cons rfl (.cons rfl (.nil _)))))) (K40 false (Option.some.inj hS).symm)
  ·intro K13
   clear hS
   rcases Bool.eq_false_or_eq_true (decide (k_5 < (out_3.length : Int))) with hg12 | hg12
   ·have hS := ite_true' hz16 hg12
    refine sq_evg (b := true) (e := 17) rfl rfl hg12 (v := vout_3) (fun w1 hw1 => ev_move rfl) (by decide) ?_
    refine sq_evg (b := true) (e := 17) rfl rfl hg12 (v := .int .i64 k_5) (fun w1 hw1 => ev_move rfl) (by decide) ?_
    obtain ⟨y19, hy20, hS⟩ := bind_some' hS
    obtain ⟨b21, o22, cs24, hq25, he23, hg26, ho27⟩ := hout_3.elemQ (P := Tryz.prog) Tryz.underlying29 Tryz.info9 rfl hy20
    obtain rfl : cs24 = [str y19] := he23.rd
    refine sq_evg (b := true) (e := 17) rfl rfl hg12 (v := .pointer (some ⟨b21, o22, none⟩)) (fun w1 hw1 => hq25 w1 rfl rfl) (by decide) ?_
    refine sq_evg (b := true) (e := 17) rfl rfl hg12 (v := str y19) (fun w1 hw1 => ev_load Tryz.isAgg9 rfl ((he23.mv (Mv.of_below (i := 5) (ρ := ρ) hw1) (Nat.succ_pos _)).cell 0 _ rfl)) (by decide) ?_
    refine sq_evg (b := true) (e := 17) rfl rfl hg12 (v := vl_0) (fun w1 hw1 => ev_move rfl) (by decide) ?_
    refine sq_evg (b := true) (e := 17) rfl rfl hg12 (v := .int .i64 i_4) (fun w1 hw1 => ev_move rfl) (by decide) ?_
    obtain ⟨y28, hy29, hS⟩ := bind_some' hS
    obtain ⟨b30, o31, cs33, hq34, he32⟩ := ((SlT.of_sl (i := 0) hl_0)).elem (P := Tryz.prog) Tryz.underlying29 Tryz.info9 rfl hy29
    obtain rfl : cs33 = [str y28] := he32.rd
    refine sq_evg (b := true) (e := 17) rfl rfl hg12 (v := .pointer (some ⟨b30, o31, none⟩)) (fun w1 hw1 => hq34 w1 rfl rfl) (by decide) ?_
    refine sq_evg (b := true) (e := 17) rfl rfl hg12 (v := str y28) (fun w1 hw1 => ev_load Tryz.isAgg9 rfl ((he32.mv (Mv.of_below (i := 0) (ρ := ρ) hw1) (Nat.succ_pos _)).cell 0 _ rfl)) (by decide) ?_
    refine sq_evg (b := true) (e := 17) rfl rfl hg12 (v := .bool (sLt y19 y28)) (fun w1 hw1 => ev_slt rfl rfl) (by decide) ?_
    refine sq_ev (v := .bool (sLt y19 y28)) (fun w1 hw1 => ev_pick_t rfl hg12 rfl) (by decide) ?_
    exact sq_weaken (l' := [(0, vl_0), (3, vout_3), (4, .int .i64 i_4), (5, .int .i64 k_5), (27, .bool (sLt y19 y28))]) (.cons rfl (.cons rfl (.cons rfl (.cons rfl (.cons rfl (.nil _)))))) (K13 (sLt y19 y28) (Option.some.inj hS).symm)
   ·have hS := ite_false' hz16 hg12
    refine sq_pass (e := 17) rfl rfl (by rw [hg12]; rfl) (by decide) ?_
    refine sq_pass (e := 17) rfl rfl (by rw [hg12]; rfl) (by decide) ?_
    refine sq_pass (e := 17) rfl rfl (by rw [hg12]; rfl) (by decide) ?_
    refine sq_pass (e := 17) rfl rfl (by rw [hg12]; rfl) (by decide) ?_
    refine sq_pass (e := 17) rfl rfl (by rw [hg12]; rfl) (by decide) ?_
    refine sq_pass (e := 17) rfl rfl (by rw [hg12]; rfl) (by decide) ?_
    refine sq_pass (e := 17) rfl rfl (by rw [hg12]; rfl) (by decide) ?_
    refine sq_pass (e := 17) rfl rfl (by rw [hg12]; rfl) (by decide) ?_
    refine sq_pass (e := 17) rfl rfl (by rw [hg12]; rfl) (by decide) ?_
    refine sq_ev (v := .bool false) (fun w1 hw1 => ev_pick_f rfl hg12 rfl) (by decide) ?_
    exact sq_weaken (l' := [(0, vl_0), (3, vout_3), (4, .int .i64 i_4), (5, .int .i64 k_5), (27, .bool false)]) (.cons rfl (.cons rfl (.cons rfl (.cons rfl (.cons rfl (.nil _)))))) (K13 false (Option.some.inj hS).symm)
theorem ref09_Ascending_L1_ok {w0 : World} (hg : Gs w0) {ρA : Tags} (hbd : ∀ b, ρA b ≠ 0 → b < w0.heap.size) (hz : Gz (flat1 ρA)) : ∀ (n : Nat), ∀ {r : List Str} {l_0 : List Str} {out_3 : List Str} {i_4 : Int} {vl_0 : Value} {vout_3 : Value}, ref09_Ascending_L1 n l_0 out_3 i_4 = some r → ∀ {ρ : Tags} {w : World}, (Fr (flat1 ρA) w0 ρ w) → (SlR strC (Wb ρ) w vl_0 l_0) → (OwnT strC 9 ρ 5 w vout_3 out_3) → KE Tryz.prog 46 (Ret (fun v w' => ∃ x1, v = x1 ∧ SlR strC (Wb ρA) w' x1 r ∧ Below w0.heap.size w0 w')) 63 [.code (sub (bodyOf Tryz.f46) [2, 2, 1, 2, 2, 1]), .inLoop (sub (bodyOf Tryz.f46) [2, 2, 1, 2, 2, 1]), .inBlock 0, .code (sub (bodyOf Tryz.f46) [2, 2, 2])] [(0, vl_0), (3, vout_3), (4, .int .i64 i_4)] w := by
 intro n
 induction n with
 | zero => intro r l_0 out_3 i_4 vl_0 vout_3 hS; cases hS
 | succ n ih =>
  have hr0 : ∀ {r : List Str} {l_0 : List Str} {out_3 : List Str} {i_4 : Int} {vl_0 : Value} {vout_3 : Value}, ref09_Ascending_L1 n l_0 out_3 i_4 = some r → ∀ {ρ : Tags} {w : World}, (Fr (flat1 ρA) w0 ρ w) → (SlR strC (Wb ρ) w vl_0 l_0) → (OwnT strC 9 ρ 5 w vout_3 out_3) → KE Tryz.prog 46 (Ret (fun v w' => ∃ x1, v = x1 ∧ SlR strC (Wb ρA) w' x1 r ∧ Below w0.heap.size w0 w')) 63 [.inLoop (sub (bodyOf Tryz.f46) [2, 2, 1, 2, 2, 1]), .inBlock 0, .code (sub (bodyOf Tryz.f46) [2, 2, 2])] [(0, vl_0), (3, vout_3), (4, .int .i64 i_4)] w := fun {r} {l_0} {out_3} {i_4} {vl_0} {vout_3} hS {ρ} {w} hb hl_0 hout_3 => ke_inLoop (ih hS hb hl_0 hout_3)
  clear ih
  intro r l_0 out_3 i_4 vl_0 vout_3 hS ρ w hb hl_0 hout_3
  unfold ref09_Ascending_L1 at hS
  refine ke_seq ?_
  refine ke_seq ?_
  refine ke_region ?_
  refine sr_ev (v := .int .i64 i_4) (ev_move rfl) (by decide) ?_
  refine sr_ev (v := vl_0) (ev_move rfl) (by decide) ?_
  refine sr_ev (v := .int .i64 (l_0.length : Int)) (ev_sllen Tryz.underlying29 rfl hl_0.asSl) (by decide) ?_
  refine sr_ev (v := .bool (decide (i_4 < (l_0.length : Int)))) (ev_lt rfl rfl) (by decide) ?_
  refine sr_end (l' := [(0, vl_0), (3, vout_3), (4, .int .i64 i_4), (10, .bool (decide (i_4 < (l_0.length : Int))))]) (.cons rfl (.cons rfl (.cons rfl (.cons rfl (.nil _))))) ?_
  refine ke_cond (t := decide (i_4 < (l_0.length : Int))) rfl (fun hc7 => ?_) (fun hc7 => ?_)
  ·replace hS := ite_true' hS hc7
   refine ke_skip ?_
   refine ke_seq ?_
   refine ke_block ?_
   refine ke_seq ?_
   refine ke_region ?_
   refine sr_ev (v := .int .i64 0) (ev_assign rfl) (by decide) ?_
   refine sr_end (l' := [(0, vl_0), (3, vout_3), (4, .int .i64 i_4), (5, .int .i64 0)]) (.cons rfl (.cons rfl (.cons rfl (.cons rfl (.nil _))))) ?_
   refine ke_seq ?_
   refine ke_block ?_
   have hK := ref09_Ascending_L2_ok hg hbd hz _ hr0 _ hS hb hl_0 hout_3
   exact ke_weaken (l' := [(0, vl_0), (3, vout_3), (4, .int .i64 i_4), (5, .int .i64 0)]) (.cons rfl (.cons rfl (.cons rfl (.cons rfl (.nil _))))) (ke_loop hK)
  ·replace hS := ite_false' hS hc7
   refine ke_exit (k' := _) rfl ?_
   refine ke_seq ?_
   refine ke_region ?_
   refine sr_ev (v := vout_3) (ev_move rfl) (by decide) ?_
   refine sr_ev (v := vout_3) (ev_assign rfl) (by decide) ?_
   refine sr_end (l' := [(2, vout_3)]) (.cons rfl (.nil _)) ?_
   have htr111 := frz_tr (ρ := ρ) (w := w) (i := 5) (by decide) hb.bd
   have h112 : SlR strC (Wb (frz ρ 5)) w vout_3 out_3 := (SlT.mv hout_3.sl (frz_mv (ρ := ρ) (w := w) (i := 5))).sl
   replace hb := hb.trans htr111
   cases hS
   exact ke_ret1 Tryz.func46 rfl rfl ⟨_, rfl, _, rfl, (SlR.mv h112 (flat1_back hb hbd)), (hb.below (flat1_le _))⟩
theorem ref09_Ascending_ok (w0 : World) (hg : Gs w0) {ρA : Tags} (hbd : ∀ b, ρA b ≠ 0 → b < w0.heap.size) (hz : Gz ρA) {l_0 : List Str} {v1 : Value} {r : List Str} (h2 : SlR strC (Wb ρA) w0 v1 l_0) (hS : ref09_Ascending l_0 = some r) :
  Calls Tryz.prog 46 #[v1] w0 (Ret (fun v w' => ∃ x1, v = x1 ∧ SlR strC (Wb ρA) w' x1 r ∧ Below w0.heap.size w0 w')) := by
 unfold ref09_Ascending at hS
 have hb := flat1_fr (ρ := ρA) (w := w0) hbd
 have hz := hz.flat1
 replace h2 := SlR.mv h2 flat1_rd
 refine calls_of_ke Tryz.func46 rfl (n := 63) rfl rfl (l := [(0, v1)]) rfl ?_
 refine ke_seq ?_
 refine ke_region ?_
 refine sr_ev (v := .slice none 0 0) (ev_assign rfl) (by decide) ?_
 refine sr_end (l' := [(0, v1)]) (.cons rfl (.nil _)) ?_
 refine ke_seq ?_
 refine ke_region ?_
 refine sr_ev (v := .slice none 0 0) (ev_assign rfl) (by decide) ?_
 refine sr_end (l' := [(0, v1), (3, .slice none 0 0)]) (.cons rfl (.cons rfl (.nil _))) ?_
 refine ke_seq ?_
 refine ke_seq ?_
 refine ke_region ?_
 refine sr_ev (v := .int .i64 0) (ev_assign rfl) (by decide) ?_
 refine sr_end (l' := [(0, v1), (3, .slice none 0 0), (4, .int .i64 0)]) (.cons rfl (.cons rfl (.cons rfl (.nil _)))) ?_
 refine ke_block ?_
 have hK := ref09_Ascending_L1_ok hg hbd hz _ hS hb h2 OwnT.nil
 exact ke_weaken (l' := [(0, v1), (3, (.slice none 0 0)), (4, .int .i64 0)]) (.cons rfl (.cons rfl (.cons rfl (.nil _)))) (ke_loop hK)
theorem ref37_Devices_List_B2_ok {w0 : World} (hg : Gs w0) {ρA : Tags} (hbd : ∀ b, ρA b ≠ 0 → b < w0.heap.size) (hz : Gz (flat1 ρA)) (r0 : ref37_Devices → Str → Int → List Str → Int → Option (List Str))
  (hr0 : ∀ {r : List Str} {od_0 : ref37_Devices} {user_1 : Str} {now_2 : Int} {out_7 : List Str} {i_8 : Int} {gd_0 : Nat} {vout_7 : Value}, r0 od_0 user_1 now_2 out_7 i_8 = some r → ∀ {ρ : Tags} {w : World}, (Fr (flat1 ρA) w0 ρ w) → (ref37_Devices.O (fun _ => 1) ρ w gd_0 od_0) → (OwnT strC 9 ρ 9 w vout_7 out_7) → KE Tryz.prog 27 (Ret (fun v w' => ∃ x1, v = x1 ∧ SlR strC (Wb ρA) w' x1 r ∧ Below w0.heap.size w0 w')) 54 [.inLoop (sub (bodyOf Tryz.f27) [2, 2, 1, 2, 2, 1]), .inBlock 0, .code (sub (bodyOf Tryz.f27) [2, 2, 2])] [(0, .pointer (some ⟨gd_0, 0, none⟩)), (1, str user_1), (2, .int .i64 now_2), (7, vout_7), (8, .int .i64 i_8)] w) {r : List Str} {od_0 : ref37_Devices} {user_1 : Str} {now_2 : Int} {out_7 : List Str} {i_8 : Int} {gd_0 : Nat} {vout_7 : Value} (hS : ref37_Devices_List_B2 r0 od_0 user_1 now_2 out_7 i_8 = some r) {ρ : Tags} {w : World} (hb : Fr (flat1 ρA) w0 ρ w) (hod_0 : ref37_Devices.O (fun _ => 1) ρ w gd_0 od_0) (hout_7 : OwnT strC 9 ρ 9 w vout_7 out_7) :
  KE Tryz.prog 27 (Ret (fun v w' => ∃ x1, v = x1 ∧ SlR strC (Wb ρA) w' x1 r ∧ Below w0.heap.size w0 w')) 54 [.inBlock 1, .code (sub (bodyOf Tryz.f27) [2, 2, 1, 2, 2, 1, 2, 2]), .inLoop (sub (bodyOf Tryz.f27) [2, 2, 1, 2, 2, 1]), .inBlock 0, .code (sub (bodyOf Tryz.f27) [2, 2, 2])] [(0, .pointer (some ⟨gd_0, 0, none⟩)), (1, str user_1), (2, .int .i64 now_2), (7, vout_7), (8, .int .i64 i_8)] w := by
 unfold ref37_Devices_List_B2 at hS
 obtain ⟨v66, hB68, h67⟩ := hod_0
 replace hB68 : Blk ρ 1 w gd_0 (.cells #[v66, .int .i64 od_0.N] 55 (0, 0)) := hB68
 replace h67 : OwnT ref37_Device.c 70 ρ 1 w v66 od_0.L := h67
 refine ke_inBlock ?_
 refine ke_region ?_
 refine sr_ev (v := .int .i64 i_8) (ev_move rfl) (by decide) ?_
 refine sr_ev (v := .int .i64 (IntKind.i64.wrap (i_8 + 1))) (ev_add rfl rfl) (by decide) ?_
 refine sr_ev (v := .int .i64 (IntKind.i64.wrap (i_8 + 1))) (ev_assign rfl) (by decide) ?_
 refine sr_end (l' := [(0, .pointer (some ⟨gd_0, 0, none⟩)), (1, str user_1), (2, .int .i64 now_2), (7, vout_7), (8, .int .i64 (IntKind.i64.wrap (i_8 + 1)))]) (.cons rfl (.cons rfl (.cons rfl (.cons rfl (.cons rfl (.nil _)))))) ?_
 have hK := hr0 hS hb ⟨_, hB68, h67⟩ hout_7
 exact ke_weaken (l' := [(0, .pointer (some ⟨gd_0, 0, none⟩)), (1, str user_1), (2, .int .i64 now_2), (7, vout_7), (8, .int .i64 (IntKind.i64.wrap (i_8 + 1)))]) (.cons rfl (.cons rfl (.cons rfl (.cons rfl (.cons rfl (.nil _)))))) hK
theorem ref37_Devices_List_L1_ok {w0 : World} (hg : Gs w0) {ρA : Tags} (hbd : ∀ b, ρA b ≠ 0 → b < w0.heap.size) (hz : Gz (flat1 ρA)) : ∀ (n : Nat), ∀ {r : List Str} {od_0 : ref37_Devices} {user_1 : Str} {now_2 : Int} {out_7 : List Str} {i_8 : Int} {gd_0 : Nat} {vout_7 : Value}, ref37_Devices_List_L1 n od_0 user_1 now_2 out_7 i_8 = some r → ∀ {ρ : Tags} {w : World}, (Fr (flat1 ρA) w0 ρ w) → (ref37_Devices.O (fun _ => 1) ρ w gd_0 od_0) → (OwnT strC 9 ρ 9 w vout_7 out_7) → KE Tryz.prog 27 (Ret (fun v w' => ∃ x1, v = x1 ∧ SlR strC (Wb ρA) w' x1 r ∧ Below w0.heap.size w0 w')) 54 [.code (sub (bodyOf Tryz.f27) [2, 2, 1, 2, 2, 1]), .inLoop (sub (bodyOf Tryz.f27) [2, 2, 1, 2, 2, 1]), .inBlock 0, .code (sub (bodyOf Tryz.f27) [2, 2, 2])] [(0, .pointer (some ⟨gd_0, 0, none⟩)), (1, str user_1), (2, .int .i64 now_2), (7, vout_7), (8, .int .i64 i_8)] w := by
 intro n
 induction n with
 | zero => intro r od_0 user_1 now_2 out_7 i_8 gd_0 vout_7 hS; cases hS
 | succ n ih =>
  have hr0 : ∀ {r : List Str} {od_0 : ref37_Devices} {user_1 : Str} {now_2 : Int} {out_7 : List Str} {i_8 : Int} {gd_0 : Nat} {vout_7 : Value}, ref37_Devices_List_L1 n od_0 user_1 now_2 out_7 i_8 = some r → ∀ {ρ : Tags} {w : World}, (Fr (flat1 ρA) w0 ρ w) → (ref37_Devices.O (fun _ => 1) ρ w gd_0 od_0) → (OwnT strC 9 ρ 9 w vout_7 out_7) → KE Tryz.prog 27 (Ret (fun v w' => ∃ x1, v = x1 ∧ SlR strC (Wb ρA) w' x1 r ∧ Below w0.heap.size w0 w')) 54 [.inLoop (sub (bodyOf Tryz.f27) [2, 2, 1, 2, 2, 1]), .inBlock 0, .code (sub (bodyOf Tryz.f27) [2, 2, 2])] [(0, .pointer (some ⟨gd_0, 0, none⟩)), (1, str user_1), (2, .int .i64 now_2), (7, vout_7), (8, .int .i64 i_8)] w := fun {r} {od_0} {user_1} {now_2} {out_7} {i_8} {gd_0} {vout_7} hS {ρ} {w} hb hod_0 hout_7 => ke_inLoop (ih hS hb hod_0 hout_7)
  clear ih
  intro r od_0 user_1 now_2 out_7 i_8 gd_0 vout_7 hS ρ w hb hod_0 hout_7
  unfold ref37_Devices_List_L1 at hS
  obtain ⟨v6, hB8, h7⟩ := hod_0
  replace hB8 : Blk ρ 1 w gd_0 (.cells #[v6, .int .i64 od_0.N] 55 (0, 0)) := hB8
  replace h7 : OwnT ref37_Device.c 70 ρ 1 w v6 od_0.L := h7
  refine ke_seq ?_
  refine ke_seq ?_
  refine ke_region ?_
  refine sr_ev (v := .int .i64 i_8) (ev_move rfl) (by decide) ?_
  refine sr_ev (v := .pointer (some ⟨gd_0, 0, none⟩)) (ev_move rfl) (by decide) ?_
  refine sr_ev (v := .pointer (some ⟨gd_0, 0, none⟩)) (ev_nilCheck rfl) (by decide) ?_
  refine sr_ev (v := .pointer (some ⟨gd_0, 0, none⟩)) (ev_fieldAddr (i := 0) Tryz.underlying55 rfl Tryz.info53 rfl rfl) (by decide) ?_
  refine sr_ev (v := v6) (ev_load Tryz.isAgg53 rfl (hB8.cell rfl)) (by decide) ?_
  refine sr_ev (v := .int .i64 (od_0.L.length : Int)) (ev_sllen Tryz.underlying53 rfl h7.asSl) (by decide) ?_
  refine sr_ev (v := .bool (decide (i_8 < (od_0.L.length : Int)))) (ev_lt rfl rfl) (by decide) ?_
  refine sr_end (l' := [(0, .pointer (some ⟨gd_0, 0, none⟩)), (1, str user_1), (2, .int .i64 now_2), (7, vout_7), (8, .int .i64 i_8), (15, .bool (decide (i_8 < (od_0.L.length : Int))))]) (.cons rfl (.cons rfl (.cons rfl (.cons rfl (.cons rfl (.cons rfl (.nil _))))))) ?_
  refine ke_cond (t := decide (i_8 < (od_0.L.length : Int))) rfl (fun hc11 => ?_) (fun hc11 => ?_)
  ·replace hS := ite_true' hS hc11
   refine ke_skip ?_
   refine ke_seq ?_
   refine ke_block ?_
   refine ke_seq ?_
   refine ke_region_q Tryz.mixed (by kernel_rfl) ?_
   refine sq_ev (v := .pointer (some ⟨gd_0, 0, none⟩)) (fun w1 hw1 => ev_move rfl) (by decide) ?_
   refine sq_ev (v := .pointer (some ⟨gd_0, 0, none⟩)) (fun w1 hw1 => ev_nilCheck rfl) (by decide) ?_
   refine sq_ev (v := .pointer (some ⟨gd_0, 0, none⟩)) (fun w1 hw1 => ev_fieldAddr (i := 0) Tryz.underlying55 rfl Tryz.info53 rfl rfl) (by decide) ?_
   refine sq_ev (v := v6) (fun w1 hw1 => ev_load Tryz.isAgg53 rfl ((hB8.mv (Mv.of_below (i := 1) (ρ := ρ) hw1)).cell rfl)) (by decide) ?_
   refine sq_ev (v := .int .i64 i_8) (fun w1 hw1 => ev_move rfl) (by decide) ?_
   obtain ⟨y14, hy15, hS⟩ := bind_some' hS
   obtain ⟨b16, o17, cs19, hq20, he18, hg21, ho22⟩ := h7.elemQ (P := Tryz.prog) Tryz.underlying53 Tryz.info70 rfl hy15
   obtain rfl : cs19 = [str y14.User, str y14.ID, str y14.Secret, str y14.Challenge, .int .i64 y14.Until] := he18.rd
   refine sq_ev (v := .pointer (some ⟨b16, o17, none⟩)) (fun w1 hw1 => hq20 w1 rfl rfl) (by decide) ?_
   refine sq_ev (v := .pointer (some ⟨b16, o17 + 0, none⟩)) (fun w1 hw1 => ev_fieldAddr (i := 0) Tryz.underlying70 rfl Tryz.info9 rfl rfl) (by decide) ?_
   refine sq_ev (v := str y14.User) (fun w1 hw1 => ev_load Tryz.isAgg9 rfl ((he18.mv (Mv.of_below (i := 1) (ρ := ρ) hw1) (Nat.succ_pos _)).cell 0 _ rfl)) (by decide) ?_
   refine sq_ev (v := str user_1) (fun w1 hw1 => ev_move rfl) (by decide) ?_
   refine sq_ev (v := .bool (y14.User == user_1)) (fun w1 hw1 => ev_seq rfl rfl) (by decide) ?_
   refine sq_ev (v := .bool (y14.User == user_1)) (fun w1 hw1 => ev_move rfl) (by decide) ?_
   obtain ⟨z25, hz27, hS⟩ := bind_some' hS
   refine sq_join (m := 12) (C := fun (x : Bool) => z25 = x) (l' := fun x => [(0, .pointer (some ⟨gd_0, 0, none⟩)), (1, str user_1), (2, .int .i64 now_2), (7, vout_7), (8, .int .i64 i_8), (40, .bool x)]) ?_ ?_
   ·rintro _ rfl
    refine sq_end (l' := [(0, .pointer (some ⟨gd_0, 0, none⟩)), (1, str user_1), (2, .int .i64 now_2), (7, vout_7), (8, .int .i64 i_8), (40, .bool z25)]) (.cons rfl (.cons rfl (.cons rfl (.cons rfl (.cons rfl (.cons rfl (.nil _))))))) (fun w13 hw12 => ?_)
    have htr44 := Tr.of_below hw12 hb.bd
    replace hout_7 := hout_7.mv (htr44.mv (i := 9) rfl) (by decide)
    replace hB8 := hB8.mv (htr44.mv (i := 1) rfl)
    replace h7 := h7.mv (htr44.mv (i := 1) rfl) (by decide)
    replace hb := hb.trans htr44
    refine ke_cond (t := z25) rfl (fun hc45 => ?_) (fun hc45 => ?_)
    ·replace hS := ite_true' hS hc45
     refine ke_region ?_
     refine sr_ev (v := vout_7) (ev_move rfl) (by decide) ?_
     refine sr_ev (v := .pointer (some ⟨gd_0, 0, none⟩)) (ev_move rfl) (by decide) ?_
     refine sr_ev (v := .pointer (some ⟨gd_0, 0, none⟩)) (ev_nilCheck rfl) (by decide) ?_
     refine sr_ev (v := .pointer (some ⟨gd_0, 0, none⟩)) (ev_fieldAddr (i := 0) Tryz.underlying55 rfl Tryz.info53 rfl rfl) (by decide) ?_
     refine sr_ev (v := v6) (ev_load Tryz.isAgg53 rfl (hB8.cell rfl)) (by decide) ?_
     refine sr_ev (v := .int .i64 i_8) (ev_move rfl) (by decide) ?_
     obtain ⟨y46, hy47, hS⟩ := bind_some' hS
     obtain ⟨b48, o49, cs51, hq52, he50, hg53, ho54⟩ := h7.elemQ (P := Tryz.prog) Tryz.underlying53 Tryz.info70 rfl hy47
     obtain rfl : cs51 = [str y46.User, str y46.ID, str y46.Secret, str y46.Challenge, .int .i64 y46.Until] := he50.rd
     refine sr_ev (v := .pointer (some ⟨b48, o49, none⟩)) (hq52 w13 rfl rfl) (by decide) ?_
     refine sr_ev (v := .pointer (some ⟨b48, o49 + 1, none⟩)) (ev_fieldAddr (i := 1) Tryz.underlying70 rfl Tryz.info9 rfl rfl) (by decide) ?_
     refine sr_ev (v := str y46.ID) (ev_load Tryz.isAgg9 rfl (he50.cell 1 _ rfl)) (by decide) ?_
     refine sr_litT (c := strC) (ρ := ρ) (E := 9) (xs := [y46.ID]) (vs := #[(0, str y46.ID)]) (cs := #[str y46.ID]) (css := [[str y46.ID]]) rfl (fun _ => by kernel_rfl) rfl ⟨rfl, trivial⟩ rfl (by decide) hb.bd (by decide) ?_
     intro v55 w57 h56 hbw59
     have htr58 := Tr.of_below hbw59 hb.bd
     replace hout_7 := hout_7.mv (htr58.mv (i := 9) rfl) (by decide)
     replace hB8 := hB8.mv (htr58.mv (i := 1) rfl)
     replace h7 := h7.mv (htr58.mv (i := 1) rfl) (by decide)
     replace hb := hb.trans htr58
     obtain ⟨hk60, hS⟩ := chk_some hS
     refine sr_appendT (i := 9) (c := strC) (ρ := ρ) (E := 9) (xs := out_7) (ys := ([y46.ID] : List Str)) hout_7 ((SlT.of_sl (i := 0) h56)).x Tryz.underlying29 Tryz.info9 rfl rfl rfl (by decide) (by decide) (by decide) hb.bd hk60 rfl rfl (by decide) ?_
     intro v61 ρ63 w64 h62 htr65
     replace hB8 := hB8.mv (htr65.mv (i := 1) rfl)
     replace h7 := h7.mv (htr65.mv (i := 1) rfl) (by decide)
     replace hb := hb.trans htr65
     refine sr_ev (v := v61) (ev_assign rfl) (by decide) ?_
     refine sr_end (l' := [(0, .pointer (some ⟨gd_0, 0, none⟩)), (1, str user_1), (2, .int .i64 now_2), (7, v61), (8, .int .i64 i_8)]) (.cons rfl (.cons rfl (.cons rfl (.cons rfl (.cons rfl (.nil _)))))) ?_
     have hK := ref37_Devices_List_B2_ok hg hbd hz _ hr0 hS hb ⟨_, hB8, h7⟩ h62
     exact ke_weaken (l' := [(0, .pointer (some ⟨gd_0, 0, none⟩)), (1, str user_1), (2, .int .i64 now_2), (7, v61), (8, .int .i64 i_8)]) (.cons rfl (.cons rfl (.cons rfl (.cons rfl (.cons rfl (.nil _)))))) hK
    ·replace hS := ite_false' hS hc45
     refine ke_skip ?_
     have hK := ref37_Devices_List_B2_ok hg hbd hz _ hr0 hS hb ⟨_, hB8, h7⟩ hout_7
     exact ke_weaken (l' := [(0, .pointer (some ⟨gd_0, 0, none⟩)), (1, str user_1), (2, .int .i64 now_2), (7, vout_7), (8, .int .i64 i_8)]) (.cons rfl (.cons rfl (.cons rfl (.cons rfl (.cons rfl (.nil _)))))) hK
   ·intro K24
    clear hS
    rcases Bool.eq_false_or_eq_true (y14.User == user_1) with hg23 | hg23
    ·have hS := ite_true' hz27 hg23
     refine sq_evg (b := true) (e := 28) rfl rfl hg23 (v := .int .i64 now_2) (fun w1 hw1 => ev_move rfl) (by decide) ?_
     obtain ⟨y30, hy31, hS⟩ := bind_some' hS
     refine sq_callg (b := true) (e := 28) rfl rfl hg23 (v := .int .i64 y30) (vs := [.int .i64 now_2]) rfl Tryz.call41 rfl (fun w1 hw1 => (ref15_Instant_ok _ ((hg.fr hz hb).below hw1) hy31)) (by decide) ?_
     refine sq_evg (b := true) (e := 28) rfl rfl hg23 (v := .pointer (some ⟨gd_0, 0, none⟩)) (fun w1 hw1 => ev_move rfl) (by decide) ?_
     refine sq_evg (b := true) (e := 28) rfl rfl hg23 (v := .pointer (some ⟨gd_0, 0, none⟩)) (fun w1 hw1 => ev_nilCheck rfl) (by decide) ?_
     refine sq_evg (b := true) (e := 28) rfl rfl hg23 (v := .pointer (some ⟨gd_0, 0, none⟩)) (fun w1 hw1 => ev_fieldAddr (i := 0) Tryz.underlying55 rfl Tryz.info53 rfl rfl) (by decide) ?_
     refine sq_evg (b := true) (e := 28) rfl rfl hg23 (v := v6) (fun w1 hw1 => ev_load Tryz.isAgg53 rfl ((hB8.mv (Mv.of_below (i := 1) (ρ := ρ) hw1)).cell rfl)) (by decide) ?_
     refine sq_evg (b := true) (e := 28) rfl rfl hg23 (v := .int .i64 i_8) (fun w1 hw1 => ev_move rfl) (by decide) ?_
     obtain ⟨y35, hy36, hS⟩ := bind_some' hS
     obtain ⟨b37, o38, cs40, hq41, he39, hg42, ho43⟩ := h7.elemQ (P := Tryz.prog) Tryz.underlying53 Tryz.info70 rfl hy36
     obtain rfl : cs40 = [str y35.User, str y35.ID, str y35.Secret, str y35.Challenge, .int .i64 y35.Until] := he39.rd
     refine sq_evg (b := true) (e := 28) rfl rfl hg23 (v := .pointer (some ⟨b37, o38, none⟩)) (fun w1 hw1 => hq41 w1 rfl rfl) (by decide) ?_
     refine sq_evg (b := true) (e := 28) rfl rfl hg23 (v := .pointer (some ⟨b37, o38 + 4, none⟩)) (fun w1 hw1 => ev_fieldAddr (i := 4) Tryz.underlying70 rfl Tryz.info3 rfl rfl) (by decide) ?_
     refine sq_evg (b := true) (e := 28) rfl rfl hg23 (v := .int .i64 y35.Until) (fun w1 hw1 => ev_load Tryz.isAgg3 rfl ((he39.mv (Mv.of_below (i := 1) (ρ := ρ) hw1) (Nat.succ_pos _)).cell 4 _ rfl)) (by decide) ?_
     refine sq_evg (b := true) (e := 28) rfl rfl hg23 (v := .bool (decide (y30 < y35.Until))) (fun w1 hw1 => ev_lt rfl rfl) (by decide) ?_
     refine sq_ev (v := .bool (decide (y30 < y35.Until))) (fun w1 hw1 => ev_pick_t rfl hg23 rfl) (by decide) ?_
     exact sq_weaken (l' := [(0, .pointer (some ⟨gd_0, 0, none⟩)), (1, str user_1), (2, .int .i64 now_2), (7, vout_7), (8, .int .i64 i_8), (40, .bool (decide (y30 < y35.Until)))]) (.cons rfl (.cons rfl (.cons rfl (.cons rfl (.cons rfl (.cons rfl (.nil _))))))) (K24 (decide (y30 < y35.Until)) (Option.some.inj hS).symm)
    ·have hS := ite_false' hz27 hg23
     refine sq_pass (e := 28) rfl rfl (by rw [hg23]; rfl) (by decide) ?_
     refine sq_pass (e := 28) rfl rfl (by rw [hg23]; rfl) (by decide) ?_
     refine sq_pass (e := 28) rfl rfl (by rw [hg23]; rfl) (by decide) ?_
     refine sq_pass (e := 28) rfl rfl (by rw [hg23]; rfl) (by decide) ?_
     refine sq_pass (e := 28) rfl rfl (by rw [hg23]; rfl) (by decide) ?_
     refine sq_pass (e := 28) rfl rfl (by rw [hg23]; rfl) (by decide) ?_
     refine sq_pass (e := 28) rfl rfl (by rw [hg23]; rfl) (by decide) ?_
     refine sq_pass (e := 28) rfl rfl (by rw [hg23]; rfl) (by decide) ?_
     refine sq_pass (e := 28) rfl rfl (by rw [hg23]; rfl) (by decide) ?_
     refine sq_pass (e := 28) rfl rfl (by rw [hg23]; rfl) (by decide) ?_
     refine sq_pass (e := 28) rfl rfl (by rw [hg23]; rfl) (by decide) ?_
     refine sq_ev (v := .bool false) (fun w1 hw1 => ev_pick_f rfl hg23 rfl) (by decide) ?_
     exact sq_weaken (l' := [(0, .pointer (some ⟨gd_0, 0, none⟩)), (1, str user_1), (2, .int .i64 now_2), (7, vout_7), (8, .int .i64 i_8), (40, .bool false)]) (.cons rfl (.cons rfl (.cons rfl (.cons rfl (.cons rfl (.cons rfl (.nil _))))))) (K24 false (Option.some.inj hS).symm)
  ·replace hS := ite_false' hS hc11
   refine ke_exit (k' := _) rfl ?_
   refine ke_seq ?_
   refine ke_region ?_
   refine sr_ev (v := vout_7) (ev_move rfl) (by decide) ?_
   have htr71 := frz_tr (ρ := ρ) (w := w) (i := 9) (by decide) hb.bd
   have h72 : SlR strC (Wb (frz ρ 9)) w vout_7 out_7 := (SlT.mv hout_7.sl (frz_mv (ρ := ρ) (w := w) (i := 9))).sl
   replace hb := hb.trans htr71
   obtain ⟨y73, hy74, hS⟩ := bind_some' hS
   refine sr_call (vs := [vout_7]) rfl Tryz.call46 rfl (ref09_Ascending_ok _ (hg.fr hz hb) (ρA := (frz ρ 9)) hb.bd (hz.fr hg hb) h72 hy74) (by decide) ?_
   rintro v78 w75 ⟨_, rfl, h79, hbw76⟩
   have htr77 := Tr.of_below hbw76 hb.bd
   replace hb := hb.trans htr77
   refine sr_ev (v := v78) (ev_assign rfl) (by decide) ?_
   refine sr_end (l' := [(6, v78)]) (.cons rfl (.nil _)) ?_
   cases hS
   exact ke_ret1 Tryz.func27 rfl rfl ⟨_, rfl, _, rfl, (SlR.mv h79 (flat1_back hb hbd)), (hb.below (flat1_le _))⟩
theorem ref37_Devices_List_ok (w0 : World) (hg : Gs w0) {ρA : Tags} (hbd : ∀ b, ρA b ≠ 0 → b < w0.heap.size) (hz : Gz ρA) {τ0 : Nat → Nat} (hτ0 : ∀ p, 1 ≤ τ0 p) {d_0 : ref37_Devices} {user_1 : Str} {now_2 : Int} {gd_0 : Nat} {r : List Str} (ho0 : ref37_Devices.O τ0 ρA w0 gd_0 d_0) (hS : ref37_Devices_List d_0 user_1 now_2 = some r) :
  Calls Tryz.prog 27 #[.pointer (some ⟨gd_0, 0, none⟩), str user_1, .int .i64 now_2] w0 (Ret (fun v w' => ∃ x1, v = x1 ∧ SlR strC (Wb ρA) w' x1 r ∧ Below w0.heap.size w0 w')) := by
 unfold ref37_Devices_List at hS
 have hb := flat1_fr (ρ := ρA) (w := w0) hbd
 have hz := hz.flat1
 obtain ⟨v1, hB3, h2⟩ := ho0
 replace hB3 := hB3.mv (flat1_mv (hτ0 0))
 replace h2 := h2.mv (flat1_mv (hτ0 1)) (by decide)
 replace hB3 : Blk (flat1 ρA) 1 w0 gd_0 (.cells #[v1, .int .i64 d_0.N] 55 (0, 0)) := hB3
 replace h2 : OwnT ref37_Device.c 70 (flat1 ρA) 1 w0 v1 d_0.L := h2
 refine calls_of_ke Tryz.func27 rfl (n := 54) rfl rfl (l := [(0, .pointer (some ⟨gd_0, 0, none⟩)), (1, str user_1), (2, .int .i64 now_2)]) rfl ?_
 refine ke_seq ?_
 refine ke_region ?_
 refine sr_ev (v := .slice none 0 0) (ev_assign rfl) (by decide) ?_
 refine sr_end (l' := [(0, .pointer (some ⟨gd_0, 0, none⟩)), (1, str user_1), (2, .int .i64 now_2)]) (.cons rfl (.cons rfl (.cons rfl (.nil _)))) ?_
 refine ke_seq ?_
 refine ke_region ?_
 refine sr_ev (v := .slice none 0 0) (ev_assign rfl) (by decide) ?_
 refine sr_end (l' := [(0, .pointer (some ⟨gd_0, 0, none⟩)), (1, str user_1), (2, .int .i64 now_2), (7, .slice none 0 0)]) (.cons rfl (.cons rfl (.cons rfl (.cons rfl (.nil _))))) ?_
 refine ke_seq ?_
 refine ke_seq ?_
 refine ke_region ?_
 refine sr_ev (v := .int .i64 0) (ev_assign rfl) (by decide) ?_
 refine sr_end (l' := [(0, .pointer (some ⟨gd_0, 0, none⟩)), (1, str user_1), (2, .int .i64 now_2), (7, .slice none 0 0), (8, .int .i64 0)]) (.cons rfl (.cons rfl (.cons rfl (.cons rfl (.cons rfl (.nil _)))))) ?_
 refine ke_block ?_
 have hK := ref37_Devices_List_L1_ok hg hbd hz _ hS hb ⟨_, hB3, h2⟩ OwnT.nil
 exact ke_weaken (l' := [(0, .pointer (some ⟨gd_0, 0, none⟩)), (1, str user_1), (2, .int .i64 now_2), (7, (.slice none 0 0)), (8, .int .i64 0)]) (.cons rfl (.cons rfl (.cons rfl (.cons rfl (.cons rfl (.nil _)))))) (ke_loop hK)
theorem ref37_Devices_Drop_B2_ok {w0 : World} (hg : Gs w0) {ρA : Tags} (hbd : ∀ b, ρA b ≠ 0 → b < w0.heap.size) {o : Nat} (ho2 : 2 ≤ o) {gd_0 : Nat} (hz : Gz (enter ρA o 2)) (r0 : ref37_Devices → Str → List ref37_Device → Int → Option (Int × ref37_Devices))
  (hr0 : ∀ {r : Int × ref37_Devices} {od_0 : ref37_Devices} {user_1 : Str} {out_5 : List ref37_Device} {i_6 : Int} {vout_5 : Value}, r0 od_0 user_1 out_5 i_6 = some r → ∀ {ρ : Tags} {w : World}, (Fr (enter ρA o 2) w0 ρ w) → (ref37_Devices.O (fun p => 100 + p) ρ w gd_0 od_0) → (OwnT ref37_Device.c 70 ρ 7 w vout_5 out_5) → KE Tryz.prog 28 (Ret (fun v w' => ∃ ρ', v = .int .i64 r.1 ∧ ref37_Devices.O (fun p => o + p) ρ' w' gd_0 r.2 ∧ Tr ρA w0 (rng o 2) ρ' w')) 50 [.inLoop (sub (bodyOf Tryz.f28) [2, 2, 1, 2, 2, 1]), .inBlock 0, .code (sub (bodyOf Tryz.f28) [2, 2, 2])] [(0, .pointer (some ⟨gd_0, 0, none⟩)), (1, str user_1), (5, vout_5), (6, .int .i64 i_6)] w) {r : Int × ref37_Devices} {od_0 : ref37_Devices} {user_1 : Str} {out_5 : List ref37_Device} {i_6 : Int} {vout_5 : Value} (hS : ref37_Devices_Drop_B2 r0 od_0 user_1 out_5 i_6 = some r) {ρ : Tags} {w : World} (hb : Fr (enter ρA o 2) w0 ρ w) (hod_0 : ref37_Devices.O (fun p => 100 + p) ρ w gd_0 od_0) (hout_5 : OwnT ref37_Device.c 70 ρ 7 w vout_5 out_5) :
  KE Tryz.prog 28 (Ret (fun v w' => ∃ ρ', v = .int .i64 r.1 ∧ ref37_Devices.O (fun p => o + p) ρ' w' gd_0 r.2 ∧ Tr ρA w0 (rng o 2) ρ' w')) 50 [.inBlock 1, .code (sub (bodyOf Tryz.f28) [2, 2, 1, 2, 2, 1, 2, 2]), .inLoop (sub (bodyOf Tryz.f28) [2, 2, 1, 2, 2, 1]), .inBlock 0, .code (sub (bodyOf Tryz.f28) [2, 2, 2])] [(0, .pointer (some ⟨gd_0, 0, none⟩)), (1, str user_1), (5, vout_5), (6, .int .i64 i_6)] w := by
 unfold ref37_Devices_Drop_B2 at hS
 obtain ⟨v38, hB40, h39⟩ := hod_0
 replace hB40 : Blk ρ 100 w gd_0 (.cells #[v38, .int .i64 od_0.N] 55 (0, 0)) := hB40
 replace h39 : OwnT ref37_Device.c 70 ρ 101 w v38 od_0.L := h39
 refine ke_inBlock ?_
 refine ke_region ?_
 refine sr_ev (v := .int .i64 i_6) (ev_move rfl) (by decide) ?_
 refine sr_ev (v := .int .i64 (IntKind.i64.wrap (i_6 + 1))) (ev_add rfl rfl) (by decide) ?_
 refine sr_ev (v := .int .i64 (IntKind.i64.wrap (i_6 + 1))) (ev_assign rfl) (by decide) ?_
 refine sr_end (l' := [(0, .pointer (some ⟨gd_0, 0, none⟩)), (1, str user_1), (5, vout_5), (6, .int .i64 (IntKind.i64.wrap (i_6 + 1)))]) (.cons rfl (.cons rfl (.cons rfl (.cons rfl (.nil _))))) ?_
 have hK := hr0 hS hb ⟨_, hB40, h39⟩ hout_5
 exact ke_weaken (l' := [(0, .pointer (some ⟨gd_0, 0, none⟩)), (1, str user_1), (5, vout_5), (6, .int .i64 (IntKind.i64.wrap (i_6 + 1)))]) (.cons rfl (.cons rfl (.cons rfl (.cons rfl (.nil _))))) hK
theorem ref37_Devices_Drop_L1_ok {w0 : World} (hg : Gs w0) {ρA : Tags} (hbd : ∀ b, ρA b ≠ 0 → b < w0.heap.size) {o : Nat} (ho2 : 2 ≤ o) {gd_0 : Nat} (hz : Gz (enter ρA o 2)) : ∀ (n : Nat), ∀ {r : Int × ref37_Devices} {od_0 : ref37_Devices} {user_1 : Str} {out_5 : List ref37_Device} {i_6 : Int} {vout_5 : Value}, ref37_Devices_Drop_L1 n od_0 user_1 out_5 i_6 = some r → ∀ {ρ : Tags} {w : World}, (Fr (enter ρA o 2) w0 ρ w) → (ref37_Devices.O (fun p => 100 + p) ρ w gd_0 od_0) → (OwnT ref37_Device.c 70 ρ 7 w vout_5 out_5) → KE Tryz.prog 28 (Ret (fun v w' => ∃ ρ', v = .int .i64 r.1 ∧ ref37_Devices.O (fun p => o + p) ρ' w' gd_0 r.2 ∧ Tr ρA w0 (rng o 2) ρ' w')) 50 [.code (sub (bodyOf Tryz.f28) [2, 2, 1, 2, 2, 1]), .inLoop (sub (bodyOf Tryz.f28) [2, 2, 1, 2, 2, 1]), .inBlock 0, .code (sub (bodyOf Tryz.f28) [2, 2, 2])] [(0, .pointer (some ⟨gd_0, 0, none⟩)), (1, str user_1), (5, vout_5), (6, .int .i64 i_6)] w := by
 intro n
 induction n with
 | zero => intro r od_0 user_1 out_5 i_6 vout_5 hS; cases hS
 | succ n ih =>
  have hr0 : ∀ {r : Int × ref37_Devices} {od_0 : ref37_Devices} {user_1 : Str} {out_5 : List ref37_Device} {i_6 : Int} {vout_5 : Value}, ref37_Devices_Drop_L1 n od_0 user_1 out_5 i_6 = some r → ∀ {ρ : Tags} {w : World}, (Fr (enter ρA o 2) w0 ρ w) → (ref37_Devices.O (fun p => 100 + p) ρ w gd_0 od_0) → (OwnT ref37_Device.c 70 ρ 7 w vout_5 out_5) → KE Tryz.prog 28 (Ret (fun v w' => ∃ ρ', v = .int .i64 r.1 ∧ ref37_Devices.O (fun p => o + p) ρ' w' gd_0 r.2 ∧ Tr ρA w0 (rng o 2) ρ' w')) 50 [.inLoop (sub (bodyOf Tryz.f28) [2, 2, 1, 2, 2, 1]), .inBlock 0, .code (sub (bodyOf Tryz.f28) [2, 2, 2])] [(0, .pointer (some ⟨gd_0, 0, none⟩)), (1, str user_1), (5, vout_5), (6, .int .i64 i_6)] w := fun {r} {od_0} {user_1} {out_5} {i_6} {vout_5} hS {ρ} {w} hb hod_0 hout_5 => ke_inLoop (ih hS hb hod_0 hout_5)
  clear ih
  intro r od_0 user_1 out_5 i_6 vout_5 hS ρ w hb hod_0 hout_5
  unfold ref37_Devices_Drop_L1 at hS
  obtain ⟨v4, hB6, h5⟩ := hod_0
  replace hB6 : Blk ρ 100 w gd_0 (.cells #[v4, .int .i64 od_0.N] 55 (0, 0)) := hB6
  replace h5 : OwnT ref37_Device.c 70 ρ 101 w v4 od_0.L := h5
  refine ke_seq ?_
  refine ke_seq ?_
  refine ke_region ?_
  refine sr_ev (v := .int .i64 i_6) (ev_move rfl) (by decide) ?_
  refine sr_ev (v := .pointer (some ⟨gd_0, 0, none⟩)) (ev_move rfl) (by decide) ?_
  refine sr_ev (v := .pointer (some ⟨gd_0, 0, none⟩)) (ev_nilCheck rfl) (by decide) ?_
  refine sr_ev (v := .pointer (some ⟨gd_0, 0, none⟩)) (ev_fieldAddr (i := 0) Tryz.underlying55 rfl Tryz.info53 rfl rfl) (by decide) ?_
  refine sr_ev (v := v4) (ev_load Tryz.isAgg53 rfl (hB6.cell rfl)) (by decide) ?_
  refine sr_ev (v := .int .i64 (od_0.L.length : Int)) (ev_sllen Tryz.underlying53 rfl h5.asSl) (by decide) ?_
  refine sr_ev (v := .bool (decide (i_6 < (od_0.L.length : Int)))) (ev_lt rfl rfl) (by decide) ?_
  refine sr_end (l' := [(0, .pointer (some ⟨gd_0, 0, none⟩)), (1, str user_1), (5, vout_5), (6, .int .i64 i_6), (14, .bool (decide (i_6 < (od_0.L.length : Int))))]) (.cons rfl (.cons rfl (.cons rfl (.cons rfl (.cons rfl (.nil _)))))) ?_
  refine ke_cond (t := decide (i_6 < (od_0.L.length : Int))) rfl (fun hc7 => ?_) (fun hc7 => ?_)
  ·replace hS := ite_true' hS hc7
   refine ke_skip ?_
   refine ke_seq ?_
   refine ke_block ?_
   refine ke_seq ?_
   refine ke_region ?_
   refine sr_ev (v := .pointer (some ⟨gd_0, 0, none⟩)) (ev_move rfl) (by decide) ?_
   refine sr_ev (v := .pointer (some ⟨gd_0, 0, none⟩)) (ev_nilCheck rfl) (by decide) ?_
   refine sr_ev (v := .pointer (some ⟨gd_0, 0, none⟩)) (ev_fieldAddr (i := 0) Tryz.underlying55 rfl Tryz.info53 rfl rfl) (by decide) ?_
   refine sr_ev (v := v4) (ev_load Tryz.isAgg53 rfl (hB6.cell rfl)) (by decide) ?_
   refine sr_ev (v := .int .i64 i_6) (ev_move rfl) (by decide) ?_
   obtain ⟨y8, hy9, hS⟩ := bind_some' hS
   obtain ⟨b10, o11, cs13, hq14, he12, hg15, ho16⟩ := h5.elemQ (P := Tryz.prog) Tryz.underlying53 Tryz.info70 rfl hy9
   obtain rfl : cs13 = [str y8.User, str y8.ID, str y8.Secret, str y8.Challenge, .int .i64 y8.Until] := he12.rd
   refine sr_ev (v := .pointer (some ⟨b10, o11, none⟩)) (hq14 w rfl rfl) (by decide) ?_
   refine sr_ev (v := .pointer (some ⟨b10, o11 + 0, none⟩)) (ev_fieldAddr (i := 0) Tryz.underlying70 rfl Tryz.info9 rfl rfl) (by decide) ?_
   refine sr_ev (v := str y8.User) (ev_load Tryz.isAgg9 rfl (he12.cell 0 _ rfl)) (by decide) ?_
   refine sr_ev (v := str user_1) (ev_move rfl) (by decide) ?_
   refine sr_ev (v := .bool (!(y8.User == user_1))) (ev_sne rfl rfl) (by decide) ?_
   refine sr_end (l' := [(0, .pointer (some ⟨gd_0, 0, none⟩)), (1, str user_1), (5, vout_5), (6, .int .i64 i_6), (26, .bool (!(y8.User == user_1)))]) (.cons rfl (.cons rfl (.cons rfl (.cons rfl (.cons rfl (.nil _)))))) ?_
   refine ke_cond (t := !(y8.User == user_1)) rfl (fun hc17 => ?_) (fun hc17 => ?_)
   ·replace hS := ite_true' hS hc17
    refine ke_region ?_
    refine sr_ev (v := vout_5) (ev_move rfl) (by decide) ?_
    refine sr_ev (v := .pointer (some ⟨gd_0, 0, none⟩)) (ev_move rfl) (by decide) ?_
    refine sr_ev (v := .pointer (some ⟨gd_0, 0, none⟩)) (ev_nilCheck rfl) (by decide) ?_
    refine sr_ev (v := .pointer (some ⟨gd_0, 0, none⟩)) (ev_fieldAddr (i := 0) Tryz.underlying55 rfl Tryz.info53 rfl rfl) (by decide) ?_
    refine sr_ev (v := v4) (ev_load Tryz.isAgg53 rfl (hB6.cell rfl)) (by decide) ?_
    refine sr_ev (v := .int .i64 i_6) (ev_move rfl) (by decide) ?_
    obtain ⟨y18, hy19, hS⟩ := bind_some' hS
    obtain ⟨b20, o21, cs23, hq24, he22, hg25, ho26⟩ := h5.elemQ (P := Tryz.prog) Tryz.underlying53 Tryz.info70 rfl hy19
    obtain rfl : cs23 = [str y18.User, str y18.ID, str y18.Secret, str y18.Challenge, .int .i64 y18.Until] := he22.rd
    refine sr_ev (v := .pointer (some ⟨b20, o21, none⟩)) (hq24 w rfl rfl) (by decide) ?_
    refine sr_ev (v := .agg #[str y18.User, str y18.ID, str y18.Secret, str y18.Challenge, .int .i64 y18.Until]) (ev_loads (cs := [str y18.User, str y18.ID, str y18.Secret, str y18.Challenge, .int .i64 y18.Until]) Tryz.isAgg70 Tryz.sizeOf70 rfl he22.cell) (by decide) ?_
    refine sr_litT (c := ref37_Device.c) (ρ := ρ) (E := 70) (xs := [y18]) (vs := #[(0, .agg #[str y18.User, str y18.ID, str y18.Secret, str y18.Challenge, .int .i64 y18.Until])]) (cs := #[str y18.User, str y18.ID, str y18.Secret, str y18.Challenge, .int .i64 y18.Until]) (css := [[str y18.User, str y18.ID, str y18.Secret, str y18.Challenge, .int .i64 y18.Until]]) rfl (fun _ => by kernel_rfl) rfl ⟨rfl, trivial⟩ rfl (by decide) hb.bd (by decide) ?_
    intro v27 w29 h28 hbw31
    have htr30 := Tr.of_below hbw31 hb.bd
    replace hout_5 := hout_5.mv (htr30.mv (i := 7) rfl) (by decide)
    replace hB6 := hB6.mv (htr30.mv (i := 100) rfl)
    replace h5 := h5.mv (htr30.mv (i := 101) rfl) (by decide)
    replace hb := hb.trans htr30
    obtain ⟨hk32, hS⟩ := chk_some hS
    refine sr_appendT (i := 7) (c := ref37_Device.c) (ρ := ρ) (E := 70) (xs := out_5) (ys := ([y18] : List ref37_Device)) hout_5 ((SlT.of_sl (i := 0) h28)).x Tryz.underlying53 Tryz.info70 rfl rfl rfl (by decide) (by decide) (by decide) hb.bd hk32 rfl rfl (by decide) ?_
    intro v33 ρ35 w36 h34 htr37
    replace hB6 := hB6.mv (htr37.mv (i := 100) rfl)
    replace h5 := h5.mv (htr37.mv (i := 101) rfl) (by decide)
    replace hb := hb.trans htr37
    refine sr_ev (v := v33) (ev_assign rfl) (by decide) ?_
    refine sr_end (l' := [(0, .pointer (some ⟨gd_0, 0, none⟩)), (1, str user_1), (5, v33), (6, .int .i64 i_6)]) (.cons rfl (.cons rfl (.cons rfl (.cons rfl (.nil _))))) ?_
    have hK := ref37_Devices_Drop_B2_ok hg hbd ho2 hz _ hr0 hS hb ⟨_, hB6, h5⟩ h34
    exact ke_weaken (l' := [(0, .pointer (some ⟨gd_0, 0, none⟩)), (1, str user_1), (5, v33), (6, .int .i64 i_6)]) (.cons rfl (.cons rfl (.cons rfl (.cons rfl (.nil _))))) hK
   ·replace hS := ite_false' hS hc17
    refine ke_skip ?_
    have hK := ref37_Devices_Drop_B2_ok hg hbd ho2 hz _ hr0 hS hb ⟨_, hB6, h5⟩ hout_5
    exact ke_weaken (l' := [(0, .pointer (some ⟨gd_0, 0, none⟩)), (1, str user_1), (5, vout_5), (6, .int .i64 i_6)]) (.cons rfl (.cons rfl (.cons rfl (.cons rfl (.nil _))))) hK
  ·replace hS := ite_false' hS hc7
   refine ke_exit (k' := _) rfl ?_
   refine ke_seq ?_
   refine ke_region ?_
   refine sr_ev (v := .pointer (some ⟨gd_0, 0, none⟩)) (ev_move rfl) (by decide) ?_
   refine sr_ev (v := .pointer (some ⟨gd_0, 0, none⟩)) (ev_nilCheck rfl) (by decide) ?_
   refine sr_ev (v := .pointer (some ⟨gd_0, 0, none⟩)) (ev_fieldAddr (i := 0) Tryz.underlying55 rfl Tryz.info53 rfl rfl) (by decide) ?_
   refine sr_ev (v := v4) (ev_load Tryz.isAgg53 rfl (hB6.cell rfl)) (by decide) ?_
   refine sr_ev (v := .int .i64 (od_0.L.length : Int)) (ev_sllen Tryz.underlying53 rfl h5.asSl) (by decide) ?_
   refine sr_ev (v := vout_5) (ev_move rfl) (by decide) ?_
   refine sr_ev (v := .int .i64 (out_5.length : Int)) (ev_sllen Tryz.underlying53 rfl hout_5.asSl) (by decide) ?_
   refine sr_ev (v := .int .i64 (IntKind.i64.wrap ((od_0.L.length : Int) - (out_5.length : Int)))) (ev_sub rfl rfl) (by decide) ?_
   refine sr_ev (v := .int .i64 (IntKind.i64.wrap ((od_0.L.length : Int) - (out_5.length : Int)))) (ev_assign rfl) (by decide) ?_
   refine sr_end (l' := [(0, .pointer (some ⟨gd_0, 0, none⟩)), (5, vout_5), (7, .int .i64 (IntKind.i64.wrap ((od_0.L.length : Int) - (out_5.length : Int))))]) (.cons rfl (.cons rfl (.cons rfl (.nil _)))) ?_
   refine ke_seq ?_
   refine ke_region ?_
   refine sr_ev (v := .pointer (some ⟨gd_0, 0, none⟩)) (ev_move rfl) (by decide) ?_
   refine sr_ev (v := vout_5) (ev_move rfl) (by decide) ?_
   refine sr_ev (v := .pointer (some ⟨gd_0, 0, none⟩)) (ev_nilCheck rfl) (by decide) ?_
   refine sr_ev (v := .pointer (some ⟨gd_0, 0, none⟩)) (ev_fieldAddr (i := 0) Tryz.underlying55 rfl Tryz.info53 rfl rfl) (by decide) ?_
   refine sr_storeT (v := vout_5) (vs := [vout_5]) (cs' := #[vout_5, .int .i64 od_0.N]) hB6 (by decide) hb.bd rfl rfl (one_cells (OwnT.oneCell hout_5)) Tryz.sizeOf53 rfl (by first | rfl | (simp only [List.all_cons, List.all_nil, OwnT.oneCell hout_5]; done) | (simp only [List.all_cons, List.all_nil, OwnT.oneCell hout_5]; rfl)) rfl ?_
   intro w41 hB61 htr42
   replace hout_5 := hout_5.mv (htr42.mv (i := 7) rfl) (by decide)
   replace hb := hb.trans htr42
   replace hB6 : Blk ρ 100 w41 gd_0 (.cells #[vout_5, .int .i64 od_0.N] 55 (0, 0)) := hB61
   clear hB61
   refine sr_end (l' := [(7, .int .i64 (IntKind.i64.wrap ((od_0.L.length : Int) - (out_5.length : Int))))]) (.cons rfl (.nil _)) ?_
   refine ke_seq ?_
   refine ke_region ?_
   refine sr_ev (v := .int .i64 (IntKind.i64.wrap ((od_0.L.length : Int) - (out_5.length : Int)))) (ev_move rfl) (by decide) ?_
   refine sr_ev (v := .int .i64 (IntKind.i64.wrap ((od_0.L.length : Int) - (out_5.length : Int)))) (ev_assign rfl) (by decide) ?_
   refine sr_end (l' := [(4, .int .i64 (IntKind.i64.wrap ((od_0.L.length : Int) - (out_5.length : Int))))]) (.cons rfl (.nil _)) ?_
   have htr43 := rtg_tr (ρ := ρ) (w := w41) (i := 7) 101 (by decide) hb.bd
   have hmv44 : Mv ρ w41 7 (rtg ρ 7 101) w41 101 := rtg_mv (by decide)
   replace hB6 := hB6.mv (htr43.mv (i := 100) rfl)
   replace hb := hb.trans htr43
   replace hout_5 := hout_5.mv hmv44 (by decide)
   cases hS
   exact ke_ret1 Tryz.func28 rfl rfl ⟨_, rfl, leave ρA w0 o 2 (rtg ρ 7 101), rfl, ⟨_, (hB6.mv (leave_mv (p := 0) (by decide) hb)), (hout_5.mv (leave_mv (p := 1) (by decide) hb) (Nat.ne_of_gt (Nat.lt_of_lt_of_le (Nat.lt_of_lt_of_le Nat.zero_lt_two ho2) (Nat.le_add_right _ _))))⟩, (leave_tr ho2 hb)⟩
theorem ref37_Devices_Drop_ok (w0 : World) (hg : Gs w0) {ρA : Tags} (hbd : ∀ b, ρA b ≠ 0 → b < w0.heap.size) (hz : Gz ρA) {o : Nat} (ho2 : 2 ≤ o) {d_0 : ref37_Devices} {user_1 : Str} {gd_0 : Nat} {r : Int × ref37_Devices} (ho0 : ref37_Devices.O (fun p => o + p) ρA w0 gd_0 d_0) (hS : ref37_Devices_Drop d_0 user_1 = some r) :
  Calls Tryz.prog 28 #[.pointer (some ⟨gd_0, 0, none⟩), str user_1] w0 (Ret (fun v w' => ∃ ρ', v = .int .i64 r.1 ∧ ref37_Devices.O (fun p => o + p) ρ' w' gd_0 r.2 ∧ Tr ρA w0 (rng o 2) ρ' w')) := by
 unfold ref37_Devices_Drop at hS
 have hb := enter_fr (ρ := ρA) (w := w0) (n := 2) ho2 hbd
 have hz := hz.enter (n := 2) ho2
 obtain ⟨v1, hB3, h2⟩ := ho0
 replace hB3 := hB3.mv (enter_mv (p := 0) (n := 2) (by decide) ho2)
 replace h2 := h2.mv (enter_mv (p := 1) (n := 2) (by decide) ho2) (by decide)
 replace hB3 : Blk (enter ρA o 2) 100 w0 gd_0 (.cells #[v1, .int .i64 d_0.N] 55 (0, 0)) := hB3
 replace h2 : OwnT ref37_Device.c 70 (enter ρA o 2) 101 w0 v1 d_0.L := h2
 refine calls_of_ke Tryz.func28 rfl (n := 50) rfl rfl (l := [(0, .pointer (some ⟨gd_0, 0, none⟩)), (1, str user_1)]) rfl ?_
 refine ke_seq ?_
 refine ke_region ?_
 refine sr_ev (v := .int .i64 0) (ev_assign rfl) (by decide) ?_
 refine sr_end (l' := [(0, .pointer (some ⟨gd_0, 0, none⟩)), (1, str user_1)]) (.cons rfl (.cons rfl (.nil _))) ?_
 refine ke_seq ?_
 refine ke_region ?_
 refine sr_ev (v := .slice none 0 0) (ev_assign rfl) (by decide) ?_
 refine sr_end (l' := [(0, .pointer (some ⟨gd_0, 0, none⟩)), (1, str user_1), (5, .slice none 0 0)]) (.cons rfl (.cons rfl (.cons rfl (.nil _)))) ?_
 refine ke_seq ?_
 refine ke_seq ?_
 refine ke_region ?_
 refine sr_ev (v := .int .i64 0) (ev_assign rfl) (by decide) ?_
 refine sr_end (l' := [(0, .pointer (some ⟨gd_0, 0, none⟩)), (1, str user_1), (5, .slice none 0 0), (6, .int .i64 0)]) (.cons rfl (.cons rfl (.cons rfl (.cons rfl (.nil _))))) ?_
 refine ke_block ?_
 have hK := ref37_Devices_Drop_L1_ok hg hbd ho2 hz _ hS hb ⟨_, hB3, h2⟩ OwnT.nil
 exact ke_weaken (l' := [(0, .pointer (some ⟨gd_0, 0, none⟩)), (1, str user_1), (5, (.slice none 0 0)), (6, .int .i64 0)]) (.cons rfl (.cons rfl (.cons rfl (.cons rfl (.nil _))))) (ke_loop hK)
theorem law37_model_B1_ok {w0 : World} (hg : Gs w0) {ρA : Tags} (hbd : ∀ b, ρA b ≠ 0 → b < w0.heap.size) {o : Nat} (ho2 : 2 ≤ o) {gd_0 : Nat} (hz : Gz (enter ρA o 2)) {r : law37_result × ref37_Devices} {t_6_0 : Str} {t_6_1 : List Str} {t_6_2 : Int} {t_6_3 : Bool} {t_6_4 : Int} {r_7_0 : Str} {r_7_1 : List Str} {r_7_2 : Int} {r_7_3 : Bool} {r_7_4 : Int} {ogd_0 : ref37_Devices} {gt_6 : Nat} {vt_6_1 : Value} {gr_7 : Nat} {vr_7_1 : Value} (hS : law37_model_B1 t_6_0 t_6_1 t_6_2 t_6_3 t_6_4 r_7_0 r_7_1 r_7_2 r_7_3 r_7_4 ogd_0 = some r) {ρ : Tags} {w : World} (hb : Fr (enter ρA o 2) w0 ρ w) (ht_6_1 : SlR strC (Wb ρ) w vt_6_1 t_6_1) (hBt_6 : Blk ρ 8 w gt_6 (.cells #[str t_6_0, vt_6_1, .int .i64 t_6_2, .bool t_6_3, .int .i64 t_6_4] 32 (0, 0))) (hr_7_1 : SlR strC (Wb ρ) w vr_7_1 r_7_1) (hBr_7 : Blk ρ 9 w gr_7 (.cells #[str r_7_0, vr_7_1, .int .i64 r_7_2, .bool r_7_3, .int .i64 r_7_4] 32 (0, 0))) (hogd_0 : ref37_Devices.O (fun p => 100 + p) ρ w gd_0 ogd_0) :
  KE Tryz.prog 9 (Ret (fun v w' => ∃ ρ' x1, v = .agg #[str r.1.text, x1, .int .i64 r.1.n, .bool r.1.is_, .int .i64 r.1.e] ∧ SlR strC (Wb ρ') w' x1 r.1.list ∧ ref37_Devices.O (fun p => o + p) ρ' w' gd_0 r.2 ∧ Tr ρA w0 (rng o 2) ρ' w')) 105 [.inBlock 0, .code (sub (bodyOf Tryz.f9) [2, 2, 2])] [(6, .pointer (some ⟨gt_6, 0, none⟩)), (7, .pointer (some ⟨gr_7, 0, none⟩))] w := by
 unfold law37_model_B1 at hS
 obtain ⟨v33, hB35, h34⟩ := hogd_0
 replace hB35 : Blk ρ 100 w gd_0 (.cells #[v33, .int .i64 ogd_0.N] 55 (0, 0)) := hB35
 replace h34 : OwnT ref37_Device.c 70 ρ 101 w v33 ogd_0.L := h34
 refine ke_inBlock ?_
 refine ke_seq ?_
 refine ke_region ?_
 refine sr_ev (v := .agg #[str r_7_0, vr_7_1, .int .i64 r_7_2, .bool r_7_3, .int .i64 r_7_4]) (ev_loads (cs := [str r_7_0, vr_7_1, .int .i64 r_7_2, .bool r_7_3, .int .i64 r_7_4]) Tryz.isAgg32 Tryz.sizeOf32 rfl (hBr_7.cells (vs := [str r_7_0, vr_7_1, .int .i64 r_7_2, .bool r_7_3, .int .i64 r_7_4]) rfl)) (by decide) ?_
 refine sr_storeT (v := .agg #[str r_7_0, vr_7_1, .int .i64 r_7_2, .bool r_7_3, .int .i64 r_7_4]) (vs := [str r_7_0, vr_7_1, .int .i64 r_7_2, .bool r_7_3, .int .i64 r_7_4]) (cs' := #[str r_7_0, vr_7_1, .int .i64 r_7_2, .bool r_7_3, .int .i64 r_7_4]) hBt_6 (by decide) hb.bd rfl rfl rfl Tryz.sizeOf32 rfl (by first | rfl | (simp only [List.all_cons, List.all_nil, SlR.oneCell hr_7_1]; done) | (simp only [List.all_cons, List.all_nil, SlR.oneCell hr_7_1]; rfl)) rfl ?_
 intro w38 hBt_61 htr39
 replace hr_7_1 := hr_7_1.mv htr39.rd
 replace hB35 := hB35.mv (htr39.mv (i := 100) rfl)
 replace h34 := h34.mv (htr39.mv (i := 101) rfl) (by decide)
 replace hb := hb.trans htr39
 replace hBt_6 : Blk ρ 8 w38 gt_6 (.cells #[str r_7_0, vr_7_1, .int .i64 r_7_2, .bool r_7_3, .int .i64 r_7_4] 32 (0, 0)) := hBt_61
 clear hBt_61
 refine sr_end (l' := [(6, .pointer (some ⟨gt_6, 0, none⟩))]) (.cons rfl (.nil _)) ?_
 cases hS
 exact ke_ret (rs := [.cell 6 32]) (vs := [.agg #[str r_7_0, vr_7_1, .int .i64 r_7_2, .bool r_7_3, .int .i64 r_7_4]]) Tryz.func9 rfl ⟨⟨_, rfl, run_loadVar_s (cs := [str r_7_0, vr_7_1, .int .i64 r_7_2, .bool r_7_3, .int .i64 r_7_4]) Tryz.isAgg32 Tryz.sizeOf32 (hBt_6.cells (vs := [str r_7_0, vr_7_1, .int .i64 r_7_2, .bool r_7_3, .int .i64 r_7_4]) rfl)⟩, trivial⟩ rfl ⟨_, rfl, leave ρA w0 o 2 ρ, _, rfl, (SlR.mv hr_7_1 (leave_rd hb)), ⟨_, (hB35.mv (leave_mv (p := 0) (by decide) hb)), (h34.mv (leave_mv (p := 1) (by decide) hb) (Nat.ne_of_gt (Nat.lt_of_lt_of_le (Nat.lt_of_lt_of_le Nat.zero_lt_two ho2) (Nat.le_add_right _ _))))⟩, (leave_tr ho2 hb)⟩
theorem law37_model_ok (w0 : World) (hg : Gs w0) {ρA : Tags} (hbd : ∀ b, ρA b ≠ 0 → b < w0.heap.size) (hz : Gz ρA) {o : Nat} (ho2 : 2 ≤ o) {d_0 : ref37_Devices} {o_1 : law37_Op} {last_2 : Str} {gd_0 : Nat} {r : law37_result × ref37_Devices} (ho0 : ref37_Devices.O (fun p => o + p) ρA w0 gd_0 d_0) (hS : law37_model d_0 o_1 last_2 = some r) :
  Calls Tryz.prog 9 #[.pointer (some ⟨gd_0, 0, none⟩), .agg #[.int .i64 o_1.Kind, str o_1.User, str o_1.ID, str o_1.Secret, .int .i64 o_1.Until, .int .i64 o_1.Now], str last_2] w0 (Ret (fun v w' => ∃ ρ' x1, v = .agg #[str r.1.text, x1, .int .i64 r.1.n, .bool r.1.is_, .int .i64 r.1.e] ∧ SlR strC (Wb ρ') w' x1 r.1.list ∧ ref37_Devices.O (fun p => o + p) ρ' w' gd_0 r.2 ∧ Tr ρA w0 (rng o 2) ρ' w')) := by
 unfold law37_model at hS
 have hb := enter_fr (ρ := ρA) (w := w0) (n := 2) ho2 hbd
 have hz := hz.enter (n := 2) ho2
 obtain ⟨v1, hB3, h2⟩ := ho0
 replace hB3 := hB3.mv (enter_mv (p := 0) (n := 2) (by decide) ho2)
 replace h2 := h2.mv (enter_mv (p := 1) (n := 2) (by decide) ho2) (by decide)
 replace hB3 : Blk (enter ρA o 2) 100 w0 gd_0 (.cells #[v1, .int .i64 d_0.N] 55 (0, 0)) := hB3
 replace h2 : OwnT ref37_Device.c 70 (enter ρA o 2) 101 w0 v1 d_0.L := h2
 refine calls_of_ke Tryz.func9 rfl (n := 105) rfl rfl (l := [(0, .pointer (some ⟨gd_0, 0, none⟩)), (1, .agg #[.int .i64 o_1.Kind, str o_1.User, str o_1.ID, str o_1.Secret, .int .i64 o_1.Until, .int .i64 o_1.Now]), (2, str last_2)]) rfl ?_
 refine ke_seq ?_
 refine ke_region ?_
 refine sr_boxT 6 (by decide) hb.bd rfl (by decide) ?_
 intro g6 ρ7 w8 hB10 htr9
 replace hB3 := hB3.mv (htr9.mv (i := 100) rfl)
 replace h2 := h2.mv (htr9.mv (i := 101) rfl) (by decide)
 replace hb := hb.trans htr9
 replace hB10 : Blk ρ7 6 w8 g6 (.cells #[.int .i64 o_1.Kind, str o_1.User, str o_1.ID, str o_1.Secret, .int .i64 o_1.Until, .int .i64 o_1.Now] 35 (0, 0)) := hB10
 refine sr_allocT 8 (by decide) hb.bd Tryz.zeroValue32 (by decide) ?_
 intro g11 ρ12 w13 hB15 htr14
 replace hB10 := hB10.mv (htr14.mv (i := 6) rfl)
 replace hB3 := hB3.mv (htr14.mv (i := 100) rfl)
 replace h2 := h2.mv (htr14.mv (i := 101) rfl) (by decide)
 replace hb := hb.trans htr14
 replace hB15 : Blk ρ12 8 w13 g11 (.cells #[str ([]), (.slice none 0 0), .int .i64 0, .bool false, .int .i64 0] 32 (0, 0)) := hB15
 refine sr_end (l' := [(0, .pointer (some ⟨gd_0, 0, none⟩)), (2, str last_2), (4, .pointer (some ⟨g6, 0, none⟩)), (6, .pointer (some ⟨g11, 0, none⟩))]) (.cons rfl (.cons rfl (.cons rfl (.cons rfl (.nil _))))) ?_
 refine ke_seq ?_
 refine ke_region ?_
 refine sr_allocT 9 (by decide) hb.bd Tryz.zeroValue32 (by decide) ?_
 intro g16 ρ17 w18 hB20 htr19
 replace hB15 := hB15.mv (htr19.mv (i := 8) rfl)
 replace hB10 := hB10.mv (htr19.mv (i := 6) rfl)
 replace hB3 := hB3.mv (htr19.mv (i := 100) rfl)
 replace h2 := h2.mv (htr19.mv (i := 101) rfl) (by decide)
 replace hb := hb.trans htr19
 replace hB20 : Blk ρ17 9 w18 g16 (.cells #[str ([]), (.slice none 0 0), .int .i64 0, .bool false, .int .i64 0] 32 (0, 0)) := hB20
 refine sr_end (l' := [(0, .pointer (some ⟨gd_0, 0, none⟩)), (2, str last_2), (4, .pointer (some ⟨g6, 0, none⟩)), (6, .pointer (some ⟨g11, 0, none⟩)), (7, .pointer (some ⟨g16, 0, none⟩))]) (.cons rfl (.cons rfl (.cons rfl (.cons rfl (.cons rfl (.nil _)))))) ?_
 refine ke_seq ?_
 refine ke_seq ?_
 refine ke_region ?_
 refine sr_ev (v := .pointer (some ⟨g6, 0, none⟩)) (ev_fieldAddr (i := 0) Tryz.underlying35 rfl Tryz.info3 rfl rfl) (by decide) ?_
 refine sr_ev (v := .int .i64 o_1.Kind) (ev_load Tryz.isAgg3 rfl (hB10.cell rfl)) (by decide) ?_
 refine sr_end (l' := [(0, .pointer (some ⟨gd_0, 0, none⟩)), (2, str last_2), (4, .pointer (some ⟨g6, 0, none⟩)), (6, .pointer (some ⟨g11, 0, none⟩)), (7, .pointer (some ⟨g16, 0, none⟩)), (9, .int .i64 o_1.Kind)]) (.cons rfl (.cons rfl (.cons rfl (.cons rfl (.cons rfl (.cons rfl (.nil _))))))) ?_
 refine ke_block ?_
 refine ke_seq ?_
 refine ke_region ?_
 refine sr_ev (v := .bool (o_1.Kind == 1)) (ev_eq rfl rfl) (by decide) ?_
 refine sr_ev (v := .bool (o_1.Kind == 1)) (ev_assign rfl) (by decide) ?_
 refine sr_end (l' := [(0, .pointer (some ⟨gd_0, 0, none⟩)), (2, str last_2), (4, .pointer (some ⟨g6, 0, none⟩)), (6, .pointer (some ⟨g11, 0, none⟩)), (7, .pointer (some ⟨g16, 0, none⟩)), (9, .int .i64 o_1.Kind), (10, .bool (o_1.Kind == 1))]) (.cons rfl (.cons rfl (.cons rfl (.cons rfl (.cons rfl (.cons rfl (.cons rfl (.nil _)))))))) ?_
 refine ke_cond (t := o_1.Kind == 1) rfl (fun hc21 => ?_) (fun hc21 => ?_)
 ·replace hS := ite_true' hS hc21
  refine ke_region ?_
  refine sr_ev (v := .pointer (some ⟨gd_0, 0, none⟩)) (ev_move rfl) (by decide) ?_
  refine sr_ev (v := .pointer (some ⟨g6, 1, none⟩)) (ev_fieldAddr (i := 1) Tryz.underlying35 rfl Tryz.info9 rfl rfl) (by decide) ?_
  refine sr_ev (v := str o_1.User) (ev_load Tryz.isAgg9 rfl (hB10.cell rfl)) (by decide) ?_
  refine sr_ev (v := .pointer (some ⟨g6, 2, none⟩)) (ev_fieldAddr (i := 2) Tryz.underlying35 rfl Tryz.info9 rfl rfl) (by decide) ?_
  refine sr_ev (v := str o_1.ID) (ev_load Tryz.isAgg9 rfl (hB10.cell rfl)) (by decide) ?_
  refine sr_ev (v := .pointer (some ⟨g6, 3, none⟩)) (ev_fieldAddr (i := 3) Tryz.underlying35 rfl Tryz.info9 rfl rfl) (by decide) ?_
  refine sr_ev (v := str o_1.Secret) (ev_load Tryz.isAgg9 rfl (hB10.cell rfl)) (by decide) ?_
  refine sr_ev (v := .pointer (some ⟨g6, 4, none⟩)) (ev_fieldAddr (i := 4) Tryz.underlying35 rfl Tryz.info3 rfl rfl) (by decide) ?_
  refine sr_ev (v := .int .i64 o_1.Until) (ev_load Tryz.isAgg3 rfl (hB10.cell rfl)) (by decide) ?_
  refine sr_ev (v := .pointer (some ⟨g6, 5, none⟩)) (ev_fieldAddr (i := 5) Tryz.underlying35 rfl Tryz.info3 rfl rfl) (by decide) ?_
  refine sr_ev (v := .int .i64 o_1.Now) (ev_load Tryz.isAgg3 rfl (hB10.cell rfl)) (by decide) ?_
  obtain ⟨y22, hy23, hS⟩ := bind_some' hS
  refine sr_call (vs := [.pointer (some ⟨gd_0, 0, none⟩), str o_1.User, str o_1.ID, str o_1.Secret, .int .i64 o_1.Until, .int .i64 o_1.Now]) rfl Tryz.call22 rfl (ref37_Devices_Trust_ok _ (hg.fr hz hb) (ρA := ρ17) hb.bd (hz.fr hg hb) (o := 100) (by decide) (⟨_, hB3, h2⟩ : ref37_Devices.O (fun p => 100 + p) ρ17 w18 gd_0 d_0) hy23) (by decide) ?_
  rintro _ w24 ⟨ρ30, rfl, ⟨v27, hB29, h28⟩, htr26⟩
  replace hB20 := hB20.mv (htr26.mv (i := 9) rfl)
  replace hB15 := hB15.mv (htr26.mv (i := 8) rfl)
  replace hb := hb.trans htr26
  replace hB29 : Blk ρ30 100 w24 gd_0 (.cells #[v27, .int .i64 y22.2.N] 55 (0, 0)) := hB29
  replace h28 : OwnT ref37_Device.c 70 ρ30 101 w24 v27 y22.2.L := h28
  refine sr_ev (v := .pointer (some ⟨g16, 4, none⟩)) (ev_fieldAddr (i := 4) Tryz.underlying32 rfl Tryz.info30 rfl rfl) (by decide) ?_
  refine sr_storeT (v := .int .i64 y22.1) (vs := [.int .i64 y22.1]) (cs' := #[str ([]), (.slice none 0 0), .int .i64 0, .bool false, .int .i64 y22.1]) hB20 (by decide) hb.bd rfl rfl rfl Tryz.sizeOf30 rfl rfl rfl ?_
  intro w31 hB201 htr32
  replace hB15 := hB15.mv (htr32.mv (i := 8) rfl)
  replace hB29 := hB29.mv (htr32.mv (i := 100) rfl)
  replace h28 := h28.mv (htr32.mv (i := 101) rfl) (by decide)
  replace hb := hb.trans htr32
  replace hB20 : Blk ρ30 9 w31 g16 (.cells #[str ([]), (.slice none 0 0), .int .i64 0, .bool false, .int .i64 y22.1] 32 (0, 0)) := hB201
  clear hB201
  refine sr_end (l' := [(6, .pointer (some ⟨g11, 0, none⟩)), (7, .pointer (some ⟨g16, 0, none⟩))]) (.cons rfl (.cons rfl (.nil _))) ?_
  have hK := law37_model_B1_ok hg hbd ho2 hz hS hb SlR.nil hB15 SlR.nil hB20 ⟨_, hB29, h28⟩
  exact ke_weaken (l' := [(6, .pointer (some ⟨g11, 0, none⟩)), (7, .pointer (some ⟨g16, 0, none⟩))]) (.cons rfl (.cons rfl (.nil _))) hK
 ·replace hS := ite_false' hS hc21
  refine ke_seq ?_
  refine ke_region ?_
  refine sr_ev (v := .bool (o_1.Kind == 2)) (ev_eq rfl rfl) (by decide) ?_
  refine sr_ev (v := .bool (o_1.Kind == 2)) (ev_assign rfl) (by decide) ?_
  refine sr_end (l' := [(0, .pointer (some ⟨gd_0, 0, none⟩)), (2, str last_2), (4, .pointer (some ⟨g6, 0, none⟩)), (6, .pointer (some ⟨g11, 0, none⟩)), (7, .pointer (some ⟨g16, 0, none⟩)), (9, .int .i64 o_1.Kind), (25, .bool (o_1.Kind == 2))]) (.cons rfl (.cons rfl (.cons rfl (.cons rfl (.cons rfl (.cons rfl (.cons rfl (.nil _)))))))) ?_
  refine ke_cond (t := o_1.Kind == 2) rfl (fun hc40 => ?_) (fun hc40 => ?_)
  ·replace hS := ite_true' hS hc40
   refine ke_region ?_
   refine sr_ev (v := .pointer (some ⟨gd_0, 0, none⟩)) (ev_move rfl) (by decide) ?_
   refine sr_ev (v := .pointer (some ⟨g6, 1, none⟩)) (ev_fieldAddr (i := 1) Tryz.underlying35 rfl Tryz.info9 rfl rfl) (by decide) ?_
   refine sr_ev (v := str o_1.User) (ev_load Tryz.isAgg9 rfl (hB10.cell rfl)) (by decide) ?_
   refine sr_ev (v := .pointer (some ⟨g6, 2, none⟩)) (ev_fieldAddr (i := 2) Tryz.underlying35 rfl Tryz.info9 rfl rfl) (by decide) ?_
   refine sr_ev (v := str o_1.ID) (ev_load Tryz.isAgg9 rfl (hB10.cell rfl)) (by decide) ?_
   refine sr_ev (v := .pointer (some ⟨g6, 5, none⟩)) (ev_fieldAddr (i := 5) Tryz.underlying35 rfl Tryz.info3 rfl rfl) (by decide) ?_
   refine sr_ev (v := .int .i64 o_1.Now) (ev_load Tryz.isAgg3 rfl (hB10.cell rfl)) (by decide) ?_
   obtain ⟨y41, hy42, hS⟩ := bind_some' hS
   refine sr_call (vs := [.pointer (some ⟨gd_0, 0, none⟩), str o_1.User, str o_1.ID, .int .i64 o_1.Now]) rfl Tryz.call23 rfl (ref37_Devices_Challenge_ok _ (hg.fr hz hb) (ρA := ρ17) hb.bd (hz.fr hg hb) (o := 100) (by decide) (⟨_, hB3, h2⟩ : ref37_Devices.O (fun p => 100 + p) ρ17 w18 gd_0 d_0) hy42) (by decide) ?_
   rintro _ w43 ⟨ρ49, rfl, ⟨v46, hB48, h47⟩, htr45⟩
   replace hB20 := hB20.mv (htr45.mv (i := 9) rfl)
   replace hB15 := hB15.mv (htr45.mv (i := 8) rfl)
   replace hb := hb.trans htr45
   replace hB48 : Blk ρ49 100 w43 gd_0 (.cells #[v46, .int .i64 y41.2.2.N] 55 (0, 0)) := hB48
   replace h47 : OwnT ref37_Device.c 70 ρ49 101 w43 v46 y41.2.2.L := h47
   refine sr_ev (v := .tuple #[str y41.1, .int .i64 y41.2.1]) (ev_move rfl) (by decide) ?_
   refine sr_ev (v := str y41.1) (ev_extract rfl rfl) (by decide) ?_
   refine sr_ev (v := .int .i64 y41.2.1) (ev_extract rfl rfl) (by decide) ?_
   refine sr_ev (v := .pointer (some ⟨g16, 0, none⟩)) (ev_fieldAddr (i := 0) Tryz.underlying32 rfl Tryz.info9 rfl rfl) (by decide) ?_
   refine sr_storeT (v := str y41.1) (vs := [str y41.1]) (cs' := #[str y41.1, (.slice none 0 0), .int .i64 0, .bool false, .int .i64 0]) hB20 (by decide) hb.bd rfl rfl rfl Tryz.sizeOf9 rfl rfl rfl ?_
   intro w50 hB201 htr51
   replace hB15 := hB15.mv (htr51.mv (i := 8) rfl)
   replace hB48 := hB48.mv (htr51.mv (i := 100) rfl)
   replace h47 := h47.mv (htr51.mv (i := 101) rfl) (by decide)
   replace hb := hb.trans htr51
   replace hB20 : Blk ρ49 9 w50 g16 (.cells #[str y41.1, (.slice none 0 0), .int .i64 0, .bool false, .int .i64 0] 32 (0, 0)) := hB201
   clear hB201
   refine sr_ev (v := .pointer (some ⟨g16, 4, none⟩)) (ev_fieldAddr (i := 4) Tryz.underlying32 rfl Tryz.info30 rfl rfl) (by decide) ?_
   refine sr_storeT (v := .int .i64 y41.2.1) (vs := [.int .i64 y41.2.1]) (cs' := #[str y41.1, (.slice none 0 0), .int .i64 0, .bool false, .int .i64 y41.2.1]) hB20 (by decide) hb.bd rfl rfl rfl Tryz.sizeOf30 rfl rfl rfl ?_
   intro w52 hB201 htr53
   replace hB15 := hB15.mv (htr53.mv (i := 8) rfl)
   replace hB48 := hB48.mv (htr53.mv (i := 100) rfl)
   replace h47 := h47.mv (htr53.mv (i := 101) rfl) (by decide)
   replace hb := hb.trans htr53
   replace hB20 : Blk ρ49 9 w52 g16 (.cells #[str y41.1, (.slice none 0 0), .int .i64 0, .bool false, .int .i64 y41.2.1] 32 (0, 0)) := hB201
   clear hB201
   refine sr_end (l' := [(6, .pointer (some ⟨g11, 0, none⟩)), (7, .pointer (some ⟨g16, 0, none⟩))]) (.cons rfl (.cons rfl (.nil _))) ?_
   have hK := law37_model_B1_ok hg hbd ho2 hz hS hb SlR.nil hB15 SlR.nil hB20 ⟨_, hB48, h47⟩
   exact ke_weaken (l' := [(6, .pointer (some ⟨g11, 0, none⟩)), (7, .pointer (some ⟨g16, 0, none⟩))]) (.cons rfl (.cons rfl (.nil _))) hK
  ·replace hS := ite_false' hS hc40
   refine ke_seq ?_
   refine ke_region ?_
   refine sr_ev (v := .bool (o_1.Kind == 3)) (ev_eq rfl rfl) (by decide) ?_
   refine sr_ev (v := .bool (o_1.Kind == 3)) (ev_assign rfl) (by decide) ?_
   refine sr_end (l' := [(0, .pointer (some ⟨gd_0, 0, none⟩)), (2, str last_2), (4, .pointer (some ⟨g6, 0, none⟩)), (6, .pointer (some ⟨g11, 0, none⟩)), (7, .pointer (some ⟨g16, 0, none⟩)), (9, .int .i64 o_1.Kind), (40, .bool (o_1.Kind == 3))]) (.cons rfl (.cons rfl (.cons rfl (.cons rfl (.cons rfl (.cons rfl (.cons rfl (.nil _)))))))) ?_
   refine ke_cond (t := o_1.Kind == 3) rfl (fun hc54 => ?_) (fun hc54 => ?_)
   ·replace hS := ite_true' hS hc54
    refine ke_region ?_
    refine sr_ev (v := .pointer (some ⟨gd_0, 0, none⟩)) (ev_move rfl) (by decide) ?_
    refine sr_ev (v := .pointer (some ⟨g6, 1, none⟩)) (ev_fieldAddr (i := 1) Tryz.underlying35 rfl Tryz.info9 rfl rfl) (by decide) ?_
    refine sr_ev (v := str o_1.User) (ev_load Tryz.isAgg9 rfl (hB10.cell rfl)) (by decide) ?_
    refine sr_ev (v := .pointer (some ⟨g6, 2, none⟩)) (ev_fieldAddr (i := 2) Tryz.underlying35 rfl Tryz.info9 rfl rfl) (by decide) ?_
    refine sr_ev (v := str o_1.ID) (ev_load Tryz.isAgg9 rfl (hB10.cell rfl)) (by decide) ?_
    refine sr_ev (v := .pointer (some ⟨g6, 3, none⟩)) (ev_fieldAddr (i := 3) Tryz.underlying35 rfl Tryz.info9 rfl rfl) (by decide) ?_
    refine sr_ev (v := str o_1.Secret) (ev_load Tryz.isAgg9 rfl (hB10.cell rfl)) (by decide) ?_
    refine sr_ev (v := .pointer (some ⟨g6, 5, none⟩)) (ev_fieldAddr (i := 5) Tryz.underlying35 rfl Tryz.info3 rfl rfl) (by decide) ?_
    refine sr_ev (v := .int .i64 o_1.Now) (ev_load Tryz.isAgg3 rfl (hB10.cell rfl)) (by decide) ?_
    obtain ⟨y55, hy56, hS⟩ := bind_some' hS
    refine sr_call (vs := [.pointer (some ⟨gd_0, 0, none⟩), str o_1.User, str o_1.ID, str o_1.Secret, .int .i64 o_1.Now]) rfl Tryz.call24 rfl (ref37_Devices_Prove_ok _ (hg.fr hz hb) (ρA := ρ17) hb.bd (hz.fr hg hb) (o := 100) (by decide) (⟨_, hB3, h2⟩ : ref37_Devices.O (fun p => 100 + p) ρ17 w18 gd_0 d_0) hy56) (by decide) ?_
    rintro _ w57 ⟨ρ63, rfl, ⟨v60, hB62, h61⟩, htr59⟩
    replace hB20 := hB20.mv (htr59.mv (i := 9) rfl)
    replace hB15 := hB15.mv (htr59.mv (i := 8) rfl)
    replace hb := hb.trans htr59
    replace hB62 : Blk ρ63 100 w57 gd_0 (.cells #[v60, .int .i64 y55.2.N] 55 (0, 0)) := hB62
    replace h61 : OwnT ref37_Device.c 70 ρ63 101 w57 v60 y55.2.L := h61
    refine sr_ev (v := .pointer (some ⟨g16, 4, none⟩)) (ev_fieldAddr (i := 4) Tryz.underlying32 rfl Tryz.info30 rfl rfl) (by decide) ?_
    refine sr_storeT (v := .int .i64 y55.1) (vs := [.int .i64 y55.1]) (cs' := #[str ([]), (.slice none 0 0), .int .i64 0, .bool false, .int .i64 y55.1]) hB20 (by decide) hb.bd rfl rfl rfl Tryz.sizeOf30 rfl rfl rfl ?_
    intro w64 hB201 htr65
    replace hB15 := hB15.mv (htr65.mv (i := 8) rfl)
    replace hB62 := hB62.mv (htr65.mv (i := 100) rfl)
    replace h61 := h61.mv (htr65.mv (i := 101) rfl) (by decide)
    replace hb := hb.trans htr65
    replace hB20 : Blk ρ63 9 w64 g16 (.cells #[str ([]), (.slice none 0 0), .int .i64 0, .bool false, .int .i64 y55.1] 32 (0, 0)) := hB201
    clear hB201
    refine sr_end (l' := [(6, .pointer (some ⟨g11, 0, none⟩)), (7, .pointer (some ⟨g16, 0, none⟩))]) (.cons rfl (.cons rfl (.nil _))) ?_
    have hK := law37_model_B1_ok hg hbd ho2 hz hS hb SlR.nil hB15 SlR.nil hB20 ⟨_, hB62, h61⟩
    exact ke_weaken (l' := [(6, .pointer (some ⟨g11, 0, none⟩)), (7, .pointer (some ⟨g16, 0, none⟩))]) (.cons rfl (.cons rfl (.nil _))) hK
   ·replace hS := ite_false' hS hc54
    refine ke_seq ?_
    refine ke_region ?_
    refine sr_ev (v := .bool (o_1.Kind == 4)) (ev_eq rfl rfl) (by decide) ?_
    refine sr_ev (v := .bool (o_1.Kind == 4)) (ev_assign rfl) (by decide) ?_
    refine sr_end (l' := [(0, .pointer (some ⟨gd_0, 0, none⟩)), (2, str last_2), (4, .pointer (some ⟨g6, 0, none⟩)), (6, .pointer (some ⟨g11, 0, none⟩)), (7, .pointer (some ⟨g16, 0, none⟩)), (9, .int .i64 o_1.Kind), (53, .bool (o_1.Kind == 4))]) (.cons rfl (.cons rfl (.cons rfl (.cons rfl (.cons rfl (.cons rfl (.cons rfl (.nil _)))))))) ?_
    refine ke_cond (t := o_1.Kind == 4) rfl (fun hc66 => ?_) (fun hc66 => ?_)
    ·replace hS := ite_true' hS hc66
     refine ke_region_j (ρ := ρ17) (fun t => ([9, 100, 101] : List Nat).contains t) 14 Tryz.mixed (fun w68 hw67 => ?_)
     have htr69 := Tr.of_below hw67 hb.bd
     replace hB20 := hB20.mv (htr69.mv (i := 9) rfl)
     replace hB15 := hB15.mv (htr69.mv (i := 8) rfl)
     replace hB10 := hB10.mv (htr69.mv (i := 6) rfl)
     replace hB3 := hB3.mv (htr69.mv (i := 100) rfl)
     replace h2 := h2.mv (htr69.mv (i := 101) rfl) (by decide)
     replace hb := hb.trans htr69
     refine dj_H 0 (v := .pointer (some ⟨gd_0, 0, none⟩)) (by kernel_rfl) (by kernel_rfl) rfl (fun _ _ _ h => h) (sj_refl hb.bd rfl rfl) (fun w1 ρ1 hw1 => ev_move rfl) (by decide) ?_
     refine dj_H 1 (v := .pointer (some ⟨g6, 1, none⟩)) (by kernel_rfl) (by kernel_rfl) rfl (fun _ _ _ h => h) (sj_refl hb.bd rfl rfl) (fun w1 ρ1 hw1 => ev_fieldAddr (i := 1) Tryz.underlying35 rfl Tryz.info9 rfl rfl) (by decide) ?_
     refine dj_H 2 (v := str o_1.User) (by kernel_rfl) (by kernel_rfl) rfl (fun _ _ _ h => h) (sj_refl hb.bd rfl rfl) (fun w1 ρ1 hw1 => ev_load Tryz.isAgg9 rfl ((hB10.mv (hw1.mv (i := 6) rfl)).cell rfl)) (by decide) ?_
     refine dj_H 3 (v := .pointer (some ⟨g6, 2, none⟩)) (by kernel_rfl) (by kernel_rfl) rfl (fun _ _ _ h => h) (sj_refl hb.bd rfl rfl) (fun w1 ρ1 hw1 => ev_fieldAddr (i := 2) Tryz.underlying35 rfl Tryz.info9 rfl rfl) (by decide) ?_
     refine dj_H 4 (v := str o_1.ID) (by kernel_rfl) (by kernel_rfl) rfl (fun _ _ _ h => h) (sj_refl hb.bd rfl rfl) (fun w1 ρ1 hw1 => ev_load Tryz.isAgg9 rfl ((hB10.mv (hw1.mv (i := 6) rfl)).cell rfl)) (by decide) ?_
     refine dj_H 5 (v := .pointer (some ⟨g6, 3, none⟩)) (by kernel_rfl) (by kernel_rfl) rfl (fun _ _ _ h => h) (sj_refl hb.bd rfl rfl) (fun w1 ρ1 hw1 => ev_fieldAddr (i := 3) Tryz.underlying35 rfl Tryz.info9 rfl rfl) (by decide) ?_
     refine dj_H 6 (v := str o_1.Secret) (by kernel_rfl) (by kernel_rfl) rfl (fun _ _ _ h => h) (sj_refl hb.bd rfl rfl) (fun w1 ρ1 hw1 => ev_load Tryz.isAgg9 rfl ((hB10.mv (hw1.mv (i := 6) rfl)).cell rfl)) (by decide) ?_
     refine dj_H 7 (v := str last_2) (by kernel_rfl) (by kernel_rfl) rfl (fun _ _ _ h => h) (sj_refl hb.bd rfl rfl) (fun w1 ρ1 hw1 => ev_move rfl) (by decide) ?_
     refine dj_H 9 (v := .pointer (some ⟨g6, 5, none⟩)) (by kernel_rfl) (by kernel_rfl) rfl (fun _ _ _ h => h) (sj_refl hb.bd rfl rfl) (fun w1 ρ1 hw1 => ev_fieldAddr (i := 5) Tryz.underlying35 rfl Tryz.info3 rfl rfl) (by decide) ?_
     refine dj_H 10 (v := .int .i64 o_1.Now) (by kernel_rfl) (by kernel_rfl) rfl (fun _ _ _ h => h) (sj_refl hb.bd rfl rfl) (fun w1 ρ1 hw1 => ev_load Tryz.isAgg3 rfl ((hB10.mv (hw1.mv (i := 6) rfl)).cell rfl)) (by decide) ?_
     refine dj_E 8 (by kernel_rfl) rfl ?_
     have jt109 : Tr ρ17 w68 (fun t => ([9, 100, 101] : List Nat).contains t) ρ17 w68 := (Tr.refl hb.bd).weak (fun _ _ => rfl) rfl rfl
     obtain ⟨y110, hy111, hS⟩ := bind_some' hS
     refine sr_call (vs := [str o_1.Secret, str last_2]) rfl Tryz.call25 rfl (ref37_Answer_ok _ (hg.fr hz hb) hy111) (by decide) ?_
     rintro _ w112 ⟨rfl, hbw113⟩
     have htr114 := Tr.of_below hbw113 hb.bd
     replace hB20 := hB20.mv (htr114.mv (i := 9) rfl)
     replace hB15 := hB15.mv (htr114.mv (i := 8) rfl)
     replace hB10 := hB10.mv (htr114.mv (i := 6) rfl)
     replace hB3 := hB3.mv (htr114.mv (i := 100) rfl)
     replace h2 := h2.mv (htr114.mv (i := 101) rfl) (by decide)
     replace hb := hb.trans htr114
     replace jt109 := (jt109.trans htr114).weak (J' := (fun t => ([9, 100, 101] : List Nat).contains t)) (by intro t h; simp [rng] at h ⊢ <;> omega) rfl rfl
     refine dj_next (l' := [(6, .pointer (some ⟨g11, 0, none⟩)), (7, .pointer (some ⟨g16, 0, none⟩)), (55, .pointer (some ⟨gd_0, 0, none⟩)), (57, str o_1.User), (59, str o_1.ID), (63, str y110), (65, .int .i64 o_1.Now)]) rfl (.cons rfl (.cons rfl (.cons rfl (.cons rfl (.cons rfl (.cons rfl (.cons rfl (.nil _)))))))) jt109 (by intro t h; simp [rng] at h ⊢ <;> omega) rfl rfl ?_
     refine dj_E 11 (by kernel_rfl) rfl ?_
     have jt115 : Tr ρ17 w112 (fun t => ([9, 100, 101] : List Nat).contains t) ρ17 w112 := (Tr.refl hb.bd).weak (fun _ _ => rfl) rfl rfl
     obtain ⟨y116, hy117, hS⟩ := bind_some' hS
     refine sr_call (vs := [.pointer (some ⟨gd_0, 0, none⟩), str o_1.User, str o_1.ID, str y110, .int .i64 o_1.Now]) rfl Tryz.call24 rfl (ref37_Devices_Prove_ok _ (hg.fr hz hb) (ρA := ρ17) hb.bd (hz.fr hg hb) (o := 100) (by decide) (⟨_, hB3, h2⟩ : ref37_Devices.O (fun p => 100 + p) ρ17 w112 gd_0 d_0) hy117) (by decide) ?_
     rintro _ w118 ⟨ρ124, rfl, ⟨v121, hB123, h122⟩, htr120⟩
     replace hB20 := hB20.mv (htr120.mv (i := 9) rfl)
     replace hB15 := hB15.mv (htr120.mv (i := 8) rfl)
     replace hb := hb.trans htr120
     replace jt115 := (jt115.trans htr120).weak (J' := (fun t => ([9, 100, 101] : List Nat).contains t)) (by intro t h; simp [rng] at h ⊢ <;> omega) rfl rfl
     replace hB123 : Blk ρ124 100 w118 gd_0 (.cells #[v121, .int .i64 y116.2.N] 55 (0, 0)) := hB123
     replace h122 : OwnT ref37_Device.c 70 ρ124 101 w118 v121 y116.2.L := h122
     refine dj_next (l' := [(6, .pointer (some ⟨g11, 0, none⟩)), (7, .pointer (some ⟨g16, 0, none⟩)), (66, .int .i64 y116.1)]) rfl (.cons rfl (.cons rfl (.cons rfl (.nil _)))) jt115 (by intro t h; simp [rng] at h ⊢ <;> omega) rfl rfl ?_
     refine dj_H 12 (v := .pointer (some ⟨g16, 4, none⟩)) (by kernel_rfl) (by kernel_rfl) rfl (fun _ _ _ h => h) (sj_refl hb.bd rfl rfl) (fun w1 ρ1 hw1 => ev_fieldAddr (i := 4) Tryz.underlying32 rfl Tryz.info30 rfl rfl) (by decide) ?_
     refine dj_E 13 (by kernel_rfl) rfl ?_
     have jt125 : Tr ρ124 w118 (fun t => ([9, 100, 101] : List Nat).contains t) ρ124 w118 := (Tr.refl hb.bd).weak (fun _ _ => rfl) rfl rfl
     refine sr_storeT (v := .int .i64 y116.1) (vs := [.int .i64 y116.1]) (cs' := #[str ([]), (.slice none 0 0), .int .i64 0, .bool false, .int .i64 y116.1]) hB20 (by decide) hb.bd rfl rfl rfl Tryz.sizeOf30 rfl rfl rfl ?_
     intro w126 hB201 htr127
     replace hB15 := hB15.mv (htr127.mv (i := 8) rfl)
     replace hB123 := hB123.mv (htr127.mv (i := 100) rfl)
     replace h122 := h122.mv (htr127.mv (i := 101) rfl) (by decide)
     replace hb := hb.trans htr127
     replace jt125 := (jt125.trans htr127).weak (J' := (fun t => ([9, 100, 101] : List Nat).contains t)) (by intro t h; simp [rng] at h ⊢ <;> omega) rfl rfl
     replace hB20 : Blk ρ124 9 w126 g16 (.cells #[str ([]), (.slice none 0 0), .int .i64 0, .bool false, .int .i64 y116.1] 32 (0, 0)) := hB201
     clear hB201
     refine dj_next (l' := [(6, .pointer (some ⟨g11, 0, none⟩)), (7, .pointer (some ⟨g16, 0, none⟩))]) rfl (.cons rfl (.cons rfl (.nil _))) jt125 (by intro t h; simp [rng] at h ⊢ <;> omega) rfl rfl ?_
     refine dj_done rfl (by kernel_rfl) ?_
     refine ke_weaken (l' := [(6, .pointer (some ⟨g11, 0, none⟩)), (7, .pointer (some ⟨g16, 0, none⟩))]) (.cons rfl (.cons rfl (.nil _))) ?_
     have hK := law37_model_B1_ok hg hbd ho2 hz hS hb SlR.nil hB15 SlR.nil hB20 ⟨_, hB123, h122⟩
     exact ke_weaken (l' := [(6, .pointer (some ⟨g11, 0, none⟩)), (7, .pointer (some ⟨g16, 0, none⟩))]) (.cons rfl (.cons rfl (.nil _))) hK
    ·replace hS := ite_false' hS hc66
     refine ke_seq ?_
     refine ke_region ?_
     refine sr_ev (v := .bool (o_1.Kind == 5)) (ev_eq rfl rfl) (by decide) ?_
     refine sr_ev (v := .bool (o_1.Kind == 5)) (ev_assign rfl) (by decide) ?_
     refine sr_end (l' := [(0, .pointer (some ⟨gd_0, 0, none⟩)), (4, .pointer (some ⟨g6, 0, none⟩)), (6, .pointer (some ⟨g11, 0, none⟩)), (7, .pointer (some ⟨g16, 0, none⟩)), (9, .int .i64 o_1.Kind), (68, .bool (o_1.Kind == 5))]) (.cons rfl (.cons rfl (.cons rfl (.cons rfl (.cons rfl (.cons rfl (.nil _))))))) ?_
     refine ke_cond (t := o_1.Kind == 5) rfl (fun hc128 => ?_) (fun hc128 => ?_)
     ·replace hS := ite_true' hS hc128
      refine ke_region ?_
      refine sr_ev (v := .pointer (some ⟨gd_0, 0, none⟩)) (ev_move rfl) (by decide) ?_
      refine sr_ev (v := .pointer (some ⟨g6, 1, none⟩)) (ev_fieldAddr (i := 1) Tryz.underlying35 rfl Tryz.info9 rfl rfl) (by decide) ?_
      refine sr_ev (v := str o_1.User) (ev_load Tryz.isAgg9 rfl (hB10.cell rfl)) (by decide) ?_
      refine sr_ev (v := .pointer (some ⟨g6, 2, none⟩)) (ev_fieldAddr (i := 2) Tryz.underlying35 rfl Tryz.info9 rfl rfl) (by decide) ?_
      refine sr_ev (v := str o_1.ID) (ev_load Tryz.isAgg9 rfl (hB10.cell rfl)) (by decide) ?_
      obtain ⟨y129, hy130, hS⟩ := bind_some' hS
      refine sr_call (vs := [.pointer (some ⟨gd_0, 0, none⟩), str o_1.User, str o_1.ID]) rfl Tryz.call26 rfl (ref37_Devices_Revoke_ok _ (hg.fr hz hb) (ρA := ρ17) hb.bd (hz.fr hg hb) (o := 100) (by decide) (⟨_, hB3, h2⟩ : ref37_Devices.O (fun p => 100 + p) ρ17 w18 gd_0 d_0) hy130) (by decide) ?_
      rintro _ w131 ⟨ρ137, rfl, ⟨v134, hB136, h135⟩, htr133⟩
      replace hB20 := hB20.mv (htr133.mv (i := 9) rfl)
      replace hB15 := hB15.mv (htr133.mv (i := 8) rfl)
      replace hb := hb.trans htr133
      replace hB136 : Blk ρ137 100 w131 gd_0 (.cells #[v134, .int .i64 y129.2.N] 55 (0, 0)) := hB136
      replace h135 : OwnT ref37_Device.c 70 ρ137 101 w131 v134 y129.2.L := h135
      refine sr_ev (v := .pointer (some ⟨g16, 3, none⟩)) (ev_fieldAddr (i := 3) Tryz.underlying32 rfl Tryz.info4 rfl rfl) (by decide) ?_
      refine sr_storeT (v := .bool y129.1) (vs := [.bool y129.1]) (cs' := #[str ([]), (.slice none 0 0), .int .i64 0, .bool y129.1, .int .i64 0]) hB20 (by decide) hb.bd rfl rfl rfl Tryz.sizeOf4 rfl rfl rfl ?_
      intro w138 hB201 htr139
      replace hB15 := hB15.mv (htr139.mv (i := 8) rfl)
      replace hB136 := hB136.mv (htr139.mv (i := 100) rfl)
      replace h135 := h135.mv (htr139.mv (i := 101) rfl) (by decide)
      replace hb := hb.trans htr139
      replace hB20 : Blk ρ137 9 w138 g16 (.cells #[str ([]), (.slice none 0 0), .int .i64 0, .bool y129.1, .int .i64 0] 32 (0, 0)) := hB201
      clear hB201
      refine sr_end (l' := [(6, .pointer (some ⟨g11, 0, none⟩)), (7, .pointer (some ⟨g16, 0, none⟩))]) (.cons rfl (.cons rfl (.nil _))) ?_
      have hK := law37_model_B1_ok hg hbd ho2 hz hS hb SlR.nil hB15 SlR.nil hB20 ⟨_, hB136, h135⟩
      exact ke_weaken (l' := [(6, .pointer (some ⟨g11, 0, none⟩)), (7, .pointer (some ⟨g16, 0, none⟩))]) (.cons rfl (.cons rfl (.nil _))) hK
     ·replace hS := ite_false' hS hc128
      refine ke_seq ?_
      refine ke_region ?_
      refine sr_ev (v := .bool (o_1.Kind == 6)) (ev_eq rfl rfl) (by decide) ?_
      refine sr_ev (v := .bool (o_1.Kind == 6)) (ev_assign rfl) (by decide) ?_
      refine sr_end (l' := [(0, .pointer (some ⟨gd_0, 0, none⟩)), (4, .pointer (some ⟨g6, 0, none⟩)), (6, .pointer (some ⟨g11, 0, none⟩)), (7, .pointer (some ⟨g16, 0, none⟩)), (9, .int .i64 o_1.Kind), (77, .bool (o_1.Kind == 6))]) (.cons rfl (.cons rfl (.cons rfl (.cons rfl (.cons rfl (.cons rfl (.nil _))))))) ?_
      refine ke_cond (t := o_1.Kind == 6) rfl (fun hc140 => ?_) (fun hc140 => ?_)
      ·replace hS := ite_true' hS hc140
       refine ke_region ?_
       refine sr_ev (v := .pointer (some ⟨gd_0, 0, none⟩)) (ev_move rfl) (by decide) ?_
       refine sr_ev (v := .pointer (some ⟨g6, 1, none⟩)) (ev_fieldAddr (i := 1) Tryz.underlying35 rfl Tryz.info9 rfl rfl) (by decide) ?_
       refine sr_ev (v := str o_1.User) (ev_load Tryz.isAgg9 rfl (hB10.cell rfl)) (by decide) ?_
       refine sr_ev (v := .pointer (some ⟨g6, 5, none⟩)) (ev_fieldAddr (i := 5) Tryz.underlying35 rfl Tryz.info3 rfl rfl) (by decide) ?_
       refine sr_ev (v := .int .i64 o_1.Now) (ev_load Tryz.isAgg3 rfl (hB10.cell rfl)) (by decide) ?_
       obtain ⟨y141, hy142, hS⟩ := bind_some' hS
       refine sr_call (vs := [.pointer (some ⟨gd_0, 0, none⟩), str o_1.User, .int .i64 o_1.Now]) rfl Tryz.call27 rfl (ref37_Devices_List_ok _ (hg.fr hz hb) (ρA := ρ17) hb.bd (hz.fr hg hb) (τ0 := (fun p => 100 + p)) (fun p => Nat.le_add_right_of_le (by decide)) (⟨_, hB3, h2⟩ : ref37_Devices.O (fun p => 100 + p) ρ17 w18 gd_0 d_0) hy142) (by decide) ?_
       rintro v146 w143 ⟨_, rfl, h147, hbw144⟩
       have htr145 := Tr.of_below hbw144 hb.bd
       replace hB20 := hB20.mv (htr145.mv (i := 9) rfl)
       replace hB15 := hB15.mv (htr145.mv (i := 8) rfl)
       replace hB3 := hB3.mv (htr145.mv (i := 100) rfl)
       replace h2 := h2.mv (htr145.mv (i := 101) rfl) (by decide)
       replace hb := hb.trans htr145
       refine sr_ev (v := .pointer (some ⟨g16, 1, none⟩)) (ev_fieldAddr (i := 1) Tryz.underlying32 rfl Tryz.info29 rfl rfl) (by decide) ?_
       refine sr_storeT (v := v146) (vs := [v146]) (cs' := #[str ([]), v146, .int .i64 0, .bool false, .int .i64 0]) hB20 (by decide) hb.bd rfl rfl (one_cells (SlR.oneCell h147)) Tryz.sizeOf29 rfl (by first | rfl | (simp only [List.all_cons, List.all_nil, SlR.oneCell h147]; done) | (simp only [List.all_cons, List.all_nil, SlR.oneCell h147]; rfl)) rfl ?_
       intro w148 hB201 htr149
       replace h147 := h147.mv htr149.rd
       replace hB15 := hB15.mv (htr149.mv (i := 8) rfl)
       replace hB3 := hB3.mv (htr149.mv (i := 100) rfl)
       replace h2 := h2.mv (htr149.mv (i := 101) rfl) (by decide)
       replace hb := hb.trans htr149
       replace hB20 : Blk ρ17 9 w148 g16 (.cells #[str ([]), v146, .int .i64 0, .bool false, .int .i64 0] 32 (0, 0)) := hB201
       clear hB201
       refine sr_end (l' := [(6, .pointer (some ⟨g11, 0, none⟩)), (7, .pointer (some ⟨g16, 0, none⟩))]) (.cons rfl (.cons rfl (.nil _))) ?_
       have hK := law37_model_B1_ok hg hbd ho2 hz hS hb SlR.nil hB15 h147 hB20 ⟨_, hB3, h2⟩
       exact ke_weaken (l' := [(6, .pointer (some ⟨g11, 0, none⟩)), (7, .pointer (some ⟨g16, 0, none⟩))]) (.cons rfl (.cons rfl (.nil _))) hK
      ·replace hS := ite_false' hS hc140
       refine ke_seq ?_
       refine ke_region ?_
       refine sr_ev (v := .bool (o_1.Kind == 7)) (ev_eq rfl rfl) (by decide) ?_
       refine sr_ev (v := .bool (o_1.Kind == 7)) (ev_assign rfl) (by decide) ?_
       refine sr_end (l' := [(0, .pointer (some ⟨gd_0, 0, none⟩)), (4, .pointer (some ⟨g6, 0, none⟩)), (6, .pointer (some ⟨g11, 0, none⟩)), (7, .pointer (some ⟨g16, 0, none⟩)), (9, .int .i64 o_1.Kind), (86, .bool (o_1.Kind == 7))]) (.cons rfl (.cons rfl (.cons rfl (.cons rfl (.cons rfl (.cons rfl (.nil _))))))) ?_
       refine ke_cond (t := o_1.Kind == 7) rfl (fun hc150 => ?_) (fun hc150 => ?_)
       ·replace hS := ite_true' hS hc150
        refine ke_region ?_
        refine sr_ev (v := .pointer (some ⟨gd_0, 0, none⟩)) (ev_move rfl) (by decide) ?_
        refine sr_ev (v := .pointer (some ⟨g6, 1, none⟩)) (ev_fieldAddr (i := 1) Tryz.underlying35 rfl Tryz.info9 rfl rfl) (by decide) ?_
        refine sr_ev (v := str o_1.User) (ev_load Tryz.isAgg9 rfl (hB10.cell rfl)) (by decide) ?_
        obtain ⟨y151, hy152, hS⟩ := bind_some' hS
        refine sr_call (vs := [.pointer (some ⟨gd_0, 0, none⟩), str o_1.User]) rfl Tryz.call28 rfl (ref37_Devices_Drop_ok _ (hg.fr hz hb) (ρA := ρ17) hb.bd (hz.fr hg hb) (o := 100) (by decide) (⟨_, hB3, h2⟩ : ref37_Devices.O (fun p => 100 + p) ρ17 w18 gd_0 d_0) hy152) (by decide) ?_
        rintro _ w153 ⟨ρ159, rfl, ⟨v156, hB158, h157⟩, htr155⟩
        replace hB20 := hB20.mv (htr155.mv (i := 9) rfl)
        replace hB15 := hB15.mv (htr155.mv (i := 8) rfl)
        replace hb := hb.trans htr155
        replace hB158 : Blk ρ159 100 w153 gd_0 (.cells #[v156, .int .i64 y151.2.N] 55 (0, 0)) := hB158
        replace h157 : OwnT ref37_Device.c 70 ρ159 101 w153 v156 y151.2.L := h157
        refine sr_ev (v := .pointer (some ⟨g16, 2, none⟩)) (ev_fieldAddr (i := 2) Tryz.underlying32 rfl Tryz.info3 rfl rfl) (by decide) ?_
        refine sr_storeT (v := .int .i64 y151.1) (vs := [.int .i64 y151.1]) (cs' := #[str ([]), (.slice none 0 0), .int .i64 y151.1, .bool false, .int .i64 0]) hB20 (by decide) hb.bd rfl rfl rfl Tryz.sizeOf3 rfl rfl rfl ?_
        intro w160 hB201 htr161
        replace hB15 := hB15.mv (htr161.mv (i := 8) rfl)
        replace hB158 := hB158.mv (htr161.mv (i := 100) rfl)
        replace h157 := h157.mv (htr161.mv (i := 101) rfl) (by decide)
        replace hb := hb.trans htr161
        replace hB20 : Blk ρ159 9 w160 g16 (.cells #[str ([]), (.slice none 0 0), .int .i64 y151.1, .bool false, .int .i64 0] 32 (0, 0)) := hB201
        clear hB201
        refine sr_end (l' := [(6, .pointer (some ⟨g11, 0, none⟩)), (7, .pointer (some ⟨g16, 0, none⟩))]) (.cons rfl (.cons rfl (.nil _))) ?_
        have hK := law37_model_B1_ok hg hbd ho2 hz hS hb SlR.nil hB15 SlR.nil hB20 ⟨_, hB158, h157⟩
        exact ke_weaken (l' := [(6, .pointer (some ⟨g11, 0, none⟩)), (7, .pointer (some ⟨g16, 0, none⟩))]) (.cons rfl (.cons rfl (.nil _))) hK
       ·replace hS := ite_false' hS hc150
        refine ke_seq ?_
        refine ke_region ?_
        refine sr_ev (v := .bool (o_1.Kind == 8)) (ev_eq rfl rfl) (by decide) ?_
        refine sr_ev (v := .bool (o_1.Kind == 8)) (ev_assign rfl) (by decide) ?_
        refine sr_end (l' := [(0, .pointer (some ⟨gd_0, 0, none⟩)), (4, .pointer (some ⟨g6, 0, none⟩)), (6, .pointer (some ⟨g11, 0, none⟩)), (7, .pointer (some ⟨g16, 0, none⟩)), (93, .bool (o_1.Kind == 8))]) (.cons rfl (.cons rfl (.cons rfl (.cons rfl (.cons rfl (.nil _)))))) ?_
        refine ke_cond (t := o_1.Kind == 8) rfl (fun hc162 => ?_) (fun hc162 => ?_)
        ·replace hS := ite_true' hS hc162
         refine ke_region ?_
         refine sr_ev (v := .pointer (some ⟨gd_0, 0, none⟩)) (ev_move rfl) (by decide) ?_
         refine sr_ev (v := .pointer (some ⟨g6, 1, none⟩)) (ev_fieldAddr (i := 1) Tryz.underlying35 rfl Tryz.info9 rfl rfl) (by decide) ?_
         refine sr_ev (v := str o_1.User) (ev_load Tryz.isAgg9 rfl (hB10.cell rfl)) (by decide) ?_
         refine sr_ev (v := .pointer (some ⟨g6, 2, none⟩)) (ev_fieldAddr (i := 2) Tryz.underlying35 rfl Tryz.info9 rfl rfl) (by decide) ?_
         refine sr_ev (v := str o_1.ID) (ev_load Tryz.isAgg9 rfl (hB10.cell rfl)) (by decide) ?_
         refine sr_ev (v := .pointer (some ⟨g6, 5, none⟩)) (ev_fieldAddr (i := 5) Tryz.underlying35 rfl Tryz.info3 rfl rfl) (by decide) ?_
         refine sr_ev (v := .int .i64 o_1.Now) (ev_load Tryz.isAgg3 rfl (hB10.cell rfl)) (by decide) ?_
         obtain ⟨y163, hy164, hS⟩ := bind_some' hS
         refine sr_call (vs := [.pointer (some ⟨gd_0, 0, none⟩), str o_1.User, str o_1.ID, .int .i64 o_1.Now]) rfl Tryz.call29 rfl (ref37_Devices_Trusted_ok _ (hg.fr hz hb) (ρA := ρ17) hb.bd (hz.fr hg hb) (τ0 := (fun p => 100 + p)) (fun p => Nat.le_add_right_of_le (by decide)) (⟨_, hB3, h2⟩ : ref37_Devices.O (fun p => 100 + p) ρ17 w18 gd_0 d_0) hy164) (by decide) ?_
         rintro _ w165 ⟨rfl, hbw166⟩
         have htr167 := Tr.of_below hbw166 hb.bd
         replace hB20 := hB20.mv (htr167.mv (i := 9) rfl)
         replace hB15 := hB15.mv (htr167.mv (i := 8) rfl)
         replace hB3 := hB3.mv (htr167.mv (i := 100) rfl)
         replace h2 := h2.mv (htr167.mv (i := 101) rfl) (by decide)
         replace hb := hb.trans htr167
         refine sr_ev (v := .pointer (some ⟨g16, 3, none⟩)) (ev_fieldAddr (i := 3) Tryz.underlying32 rfl Tryz.info4 rfl rfl) (by decide) ?_
         refine sr_storeT (v := .bool y163) (vs := [.bool y163]) (cs' := #[str ([]), (.slice none 0 0), .int .i64 0, .bool y163, .int .i64 0]) hB20 (by decide) hb.bd rfl rfl rfl Tryz.sizeOf4 rfl rfl rfl ?_
         intro w168 hB201 htr169
         replace hB15 := hB15.mv (htr169.mv (i := 8) rfl)
         replace hB3 := hB3.mv (htr169.mv (i := 100) rfl)
         replace h2 := h2.mv (htr169.mv (i := 101) rfl) (by decide)
         replace hb := hb.trans htr169
         replace hB20 : Blk ρ17 9 w168 g16 (.cells #[str ([]), (.slice none 0 0), .int .i64 0, .bool y163, .int .i64 0] 32 (0, 0)) := hB201
         clear hB201
         refine sr_end (l' := [(6, .pointer (some ⟨g11, 0, none⟩)), (7, .pointer (some ⟨g16, 0, none⟩))]) (.cons rfl (.cons rfl (.nil _))) ?_
         have hK := law37_model_B1_ok hg hbd ho2 hz hS hb SlR.nil hB15 SlR.nil hB20 ⟨_, hB3, h2⟩
         exact ke_weaken (l' := [(6, .pointer (some ⟨g11, 0, none⟩)), (7, .pointer (some ⟨g16, 0, none⟩))]) (.cons rfl (.cons rfl (.nil _))) hK
        ·replace hS := ite_false' hS hc162
         refine ke_skip ?_
         have hK := law37_model_B1_ok hg hbd ho2 hz hS hb SlR.nil hB15 SlR.nil hB20 ⟨_, hB3, h2⟩
         exact ke_weaken (l' := [(6, .pointer (some ⟨g11, 0, none⟩)), (7, .pointer (some ⟨g16, 0, none⟩))]) (.cons rfl (.cons rfl (.nil _))) hK
theorem law37_DeviceDoes_B3_ok {w0 : World} (hg : Gs w0) {ρA : Tags} (hbd : ∀ b, ρA b ≠ 0 → b < w0.heap.size) (hz : Gz (flat1 ρA)) (r0 : List law37_Op → device_Devices → ref37_Devices → Str → Int → Int → Option (Bool))
  (hr0 : ∀ {r : Bool} {ops_0 : List law37_Op} {od_3 : device_Devices} {om_4 : ref37_Devices} {last_5 : Str} {t_19 : Int} {t_20 : Int} {vops_0 : Value} {gd_3 : Nat} {gm_4 : Nat}, r0 ops_0 od_3 om_4 last_5 t_19 t_20 = some r → ∀ {ρ : Tags} {w : World}, (Fr (flat1 ρA) w0 ρ w) → (SlR law37_Op.c (Wb ρ) w vops_0 ops_0) → (device_Devices.O (fun p => 100 + p) ρ w gd_3 od_3) → (ref37_Devices.O (fun p => 200 + p) ρ w gm_4 om_4) → KE Tryz.prog 3 (Ret (fun v w' => v = .bool r ∧ Below w0.heap.size w0 w')) 78 [.inLoop (sub (bodyOf Tryz.f3) [2, 2, 2, 2, 2, 1, 2, 2, 1]), .inBlock 0, .code (sub (bodyOf Tryz.f3) [2, 2, 2, 2, 2, 2])] [(0, vops_0), (3, .pointer (some ⟨gd_3, 0, none⟩)), (4, .pointer (some ⟨gm_4, 0, none⟩)), (5, str last_5), (19, .int .i64 t_19), (20, .int .i64 t_20)] w) {r : Bool} {ops_0 : List law37_Op} {od_3 : device_Devices} {om_4 : ref37_Devices} {last_5 : Str} {t_19 : Int} {t_20 : Int} {vops_0 : Value} {gd_3 : Nat} {gm_4 : Nat} (hS : law37_DeviceDoes_B3 r0 ops_0 od_3 om_4 last_5 t_19 t_20 = some r) {ρ : Tags} {w : World} (hb : Fr (flat1 ρA) w0 ρ w) (hops_0 : SlR law37_Op.c (Wb ρ) w vops_0 ops_0) (hod_3 : device_Devices.O (fun p => 100 + p) ρ w gd_3 od_3) (hom_4 : ref37_Devices.O (fun p => 200 + p) ρ w gm_4 om_4) :
  KE Tryz.prog 3 (Ret (fun v w' => v = .bool r ∧ Below w0.heap.size w0 w')) 78 [.inBlock 1, .code (sub (bodyOf Tryz.f3) [2, 2, 2, 2, 2, 1, 2, 2, 1, 2, 2, 2]), .inLoop (sub (bodyOf Tryz.f3) [2, 2, 2, 2, 2, 1, 2, 2, 1]), .inBlock 0, .code (sub (bodyOf Tryz.f3) [2, 2, 2, 2, 2, 2])] [(0, vops_0), (3, .pointer (some ⟨gd_3, 0, none⟩)), (4, .pointer (some ⟨gm_4, 0, none⟩)), (5, str last_5), (19, .int .i64 t_19), (20, .int .i64 t_20)] w := by
 unfold law37_DeviceDoes_B3 at hS
 obtain ⟨v968, hB970, h969⟩ := hod_3
 replace hB970 : Blk ρ 100 w gd_3 (.cells #[v968, .int .i64 od_3.given] 41 (0, 0)) := hB970
 replace h969 : MapT device_key.ek device_record.c true ρ 101 w v968 od_3.records := h969
 obtain ⟨v971, hB973, h972⟩ := hom_4
 replace hB973 : Blk ρ 200 w gm_4 (.cells #[v971, .int .i64 om_4.N] 55 (0, 0)) := hB973
 replace h972 : OwnT ref37_Device.c 70 ρ 201 w v971 om_4.L := h972
 refine ke_inBlock ?_
 refine ke_region ?_
 refine sr_ev (v := .int .i64 (IntKind.i64.wrap (t_20 + 1))) (ev_add rfl rfl) (by decide) ?_
 refine sr_ev (v := .int .i64 (IntKind.i64.wrap (t_20 + 1))) (ev_move rfl) (by decide) ?_
 refine sr_end (l' := [(0, vops_0), (3, .pointer (some ⟨gd_3, 0, none⟩)), (4, .pointer (some ⟨gm_4, 0, none⟩)), (5, str last_5), (19, .int .i64 t_19), (20, .int .i64 (IntKind.i64.wrap (t_20 + 1)))]) (.cons rfl (.cons rfl (.cons rfl (.cons rfl (.cons rfl (.cons rfl (.nil _))))))) ?_
 have hK := hr0 hS hb hops_0 ⟨_, hB970, h969⟩ ⟨_, hB973, h972⟩
 exact ke_weaken (l' := [(0, vops_0), (3, .pointer (some ⟨gd_3, 0, none⟩)), (4, .pointer (some ⟨gm_4, 0, none⟩)), (5, str last_5), (19, .int .i64 t_19), (20, .int .i64 (IntKind.i64.wrap (t_20 + 1)))]) (.cons rfl (.cons rfl (.cons rfl (.cons rfl (.cons rfl (.cons rfl (.nil _))))))) hK
theorem law37_DeviceDoes_B2_ok {w0 : World} (hg : Gs w0) {ρA : Tags} (hbd : ∀ b, ρA b ≠ 0 → b < w0.heap.size) (hz : Gz (flat1 ρA)) (r0 : List law37_Op → device_Devices → ref37_Devices → Str → Int → Int → Option (Bool))
  (hr0 : ∀ {r : Bool} {ops_0 : List law37_Op} {od_3 : device_Devices} {om_4 : ref37_Devices} {last_5 : Str} {t_19 : Int} {t_20 : Int} {vops_0 : Value} {gd_3 : Nat} {gm_4 : Nat}, r0 ops_0 od_3 om_4 last_5 t_19 t_20 = some r → ∀ {ρ : Tags} {w : World}, (Fr (flat1 ρA) w0 ρ w) → (SlR law37_Op.c (Wb ρ) w vops_0 ops_0) → (device_Devices.O (fun p => 100 + p) ρ w gd_3 od_3) → (ref37_Devices.O (fun p => 200 + p) ρ w gm_4 om_4) → KE Tryz.prog 3 (Ret (fun v w' => v = .bool r ∧ Below w0.heap.size w0 w')) 78 [.inLoop (sub (bodyOf Tryz.f3) [2, 2, 2, 2, 2, 1, 2, 2, 1]), .inBlock 0, .code (sub (bodyOf Tryz.f3) [2, 2, 2, 2, 2, 2])] [(0, vops_0), (3, .pointer (some ⟨gd_3, 0, none⟩)), (4, .pointer (some ⟨gm_4, 0, none⟩)), (5, str last_5), (19, .int .i64 t_19), (20, .int .i64 t_20)] w) {r : Bool} {ops_0 : List law37_Op} {od_3 : device_Devices} {om_4 : ref37_Devices} {last_5 : Str} {x_7_0 : Str} {x_7_1 : List Str} {x_7_2 : Int} {x_7_3 : Bool} {x_7_4 : Int} {y_8_0 : Str} {y_8_1 : List Str} {y_8_2 : Int} {y_8_3 : Bool} {y_8_4 : Int} {t_19 : Int} {t_20 : Int} {vops_0 : Value} {gd_3 : Nat} {gm_4 : Nat} {gx_7 : Nat} {vx_7_1 : Value} {gy_8 : Nat} {vy_8_1 : Value} (hS : law37_DeviceDoes_B2 r0 ops_0 od_3 om_4 last_5 x_7_0 x_7_1 x_7_2 x_7_3 x_7_4 y_8_0 y_8_1 y_8_2 y_8_3 y_8_4 t_19 t_20 = some r) {ρ : Tags} {w : World} (hb : Fr (flat1 ρA) w0 ρ w) (hops_0 : SlR law37_Op.c (Wb ρ) w vops_0 ops_0) (hod_3 : device_Devices.O (fun p => 100 + p) ρ w gd_3 od_3) (hom_4 : ref37_Devices.O (fun p => 200 + p) ρ w gm_4 om_4) (hx_7_1 : SlR strC (Wb ρ) w vx_7_1 x_7_1) (hBx_7 : Blk ρ 9 w gx_7 (.cells #[str x_7_0, vx_7_1, .int .i64 x_7_2, .bool x_7_3, .int .i64 x_7_4] 32 (0, 0))) (hy_8_1 : SlR strC (Wb ρ) w vy_8_1 y_8_1) (hBy_8 : Blk ρ 10 w gy_8 (.cells #[str y_8_0, vy_8_1, .int .i64 y_8_2, .bool y_8_3, .int .i64 y_8_4] 32 (0, 0))) :
  KE Tryz.prog 3 (Ret (fun v w' => v = .bool r ∧ Below w0.heap.size w0 w')) 78 [.code (sub (bodyOf Tryz.f3) [2, 2, 2, 2, 2, 1, 2, 2, 1, 2, 2, 1, 2, 2, 2]), .inBlock 1, .code (sub (bodyOf Tryz.f3) [2, 2, 2, 2, 2, 1, 2, 2, 1, 2, 2, 2]), .inLoop (sub (bodyOf Tryz.f3) [2, 2, 2, 2, 2, 1, 2, 2, 1]), .inBlock 0, .code (sub (bodyOf Tryz.f3) [2, 2, 2, 2, 2, 2])] [(0, vops_0), (3, .pointer (some ⟨gd_3, 0, none⟩)), (4, .pointer (some ⟨gm_4, 0, none⟩)), (5, str last_5), (7, .pointer (some ⟨gx_7, 0, none⟩)), (8, .pointer (some ⟨gy_8, 0, none⟩)), (19, .int .i64 t_19), (20, .int .i64 t_20)] w := by
 unfold law37_DeviceDoes_B2 at hS
 obtain ⟨v923, hB925, h924⟩ := hod_3
 replace hB925 : Blk ρ 100 w gd_3 (.cells #[v923, .int .i64 od_3.given] 41 (0, 0)) := hB925
 replace h924 : MapT device_key.ek device_record.c true ρ 101 w v923 od_3.records := h924
 obtain ⟨v926, hB928, h927⟩ := hom_4
 replace hB928 : Blk ρ 200 w gm_4 (.cells #[v926, .int .i64 om_4.N] 55 (0, 0)) := hB928
 replace h927 : OwnT ref37_Device.c 70 ρ 201 w v926 om_4.L := h927
 refine ke_seq ?_
 refine ke_seq ?_
 refine ke_region ?_
 refine sr_ev (v := .pointer (some ⟨gx_7, 0, none⟩)) (ev_fieldAddr (i := 0) Tryz.underlying32 rfl Tryz.info9 rfl rfl) (by decide) ?_
 refine sr_ev (v := str x_7_0) (ev_load Tryz.isAgg9 rfl (hBx_7.cell rfl)) (by decide) ?_
 refine sr_ev (v := .pointer (some ⟨gy_8, 0, none⟩)) (ev_fieldAddr (i := 0) Tryz.underlying32 rfl Tryz.info9 rfl rfl) (by decide) ?_
 refine sr_ev (v := str y_8_0) (ev_load Tryz.isAgg9 rfl (hBy_8.cell rfl)) (by decide) ?_
 refine sr_ev (v := .bool (!(x_7_0 == y_8_0))) (ev_sne rfl rfl) (by decide) ?_
 refine sr_ev (v := .bool (!(x_7_0 == y_8_0))) (ev_move rfl) (by decide) ?_
 obtain ⟨z931, hz933, hS⟩ := bind_some' hS
 refine sr_join (m := 7) (C := fun (z : Bool) w1 => z931 = z ∧ ∃ ρ1, Tr ρ w (fun _ => false) ρ1 w1) (l' := fun z => [(0, vops_0), (3, .pointer (some ⟨gd_3, 0, none⟩)), (4, .pointer (some ⟨gm_4, 0, none⟩)), (5, str last_5), (7, .pointer (some ⟨gx_7, 0, none⟩)), (8, .pointer (some ⟨gy_8, 0, none⟩)), (19, .int .i64 t_19), (20, .int .i64 t_20), (49, .bool z)]) ?_ ?_
 ·rintro _ w934 ⟨rfl, ρ935, hj932⟩
  replace hops_0 := hops_0.mv hj932.rd
  replace hB925 := hB925.mv (hj932.mv (i := 100) rfl)
  replace h924 := h924.mv (hj932.mv (i := 101) rfl)
  replace hB928 := hB928.mv (hj932.mv (i := 200) rfl)
  replace h927 := h927.mv (hj932.mv (i := 201) rfl) (by decide)
  replace hBx_7 := hBx_7.mv (hj932.mv (i := 9) rfl)
  replace hx_7_1 := hx_7_1.mv hj932.rd
  replace hBy_8 := hBy_8.mv (hj932.mv (i := 10) rfl)
  replace hy_8_1 := hy_8_1.mv hj932.rd
  replace hb := hb.trans hj932
  refine sr_ev (v := .bool z931) (ev_move rfl) (by decide) ?_
  refine sr_join (m := 6) (C := fun (x : Bool) w1 => x = (z931 || (x_7_2 != y_8_2)) ∧ w934 = w1) (l' := fun x => [(0, vops_0), (3, .pointer (some ⟨gd_3, 0, none⟩)), (4, .pointer (some ⟨gm_4, 0, none⟩)), (5, str last_5), (7, .pointer (some ⟨gx_7, 0, none⟩)), (8, .pointer (some ⟨gy_8, 0, none⟩)), (19, .int .i64 t_19), (20, .int .i64 t_20), (56, .bool x)]) ?_ ?_
  ·rintro _ _ ⟨rfl, rfl⟩
   refine sr_ev (v := .bool (z931 || (x_7_2 != y_8_2))) (ev_move rfl) (by decide) ?_
   refine sr_join (m := 6) (C := fun (x : Bool) w1 => x = ((z931 || (x_7_2 != y_8_2)) || (x_7_3 != y_8_3)) ∧ w934 = w1) (l' := fun x => [(0, vops_0), (3, .pointer (some ⟨gd_3, 0, none⟩)), (4, .pointer (some ⟨gm_4, 0, none⟩)), (5, str last_5), (7, .pointer (some ⟨gx_7, 0, none⟩)), (8, .pointer (some ⟨gy_8, 0, none⟩)), (19, .int .i64 t_19), (20, .int .i64 t_20), (63, .bool x)]) ?_ ?_
   ·rintro _ _ ⟨rfl, rfl⟩
    refine sr_ev (v := .bool ((z931 || (x_7_2 != y_8_2)) || (x_7_3 != y_8_3))) (ev_move rfl) (by decide) ?_
    refine sr_join (m := 6) (C := fun (x : Bool) w1 => x = (((z931 || (x_7_2 != y_8_2)) || (x_7_3 != y_8_3)) || (x_7_4 != y_8_4)) ∧ w934 = w1) (l' := fun x => [(0, vops_0), (3, .pointer (some ⟨gd_3, 0, none⟩)), (4, .pointer (some ⟨gm_4, 0, none⟩)), (5, str last_5), (7, .pointer (some ⟨gx_7, 0, none⟩)), (19, .int .i64 t_19), (20, .int .i64 t_20), (70, .bool x)]) ?_ ?_
    ·rintro _ _ ⟨rfl, rfl⟩
     refine sr_end (l' := [(0, vops_0), (3, .pointer (some ⟨gd_3, 0, none⟩)), (4, .pointer (some ⟨gm_4, 0, none⟩)), (5, str last_5), (7, .pointer (some ⟨gx_7, 0, none⟩)), (19, .int .i64 t_19), (20, .int .i64 t_20), (70, .bool (((z931 || (x_7_2 != y_8_2)) || (x_7_3 != y_8_3)) || (x_7_4 != y_8_4)))]) (.cons rfl (.cons rfl (.cons rfl (.cons rfl (.cons rfl (.cons rfl (.cons rfl (.cons rfl (.nil _))))))))) ?_
     refine ke_cond (t := ((z931 || (x_7_2 != y_8_2)) || (x_7_3 != y_8_3)) || (x_7_4 != y_8_4)) rfl (fun hc966 => ?_) (fun hc966 => ?_)
     ·replace hS := ite_true' hS hc966
      refine ke_seq ?_
      refine ke_region ?_
      refine sr_ev (v := .bool false) (ev_assign rfl) (by decide) ?_
      refine sr_end (l' := [(2, .bool false)]) (.cons rfl (.nil _)) ?_
      cases hS
      exact ke_ret1 Tryz.func3 rfl rfl ⟨_, rfl, rfl, (hb.below (flat1_le _))⟩
     ·replace hS := ite_false' hS hc966
      refine ke_skip ?_
      refine ke_seq ?_
      refine ke_region ?_
      refine sr_ev (v := .pointer (some ⟨gx_7, 0, none⟩)) (ev_fieldAddr (i := 0) Tryz.underlying32 rfl Tryz.info9 rfl rfl) (by decide) ?_
      refine sr_ev (v := str x_7_0) (ev_load Tryz.isAgg9 rfl (hBx_7.cell rfl)) (by decide) ?_
      refine sr_ev (v := .bool (!(x_7_0 == ([])))) (ev_sne rfl rfl) (by decide) ?_
      refine sr_end (l' := [(0, vops_0), (3, .pointer (some ⟨gd_3, 0, none⟩)), (4, .pointer (some ⟨gm_4, 0, none⟩)), (5, str last_5), (7, .pointer (some ⟨gx_7, 0, none⟩)), (19, .int .i64 t_19), (20, .int .i64 t_20), (73, .bool (!(x_7_0 == ([]))))]) (.cons rfl (.cons rfl (.cons rfl (.cons rfl (.cons rfl (.cons rfl (.cons rfl (.cons rfl (.nil _))))))))) ?_
      refine ke_cond (t := !(x_7_0 == ([]))) rfl (fun hc967 => ?_) (fun hc967 => ?_)
      ·replace hS := ite_true' hS hc967
       refine ke_region ?_
       refine sr_ev (v := .pointer (some ⟨gx_7, 0, none⟩)) (ev_fieldAddr (i := 0) Tryz.underlying32 rfl Tryz.info9 rfl rfl) (by decide) ?_
       refine sr_ev (v := str x_7_0) (ev_load Tryz.isAgg9 rfl (hBx_7.cell rfl)) (by decide) ?_
       refine sr_ev (v := str x_7_0) (ev_assign rfl) (by decide) ?_
       refine sr_end (l' := [(0, vops_0), (3, .pointer (some ⟨gd_3, 0, none⟩)), (4, .pointer (some ⟨gm_4, 0, none⟩)), (5, str x_7_0), (19, .int .i64 t_19), (20, .int .i64 t_20)]) (.cons rfl (.cons rfl (.cons rfl (.cons rfl (.cons rfl (.cons rfl (.nil _))))))) ?_
       have hK := law37_DeviceDoes_B3_ok hg hbd hz _ hr0 hS hb hops_0 ⟨_, hB925, h924⟩ ⟨_, hB928, h927⟩
       exact ke_weaken (l' := [(0, vops_0), (3, .pointer (some ⟨gd_3, 0, none⟩)), (4, .pointer (some ⟨gm_4, 0, none⟩)), (5, str x_7_0), (19, .int .i64 t_19), (20, .int .i64 t_20)]) (.cons rfl (.cons rfl (.cons rfl (.cons rfl (.cons rfl (.cons rfl (.nil _))))))) hK
      ·replace hS := ite_false' hS hc967
       refine ke_skip ?_
       have hK := law37_DeviceDoes_B3_ok hg hbd hz _ hr0 hS hb hops_0 ⟨_, hB925, h924⟩ ⟨_, hB928, h927⟩
       exact ke_weaken (l' := [(0, vops_0), (3, .pointer (some ⟨gd_3, 0, none⟩)), (4, .pointer (some ⟨gm_4, 0, none⟩)), (5, str last_5), (19, .int .i64 t_19), (20, .int .i64 t_20)]) (.cons rfl (.cons rfl (.cons rfl (.cons rfl (.cons rfl (.cons rfl (.nil _))))))) hK
    ·intro K959
     rcases Bool.eq_false_or_eq_true ((z931 || (x_7_2 != y_8_2)) || (x_7_3 != y_8_3)) with hg958 | hg958
     all_goals try have hj961 : Tr ρ935 w934 (fun _ => false) ρ935 w934 := Tr.refl hb.bd
     ·refine sr_pass (e := 64) rfl rfl (by rw [hg958]; rfl) (by decide) ?_
      refine sr_pass (e := 64) rfl rfl (by rw [hg958]; rfl) (by decide) ?_
      refine sr_pass (e := 64) rfl rfl (by rw [hg958]; rfl) (by decide) ?_
      refine sr_pass (e := 64) rfl rfl (by rw [hg958]; rfl) (by decide) ?_
      refine sr_pass (e := 64) rfl rfl (by rw [hg958]; rfl) (by decide) ?_
      refine sr_ev (v := .bool true) (ev_pick_t rfl hg958 rfl) (by decide) ?_
      exact sr_weaken (l' := [(0, vops_0), (3, .pointer (some ⟨gd_3, 0, none⟩)), (4, .pointer (some ⟨gm_4, 0, none⟩)), (5, str last_5), (7, .pointer (some ⟨gx_7, 0, none⟩)), (19, .int .i64 t_19), (20, .int .i64 t_20), (70, .bool true)]) (.cons rfl (.cons rfl (.cons rfl (.cons rfl (.cons rfl (.cons rfl (.cons rfl (.cons rfl (.nil _))))))))) (K959 true _ ⟨by rw [hg958]; rfl, rfl⟩)
     ·refine sr_evg (b := false) (e := 64) rfl rfl hg958 (v := .pointer (some ⟨gx_7, 4, none⟩)) (ev_fieldAddr (i := 4) Tryz.underlying32 rfl Tryz.info30 rfl rfl) (by decide) ?_
      refine sr_evg (b := false) (e := 64) rfl rfl hg958 (v := .int .i64 x_7_4) (ev_load Tryz.isAgg30 rfl (hBx_7.cell rfl)) (by decide) ?_
      refine sr_evg (b := false) (e := 64) rfl rfl hg958 (v := .pointer (some ⟨gy_8, 4, none⟩)) (ev_fieldAddr (i := 4) Tryz.underlying32 rfl Tryz.info30 rfl rfl) (by decide) ?_
      refine sr_evg (b := false) (e := 64) rfl rfl hg958 (v := .int .i64 y_8_4) (ev_load Tryz.isAgg30 rfl (hBy_8.cell rfl)) (by decide) ?_
      refine sr_evg (b := false) (e := 64) rfl rfl hg958 (v := .bool (x_7_4 != y_8_4)) (ev_ne rfl rfl) (by decide) ?_
      refine sr_ev (v := .bool (x_7_4 != y_8_4)) (ev_pick_f rfl hg958 rfl) (by decide) ?_
      exact sr_weaken (l' := [(0, vops_0), (3, .pointer (some ⟨gd_3, 0, none⟩)), (4, .pointer (some ⟨gm_4, 0, none⟩)), (5, str last_5), (7, .pointer (some ⟨gx_7, 0, none⟩)), (19, .int .i64 t_19), (20, .int .i64 t_20), (70, .bool (x_7_4 != y_8_4))]) (.cons rfl (.cons rfl (.cons rfl (.cons rfl (.cons rfl (.cons rfl (.cons rfl (.cons rfl (.nil _))))))))) (K959 (x_7_4 != y_8_4) _ ⟨by rw [hg958]; rfl, rfl⟩)
   ·intro K951
    rcases Bool.eq_false_or_eq_true (z931 || (x_7_2 != y_8_2)) with hg950 | hg950
    all_goals try have hj953 : Tr ρ935 w934 (fun _ => false) ρ935 w934 := Tr.refl hb.bd
    ·refine sr_pass (e := 57) rfl rfl (by rw [hg950]; rfl) (by decide) ?_
     refine sr_pass (e := 57) rfl rfl (by rw [hg950]; rfl) (by decide) ?_
     refine sr_pass (e := 57) rfl rfl (by rw [hg950]; rfl) (by decide) ?_
     refine sr_pass (e := 57) rfl rfl (by rw [hg950]; rfl) (by decide) ?_
     refine sr_pass (e := 57) rfl rfl (by rw [hg950]; rfl) (by decide) ?_
     refine sr_ev (v := .bool true) (ev_pick_t rfl hg950 rfl) (by decide) ?_
     exact sr_weaken (l' := [(0, vops_0), (3, .pointer (some ⟨gd_3, 0, none⟩)), (4, .pointer (some ⟨gm_4, 0, none⟩)), (5, str last_5), (7, .pointer (some ⟨gx_7, 0, none⟩)), (8, .pointer (some ⟨gy_8, 0, none⟩)), (19, .int .i64 t_19), (20, .int .i64 t_20), (63, .bool true)]) (.cons rfl (.cons rfl (.cons rfl (.cons rfl (.cons rfl (.cons rfl (.cons rfl (.cons rfl (.cons rfl (.nil _)))))))))) (K951 true _ ⟨by rw [hg950]; rfl, rfl⟩)
    ·refine sr_evg (b := false) (e := 57) rfl rfl hg950 (v := .pointer (some ⟨gx_7, 3, none⟩)) (ev_fieldAddr (i := 3) Tryz.underlying32 rfl Tryz.info4 rfl rfl) (by decide) ?_
     refine sr_evg (b := false) (e := 57) rfl rfl hg950 (v := .bool x_7_3) (ev_load Tryz.isAgg4 rfl (hBx_7.cell rfl)) (by decide) ?_
     refine sr_evg (b := false) (e := 57) rfl rfl hg950 (v := .pointer (some ⟨gy_8, 3, none⟩)) (ev_fieldAddr (i := 3) Tryz.underlying32 rfl Tryz.info4 rfl rfl) (by decide) ?_
     refine sr_evg (b := false) (e := 57) rfl rfl hg950 (v := .bool y_8_3) (ev_load Tryz.isAgg4 rfl (hBy_8.cell rfl)) (by decide) ?_
     refine sr_evg (b := false) (e := 57) rfl rfl hg950 (v := .bool (x_7_3 != y_8_3)) (ev_bne Tryz.underlying4 rfl rfl) (by decide) ?_
     refine sr_ev (v := .bool (x_7_3 != y_8_3)) (ev_pick_f rfl hg950 rfl) (by decide) ?_
     exact sr_weaken (l' := [(0, vops_0), (3, .pointer (some ⟨gd_3, 0, none⟩)), (4, .pointer (some ⟨gm_4, 0, none⟩)), (5, str last_5), (7, .pointer (some ⟨gx_7, 0, none⟩)), (8, .pointer (some ⟨gy_8, 0, none⟩)), (19, .int .i64 t_19), (20, .int .i64 t_20), (63, .bool (x_7_3 != y_8_3))]) (.cons rfl (.cons rfl (.cons rfl (.cons rfl (.cons rfl (.cons rfl (.cons rfl (.cons rfl (.cons rfl (.nil _)))))))))) (K951 (x_7_3 != y_8_3) _ ⟨by rw [hg950]; rfl, rfl⟩)
  ·intro K943
   rcases Bool.eq_false_or_eq_true z931 with hg942 | hg942
   all_goals try have hj945 : Tr ρ935 w934 (fun _ => false) ρ935 w934 := Tr.refl hb.bd
   ·refine sr_pass (e := 50) rfl rfl (by rw [hg942]; rfl) (by decide) ?_
    refine sr_pass (e := 50) rfl rfl (by rw [hg942]; rfl) (by decide) ?_
    refine sr_pass (e := 50) rfl rfl (by rw [hg942]; rfl) (by decide) ?_
    refine sr_pass (e := 50) rfl rfl (by rw [hg942]; rfl) (by decide) ?_
    refine sr_pass (e := 50) rfl rfl (by rw [hg942]; rfl) (by decide) ?_
    refine sr_ev (v := .bool true) (ev_pick_t rfl hg942 rfl) (by decide) ?_
    exact sr_weaken (l' := [(0, vops_0), (3, .pointer (some ⟨gd_3, 0, none⟩)), (4, .pointer (some ⟨gm_4, 0, none⟩)), (5, str last_5), (7, .pointer (some ⟨gx_7, 0, none⟩)), (8, .pointer (some ⟨gy_8, 0, none⟩)), (19, .int .i64 t_19), (20, .int .i64 t_20), (56, .bool true)]) (.cons rfl (.cons rfl (.cons rfl (.cons rfl (.cons rfl (.cons rfl (.cons rfl (.cons rfl (.cons rfl (.nil _)))))))))) (K943 true _ ⟨by rw [hg942]; rfl, rfl⟩)
   ·refine sr_evg (b := false) (e := 50) rfl rfl hg942 (v := .pointer (some ⟨gx_7, 2, none⟩)) (ev_fieldAddr (i := 2) Tryz.underlying32 rfl Tryz.info3 rfl rfl) (by decide) ?_
    refine sr_evg (b := false) (e := 50) rfl rfl hg942 (v := .int .i64 x_7_2) (ev_load Tryz.isAgg3 rfl (hBx_7.cell rfl)) (by decide) ?_
    refine sr_evg (b := false) (e := 50) rfl rfl hg942 (v := .pointer (some ⟨gy_8, 2, none⟩)) (ev_fieldAddr (i := 2) Tryz.underlying32 rfl Tryz.info3 rfl rfl) (by decide) ?_
    refine sr_evg (b := false) (e := 50) rfl rfl hg942 (v := .int .i64 y_8_2) (ev_load Tryz.isAgg3 rfl (hBy_8.cell rfl)) (by decide) ?_
    refine sr_evg (b := false) (e := 50) rfl rfl hg942 (v := .bool (x_7_2 != y_8_2)) (ev_ne rfl rfl) (by decide) ?_
    refine sr_ev (v := .bool (x_7_2 != y_8_2)) (ev_pick_f rfl hg942 rfl) (by decide) ?_
    exact sr_weaken (l' := [(0, vops_0), (3, .pointer (some ⟨gd_3, 0, none⟩)), (4, .pointer (some ⟨gm_4, 0, none⟩)), (5, str last_5), (7, .pointer (some ⟨gx_7, 0, none⟩)), (8, .pointer (some ⟨gy_8, 0, none⟩)), (19, .int .i64 t_19), (20, .int .i64 t_20), (56, .bool (x_7_2 != y_8_2))]) (.cons rfl (.cons rfl (.cons rfl (.cons rfl (.cons rfl (.cons rfl (.cons rfl (.cons rfl (.cons rfl (.nil _)))))))))) (K943 (x_7_2 != y_8_2) _ ⟨by rw [hg942]; rfl, rfl⟩)
 ·intro K930
  clear hS
  have hj932 : Tr ρ w (fun _ => false) ρ w := (Tr.refl hb.bd).weak (fun _ _ => rfl) rfl rfl
  rcases Bool.eq_false_or_eq_true (!(x_7_0 == y_8_0)) with hg929 | hg929
  ·have hS := ite_true' hz933 hg929
   refine sr_pass (e := 42) rfl rfl (by rw [hg929]; rfl) (by decide) ?_
   refine sr_pass (e := 42) rfl rfl (by rw [hg929]; rfl) (by decide) ?_
   refine sr_pass (e := 42) rfl rfl (by rw [hg929]; rfl) (by decide) ?_
   refine sr_pass (e := 42) rfl rfl (by rw [hg929]; rfl) (by decide) ?_
   refine sr_pass (e := 42) rfl rfl (by rw [hg929]; rfl) (by decide) ?_
   refine sr_pass (e := 42) rfl rfl (by rw [hg929]; rfl) (by decide) ?_
   refine sr_ev (v := .bool true) (ev_pick_t rfl hg929 rfl) (by decide) ?_
   exact sr_weaken (l' := [(0, vops_0), (3, .pointer (some ⟨gd_3, 0, none⟩)), (4, .pointer (some ⟨gm_4, 0, none⟩)), (5, str last_5), (7, .pointer (some ⟨gx_7, 0, none⟩)), (8, .pointer (some ⟨gy_8, 0, none⟩)), (19, .int .i64 t_19), (20, .int .i64 t_20), (49, .bool true)]) (.cons rfl (.cons rfl (.cons rfl (.cons rfl (.cons rfl (.cons rfl (.cons rfl (.cons rfl (.cons rfl (.nil _)))))))))) (K930 true _ ⟨(Option.some.inj hS).symm, _, hj932⟩)
  ·have hS := ite_false' hz933 hg929
   refine sr_evg (b := false) (e := 42) rfl rfl hg929 (v := .pointer (some ⟨gx_7, 1, none⟩)) (ev_fieldAddr (i := 1) Tryz.underlying32 rfl Tryz.info29 rfl rfl) (by decide) ?_
   refine sr_evg (b := false) (e := 42) rfl rfl hg929 (v := vx_7_1) (ev_load Tryz.isAgg29 rfl (hBx_7.cell rfl)) (by decide) ?_
   refine sr_evg (b := false) (e := 42) rfl rfl hg929 (v := .pointer (some ⟨gy_8, 1, none⟩)) (ev_fieldAddr (i := 1) Tryz.underlying32 rfl Tryz.info29 rfl rfl) (by decide) ?_
   refine sr_evg (b := false) (e := 42) rfl rfl hg929 (v := vy_8_1) (ev_load Tryz.isAgg29 rfl (hBy_8.cell rfl)) (by decide) ?_
   obtain ⟨y937, hy938, hS⟩ := bind_some' hS
   refine sr_callg (b := false) (e := 42) rfl rfl hg929 (vs := [vx_7_1, vy_8_1]) rfl Tryz.call10 rfl (ref02_Same_ok _ (hg.fr hz hb) hx_7_1.asSl hy_8_1.asSl hy938) (by decide) ?_
   rintro _ w939 ⟨rfl, hbw940⟩
   have htr941 := Tr.of_below hbw940 hb.bd
   replace hops_0 := hops_0.mv htr941.rd
   replace hB925 := hB925.mv (htr941.mv (i := 100) rfl)
   replace h924 := h924.mv (htr941.mv (i := 101) rfl)
   replace hB928 := hB928.mv (htr941.mv (i := 200) rfl)
   replace h927 := h927.mv (htr941.mv (i := 201) rfl) (by decide)
   replace hBx_7 := hBx_7.mv (htr941.mv (i := 9) rfl)
   replace hx_7_1 := hx_7_1.mv htr941.rd
   replace hBy_8 := hBy_8.mv (htr941.mv (i := 10) rfl)
   replace hy_8_1 := hy_8_1.mv htr941.rd
   replace hb := hb.trans htr941
   replace hj932 := (hj932.trans htr941).weak (J' := (fun _ => false)) (by intro t h; simp [rng] at h ⊢ <;> omega) rfl rfl
   refine sr_evg (b := false) (e := 42) rfl rfl hg929 (v := .bool (!y937)) (ev_not rfl) (by decide) ?_
   refine sr_ev (v := .bool (!y937)) (ev_pick_f rfl hg929 rfl) (by decide) ?_
   exact sr_weaken (l' := [(0, vops_0), (3, .pointer (some ⟨gd_3, 0, none⟩)), (4, .pointer (some ⟨gm_4, 0, none⟩)), (5, str last_5), (7, .pointer (some ⟨gx_7, 0, none⟩)), (8, .pointer (some ⟨gy_8, 0, none⟩)), (19, .int .i64 t_19), (20, .int .i64 t_20), (49, .bool (!y937))]) (.cons rfl (.cons rfl (.cons rfl (.cons rfl (.cons rfl (.cons rfl (.cons rfl (.cons rfl (.cons rfl (.nil _)))))))))) (K930 (!y937) _ ⟨(Option.some.inj hS).symm, _, hj932⟩)

end YtangcaaneobhnaaGreatDoor
end Go.Proofs
