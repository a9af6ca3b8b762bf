/- Own work: a part of the proofs of this seat. -/
import Derived.Test.YtkhodjenbganfaaGreatDoorProg
import Derived.Test.YtkhodjenbganfaaGreatDoorKwShelf
import Derived.Test.YtkhodjenbganfaaGreatDoorKwTS
import Derived.KernelRfl
import Derived.Test.YtkhodjenbganfaaGreatDoorKwTW2
import Derived.Test.YtkhodjenbganfaaGreatDoorKwShort
set_option linter.unusedVariables false
set_option linter.unusedSimpArgs false
set_option linter.unusedSectionVars false
set_option maxHeartbeats 8000000
set_option maxRecDepth 8000
namespace Go.Proofs
namespace YtkhodjenbganfaaGreatDoor
open Go Go.KW Go.KW.S Go.RowKit
theorem ref39_presented_ok (w0 : World) (hg : Gs w0) {ρA : Tags} (hbd : ∀ b, ρA b ≠ 0 → b < w0.heap.size) (hz : Gz ρA) {τ0 : Nat → Nat} (hτ0 : ∀ p, 1 ≤ τ0 p) {l_0 : ref39_Logins} {id_1 : Str} {f_2 : Int} {now_3 : Int} {gl_0 : Nat} {r : Int × Int} (ho0 : ref39_Logins.O τ0 ρA w0 gl_0 l_0) (hS : ref39_presented l_0 id_1 f_2 now_3 = some r) :
  Calls Tryz.prog 68 #[pT gl_0 0, str id_1, .int .i64 f_2, .int .i64 now_3] w0 (Ret (fun v w' => v = .tuple #[.int .i64 r.1, .int .i64 r.2] ∧ Below w0.heap.size w0 w')) := by
 unfold ref39_presented at hS
 have hb := flat1_fr (ρ := ρA) (w := w0) hbd
 have hz := hz.flat1
 obtain ⟨v1, v3, v5, M7, hB9, hP2, h4, h6, hN8⟩ := ho0
 replace hB9 := hB9.mv (flat1_mv (hτ0 0))
 replace hP2 := PtrO.mv hP2 ref22_Locks.objK (fun p hp => flat1_mv (hτ0 (1 + p))) (fun _ _ => by decide)
 replace h4 := h4.mv (flat1_mv (hτ0 3)) (by decide)
 replace h6 := h6.mv (flat1_mv (hτ0 4)) (by decide)
 replace hN8 := hN8.mv (flat1_mv (hτ0 5)) (by decide)
 refine ck Tryz.func68 [0, 1, 2, 3] rfl rfl ?_
 refine ke_seq <| ke_region <| sr_go 2 rfl <| sr_fin [0, 1, 2, 3] rfl <| ke_seq <| ke_region <| sr_go 3 rfl ?_
 obtain ⟨y10, hy11, hS⟩ := bS hS
 refine sr_cb Tryz.call65 (ref39_find_ok _ (hg.fr hz hb) hb.bd (hz.fr hg hb) (τ0 := (fun _ => 1)) (fun _ => by decide) (by exact ⟨_, _, _, _, hB9, hP2, h4, h6, hN8⟩) hy11) hb.bd ?_
 intro w12 t14
 replace hB9 := hB9.m t14
 replace hP2 := hP2.m ref22_Locks.objK t14
 replace h4 := h4.m t14
 replace h6 := h6.m t14
 replace hN8 := hN8.m t14
 replace hb := hb.trans t14
 refine sr_go 5 rfl <| sr_fin [0, 2, 3, 10, 11] rfl <| ke_seq <| ke_seq <| ke_region <| sr_go 2 rfl <| sr_fin [0, 2, 3, 10, 11, 22] rfl ?_
 refine ke_cond rfl (fun hc15 => ?_) (fun hc15 => ?_)
 ·replace hS := iT hS hc15
  refine ke_seq <| ke_region <| sr_go 3 rfl <| sr_fin [8, 9] rfl ?_
  cases hS
  exact ke_ret2 Tryz.func68 rfl rfl rfl ⟨_, rfl, rfl, (hb.below (flat1_le _))⟩
 ·replace hS := iF hS hc15
  refine ke_skip <| ke_seq <| ke_region <| sr_go 2 rfl ?_
  refine sr_fa 2 Tryz.underlying96 rfl Tryz.info94 ?_
  refine sr_ld v5 Tryz.isAgg94 rfl (hB9.cell rfl) ?_
  refine sr_go 1 rfl ?_
  obtain ⟨y16, hy17, hS⟩ := bS hS
  obtain ⟨b18, o19, cs21, hq22, he20, hg26, ho27⟩ := h6.elemQ (P := Tryz.prog) Tryz.underlying94 Tryz.info108 rfl hy17
  obtain ⟨v23, hcshe20, hR25⟩ := he20.rd
  obtain rfl : cs21 = [str y16.id, str y16.user, .int .i64 y16.begun, v23] := hcshe20
  have h24 := hN8.sl hR25
  refine sr_e (hq22 w12 rfl rfl) ?_
  refine sr_e (v := .agg #[str y16.id, str y16.user, .int .i64 y16.begun, v23]) (ev_loads (cs := [str y16.id, str y16.user, .int .i64 y16.begun, v23]) Tryz.isAgg108 Tryz.sizeOf108 rfl he20.cell) ?_
  refine sr_allocT 14 (by decide) hb.bd Tryz.zeroValue108 (by decide) ?_
  intro g28 ρ29 w30 hB32 t31
  replace hb := hb.trans t31
  refine sr_storeT (v := .agg #[str y16.id, str y16.user, .int .i64 y16.begun, v23]) (vs := [str y16.id, str y16.user, .int .i64 y16.begun, v23]) (cs' := #[str y16.id, str y16.user, .int .i64 y16.begun, v23]) hB32 (by decide) hb.bd rfl rfl rfl Tryz.sizeOf108 rfl (by first | rfl | (simp only [List.all_cons, List.all_nil, NR.oneCell hR25]; done) | (simp only [List.all_cons, List.all_nil, NR.oneCell hR25]; rfl)) rfl ?_
  intro w33 hB32 t34
  replace h24 := (h24.m t31).m t34
  replace hB9 := (hB9.m t31).m t34
  replace hP2 := (hP2.m ref22_Locks.objK t31).m ref22_Locks.objK t34
  replace h4 := (h4.m t31).m t34
  replace h6 := (h6.m t31).m t34
  replace hN8 := (hN8.m t31).m t34
  replace hb := hb.trans t34
  refine sr_fin [0, 2, 3, 10, 12] rfl <| ke_seq <| ke_seq <| ke_region <| sr_go 1 rfl <| sr_fin [0, 2, 3, 10, 12, 13] rfl ?_
  refine ke_block ?_
  have hK := ref39_presented_L1_ok hg hbd hz _ hS hb ⟨_, _, _, _, hB9, hP2, h4, h6, hN8⟩ h24 hB32
  exact ke_wk (ke_loop hK)
theorem ref22_Password_L1_ok {w0 : World} (hg : Gs w0) : ∀ (n : Nat), ∀ {r : Bool} {s_0 : Str} {i_3 : Int}, ref22_Password_L1 n s_0 i_3 = some r → ∀ {w : World}, (Below w0.heap.size w0 w) → KE Tryz.prog 102 (Ret (fun v w' => v = .bool r ∧ Below w0.heap.size w0 w')) 28 [.code (sub (bodyOf Tryz.f102) [2, 2, 1, 2, 2, 1]), .inLoop (sub (bodyOf Tryz.f102) [2, 2, 1, 2, 2, 1]), .inBlock 0, .code (sub (bodyOf Tryz.f102) [2, 2, 2])] [(0, str s_0), (3, .int .i64 i_3)] w := by
 intro n
 induction n with
 | zero => intro r s_0 i_3 hS; cases hS
 | succ n ih =>
  have hr0 : ∀ {r : Bool} {s_0 : Str} {i_3 : Int}, ref22_Password_L1 n s_0 i_3 = some r → ∀ {w : World}, (Below w0.heap.size w0 w) → KE Tryz.prog 102 (Ret (fun v w' => v = .bool r ∧ Below w0.heap.size w0 w')) 28 [.inLoop (sub (bodyOf Tryz.f102) [2, 2, 1, 2, 2, 1]), .inBlock 0, .code (sub (bodyOf Tryz.f102) [2, 2, 2])] [(0, str s_0), (3, .int .i64 i_3)] w := fun {r} {s_0} {i_3} hS {w} hb => ke_inLoop (ih hS hb)
  clear ih
  intro r s_0 i_3 hS w hb
  unfold ref22_Password_L1 at hS
  refine ke_seq <| ke_seq <| ke_region <| sr_go 2 rfl ?_
  refine sr_e (ev_slen Tryz.underlying9 rfl) ?_
  refine sr_go 1 rfl <| sr_fin [0, 3, 15] rfl ?_
  refine ke_cond rfl (fun hc9 => ?_) (fun hc9 => ?_)
  ·replace hS := iT hS hc9
   refine ke_skip <| ke_seq ?_
   refine ke_block ?_
   refine ke_seq <| ke_region <| sr_go 2 rfl ?_
   obtain ⟨hk10, hS⟩ := chk_some hS
   refine sr_e (ev_sindex Tryz.underlying9 rfl rfl hk10) ?_
   refine sr_go 2 rfl ?_
   obtain ⟨z13, hz15, hS⟩ := bS hS
   refine sr_join (m := 5) (C := fun (x : Bool) w1 => z13 = x ∧ Below w.heap.size w w1) (l' := fun x => [(0, str s_0), (3, .int .i64 i_3), (27, .bool x)]) ?_ ?_
   ·rintro _ w16 ⟨rfl, hbw17⟩
    replace hb := hb.trans (hbw17.mono hb.size)
    refine sr_fin [0, 3, 27] rfl ?_
    refine ke_cond rfl (fun hc19 => ?_) (fun hc19 => ?_)
    ·replace hS := iT hS hc19
     refine ke_seq <| ke_region <| sr_go 1 rfl <| sr_fin [2] rfl ?_
     cases hS
     exact ke_ret1 Tryz.func102 rfl rfl ⟨_, rfl, rfl, hb⟩
    ·replace hS := iF hS hc19
     refine ke_skip <| ke_inBlock <| ke_region <| sr_go 3 rfl <| sr_fin [0, 3] rfl ?_
     have hK := hr0 hS hb
     exact ke_wk hK
   ·intro K12
    clear hS
    have hj14 := Below.refl w.heap.size w
    rcases Bool.eq_false_or_eq_true (decide ((byteAt s_0 i_3) < 32)) with hg11 | hg11
    ·have hS := iT hz15 hg11
     refine sr_setb 22 rfl hg11 <| sr_go 5 rfl ?_
     exact sr_wk (K12 true _ ⟨(Option.some.inj hS).symm, hj14⟩)
    ·have hS := iF hz15 hg11
     refine sr_setb 22 rfl hg11 <| sr_go 2 rfl ?_
     obtain ⟨hk18, hS⟩ := chk_some hS
     refine sr_eg rfl (ev_sindex Tryz.underlying9 rfl rfl hk18) ?_
     refine sr_go 2 rfl ?_
     exact sr_wk (K12 (decide ((byteAt s_0 i_3) > 126)) _ ⟨(Option.some.inj hS).symm, hj14⟩)
  ·replace hS := iF hS hc9
   refine ke_exit (k' := _) rfl ?_
   refine ke_seq <| ke_region <| sr_go 1 rfl <| sr_fin [2] rfl ?_
   cases hS
   exact ke_ret1 Tryz.func102 rfl rfl ⟨_, rfl, rfl, hb⟩
theorem ref22_Password_ok (w0 : World) (hg : Gs w0) {s_0 : Str} {r : Bool} (hS : ref22_Password s_0 = some r) :
  Calls Tryz.prog 102 #[str s_0] w0 (Ret (fun v w' => v = .bool r ∧ Below w0.heap.size w0 w')) := by
 unfold ref22_Password at hS
 have hb := Below.refl w0.heap.size w0
 refine ck Tryz.func102 [0] rfl rfl ?_
 refine ke_seq <| ke_region <| sr_go 1 rfl <| sr_fin [0] rfl <| ke_seq <| ke_seq <| ke_region <| sr_go 1 rfl ?_
 refine sr_e (ev_slen Tryz.underlying9 rfl) ?_
 refine sr_go 2 rfl ?_
 refine sr_join (m := 4) (C := fun (x : Bool) w1 => x = ((decide ((s_0.length : Int) < 8)) || (decide ((s_0.length : Int) > 256))) ∧ w0 = w1) (l' := fun x => [(0, str s_0), (11, .bool x)]) ?_ ?_
 ·rintro _ _ ⟨rfl, rfl⟩
  refine sr_fin [0, 11] rfl ?_
  refine ke_cond rfl (fun hc8 => ?_) (fun hc8 => ?_)
  ·replace hS := iT hS hc8
   refine ke_seq <| ke_region <| sr_go 1 rfl <| sr_fin [2] rfl ?_
   cases hS
   exact ke_ret1 Tryz.func102 rfl rfl ⟨_, rfl, rfl, hb⟩
  ·replace hS := iF hS hc8
   refine ke_skip <| ke_seq <| ke_seq <| ke_region <| sr_go 1 rfl <| sr_fin [0, 3] rfl ?_
   refine ke_block ?_
   have hK := ref22_Password_L1_ok hg _ hS hb
   exact ke_wk (ke_loop hK)
 ·intro K2
  rcases Bool.eq_false_or_eq_true (decide ((s_0.length : Int) < 8)) with hg1 | hg1
  ·refine sr_setb 7 rfl hg1 <| sr_go 4 rfl ?_
   exact sr_wk (K2 true _ ⟨by rw [hg1]; rfl, rfl⟩)
  ·refine sr_setb 7 rfl hg1 <| sr_go 1 rfl ?_
   refine sr_eg rfl (ev_slen Tryz.underlying9 rfl) ?_
   refine sr_go 2 rfl ?_
   exact sr_wk (K2 (decide ((s_0.length : Int) > 256)) _ ⟨by rw [hg1]; rfl, rfl⟩)
theorem ref03_Sum_L1_ok {w0 : World} (hg : Gs w0) : ∀ (n : Nat), ∀ {r : Int} {s_0 : Str} {h_3 : Int} {i_4 : Int}, ref03_Sum_L1 n s_0 h_3 i_4 = some r → ∀ {w : World}, (Below w0.heap.size w0 w) → KE Tryz.prog 135 (Ret (fun v w' => v = .int .u64 r ∧ Below w0.heap.size w0 w')) 34 [.code (sub (bodyOf Tryz.f135) [2, 2, 1, 2, 2, 1]), .inLoop (sub (bodyOf Tryz.f135) [2, 2, 1, 2, 2, 1]), .inBlock 0, .code (sub (bodyOf Tryz.f135) [2, 2, 2])] [(0, str s_0), (3, .int .u64 h_3), (4, .int .i64 i_4)] w := by
 intro n
 induction n with
 | zero => intro r s_0 h_3 i_4 hS; cases hS
 | succ n ih =>
  have hr0 : ∀ {r : Int} {s_0 : Str} {h_3 : Int} {i_4 : Int}, ref03_Sum_L1 n s_0 h_3 i_4 = some r → ∀ {w : World}, (Below w0.heap.size w0 w) → KE Tryz.prog 135 (Ret (fun v w' => v = .int .u64 r ∧ Below w0.heap.size w0 w')) 34 [.inLoop (sub (bodyOf Tryz.f135) [2, 2, 1, 2, 2, 1]), .inBlock 0, .code (sub (bodyOf Tryz.f135) [2, 2, 2])] [(0, str s_0), (3, .int .u64 h_3), (4, .int .i64 i_4)] w := fun {r} {s_0} {h_3} {i_4} hS {w} hb => ke_inLoop (ih hS hb)
  clear ih
  intro r s_0 h_3 i_4 hS w hb
  unfold ref03_Sum_L1 at hS
  refine ke_seq <| ke_seq <| ke_region <| sr_go 2 rfl ?_
  refine sr_e (ev_slen Tryz.underlying9 rfl) ?_
  refine sr_go 1 rfl <| sr_fin [0, 3, 4, 8] rfl ?_
  refine ke_cond rfl (fun hc1 => ?_) (fun hc1 => ?_)
  ·replace hS := iT hS hc1
   refine ke_skip <| ke_seq ?_
   refine ke_block ?_
   refine ke_region <| sr_go 3 rfl ?_
   obtain ⟨hk2, hS⟩ := chk_some hS
   refine sr_e (ev_sindex Tryz.underlying9 rfl rfl hk2) ?_
   refine sr_e (ev_conv Tryz.underlying116 Tryz.underlying5 rfl) ?_
   refine sr_e (ev_xor rfl rfl) ?_
   refine sr_e (ev_mul rfl rfl) ?_
   refine sr_go 1 rfl <| sr_fin [0, 3, 4] rfl <| ke_inBlock <| ke_region <| sr_go 3 rfl <| sr_fin [0, 3, 4] rfl ?_
   have hK := hr0 hS hb
   exact ke_wk hK
  ·replace hS := iF hS hc1
   refine ke_exit (k' := _) rfl ?_
   refine ke_seq <| ke_region <| sr_go 2 rfl ?_
   refine sr_e (ev_shr rfl rfl (by decide)) ?_
   refine sr_e (ev_xor rfl rfl) ?_
   refine sr_go 1 rfl <| sr_fin [3] rfl <| ke_seq <| ke_region <| sr_go 1 rfl ?_
   refine sr_e (ev_mul rfl rfl) ?_
   refine sr_go 1 rfl <| sr_fin [3] rfl <| ke_seq <| ke_region <| sr_go 2 rfl ?_
   refine sr_e (ev_shr rfl rfl (by decide)) ?_
   refine sr_e (ev_xor rfl rfl) ?_
   refine sr_go 1 rfl <| sr_fin [3] rfl <| ke_seq <| ke_region <| sr_go 1 rfl ?_
   refine sr_e (ev_mul rfl rfl) ?_
   refine sr_go 1 rfl <| sr_fin [3] rfl <| ke_seq <| ke_region <| sr_go 2 rfl ?_
   refine sr_e (ev_shr rfl rfl (by decide)) ?_
   refine sr_e (ev_xor rfl rfl) ?_
   refine sr_go 1 rfl <| sr_fin [2] rfl ?_
   cases hS
   exact ke_ret1 Tryz.func135 rfl rfl ⟨_, rfl, rfl, hb⟩
theorem ref03_Sum_ok (w0 : World) (hg : Gs w0) {s_0 : Str} {r : Int} (hS : ref03_Sum s_0 = some r) :
  Calls Tryz.prog 135 #[str s_0] w0 (Ret (fun v w' => v = .int .u64 r ∧ Below w0.heap.size w0 w')) := by
 unfold ref03_Sum at hS
 have hb := Below.refl w0.heap.size w0
 refine ck Tryz.func135 [0] rfl rfl ?_
 refine ke_seq <| ke_region <| sr_go 1 rfl <| sr_fin [0] rfl <| ke_seq <| ke_region <| sr_go 1 rfl <| sr_fin [0, 3] rfl <| ke_seq <| ke_seq <| ke_region <| sr_go 1 rfl <| sr_fin [0, 3, 4] rfl ?_
 refine ke_block ?_
 have hK := ref03_Sum_L1_ok hg _ hS hb
 exact ke_wk (ke_loop hK)
theorem ref03_Hex_L1_ok {w0 : World} (hg : Gs w0) : ∀ (n : Nat), ∀ {r : Str} {n_0 : Int} {s_3 : Str} {i_4 : Int}, ref03_Hex_L1 n n_0 s_3 i_4 = some r → ∀ {w : World}, (Below w0.heap.size w0 w) → KE Tryz.prog 134 (Ret (fun v w' => v = str r ∧ Below w0.heap.size w0 w')) 21 [.code (sub (bodyOf Tryz.f134) [2, 2, 1, 2, 2, 1]), .inLoop (sub (bodyOf Tryz.f134) [2, 2, 1, 2, 2, 1]), .inBlock 0, .code (sub (bodyOf Tryz.f134) [2, 2, 2])] [(0, .int .u64 n_0), (3, str s_3), (4, .int .i64 i_4)] w := by
 intro n
 induction n with
 | zero => intro r n_0 s_3 i_4 hS; cases hS
 | succ n ih =>
  have hr0 : ∀ {r : Str} {n_0 : Int} {s_3 : Str} {i_4 : Int}, ref03_Hex_L1 n n_0 s_3 i_4 = some r → ∀ {w : World}, (Below w0.heap.size w0 w) → KE Tryz.prog 134 (Ret (fun v w' => v = str r ∧ Below w0.heap.size w0 w')) 21 [.inLoop (sub (bodyOf Tryz.f134) [2, 2, 1, 2, 2, 1]), .inBlock 0, .code (sub (bodyOf Tryz.f134) [2, 2, 2])] [(0, .int .u64 n_0), (3, str s_3), (4, .int .i64 i_4)] w := fun {r} {n_0} {s_3} {i_4} hS {w} hb => ke_inLoop (ih hS hb)
  clear ih
  intro r n_0 s_3 i_4 hS w hb
  unfold ref03_Hex_L1 at hS
  refine ke_seq <| ke_seq <| ke_region <| sr_go 2 rfl <| sr_fin [0, 3, 4, 7] rfl ?_
  refine ke_cond rfl (fun hc1 => ?_) (fun hc1 => ?_)
  ·replace hS := iT hS hc1
   refine ke_skip <| ke_seq ?_
   refine ke_block ?_
   refine ke_seq <| ke_region <| sr_go 1 rfl ?_
   refine sr_e (ev_rem rfl rfl (by decide)) ?_
   refine sr_go 1 rfl <| sr_fin [0, 3, 4, 5] rfl <| ke_seq <| ke_region <| sr_go 3 rfl ?_
   obtain ⟨hk2, hS⟩ := chk_some hS
   refine sr_e (ev_sslice Tryz.underlying9 rfl rfl rfl hk2) ?_
   refine sr_go 1 rfl ?_
   obtain ⟨hk3, hS⟩ := chk_some hS
   refine sr_e (ev_cat rfl rfl hk3) ?_
   refine sr_go 1 rfl <| sr_fin [0, 3, 4] rfl <| ke_region <| sr_go 1 rfl ?_
   refine sr_e (ev_quo rfl rfl (by decide)) ?_
   refine sr_go 1 rfl <| sr_fin [0, 3, 4] rfl <| ke_inBlock <| ke_region <| sr_go 3 rfl <| sr_fin [0, 3, 4] rfl ?_
   have hK := hr0 hS hb
   exact ke_wk hK
  ·replace hS := iF hS hc1
   refine ke_exit (k' := _) rfl ?_
   refine ke_seq <| ke_region <| sr_go 2 rfl <| sr_fin [2] rfl ?_
   cases hS
   exact ke_ret1 Tryz.func134 rfl rfl ⟨_, rfl, rfl, hb⟩
theorem ref03_Hex_ok (w0 : World) (hg : Gs w0) {n_0 : Int} {r : Str} (hS : ref03_Hex n_0 = some r) :
  Calls Tryz.prog 134 #[.int .u64 n_0] w0 (Ret (fun v w' => v = str r ∧ Below w0.heap.size w0 w')) := by
 unfold ref03_Hex at hS
 have hb := Below.refl w0.heap.size w0
 refine ck Tryz.func134 [0] rfl rfl ?_
 refine ke_seq <| ke_region <| sr_go 1 rfl <| sr_fin [0] rfl <| ke_seq <| ke_region <| sr_go 1 rfl <| sr_fin [0, 3] rfl <| ke_seq <| ke_seq <| ke_region <| sr_go 1 rfl <| sr_fin [0, 3, 4] rfl ?_
 refine ke_block ?_
 have hK := ref03_Hex_L1_ok hg _ hS hb
 exact ke_wk (ke_loop hK)
theorem ref03_Text_ok (w0 : World) (hg : Gs w0) {s_0 : Str} {r : Str} (hS : ref03_Text s_0 = some r) :
  Calls Tryz.prog 123 #[str s_0] w0 (Ret (fun v w' => v = str r ∧ Below w0.heap.size w0 w')) := by
 unfold ref03_Text at hS
 have hb := Below.refl w0.heap.size w0
 refine ck Tryz.func123 [0] rfl rfl ?_
 refine ke_seq <| ke_region <| sr_go 1 rfl <| sr_fin [0] rfl <| ke_seq <| ke_region <| sr_go 1 rfl ?_
 obtain ⟨y1, hy2, hS⟩ := bS hS
 refine sr_cl Tryz.call135 (ref03_Sum_ok _ (hg.below hb) hy2) ?_
 rintro _ w3 ⟨rfl, hbw4⟩
 replace hb := hb.trans (hbw4.mono hb.size)
 obtain ⟨y5, hy6, hS⟩ := bS hS
 refine sr_cl Tryz.call134 (ref03_Hex_ok _ (hg.below hb) hy6) ?_
 rintro _ w7 ⟨rfl, hbw8⟩
 replace hb := hb.trans (hbw8.mono hb.size)
 refine sr_go 1 rfl <| sr_fin [2] rfl ?_
 cases hS
 exact ke_ret1 Tryz.func123 rfl rfl ⟨_, rfl, rfl, hb⟩
theorem ref03_Iterate_L1_ok {w0 : World} (hg : Gs w0) : ∀ (n : Nat), ∀ {r : Str} {salt_0 : Str} {rounds_2 : Int} {h_7 : Str} {i_8 : Int}, ref03_Iterate_L1 n salt_0 rounds_2 h_7 i_8 = some r → ∀ {w : World}, (Below w0.heap.size w0 w) → KE Tryz.prog 103 (Ret (fun v w' => v = str r ∧ Below w0.heap.size w0 w')) 29 [.code (sub (bodyOf Tryz.f103) [2, 2, 1, 2, 2, 1]), .inLoop (sub (bodyOf Tryz.f103) [2, 2, 1, 2, 2, 1]), .inBlock 0, .code (sub (bodyOf Tryz.f103) [2, 2, 2])] [(0, str salt_0), (2, .int .i64 rounds_2), (7, str h_7), (8, .int .i64 i_8)] w := by
 intro n
 induction n with
 | zero => intro r salt_0 rounds_2 h_7 i_8 hS; cases hS
 | succ n ih =>
  have hr0 : ∀ {r : Str} {salt_0 : Str} {rounds_2 : Int} {h_7 : Str} {i_8 : Int}, ref03_Iterate_L1 n salt_0 rounds_2 h_7 i_8 = some r → ∀ {w : World}, (Below w0.heap.size w0 w) → KE Tryz.prog 103 (Ret (fun v w' => v = str r ∧ Below w0.heap.size w0 w')) 29 [.inLoop (sub (bodyOf Tryz.f103) [2, 2, 1, 2, 2, 1]), .inBlock 0, .code (sub (bodyOf Tryz.f103) [2, 2, 2])] [(0, str salt_0), (2, .int .i64 rounds_2), (7, str h_7), (8, .int .i64 i_8)] w := fun {r} {salt_0} {rounds_2} {h_7} {i_8} hS {w} hb => ke_inLoop (ih hS hb)
  clear ih
  intro r salt_0 rounds_2 h_7 i_8 hS w hb
  unfold ref03_Iterate_L1 at hS
  refine ke_seq <| ke_seq <| ke_region <| sr_go 4 rfl ?_
  refine sr_join (m := 3) (C := fun (x : Bool) w1 => x = ((decide (i_8 < rounds_2)) && (decide (i_8 < 64))) ∧ w = w1) (l' := fun x => [(0, str salt_0), (2, .int .i64 rounds_2), (7, str h_7), (8, .int .i64 i_8), (20, .bool x)]) ?_ ?_
  ·rintro _ _ ⟨rfl, rfl⟩
   refine sr_fin [0, 2, 7, 8, 20] rfl ?_
   refine ke_cond rfl (fun hc14 => ?_) (fun hc14 => ?_)
   ·replace hS := iT hS hc14
    refine ke_skip <| ke_seq ?_
    refine ke_block ?_
    refine ke_region <| sr_go 1 rfl ?_
    obtain ⟨hk15, hS⟩ := chk_some hS
    refine sr_e (ev_cat rfl rfl hk15) ?_
    refine sr_go 1 rfl ?_
    obtain ⟨hk16, hS⟩ := chk_some hS
    refine sr_e (ev_cat rfl rfl hk16) ?_
    obtain ⟨y17, hy18, hS⟩ := bS hS
    refine sr_cl Tryz.call123 (ref03_Text_ok _ (hg.below hb) hy18) ?_
    rintro _ w19 ⟨rfl, hbw20⟩
    replace hb := hb.trans (hbw20.mono hb.size)
    refine sr_go 1 rfl <| sr_fin [0, 2, 7, 8] rfl <| ke_inBlock <| ke_region <| sr_go 3 rfl <| sr_fin [0, 2, 7, 8] rfl ?_
    have hK := hr0 hS hb
    exact ke_wk hK
   ·replace hS := iF hS hc14
    refine ke_exit (k' := _) rfl ?_
    refine ke_seq <| ke_region <| sr_go 2 rfl <| sr_fin [6] rfl ?_
    cases hS
    exact ke_ret1 Tryz.func103 rfl rfl ⟨_, rfl, rfl, hb⟩
  ·intro K8
   rcases Bool.eq_false_or_eq_true (decide (i_8 < rounds_2)) with hg7 | hg7
   ·refine sr_setb 17 rfl hg7 <| sr_go 3 rfl ?_
    exact sr_wk (K8 (decide (i_8 < 64)) _ ⟨by rw [hg7]; rfl, rfl⟩)
   ·refine sr_setb 17 rfl hg7 <| sr_go 3 rfl ?_
    exact sr_wk (K8 false _ ⟨by rw [hg7]; rfl, rfl⟩)
theorem ref03_Iterate_ok (w0 : World) (hg : Gs w0) {salt_0 : Str} {s_1 : Str} {rounds_2 : Int} {r : Str} (hS : ref03_Iterate salt_0 s_1 rounds_2 = some r) :
  Calls Tryz.prog 103 #[str salt_0, str s_1, .int .i64 rounds_2] w0 (Ret (fun v w' => v = str r ∧ Below w0.heap.size w0 w')) := by
 unfold ref03_Iterate at hS
 have hb := Below.refl w0.heap.size w0
 refine ck Tryz.func103 [0, 1, 2] rfl rfl ?_
 refine ke_seq <| ke_region <| sr_go 1 rfl <| sr_fin [0, 1, 2] rfl <| ke_seq <| ke_region <| sr_go 1 rfl ?_
 obtain ⟨hk1, hS⟩ := chk_some hS
 refine sr_e (ev_cat rfl rfl hk1) ?_
 refine sr_go 1 rfl ?_
 obtain ⟨hk2, hS⟩ := chk_some hS
 refine sr_e (ev_cat rfl rfl hk2) ?_
 obtain ⟨y3, hy4, hS⟩ := bS hS
 refine sr_cl Tryz.call123 (ref03_Text_ok _ (hg.below hb) hy4) ?_
 rintro _ w5 ⟨rfl, hbw6⟩
 replace hb := hb.trans (hbw6.mono hb.size)
 refine sr_go 1 rfl <| sr_fin [0, 2, 7] rfl <| ke_seq <| ke_seq <| ke_region <| sr_go 1 rfl <| sr_fin [0, 2, 7, 8] rfl ?_
 refine ke_block ?_
 have hK := ref03_Iterate_L1_ok hg _ hS hb
 exact ke_wk (ke_loop hK)
theorem ref22_Check_ok (w0 : World) (hg : Gs w0) {v_0 : api_Verifier} {password_1 : Str} {r : Bool} (hS : ref22_Check v_0 password_1 = some r) :
  Calls Tryz.prog 69 #[.agg #[str v_0.Salt, .int .i64 v_0.Rounds, str v_0.Hash], str password_1] w0 (Ret (fun v w' => v = .bool r ∧ Below w0.heap.size w0 w')) := by
 unfold ref22_Check at hS
 have hb := Below.refl w0.heap.size w0
 obtain ⟨A0, hA0, hAe⟩ : ∃ A0 : Nat → Prop, (∀ b, A0 b → b < w0.heap.size) ∧ A0 = fun _ => False := ⟨_, fun _ h => h.elim, rfl⟩
 clear hAe
 have hA := hA0
 have hi : ∀ b, A0 b → A0 b := fun _ h => h
 have hH := Hp.nil A0 w0.heap.size w0
 refine ck Tryz.func69 [0, 1] rfl rfl ?_
 refine ke_seq <| ke_region ?_
 refine sr_box hH hb.size hA rfl (by decide) ?_
 intro g1 A2 w3 hH1 hst4 hbw5 hinc6 hA1 hge7
 replace hb := hb.trans (hbw5.mono hb.size)
 replace hi := fun b hb => hinc6 b (hi b hb)
 replace hH : Hp A2 w0.heap.size w3 [(g1, .cells #[str v_0.Salt, .int .i64 v_0.Rounds, str v_0.Hash] 45 (0, 0))] := hH1
 replace hA := hA1
 clear hH1 hA1
 refine sr_go 1 rfl <| sr_fin [1, 2] rfl <| ke_seq ?_
 refine ke_region_q Tryz.mixed (by kernel_rfl) ?_
 refine sq_ev (v := .agg #[str v_0.Salt, .int .i64 v_0.Rounds, str v_0.Hash]) (fun w1 hw1 => ev_loads Tryz.isAgg45 Tryz.sizeOf45 rfl ((hH.below hw1).cells (i := 0) (vs := [str v_0.Salt, .int .i64 v_0.Rounds, str v_0.Hash]) rfl rfl)) (by decide) ?_
 obtain ⟨y10, hy11, hS⟩ := bS hS
 refine sq_call (v := .bool y10) (vs := [.agg #[str v_0.Salt, .int .i64 v_0.Rounds, str v_0.Hash]]) rfl Tryz.call62 rfl (fun w1 hw1 => (ref22_Valid_ok _ (hg.below (hb.trans (hw1.mono hb.size))) hy11)) (by decide) ?_
 refine sq_go 1 rfl ?_
 obtain ⟨z16, hz18, hS⟩ := bS hS
 refine sq_join (m := 3) (C := fun (x : Bool) => z16 = x) (l' := fun x => [(1, str password_1), (2, pT g1 0), (10, .bool x)]) ?_ ?_
 ·rintro _ rfl
  refine sq_go 1 rfl ?_
  obtain ⟨z27, hz29, hS⟩ := bS hS
  refine sq_join (m := 10) (C := fun (x : Bool) => z27 = x) (l' := fun x => [(21, .bool x)]) ?_ ?_
  ·rintro _ rfl
   refine sq_go 1 rfl ?_
   refine sq_fin [4] rfl (fun w9 hw8 => ?_)
   replace hb := hb.trans (hw8.mono hb.size)
   replace hA := lt_mono hA hw8.size
   replace hH := hH.below hw8
   cases hS
   exact ke_ret1 Tryz.func69 rfl rfl ⟨_, rfl, rfl, hb⟩
  ·intro K26
   clear hS
   rcases Bool.eq_false_or_eq_true z16 with hg25 | hg25
   ·have hS := iT hz29 hg25
    refine sq_evg (b := true) (e := 11) rfl rfl hg25 (v := pT g1 2) (fun w1 hw1 => ev_fieldAddr (i := 2) Tryz.underlying45 rfl Tryz.info9 rfl rfl) (by decide) ?_
    refine sq_evg (b := true) (e := 11) rfl rfl hg25 (v := str v_0.Hash) (fun w1 hw1 => ev_load Tryz.isAgg9 rfl ((hH.below hw1).cell (i := 0) rfl rfl)) (by decide) ?_
    refine sq_evg (b := true) (e := 11) rfl rfl hg25 (v := pT g1 0) (fun w1 hw1 => ev_fieldAddr (i := 0) Tryz.underlying45 rfl Tryz.info9 rfl rfl) (by decide) ?_
    refine sq_evg (b := true) (e := 11) rfl rfl hg25 (v := str v_0.Salt) (fun w1 hw1 => ev_load Tryz.isAgg9 rfl ((hH.below hw1).cell (i := 0) rfl rfl)) (by decide) ?_
    refine sq_setb 11 rfl hg25 <| sq_go 1 rfl ?_
    refine sq_evg (b := true) (e := 11) rfl rfl rfl (v := pT g1 1) (fun w1 hw1 => ev_fieldAddr (i := 1) Tryz.underlying45 rfl Tryz.info3 rfl rfl) (by decide) ?_
    refine sq_evg (b := true) (e := 11) rfl rfl rfl (v := .int .i64 v_0.Rounds) (fun w1 hw1 => ev_load Tryz.isAgg3 rfl ((hH.below hw1).cell (i := 0) rfl rfl)) (by decide) ?_
    obtain ⟨y32, hy33, hS⟩ := bS hS
    refine sq_callg (b := true) (e := 11) rfl rfl rfl (v := str y32) (vs := [str v_0.Salt, str password_1, .int .i64 v_0.Rounds]) rfl Tryz.call103 rfl (fun w1 hw1 => (ref03_Iterate_ok _ (hg.below (hb.trans (hw1.mono hb.size))) hy33)) (by decide) ?_
    refine sq_evg (b := true) (e := 11) rfl rfl rfl (v := .bool (v_0.Hash == y32)) (fun w1 hw1 => ev_seq rfl rfl) (by decide) ?_
    refine sq_go 1 rfl ?_
    exact sq_wk (K26 (v_0.Hash == y32) (Option.some.inj hS).symm)
   ·have hS := iF hz29 hg25
    refine sq_setb 11 rfl hg25 <| sq_go 10 rfl ?_
    exact sq_wk (K26 false (Option.some.inj hS).symm)
 ·intro K15
  clear hS
  rcases Bool.eq_false_or_eq_true y10 with hg14 | hg14
  ·have hS := iT hz18 hg14
   refine sq_setb 7 rfl hg14 <| sq_go 1 rfl ?_
   obtain ⟨y21, hy22, hS⟩ := bS hS
   refine sq_callg (b := true) (e := 7) rfl rfl rfl (v := .bool y21) (vs := [str password_1]) rfl Tryz.call102 rfl (fun w1 hw1 => (ref22_Password_ok _ (hg.below (hb.trans (hw1.mono hb.size))) hy22)) (by decide) ?_
   refine sq_go 1 rfl ?_
   exact sq_wk (K15 y21 (Option.some.inj hS).symm)
  ·have hS := iF hz18 hg14
   refine sq_setb 7 rfl hg14 <| sq_go 3 rfl ?_
   exact sq_wk (K15 false (Option.some.inj hS).symm)
theorem ref22_Locks_Failures_B2_ok {w0 : World} (hg : Gs w0) {ρA : Tags} (hbd : ∀ b, ρA b ≠ 0 → b < w0.heap.size) (hz : Gz (flat1 ρA)) (r0 : ref22_Locks → Int → Int → Int → Int → Option (Int))
  (hr0 : ∀ {r : Int} {ok_0 : ref22_Locks} {now_2 : Int} {i_7 : Int} {n_8 : Int} {j_9 : Int} {gk_0 : Nat}, r0 ok_0 now_2 i_7 n_8 j_9 = some r → ∀ {ρ : Tags} {w : World}, (Fr (flat1 ρA) w0 ρ w) → (ref22_Locks.O (fun _ => 1) ρ w gk_0 ok_0) → KE Tryz.prog 106 (Ret (fun v w' => v = .int .i64 r ∧ Below w0.heap.size w0 w')) 63 [.inLoop (sub (bodyOf Tryz.f106) [2, 2, 2, 2, 2, 1, 2, 2, 1]), .inBlock 0, .code (sub (bodyOf Tryz.f106) [2, 2, 2, 2, 2, 2])] [(0, pT gk_0 0), (2, .int .i64 now_2), (7, .int .i64 i_7), (8, .int .i64 n_8), (9, .int .i64 j_9)] w) {r : Int} {ok_0 : ref22_Locks} {now_2 : Int} {i_7 : Int} {n_8 : Int} {j_9 : Int} {gk_0 : Nat} (hS : ref22_Locks_Failures_B2 r0 ok_0 now_2 i_7 n_8 j_9 = some r) {ρ : Tags} {w : World} (hb : Fr (flat1 ρA) w0 ρ w) (hok_0 : ref22_Locks.O (fun _ => 1) ρ w gk_0 ok_0) :
  KE Tryz.prog 106 (Ret (fun v w' => v = .int .i64 r ∧ Below w0.heap.size w0 w')) 63 [.inBlock 1, .code (sub (bodyOf Tryz.f106) [2, 2, 2, 2, 2, 1, 2, 2, 1, 2, 2]), .inLoop (sub (bodyOf Tryz.f106) [2, 2, 2, 2, 2, 1, 2, 2, 1]), .inBlock 0, .code (sub (bodyOf Tryz.f106) [2, 2, 2, 2, 2, 2])] [(0, pT gk_0 0), (2, .int .i64 now_2), (7, .int .i64 i_7), (8, .int .i64 n_8), (9, .int .i64 j_9)] w := by
 unfold ref22_Locks_Failures_B2 at hS
 obtain ⟨v70, hB72, h71⟩ := hok_0
 refine ke_inBlock <| ke_region <| sr_go 3 rfl <| sr_fin [0, 2, 7, 8, 9] rfl ?_
 have hK := hr0 hS hb ⟨_, hB72, h71⟩
 exact ke_wk hK
theorem ref22_Locks_Failures_L1_ok {w0 : World} (hg : Gs w0) {ρA : Tags} (hbd : ∀ b, ρA b ≠ 0 → b < w0.heap.size) (hz : Gz (flat1 ρA)) : ∀ (n : Nat), ∀ {r : Int} {ok_0 : ref22_Locks} {now_2 : Int} {i_7 : Int} {n_8 : Int} {j_9 : Int} {gk_0 : Nat}, ref22_Locks_Failures_L1 n ok_0 now_2 i_7 n_8 j_9 = some r → ∀ {ρ : Tags} {w : World}, (Fr (flat1 ρA) w0 ρ w) → (ref22_Locks.O (fun _ => 1) ρ w gk_0 ok_0) → KE Tryz.prog 106 (Ret (fun v w' => v = .int .i64 r ∧ Below w0.heap.size w0 w')) 63 [.code (sub (bodyOf Tryz.f106) [2, 2, 2, 2, 2, 1, 2, 2, 1]), .inLoop (sub (bodyOf Tryz.f106) [2, 2, 2, 2, 2, 1, 2, 2, 1]), .inBlock 0, .code (sub (bodyOf Tryz.f106) [2, 2, 2, 2, 2, 2])] [(0, pT gk_0 0), (2, .int .i64 now_2), (7, .int .i64 i_7), (8, .int .i64 n_8), (9, .int .i64 j_9)] w := by
 intro n
 induction n with
 | zero => intro r ok_0 now_2 i_7 n_8 j_9 gk_0 hS; cases hS
 | succ n ih =>
  have hr0 : ∀ {r : Int} {ok_0 : ref22_Locks} {now_2 : Int} {i_7 : Int} {n_8 : Int} {j_9 : Int} {gk_0 : Nat}, ref22_Locks_Failures_L1 n ok_0 now_2 i_7 n_8 j_9 = some r → ∀ {ρ : Tags} {w : World}, (Fr (flat1 ρA) w0 ρ w) → (ref22_Locks.O (fun _ => 1) ρ w gk_0 ok_0) → KE Tryz.prog 106 (Ret (fun v w' => v = .int .i64 r ∧ Below w0.heap.size w0 w')) 63 [.inLoop (sub (bodyOf Tryz.f106) [2, 2, 2, 2, 2, 1, 2, 2, 1]), .inBlock 0, .code (sub (bodyOf Tryz.f106) [2, 2, 2, 2, 2, 2])] [(0, pT gk_0 0), (2, .int .i64 now_2), (7, .int .i64 i_7), (8, .int .i64 n_8), (9, .int .i64 j_9)] w := fun {r} {ok_0} {now_2} {i_7} {n_8} {j_9} {gk_0} hS {ρ} {w} hb hok_0 => ke_inLoop (ih hS hb hok_0)
  clear ih
  intro r ok_0 now_2 i_7 n_8 j_9 gk_0 hS ρ w hb hok_0
  unfold ref22_Locks_Failures_L1 at hS
  obtain ⟨v20, hB22, h21⟩ := hok_0
  refine ke_seq <| ke_seq <| ke_region <| sr_go 3 rfl ?_
  obtain ⟨z25, hz27, hS⟩ := bS hS
  refine sr_join (m := 12) (C := fun (z : Bool) w1 => z25 = z ∧ ∃ ρ1, Tr ρ w (fun _ => false) ρ1 w1) (l' := fun z => [(0, pT gk_0 0), (2, .int .i64 now_2), (7, .int .i64 i_7), (8, .int .i64 n_8), (9, .int .i64 j_9), (33, .bool z)]) ?_ ?_
  ·rintro _ w28 ⟨rfl, ρ29, hj26⟩
   replace hB22 := hB22.m hj26
   replace h21 := h21.m hj26
   replace hb := hb.trans hj26
   refine sr_fin [0, 2, 7, 8, 9, 33] rfl ?_
   refine ke_cond rfl (fun hc42 => ?_) (fun hc42 => ?_)
   ·replace hS := iT hS hc42
    refine ke_skip <| ke_seq ?_
    refine ke_block ?_
    refine ke_seq <| ke_region <| sr_go 2 rfl ?_
    refine sr_fa 4 Tryz.underlying140 rfl Tryz.info138 ?_
    refine sr_ld v20 Tryz.isAgg138 rfl (hB22.cell rfl) ?_
    refine sr_go 1 rfl ?_
    obtain ⟨y43, hy44, hS⟩ := bS hS
    obtain ⟨b45, o46, cs48, hq49, he47, hg52, ho53⟩ := h21.elemQ (P := Tryz.prog) Tryz.underlying138 Tryz.info142 rfl hy44
    obtain ⟨v50, hcshe47, h51⟩ := he47.rd
    obtain rfl : cs48 = [str y43.user, v50, .int .i64 y43.until_] := hcshe47
    refine sr_e (hq49 w28 rfl rfl) ?_
    refine sr_fa (o46 + 1) Tryz.underlying142 rfl Tryz.info135 ?_
    refine sr_ld v50 Tryz.isAgg135 rfl (he47.cell 1 _ rfl) ?_
    refine sr_go 1 rfl ?_
    obtain ⟨y54, hy55, hS⟩ := bS hS
    obtain ⟨b56, o57, cs59, hq60, he58⟩ := ((SlT.of_sl (i := 0) h51)).elem (P := Tryz.prog) Tryz.underlying135 Tryz.info3 rfl hy55
    obtain rfl : cs59 = [.int .i64 y54] := he58.rd
    refine sr_e (hq60 w28 rfl rfl) ?_
    refine sr_ld (.int .i64 y54) Tryz.isAgg3 rfl (he58.cell 0 _ rfl) ?_
    refine sr_go 1 rfl <| sr_fin [0, 2, 7, 8, 9, 10] rfl <| ke_seq <| ke_region <| sr_go 4 rfl ?_
    refine sr_join (m := 9) (C := fun (x : Bool) w1 => x = ((decide (y54 ≤ now_2)) && (decide ((IntKind.i64.wrap (now_2 - y54)) < ok_0.window))) ∧ w28 = w1) (l' := fun x => [(0, pT gk_0 0), (2, .int .i64 now_2), (7, .int .i64 i_7), (8, .int .i64 n_8), (9, .int .i64 j_9), (59, .bool x)]) ?_ ?_
    ·rintro _ _ ⟨rfl, rfl⟩
     refine sr_fin [0, 2, 7, 8, 9, 59] rfl ?_
     refine ke_cond rfl (fun hc69 => ?_) (fun hc69 => ?_)
     ·replace hS := iT hS hc69
      refine ke_region <| sr_go 3 rfl <| sr_fin [0, 2, 7, 8, 9] rfl ?_
      have hK := ref22_Locks_Failures_B2_ok hg hbd hz _ hr0 hS hb ⟨_, hB22, h21⟩
      exact ke_wk hK
     ·replace hS := iF hS hc69
      refine ke_skip ?_
      have hK := ref22_Locks_Failures_B2_ok hg hbd hz _ hr0 hS hb ⟨_, hB22, h21⟩
      exact ke_wk hK
    ·intro K62
     rcases Bool.eq_false_or_eq_true (decide (y54 ≤ now_2)) with hg61 | hg61
     all_goals try have hj64 : Tr ρ29 w28 (fun _ => false) ρ29 w28 := Tr.refl hb.bd
     ·refine sr_setb 50 rfl hg61 <| sr_go 5 rfl ?_
      refine sr_eg rfl (ev_fieldAddr (i := 2) Tryz.underlying140 rfl Tryz.info3 rfl rfl) ?_
      refine sr_eg rfl (ev_load Tryz.isAgg3 rfl (hB22.cell rfl)) ?_
      refine sr_go 2 rfl ?_
      exact sr_wk (K62 (decide ((IntKind.i64.wrap (now_2 - y54)) < ok_0.window)) _ ⟨by first | (rw [hg61]; rfl) | rfl, rfl⟩)
     ·refine sr_setb 50 rfl hg61 <| sr_go 9 rfl ?_
      exact sr_wk (K62 false _ ⟨by first | (rw [hg61]; rfl) | rfl, rfl⟩)
   ·replace hS := iF hS hc42
    refine ke_exit (k' := _) rfl ?_
    refine ke_seq <| ke_region <| sr_go 2 rfl <| sr_fin [6] rfl ?_
    cases hS
    exact ke_ret1 Tryz.func106 rfl rfl ⟨_, rfl, rfl, (hb.below (flat1_le _))⟩
  ·intro K24
   clear hS
   have hj26 : Tr ρ w (fun _ => false) ρ w := (Tr.refl hb.bd).weak (fun _ _ => rfl) rfl rfl
   rcases Bool.eq_false_or_eq_true (decide (i_7 ≥ 0)) with hg23 | hg23
   ·have hS := iT hz27 hg23
    refine sr_setb 21 rfl hg23 <| sr_go 3 rfl ?_
    refine sr_eg rfl (ev_fieldAddr (i := 4) Tryz.underlying140 rfl Tryz.info138 rfl rfl) ?_
    refine sr_eg rfl (ev_load Tryz.isAgg138 rfl (hB22.cell rfl)) ?_
    refine sr_go 1 rfl ?_
    obtain ⟨y31, hy32, hS⟩ := bS hS
    obtain ⟨b33, o34, cs36, hq37, he35, hg40, ho41⟩ := h21.elemQ (P := Tryz.prog) Tryz.underlying138 Tryz.info142 rfl hy32
    obtain ⟨v38, hcshe35, h39⟩ := he35.rd
    obtain rfl : cs36 = [str y31.user, v38, .int .i64 y31.until_] := hcshe35
    refine sr_eg rfl (hq37 w rfl rfl) ?_
    refine sr_eg rfl (ev_fieldAddr (i := 1) Tryz.underlying142 rfl Tryz.info135 rfl rfl) ?_
    refine sr_eg rfl (ev_load Tryz.isAgg135 rfl (he35.cell 1 _ rfl)) ?_
    refine sr_eg rfl (ev_sllenW Tryz.underlying135 rfl h39.asSl) ?_
    refine sr_go 2 rfl ?_
    exact sr_wk (K24 (decide (j_9 < (y31.times.length : Int))) _ ⟨(Option.some.inj hS).symm, _, hj26⟩)
   ·have hS := iF hz27 hg23
    refine sr_setb 21 rfl hg23 <| sr_go 12 rfl ?_
    exact sr_wk (K24 false _ ⟨(Option.some.inj hS).symm, _, hj26⟩)
theorem ref22_Locks_Failures_ok (w0 : World) (hg : Gs w0) {ρA : Tags} (hbd : ∀ b, ρA b ≠ 0 → b < w0.heap.size) (hz : Gz ρA) {τ0 : Nat → Nat} (hτ0 : ∀ p, 1 ≤ τ0 p) {k_0 : ref22_Locks} {user_1 : Str} {now_2 : Int} {gk_0 : Nat} {r : Int} (ho0 : ref22_Locks.O τ0 ρA w0 gk_0 k_0) (hS : ref22_Locks_Failures k_0 user_1 now_2 = some r) :
  Calls Tryz.prog 106 #[pT gk_0 0, str user_1, .int .i64 now_2] w0 (Ret (fun v w' => v = .int .i64 r ∧ Below w0.heap.size w0 w')) := by
 unfold ref22_Locks_Failures at hS
 have hb := flat1_fr (ρ := ρA) (w := w0) hbd
 have hz := hz.flat1
 obtain ⟨v1, hB3, h2⟩ := ho0
 replace hB3 := hB3.mv (flat1_mv (hτ0 0))
 replace h2 := h2.mv (flat1_mv (hτ0 1)) (by decide)
 refine ck Tryz.func106 [0, 1, 2] rfl rfl ?_
 refine ke_seq <| ke_region <| sr_go 1 rfl <| sr_fin [0, 1, 2] rfl <| ke_seq <| ke_seq <| ke_region <| sr_go 1 rfl ?_
 obtain ⟨y4, hy5, hS⟩ := bS hS
 refine sr_cb Tryz.call104 (ref22_Locks_Made_ok _ (hg.fr hz hb) hb.bd (hz.fr hg hb) (τ0 := (fun _ => 1)) (fun _ => by decide) (by exact ⟨_, hB3, h2⟩) hy5) hb.bd ?_
 intro w6 t8
 replace hB3 := hB3.m t8
 replace h2 := h2.m t8
 replace hb := hb.trans t8
 refine sr_go 1 rfl <| sr_fin [0, 1, 2, 13] rfl ?_
 refine ke_cond rfl (fun hc9 => ?_) (fun hc9 => ?_)
 ·replace hS := iT hS hc9
  refine ke_seq <| ke_region <| sr_go 1 rfl <| sr_fin [6] rfl ?_
  cases hS
  exact ke_ret1 Tryz.func106 rfl rfl ⟨_, rfl, rfl, (hb.below (flat1_le _))⟩
 ·replace hS := iF hS hc9
  refine ke_skip <| ke_seq <| ke_region <| sr_go 1 rfl ?_
  obtain ⟨y10, hy11, hS⟩ := bS hS
  refine sr_cb Tryz.call98 (ref22_Limited_ok _ (hg.fr hz hb) hy11) hb.bd ?_
  intro w12 t14
  replace hB3 := hB3.m t14
  replace h2 := h2.m t14
  replace hb := hb.trans t14
  refine sr_go 1 rfl <| sr_fin [0, 1, 2] rfl <| ke_seq <| ke_region <| sr_go 2 rfl ?_
  obtain ⟨y15, hy16, hS⟩ := bS hS
  refine sr_cb Tryz.call105 (ref22_Locks_find_ok _ (hg.fr hz hb) hb.bd (hz.fr hg hb) (τ0 := (fun _ => 1)) (fun _ => by decide) (by exact ⟨_, hB3, h2⟩) hy16) hb.bd ?_
  intro w17 t19
  replace hB3 := hB3.m t19
  replace h2 := h2.m t19
  replace hb := hb.trans t19
  refine sr_go 1 rfl <| sr_fin [0, 2, 7] rfl <| ke_seq <| ke_region <| sr_go 1 rfl <| sr_fin [0, 2, 7, 8] rfl <| ke_seq <| ke_seq <| ke_region <| sr_go 1 rfl <| sr_fin [0, 2, 7, 8, 9] rfl ?_
  refine ke_block ?_
  have hK := ref22_Locks_Failures_L1_ok hg hbd hz _ hS hb ⟨_, hB3, h2⟩
  exact ke_wk (ke_loop hK)
theorem ref04_Add_ok (w0 : World) (hg : Gs w0) {t_0 : Int} {d_1 : Int} {r : Int} (hS : ref04_Add t_0 d_1 = some r) :
  Calls Tryz.prog 107 #[.int .i64 t_0, .int .i64 d_1] w0 (Ret (fun v w' => v = .int .i64 r ∧ Below w0.heap.size w0 w')) := by
 unfold ref04_Add at hS
 have hb := Below.refl w0.heap.size w0
 refine ck Tryz.func107 [0, 1] rfl rfl ?_
 refine ke_seq <| ke_region <| sr_go 1 rfl <| sr_fin [0, 1] rfl <| ke_seq <| ke_region <| sr_go 1 rfl ?_
 obtain ⟨y1, hy2, hS⟩ := bS hS
 refine sr_cl Tryz.call67 (ref04_Limit_ok _ (hg.below hb) hy2) ?_
 rintro _ w3 ⟨rfl, hbw4⟩
 replace hb := hb.trans (hbw4.mono hb.size)
 refine sr_go 1 rfl ?_
 obtain ⟨y5, hy6, hS⟩ := bS hS
 refine sr_cl Tryz.call67 (ref04_Limit_ok _ (hg.below hb) hy6) ?_
 rintro _ w7 ⟨rfl, hbw8⟩
 replace hb := hb.trans (hbw8.mono hb.size)
 refine sr_go 1 rfl ?_
 obtain ⟨y9, hy10, hS⟩ := bS hS
 refine sr_cl Tryz.call67 (ref04_Limit_ok _ (hg.below hb) hy10) ?_
 rintro _ w11 ⟨rfl, hbw12⟩
 replace hb := hb.trans (hbw12.mono hb.size)
 refine sr_go 1 rfl <| sr_fin [4] rfl ?_
 cases hS
 exact ke_ret1 Tryz.func107 rfl rfl ⟨_, rfl, rfl, hb⟩
theorem ref22_Locks_Fail_B1_ok {w0 : World} (hg : Gs w0) {ρA : Tags} (hbd : ∀ b, ρA b ≠ 0 → b < w0.heap.size) {o : Nat} (ho2 : 2 ≤ o) {gk_0 : Nat} (hz : Gz (enter ρA o 2)) {r : ref22_Locks} {ok_0 : ref22_Locks} {user_1 : Str} {now_2 : Int} {i_6 : Int} (hS : ref22_Locks_Fail_B1 ok_0 user_1 now_2 i_6 = some r) {ρ : Tags} {w : World} (hb : Fr (enter ρA o 2) w0 ρ w) (hok_0 : ref22_Locks.O (fun p => 100 + p) ρ w gk_0 ok_0) :
  KE Tryz.prog 70 (Ret (fun v w' => ∃ ρ', v = .tuple #[] ∧ ref22_Locks.O (fun p => o + p) ρ' w' gk_0 r ∧ Tr ρA w0 (rng o 2) ρ' w')) 117 [.code (sub (bodyOf Tryz.f70) [2, 2, 2, 2])] [(0, pT gk_0 0), (1, str user_1), (2, .int .i64 now_2), (6, .int .i64 i_6)] w := by
 unfold ref22_Locks_Fail_B1 at hS
 obtain ⟨v48, hB50, h49⟩ := hok_0
 refine ke_seq <| ke_region <| sr_go 3 rfl ?_
 refine sr_fa 4 Tryz.underlying140 rfl Tryz.info138 ?_
 refine sr_ld v48 Tryz.isAgg138 rfl (hB50.cell rfl) ?_
 refine sr_go 1 rfl ?_
 obtain ⟨y51, hy52, hS⟩ := bS hS
 obtain ⟨b53, o54, cs56, hq57, he55, hg60, ho61⟩ := h49.elemQ (P := Tryz.prog) Tryz.underlying138 Tryz.info142 rfl hy52
 obtain ⟨v58, hcshe55, h59⟩ := he55.rd
 obtain rfl : cs56 = [str y51.user, v58, .int .i64 y51.until_] := hcshe55
 refine sr_e (hq57 w rfl rfl) ?_
 refine sr_fa (o54 + 2) Tryz.underlying142 rfl Tryz.info3 ?_
 refine sr_ld (.int .i64 y51.until_) Tryz.isAgg3 rfl (he55.cell 2 _ rfl) ?_
 refine sr_go 2 rfl <| sr_fin [0, 1, 2, 6, 7] rfl <| ke_seq <| ke_region ?_
 refine sr_litOwnT (i := 59) (c := (intC .i64)) (ρ := ρ) (E := 3) (xs := []) (vs := #[]) (cs := #[]) (css := []) rfl (fun _ => by kernel_rfl) rfl trivial rfl (by decide) (by decide) hb.bd (by decide) ?_
 intro v62 ρ66 w64 h63 t65
 replace hB50 := hB50.m t65
 replace h49 := h49.m t65
 replace hb := hb.trans t65
 refine sr_go 2 rfl ?_
 refine sr_fa 4 Tryz.underlying140 rfl Tryz.info138 ?_
 refine sr_ld v48 Tryz.isAgg138 rfl (hB50.cell rfl) ?_
 refine sr_go 1 rfl ?_
 obtain ⟨y67, hy68, hS⟩ := bS hS
 obtain ⟨b69, o70, cs72, hq73, he71, hg76, ho77⟩ := h49.elemQ (P := Tryz.prog) Tryz.underlying138 Tryz.info142 rfl hy68
 obtain ⟨v74, hcshe71, h75⟩ := he71.rd
 obtain rfl : cs72 = [str y67.user, v74, .int .i64 y67.until_] := hcshe71
 refine sr_e (hq73 w64 rfl rfl) ?_
 refine sr_fa (o70 + 1) Tryz.underlying142 rfl Tryz.info135 ?_
 refine sr_ld v74 Tryz.isAgg135 rfl (he71.cell 1 _ rfl) ?_
 obtain ⟨hk78, hS⟩ := chk_some hS
 refine sr_appendT (i := 59) (c := (intC .i64)) (ρ := ρ66) (E := 3) (xs := ([] : List Int)) (ys := y67.times) h63 ((SlT.of_sl (i := 0) h75)).x Tryz.underlying135 Tryz.info3 rfl rfl rfl (Nat.succ_pos _) (by decide) (by decide) hb.bd hk78 rfl rfl (by decide) ?_
 intro v79 ρ81 w82 h80 t83
 replace hb := hb.trans t83
 refine sr_go 1 rfl ?_
 refine sr_litT (c := (intC .i64)) (ρ := ρ81) (E := 3) (xs := [now_2]) (vs := #[(0, .int .i64 now_2)]) (cs := #[.int .i64 now_2]) (css := [[.int .i64 now_2]]) rfl (fun _ => by kernel_rfl) rfl ⟨rfl, trivial⟩ rfl (by decide) hb.bd (by decide) ?_
 intro v84 w86 h85 hbw88
 have t87 := Tr.of_below hbw88 hb.bd
 replace h80 := h80.m t87
 replace hB50 := (hB50.m t83).m t87
 replace h49 := (h49.m t83).m t87
 replace hb := hb.trans t87
 obtain ⟨hk89, hS⟩ := chk_some hS
 refine sr_appendT (i := 59) (c := (intC .i64)) (ρ := ρ81) (E := 3) (xs := ([] : List Int) ++ y67.times) (ys := ([now_2] : List Int)) h80 ((SlT.of_sl (i := 0) h85)).x Tryz.underlying135 Tryz.info3 rfl rfl rfl (Nat.succ_pos _) (by decide) (by decide) hb.bd hk89 rfl rfl (by decide) ?_
 intro v90 ρ92 w93 h91 t94
 replace hb := hb.trans t94
 refine sr_go 1 rfl <| sr_fin [0, 1, 2, 6, 7, 8] rfl <| ke_seq ?_
 refine ke_region_j (ρ := ρ92) (fun t => ([59, 101] : List Nat).contains t) 14 Tryz.mixed (fun w96 hw95 => ?_)
 have t97 := Tr.of_below hw95 hb.bd
 replace h91 := h91.m t97
 replace hB50 := (hB50.m t94).m t97
 replace h49 := (h49.m t94).m t97
 replace hb := hb.trans t97
 refine dj_v 0 hb.bd rfl rfl ?_
 refine dj_v 1 hb.bd rfl rfl ?_
 refine dj_h 2 (pT gk_0 4) hb.bd rfl (fun w1 ρ1 hw1 => ev_fieldAddr (i := 4) Tryz.underlying140 rfl Tryz.info138 rfl rfl) ?_
 refine dj_h 3 v48 hb.bd rfl (fun w1 ρ1 hw1 => ev_load Tryz.isAgg138 rfl ((hB50.mv (hw1.mv (i := 100) rfl)).cell rfl)) ?_
 refine dj_v 4 hb.bd rfl rfl ?_
 refine dj_v 5 hb.bd rfl rfl ?_
 refine dj_v 6 hb.bd rfl rfl ?_
 refine dj_h 7 (.int .i64 (((([] : List Int) ++ y67.times) ++ ([now_2] : List Int)).length : Int)) hb.bd rfl (fun w1 ρ1 hw1 => ev_sllenW Tryz.underlying135 rfl h91.asSl) ?_
 refine dj_v 8 hb.bd rfl rfl ?_
 refine dj_h 9 (.int .i64 (gmax 0 (IntKind.i64.wrap ((((([] : List Int) ++ y67.times) ++ ([now_2] : List Int)).length : Int) - 256)))) hb.bd rfl (fun w1 ρ1 hw1 => ev_max rfl rfl) ?_
 obtain ⟨hk139, hS⟩ := chk_some hS
 obtain ⟨v140, h141, hq142⟩ := (h91.sl).cutT_l (P := Tryz.prog) Tryz.underlying135 Tryz.info3 rfl hk139
 refine dj_h 10 v140 hb.bd rfl (fun w1 ρ1 hw1 => hq142 w1 rfl rfl) ?_
 obtain ⟨y143, hy144, hS⟩ := bS hS
 obtain ⟨b145, o146, cs148, hq149, he147, hg152, ho153⟩ := h49.elemQ (P := Tryz.prog) Tryz.underlying138 Tryz.info142 rfl hy144
 obtain ⟨v150, hcshe147, h151⟩ := he147.rd
 obtain rfl : cs148 = [str y143.user, v150, .int .i64 y143.until_] := hcshe147
 refine dj_h 11 (pT b145 o146) hb.bd rfl (fun w1 ρ1 hw1 => hq149 w1 rfl rfl) ?_
 refine dj_h 12 (pT b145 (o146 + 1)) hb.bd rfl (fun w1 ρ1 hw1 => ev_fieldAddr (i := 1) Tryz.underlying142 rfl Tryz.info135 rfl rfl) ?_
 refine dj_E 13 (by kernel_rfl) rfl ?_
 have jt154 : Tr ρ92 w96 (fun t => ([59, 101] : List Nat).contains t) ρ92 w96 := (Tr.refl hb.bd).weak (fun _ _ => rfl) rfl rfl
 have t155 := frz_tr (ρ := ρ92) (w := w96) (i := 59) (by decide) hb.bd
 have h156 : SlR (intC .i64) (Wb (frz ρ92 59)) w96 v140 (cut ((([] : List Int) ++ y67.times) ++ ([now_2] : List Int)) (gmax 0 (IntKind.i64.wrap ((((([] : List Int) ++ y67.times) ++ ([now_2] : List Int)).length : Int) - 256))) (((([] : List Int) ++ y67.times) ++ ([now_2] : List Int)).length)) := (SlT.mv h141 (frz_mv (ρ := ρ92) (w := w96) (i := 59))).sl
 replace he147 := he147.mv (t155.mv (i := 101) rfl) (Nat.succ_pos _)
 replace h49 := h49.m t155
 replace hb := hb.trans t155
 replace jt154 := jt154.tw t155
 refine sr_storeEl (z' := (ref22_record.mk y143.user (cut ((([] : List Int) ++ y67.times) ++ ([now_2] : List Int)) (gmax 0 (IntKind.i64.wrap ((((([] : List Int) ++ y67.times) ++ ([now_2] : List Int)).length : Int) - 256))) (((([] : List Int) ++ y67.times) ++ ([now_2] : List Int)).length)) y143.until_)) (u := v140) (vs := [v140]) (cs' := [str y143.user, v140, .int .i64 y143.until_]) (off := 1) h49 hg152 ho153 hy144 he147 (by decide) hb.bd rfl rfl (one_cells (SlR.oneCell h156)) Tryz.sizeOf135 (by first | rfl | (simp only [List.all_cons, List.all_nil, SlR.oneCell h156]; done) | (simp only [List.all_cons, List.all_nil, SlR.oneCell h156]; rfl)) rfl rfl ⟨_, rfl, h156⟩ ?_
 intro w157 h491 t158
 replace hB50 := (hB50.m t155).m t158
 replace hb := hb.trans t158
 replace jt154 := jt154.tw t158
 replace h49 := h491
 clear h491
 refine dj_nx [0, 1, 2, 6, 7] rfl jt154 ?_
 refine dj_done rfl (by kernel_rfl) ?_
 refine ke_fin [0, 1, 2, 6, 7] rfl <| ke_seq ?_
 refine ke_region_q Tryz.mixed (by kernel_rfl) ?_
 refine sq_go 2 rfl ?_
 obtain ⟨z163, hz165, hS⟩ := bS hS
 refine sq_join (m := 10) (C := fun (x : Bool) => z163 = x) (l' := fun x => [(0, pT gk_0 0), (2, .int .i64 now_2), (6, .int .i64 i_6), (94, .bool x)]) ?_ ?_
 ·rintro _ rfl
  refine sq_fin [0, 2, 6, 94] rfl (fun w160 hw159 => ?_)
  have t173 := Tr.of_below hw159 hb.bd
  replace hB50 := hB50.m t173
  replace h49 := h49.m t173
  replace hb := hb.trans t173
  refine ke_cond rfl (fun hc174 => ?_) (fun hc174 => ?_)
  ·replace hS := iT hS hc174
   refine ke_region_j (ρ := (frz ρ92 59)) (fun t => ([101] : List Nat).contains t) 23 Tryz.mixed (fun w176 hw175 => ?_)
   have t177 := Tr.of_below hw175 hb.bd
   replace hB50 := hB50.m t177
   replace h49 := h49.m t177
   replace hb := hb.trans t177
   refine dj_v 0 hb.bd rfl rfl ?_
   refine dj_v 1 hb.bd rfl rfl ?_
   refine dj_h 2 (pT gk_0 4) hb.bd rfl (fun w1 ρ1 hw1 => ev_fieldAddr (i := 4) Tryz.underlying140 rfl Tryz.info138 rfl rfl) ?_
   refine dj_h 3 v48 hb.bd rfl (fun w1 ρ1 hw1 => ev_load Tryz.isAgg138 rfl ((hB50.mv (hw1.mv (i := 100) rfl)).cell rfl)) ?_
   refine dj_v 4 hb.bd rfl rfl ?_
   refine dj_v 5 hb.bd rfl rfl ?_
   refine dj_v 6 hb.bd rfl rfl ?_
   refine dj_h 7 (pT gk_0 4) hb.bd rfl (fun w1 ρ1 hw1 => ev_fieldAddr (i := 4) Tryz.underlying140 rfl Tryz.info138 rfl rfl) ?_
   refine dj_h 8 v48 hb.bd rfl (fun w1 ρ1 hw1 => ev_load Tryz.isAgg138 rfl ((hB50.mv (hw1.mv (i := 100) rfl)).cell rfl)) ?_
   refine dj_v 9 hb.bd rfl rfl ?_
   obtain ⟨y263, hy264, hS⟩ := bS hS
   obtain ⟨b265, o266, cs268, hq269, he267, hg272, ho273⟩ := h49.elemQ (P := Tryz.prog) Tryz.underlying138 Tryz.info142 rfl hy264
   obtain ⟨v270, hcshe267, h271⟩ := he267.rd
   obtain rfl : cs268 = [str y263.user, v270, .int .i64 y263.until_] := hcshe267
   refine dj_h 10 (pT b265 o266) hb.bd rfl (fun w1 ρ1 hw1 => hq269 w1 rfl rfl) ?_
   refine dj_h 11 (pT b265 (o266 + 2)) hb.bd rfl (fun w1 ρ1 hw1 => ev_fieldAddr (i := 2) Tryz.underlying142 rfl Tryz.info3 rfl rfl) ?_
   refine dj_v 13 hb.bd rfl rfl ?_
   refine dj_v 14 hb.bd rfl rfl ?_
   refine dj_v 15 hb.bd rfl rfl ?_
   refine dj_h 16 (pT gk_0 3) hb.bd rfl (fun w1 ρ1 hw1 => ev_fieldAddr (i := 3) Tryz.underlying140 rfl Tryz.info3 rfl rfl) ?_
   refine dj_h 17 (.int .i64 ok_0.lock) hb.bd rfl (fun w1 ρ1 hw1 => ev_load Tryz.isAgg3 rfl ((hB50.mv (hw1.mv (i := 100) rfl)).cell rfl)) ?_
   obtain ⟨y276, hy277, hS⟩ := bS hS
   obtain ⟨y281, hy282, hS⟩ := bS hS
   refine dj_all [12, 18] (by kernel_rfl) (fun i hi => ?_)
   simp only [List.mem_cons, List.not_mem_nil, or_false] at hi
   rcases hi with rfl | rfl
   ·refine ⟨_, rfl, ?_⟩
    have jt295 : Tr (frz ρ92 59) w176 (fun t => ([101] : List Nat).contains t) (frz ρ92 59) w176 := (Tr.refl hb.bd).weak (fun _ _ => rfl) rfl rfl
    refine sr_ld (.int .i64 y263.until_) Tryz.isAgg3 rfl (he267.cell 2 _ rfl) ?_
    refine dj_nx [98, 99, 107, 108, 112] rfl jt295 ?_
    refine dj_E 18 (by kernel_rfl) rfl ?_
    have jt296 : Tr (frz ρ92 59) w176 (fun t => ([101] : List Nat).contains t) (frz ρ92 59) w176 := (Tr.refl hb.bd).weak (fun _ _ => rfl) rfl rfl
    refine sr_cb Tryz.call107 (ref04_Add_ok _ (hg.fr hz hb) hy277) hb.bd ?_
    intro w299 t301
    replace h49 := h49.m t301
    replace hb := hb.trans t301
    replace jt296 := jt296.tw t301
    refine dj_nx [98, 99, 107, 113] rfl jt296 ?_
    refine dj_h 19 (.int .i64 (gmax y263.until_ y276)) hb.bd rfl (fun w1 ρ1 hw1 => ev_max rfl rfl) ?_
    obtain ⟨b302, o303, cs305, hq306, he304, hg309, ho310⟩ := h49.elemQ (P := Tryz.prog) Tryz.underlying138 Tryz.info142 rfl hy282
    obtain ⟨v307, hcshe304, h308⟩ := he304.rd
    obtain rfl : cs305 = [str y281.user, v307, .int .i64 y281.until_] := hcshe304
    refine dj_h 20 (pT b302 o303) hb.bd rfl (fun w1 ρ1 hw1 => hq306 w1 rfl rfl) ?_
    refine dj_h 21 (pT b302 (o303 + 2)) hb.bd rfl (fun w1 ρ1 hw1 => ev_fieldAddr (i := 2) Tryz.underlying142 rfl Tryz.info3 rfl rfl) ?_
    refine dj_E 22 (by kernel_rfl) rfl ?_
    have jt311 : Tr (frz ρ92 59) w299 (fun t => ([101] : List Nat).contains t) (frz ρ92 59) w299 := (Tr.refl hb.bd).weak (fun _ _ => rfl) rfl rfl
    refine sr_storeEl (z' := (ref22_record.mk y281.user y281.times (gmax y263.until_ y276))) (u := .int .i64 (gmax y263.until_ y276)) (vs := [.int .i64 (gmax y263.until_ y276)]) (cs' := [str y281.user, v307, .int .i64 (gmax y263.until_ y276)]) (off := 2) h49 hg309 ho310 hy282 he304 (by decide) hb.bd rfl rfl rfl Tryz.sizeOf3 rfl rfl rfl ⟨_, rfl, h308⟩ ?_
    intro w312 h491 t313
    replace hB50 := (hB50.m t301).m t313
    replace hb := hb.trans t313
    replace jt311 := jt311.tw t313
    replace h49 := h491
    clear h491
    refine dj_nx [] rfl jt311 ?_
    refine dj_done rfl (by kernel_rfl) ?_
    refine ke_fin [] rfl ?_
    cases hS
    exact ke_end0 Tryz.func70 rfl ⟨_, rfl, _, rfl, ⟨_, (hB50.lv 0 hb), (h49.lv 1 ho2 hb)⟩, (leave_tr ho2 hb)⟩
   ·refine ⟨_, rfl, ?_⟩
    have jt314 : Tr (frz ρ92 59) w176 (fun t => ([101] : List Nat).contains t) (frz ρ92 59) w176 := (Tr.refl hb.bd).weak (fun _ _ => rfl) rfl rfl
    refine sr_cb Tryz.call107 (ref04_Add_ok _ (hg.fr hz hb) hy277) hb.bd ?_
    intro w317 t319
    replace h49 := h49.m t319
    replace he267 := he267.mv (t319.mv (i := 101) rfl) (Nat.succ_pos _)
    replace hb := hb.trans t319
    replace jt314 := jt314.tw t319
    refine dj_nx [98, 99, 106, 113] rfl jt314 ?_
    refine dj_E 12 (by kernel_rfl) rfl ?_
    have jt320 : Tr (frz ρ92 59) w317 (fun t => ([101] : List Nat).contains t) (frz ρ92 59) w317 := (Tr.refl hb.bd).weak (fun _ _ => rfl) rfl rfl
    refine sr_ld (.int .i64 y263.until_) Tryz.isAgg3 rfl (he267.cell 2 _ rfl) ?_
    refine dj_nx [98, 99, 107, 113] rfl jt320 ?_
    refine dj_h 19 (.int .i64 (gmax y263.until_ y276)) hb.bd rfl (fun w1 ρ1 hw1 => ev_max rfl rfl) ?_
    obtain ⟨b321, o322, cs324, hq325, he323, hg328, ho329⟩ := h49.elemQ (P := Tryz.prog) Tryz.underlying138 Tryz.info142 rfl hy282
    obtain ⟨v326, hcshe323, h327⟩ := he323.rd
    obtain rfl : cs324 = [str y281.user, v326, .int .i64 y281.until_] := hcshe323
    refine dj_h 20 (pT b321 o322) hb.bd rfl (fun w1 ρ1 hw1 => hq325 w1 rfl rfl) ?_
    refine dj_h 21 (pT b321 (o322 + 2)) hb.bd rfl (fun w1 ρ1 hw1 => ev_fieldAddr (i := 2) Tryz.underlying142 rfl Tryz.info3 rfl rfl) ?_
    refine dj_E 22 (by kernel_rfl) rfl ?_
    have jt330 : Tr (frz ρ92 59) w317 (fun t => ([101] : List Nat).contains t) (frz ρ92 59) w317 := (Tr.refl hb.bd).weak (fun _ _ => rfl) rfl rfl
    refine sr_storeEl (z' := (ref22_record.mk y281.user y281.times (gmax y263.until_ y276))) (u := .int .i64 (gmax y263.until_ y276)) (vs := [.int .i64 (gmax y263.until_ y276)]) (cs' := [str y281.user, v326, .int .i64 (gmax y263.until_ y276)]) (off := 2) h49 hg328 ho329 hy282 he323 (by decide) hb.bd rfl rfl rfl Tryz.sizeOf3 rfl rfl rfl ⟨_, rfl, h327⟩ ?_
    intro w331 h491 t332
    replace hB50 := (hB50.m t319).m t332
    replace hb := hb.trans t332
    replace jt330 := jt330.tw t332
    replace h49 := h491
    clear h491
    refine dj_nx [] rfl jt330 ?_
    refine dj_done rfl (by kernel_rfl) ?_
    refine ke_fin [] rfl ?_
    cases hS
    exact ke_end0 Tryz.func70 rfl ⟨_, rfl, _, rfl, ⟨_, (hB50.lv 0 hb), (h49.lv 1 ho2 hb)⟩, (leave_tr ho2 hb)⟩
  ·replace hS := iF hS hc174
   refine ke_skip ?_
   cases hS
   exact ke_end0 Tryz.func70 rfl ⟨_, rfl, _, rfl, ⟨_, (hB50.lv 0 hb), (h49.lv 1 ho2 hb)⟩, (leave_tr ho2 hb)⟩
 ·intro K162
  clear hS
  rcases Bool.eq_false_or_eq_true (decide (now_2 < y51.until_)) with hg161 | hg161
  ·have hS := iT hz165 hg161
   refine sq_setb 84 rfl hg161 <| sq_go 10 rfl ?_
   exact sq_wk (K162 true (Option.some.inj hS).symm)
  ·have hS := iF hz165 hg161
   refine sq_setb 84 rfl hg161 <| sq_go 3 rfl ?_
   obtain ⟨y168, hy169, hS⟩ := bS hS
   refine sq_callg (b := false) (e := 84) rfl rfl rfl (v := .int .i64 y168) (vs := [pT gk_0 0, str user_1, .int .i64 now_2]) rfl Tryz.call106 rfl (fun w1 hw1 => (ref22_Locks_Failures_ok _ ((hg.fr hz hb).below hw1) (ρA := (frz ρ92 59)) (fun b h => Nat.lt_of_lt_of_le (hb.bd b h) hw1.size) (hz.fr hg hb) (τ0 := (fun p => 100 + p)) (fun p => Nat.le_add_right_of_le (by decide)) (⟨_, (hB50.mv (Mv.of_below (i := 100) (ρ := (frz ρ92 59)) hw1)), (h49.mv (Mv.of_below (i := 101) (ρ := (frz ρ92 59)) hw1) (by decide))⟩ : ref22_Locks.O (fun p => 100 + p) (frz ρ92 59) w1 gk_0 (ref22_Locks.mk ok_0.made ok_0.most ok_0.window ok_0.lock (setAt ok_0.records i_6 (ref22_record.mk y143.user (cut ((([] : List Int) ++ y67.times) ++ ([now_2] : List Int)) (gmax 0 (IntKind.i64.wrap ((((([] : List Int) ++ y67.times) ++ ([now_2] : List Int)).length : Int) - 256))) (((([] : List Int) ++ y67.times) ++ ([now_2] : List Int)).length)) y143.until_)))) hy169)) (by decide) ?_
   refine sq_go 2 rfl ?_
   refine sq_evg (b := false) (e := 84) rfl rfl rfl (v := pT gk_0 1) (fun w1 hw1 => ev_fieldAddr (i := 1) Tryz.underlying140 rfl Tryz.info3 rfl rfl) (by decide) ?_
   refine sq_evg (b := false) (e := 84) rfl rfl rfl (v := .int .i64 ok_0.most) (fun w1 hw1 => ev_load Tryz.isAgg3 rfl ((hB50.mv (Mv.of_below (i := 100) (ρ := (frz ρ92 59)) hw1)).cell rfl)) (by decide) ?_
   refine sq_go 2 rfl ?_
   exact sq_wk (K162 (decide (y168 ≥ ok_0.most)) (Option.some.inj hS).symm)
theorem ref22_Locks_Fail_ok (w0 : World) (hg : Gs w0) {ρA : Tags} (hbd : ∀ b, ρA b ≠ 0 → b < w0.heap.size) (hz : Gz ρA) {o : Nat} (ho2 : 2 ≤ o) {k_0 : ref22_Locks} {user_1 : Str} {now_2 : Int} {gk_0 : Nat} {r : ref22_Locks} (ho0 : ref22_Locks.O (fun p => o + p) ρA w0 gk_0 k_0) (hS : ref22_Locks_Fail k_0 user_1 now_2 = some r) :
  Calls Tryz.prog 70 #[pT gk_0 0, str user_1, .int .i64 now_2] w0 (Ret (fun v w' => ∃ ρ', v = .tuple #[] ∧ ref22_Locks.O (fun p => o + p) ρ' w' gk_0 r ∧ Tr ρA w0 (rng o 2) ρ' w')) := by
 unfold ref22_Locks_Fail at hS
 have hb := enter_fr (ρ := ρA) (w := w0) (n := 2) ho2 hbd
 have hz := hz.enter (n := 2) ho2
 obtain ⟨v1, hB3, h2⟩ := ho0
 replace hB3 := hB3.mv (enter_mv (p := 0) (n := 2) (by decide) ho2)
 replace h2 := h2.mv (enter_mv (p := 1) (n := 2) (by decide) ho2) (by decide)
 refine ck Tryz.func70 [0, 1, 2] rfl rfl ?_
 refine ke_seq <| ke_seq <| ke_region <| sr_go 1 rfl ?_
 obtain ⟨y4, hy5, hS⟩ := bS hS
 refine sr_cb Tryz.call104 (ref22_Locks_Made_ok _ (hg.fr hz hb) hb.bd (hz.fr hg hb) (τ0 := (fun p => 100 + p)) (fun p => Nat.le_add_right_of_le (by decide)) (by exact ⟨_, hB3, h2⟩) hy5) hb.bd ?_
 intro w6 t8
 replace hB3 := hB3.m t8
 replace h2 := h2.m t8
 replace hb := hb.trans t8
 refine sr_go 2 rfl ?_
 obtain ⟨z11, hz13, hS⟩ := bS hS
 refine sr_join (m := 4) (C := fun (z : Bool) w1 => z11 = z ∧ ∃ ρ1, Tr (enter ρA o 2) w6 (fun _ => false) ρ1 w1) (l' := fun z => [(0, pT gk_0 0), (1, str user_1), (2, .int .i64 now_2), (16, .bool z)]) ?_ ?_
 ·rintro _ w14 ⟨rfl, ρ15, hj12⟩
  replace hB3 := hB3.m hj12
  replace h2 := h2.m hj12
  replace hb := hb.trans hj12
  refine sr_fin [0, 1, 2, 16] rfl ?_
  refine ke_cond rfl (fun hc22 => ?_) (fun hc22 => ?_)
  ·replace hS := iT hS hc22
   cases hS
   exact ke_ret0 Tryz.func70 rfl ⟨_, rfl, _, rfl, ⟨_, (hB3.lv 0 hb), (h2.lv 1 ho2 hb)⟩, (leave_tr ho2 hb)⟩
  ·replace hS := iF hS hc22
   refine ke_skip <| ke_seq <| ke_region <| sr_go 1 rfl ?_
   obtain ⟨y23, hy24, hS⟩ := bS hS
   refine sr_cb Tryz.call98 (ref22_Limited_ok _ (hg.fr hz hb) hy24) hb.bd ?_
   intro w25 t27
   replace hB3 := hB3.m t27
   replace h2 := h2.m t27
   replace hb := hb.trans t27
   refine sr_go 1 rfl <| sr_fin [0, 1, 2] rfl <| ke_seq <| ke_region <| sr_go 2 rfl ?_
   obtain ⟨y28, hy29, hS⟩ := bS hS
   refine sr_cb Tryz.call105 (ref22_Locks_find_ok _ (hg.fr hz hb) hb.bd (hz.fr hg hb) (τ0 := (fun p => 100 + p)) (fun p => Nat.le_add_right_of_le (by decide)) (by exact ⟨_, hB3, h2⟩) hy29) hb.bd ?_
   intro w30 t32
   replace hB3 := hB3.m t32
   replace h2 := h2.m t32
   replace hb := hb.trans t32
   refine sr_go 1 rfl <| sr_fin [0, 1, 2, 6] rfl <| ke_seq <| ke_seq <| ke_region <| sr_go 2 rfl <| sr_fin [0, 1, 2, 6, 23] rfl ?_
   refine ke_cond rfl (fun hc33 => ?_) (fun hc33 => ?_)
   ·replace hS := iT hS hc33
    refine ke_seq <| ke_seq <| ke_region <| sr_go 2 rfl ?_
    refine sr_fa 4 Tryz.underlying140 rfl Tryz.info138 ?_
    refine sr_ld v1 Tryz.isAgg138 rfl (hB3.cell rfl) ?_
    refine sr_e (ev_sllenW Tryz.underlying138 rfl h2.asSl) ?_
    refine sr_go 1 rfl <| sr_fin [0, 1, 2, 29] rfl ?_
    refine ke_cond rfl (fun hc34 => ?_) (fun hc34 => ?_)
    ·replace hS := iT hS hc34
     cases hS
     exact ke_ret0 Tryz.func70 rfl ⟨_, rfl, _, rfl, ⟨_, (hB3.lv 0 hb), (h2.lv 1 ho2 hb)⟩, (leave_tr ho2 hb)⟩
    ·replace hS := iF hS hc34
     refine ke_skip <| ke_seq <| ke_region <| sr_go 3 rfl ?_
     refine sr_fa 4 Tryz.underlying140 rfl Tryz.info138 ?_
     refine sr_ld v1 Tryz.isAgg138 rfl (hB3.cell rfl) ?_
     refine sr_go 1 rfl ?_
     refine sr_e (v := .agg #[str user_1, (.slice none 0 0), .int .i64 0]) (ev_build (vs := #[(0, str user_1)]) rfl (fun _ => by kernel_rfl)) ?_
     refine sr_litT (c := ref22_record.c) (ρ := ρ15) (E := 142) (xs := [(ref22_record.mk user_1 ([] : List Int) 0)]) (vs := #[(0, .agg #[str user_1, (.slice none 0 0), .int .i64 0])]) (cs := #[str user_1, (.slice none 0 0), .int .i64 0]) (css := [[str user_1, (.slice none 0 0), .int .i64 0]]) rfl (fun _ => by kernel_rfl) rfl ⟨⟨_, rfl, SlR.nil⟩, trivial⟩ rfl (by decide) hb.bd (by decide) ?_
     intro v35 w37 h36 hbw39
     have t38 := Tr.of_below hbw39 hb.bd
     replace h2 := h2.m t38
     replace hb := hb.trans t38
     obtain ⟨hk40, hS⟩ := chk_some hS
     refine sr_appendT (i := 101) (c := ref22_record.c) (ρ := ρ15) (E := 142) (xs := k_0.records) (ys := ([(ref22_record.mk user_1 ([] : List Int) 0)] : List ref22_record)) h2 ((SlT.of_sl (i := 0) h36)).x Tryz.underlying138 Tryz.info142 rfl rfl rfl (Nat.succ_pos _) (by decide) (by decide) hb.bd hk40 rfl rfl (by decide) ?_
     intro v41 ρ43 w44 h42 t45
     replace hB3 := (hB3.m t38).m t45
     replace hb := hb.trans t45
     refine sr_go 1 rfl ?_
     refine sr_fa 4 Tryz.underlying140 rfl Tryz.info138 ?_
     refine sr_storeT (v := v41) (vs := [v41]) (cs' := #[.bool k_0.made, .int .i64 k_0.most, .int .i64 k_0.window, .int .i64 k_0.lock, v41]) hB3 (by decide) hb.bd rfl rfl (one_cells (OwnT.oneCell h42)) Tryz.sizeOf138 rfl (by first | rfl | (simp only [List.all_cons, List.all_nil, OwnT.oneCell h42]; done) | (simp only [List.all_cons, List.all_nil, OwnT.oneCell h42]; rfl)) rfl ?_
     intro w46 hB3 t47
     replace h42 := h42.m t47
     replace hb := hb.trans t47
     refine sr_fin [0, 1, 2] rfl <| ke_region <| sr_go 2 rfl ?_
     refine sr_fa 4 Tryz.underlying140 rfl Tryz.info138 ?_
     refine sr_ld v41 Tryz.isAgg138 rfl (hB3.cell rfl) ?_
     refine sr_e (ev_sllenW Tryz.underlying138 rfl h42.asSl) ?_
     refine sr_go 2 rfl <| sr_fin [0, 1, 2, 6] rfl ?_
     have hK := ref22_Locks_Fail_B1_ok hg hbd ho2 hz hS hb ⟨_, hB3, h42⟩
     exact ke_wk hK
   ·replace hS := iF hS hc33
    refine ke_skip ?_
    have hK := ref22_Locks_Fail_B1_ok hg hbd ho2 hz hS hb ⟨_, hB3, h2⟩
    exact ke_wk hK
 ·intro K10
  clear hS
  have hj12 : Tr (enter ρA o 2) w6 (fun _ => false) (enter ρA o 2) w6 := (Tr.refl hb.bd).weak (fun _ _ => rfl) rfl rfl
  rcases Bool.eq_false_or_eq_true (!y4) with hg9 | hg9
  ·have hS := iT hz13 hg9
   refine sr_setb 12 rfl hg9 <| sr_go 4 rfl ?_
   exact sr_wk (K10 true _ ⟨(Option.some.inj hS).symm, _, hj12⟩)
  ·have hS := iF hz13 hg9
   refine sr_setb 12 rfl hg9 <| sr_go 1 rfl ?_
   obtain ⟨y17, hy18, hS⟩ := bS hS
   refine sr_callg (b := false) (e := 12) rfl rfl rfl (vs := [str user_1]) rfl Tryz.call61 rfl (ref01_Word_ok _ (hg.fr hz hb) hy18) (by decide) ?_
   rintro _ w19 ⟨rfl, hbw20⟩
   have t21 := Tr.of_below hbw20 hb.bd
   replace hb := hb.trans t21
   replace hj12 := hj12.tw t21
   refine sr_go 2 rfl ?_
   exact sr_wk (K10 (!y17) _ ⟨(Option.some.inj hS).symm, _, hj12⟩)
theorem ref22_Locks_Fail__nil_ok (w0 : World) (hg : Gs w0) {ρA : Tags} (hbd : ∀ b, ρA b ≠ 0 → b < w0.heap.size) (hz : Gz ρA) {user_1 : Str} {now_2 : Int} {r : Unit} (hS : ref22_Locks_Fail__nil user_1 now_2 = some r) :
  Calls Tryz.prog 70 #[.pointer none, str user_1, .int .i64 now_2] w0 (Ret (fun v w' => v = .tuple #[] ∧ Below w0.heap.size w0 w')) := by
 unfold ref22_Locks_Fail__nil at hS
 have hb := flat1_fr (ρ := ρA) (w := w0) hbd
 have hz := hz.flat1
 refine ck Tryz.func70 [0, 1, 2] rfl rfl ?_
 refine ke_seq <| ke_seq <| ke_region <| sr_go 1 rfl ?_
 obtain ⟨y1, hy2, hS⟩ := bS hS
 obtain rfl : y1 = false := (Option.some.inj hy2).symm
 refine sr_cb Tryz.call104 (ref22_Locks_Made__nil_ok _ (hg.fr hz hb) hb.bd (hz.fr hg hb) hy2) hb.bd ?_
 intro w3 t5
 replace hb := hb.trans t5
 refine sr_e (ev_notc rfl rfl) ?_
 refine sr_go 1 rfl ?_
 refine sr_pass (e := 12) rfl rfl rfl (by decide) ?_
 refine sr_pass (e := 12) rfl rfl rfl (by decide) ?_
 refine sr_pass (e := 12) rfl rfl rfl (by decide) ?_
 refine sr_go 1 rfl <| sr_fin [0, 1, 2, 16] rfl ?_
 refine ke_cond rfl (fun _ => ?_) (fun h => by cases h)
 cases hS
 exact ke_ret0 Tryz.func70 rfl ⟨_, rfl, rfl, (hb.below (flat1_le _))⟩
theorem ref22_Locks_Clear_ok (w0 : World) (hg : Gs w0) {ρA : Tags} (hbd : ∀ b, ρA b ≠ 0 → b < w0.heap.size) (hz : Gz ρA) {o : Nat} (ho2 : 2 ≤ o) {k_0 : ref22_Locks} {user_1 : Str} {gk_0 : Nat} {r : ref22_Locks} (ho0 : ref22_Locks.O (fun p => o + p) ρA w0 gk_0 k_0) (hS : ref22_Locks_Clear k_0 user_1 = some r) :
  Calls Tryz.prog 71 #[pT gk_0 0, str user_1] w0 (Ret (fun v w' => ∃ ρ', v = .tuple #[] ∧ ref22_Locks.O (fun p => o + p) ρ' w' gk_0 r ∧ Tr ρA w0 (rng o 2) ρ' w')) := by
 unfold ref22_Locks_Clear at hS
 have hb := enter_fr (ρ := ρA) (w := w0) (n := 2) ho2 hbd
 have hz := hz.enter (n := 2) ho2
 obtain ⟨v1, hB3, h2⟩ := ho0
 replace hB3 := hB3.mv (enter_mv (p := 0) (n := 2) (by decide) ho2)
 replace h2 := h2.mv (enter_mv (p := 1) (n := 2) (by decide) ho2) (by decide)
 refine ck Tryz.func71 [0, 1] rfl rfl ?_
 refine ke_seq <| ke_seq <| ke_region <| sr_go 1 rfl ?_
 obtain ⟨y4, hy5, hS⟩ := bS hS
 refine sr_cb Tryz.call104 (ref22_Locks_Made_ok _ (hg.fr hz hb) hb.bd (hz.fr hg hb) (τ0 := (fun p => 100 + p)) (fun p => Nat.le_add_right_of_le (by decide)) (by exact ⟨_, hB3, h2⟩) hy5) hb.bd ?_
 intro w6 t8
 replace hB3 := hB3.m t8
 replace h2 := h2.m t8
 replace hb := hb.trans t8
 refine sr_go 1 rfl <| sr_fin [0, 1, 7] rfl ?_
 refine ke_cond rfl (fun hc9 => ?_) (fun hc9 => ?_)
 ·replace hS := iT hS hc9
  cases hS
  exact ke_ret0 Tryz.func71 rfl ⟨_, rfl, _, rfl, ⟨_, (hB3.lv 0 hb), (h2.lv 1 ho2 hb)⟩, (leave_tr ho2 hb)⟩
 ·replace hS := iF hS hc9
  refine ke_skip <| ke_seq <| ke_region <| sr_go 2 rfl ?_
  obtain ⟨y10, hy11, hS⟩ := bS hS
  refine sr_cb Tryz.call105 (ref22_Locks_find_ok _ (hg.fr hz hb) hb.bd (hz.fr hg hb) (τ0 := (fun p => 100 + p)) (fun p => Nat.le_add_right_of_le (by decide)) (by exact ⟨_, hB3, h2⟩) hy11) hb.bd ?_
  intro w12 t14
  replace hB3 := hB3.m t14
  replace h2 := h2.m t14
  replace hb := hb.trans t14
  refine sr_go 1 rfl <| sr_fin [0, 4] rfl <| ke_seq <| ke_region <| sr_go 2 rfl <| sr_fin [0, 4, 12] rfl ?_
  refine ke_cond rfl (fun hc15 => ?_) (fun hc15 => ?_)
  ·replace hS := iT hS hc15
   refine ke_region_j (ρ := (enter ρA o 2)) (fun t => ([16, 100] : List Nat).contains t) 20 Tryz.mixed (fun w17 hw16 => ?_)
   have t18 := Tr.of_below hw16 hb.bd
   replace hB3 := hB3.m t18
   replace h2 := h2.m t18
   replace hb := hb.trans t18
   refine dj_v 0 hb.bd rfl rfl ?_
   refine dj_v 2 hb.bd rfl rfl ?_
   refine dj_v 3 hb.bd rfl rfl ?_
   refine dj_h 4 (pT gk_0 4) hb.bd rfl (fun w1 ρ1 hw1 => ev_fieldAddr (i := 4) Tryz.underlying140 rfl Tryz.info138 rfl rfl) ?_
   refine dj_v 6 hb.bd rfl rfl ?_
   refine dj_v 9 hb.bd rfl rfl ?_
   refine dj_v 10 hb.bd rfl rfl ?_
   refine dj_h 11 (pT gk_0 4) hb.bd rfl (fun w1 ρ1 hw1 => ev_fieldAddr (i := 4) Tryz.underlying140 rfl Tryz.info138 rfl rfl) ?_
   refine dj_v 13 hb.bd rfl rfl ?_
   refine dj_v 14 hb.bd rfl rfl ?_
   obtain ⟨hk284, hS⟩ := chk_some hS
   obtain ⟨hk289, hS⟩ := chk_some hS
   obtain ⟨hk296, hS⟩ := chk_some hS
   obtain ⟨hk301, hS⟩ := chk_some hS
   refine dj_all [1, 5, 12] (by kernel_rfl) (fun i hi => ?_)
   simp only [List.mem_cons, List.not_mem_nil, or_false] at hi
   rcases hi with rfl | rfl | rfl
   ·refine ⟨_, rfl, ?_⟩
    have jt310 : Tr (enter ρA o 2) w17 (fun t => ([16, 100] : List Nat).contains t) (enter ρA o 2) w17 := (Tr.refl hb.bd).weak (fun _ _ => rfl) rfl rfl
    refine sr_litOwnT (i := 16) (c := ref22_record.c) (ρ := (enter ρA o 2)) (E := 142) (xs := []) (vs := #[]) (cs := #[]) (css := []) rfl (fun _ => by kernel_rfl) rfl trivial rfl (by decide) (by decide) hb.bd (by decide) ?_
    intro v311 ρ315 w313 h312 t314
    replace hB3 := hB3.m t314
    replace h2 := h2.m t314
    replace hb := hb.trans t314
    replace jt310 := jt310.tw t314
    refine dj_nx [13, 14, 17, 19, 24, 27] rfl jt310 ?_
    refine dj_all [5, 12] (by kernel_rfl) (fun i hi => ?_)
    simp only [List.mem_cons, List.not_mem_nil, or_false] at hi
    rcases hi with rfl | rfl
    ·refine ⟨_, rfl, ?_⟩
     have jt316 : Tr ρ315 w313 (fun t => ([16, 100] : List Nat).contains t) ρ315 w313 := (Tr.refl hb.bd).weak (fun _ _ => rfl) rfl rfl
     refine sr_ld v1 Tryz.isAgg138 rfl (hB3.cell rfl) ?_
     refine dj_nx [13, 14, 18, 19, 24, 27] rfl jt316 ?_
     obtain ⟨v317, h318, hq319⟩ := (h2.sl).cutT_h (P := Tryz.prog) Tryz.underlying138 Tryz.info142 rfl hk284
     refine dj_h 7 v317 hb.bd rfl (fun w1 ρ1 hw1 => hq319 w1 rfl rfl) ?_
     refine dj_all [8, 12] (by kernel_rfl) (fun i hi => ?_)
     simp only [List.mem_cons, List.not_mem_nil, or_false] at hi
     rcases hi with rfl | rfl
     ·refine ⟨_, rfl, ?_⟩
      have jt320 : Tr ρ315 w313 (fun t => ([16, 100] : List Nat).contains t) ρ315 w313 := (Tr.refl hb.bd).weak (fun _ _ => rfl) rfl rfl
      refine sr_appendT (i := 16) (c := ref22_record.c) (ρ := ρ315) (E := 142) (xs := ([] : List ref22_record)) (ys := cut k_0.records 0 y10) h312 (h318).x Tryz.underlying138 Tryz.info142 rfl rfl rfl (Nat.succ_pos _) (by decide) (by decide) hb.bd hk289 rfl rfl (by decide) ?_
      intro v321 ρ323 w324 h322 t325
      replace hB3 := hB3.m t325
      replace h2 := h2.m t325
      replace hb := hb.trans t325
      replace jt320 := jt320.tw t325
      refine dj_nx [13, 21, 24, 27] rfl jt320 ?_
      refine dj_E 12 (by kernel_rfl) rfl ?_
      have jt326 : Tr ρ323 w324 (fun t => ([16, 100] : List Nat).contains t) ρ323 w324 := (Tr.refl hb.bd).weak (fun _ _ => rfl) rfl rfl
      refine sr_ld v1 Tryz.isAgg138 rfl (hB3.cell rfl) ?_
      refine dj_nx [13, 21, 25, 27] rfl jt326 ?_
      obtain ⟨v327, h328, hq329⟩ := (h2.sl).cutT_l (P := Tryz.prog) Tryz.underlying138 Tryz.info142 rfl hk296
      refine dj_h 15 v327 hb.bd rfl (fun w1 ρ1 hw1 => hq329 w1 rfl rfl) ?_
      refine dj_E 16 (by kernel_rfl) rfl ?_
      have jt330 : Tr ρ323 w324 (fun t => ([16, 100] : List Nat).contains t) ρ323 w324 := (Tr.refl hb.bd).weak (fun _ _ => rfl) rfl rfl
      refine sr_appendT (i := 16) (c := ref22_record.c) (ρ := ρ323) (E := 142) (xs := ([] : List ref22_record) ++ (cut k_0.records 0 y10)) (ys := cut k_0.records (IntKind.i64.wrap (y10 + 1)) k_0.records.length) h322 (h328).x Tryz.underlying138 Tryz.info142 rfl rfl rfl (Nat.succ_pos _) (by decide) (by decide) hb.bd hk301 rfl rfl (by decide) ?_
      intro v331 ρ333 w334 h332 t335
      replace hB3 := hB3.m t335
      replace hb := hb.trans t335
      replace jt330 := jt330.tw t335
      refine dj_nx [13, 29] rfl jt330 ?_
      refine dj_v 17 hb.bd rfl rfl ?_
      refine dj_h 18 (pT gk_0 4) hb.bd rfl (fun w1 ρ1 hw1 => ev_fieldAddr (i := 4) Tryz.underlying140 rfl Tryz.info138 rfl rfl) ?_
      refine dj_E 19 (by kernel_rfl) rfl ?_
      have jt336 : Tr ρ333 w334 (fun t => ([16, 100] : List Nat).contains t) ρ333 w334 := (Tr.refl hb.bd).weak (fun _ _ => rfl) rfl rfl
      refine sr_storeT (v := v331) (vs := [v331]) (cs' := #[.bool k_0.made, .int .i64 k_0.most, .int .i64 k_0.window, .int .i64 k_0.lock, v331]) hB3 (by decide) hb.bd rfl rfl (one_cells (OwnT.oneCell h332)) Tryz.sizeOf138 rfl (by first | rfl | (simp only [List.all_cons, List.all_nil, OwnT.oneCell h332]; done) | (simp only [List.all_cons, List.all_nil, OwnT.oneCell h332]; rfl)) rfl ?_
      intro w337 hB31 t338
      replace h332 := h332.m t338
      replace hb := hb.trans t338
      replace jt336 := jt336.tw t338
      replace hB3 : Blk ρ333 100 w337 gk_0 (.cells #[.bool k_0.made, .int .i64 k_0.most, .int .i64 k_0.window, .int .i64 k_0.lock, v331] 140 (0, 0)) := hB31
      clear hB31
      refine dj_nx [] rfl jt336 ?_
      refine dj_done rfl (by kernel_rfl) ?_
      refine ke_fin [] rfl ?_
      have t339 := rtg_tr (ρ := ρ333) (w := w337) (i := 16) 101 (by decide) hb.bd
      have hmv340 : Mv ρ333 w337 16 (rtg ρ333 16 101) w337 101 := rtg_mv (by decide)
      replace hB3 := hB3.m t339
      replace hb := hb.trans t339
      replace h332 := h332.mv hmv340 (by decide)
      cases hS
      exact ke_end0 Tryz.func71 rfl ⟨_, rfl, _, rfl, ⟨_, (hB3.lv 0 hb), (h332.lv 1 ho2 hb)⟩, (leave_tr ho2 hb)⟩
     ·refine ⟨_, rfl, ?_⟩
      have jt341 : Tr ρ315 w313 (fun t => ([16, 100] : List Nat).contains t) ρ315 w313 := (Tr.refl hb.bd).weak (fun _ _ => rfl) rfl rfl
      refine sr_ld v1 Tryz.isAgg138 rfl (hB3.cell rfl) ?_
      refine dj_nx [13, 14, 20, 25, 27] rfl jt341 ?_
      obtain ⟨v342, h343, hq344⟩ := (h2.sl).cutT_l (P := Tryz.prog) Tryz.underlying138 Tryz.info142 rfl hk296
      refine dj_h 15 v342 hb.bd rfl (fun w1 ρ1 hw1 => hq344 w1 rfl rfl) ?_
      refine dj_E 8 (by kernel_rfl) rfl ?_
      have jt345 : Tr ρ315 w313 (fun t => ([16, 100] : List Nat).contains t) ρ315 w313 := (Tr.refl hb.bd).weak (fun _ _ => rfl) rfl rfl
      refine sr_appendT (i := 16) (c := ref22_record.c) (ρ := ρ315) (E := 142) (xs := ([] : List ref22_record)) (ys := cut k_0.records 0 y10) h312 (h318).x Tryz.underlying138 Tryz.info142 rfl rfl rfl (Nat.succ_pos _) (by decide) (by decide) hb.bd hk289 rfl rfl (by decide) ?_
      intro v346 ρ348 w349 h347 t350
      replace h343 := h343.m t350
      replace hb := hb.trans t350
      replace jt345 := jt345.tw t350
      refine dj_nx [13, 21, 28] rfl jt345 ?_
      refine dj_E 16 (by kernel_rfl) rfl ?_
      have jt351 : Tr ρ348 w349 (fun t => ([16, 100] : List Nat).contains t) ρ348 w349 := (Tr.refl hb.bd).weak (fun _ _ => rfl) rfl rfl
      refine sr_appendT (i := 16) (c := ref22_record.c) (ρ := ρ348) (E := 142) (xs := ([] : List ref22_record) ++ (cut k_0.records 0 y10)) (ys := cut k_0.records (IntKind.i64.wrap (y10 + 1)) k_0.records.length) h347 (h343).x Tryz.underlying138 Tryz.info142 rfl rfl rfl (Nat.succ_pos _) (by decide) (by decide) hb.bd hk301 rfl rfl (by decide) ?_
      intro v352 ρ354 w355 h353 t356
      replace hB3 := (hB3.m t350).m t356
      replace hb := hb.trans t356
      replace jt351 := jt351.tw t356
      refine dj_nx [13, 29] rfl jt351 ?_
      refine dj_v 17 hb.bd rfl rfl ?_
      refine dj_h 18 (pT gk_0 4) hb.bd rfl (fun w1 ρ1 hw1 => ev_fieldAddr (i := 4) Tryz.underlying140 rfl Tryz.info138 rfl rfl) ?_
      refine dj_E 19 (by kernel_rfl) rfl ?_
      have jt357 : Tr ρ354 w355 (fun t => ([16, 100] : List Nat).contains t) ρ354 w355 := (Tr.refl hb.bd).weak (fun _ _ => rfl) rfl rfl
      refine sr_storeT (v := v352) (vs := [v352]) (cs' := #[.bool k_0.made, .int .i64 k_0.most, .int .i64 k_0.window, .int .i64 k_0.lock, v352]) hB3 (by decide) hb.bd rfl rfl (one_cells (OwnT.oneCell h353)) Tryz.sizeOf138 rfl (by first | rfl | (simp only [List.all_cons, List.all_nil, OwnT.oneCell h353]; done) | (simp only [List.all_cons, List.all_nil, OwnT.oneCell h353]; rfl)) rfl ?_
      intro w358 hB3 t359
      replace h353 := h353.m t359
      replace hb := hb.trans t359
      replace jt357 := jt357.tw t359
      refine dj_nx [] rfl jt357 ?_
      refine dj_done rfl (by kernel_rfl) ?_
      refine ke_fin [] rfl ?_
      have t360 := rtg_tr (ρ := ρ354) (w := w358) (i := 16) 101 (by decide) hb.bd
      have hmv361 : Mv ρ354 w358 16 (rtg ρ354 16 101) w358 101 := rtg_mv (by decide)
      replace hB3 := hB3.m t360
      replace hb := hb.trans t360
      replace h353 := h353.mv hmv361 (by decide)
      cases hS
      exact ke_end0 Tryz.func71 rfl ⟨_, rfl, _, rfl, ⟨_, (hB3.lv 0 hb), (h353.lv 1 ho2 hb)⟩, (leave_tr ho2 hb)⟩
    ·refine ⟨_, rfl, ?_⟩
     have jt362 : Tr ρ315 w313 (fun t => ([16, 100] : List Nat).contains t) ρ315 w313 := (Tr.refl hb.bd).weak (fun _ _ => rfl) rfl rfl
     refine sr_ld v1 Tryz.isAgg138 rfl (hB3.cell rfl) ?_
     refine dj_nx [13, 14, 17, 19, 25, 27] rfl jt362 ?_
     obtain ⟨v363, h364, hq365⟩ := (h2.sl).cutT_l (P := Tryz.prog) Tryz.underlying138 Tryz.info142 rfl hk296
     refine dj_h 15 v363 hb.bd rfl (fun w1 ρ1 hw1 => hq365 w1 rfl rfl) ?_
     refine dj_E 5 (by kernel_rfl) rfl ?_
     have jt366 : Tr ρ315 w313 (fun t => ([16, 100] : List Nat).contains t) ρ315 w313 := (Tr.refl hb.bd).weak (fun _ _ => rfl) rfl rfl
     refine sr_ld v1 Tryz.isAgg138 rfl (hB3.cell rfl) ?_
     refine dj_nx [13, 14, 18, 19, 28] rfl jt366 ?_
     obtain ⟨v367, h368, hq369⟩ := (h2.sl).cutT_h (P := Tryz.prog) Tryz.underlying138 Tryz.info142 rfl hk284
     refine dj_h 7 v367 hb.bd rfl (fun w1 ρ1 hw1 => hq369 w1 rfl rfl) ?_
     refine dj_E 8 (by kernel_rfl) rfl ?_
     have jt370 : Tr ρ315 w313 (fun t => ([16, 100] : List Nat).contains t) ρ315 w313 := (Tr.refl hb.bd).weak (fun _ _ => rfl) rfl rfl
     refine sr_appendT (i := 16) (c := ref22_record.c) (ρ := ρ315) (E := 142) (xs := ([] : List ref22_record)) (ys := cut k_0.records 0 y10) h312 (h368).x Tryz.underlying138 Tryz.info142 rfl rfl rfl (Nat.succ_pos _) (by decide) (by decide) hb.bd hk289 rfl rfl (by decide) ?_
     intro v371 ρ373 w374 h372 t375
     replace h364 := h364.m t375
     replace hb := hb.trans t375
     replace jt370 := jt370.tw t375
     refine dj_nx [13, 21, 28] rfl jt370 ?_
     refine dj_E 16 (by kernel_rfl) rfl ?_
     have jt376 : Tr ρ373 w374 (fun t => ([16, 100] : List Nat).contains t) ρ373 w374 := (Tr.refl hb.bd).weak (fun _ _ => rfl) rfl rfl
     refine sr_appendT (i := 16) (c := ref22_record.c) (ρ := ρ373) (E := 142) (xs := ([] : List ref22_record) ++ (cut k_0.records 0 y10)) (ys := cut k_0.records (IntKind.i64.wrap (y10 + 1)) k_0.records.length) h372 (h364).x Tryz.underlying138 Tryz.info142 rfl rfl rfl (Nat.succ_pos _) (by decide) (by decide) hb.bd hk301 rfl rfl (by decide) ?_
     intro v377 ρ379 w380 h378 t381
     replace hB3 := (hB3.m t375).m t381
     replace hb := hb.trans t381
     replace jt376 := jt376.tw t381
     refine dj_nx [13, 29] rfl jt376 ?_
     refine dj_v 17 hb.bd rfl rfl ?_
     refine dj_h 18 (pT gk_0 4) hb.bd rfl (fun w1 ρ1 hw1 => ev_fieldAddr (i := 4) Tryz.underlying140 rfl Tryz.info138 rfl rfl) ?_
     refine dj_E 19 (by kernel_rfl) rfl ?_
     have jt382 : Tr ρ379 w380 (fun t => ([16, 100] : List Nat).contains t) ρ379 w380 := (Tr.refl hb.bd).weak (fun _ _ => rfl) rfl rfl
     refine sr_storeT (v := v377) (vs := [v377]) (cs' := #[.bool k_0.made, .int .i64 k_0.most, .int .i64 k_0.window, .int .i64 k_0.lock, v377]) hB3 (by decide) hb.bd rfl rfl (one_cells (OwnT.oneCell h378)) Tryz.sizeOf138 rfl (by first | rfl | (simp only [List.all_cons, List.all_nil, OwnT.oneCell h378]; done) | (simp only [List.all_cons, List.all_nil, OwnT.oneCell h378]; rfl)) rfl ?_
     intro w383 hB3 t384
     replace h378 := h378.m t384
     replace hb := hb.trans t384
     replace jt382 := jt382.tw t384
     refine dj_nx [] rfl jt382 ?_
     refine dj_done rfl (by kernel_rfl) ?_
     refine ke_fin [] rfl ?_
     have t385 := rtg_tr (ρ := ρ379) (w := w383) (i := 16) 101 (by decide) hb.bd
     have hmv386 : Mv ρ379 w383 16 (rtg ρ379 16 101) w383 101 := rtg_mv (by decide)
     replace hB3 := hB3.m t385
     replace hb := hb.trans t385
     replace h378 := h378.mv hmv386 (by decide)
     cases hS
     exact ke_end0 Tryz.func71 rfl ⟨_, rfl, _, rfl, ⟨_, (hB3.lv 0 hb), (h378.lv 1 ho2 hb)⟩, (leave_tr ho2 hb)⟩
   ·refine ⟨_, rfl, ?_⟩
    have jt387 : Tr (enter ρA o 2) w17 (fun t => ([16, 100] : List Nat).contains t) (enter ρA o 2) w17 := (Tr.refl hb.bd).weak (fun _ _ => rfl) rfl rfl
    refine sr_ld v1 Tryz.isAgg138 rfl (hB3.cell rfl) ?_
    refine dj_nx [13, 18, 19, 24, 27] rfl jt387 ?_
    obtain ⟨v388, h389, hq390⟩ := (h2.sl).cutT_h (P := Tryz.prog) Tryz.underlying138 Tryz.info142 rfl hk284
    refine dj_h 7 v388 hb.bd rfl (fun w1 ρ1 hw1 => hq390 w1 rfl rfl) ?_
    refine dj_all [1, 12] (by kernel_rfl) (fun i hi => ?_)
    simp only [List.mem_cons, List.not_mem_nil, or_false] at hi
    rcases hi with rfl | rfl
    ·refine ⟨_, rfl, ?_⟩
     have jt391 : Tr (enter ρA o 2) w17 (fun t => ([16, 100] : List Nat).contains t) (enter ρA o 2) w17 := (Tr.refl hb.bd).weak (fun _ _ => rfl) rfl rfl
     refine sr_litOwnT (i := 16) (c := ref22_record.c) (ρ := (enter ρA o 2)) (E := 142) (xs := []) (vs := #[]) (cs := #[]) (css := []) rfl (fun _ => by kernel_rfl) rfl trivial rfl (by decide) (by decide) hb.bd (by decide) ?_
     intro v392 ρ396 w394 h393 t395
     replace h389 := h389.m t395
     replace hB3 := hB3.m t395
     replace h2 := h2.m t395
     replace hb := hb.trans t395
     replace jt391 := jt391.tw t395
     refine dj_nx [13, 14, 20, 24, 27] rfl jt391 ?_
     refine dj_all [8, 12] (by kernel_rfl) (fun i hi => ?_)
     simp only [List.mem_cons, List.not_mem_nil, or_false] at hi
     rcases hi with rfl | rfl
     ·refine ⟨_, rfl, ?_⟩
      have jt397 : Tr ρ396 w394 (fun t => ([16, 100] : List Nat).contains t) ρ396 w394 := (Tr.refl hb.bd).weak (fun _ _ => rfl) rfl rfl
      refine sr_appendT (i := 16) (c := ref22_record.c) (ρ := ρ396) (E := 142) (xs := ([] : List ref22_record)) (ys := cut k_0.records 0 y10) h393 (h389).x Tryz.underlying138 Tryz.info142 rfl rfl rfl (Nat.succ_pos _) (by decide) (by decide) hb.bd hk289 rfl rfl (by decide) ?_
      intro v398 ρ400 w401 h399 t402
      replace hB3 := hB3.m t402
      replace h2 := h2.m t402
      replace hb := hb.trans t402
      replace jt397 := jt397.tw t402
      refine dj_nx [13, 21, 24, 27] rfl jt397 ?_
      refine dj_E 12 (by kernel_rfl) rfl ?_
      have jt403 : Tr ρ400 w401 (fun t => ([16, 100] : List Nat).contains t) ρ400 w401 := (Tr.refl hb.bd).weak (fun _ _ => rfl) rfl rfl
      refine sr_ld v1 Tryz.isAgg138 rfl (hB3.cell rfl) ?_
      refine dj_nx [13, 21, 25, 27] rfl jt403 ?_
      obtain ⟨v404, h405, hq406⟩ := (h2.sl).cutT_l (P := Tryz.prog) Tryz.underlying138 Tryz.info142 rfl hk296
      refine dj_h 15 v404 hb.bd rfl (fun w1 ρ1 hw1 => hq406 w1 rfl rfl) ?_
      refine dj_E 16 (by kernel_rfl) rfl ?_
      have jt407 : Tr ρ400 w401 (fun t => ([16, 100] : List Nat).contains t) ρ400 w401 := (Tr.refl hb.bd).weak (fun _ _ => rfl) rfl rfl
      refine sr_appendT (i := 16) (c := ref22_record.c) (ρ := ρ400) (E := 142) (xs := ([] : List ref22_record) ++ (cut k_0.records 0 y10)) (ys := cut k_0.records (IntKind.i64.wrap (y10 + 1)) k_0.records.length) h399 (h405).x Tryz.underlying138 Tryz.info142 rfl rfl rfl (Nat.succ_pos _) (by decide) (by decide) hb.bd hk301 rfl rfl (by decide) ?_
      intro v408 ρ410 w411 h409 t412
      replace hB3 := hB3.m t412
      replace hb := hb.trans t412
      replace jt407 := jt407.tw t412
      refine dj_nx [13, 29] rfl jt407 ?_
      refine dj_v 17 hb.bd rfl rfl ?_
      refine dj_h 18 (pT gk_0 4) hb.bd rfl (fun w1 ρ1 hw1 => ev_fieldAddr (i := 4) Tryz.underlying140 rfl Tryz.info138 rfl rfl) ?_
      refine dj_E 19 (by kernel_rfl) rfl ?_
      have jt413 : Tr ρ410 w411 (fun t => ([16, 100] : List Nat).contains t) ρ410 w411 := (Tr.refl hb.bd).weak (fun _ _ => rfl) rfl rfl
      refine sr_storeT (v := v408) (vs := [v408]) (cs' := #[.bool k_0.made, .int .i64 k_0.most, .int .i64 k_0.window, .int .i64 k_0.lock, v408]) hB3 (by decide) hb.bd rfl rfl (one_cells (OwnT.oneCell h409)) Tryz.sizeOf138 rfl (by first | rfl | (simp only [List.all_cons, List.all_nil, OwnT.oneCell h409]; done) | (simp only [List.all_cons, List.all_nil, OwnT.oneCell h409]; rfl)) rfl ?_
      intro w414 hB31 t415
      replace h409 := h409.m t415
      replace hb := hb.trans t415
      replace jt413 := jt413.tw t415
      replace hB3 : Blk ρ410 100 w414 gk_0 (.cells #[.bool k_0.made, .int .i64 k_0.most, .int .i64 k_0.window, .int .i64 k_0.lock, v408] 140 (0, 0)) := hB31
      clear hB31
      refine dj_nx [] rfl jt413 ?_
      refine dj_done rfl (by kernel_rfl) ?_
      refine ke_fin [] rfl ?_
      have t416 := rtg_tr (ρ := ρ410) (w := w414) (i := 16) 101 (by decide) hb.bd
      have hmv417 : Mv ρ410 w414 16 (rtg ρ410 16 101) w414 101 := rtg_mv (by decide)
      replace hB3 := hB3.m t416
      replace hb := hb.trans t416
      replace h409 := h409.mv hmv417 (by decide)
      cases hS
      exact ke_end0 Tryz.func71 rfl ⟨_, rfl, _, rfl, ⟨_, (hB3.lv 0 hb), (h409.lv 1 ho2 hb)⟩, (leave_tr ho2 hb)⟩
     ·refine ⟨_, rfl, ?_⟩
      have jt418 : Tr ρ396 w394 (fun t => ([16, 100] : List Nat).contains t) ρ396 w394 := (Tr.refl hb.bd).weak (fun _ _ => rfl) rfl rfl
      refine sr_ld v1 Tryz.isAgg138 rfl (hB3.cell rfl) ?_
      refine dj_nx [13, 14, 20, 25, 27] rfl jt418 ?_
      obtain ⟨v419, h420, hq421⟩ := (h2.sl).cutT_l (P := Tryz.prog) Tryz.underlying138 Tryz.info142 rfl hk296
      refine dj_h 15 v419 hb.bd rfl (fun w1 ρ1 hw1 => hq421 w1 rfl rfl) ?_
      refine dj_E 8 (by kernel_rfl) rfl ?_
      have jt422 : Tr ρ396 w394 (fun t => ([16, 100] : List Nat).contains t) ρ396 w394 := (Tr.refl hb.bd).weak (fun _ _ => rfl) rfl rfl
      refine sr_appendT (i := 16) (c := ref22_record.c) (ρ := ρ396) (E := 142) (xs := ([] : List ref22_record)) (ys := cut k_0.records 0 y10) h393 (h389).x Tryz.underlying138 Tryz.info142 rfl rfl rfl (Nat.succ_pos _) (by decide) (by decide) hb.bd hk289 rfl rfl (by decide) ?_
      intro v423 ρ425 w426 h424 t427
      replace h420 := h420.m t427
      replace hb := hb.trans t427
      replace jt422 := jt422.tw t427
      refine dj_nx [13, 21, 28] rfl jt422 ?_
      refine dj_E 16 (by kernel_rfl) rfl ?_
      have jt428 : Tr ρ425 w426 (fun t => ([16, 100] : List Nat).contains t) ρ425 w426 := (Tr.refl hb.bd).weak (fun _ _ => rfl) rfl rfl
      refine sr_appendT (i := 16) (c := ref22_record.c) (ρ := ρ425) (E := 142) (xs := ([] : List ref22_record) ++ (cut k_0.records 0 y10)) (ys := cut k_0.records (IntKind.i64.wrap (y10 + 1)) k_0.records.length) h424 (h420).x Tryz.underlying138 Tryz.info142 rfl rfl rfl (Nat.succ_pos _) (by decide) (by decide) hb.bd hk301 rfl rfl (by decide) ?_
      intro v429 ρ431 w432 h430 t433
      replace hB3 := (hB3.m t427).m t433
      replace hb := hb.trans t433
      replace jt428 := jt428.tw t433
      refine dj_nx [13, 29] rfl jt428 ?_
      refine dj_v 17 hb.bd rfl rfl ?_
      refine dj_h 18 (pT gk_0 4) hb.bd rfl (fun w1 ρ1 hw1 => ev_fieldAddr (i := 4) Tryz.underlying140 rfl Tryz.info138 rfl rfl) ?_
      refine dj_E 19 (by kernel_rfl) rfl ?_
      have jt434 : Tr ρ431 w432 (fun t => ([16, 100] : List Nat).contains t) ρ431 w432 := (Tr.refl hb.bd).weak (fun _ _ => rfl) rfl rfl
      refine sr_storeT (v := v429) (vs := [v429]) (cs' := #[.bool k_0.made, .int .i64 k_0.most, .int .i64 k_0.window, .int .i64 k_0.lock, v429]) hB3 (by decide) hb.bd rfl rfl (one_cells (OwnT.oneCell h430)) Tryz.sizeOf138 rfl (by first | rfl | (simp only [List.all_cons, List.all_nil, OwnT.oneCell h430]; done) | (simp only [List.all_cons, List.all_nil, OwnT.oneCell h430]; rfl)) rfl ?_
      intro w435 hB3 t436
      replace h430 := h430.m t436
      replace hb := hb.trans t436
      replace jt434 := jt434.tw t436
      refine dj_nx [] rfl jt434 ?_
      refine dj_done rfl (by kernel_rfl) ?_
      refine ke_fin [] rfl ?_
      have t437 := rtg_tr (ρ := ρ431) (w := w435) (i := 16) 101 (by decide) hb.bd
      have hmv438 : Mv ρ431 w435 16 (rtg ρ431 16 101) w435 101 := rtg_mv (by decide)
      replace hB3 := hB3.m t437
      replace hb := hb.trans t437
      replace h430 := h430.mv hmv438 (by decide)
      cases hS
      exact ke_end0 Tryz.func71 rfl ⟨_, rfl, _, rfl, ⟨_, (hB3.lv 0 hb), (h430.lv 1 ho2 hb)⟩, (leave_tr ho2 hb)⟩
    ·refine ⟨_, rfl, ?_⟩
     have jt439 : Tr (enter ρA o 2) w17 (fun t => ([16, 100] : List Nat).contains t) (enter ρA o 2) w17 := (Tr.refl hb.bd).weak (fun _ _ => rfl) rfl rfl
     refine sr_ld v1 Tryz.isAgg138 rfl (hB3.cell rfl) ?_
     refine dj_nx [13, 20, 25, 27] rfl jt439 ?_
     obtain ⟨v440, h441, hq442⟩ := (h2.sl).cutT_l (P := Tryz.prog) Tryz.underlying138 Tryz.info142 rfl hk296
     refine dj_h 15 v440 hb.bd rfl (fun w1 ρ1 hw1 => hq442 w1 rfl rfl) ?_
     refine dj_E 1 (by kernel_rfl) rfl ?_
     have jt443 : Tr (enter ρA o 2) w17 (fun t => ([16, 100] : List Nat).contains t) (enter ρA o 2) w17 := (Tr.refl hb.bd).weak (fun _ _ => rfl) rfl rfl
     refine sr_litOwnT (i := 16) (c := ref22_record.c) (ρ := (enter ρA o 2)) (E := 142) (xs := []) (vs := #[]) (cs := #[]) (css := []) rfl (fun _ => by kernel_rfl) rfl trivial rfl (by decide) (by decide) hb.bd (by decide) ?_
     intro v444 ρ448 w446 h445 t447
     replace h389 := h389.m t447
     replace hb := hb.trans t447
     replace jt443 := jt443.tw t447
     refine dj_nx [13, 14, 20, 28] rfl jt443 ?_
     refine dj_E 8 (by kernel_rfl) rfl ?_
     have jt449 : Tr ρ448 w446 (fun t => ([16, 100] : List Nat).contains t) ρ448 w446 := (Tr.refl hb.bd).weak (fun _ _ => rfl) rfl rfl
     refine sr_appendT (i := 16) (c := ref22_record.c) (ρ := ρ448) (E := 142) (xs := ([] : List ref22_record)) (ys := cut k_0.records 0 y10) h445 (h389).x Tryz.underlying138 Tryz.info142 rfl rfl rfl (Nat.succ_pos _) (by decide) (by decide) hb.bd hk289 rfl rfl (by decide) ?_
     intro v450 ρ452 w453 h451 t454
     replace h441 := (h441.m t447).m t454
     replace hB3 := (hB3.m t447).m t454
     replace hb := hb.trans t454
     replace jt449 := jt449.tw t454
     refine dj_nx [13, 21, 28] rfl jt449 ?_
     refine dj_E 16 (by kernel_rfl) rfl ?_
     have jt455 : Tr ρ452 w453 (fun t => ([16, 100] : List Nat).contains t) ρ452 w453 := (Tr.refl hb.bd).weak (fun _ _ => rfl) rfl rfl
     refine sr_appendT (i := 16) (c := ref22_record.c) (ρ := ρ452) (E := 142) (xs := ([] : List ref22_record) ++ (cut k_0.records 0 y10)) (ys := cut k_0.records (IntKind.i64.wrap (y10 + 1)) k_0.records.length) h451 (h441).x Tryz.underlying138 Tryz.info142 rfl rfl rfl (Nat.succ_pos _) (by decide) (by decide) hb.bd hk301 rfl rfl (by decide) ?_
     intro v456 ρ458 w459 h457 t460
     replace hB3 := hB3.m t460
     replace hb := hb.trans t460
     replace jt455 := jt455.tw t460
     refine dj_nx [13, 29] rfl jt455 ?_
     refine dj_v 17 hb.bd rfl rfl ?_
     refine dj_h 18 (pT gk_0 4) hb.bd rfl (fun w1 ρ1 hw1 => ev_fieldAddr (i := 4) Tryz.underlying140 rfl Tryz.info138 rfl rfl) ?_
     refine dj_E 19 (by kernel_rfl) rfl ?_
     have jt461 : Tr ρ458 w459 (fun t => ([16, 100] : List Nat).contains t) ρ458 w459 := (Tr.refl hb.bd).weak (fun _ _ => rfl) rfl rfl
     refine sr_storeT (v := v456) (vs := [v456]) (cs' := #[.bool k_0.made, .int .i64 k_0.most, .int .i64 k_0.window, .int .i64 k_0.lock, v456]) hB3 (by decide) hb.bd rfl rfl (one_cells (OwnT.oneCell h457)) Tryz.sizeOf138 rfl (by first | rfl | (simp only [List.all_cons, List.all_nil, OwnT.oneCell h457]; done) | (simp only [List.all_cons, List.all_nil, OwnT.oneCell h457]; rfl)) rfl ?_
     intro w462 hB3 t463
     replace h457 := h457.m t463
     replace hb := hb.trans t463
     replace jt461 := jt461.tw t463
     refine dj_nx [] rfl jt461 ?_
     refine dj_done rfl (by kernel_rfl) ?_
     refine ke_fin [] rfl ?_
     have t464 := rtg_tr (ρ := ρ458) (w := w462) (i := 16) 101 (by decide) hb.bd
     have hmv465 : Mv ρ458 w462 16 (rtg ρ458 16 101) w462 101 := rtg_mv (by decide)
     replace hB3 := hB3.m t464
     replace hb := hb.trans t464
     replace h457 := h457.mv hmv465 (by decide)
     cases hS
     exact ke_end0 Tryz.func71 rfl ⟨_, rfl, _, rfl, ⟨_, (hB3.lv 0 hb), (h457.lv 1 ho2 hb)⟩, (leave_tr ho2 hb)⟩
   ·refine ⟨_, rfl, ?_⟩
    have jt466 : Tr (enter ρA o 2) w17 (fun t => ([16, 100] : List Nat).contains t) (enter ρA o 2) w17 := (Tr.refl hb.bd).weak (fun _ _ => rfl) rfl rfl
    refine sr_ld v1 Tryz.isAgg138 rfl (hB3.cell rfl) ?_
    refine dj_nx [13, 17, 19, 25, 27] rfl jt466 ?_
    obtain ⟨v467, h468, hq469⟩ := (h2.sl).cutT_l (P := Tryz.prog) Tryz.underlying138 Tryz.info142 rfl hk296
    refine dj_h 15 v467 hb.bd rfl (fun w1 ρ1 hw1 => hq469 w1 rfl rfl) ?_
    refine dj_all [1, 5] (by kernel_rfl) (fun i hi => ?_)
    simp only [List.mem_cons, List.not_mem_nil, or_false] at hi
    rcases hi with rfl | rfl
    ·refine ⟨_, rfl, ?_⟩
     have jt470 : Tr (enter ρA o 2) w17 (fun t => ([16, 100] : List Nat).contains t) (enter ρA o 2) w17 := (Tr.refl hb.bd).weak (fun _ _ => rfl) rfl rfl
     refine sr_litOwnT (i := 16) (c := ref22_record.c) (ρ := (enter ρA o 2)) (E := 142) (xs := []) (vs := #[]) (cs := #[]) (css := []) rfl (fun _ => by kernel_rfl) rfl trivial rfl (by decide) (by decide) hb.bd (by decide) ?_
     intro v471 ρ475 w473 h472 t474
     replace hB3 := hB3.m t474
     replace h2 := h2.m t474
     replace hb := hb.trans t474
     replace jt470 := jt470.tw t474
     refine dj_nx [13, 14, 17, 19, 28] rfl jt470 ?_
     refine dj_E 5 (by kernel_rfl) rfl ?_
     have jt476 : Tr ρ475 w473 (fun t => ([16, 100] : List Nat).contains t) ρ475 w473 := (Tr.refl hb.bd).weak (fun _ _ => rfl) rfl rfl
     refine sr_ld v1 Tryz.isAgg138 rfl (hB3.cell rfl) ?_
     refine dj_nx [13, 14, 18, 19, 28] rfl jt476 ?_
     obtain ⟨v477, h478, hq479⟩ := (h2.sl).cutT_h (P := Tryz.prog) Tryz.underlying138 Tryz.info142 rfl hk284
     refine dj_h 7 v477 hb.bd rfl (fun w1 ρ1 hw1 => hq479 w1 rfl rfl) ?_
     refine dj_E 8 (by kernel_rfl) rfl ?_
     have jt480 : Tr ρ475 w473 (fun t => ([16, 100] : List Nat).contains t) ρ475 w473 := (Tr.refl hb.bd).weak (fun _ _ => rfl) rfl rfl
     refine sr_appendT (i := 16) (c := ref22_record.c) (ρ := ρ475) (E := 142) (xs := ([] : List ref22_record)) (ys := cut k_0.records 0 y10) h472 (h478).x Tryz.underlying138 Tryz.info142 rfl rfl rfl (Nat.succ_pos _) (by decide) (by decide) hb.bd hk289 rfl rfl (by decide) ?_
     intro v481 ρ483 w484 h482 t485
     replace h468 := (h468.m t474).m t485
     replace hb := hb.trans t485
     replace jt480 := jt480.tw t485
     refine dj_nx [13, 21, 28] rfl jt480 ?_
     refine dj_E 16 (by kernel_rfl) rfl ?_
     have jt486 : Tr ρ483 w484 (fun t => ([16, 100] : List Nat).contains t) ρ483 w484 := (Tr.refl hb.bd).weak (fun _ _ => rfl) rfl rfl
     refine sr_appendT (i := 16) (c := ref22_record.c) (ρ := ρ483) (E := 142) (xs := ([] : List ref22_record) ++ (cut k_0.records 0 y10)) (ys := cut k_0.records (IntKind.i64.wrap (y10 + 1)) k_0.records.length) h482 (h468).x Tryz.underlying138 Tryz.info142 rfl rfl rfl (Nat.succ_pos _) (by decide) (by decide) hb.bd hk301 rfl rfl (by decide) ?_
     intro v487 ρ489 w490 h488 t491
     replace hB3 := (hB3.m t485).m t491
     replace hb := hb.trans t491
     replace jt486 := jt486.tw t491
     refine dj_nx [13, 29] rfl jt486 ?_
     refine dj_v 17 hb.bd rfl rfl ?_
     refine dj_h 18 (pT gk_0 4) hb.bd rfl (fun w1 ρ1 hw1 => ev_fieldAddr (i := 4) Tryz.underlying140 rfl Tryz.info138 rfl rfl) ?_
     refine dj_E 19 (by kernel_rfl) rfl ?_
     have jt492 : Tr ρ489 w490 (fun t => ([16, 100] : List Nat).contains t) ρ489 w490 := (Tr.refl hb.bd).weak (fun _ _ => rfl) rfl rfl
     refine sr_storeT (v := v487) (vs := [v487]) (cs' := #[.bool k_0.made, .int .i64 k_0.most, .int .i64 k_0.window, .int .i64 k_0.lock, v487]) hB3 (by decide) hb.bd rfl rfl (one_cells (OwnT.oneCell h488)) Tryz.sizeOf138 rfl (by first | rfl | (simp only [List.all_cons, List.all_nil, OwnT.oneCell h488]; done) | (simp only [List.all_cons, List.all_nil, OwnT.oneCell h488]; rfl)) rfl ?_
     intro w493 hB31 t494
     replace h488 := h488.m t494
     replace hb := hb.trans t494
     replace jt492 := jt492.tw t494
     replace hB3 : Blk ρ489 100 w493 gk_0 (.cells #[.bool k_0.made, .int .i64 k_0.most, .int .i64 k_0.window, .int .i64 k_0.lock, v487] 140 (0, 0)) := hB31
     clear hB31
     refine dj_nx [] rfl jt492 ?_
     refine dj_done rfl (by kernel_rfl) ?_
     refine ke_fin [] rfl ?_
     have t495 := rtg_tr (ρ := ρ489) (w := w493) (i := 16) 101 (by decide) hb.bd
     have hmv496 : Mv ρ489 w493 16 (rtg ρ489 16 101) w493 101 := rtg_mv (by decide)
     replace hB3 := hB3.m t495
     replace hb := hb.trans t495
     replace h488 := h488.mv hmv496 (by decide)
     cases hS
     exact ke_end0 Tryz.func71 rfl ⟨_, rfl, _, rfl, ⟨_, (hB3.lv 0 hb), (h488.lv 1 ho2 hb)⟩, (leave_tr ho2 hb)⟩
    ·refine ⟨_, rfl, ?_⟩
     have jt497 : Tr (enter ρA o 2) w17 (fun t => ([16, 100] : List Nat).contains t) (enter ρA o 2) w17 := (Tr.refl hb.bd).weak (fun _ _ => rfl) rfl rfl
     refine sr_ld v1 Tryz.isAgg138 rfl (hB3.cell rfl) ?_
     refine dj_nx [13, 18, 19, 28] rfl jt497 ?_
     obtain ⟨v498, h499, hq500⟩ := (h2.sl).cutT_h (P := Tryz.prog) Tryz.underlying138 Tryz.info142 rfl hk284
     refine dj_h 7 v498 hb.bd rfl (fun w1 ρ1 hw1 => hq500 w1 rfl rfl) ?_
     refine dj_E 1 (by kernel_rfl) rfl ?_
     have jt501 : Tr (enter ρA o 2) w17 (fun t => ([16, 100] : List Nat).contains t) (enter ρA o 2) w17 := (Tr.refl hb.bd).weak (fun _ _ => rfl) rfl rfl
     refine sr_litOwnT (i := 16) (c := ref22_record.c) (ρ := (enter ρA o 2)) (E := 142) (xs := []) (vs := #[]) (cs := #[]) (css := []) rfl (fun _ => by kernel_rfl) rfl trivial rfl (by decide) (by decide) hb.bd (by decide) ?_
     intro v502 ρ506 w504 h503 t505
     replace h499 := h499.m t505
     replace hb := hb.trans t505
     replace jt501 := jt501.tw t505
     refine dj_nx [13, 14, 20, 28] rfl jt501 ?_
     refine dj_E 8 (by kernel_rfl) rfl ?_
     have jt507 : Tr ρ506 w504 (fun t => ([16, 100] : List Nat).contains t) ρ506 w504 := (Tr.refl hb.bd).weak (fun _ _ => rfl) rfl rfl
     refine sr_appendT (i := 16) (c := ref22_record.c) (ρ := ρ506) (E := 142) (xs := ([] : List ref22_record)) (ys := cut k_0.records 0 y10) h503 (h499).x Tryz.underlying138 Tryz.info142 rfl rfl rfl (Nat.succ_pos _) (by decide) (by decide) hb.bd hk289 rfl rfl (by decide) ?_
     intro v508 ρ510 w511 h509 t512
     replace h468 := (h468.m t505).m t512
     replace hB3 := (hB3.m t505).m t512
     replace hb := hb.trans t512
     replace jt507 := jt507.tw t512
     refine dj_nx [13, 21, 28] rfl jt507 ?_
     refine dj_E 16 (by kernel_rfl) rfl ?_
     have jt513 : Tr ρ510 w511 (fun t => ([16, 100] : List Nat).contains t) ρ510 w511 := (Tr.refl hb.bd).weak (fun _ _ => rfl) rfl rfl
     refine sr_appendT (i := 16) (c := ref22_record.c) (ρ := ρ510) (E := 142) (xs := ([] : List ref22_record) ++ (cut k_0.records 0 y10)) (ys := cut k_0.records (IntKind.i64.wrap (y10 + 1)) k_0.records.length) h509 (h468).x Tryz.underlying138 Tryz.info142 rfl rfl rfl (Nat.succ_pos _) (by decide) (by decide) hb.bd hk301 rfl rfl (by decide) ?_
     intro v514 ρ516 w517 h515 t518
     replace hB3 := hB3.m t518
     replace hb := hb.trans t518
     replace jt513 := jt513.tw t518
     refine dj_nx [13, 29] rfl jt513 ?_
     refine dj_v 17 hb.bd rfl rfl ?_
     refine dj_h 18 (pT gk_0 4) hb.bd rfl (fun w1 ρ1 hw1 => ev_fieldAddr (i := 4) Tryz.underlying140 rfl Tryz.info138 rfl rfl) ?_
     refine dj_E 19 (by kernel_rfl) rfl ?_
     have jt519 : Tr ρ516 w517 (fun t => ([16, 100] : List Nat).contains t) ρ516 w517 := (Tr.refl hb.bd).weak (fun _ _ => rfl) rfl rfl
     refine sr_storeT (v := v514) (vs := [v514]) (cs' := #[.bool k_0.made, .int .i64 k_0.most, .int .i64 k_0.window, .int .i64 k_0.lock, v514]) hB3 (by decide) hb.bd rfl rfl (one_cells (OwnT.oneCell h515)) Tryz.sizeOf138 rfl (by first | rfl | (simp only [List.all_cons, List.all_nil, OwnT.oneCell h515]; done) | (simp only [List.all_cons, List.all_nil, OwnT.oneCell h515]; rfl)) rfl ?_
     intro w520 hB3 t521
     replace h515 := h515.m t521
     replace hb := hb.trans t521
     replace jt519 := jt519.tw t521
     refine dj_nx [] rfl jt519 ?_
     refine dj_done rfl (by kernel_rfl) ?_
     refine ke_fin [] rfl ?_
     have t522 := rtg_tr (ρ := ρ516) (w := w520) (i := 16) 101 (by decide) hb.bd
     have hmv523 : Mv ρ516 w520 16 (rtg ρ516 16 101) w520 101 := rtg_mv (by decide)
     replace hB3 := hB3.m t522
     replace hb := hb.trans t522
     replace h515 := h515.mv hmv523 (by decide)
     cases hS
     exact ke_end0 Tryz.func71 rfl ⟨_, rfl, _, rfl, ⟨_, (hB3.lv 0 hb), (h515.lv 1 ho2 hb)⟩, (leave_tr ho2 hb)⟩
  ·replace hS := iF hS hc15
   refine ke_skip ?_
   cases hS
   exact ke_end0 Tryz.func71 rfl ⟨_, rfl, _, rfl, ⟨_, (hB3.lv 0 hb), (h2.lv 1 ho2 hb)⟩, (leave_tr ho2 hb)⟩
theorem ref39_prove_ok (w0 : World) (hg : Gs w0) {ρA : Tags} (hbd : ∀ b, ρA b ≠ 0 → b < w0.heap.size) (hz : Gz ρA) {o : Nat} (ho2 : 2 ≤ o) {l_0 : ref39_Logins} {k_1 : Int} {f_2 : Int} {now_3 : Int} {gl_0 : Nat} {r : ref39_Logins} (ho0 : ref39_Logins.O (fun p => o + p) ρA w0 gl_0 l_0) (hS : ref39_prove l_0 k_1 f_2 now_3 = some r) :
  Calls Tryz.prog 72 #[pT gl_0 0, .int .i64 k_1, .int .i64 f_2, .int .i64 now_3] w0 (Ret (fun v w' => ∃ ρ', v = .tuple #[] ∧ ref39_Logins.O (fun p => o + p) ρ' w' gl_0 r ∧ Tr ρA w0 (rng o 6) ρ' w')) := by
 unfold ref39_prove at hS
 have hb := enter_fr (ρ := ρA) (w := w0) (n := 6) ho2 hbd
 have hz := hz.enter (n := 6) ho2
 obtain ⟨v1, v3, v5, M7, hB9, hP2, h4, h6, hN8⟩ := ho0
 replace hB9 := hB9.mv (enter_mv (p := 0) (n := 6) (by decide) ho2)
 replace hP2 := PtrO.mv hP2 ref22_Locks.objK (fun p hp => enter_mv (p := 1 + p) (n := 6) (by omega) ho2) (fun p hp => by omega)
 replace h4 := h4.mv (enter_mv (p := 3) (n := 6) (by decide) ho2) (by decide)
 replace h6 := h6.mv (enter_mv (p := 4) (n := 6) (by decide) ho2) (by decide)
 replace hN8 := hN8.mv (enter_mv (p := 5) (n := 6) (by decide) ho2) (by decide)
 refine ck Tryz.func72 [0, 1, 2, 3] rfl rfl ?_
 refine ke_region_j (ρ := (enter ρA o 6)) (fun t => ([104, 105] : List Nat).contains t) 22 Tryz.mixed (fun w11 hw10 => ?_)
 have t12 := Tr.of_below hw10 hb.bd
 replace hB9 := hB9.m t12
 replace hP2 := hP2.m ref22_Locks.objK t12
 replace h4 := h4.m t12
 replace h6 := h6.m t12
 replace hN8 := hN8.m t12
 replace hb := hb.trans t12
 refine dj_v 0 hb.bd rfl rfl ?_
 refine dj_v 1 hb.bd rfl rfl ?_
 refine dj_h 2 (pT gl_0 2) hb.bd rfl (fun w1 ρ1 hw1 => ev_fieldAddr (i := 2) Tryz.underlying96 rfl Tryz.info94 rfl rfl) ?_
 refine dj_h 3 v5 hb.bd rfl (fun w1 ρ1 hw1 => ev_load Tryz.isAgg94 rfl ((hB9.mv (hw1.mv (i := 100) rfl)).cell rfl)) ?_
 refine dj_v 4 hb.bd rfl rfl ?_
 refine dj_v 5 hb.bd rfl rfl ?_
 refine dj_v 6 hb.bd rfl rfl ?_
 refine dj_h 7 (pT gl_0 2) hb.bd rfl (fun w1 ρ1 hw1 => ev_fieldAddr (i := 2) Tryz.underlying96 rfl Tryz.info94 rfl rfl) ?_
 refine dj_h 8 v5 hb.bd rfl (fun w1 ρ1 hw1 => ev_load Tryz.isAgg94 rfl ((hB9.mv (hw1.mv (i := 100) rfl)).cell rfl)) ?_
 refine dj_v 9 hb.bd rfl rfl ?_
 obtain ⟨y187, hy188, hS⟩ := bS hS
 obtain ⟨b189, o190, cs192, hq193, he191, hg197, ho198⟩ := h6.elemQ (P := Tryz.prog) Tryz.underlying94 Tryz.info108 rfl hy188
 obtain ⟨v194, hcshe191, hR196⟩ := he191.rd
 obtain rfl : cs192 = [str y187.id, str y187.user, .int .i64 y187.begun, v194] := hcshe191
 have h195 := hN8.sl hR196
 refine dj_h 10 (pT b189 o190) hb.bd rfl (fun w1 ρ1 hw1 => hq193 w1 rfl rfl) ?_
 refine dj_h 11 (pT b189 (o190 + 3)) hb.bd rfl (fun w1 ρ1 hw1 => ev_fieldAddr (i := 3) Tryz.underlying108 rfl Tryz.info36 rfl rfl) ?_
 refine dj_v 13 hb.bd rfl rfl ?_
 refine dj_v 14 hb.bd rfl rfl ?_
 obtain ⟨y201, hy202, hS⟩ := bS hS
 obtain ⟨hk213, hS⟩ := chk_some hS
 obtain ⟨y222, hy223, hS⟩ := bS hS
 obtain ⟨hk237, hS⟩ := chk_some hS
 refine dj_all [12, 15] (by kernel_rfl) (fun i hi => ?_)
 simp only [List.mem_cons, List.not_mem_nil, or_false] at hi
 rcases hi with rfl | rfl
 ·refine ⟨_, rfl, ?_⟩
  have jt238 : Tr (enter ρA o 6) w11 (fun t => ([104, 105] : List Nat).contains t) (enter ρA o 6) w11 := (Tr.refl hb.bd).weak (fun _ _ => rfl) rfl rfl
  refine sr_ld v194 Tryz.isAgg36 rfl (he191.cell 3 _ rfl) ?_
  refine dj_nx [11, 12, 20, 21, 22] rfl jt238 ?_
  refine dj_E 15 (by kernel_rfl) rfl ?_
  have jt239 : Tr (enter ρA o 6) w11 (fun t => ([104, 105] : List Nat).contains t) (enter ρA o 6) w11 := (Tr.refl hb.bd).weak (fun _ _ => rfl) rfl rfl
  refine sr_cb Tryz.call67 (ref04_Limit_ok _ (hg.fr hz hb) hy202) hb.bd ?_
  intro w242 t244
  replace hb := hb.trans t244
  replace jt239 := jt239.tw t244
  refine dj_nx [11, 12, 20, 21, 23] rfl jt239 ?_
  refine dj_h 16 (.agg #[.int .i64 f_2, .int .i64 y201]) hb.bd rfl (fun w1 ρ1 hw1 => ev_build (vs := #[(0, .int .i64 f_2), (1, .int .i64 y201)]) rfl (fun _ => by kernel_rfl)) ?_
  refine dj_E 17 (by kernel_rfl) rfl ?_
  have jt245 : Tr (enter ρA o 6) w242 (fun t => ([104, 105] : List Nat).contains t) (enter ρA o 6) w242 := (Tr.refl hb.bd).weak (fun _ _ => rfl) rfl rfl
  refine sr_litT (c := api_Proof.c) (ρ := (enter ρA o 6)) (E := 42) (xs := [(api_Proof.mk f_2 y201)]) (vs := #[(0, .agg #[.int .i64 f_2, .int .i64 y201])]) (cs := #[.int .i64 f_2, .int .i64 y201]) (css := [[.int .i64 f_2, .int .i64 y201]]) rfl (fun _ => by kernel_rfl) rfl ⟨rfl, trivial⟩ rfl (by decide) hb.bd (by decide) ?_
  intro v246 w248 h247 hbw250
  have t249 := Tr.of_below hbw250 hb.bd
  replace h6 := (h6.m t244).m t249
  replace hN8 := (hN8.m t244).m t249
  replace hB9 := (hB9.m t244).m t249
  replace hP2 := (hP2.m ref22_Locks.objK t244).m ref22_Locks.objK t249
  replace h4 := (h4.m t244).m t249
  replace hb := hb.trans t249
  replace jt245 := jt245.tw t249
  refine dj_nx [11, 12, 20, 25] rfl jt245 ?_
  refine dj_E 18 (by kernel_rfl) rfl ?_
  have jt251 : Tr (enter ρA o 6) w248 (fun t => ([104, 105] : List Nat).contains t) (enter ρA o 6) w248 := (Tr.refl hb.bd).weak (fun _ _ => rfl) rfl rfl
  refine sr_appendN (j := 105) (c := api_Proof.c) (ρ := (enter ρA o 6)) (E := 42) (xs := y187.proofs) (ys := ([(api_Proof.mk f_2 y201)] : List api_Proof)) hN8 hR196 ((SlT.of_sl (i := 0) h247)).x (by simp) Tryz.underlying36 Tryz.info42 rfl rfl rfl (by decide) (by decide) (by decide) hb.bd hk213 rfl rfl (by decide) ?_
  intro v252 ρ254 w255 M256 hN257 hR253 hm258 t259
  replace h6 := h6.m t259
  replace hb := hb.trans t259
  replace jt251 := jt251.tw t259
  replace h6 := OwnT.cmap (c2 := ref39_attempt.c M256) h6 rfl (fun _ _ _ _ _ h => ref39_attempt.cmono (fun u => hm258 u _ _) h)
  refine dj_nx [11, 12, 26] rfl jt251 ?_
  obtain ⟨b260, o261, cs263, hq264, he262, hg268, ho269⟩ := h6.elemQ (P := Tryz.prog) Tryz.underlying94 Tryz.info108 rfl hy223
  obtain ⟨v265, hcshe262, hR267⟩ := he262.rd
  obtain rfl : cs263 = [str y222.id, str y222.user, .int .i64 y222.begun, v265] := hcshe262
  refine dj_h 19 (pT b260 o261) hb.bd rfl (fun w1 ρ1 hw1 => hq264 w1 rfl rfl) ?_
  refine dj_h 20 (pT b260 (o261 + 3)) hb.bd rfl (fun w1 ρ1 hw1 => ev_fieldAddr (i := 3) Tryz.underlying108 rfl Tryz.info36 rfl rfl) ?_
  refine dj_E 21 (by kernel_rfl) rfl ?_
  have jt270 : Tr ρ254 w255 (fun t => ([104, 105] : List Nat).contains t) ρ254 w255 := (Tr.refl hb.bd).weak (fun _ _ => rfl) rfl rfl
  refine sr_storeEl (z' := (ref39_attempt.mk y222.id y222.user y222.begun (y187.proofs ++ ([(api_Proof.mk f_2 y201)] : List api_Proof)))) (u := v252) (vs := [v252]) (cs' := [str y222.id, str y222.user, .int .i64 y222.begun, v252]) (off := 3) h6 hg268 ho269 hy223 he262 (by decide) hb.bd rfl rfl (one_cells (NR.oneCell hR253)) Tryz.sizeOf36 (by first | rfl | (simp only [List.all_cons, List.all_nil, NR.oneCell hR253]; done) | (simp only [List.all_cons, List.all_nil, NR.oneCell hR253]; rfl)) rfl rfl ⟨_, rfl, (NR.cast hR253 (show y187.id = y222.id from congrArg ref39_attempt.id (Option.some.inj (hy188.symm.trans hy223))))⟩ ?_
  intro w271 h61 t272
  replace hB9 := (hB9.m t259).m t272
  replace hP2 := (hP2.m ref22_Locks.objK t259).m ref22_Locks.objK t272
  replace h4 := (h4.m t259).m t272
  replace hN257 := hN257.m t272
  replace hb := hb.trans t272
  replace jt270 := jt270.tw t272
  replace h6 := h61
  clear h61
  replace h6 := OwnT.cmap (c2 := ref39_attempt.c M256.clr) h6 rfl (fun _ _ _ x hx h => ref39_attempt.cmono (fun u hu => hu.clr (NestT.at hN257 (key := fun x => x.id) (ln := fun x => x.proofs.length) hk237 hx)) h)
  replace hN257 := hN257.clr
  refine dj_nx [] rfl jt270 ?_
  refine dj_done rfl (by kernel_rfl) ?_
  refine ke_fin [] rfl ?_
  cases hS
  exact ke_end0 Tryz.func72 rfl ⟨_, rfl, _, rfl, ⟨_, _, _, _, (hB9.lv 0 hb), (hP2.lv ref22_Locks.objK ho2 hb), (h4.lv 3 ho2 hb), (h6.lv 4 ho2 hb), (hN257.lv 5 ho2 hb)⟩, (leave_tr ho2 hb)⟩
 ·refine ⟨_, rfl, ?_⟩
  have jt273 : Tr (enter ρA o 6) w11 (fun t => ([104, 105] : List Nat).contains t) (enter ρA o 6) w11 := (Tr.refl hb.bd).weak (fun _ _ => rfl) rfl rfl
  refine sr_cb Tryz.call67 (ref04_Limit_ok _ (hg.fr hz hb) hy202) hb.bd ?_
  intro w276 t278
  replace h6 := h6.m t278
  replace hN8 := hN8.m t278
  replace he191 := he191.mv (t278.mv (i := 104) rfl) (Nat.succ_pos _)
  replace hB9 := hB9.m t278
  replace hP2 := hP2.m ref22_Locks.objK t278
  replace h4 := h4.m t278
  replace hb := hb.trans t278
  replace jt273 := jt273.tw t278
  refine dj_nx [11, 12, 19, 21, 23] rfl jt273 ?_
  refine dj_h 16 (.agg #[.int .i64 f_2, .int .i64 y201]) hb.bd rfl (fun w1 ρ1 hw1 => ev_build (vs := #[(0, .int .i64 f_2), (1, .int .i64 y201)]) rfl (fun _ => by kernel_rfl)) ?_
  refine dj_all [12, 17] (by kernel_rfl) (fun i hi => ?_)
  simp only [List.mem_cons, List.not_mem_nil, or_false] at hi
  rcases hi with rfl | rfl
  ·refine ⟨_, rfl, ?_⟩
   have jt279 : Tr (enter ρA o 6) w276 (fun t => ([104, 105] : List Nat).contains t) (enter ρA o 6) w276 := (Tr.refl hb.bd).weak (fun _ _ => rfl) rfl rfl
   refine sr_ld v194 Tryz.isAgg36 rfl (he191.cell 3 _ rfl) ?_
   refine dj_nx [11, 12, 20, 24] rfl jt279 ?_
   refine dj_E 17 (by kernel_rfl) rfl ?_
   have jt280 : Tr (enter ρA o 6) w276 (fun t => ([104, 105] : List Nat).contains t) (enter ρA o 6) w276 := (Tr.refl hb.bd).weak (fun _ _ => rfl) rfl rfl
   refine sr_litT (c := api_Proof.c) (ρ := (enter ρA o 6)) (E := 42) (xs := [(api_Proof.mk f_2 y201)]) (vs := #[(0, .agg #[.int .i64 f_2, .int .i64 y201])]) (cs := #[.int .i64 f_2, .int .i64 y201]) (css := [[.int .i64 f_2, .int .i64 y201]]) rfl (fun _ => by kernel_rfl) rfl ⟨rfl, trivial⟩ rfl (by decide) hb.bd (by decide) ?_
   intro v281 w283 h282 hbw285
   have t284 := Tr.of_below hbw285 hb.bd
   replace hN8 := hN8.m t284
   replace hb := hb.trans t284
   replace jt280 := jt280.tw t284
   refine dj_nx [11, 12, 20, 25] rfl jt280 ?_
   refine dj_E 18 (by kernel_rfl) rfl ?_
   have jt286 : Tr (enter ρA o 6) w283 (fun t => ([104, 105] : List Nat).contains t) (enter ρA o 6) w283 := (Tr.refl hb.bd).weak (fun _ _ => rfl) rfl rfl
   refine sr_appendN (j := 105) (c := api_Proof.c) (ρ := (enter ρA o 6)) (E := 42) (xs := y187.proofs) (ys := ([(api_Proof.mk f_2 y201)] : List api_Proof)) hN8 hR196 ((SlT.of_sl (i := 0) h282)).x (by simp) Tryz.underlying36 Tryz.info42 rfl rfl rfl (by decide) (by decide) (by decide) hb.bd hk213 rfl rfl (by decide) ?_
   intro v287 ρ289 w290 M291 hN292 hR288 hm293 t294
   replace h6 := (h6.m t284).m t294
   replace hB9 := (hB9.m t284).m t294
   replace hP2 := (hP2.m ref22_Locks.objK t284).m ref22_Locks.objK t294
   replace h4 := (h4.m t284).m t294
   replace hb := hb.trans t294
   replace jt286 := jt286.tw t294
   replace h6 := OwnT.cmap (c2 := ref39_attempt.c M291) h6 rfl (fun _ _ _ _ _ h => ref39_attempt.cmono (fun u => hm293 u _ _) h)
   refine dj_nx [11, 12, 26] rfl jt286 ?_
   obtain ⟨b295, o296, cs298, hq299, he297, hg303, ho304⟩ := h6.elemQ (P := Tryz.prog) Tryz.underlying94 Tryz.info108 rfl hy223
   obtain ⟨v300, hcshe297, hR302⟩ := he297.rd
   obtain rfl : cs298 = [str y222.id, str y222.user, .int .i64 y222.begun, v300] := hcshe297
   refine dj_h 19 (pT b295 o296) hb.bd rfl (fun w1 ρ1 hw1 => hq299 w1 rfl rfl) ?_
   refine dj_h 20 (pT b295 (o296 + 3)) hb.bd rfl (fun w1 ρ1 hw1 => ev_fieldAddr (i := 3) Tryz.underlying108 rfl Tryz.info36 rfl rfl) ?_
   refine dj_E 21 (by kernel_rfl) rfl ?_
   have jt305 : Tr ρ289 w290 (fun t => ([104, 105] : List Nat).contains t) ρ289 w290 := (Tr.refl hb.bd).weak (fun _ _ => rfl) rfl rfl
   refine sr_storeEl (z' := (ref39_attempt.mk y222.id y222.user y222.begun (y187.proofs ++ ([(api_Proof.mk f_2 y201)] : List api_Proof)))) (u := v287) (vs := [v287]) (cs' := [str y222.id, str y222.user, .int .i64 y222.begun, v287]) (off := 3) h6 hg303 ho304 hy223 he297 (by decide) hb.bd rfl rfl (one_cells (NR.oneCell hR288)) Tryz.sizeOf36 (by first | rfl | (simp only [List.all_cons, List.all_nil, NR.oneCell hR288]; done) | (simp only [List.all_cons, List.all_nil, NR.oneCell hR288]; rfl)) rfl rfl ⟨_, rfl, (NR.cast hR288 (show y187.id = y222.id from congrArg ref39_attempt.id (Option.some.inj (hy188.symm.trans hy223))))⟩ ?_
   intro w306 h61 t307
   replace hB9 := hB9.m t307
   replace hP2 := hP2.m ref22_Locks.objK t307
   replace h4 := h4.m t307
   replace hN292 := hN292.m t307
   replace hb := hb.trans t307
   replace jt305 := jt305.tw t307
   replace h6 := h61
   clear h61
   replace h6 := OwnT.cmap (c2 := ref39_attempt.c M291.clr) h6 rfl (fun _ _ _ x hx h => ref39_attempt.cmono (fun u hu => hu.clr (NestT.at hN292 (key := fun x => x.id) (ln := fun x => x.proofs.length) hk237 hx)) h)
   replace hN292 := hN292.clr
   refine dj_nx [] rfl jt305 ?_
   refine dj_done rfl (by kernel_rfl) ?_
   refine ke_fin [] rfl ?_
   cases hS
   exact ke_end0 Tryz.func72 rfl ⟨_, rfl, _, rfl, ⟨_, _, _, _, (hB9.lv 0 hb), (hP2.lv ref22_Locks.objK ho2 hb), (h4.lv 3 ho2 hb), (h6.lv 4 ho2 hb), (hN292.lv 5 ho2 hb)⟩, (leave_tr ho2 hb)⟩
  ·refine ⟨_, rfl, ?_⟩
   have jt308 : Tr (enter ρA o 6) w276 (fun t => ([104, 105] : List Nat).contains t) (enter ρA o 6) w276 := (Tr.refl hb.bd).weak (fun _ _ => rfl) rfl rfl
   refine sr_litT (c := api_Proof.c) (ρ := (enter ρA o 6)) (E := 42) (xs := [(api_Proof.mk f_2 y201)]) (vs := #[(0, .agg #[.int .i64 f_2, .int .i64 y201])]) (cs := #[.int .i64 f_2, .int .i64 y201]) (css := [[.int .i64 f_2, .int .i64 y201]]) rfl (fun _ => by kernel_rfl) rfl ⟨rfl, trivial⟩ rfl (by decide) hb.bd (by decide) ?_
   intro v309 w311 h310 hbw313
   have t312 := Tr.of_below hbw313 hb.bd
   replace hN8 := hN8.m t312
   replace he191 := he191.mv (t312.mv (i := 104) rfl) (Nat.succ_pos _)
   replace hb := hb.trans t312
   replace jt308 := jt308.tw t312
   refine dj_nx [11, 12, 19, 25] rfl jt308 ?_
   refine dj_E 12 (by kernel_rfl) rfl ?_
   have jt314 : Tr (enter ρA o 6) w311 (fun t => ([104, 105] : List Nat).contains t) (enter ρA o 6) w311 := (Tr.refl hb.bd).weak (fun _ _ => rfl) rfl rfl
   refine sr_ld v194 Tryz.isAgg36 rfl (he191.cell 3 _ rfl) ?_
   refine dj_nx [11, 12, 20, 25] rfl jt314 ?_
   refine dj_E 18 (by kernel_rfl) rfl ?_
   have jt315 : Tr (enter ρA o 6) w311 (fun t => ([104, 105] : List Nat).contains t) (enter ρA o 6) w311 := (Tr.refl hb.bd).weak (fun _ _ => rfl) rfl rfl
   refine sr_appendN (j := 105) (c := api_Proof.c) (ρ := (enter ρA o 6)) (E := 42) (xs := y187.proofs) (ys := ([(api_Proof.mk f_2 y201)] : List api_Proof)) hN8 hR196 ((SlT.of_sl (i := 0) h310)).x (by simp) Tryz.underlying36 Tryz.info42 rfl rfl rfl (by decide) (by decide) (by decide) hb.bd hk213 rfl rfl (by decide) ?_
   intro v316 ρ318 w319 M320 hN321 hR317 hm322 t323
   replace h6 := (h6.m t312).m t323
   replace hB9 := (hB9.m t312).m t323
   replace hP2 := (hP2.m ref22_Locks.objK t312).m ref22_Locks.objK t323
   replace h4 := (h4.m t312).m t323
   replace hb := hb.trans t323
   replace jt315 := jt315.tw t323
   replace h6 := OwnT.cmap (c2 := ref39_attempt.c M320) h6 rfl (fun _ _ _ _ _ h => ref39_attempt.cmono (fun u => hm322 u _ _) h)
   refine dj_nx [11, 12, 26] rfl jt315 ?_
   obtain ⟨b324, o325, cs327, hq328, he326, hg332, ho333⟩ := h6.elemQ (P := Tryz.prog) Tryz.underlying94 Tryz.info108 rfl hy223
   obtain ⟨v329, hcshe326, hR331⟩ := he326.rd
   obtain rfl : cs327 = [str y222.id, str y222.user, .int .i64 y222.begun, v329] := hcshe326
   refine dj_h 19 (pT b324 o325) hb.bd rfl (fun w1 ρ1 hw1 => hq328 w1 rfl rfl) ?_
   refine dj_h 20 (pT b324 (o325 + 3)) hb.bd rfl (fun w1 ρ1 hw1 => ev_fieldAddr (i := 3) Tryz.underlying108 rfl Tryz.info36 rfl rfl) ?_
   refine dj_E 21 (by kernel_rfl) rfl ?_
   have jt334 : Tr ρ318 w319 (fun t => ([104, 105] : List Nat).contains t) ρ318 w319 := (Tr.refl hb.bd).weak (fun _ _ => rfl) rfl rfl
   refine sr_storeEl (z' := (ref39_attempt.mk y222.id y222.user y222.begun (y187.proofs ++ ([(api_Proof.mk f_2 y201)] : List api_Proof)))) (u := v316) (vs := [v316]) (cs' := [str y222.id, str y222.user, .int .i64 y222.begun, v316]) (off := 3) h6 hg332 ho333 hy223 he326 (by decide) hb.bd rfl rfl (one_cells (NR.oneCell hR317)) Tryz.sizeOf36 (by first | rfl | (simp only [List.all_cons, List.all_nil, NR.oneCell hR317]; done) | (simp only [List.all_cons, List.all_nil, NR.oneCell hR317]; rfl)) rfl rfl ⟨_, rfl, (NR.cast hR317 (show y187.id = y222.id from congrArg ref39_attempt.id (Option.some.inj (hy188.symm.trans hy223))))⟩ ?_
   intro w335 h61 t336
   replace hB9 := hB9.m t336
   replace hP2 := hP2.m ref22_Locks.objK t336
   replace h4 := h4.m t336
   replace hN321 := hN321.m t336
   replace hb := hb.trans t336
   replace jt334 := jt334.tw t336
   replace h6 := h61
   clear h61
   replace h6 := OwnT.cmap (c2 := ref39_attempt.c M320.clr) h6 rfl (fun _ _ _ x hx h => ref39_attempt.cmono (fun u hu => hu.clr (NestT.at hN321 (key := fun x => x.id) (ln := fun x => x.proofs.length) hk237 hx)) h)
   replace hN321 := hN321.clr
   refine dj_nx [] rfl jt334 ?_
   refine dj_done rfl (by kernel_rfl) ?_
   refine ke_fin [] rfl ?_
   cases hS
   exact ke_end0 Tryz.func72 rfl ⟨_, rfl, _, rfl, ⟨_, _, _, _, (hB9.lv 0 hb), (hP2.lv ref22_Locks.objK ho2 hb), (h4.lv 3 ho2 hb), (h6.lv 4 ho2 hb), (hN321.lv 5 ho2 hb)⟩, (leave_tr ho2 hb)⟩
theorem ref22_Locks_Clear__nil_ok (w0 : World) (hg : Gs w0) {ρA : Tags} (hbd : ∀ b, ρA b ≠ 0 → b < w0.heap.size) (hz : Gz ρA) {user_1 : Str} {r : Unit} (hS : ref22_Locks_Clear__nil user_1 = some r) :
  Calls Tryz.prog 71 #[.pointer none, str user_1] w0 (Ret (fun v w' => v = .tuple #[] ∧ Below w0.heap.size w0 w')) := by
 unfold ref22_Locks_Clear__nil at hS
 have hb := flat1_fr (ρ := ρA) (w := w0) hbd
 have hz := hz.flat1
 refine ck Tryz.func71 [0, 1] rfl rfl ?_
 refine ke_seq <| ke_seq <| ke_region <| sr_go 1 rfl ?_
 obtain ⟨y1, hy2, hS⟩ := bS hS
 obtain rfl : y1 = false := (Option.some.inj hy2).symm
 refine sr_cb Tryz.call104 (ref22_Locks_Made__nil_ok _ (hg.fr hz hb) hb.bd (hz.fr hg hb) hy2) hb.bd ?_
 intro w3 t5
 replace hb := hb.trans t5
 refine sr_e (ev_notc rfl rfl) ?_
 refine sr_fin [0, 1, 7] rfl ?_
 refine ke_cond rfl (fun _ => ?_) (fun h => by cases h)
 cases hS
 exact ke_ret0 Tryz.func71 rfl ⟨_, rfl, rfl, (hb.below (flat1_le _))⟩
theorem ref39_Logins_Password_ok (w0 : World) (hg : Gs w0) {ρA : Tags} (hbd : ∀ b, ρA b ≠ 0 → b < w0.heap.size) (hz : Gz ρA) {o : Nat} (ho2 : 2 ≤ o) {l_0 : ref39_Logins} {id_1 : Str} {password_2 : Str} {now_3 : Int} {gl_0 : Nat} {r : Int × ref39_Logins} (ho0 : ref39_Logins.O (fun p => o + p) ρA w0 gl_0 l_0) (hS : ref39_Logins_Password l_0 id_1 password_2 now_3 = some r) :
  Calls Tryz.prog 29 #[pT gl_0 0, str id_1, str password_2, .int .i64 now_3] w0 (Ret (fun v w' => ∃ ρ', v = .int .i64 r.1 ∧ ref39_Logins.O (fun p => o + p) ρ' w' gl_0 r.2 ∧ Tr ρA w0 (rng o 6) ρ' w')) := by
 unfold ref39_Logins_Password at hS
 have hb := enter_fr (ρ := ρA) (w := w0) (n := 6) ho2 hbd
 have hz := hz.enter (n := 6) ho2
 obtain ⟨v1, v3, v5, M7, hB9, hP2, h4, h6, hN8⟩ := ho0
 replace hB9 := hB9.mv (enter_mv (p := 0) (n := 6) (by decide) ho2)
 replace hP2 := PtrO.mv hP2 ref22_Locks.objK (fun p hp => enter_mv (p := 1 + p) (n := 6) (by omega) ho2) (fun p hp => by omega)
 replace h4 := h4.mv (enter_mv (p := 3) (n := 6) (by decide) ho2) (by decide)
 replace h6 := h6.mv (enter_mv (p := 4) (n := 6) (by decide) ho2) (by decide)
 replace hN8 := hN8.mv (enter_mv (p := 5) (n := 6) (by decide) ho2) (by decide)
 refine ck Tryz.func29 [0, 1, 2, 3] rfl rfl ?_
 refine ke_seq <| ke_region <| sr_go 1 rfl <| sr_fin [0, 1, 2, 3] rfl <| ke_seq <| ke_region <| sr_go 3 rfl ?_
 obtain ⟨y10, hy11, hS⟩ := bS hS
 refine sr_cb Tryz.call68 (ref39_presented_ok _ (hg.fr hz hb) hb.bd (hz.fr hg hb) (τ0 := (fun p => 100 + p)) (fun p => Nat.le_add_right_of_le (by decide)) (by exact ⟨_, _, _, _, hB9, hP2, h4, h6, hN8⟩) hy11) hb.bd ?_
 intro w12 t14
 replace hB9 := hB9.m t14
 replace hP2 := hP2.m ref22_Locks.objK t14
 replace h4 := h4.m t14
 replace h6 := h6.m t14
 replace hN8 := hN8.m t14
 replace hb := hb.trans t14
 refine sr_go 5 rfl <| sr_fin [0, 2, 3, 9, 10] rfl <| ke_seq <| ke_seq <| ke_region <| sr_go 2 rfl <| sr_fin [0, 2, 3, 9, 10, 21] rfl ?_
 refine ke_cond rfl (fun hc15 => ?_) (fun hc15 => ?_)
 ·replace hS := iT hS hc15
  refine ke_seq <| ke_region <| sr_go 2 rfl <| sr_fin [8] rfl ?_
  cases hS
  exact ke_ret1 Tryz.func29 rfl rfl ⟨_, rfl, _, rfl, ⟨_, _, _, _, (hB9.lv 0 hb), (hP2.lv ref22_Locks.objK ho2 hb), (h4.lv 3 ho2 hb), (h6.lv 4 ho2 hb), (hN8.lv 5 ho2 hb)⟩, (leave_tr ho2 hb)⟩
 ·replace hS := iF hS hc15
  refine ke_skip <| ke_seq <| ke_region <| sr_go 2 rfl ?_
  refine sr_fa 2 Tryz.underlying96 rfl Tryz.info94 ?_
  refine sr_ld v5 Tryz.isAgg94 rfl (hB9.cell rfl) ?_
  refine sr_go 1 rfl ?_
  obtain ⟨y16, hy17, hS⟩ := bS hS
  obtain ⟨b18, o19, cs21, hq22, he20, hg26, ho27⟩ := h6.elemQ (P := Tryz.prog) Tryz.underlying94 Tryz.info108 rfl hy17
  obtain ⟨v23, hcshe20, hR25⟩ := he20.rd
  obtain rfl : cs21 = [str y16.id, str y16.user, .int .i64 y16.begun, v23] := hcshe20
  have h24 := hN8.sl hR25
  refine sr_e (hq22 w12 rfl rfl) ?_
  refine sr_fa (o19 + 1) Tryz.underlying108 rfl Tryz.info9 ?_
  refine sr_ld (str y16.user) Tryz.isAgg9 rfl (he20.cell 1 _ rfl) ?_
  refine sr_go 1 rfl <| sr_fin [0, 2, 3, 9, 11] rfl <| ke_seq <| ke_region <| sr_go 2 rfl ?_
  obtain ⟨y28, hy29, hS⟩ := bS hS
  refine sr_cb Tryz.call64 (ref39_at_ok _ (hg.fr hz hb) hb.bd (hz.fr hg hb) (τ0 := (fun p => 100 + p)) (fun p => Nat.le_add_right_of_le (by decide)) (by exact ⟨_, _, _, _, hB9, hP2, h4, h6, hN8⟩) hy29) hb.bd ?_
  intro w30 t32
  replace hB9 := hB9.m t32
  replace hP2 := hP2.m ref22_Locks.objK t32
  replace h4 := h4.m t32
  replace h6 := h6.m t32
  replace hN8 := hN8.m t32
  replace hb := hb.trans t32
  refine sr_go 1 rfl <| sr_fin [0, 2, 3, 9, 11, 12] rfl <| ke_seq <| ke_seq <| ke_region <| sr_go 3 rfl ?_
  obtain ⟨z35, hz37, hS⟩ := bS hS
  refine sr_join (m := 12) (C := fun (z : Bool) w1 => z35 = z ∧ ∃ ρ1, Tr (enter ρA o 6) w30 (fun _ => false) ρ1 w1) (l' := fun z => [(0, pT gl_0 0), (3, .int .i64 now_3), (9, .int .i64 y10.1), (11, str y16.user), (48, .bool z)]) ?_ ?_
  ·rintro _ w38 ⟨rfl, ρ39, hj36⟩
   replace hB9 := hB9.m hj36
   replace hP2 := hP2.m ref22_Locks.objK hj36
   replace h4 := h4.m hj36
   replace h6 := h6.m hj36
   replace hN8 := hN8.m hj36
   replace hb := hb.trans hj36
   refine sr_fin [0, 3, 9, 11, 48] rfl ?_
   refine ke_cond rfl (fun hc55 => ?_) (fun hc55 => ?_)
   ·replace hS := iT hS hc55
    refine ke_seq <| ke_region <| sr_go 2 rfl ?_
    refine sr_fa 0 Tryz.underlying96 rfl Tryz.info90 ?_
    refine sr_ld v1 Tryz.isAgg90 rfl (hB9.cell rfl) ?_
    refine sr_go 2 rfl ?_
    rcases ho57 : l_0.locks with _ | z56
    ·replace hS := optC_none hS ho57
     obtain rfl := hP2.none_ ho57
     obtain ⟨y71, hy72, hS⟩ := bS hS
     refine sr_cb Tryz.call70 (ref22_Locks_Fail__nil_ok _ (hg.fr hz hb) hb.bd (hz.fr hg hb) hy72) hb.bd ?_
     intro w73 t75
     replace hB9 := hB9.m t75
     replace h4 := h4.m t75
     replace h6 := h6.m t75
     replace hN8 := hN8.m t75
     replace hb := hb.trans t75
     refine sr_fin [] rfl <| ke_seq <| ke_region <| sr_go 1 rfl <| sr_fin [8] rfl ?_
     cases hS
     exact ke_ret1 Tryz.func29 rfl rfl ⟨_, rfl, _, rfl, ⟨_, _, _, _, (hB9.lv 0 hb), PtrO.nil, (h4.lv 3 ho2 hb), (h6.lv 4 ho2 hb), (hN8.lv 5 ho2 hb)⟩, (leave_tr ho2 hb)⟩
    ·replace hS := optC_some hS ho57
     obtain ⟨g58, rfl, ⟨v59, hB61, h60⟩⟩ := hP2.some_ ho57
     obtain ⟨y62, hy63, hS⟩ := bS hS
     refine sr_cl Tryz.call70 (ref22_Locks_Fail_ok _ (hg.fr hz hb) hb.bd (hz.fr hg hb) (o := 101) (by decide) (by exact ⟨_, hB61, h60⟩) hy63) ?_
     rintro _ w64 ⟨ρ70, rfl, ⟨v67, hB69, h68⟩, t66⟩
     replace hB9 := hB9.m t66
     replace h4 := h4.m t66
     replace h6 := h6.m t66
     replace hN8 := hN8.m t66
     replace hb := hb.trans t66
     refine sr_fin [] rfl <| ke_seq <| ke_region <| sr_go 1 rfl <| sr_fin [8] rfl ?_
     cases hS
     exact ke_ret1 Tryz.func29 rfl rfl ⟨_, rfl, _, rfl, ⟨_, _, _, _, (hB9.lv 0 hb), (PtrO.mk ⟨_, (hB69.lv 1 hb), (h68.lv 2 ho2 hb)⟩), (h4.lv 3 ho2 hb), (h6.lv 4 ho2 hb), (hN8.lv 5 ho2 hb)⟩, (leave_tr ho2 hb)⟩
   ·replace hS := iF hS hc55
    refine ke_skip <| ke_seq <| ke_region <| sr_go 2 rfl ?_
    refine sr_fa 0 Tryz.underlying96 rfl Tryz.info90 ?_
    refine sr_ld v1 Tryz.isAgg90 rfl (hB9.cell rfl) ?_
    refine sr_go 1 rfl ?_
    rcases ho77 : l_0.locks with _ | z76
    ·replace hS := optC_none hS ho77
     obtain rfl := hP2.none_ ho77
     obtain ⟨y106, hy107, hS⟩ := bS hS
     refine sr_cb Tryz.call71 (ref22_Locks_Clear__nil_ok _ (hg.fr hz hb) hb.bd (hz.fr hg hb) hy107) hb.bd ?_
     intro w108 t110
     replace hB9 := hB9.m t110
     replace h4 := h4.m t110
     replace h6 := h6.m t110
     replace hN8 := hN8.m t110
     replace hb := hb.trans t110
     refine sr_fin [0, 3, 9] rfl <| ke_seq <| ke_region <| sr_go 3 rfl ?_
     obtain ⟨y111, hy112, hS⟩ := bS hS
     refine sr_cl Tryz.call72 (ref39_prove_ok _ (hg.fr hz hb) hb.bd (hz.fr hg hb) (o := 100) (by decide) (by exact ⟨_, _, _, _, hB9, PtrO.nil, h4, h6, hN8⟩) hy112) ?_
     rintro _ w113 ⟨ρ125, rfl, ⟨v116, v118, v120, M122, hB124, hP117, h119, h121, hN123⟩, t115⟩
     replace hb := hb.trans t115
     refine sr_fin [] rfl <| ke_seq <| ke_region <| sr_go 1 rfl <| sr_fin [8] rfl ?_
     cases hS
     exact ke_ret1 Tryz.func29 rfl rfl ⟨_, rfl, _, rfl, ⟨_, _, _, _, (hB124.lv 0 hb), (hP117.lv ref22_Locks.objK ho2 hb), (h119.lv 3 ho2 hb), (h121.lv 4 ho2 hb), (hN123.lv 5 ho2 hb)⟩, (leave_tr ho2 hb)⟩
    ·replace hS := optC_some hS ho77
     obtain ⟨g78, rfl, ⟨v79, hB81, h80⟩⟩ := hP2.some_ ho77
     obtain ⟨y82, hy83, hS⟩ := bS hS
     refine sr_cl Tryz.call71 (ref22_Locks_Clear_ok _ (hg.fr hz hb) hb.bd (hz.fr hg hb) (o := 101) (by decide) (by exact ⟨_, hB81, h80⟩) hy83) ?_
     rintro _ w84 ⟨ρ90, rfl, ⟨v87, hB89, h88⟩, t86⟩
     replace hB9 := hB9.m t86
     replace h4 := h4.m t86
     replace h6 := h6.m t86
     replace hN8 := hN8.m t86
     replace hb := hb.trans t86
     refine sr_fin [0, 3, 9] rfl <| ke_seq <| ke_region <| sr_go 3 rfl ?_
     obtain ⟨y91, hy92, hS⟩ := bS hS
     refine sr_cl Tryz.call72 (ref39_prove_ok _ (hg.fr hz hb) hb.bd (hz.fr hg hb) (o := 100) (by decide) (⟨_, _, _, _, hB9, (PtrO.mk ⟨_, hB89, h88⟩), h4, h6, hN8⟩ : ref39_Logins.O (fun p => 100 + p) ρ90 w84 gl_0 (ref39_Logins.mk (some y82) l_0.users l_0.attempts)) hy92) ?_
     rintro _ w93 ⟨ρ105, rfl, ⟨v96, v98, v100, M102, hB104, hP97, h99, h101, hN103⟩, t95⟩
     replace hb := hb.trans t95
     refine sr_fin [] rfl <| ke_seq <| ke_region <| sr_go 1 rfl <| sr_fin [8] rfl ?_
     cases hS
     exact ke_ret1 Tryz.func29 rfl rfl ⟨_, rfl, _, rfl, ⟨_, _, _, _, (hB104.lv 0 hb), (hP97.lv ref22_Locks.objK ho2 hb), (h99.lv 3 ho2 hb), (h101.lv 4 ho2 hb), (hN103.lv 5 ho2 hb)⟩, (leave_tr ho2 hb)⟩
  ·intro K34
   clear hS
   have hj36 : Tr (enter ρA o 6) w30 (fun _ => false) (enter ρA o 6) w30 := (Tr.refl hb.bd).weak (fun _ _ => rfl) rfl rfl
   rcases Bool.eq_false_or_eq_true (decide (y28 < 0)) with hg33 | hg33
   ·have hS := iT hz37 hg33
    refine sr_setb 36 rfl hg33 <| sr_go 12 rfl ?_
    exact sr_wk (K34 true _ ⟨(Option.some.inj hS).symm, _, hj36⟩)
   ·have hS := iF hz37 hg33
    refine sr_setb 36 rfl hg33 <| sr_go 2 rfl ?_
    refine sr_eg rfl (ev_fieldAddr (i := 1) Tryz.underlying96 rfl Tryz.info93 rfl rfl) ?_
    refine sr_eg rfl (ev_load Tryz.isAgg93 rfl (hB9.cell rfl)) ?_
    refine sr_go 1 rfl ?_
    obtain ⟨y41, hy42, hS⟩ := bS hS
    obtain ⟨b43, o44, cs46, hq47, he45, hg48, ho49⟩ := h4.elemQ (P := Tryz.prog) Tryz.underlying93 Tryz.info103 rfl hy42
    obtain rfl : cs46 = [str y41.name, str y41.v.Salt, .int .i64 y41.v.Rounds, str y41.v.Hash, str y41.code, .int .i64 y41.last] := he45.rd
    refine sr_eg rfl (hq47 w30 rfl rfl) ?_
    refine sr_eg rfl (ev_fieldAddr (i := 1) Tryz.underlying103 rfl Tryz.info45 rfl rfl) ?_
    refine sr_eg rfl (v := .agg #[str y41.v.Salt, .int .i64 y41.v.Rounds, str y41.v.Hash]) (ev_loads (cs := [str y41.v.Salt, .int .i64 y41.v.Rounds, str y41.v.Hash]) Tryz.isAgg45 Tryz.sizeOf45 rfl (he45.part (off := 1) (vs := [str y41.v.Salt, .int .i64 y41.v.Rounds, str y41.v.Hash]) rfl)) ?_
    refine sr_go 1 rfl ?_
    obtain ⟨y50, hy51, hS⟩ := bS hS
    refine sr_callg (b := false) (e := 36) rfl rfl rfl (vs := [.agg #[str y41.v.Salt, .int .i64 y41.v.Rounds, str y41.v.Hash], str password_2]) rfl Tryz.call69 rfl (ref22_Check_ok _ (hg.fr hz hb) hy51) (by decide) ?_
    rintro _ w52 ⟨rfl, hbw53⟩
    have t54 := Tr.of_below hbw53 hb.bd
    replace hb := hb.trans t54
    replace hj36 := hj36.tw t54
    refine sr_go 2 rfl ?_
    exact sr_wk (K34 (!y50) _ ⟨(Option.some.inj hS).symm, _, hj36⟩)
theorem law39_typed_ok (w0 : World) (hg : Gs w0) {o_0 : law39_Op} {r : Str} (hS : law39_typed o_0 = some r) :
  Calls Tryz.prog 30 #[.agg #[.int .i64 o_0.Kind, str o_0.ID, str o_0.User, str o_0.Word, str o_0.Code, str o_0.S, .int .i64 o_0.Level, .int .i64 o_0.Rounds, .int .i64 o_0.Now]] w0 (Ret (fun v w' => v = str r ∧ Below w0.heap.size w0 w')) := by
 unfold law39_typed at hS
 have hb := Below.refl w0.heap.size w0
 obtain ⟨A0, hA0, hAe⟩ : ∃ A0 : Nat → Prop, (∀ b, A0 b → b < w0.heap.size) ∧ A0 = fun _ => False := ⟨_, fun _ h => h.elim, rfl⟩
 clear hAe
 have hA := hA0
 have hi : ∀ b, A0 b → A0 b := fun _ h => h
 have hH := Hp.nil A0 w0.heap.size w0
 refine ck Tryz.func30 [0] rfl rfl ?_
 refine ke_seq <| ke_region ?_
 refine sr_box hH hb.size hA rfl (by decide) ?_
 intro g1 A2 w3 hH1 hst4 hbw5 hinc6 hA1 hge7
 replace hb := hb.trans (hbw5.mono hb.size)
 replace hi := fun b hb => hinc6 b (hi b hb)
 replace hH : Hp A2 w0.heap.size w3 [(g1, .cells #[.int .i64 o_0.Kind, str o_0.ID, str o_0.User, str o_0.Word, str o_0.Code, str o_0.S, .int .i64 o_0.Level, .int .i64 o_0.Rounds, .int .i64 o_0.Now] 33 (0, 0))] := hH1
 replace hA := hA1
 clear hH1 hA1
 refine sr_go 1 rfl <| sr_fin [1] rfl <| ke_seq <| ke_seq <| ke_region ?_
 refine sr_fa 6 Tryz.underlying33 rfl Tryz.info3 ?_
 refine sr_ld (.int .i64 o_0.Level) Tryz.isAgg3 rfl (hH.cell (i := 0) rfl rfl) ?_
 refine sr_go 1 rfl <| sr_fin [1, 7] rfl ?_
 refine ke_cond rfl (fun hc8 => ?_) (fun hc8 => ?_)
 ·replace hS := iT hS hc8
  refine ke_seq ?_
  refine ke_region_q Tryz.mixed (by kernel_rfl) ?_
  refine sq_ev (v := pT g1 5) (fun w1 hw1 => ev_fieldAddr (i := 5) Tryz.underlying33 rfl Tryz.info9 rfl rfl) (by decide) ?_
  refine sq_ev (v := str o_0.S) (fun w1 hw1 => ev_load Tryz.isAgg9 rfl ((hH.below hw1).cell (i := 0) rfl rfl)) (by decide) ?_
  refine sq_ev (v := pT g1 8) (fun w1 hw1 => ev_fieldAddr (i := 8) Tryz.underlying33 rfl Tryz.info3 rfl rfl) (by decide) ?_
  refine sq_ev (v := .int .i64 o_0.Now) (fun w1 hw1 => ev_load Tryz.isAgg3 rfl ((hH.below hw1).cell (i := 0) rfl rfl)) (by decide) ?_
  obtain ⟨y11, hy12, hS⟩ := bS hS
  refine sq_call (v := .int .i64 y11) (vs := [.int .i64 o_0.Now]) rfl Tryz.call13 rfl (fun w1 hw1 => (otp_Counter_ok _ (hg.below (hb.trans (hw1.mono hb.size))) hy12)) (by decide) ?_
  obtain ⟨y15, hy16, hS⟩ := bS hS
  refine sq_call (v := .tuple #[str y15.1, .int .i64 y15.2]) (vs := [str o_0.S, .int .i64 y11]) rfl Tryz.call12 rfl (fun w1 hw1 => (otp_Code_ok _ (hg.below (hb.trans (hw1.mono hb.size))) hy16)) (by decide) ?_
  refine sq_go 5 rfl ?_
  refine sq_fin [3] rfl (fun w10 hw9 => ?_)
  replace hb := hb.trans (hw9.mono hb.size)
  replace hA := lt_mono hA hw9.size
  replace hH := hH.below hw9
  refine ke_seq <| ke_region <| sr_go 2 rfl <| sr_fin [2] rfl ?_
  cases hS
  exact ke_ret1 Tryz.func30 rfl rfl ⟨_, rfl, rfl, hb⟩
 ·replace hS := iF hS hc8
  refine ke_skip <| ke_seq <| ke_region ?_
  refine sr_fa 4 Tryz.underlying33 rfl Tryz.info9 ?_
  refine sr_ld (str o_0.Code) Tryz.isAgg9 rfl (hH.cell (i := 0) rfl rfl) ?_
  refine sr_go 1 rfl <| sr_fin [2] rfl ?_
  cases hS
  exact ke_ret1 Tryz.func30 rfl rfl ⟨_, rfl, rfl, hb⟩
theorem ref23_possible_L1_ok {w0 : World} (hg : Gs w0) : ∀ (n : Nat), ∀ {r : Bool} {code_0 : Str} {i_3 : Int}, ref23_possible_L1 n code_0 i_3 = some r → ∀ {w : World}, (Below w0.heap.size w0 w) → KE Tryz.prog 108 (Ret (fun v w' => v = .bool r ∧ Below w0.heap.size w0 w')) 23 [.code (sub (bodyOf Tryz.f108) [2, 1, 2, 2, 1]), .inLoop (sub (bodyOf Tryz.f108) [2, 1, 2, 2, 1]), .inBlock 0, .code (sub (bodyOf Tryz.f108) [2, 2])] [(0, str code_0), (3, .int .i64 i_3)] w := by
 intro n
 induction n with
 | zero => intro r code_0 i_3 hS; cases hS
 | succ n ih =>
  have hr0 : ∀ {r : Bool} {code_0 : Str} {i_3 : Int}, ref23_possible_L1 n code_0 i_3 = some r → ∀ {w : World}, (Below w0.heap.size w0 w) → KE Tryz.prog 108 (Ret (fun v w' => v = .bool r ∧ Below w0.heap.size w0 w')) 23 [.inLoop (sub (bodyOf Tryz.f108) [2, 1, 2, 2, 1]), .inBlock 0, .code (sub (bodyOf Tryz.f108) [2, 2])] [(0, str code_0), (3, .int .i64 i_3)] w := fun {r} {code_0} {i_3} hS {w} hb => ke_inLoop (ih hS hb)
  clear ih
  intro r code_0 i_3 hS w hb
  unfold ref23_possible_L1 at hS
  refine ke_seq <| ke_seq <| ke_region <| sr_go 2 rfl ?_
  refine sr_e (ev_slen Tryz.underlying9 rfl) ?_
  refine sr_go 1 rfl <| sr_fin [0, 3, 7] rfl ?_
  refine ke_cond rfl (fun hc1 => ?_) (fun hc1 => ?_)
  ·replace hS := iT hS hc1
   refine ke_skip <| ke_seq ?_
   refine ke_block ?_
   refine ke_seq <| ke_region <| sr_go 2 rfl ?_
   obtain ⟨hk2, hS⟩ := chk_some hS
   refine sr_e (ev_sindex Tryz.underlying9 rfl rfl hk2) ?_
   refine sr_go 2 rfl ?_
   obtain ⟨z5, hz7, hS⟩ := bS hS
   refine sr_join (m := 5) (C := fun (x : Bool) w1 => z5 = x ∧ Below w.heap.size w w1) (l' := fun x => [(0, str code_0), (3, .int .i64 i_3), (19, .bool x)]) ?_ ?_
   ·rintro _ w8 ⟨rfl, hbw9⟩
    replace hb := hb.trans (hbw9.mono hb.size)
    refine sr_fin [0, 3, 19] rfl ?_
    refine ke_cond rfl (fun hc11 => ?_) (fun hc11 => ?_)
    ·replace hS := iT hS hc11
     refine ke_seq <| ke_region <| sr_go 1 rfl <| sr_fin [2] rfl ?_
     cases hS
     exact ke_ret1 Tryz.func108 rfl rfl ⟨_, rfl, rfl, hb⟩
    ·replace hS := iF hS hc11
     refine ke_skip <| ke_inBlock <| ke_region <| sr_go 3 rfl <| sr_fin [0, 3] rfl ?_
     have hK := hr0 hS hb
     exact ke_wk hK
   ·intro K4
    clear hS
    have hj6 := Below.refl w.heap.size w
    rcases Bool.eq_false_or_eq_true (decide ((byteAt code_0 i_3) < 48)) with hg3 | hg3
    ·have hS := iT hz7 hg3
     refine sr_setb 14 rfl hg3 <| sr_go 5 rfl ?_
     exact sr_wk (K4 true _ ⟨(Option.some.inj hS).symm, hj6⟩)
    ·have hS := iF hz7 hg3
     refine sr_setb 14 rfl hg3 <| sr_go 2 rfl ?_
     obtain ⟨hk10, hS⟩ := chk_some hS
     refine sr_eg rfl (ev_sindex Tryz.underlying9 rfl rfl hk10) ?_
     refine sr_go 2 rfl ?_
     exact sr_wk (K4 (decide ((byteAt code_0 i_3) > 57)) _ ⟨(Option.some.inj hS).symm, hj6⟩)
  ·replace hS := iF hS hc1
   refine ke_exit (k' := _) rfl ?_
   refine ke_seq <| ke_region <| sr_go 1 rfl ?_
   refine sr_e (ev_slen Tryz.underlying9 rfl) ?_
   refine sr_go 2 rfl <| sr_fin [2] rfl ?_
   cases hS
   exact ke_ret1 Tryz.func108 rfl rfl ⟨_, rfl, rfl, hb⟩
theorem ref23_possible_ok (w0 : World) (hg : Gs w0) {code_0 : Str} {r : Bool} (hS : ref23_possible code_0 = some r) :
  Calls Tryz.prog 108 #[str code_0] w0 (Ret (fun v w' => v = .bool r ∧ Below w0.heap.size w0 w')) := by
 unfold ref23_possible at hS
 have hb := Below.refl w0.heap.size w0
 refine ck Tryz.func108 [0] rfl rfl ?_
 refine ke_seq <| ke_region <| sr_go 1 rfl <| sr_fin [0] rfl <| ke_seq <| ke_seq <| ke_region <| sr_go 1 rfl <| sr_fin [0, 3] rfl ?_
 refine ke_block ?_
 have hK := ref23_possible_L1_ok hg _ hS hb
 exact ke_wk (ke_loop hK)
theorem ref23_Counter_ok (w0 : World) (hg : Gs w0) {now_0 : Int} {r : Int} (hS : ref23_Counter now_0 = some r) :
  Calls Tryz.prog 110 #[.int .i64 now_0] w0 (Ret (fun v w' => v = .int .i64 r ∧ Below w0.heap.size w0 w')) := by
 unfold ref23_Counter at hS
 have hb := Below.refl w0.heap.size w0
 refine ck Tryz.func110 [0] rfl rfl ?_
 refine ke_seq <| ke_region <| sr_go 1 rfl <| sr_fin [0] rfl <| ke_seq <| ke_region <| sr_go 1 rfl ?_
 obtain ⟨y1, hy2, hS⟩ := bS hS
 refine sr_cl Tryz.call67 (ref04_Limit_ok _ (hg.below hb) hy2) ?_
 rintro _ w3 ⟨rfl, hbw4⟩
 replace hb := hb.trans (hbw4.mono hb.size)
 refine sr_e (ev_quo rfl rfl (by decide)) ?_
 refine sr_go 1 rfl <| sr_fin [2] rfl ?_
 cases hS
 exact ke_ret1 Tryz.func110 rfl rfl ⟨_, rfl, rfl, hb⟩
theorem ref02_Int_B2_ok {w0 : World} (hg : Gs w0) {A0 : Nat → Prop} (hA0 : ∀ b, A0 b → b < w0.heap.size) (r0 : Int → Str → Int → Option (Str))
  (hr0 : ∀ {r : Str} {n_0 : Int} {out_3 : Str} {m_4 : Int}, r0 n_0 out_3 m_4 = some r → ∀ {w : World} {A : Nat → Prop}, (Below w0.heap.size w0 w) → (∀ b, A b → b < w.heap.size) → (∀ b, A0 b → A b) → (Hp A w0.heap.size w []) → KE Tryz.prog 138 (Ret (fun v w' => v = str r ∧ Below w0.heap.size w0 w')) 31 [.inLoop (sub (bodyOf Tryz.f138) [2, 2, 2, 1, 2, 2, 1]), .inBlock 0, .code (sub (bodyOf Tryz.f138) [2, 2, 2, 2])] [(0, .int .i64 n_0), (3, str out_3), (4, .int .i64 m_4)] w) {r : Str} {n_0 : Int} {out_3 : Str} {m_4 : Int} {d_5 : Int} (hS : ref02_Int_B2 r0 n_0 out_3 m_4 d_5 = some r) {w : World} {A : Nat → Prop} (hb : Below w0.heap.size w0 w) (hA : ∀ b, A b → b < w.heap.size) (hi : ∀ b, A0 b → A b) (hH : Hp A w0.heap.size w []) :
  KE Tryz.prog 138 (Ret (fun v w' => v = str r ∧ Below w0.heap.size w0 w')) 31 [.code (sub (bodyOf Tryz.f138) [2, 2, 2, 1, 2, 2, 1, 2, 1, 2, 2, 2]), .inBlock 1, .code (sub (bodyOf Tryz.f138) [2, 2, 2, 1, 2, 2, 1, 2, 2]), .inLoop (sub (bodyOf Tryz.f138) [2, 2, 2, 1, 2, 2, 1]), .inBlock 0, .code (sub (bodyOf Tryz.f138) [2, 2, 2, 2])] [(0, .int .i64 n_0), (3, str out_3), (4, .int .i64 m_4), (5, .int .i64 d_5)] w := by
 unfold ref02_Int_B2 at hS
 refine ke_region <| sr_go 2 rfl ?_
 refine sr_e (ev_conv Tryz.underlying5 Tryz.underlying3 rfl) ?_
 refine sr_lit (c := (intC .u8)) (A := A) (E := 5) (xs := [IntKind.u8.wrap (IntKind.i64.wrap (48 + d_5))]) (vs := #[(0, .int .u8 (IntKind.u8.wrap (IntKind.i64.wrap (48 + d_5))))]) (cs := #[.int .u8 (IntKind.u8.wrap (IntKind.i64.wrap (48 + d_5)))]) (css := [[.int .u8 (IntKind.u8.wrap (IntKind.i64.wrap (48 + d_5)))]]) rfl (fun _ => by kernel_rfl) rfl ⟨rfl, trivial⟩ rfl (by decide) hA (by decide) ?_
 intro v4 w6 h5 hbw7
 replace hb := hb.trans (hbw7.mono hb.size)
 replace hA := lt_mono hA hbw7.size
 replace hH := hH.below hbw7
 refine sr_e (ev_b2s h5 Tryz.underlying120 Tryz.underlying5 Tryz.underlying9 rfl) ?_
 refine sr_go 1 rfl ?_
 obtain ⟨hk8, hS⟩ := chk_some hS
 refine sr_e (ev_cat rfl rfl hk8) ?_
 refine sr_go 1 rfl <| sr_fin [0, 3, 4] rfl <| ke_inBlock <| ke_region <| sr_go 1 rfl ?_
 refine sr_e (ev_quo rfl rfl (by decide)) ?_
 refine sr_go 1 rfl <| sr_fin [0, 3, 4] rfl ?_
 have hK := hr0 hS hb hA hi hH
 exact ke_wk hK
theorem ref02_Int_L1_ok {w0 : World} (hg : Gs w0) {A0 : Nat → Prop} (hA0 : ∀ b, A0 b → b < w0.heap.size) : ∀ (n : Nat), ∀ {r : Str} {n_0 : Int} {out_3 : Str} {m_4 : Int}, ref02_Int_L1 n n_0 out_3 m_4 = some r → ∀ {w : World} {A : Nat → Prop}, (Below w0.heap.size w0 w) → (∀ b, A b → b < w.heap.size) → (∀ b, A0 b → A b) → (Hp A w0.heap.size w []) → KE Tryz.prog 138 (Ret (fun v w' => v = str r ∧ Below w0.heap.size w0 w')) 31 [.code (sub (bodyOf Tryz.f138) [2, 2, 2, 1, 2, 2, 1]), .inLoop (sub (bodyOf Tryz.f138) [2, 2, 2, 1, 2, 2, 1]), .inBlock 0, .code (sub (bodyOf Tryz.f138) [2, 2, 2, 2])] [(0, .int .i64 n_0), (3, str out_3), (4, .int .i64 m_4)] w := by
 intro n
 induction n with
 | zero => intro r n_0 out_3 m_4 hS; cases hS
 | succ n ih =>
  have hr0 : ∀ {r : Str} {n_0 : Int} {out_3 : Str} {m_4 : Int}, ref02_Int_L1 n n_0 out_3 m_4 = some r → ∀ {w : World} {A : Nat → Prop}, (Below w0.heap.size w0 w) → (∀ b, A b → b < w.heap.size) → (∀ b, A0 b → A b) → (Hp A w0.heap.size w []) → KE Tryz.prog 138 (Ret (fun v w' => v = str r ∧ Below w0.heap.size w0 w')) 31 [.inLoop (sub (bodyOf Tryz.f138) [2, 2, 2, 1, 2, 2, 1]), .inBlock 0, .code (sub (bodyOf Tryz.f138) [2, 2, 2, 2])] [(0, .int .i64 n_0), (3, str out_3), (4, .int .i64 m_4)] w := fun {r} {n_0} {out_3} {m_4} hS {w} {A} hb hA hi hH => ke_inLoop (ih hS hb hA hi hH)
  clear ih
  intro r n_0 out_3 m_4 hS w A hb hA hi hH
  unfold ref02_Int_L1 at hS
  refine ke_seq <| ke_seq <| ke_region <| sr_go 2 rfl <| sr_fin [0, 3, 4, 10] rfl ?_
  refine ke_cond rfl (fun hc2 => ?_) (fun hc2 => ?_)
  ·replace hS := iT hS hc2
   refine ke_skip <| ke_seq ?_
   refine ke_block ?_
   refine ke_seq <| ke_region <| sr_go 1 rfl ?_
   refine sr_e (ev_rem rfl rfl (by decide)) ?_
   refine sr_go 1 rfl <| sr_fin [0, 3, 4, 5] rfl <| ke_seq <| ke_seq <| ke_region <| sr_go 2 rfl <| sr_fin [0, 3, 4, 5, 16] rfl ?_
   refine ke_cond rfl (fun hc3 => ?_) (fun hc3 => ?_)
   ·replace hS := iT hS hc3
    refine ke_region <| sr_go 1 rfl ?_
    refine sr_e (ev_neg rfl) ?_
    refine sr_go 1 rfl <| sr_fin [0, 3, 4, 5] rfl ?_
    have hK := ref02_Int_B2_ok hg hA0 _ hr0 hS hb hA hi hH
    exact ke_wk hK
   ·replace hS := iF hS hc3
    refine ke_skip ?_
    have hK := ref02_Int_B2_ok hg hA0 _ hr0 hS hb hA hi hH
    exact ke_wk hK
  ·replace hS := iF hS hc2
   refine ke_exit (k' := _) rfl ?_
   refine ke_seq <| ke_seq <| ke_region <| sr_go 2 rfl <| sr_fin [3, 27] rfl ?_
   refine ke_cond rfl (fun hc9 => ?_) (fun hc9 => ?_)
   ·replace hS := iT hS hc9
    refine ke_seq <| ke_region <| sr_go 1 rfl ?_
    obtain ⟨hk10, hS⟩ := chk_some hS
    refine sr_e (ev_cat rfl rfl hk10) ?_
    refine sr_go 1 rfl <| sr_fin [2] rfl ?_
    cases hS
    exact ke_ret1 Tryz.func138 rfl rfl ⟨_, rfl, rfl, hb⟩
   ·replace hS := iF hS hc9
    refine ke_skip <| ke_seq <| ke_region <| sr_go 2 rfl <| sr_fin [2] rfl ?_
    cases hS
    exact ke_ret1 Tryz.func138 rfl rfl ⟨_, rfl, rfl, hb⟩
theorem ref02_Int_ok (w0 : World) (hg : Gs w0) {n_0 : Int} {r : Str} (hS : ref02_Int n_0 = some r) :
  Calls Tryz.prog 138 #[.int .i64 n_0] w0 (Ret (fun v w' => v = str r ∧ Below w0.heap.size w0 w')) := by
 unfold ref02_Int at hS
 have hb := Below.refl w0.heap.size w0
 obtain ⟨A0, hA0, hAe⟩ : ∃ A0 : Nat → Prop, (∀ b, A0 b → b < w0.heap.size) ∧ A0 = fun _ => False := ⟨_, fun _ h => h.elim, rfl⟩
 clear hAe
 have hA := hA0
 have hi : ∀ b, A0 b → A0 b := fun _ h => h
 have hH := Hp.nil A0 w0.heap.size w0
 refine ck Tryz.func138 [0] rfl rfl ?_
 refine ke_seq <| ke_region <| sr_go 1 rfl <| sr_fin [0] rfl <| ke_seq <| ke_seq <| ke_region <| sr_go 2 rfl <| sr_fin [0, 7] rfl ?_
 refine ke_cond rfl (fun hc1 => ?_) (fun hc1 => ?_)
 ·replace hS := iT hS hc1
  refine ke_seq <| ke_region <| sr_go 1 rfl <| sr_fin [2] rfl ?_
  cases hS
  exact ke_ret1 Tryz.func138 rfl rfl ⟨_, rfl, rfl, hb⟩
 ·replace hS := iF hS hc1
  refine ke_skip <| ke_seq <| ke_region <| sr_go 1 rfl <| sr_fin [0, 3] rfl <| ke_seq <| ke_seq <| ke_region <| sr_go 2 rfl <| sr_fin [0, 3, 4] rfl ?_
  refine ke_block ?_
  have hK := ref02_Int_L1_ok hg hA0 _ hS hb hA hi hH
  exact ke_wk (ke_loop hK)
theorem ref03_decimal_ok : ∀ (n : Nat) (w0 : World) (hg : Gs w0) {n_0 : Int} {r : Str} (hS : ref03_decimal n n_0 = some r),
  Calls Tryz.prog 146 #[.int .i64 n_0] w0 (Ret (fun v w' => v = str r ∧ Below w0.heap.size w0 w')) := by
 intro n
 induction n with
 | zero => intro w0 hg n_0 r hS; cases hS
 | succ n ih =>
  intro w0 hg n_0 r hS
  unfold ref03_decimal at hS
  have hb := Below.refl w0.heap.size w0
  refine ck Tryz.func146 [0] rfl rfl ?_
  refine ke_seq <| ke_region <| sr_go 1 rfl <| sr_fin [0] rfl <| ke_seq <| ke_seq <| ke_region <| sr_go 2 rfl <| sr_fin [0, 4] rfl ?_
  refine ke_cond rfl (fun hc1 => ?_) (fun hc1 => ?_)
  ·replace hS := iT hS hc1
   refine ke_seq <| ke_region <| sr_go 3 rfl ?_
   obtain ⟨hk2, hS⟩ := chk_some hS
   refine sr_e (ev_sslice Tryz.underlying9 rfl rfl rfl hk2) ?_
   refine sr_go 1 rfl <| sr_fin [2] rfl ?_
   cases hS
   exact ke_ret1 Tryz.func146 rfl rfl ⟨_, rfl, rfl, hb⟩
  ·replace hS := iF hS hc1
   refine ke_skip <| ke_seq <| ke_region <| sr_go 1 rfl ?_
   refine sr_e (ev_quo rfl rfl (by decide)) ?_
   obtain ⟨y3, hy4, hS⟩ := bS hS
   refine sr_cl Tryz.call146 (ih _ (hg.below hb) hy4) ?_
   rintro _ w5 ⟨rfl, hbw6⟩
   replace hb := hb.trans (hbw6.mono hb.size)
   refine sr_go 1 rfl ?_
   refine sr_e (ev_rem rfl rfl (by decide)) ?_
   obtain ⟨y7, hy8, hS⟩ := bS hS
   refine sr_cl Tryz.call146 (ih _ (hg.below hb) hy8) ?_
   rintro _ w9 ⟨rfl, hbw10⟩
   replace hb := hb.trans (hbw10.mono hb.size)
   obtain ⟨hk11, hS⟩ := chk_some hS
   refine sr_e (ev_cat rfl rfl hk11) ?_
   refine sr_go 1 rfl <| sr_fin [2] rfl ?_
   cases hS
   exact ke_ret1 Tryz.func146 rfl rfl ⟨_, rfl, rfl, hb⟩
theorem ref03_Mac_ok (w0 : World) (hg : Gs w0) {key_0 : Str} {s_1 : Str} {r : Str} (hS : ref03_Mac key_0 s_1 = some r) :
  Calls Tryz.prog 137 #[str key_0, str s_1] w0 (Ret (fun v w' => v = str r ∧ Below w0.heap.size w0 w')) := by
 unfold ref03_Mac at hS
 have hb := Below.refl w0.heap.size w0
 refine ck Tryz.func137 [0, 1] rfl rfl ?_
 refine ke_seq <| ke_region <| sr_go 1 rfl <| sr_fin [0, 1] rfl <| ke_seq <| ke_region <| sr_go 1 rfl ?_
 refine sr_e (ev_slen Tryz.underlying9 rfl) ?_
 obtain ⟨y1, hy2, hS⟩ := bS hS
 refine sr_cl Tryz.call146 (ref03_decimal_ok fuel _ (hg.below hb) hy2) ?_
 rintro _ w3 ⟨rfl, hbw4⟩
 replace hb := hb.trans (hbw4.mono hb.size)
 obtain ⟨hk5, hS⟩ := chk_some hS
 refine sr_e (ev_cat rfl rfl hk5) ?_
 refine sr_go 1 rfl ?_
 obtain ⟨hk6, hS⟩ := chk_some hS
 refine sr_e (ev_cat rfl rfl hk6) ?_
 refine sr_go 1 rfl <| sr_fin [1, 5] rfl <| ke_seq <| ke_region <| sr_go 3 rfl ?_
 obtain ⟨hk7, hS⟩ := chk_some hS
 refine sr_e (ev_cat rfl rfl hk7) ?_
 obtain ⟨y8, hy9, hS⟩ := bS hS
 refine sr_cl Tryz.call123 (ref03_Text_ok _ (hg.below hb) hy9) ?_
 rintro _ w10 ⟨rfl, hbw11⟩
 replace hb := hb.trans (hbw11.mono hb.size)
 obtain ⟨hk12, hS⟩ := chk_some hS
 refine sr_e (ev_cat rfl rfl hk12) ?_
 obtain ⟨y13, hy14, hS⟩ := bS hS
 refine sr_cl Tryz.call123 (ref03_Text_ok _ (hg.below hb) hy14) ?_
 rintro _ w15 ⟨rfl, hbw16⟩
 replace hb := hb.trans (hbw16.mono hb.size)
 refine sr_go 1 rfl <| sr_fin [4] rfl ?_
 cases hS
 exact ke_ret1 Tryz.func137 rfl rfl ⟨_, rfl, rfl, hb⟩
theorem ref23_six_L1_ok {w0 : World} (hg : Gs w0) : ∀ (n : Nat), ∀ {r : Str} {s_3 : Str}, ref23_six_L1 n s_3 = some r → ∀ {w : World}, (Below w0.heap.size w0 w) → KE Tryz.prog 136 (Ret (fun v w' => v = str r ∧ Below w0.heap.size w0 w')) 12 [.code (sub (bodyOf Tryz.f136) [2, 2, 1, 2, 1]), .inLoop (sub (bodyOf Tryz.f136) [2, 2, 1, 2, 1]), .inBlock 0, .code (sub (bodyOf Tryz.f136) [2, 2, 2])] [(3, str s_3)] w := by
 intro n
 induction n with
 | zero => intro r s_3 hS; cases hS
 | succ n ih =>
  have hr0 : ∀ {r : Str} {s_3 : Str}, ref23_six_L1 n s_3 = some r → ∀ {w : World}, (Below w0.heap.size w0 w) → KE Tryz.prog 136 (Ret (fun v w' => v = str r ∧ Below w0.heap.size w0 w')) 12 [.inLoop (sub (bodyOf Tryz.f136) [2, 2, 1, 2, 1]), .inBlock 0, .code (sub (bodyOf Tryz.f136) [2, 2, 2])] [(3, str s_3)] w := fun {r} {s_3} hS {w} hb => ke_inLoop (ih hS hb)
  clear ih
  intro r s_3 hS w hb
  unfold ref23_six_L1 at hS
  refine ke_seq <| ke_seq <| ke_region <| sr_go 1 rfl ?_
  refine sr_e (ev_slen Tryz.underlying9 rfl) ?_
  refine sr_go 1 rfl <| sr_fin [3, 8] rfl ?_
  refine ke_cond rfl (fun hc5 => ?_) (fun hc5 => ?_)
  ·replace hS := iT hS hc5
   refine ke_skip ?_
   refine ke_block ?_
   refine ke_region <| sr_go 1 rfl ?_
   obtain ⟨hk6, hS⟩ := chk_some hS
   refine sr_e (ev_cat rfl rfl hk6) ?_
   refine sr_go 1 rfl <| sr_fin [3] rfl <| ke_inBlock ?_
   have hK := hr0 hS hb
   exact ke_wk hK
  ·replace hS := iF hS hc5
   refine ke_exit (k' := _) rfl ?_
   refine ke_seq <| ke_region <| sr_go 2 rfl <| sr_fin [2] rfl ?_
   cases hS
   exact ke_ret1 Tryz.func136 rfl rfl ⟨_, rfl, rfl, hb⟩
theorem ref23_six_ok (w0 : World) (hg : Gs w0) {n_0 : Int} {r : Str} (hS : ref23_six n_0 = some r) :
  Calls Tryz.prog 136 #[.int .i64 n_0] w0 (Ret (fun v w' => v = str r ∧ Below w0.heap.size w0 w')) := by
 unfold ref23_six at hS
 have hb := Below.refl w0.heap.size w0
 refine ck Tryz.func136 [0] rfl rfl ?_
 refine ke_seq <| ke_region <| sr_go 1 rfl <| sr_fin [0] rfl <| ke_seq <| ke_region <| sr_go 1 rfl ?_
 obtain ⟨y1, hy2, hS⟩ := bS hS
 refine sr_cl Tryz.call138 (ref02_Int_ok _ (hg.below hb) hy2) ?_
 rintro _ w3 ⟨rfl, hbw4⟩
 replace hb := hb.trans (hbw4.mono hb.size)
 refine sr_go 1 rfl <| sr_fin [3] rfl <| ke_seq ?_
 refine ke_block ?_
 have hK := ref23_six_L1_ok hg _ hS hb
 exact ke_wk (ke_loop hK)
theorem ref23_Code_ok (w0 : World) (hg : Gs w0) {secret_0 : Str} {counter_1 : Int} {r : Str × Int} (hS : ref23_Code secret_0 counter_1 = some r) :
  Calls Tryz.prog 124 #[str secret_0, .int .i64 counter_1] w0 (Ret (fun v w' => v = .tuple #[str r.1, .int .i64 r.2] ∧ Below w0.heap.size w0 w')) := by
 unfold ref23_Code at hS
 have hb := Below.refl w0.heap.size w0
 refine ck Tryz.func124 [0, 1] rfl rfl ?_
 refine ke_seq <| ke_region <| sr_go 2 rfl <| sr_fin [0, 1] rfl <| ke_seq <| ke_seq <| ke_region <| sr_go 1 rfl ?_
 obtain ⟨y1, hy2, hS⟩ := bS hS
 refine sr_cl Tryz.call63 (ref01_Clean_ok _ (hg.below hb) hy2) ?_
 rintro _ w3 ⟨rfl, hbw4⟩
 replace hb := hb.trans (hbw4.mono hb.size)
 refine sr_go 1 rfl <| sr_fin [0, 1, 8] rfl ?_
 refine ke_cond rfl (fun hc5 => ?_) (fun hc5 => ?_)
 ·replace hS := iT hS hc5
  refine ke_seq <| ke_region <| sr_go 2 rfl <| sr_fin [4, 5] rfl ?_
  cases hS
  exact ke_ret2 Tryz.func124 rfl rfl rfl ⟨_, rfl, rfl, hb⟩
 ·replace hS := iF hS hc5
  refine ke_skip <| ke_seq <| ke_seq <| ke_region <| sr_go 3 rfl ?_
  refine sr_join (m := 3) (C := fun (x : Bool) w1 => x = ((decide (counter_1 < 0)) || (decide (counter_1 > 36650387592))) ∧ w3 = w1) (l' := fun x => [(0, str secret_0), (1, .int .i64 counter_1), (14, .bool x)]) ?_ ?_
  ·rintro _ _ ⟨rfl, rfl⟩
   refine sr_fin [0, 1, 14] rfl ?_
   refine ke_cond rfl (fun hc13 => ?_) (fun hc13 => ?_)
   ·replace hS := iT hS hc13
    refine ke_seq <| ke_region <| sr_go 2 rfl <| sr_fin [4, 5] rfl ?_
    cases hS
    exact ke_ret2 Tryz.func124 rfl rfl rfl ⟨_, rfl, rfl, hb⟩
   ·replace hS := iF hS hc13
    refine ke_skip <| ke_seq <| ke_region <| sr_go 2 rfl ?_
    obtain ⟨y14, hy15, hS⟩ := bS hS
    refine sr_cl Tryz.call138 (ref02_Int_ok _ (hg.below hb) hy15) ?_
    rintro _ w16 ⟨rfl, hbw17⟩
    replace hb := hb.trans (hbw17.mono hb.size)
    obtain ⟨y18, hy19, hS⟩ := bS hS
    refine sr_cl Tryz.call137 (ref03_Mac_ok _ (hg.below hb) hy19) ?_
    rintro _ w20 ⟨rfl, hbw21⟩
    replace hb := hb.trans (hbw21.mono hb.size)
    obtain ⟨y22, hy23, hS⟩ := bS hS
    refine sr_cl Tryz.call135 (ref03_Sum_ok _ (hg.below hb) hy23) ?_
    rintro _ w24 ⟨rfl, hbw25⟩
    replace hb := hb.trans (hbw25.mono hb.size)
    refine sr_e (ev_rem rfl rfl (by decide)) ?_
    refine sr_e (ev_conv Tryz.underlying3 Tryz.underlying116 rfl) ?_
    obtain ⟨y26, hy27, hS⟩ := bS hS
    refine sr_cl Tryz.call136 (ref23_six_ok _ (hg.below hb) hy27) ?_
    rintro _ w28 ⟨rfl, hbw29⟩
    replace hb := hb.trans (hbw29.mono hb.size)
    refine sr_go 2 rfl <| sr_fin [4, 5] rfl ?_
    cases hS
    exact ke_ret2 Tryz.func124 rfl rfl rfl ⟨_, rfl, rfl, hb⟩
  ·intro K7
   rcases Bool.eq_false_or_eq_true (decide (counter_1 < 0)) with hg6 | hg6
   ·refine sr_setb 11 rfl hg6 <| sr_go 3 rfl ?_
    exact sr_wk (K7 true _ ⟨by rw [hg6]; rfl, rfl⟩)
   ·refine sr_setb 11 rfl hg6 <| sr_go 3 rfl ?_
    exact sr_wk (K7 (decide (counter_1 > 36650387592)) _ ⟨by rw [hg6]; rfl, rfl⟩)
theorem ref23_first_L1_ok {w0 : World} (hg : Gs w0) : ∀ (n : Nat), ∀ {r : Int × Int} {secret_0 : Str} {to_2 : Int} {code_3 : Str} {c_10 : Int}, ref23_first_L1 n secret_0 to_2 code_3 c_10 = some r → ∀ {w : World}, (Below w0.heap.size w0 w) → KE Tryz.prog 109 (Ret (fun v w' => v = .tuple #[.int .i64 r.1, .int .i64 r.2] ∧ Below w0.heap.size w0 w')) 33 [.code (sub (bodyOf Tryz.f109) [2, 1, 2, 2, 1]), .inLoop (sub (bodyOf Tryz.f109) [2, 1, 2, 2, 1]), .inBlock 0, .code (sub (bodyOf Tryz.f109) [2, 2])] [(0, str secret_0), (2, .int .i64 to_2), (3, str code_3), (10, .int .i64 c_10)] w := by
 intro n
 induction n with
 | zero => intro r secret_0 to_2 code_3 c_10 hS; cases hS
 | succ n ih =>
  have hr0 : ∀ {r : Int × Int} {secret_0 : Str} {to_2 : Int} {code_3 : Str} {c_10 : Int}, ref23_first_L1 n secret_0 to_2 code_3 c_10 = some r → ∀ {w : World}, (Below w0.heap.size w0 w) → KE Tryz.prog 109 (Ret (fun v w' => v = .tuple #[.int .i64 r.1, .int .i64 r.2] ∧ Below w0.heap.size w0 w')) 33 [.inLoop (sub (bodyOf Tryz.f109) [2, 1, 2, 2, 1]), .inBlock 0, .code (sub (bodyOf Tryz.f109) [2, 2])] [(0, str secret_0), (2, .int .i64 to_2), (3, str code_3), (10, .int .i64 c_10)] w := fun {r} {secret_0} {to_2} {code_3} {c_10} hS {w} hb => ke_inLoop (ih hS hb)
  clear ih
  intro r secret_0 to_2 code_3 c_10 hS w hb
  unfold ref23_first_L1 at hS
  refine ke_seq <| ke_seq <| ke_region <| sr_go 3 rfl <| sr_fin [0, 2, 3, 10, 16] rfl ?_
  refine ke_cond rfl (fun hc1 => ?_) (fun hc1 => ?_)
  ·replace hS := iT hS hc1
   refine ke_skip <| ke_seq ?_
   refine ke_block ?_
   refine ke_seq <| ke_region <| sr_go 2 rfl ?_
   obtain ⟨y2, hy3, hS⟩ := bS hS
   refine sr_cl Tryz.call124 (ref23_Code_ok _ (hg.below hb) hy3) ?_
   rintro _ w4 ⟨rfl, hbw5⟩
   replace hb := hb.trans (hbw5.mono hb.size)
   refine sr_go 5 rfl <| sr_fin [0, 2, 3, 10, 11, 12] rfl <| ke_seq <| ke_region <| sr_go 3 rfl ?_
   refine sr_join (m := 4) (C := fun (x : Bool) w1 => x = ((y2.2 == 0) && (y2.1 == code_3)) ∧ w4 = w1) (l' := fun x => [(0, str secret_0), (2, .int .i64 to_2), (3, str code_3), (10, .int .i64 c_10), (31, .bool x)]) ?_ ?_
   ·rintro _ _ ⟨rfl, rfl⟩
    refine sr_fin [0, 2, 3, 10, 31] rfl ?_
    refine ke_cond rfl (fun hc13 => ?_) (fun hc13 => ?_)
    ·replace hS := iT hS hc13
     refine ke_seq <| ke_region <| sr_go 3 rfl <| sr_fin [8, 9] rfl ?_
     cases hS
     exact ke_ret2 Tryz.func109 rfl rfl rfl ⟨_, rfl, rfl, hb⟩
    ·replace hS := iF hS hc13
     refine ke_skip <| ke_inBlock <| ke_region <| sr_go 3 rfl <| sr_fin [0, 2, 3, 10] rfl ?_
     have hK := hr0 hS hb
     exact ke_wk hK
   ·intro K7
    rcases Bool.eq_false_or_eq_true (y2.2 == 0) with hg6 | hg6
    ·refine sr_setb 27 rfl hg6 <| sr_go 2 rfl ?_
     refine sr_eg rfl (ev_seq rfl rfl) ?_
     refine sr_go 1 rfl ?_
     exact sr_wk (K7 (y2.1 == code_3) _ ⟨by rw [hg6]; rfl, rfl⟩)
    ·refine sr_setb 27 rfl hg6 <| sr_go 4 rfl ?_
     exact sr_wk (K7 false _ ⟨by rw [hg6]; rfl, rfl⟩)
  ·replace hS := iF hS hc1
   refine ke_exit (k' := _) rfl ?_
   refine ke_seq <| ke_region <| sr_go 2 rfl <| sr_fin [8, 9] rfl ?_
   cases hS
   exact ke_ret2 Tryz.func109 rfl rfl rfl ⟨_, rfl, rfl, hb⟩
theorem ref23_first_ok (w0 : World) (hg : Gs w0) {secret_0 : Str} {from_1 : Int} {to_2 : Int} {code_3 : Str} {r : Int × Int} (hS : ref23_first secret_0 from_1 to_2 code_3 = some r) :
  Calls Tryz.prog 109 #[str secret_0, .int .i64 from_1, .int .i64 to_2, str code_3] w0 (Ret (fun v w' => v = .tuple #[.int .i64 r.1, .int .i64 r.2] ∧ Below w0.heap.size w0 w')) := by
 unfold ref23_first at hS
 have hb := Below.refl w0.heap.size w0
 refine ck Tryz.func109 [0, 1, 2, 3] rfl rfl ?_
 refine ke_seq <| ke_region <| sr_go 2 rfl <| sr_fin [0, 1, 2, 3] rfl <| ke_seq <| ke_seq <| ke_region <| sr_go 2 rfl <| sr_fin [0, 2, 3, 10] rfl ?_
 refine ke_block ?_
 have hK := ref23_first_L1_ok hg _ hS hb
 exact ke_wk (ke_loop hK)
theorem ref23_VerifyAt_ok (w0 : World) (hg : Gs w0) {secret_0 : Str} {last_1 : Int} {now_2 : Int} {skew_3 : Int} {code_4 : Str} {r : Int × Int} (hS : ref23_VerifyAt secret_0 last_1 now_2 skew_3 code_4 = some r) :
  Calls Tryz.prog 73 #[str secret_0, .int .i64 last_1, .int .i64 now_2, .int .i64 skew_3, str code_4] w0 (Ret (fun v w' => v = .tuple #[.int .i64 r.1, .int .i64 r.2] ∧ Below w0.heap.size w0 w')) := by
 unfold ref23_VerifyAt at hS
 have hb := Below.refl w0.heap.size w0
 refine ck Tryz.func73 [0, 1, 2, 3, 4] rfl rfl ?_
 refine ke_seq <| ke_region <| sr_go 2 rfl <| sr_fin [0, 1, 2, 3, 4] rfl <| ke_seq <| ke_seq <| ke_region <| sr_go 1 rfl ?_
 obtain ⟨y1, hy2, hS⟩ := bS hS
 refine sr_cl Tryz.call63 (ref01_Clean_ok _ (hg.below hb) hy2) ?_
 rintro _ w3 ⟨rfl, hbw4⟩
 replace hb := hb.trans (hbw4.mono hb.size)
 refine sr_go 2 rfl ?_
 obtain ⟨z7, hz9, hS⟩ := bS hS
 refine sr_join (m := 4) (C := fun (x : Bool) w1 => z7 = x ∧ Below w3.heap.size w3 w1) (l' := fun x => [(0, str secret_0), (1, .int .i64 last_1), (2, .int .i64 now_2), (3, .int .i64 skew_3), (4, str code_4), (20, .bool x)]) ?_ ?_
 ·rintro _ w10 ⟨rfl, hbw11⟩
  replace hb := hb.trans (hbw11.mono hb.size)
  refine sr_fin [0, 1, 2, 3, 4, 20] rfl ?_
  refine ke_cond rfl (fun hc16 => ?_) (fun hc16 => ?_)
  ·replace hS := iT hS hc16
   refine ke_seq <| ke_region <| sr_go 2 rfl <| sr_fin [10, 11] rfl ?_
   cases hS
   exact ke_ret2 Tryz.func73 rfl rfl rfl ⟨_, rfl, rfl, hb⟩
  ·replace hS := iF hS hc16
   refine ke_skip <| ke_seq <| ke_seq <| ke_region <| sr_go 3 rfl ?_
   refine sr_join (m := 3) (C := fun (x : Bool) w1 => x = ((decide (last_1 < (-1))) || (decide (last_1 > 36650387592))) ∧ w10 = w1) (l' := fun x => [(0, str secret_0), (1, .int .i64 last_1), (2, .int .i64 now_2), (3, .int .i64 skew_3), (4, str code_4), (26, .bool x)]) ?_ ?_
   ·rintro _ _ ⟨rfl, rfl⟩
    refine sr_fin [0, 1, 2, 3, 4, 26] rfl ?_
    refine ke_cond rfl (fun hc24 => ?_) (fun hc24 => ?_)
    ·replace hS := iT hS hc24
     refine ke_seq <| ke_region <| sr_go 2 rfl <| sr_fin [10, 11] rfl ?_
     cases hS
     exact ke_ret2 Tryz.func73 rfl rfl rfl ⟨_, rfl, rfl, hb⟩
    ·replace hS := iF hS hc24
     refine ke_skip <| ke_seq <| ke_region <| sr_go 1 rfl ?_
     refine sr_e (ev_min rfl rfl) ?_
     refine sr_e (ev_max rfl rfl) ?_
     refine sr_e (ev_quo rfl rfl (by decide)) ?_
     refine sr_go 1 rfl <| sr_fin [0, 1, 2, 4, 12] rfl <| ke_seq <| ke_region <| sr_go 4 rfl ?_
     obtain ⟨y25, hy26, hS⟩ := bS hS
     refine sr_cl Tryz.call110 (ref23_Counter_ok _ (hg.below hb) hy26) ?_
     rintro _ w27 ⟨rfl, hbw28⟩
     replace hb := hb.trans (hbw28.mono hb.size)
     refine sr_go 2 rfl ?_
     refine sr_e (ev_max rfl rfl) ?_
     refine sr_go 1 rfl ?_
     obtain ⟨y29, hy30, hS⟩ := bS hS
     refine sr_cl Tryz.call110 (ref23_Counter_ok _ (hg.below hb) hy30) ?_
     rintro _ w31 ⟨rfl, hbw32⟩
     replace hb := hb.trans (hbw32.mono hb.size)
     refine sr_go 2 rfl ?_
     refine sr_e (ev_min rfl rfl) ?_
     refine sr_go 1 rfl ?_
     obtain ⟨y33, hy34, hS⟩ := bS hS
     refine sr_cl Tryz.call109 (ref23_first_ok _ (hg.below hb) hy34) ?_
     rintro _ w35 ⟨rfl, hbw36⟩
     replace hb := hb.trans (hbw36.mono hb.size)
     refine sr_go 4 rfl <| sr_fin [10, 11] rfl ?_
     cases hS
     exact ke_ret2 Tryz.func73 rfl rfl rfl ⟨_, rfl, rfl, hb⟩
   ·intro K18
    rcases Bool.eq_false_or_eq_true (decide (last_1 < (-1))) with hg17 | hg17
    ·refine sr_setb 23 rfl hg17 <| sr_go 3 rfl ?_
     exact sr_wk (K18 true _ ⟨by rw [hg17]; rfl, rfl⟩)
    ·refine sr_setb 23 rfl hg17 <| sr_go 3 rfl ?_
     exact sr_wk (K18 (decide (last_1 > 36650387592)) _ ⟨by rw [hg17]; rfl, rfl⟩)
 ·intro K6
  clear hS
  have hj8 := Below.refl w3.heap.size w3
  rcases Bool.eq_false_or_eq_true (!y1) with hg5 | hg5
  ·have hS := iT hz9 hg5
   refine sr_setb 16 rfl hg5 <| sr_go 4 rfl ?_
   exact sr_wk (K6 true _ ⟨(Option.some.inj hS).symm, hj8⟩)
  ·have hS := iF hz9 hg5
   refine sr_setb 16 rfl hg5 <| sr_go 1 rfl ?_
   obtain ⟨y12, hy13, hS⟩ := bS hS
   refine sr_callg (b := false) (e := 16) rfl rfl rfl (vs := [str code_4]) rfl Tryz.call108 rfl (ref23_possible_ok _ (hg.below hb) hy13) (by decide) ?_
   rintro _ w14 ⟨rfl, hbw15⟩
   replace hb := hb.trans (hbw15.mono hb.size)
   replace hj8 := hj8.trans (hbw15.mono hj8.size)
   refine sr_go 2 rfl ?_
   exact sr_wk (K6 (!y12) _ ⟨(Option.some.inj hS).symm, hj8⟩)
theorem ref39_Logins_Code_ok (w0 : World) (hg : Gs w0) {ρA : Tags} (hbd : ∀ b, ρA b ≠ 0 → b < w0.heap.size) (hz : Gz ρA) {o : Nat} (ho2 : 2 ≤ o) {l_0 : ref39_Logins} {id_1 : Str} {code_2 : Str} {now_3 : Int} {gl_0 : Nat} {r : Int × ref39_Logins} (ho0 : ref39_Logins.O (fun p => o + p) ρA w0 gl_0 l_0) (hS : ref39_Logins_Code l_0 id_1 code_2 now_3 = some r) :
  Calls Tryz.prog 31 #[pT gl_0 0, str id_1, str code_2, .int .i64 now_3] w0 (Ret (fun v w' => ∃ ρ', v = .int .i64 r.1 ∧ ref39_Logins.O (fun p => o + p) ρ' w' gl_0 r.2 ∧ Tr ρA w0 (rng o 6) ρ' w')) := by
 unfold ref39_Logins_Code at hS
 have hb := enter_fr (ρ := ρA) (w := w0) (n := 6) ho2 hbd
 have hz := hz.enter (n := 6) ho2
 obtain ⟨v1, v3, v5, M7, hB9, hP2, h4, h6, hN8⟩ := ho0
 replace hB9 := hB9.mv (enter_mv (p := 0) (n := 6) (by decide) ho2)
 replace hP2 := PtrO.mv hP2 ref22_Locks.objK (fun p hp => enter_mv (p := 1 + p) (n := 6) (by omega) ho2) (fun p hp => by omega)
 replace h4 := h4.mv (enter_mv (p := 3) (n := 6) (by decide) ho2) (by decide)
 replace h6 := h6.mv (enter_mv (p := 4) (n := 6) (by decide) ho2) (by decide)
 replace hN8 := hN8.mv (enter_mv (p := 5) (n := 6) (by decide) ho2) (by decide)
 refine ck Tryz.func31 [0, 1, 2, 3] rfl rfl ?_
 refine ke_seq <| ke_region <| sr_go 1 rfl <| sr_fin [0, 1, 2, 3] rfl <| ke_seq <| ke_region <| sr_go 3 rfl ?_
 obtain ⟨y10, hy11, hS⟩ := bS hS
 refine sr_cb Tryz.call68 (ref39_presented_ok _ (hg.fr hz hb) hb.bd (hz.fr hg hb) (τ0 := (fun p => 100 + p)) (fun p => Nat.le_add_right_of_le (by decide)) (by exact ⟨_, _, _, _, hB9, hP2, h4, h6, hN8⟩) hy11) hb.bd ?_
 intro w12 t14
 replace hB9 := hB9.m t14
 replace hP2 := hP2.m ref22_Locks.objK t14
 replace h4 := h4.m t14
 replace h6 := h6.m t14
 replace hN8 := hN8.m t14
 replace hb := hb.trans t14
 refine sr_go 5 rfl <| sr_fin [0, 2, 3, 9, 10] rfl <| ke_seq <| ke_seq <| ke_region <| sr_go 2 rfl <| sr_fin [0, 2, 3, 9, 10, 23] rfl ?_
 refine ke_cond rfl (fun hc15 => ?_) (fun hc15 => ?_)
 ·replace hS := iT hS hc15
  refine ke_seq <| ke_region <| sr_go 2 rfl <| sr_fin [8] rfl ?_
  cases hS
  exact ke_ret1 Tryz.func31 rfl rfl ⟨_, rfl, _, rfl, ⟨_, _, _, _, (hB9.lv 0 hb), (hP2.lv ref22_Locks.objK ho2 hb), (h4.lv 3 ho2 hb), (h6.lv 4 ho2 hb), (hN8.lv 5 ho2 hb)⟩, (leave_tr ho2 hb)⟩
 ·replace hS := iF hS hc15
  refine ke_skip <| ke_seq <| ke_region <| sr_go 2 rfl ?_
  refine sr_fa 2 Tryz.underlying96 rfl Tryz.info94 ?_
  refine sr_ld v5 Tryz.isAgg94 rfl (hB9.cell rfl) ?_
  refine sr_go 1 rfl ?_
  obtain ⟨y16, hy17, hS⟩ := bS hS
  obtain ⟨b18, o19, cs21, hq22, he20, hg26, ho27⟩ := h6.elemQ (P := Tryz.prog) Tryz.underlying94 Tryz.info108 rfl hy17
  obtain ⟨v23, hcshe20, hR25⟩ := he20.rd
  obtain rfl : cs21 = [str y16.id, str y16.user, .int .i64 y16.begun, v23] := hcshe20
  have h24 := hN8.sl hR25
  refine sr_e (hq22 w12 rfl rfl) ?_
  refine sr_fa (o19 + 1) Tryz.underlying108 rfl Tryz.info9 ?_
  refine sr_ld (str y16.user) Tryz.isAgg9 rfl (he20.cell 1 _ rfl) ?_
  refine sr_go 1 rfl <| sr_fin [0, 2, 3, 9, 11] rfl <| ke_seq <| ke_region <| sr_go 2 rfl ?_
  obtain ⟨y28, hy29, hS⟩ := bS hS
  refine sr_cb Tryz.call64 (ref39_at_ok _ (hg.fr hz hb) hb.bd (hz.fr hg hb) (τ0 := (fun p => 100 + p)) (fun p => Nat.le_add_right_of_le (by decide)) (by exact ⟨_, _, _, _, hB9, hP2, h4, h6, hN8⟩) hy29) hb.bd ?_
  intro w30 t32
  replace hB9 := hB9.m t32
  replace hP2 := hP2.m ref22_Locks.objK t32
  replace h4 := h4.m t32
  replace h6 := h6.m t32
  replace hN8 := hN8.m t32
  replace hb := hb.trans t32
  refine sr_go 1 rfl <| sr_fin [0, 2, 3, 9, 11, 12] rfl <| ke_seq <| ke_seq <| ke_region <| sr_go 3 rfl ?_
  obtain ⟨z35, hz37, hS⟩ := bS hS
  refine sr_join (m := 10) (C := fun (z : Bool) w1 => z35 = z ∧ ∃ ρ1, Tr (enter ρA o 6) w30 (fun _ => false) ρ1 w1) (l' := fun z => [(0, pT gl_0 0), (2, str code_2), (3, .int .i64 now_3), (9, .int .i64 y10.1), (11, str y16.user), (12, .int .i64 y28), (48, .bool z)]) ?_ ?_
  ·rintro _ w38 ⟨rfl, ρ39, hj36⟩
   replace hB9 := hB9.m hj36
   replace hP2 := hP2.m ref22_Locks.objK hj36
   replace h4 := h4.m hj36
   replace h6 := h6.m hj36
   replace hN8 := hN8.m hj36
   replace hb := hb.trans hj36
   refine sr_fin [0, 2, 3, 9, 11, 12, 48] rfl ?_
   refine ke_cond rfl (fun hc50 => ?_) (fun hc50 => ?_)
   ·replace hS := iT hS hc50
    refine ke_seq <| ke_region <| sr_go 2 rfl ?_
    refine sr_fa 0 Tryz.underlying96 rfl Tryz.info90 ?_
    refine sr_ld v1 Tryz.isAgg90 rfl (hB9.cell rfl) ?_
    refine sr_go 2 rfl ?_
    rcases ho52 : l_0.locks with _ | z51
    ·replace hS := optC_none hS ho52
     obtain rfl := hP2.none_ ho52
     obtain ⟨y66, hy67, hS⟩ := bS hS
     refine sr_cb Tryz.call70 (ref22_Locks_Fail__nil_ok _ (hg.fr hz hb) hb.bd (hz.fr hg hb) hy67) hb.bd ?_
     intro w68 t70
     replace hB9 := hB9.m t70
     replace h4 := h4.m t70
     replace h6 := h6.m t70
     replace hN8 := hN8.m t70
     replace hb := hb.trans t70
     refine sr_fin [] rfl <| ke_seq <| ke_region <| sr_go 1 rfl <| sr_fin [8] rfl ?_
     cases hS
     exact ke_ret1 Tryz.func31 rfl rfl ⟨_, rfl, _, rfl, ⟨_, _, _, _, (hB9.lv 0 hb), PtrO.nil, (h4.lv 3 ho2 hb), (h6.lv 4 ho2 hb), (hN8.lv 5 ho2 hb)⟩, (leave_tr ho2 hb)⟩
    ·replace hS := optC_some hS ho52
     obtain ⟨g53, rfl, ⟨v54, hB56, h55⟩⟩ := hP2.some_ ho52
     obtain ⟨y57, hy58, hS⟩ := bS hS
     refine sr_cl Tryz.call70 (ref22_Locks_Fail_ok _ (hg.fr hz hb) hb.bd (hz.fr hg hb) (o := 101) (by decide) (by exact ⟨_, hB56, h55⟩) hy58) ?_
     rintro _ w59 ⟨ρ65, rfl, ⟨v62, hB64, h63⟩, t61⟩
     replace hB9 := hB9.m t61
     replace h4 := h4.m t61
     replace h6 := h6.m t61
     replace hN8 := hN8.m t61
     replace hb := hb.trans t61
     refine sr_fin [] rfl <| ke_seq <| ke_region <| sr_go 1 rfl <| sr_fin [8] rfl ?_
     cases hS
     exact ke_ret1 Tryz.func31 rfl rfl ⟨_, rfl, _, rfl, ⟨_, _, _, _, (hB9.lv 0 hb), (PtrO.mk ⟨_, (hB64.lv 1 hb), (h63.lv 2 ho2 hb)⟩), (h4.lv 3 ho2 hb), (h6.lv 4 ho2 hb), (hN8.lv 5 ho2 hb)⟩, (leave_tr ho2 hb)⟩
   ·replace hS := iF hS hc50
    refine ke_skip <| ke_seq ?_
    refine ke_region_q Tryz.mixed (by kernel_rfl) ?_
    refine sq_go 2 rfl ?_
    refine sq_ev (v := pT gl_0 1) (fun w1 hw1 => ev_fieldAddr (i := 1) Tryz.underlying96 rfl Tryz.info93 rfl rfl) (by decide) ?_
    refine sq_ev (v := v3) (fun w1 hw1 => ev_load Tryz.isAgg93 rfl ((hB9.mv (Mv.of_below (i := 100) (ρ := ρ39) hw1)).cell rfl)) (by decide) ?_
    refine sq_go 1 rfl ?_
    obtain ⟨y73, hy74, hS⟩ := bS hS
    obtain ⟨b75, o76, cs78, hq79, he77, hg80, ho81⟩ := h4.elemQ (P := Tryz.prog) Tryz.underlying93 Tryz.info103 rfl hy74
    obtain rfl : cs78 = [str y73.name, str y73.v.Salt, .int .i64 y73.v.Rounds, str y73.v.Hash, str y73.code, .int .i64 y73.last] := he77.rd
    refine sq_ev (v := pT b75 o76) (fun w1 hw1 => hq79 w1 rfl rfl) (by decide) ?_
    refine sq_ev (v := pT b75 (o76 + 4)) (fun w1 hw1 => ev_fieldAddr (i := 2) Tryz.underlying103 rfl Tryz.info9 rfl rfl) (by decide) ?_
    refine sq_ev (v := str y73.code) (fun w1 hw1 => ev_load Tryz.isAgg9 rfl ((he77.mv (Mv.of_below (i := 103) (ρ := ρ39) hw1) (Nat.succ_pos _)).cell 4 _ rfl)) (by decide) ?_
    refine sq_go 2 rfl ?_
    refine sq_ev (v := pT gl_0 1) (fun w1 hw1 => ev_fieldAddr (i := 1) Tryz.underlying96 rfl Tryz.info93 rfl rfl) (by decide) ?_
    refine sq_ev (v := v3) (fun w1 hw1 => ev_load Tryz.isAgg93 rfl ((hB9.mv (Mv.of_below (i := 100) (ρ := ρ39) hw1)).cell rfl)) (by decide) ?_
    refine sq_go 1 rfl ?_
    obtain ⟨y82, hy83, hS⟩ := bS hS
    obtain ⟨b84, o85, cs87, hq88, he86, hg89, ho90⟩ := h4.elemQ (P := Tryz.prog) Tryz.underlying93 Tryz.info103 rfl hy83
    obtain rfl : cs87 = [str y82.name, str y82.v.Salt, .int .i64 y82.v.Rounds, str y82.v.Hash, str y82.code, .int .i64 y82.last] := he86.rd
    refine sq_ev (v := pT b84 o85) (fun w1 hw1 => hq88 w1 rfl rfl) (by decide) ?_
    refine sq_ev (v := pT b84 (o85 + 5)) (fun w1 hw1 => ev_fieldAddr (i := 3) Tryz.underlying103 rfl Tryz.info3 rfl rfl) (by decide) ?_
    refine sq_ev (v := .int .i64 y82.last) (fun w1 hw1 => ev_load Tryz.isAgg3 rfl ((he86.mv (Mv.of_below (i := 103) (ρ := ρ39) hw1) (Nat.succ_pos _)).cell 5 _ rfl)) (by decide) ?_
    refine sq_go 2 rfl ?_
    obtain ⟨y91, hy92, hS⟩ := bS hS
    refine sq_call (v := .tuple #[.int .i64 y91.1, .int .i64 y91.2]) (vs := [str y73.code, .int .i64 y82.last, .int .i64 now_3, .int .i64 60, str code_2]) rfl Tryz.call73 rfl (fun w1 hw1 => (ref23_VerifyAt_ok _ ((hg.fr hz hb).below hw1) hy92)) (by decide) ?_
    refine sq_go 5 rfl ?_
    refine sq_fin [0, 3, 9, 11, 12, 13, 14] rfl (fun w72 hw71 => ?_)
    have t96 := Tr.of_below hw71 hb.bd
    replace hB9 := hB9.m t96
    replace hP2 := hP2.m ref22_Locks.objK t96
    replace h4 := h4.m t96
    replace h6 := h6.m t96
    replace hN8 := hN8.m t96
    replace hb := hb.trans t96
    refine ke_seq <| ke_seq <| ke_region <| sr_go 2 rfl <| sr_fin [0, 3, 9, 11, 12, 13, 79] rfl ?_
    refine ke_cond rfl (fun hc97 => ?_) (fun hc97 => ?_)
    ·replace hS := iT hS hc97
     refine ke_seq <| ke_region <| sr_go 2 rfl ?_
     refine sr_fa 0 Tryz.underlying96 rfl Tryz.info90 ?_
     refine sr_ld v1 Tryz.isAgg90 rfl (hB9.cell rfl) ?_
     refine sr_go 2 rfl ?_
     rcases ho99 : l_0.locks with _ | z98
     ·replace hS := optC_none hS ho99
      obtain rfl := hP2.none_ ho99
      obtain ⟨y113, hy114, hS⟩ := bS hS
      refine sr_cb Tryz.call70 (ref22_Locks_Fail__nil_ok _ (hg.fr hz hb) hb.bd (hz.fr hg hb) hy114) hb.bd ?_
      intro w115 t117
      replace hB9 := hB9.m t117
      replace h4 := h4.m t117
      replace h6 := h6.m t117
      replace hN8 := hN8.m t117
      replace hb := hb.trans t117
      refine sr_fin [] rfl <| ke_seq <| ke_region <| sr_go 1 rfl <| sr_fin [8] rfl ?_
      cases hS
      exact ke_ret1 Tryz.func31 rfl rfl ⟨_, rfl, _, rfl, ⟨_, _, _, _, (hB9.lv 0 hb), PtrO.nil, (h4.lv 3 ho2 hb), (h6.lv 4 ho2 hb), (hN8.lv 5 ho2 hb)⟩, (leave_tr ho2 hb)⟩
     ·replace hS := optC_some hS ho99
      obtain ⟨g100, rfl, ⟨v101, hB103, h102⟩⟩ := hP2.some_ ho99
      obtain ⟨y104, hy105, hS⟩ := bS hS
      refine sr_cl Tryz.call70 (ref22_Locks_Fail_ok _ (hg.fr hz hb) hb.bd (hz.fr hg hb) (o := 101) (by decide) (by exact ⟨_, hB103, h102⟩) hy105) ?_
      rintro _ w106 ⟨ρ112, rfl, ⟨v109, hB111, h110⟩, t108⟩
      replace hB9 := hB9.m t108
      replace h4 := h4.m t108
      replace h6 := h6.m t108
      replace hN8 := hN8.m t108
      replace hb := hb.trans t108
      refine sr_fin [] rfl <| ke_seq <| ke_region <| sr_go 1 rfl <| sr_fin [8] rfl ?_
      cases hS
      exact ke_ret1 Tryz.func31 rfl rfl ⟨_, rfl, _, rfl, ⟨_, _, _, _, (hB9.lv 0 hb), (PtrO.mk ⟨_, (hB111.lv 1 hb), (h110.lv 2 ho2 hb)⟩), (h4.lv 3 ho2 hb), (h6.lv 4 ho2 hb), (hN8.lv 5 ho2 hb)⟩, (leave_tr ho2 hb)⟩
    ·replace hS := iF hS hc97
     refine ke_skip <| ke_seq <| ke_region <| sr_go 2 rfl ?_
     refine sr_fa 1 Tryz.underlying96 rfl Tryz.info93 ?_
     refine sr_ld v3 Tryz.isAgg93 rfl (hB9.cell rfl) ?_
     refine sr_go 2 rfl ?_
     obtain ⟨y118, hy119, hS⟩ := bS hS
     obtain ⟨b120, o121, cs123, hq124, he122, hg125, ho126⟩ := h4.elemQ (P := Tryz.prog) Tryz.underlying93 Tryz.info103 rfl hy119
     obtain rfl : cs123 = [str y118.name, str y118.v.Salt, .int .i64 y118.v.Rounds, str y118.v.Hash, str y118.code, .int .i64 y118.last] := he122.rd
     refine sr_e (hq124 w72 rfl rfl) ?_
     refine sr_fa (o121 + 5) Tryz.underlying103 rfl Tryz.info3 ?_
     refine sr_storeEl (z' := (ref39_user.mk y118.name y118.v y118.code y91.1)) (u := .int .i64 y91.1) (vs := [.int .i64 y91.1]) (cs' := [str y118.name, str y118.v.Salt, .int .i64 y118.v.Rounds, str y118.v.Hash, str y118.code, .int .i64 y91.1]) (off := 5) h4 hg125 ho126 hy119 he122 (by decide) hb.bd rfl rfl rfl Tryz.sizeOf3 rfl rfl rfl rfl ?_
     intro w127 h41 t128
     replace hB9 := hB9.m t128
     replace hP2 := hP2.m ref22_Locks.objK t128
     replace h6 := h6.m t128
     replace hN8 := hN8.m t128
     replace hb := hb.trans t128
     replace h4 := h41
     clear h41
     refine sr_fin [0, 3, 9] rfl <| ke_seq <| ke_region <| sr_go 3 rfl ?_
     obtain ⟨y129, hy130, hS⟩ := bS hS
     refine sr_cl Tryz.call72 (ref39_prove_ok _ (hg.fr hz hb) hb.bd (hz.fr hg hb) (o := 100) (by decide) (by exact ⟨_, _, _, _, hB9, hP2, h4, h6, hN8⟩) hy130) ?_
     rintro _ w131 ⟨ρ143, rfl, ⟨v134, v136, v138, M140, hB142, hP135, h137, h139, hN141⟩, t133⟩
     replace hb := hb.trans t133
     refine sr_fin [] rfl <| ke_seq <| ke_region <| sr_go 1 rfl <| sr_fin [8] rfl ?_
     cases hS
     exact ke_ret1 Tryz.func31 rfl rfl ⟨_, rfl, _, rfl, ⟨_, _, _, _, (hB142.lv 0 hb), (hP135.lv ref22_Locks.objK ho2 hb), (h137.lv 3 ho2 hb), (h139.lv 4 ho2 hb), (hN141.lv 5 ho2 hb)⟩, (leave_tr ho2 hb)⟩
  ·intro K34
   clear hS
   have hj36 : Tr (enter ρA o 6) w30 (fun _ => false) (enter ρA o 6) w30 := (Tr.refl hb.bd).weak (fun _ _ => rfl) rfl rfl
   rcases Bool.eq_false_or_eq_true (decide (y28 < 0)) with hg33 | hg33
   ·have hS := iT hz37 hg33
    refine sr_setb 38 rfl hg33 <| sr_go 10 rfl ?_
    exact sr_wk (K34 true _ ⟨(Option.some.inj hS).symm, _, hj36⟩)
   ·have hS := iF hz37 hg33
    refine sr_setb 38 rfl hg33 <| sr_go 2 rfl ?_
    refine sr_eg rfl (ev_fieldAddr (i := 1) Tryz.underlying96 rfl Tryz.info93 rfl rfl) ?_
    refine sr_eg rfl (ev_load Tryz.isAgg93 rfl (hB9.cell rfl)) ?_
    refine sr_go 1 rfl ?_
    obtain ⟨y41, hy42, hS⟩ := bS hS
    obtain ⟨b43, o44, cs46, hq47, he45, hg48, ho49⟩ := h4.elemQ (P := Tryz.prog) Tryz.underlying93 Tryz.info103 rfl hy42
    obtain rfl : cs46 = [str y41.name, str y41.v.Salt, .int .i64 y41.v.Rounds, str y41.v.Hash, str y41.code, .int .i64 y41.last] := he45.rd
    refine sr_eg rfl (hq47 w30 rfl rfl) ?_
    refine sr_eg rfl (ev_fieldAddr (i := 2) Tryz.underlying103 rfl Tryz.info9 rfl rfl) ?_
    refine sr_eg rfl (ev_load Tryz.isAgg9 rfl (he45.cell 4 _ rfl)) ?_
    refine sr_eg rfl (ev_seq rfl rfl) ?_
    refine sr_go 1 rfl ?_
    exact sr_wk (K34 (y41.code == ([])) _ ⟨(Option.some.inj hS).symm, _, hj36⟩)
theorem ref34_Has_L1_ok {w0 : World} (hg : Gs w0) {A0 : Nat → Prop} (hA0 : ∀ b, A0 b → b < w0.heap.size) : ∀ (n : Nat), ∀ {r : Bool} {l_0 : List api_Proof} {f_1 : Int} {i_5 : Int} {vl_0 : Value}, ref34_Has_L1 n l_0 f_1 i_5 = some r → ∀ {w : World} {A : Nat → Prop}, (Below w0.heap.size w0 w) → (∀ b, A b → b < w.heap.size) → (∀ b, A0 b → A b) → (Hp A w0.heap.size w []) → (SlR api_Proof.c A w vl_0 l_0) → KE Tryz.prog 112 (Ret (fun v w' => v = .bool r ∧ Below w0.heap.size w0 w')) 19 [.code (sub (bodyOf Tryz.f112) [2, 1, 2, 2, 1]), .inLoop (sub (bodyOf Tryz.f112) [2, 1, 2, 2, 1]), .inBlock 0, .code (sub (bodyOf Tryz.f112) [2, 2])] [(0, vl_0), (1, .int .i64 f_1), (5, .int .i64 i_5)] w := by
 intro n
 induction n with
 | zero => intro r l_0 f_1 i_5 vl_0 hS; cases hS
 | succ n ih =>
  have hr0 : ∀ {r : Bool} {l_0 : List api_Proof} {f_1 : Int} {i_5 : Int} {vl_0 : Value}, ref34_Has_L1 n l_0 f_1 i_5 = some r → ∀ {w : World} {A : Nat → Prop}, (Below w0.heap.size w0 w) → (∀ b, A b → b < w.heap.size) → (∀ b, A0 b → A b) → (Hp A w0.heap.size w []) → (SlR api_Proof.c A w vl_0 l_0) → KE Tryz.prog 112 (Ret (fun v w' => v = .bool r ∧ Below w0.heap.size w0 w')) 19 [.inLoop (sub (bodyOf Tryz.f112) [2, 1, 2, 2, 1]), .inBlock 0, .code (sub (bodyOf Tryz.f112) [2, 2])] [(0, vl_0), (1, .int .i64 f_1), (5, .int .i64 i_5)] w := fun {r} {l_0} {f_1} {i_5} {vl_0} hS {w} {A} hb hA hi hH hl_0 => ke_inLoop (ih hS hb hA hi hH hl_0)
  clear ih
  intro r l_0 f_1 i_5 vl_0 hS w A hb hA hi hH hl_0
  unfold ref34_Has_L1 at hS
  refine ke_seq <| ke_seq <| ke_region <| sr_go 2 rfl ?_
  refine sr_e (ev_sllen Tryz.underlying36 rfl hl_0) ?_
  refine sr_go 1 rfl <| sr_fin [0, 1, 5, 9] rfl ?_
  refine ke_cond rfl (fun hc3 => ?_) (fun hc3 => ?_)
  ·replace hS := iT hS hc3
   refine ke_skip <| ke_seq ?_
   refine ke_block ?_
   refine ke_seq <| ke_region <| sr_go 2 rfl ?_
   obtain ⟨y4, hy5, hS⟩ := bS hS
   refine sr_index hl_0 Tryz.underlying36 Tryz.info42 rfl rfl rfl hy5 (by decide) ?_
   intro b6 o7 cs9 he8
   obtain rfl : cs9 = [.int .i64 y4.Factor, .int .i64 y4.Time] := he8.rd
   refine sr_fa (o7 + 0) Tryz.underlying42 rfl Tryz.info40 ?_
   refine sr_ld (.int .i64 y4.Factor) Tryz.isAgg40 rfl (he8.cell 0 _ rfl) ?_
   refine sr_go 2 rfl <| sr_fin [0, 1, 5, 18] rfl ?_
   refine ke_cond rfl (fun hc10 => ?_) (fun hc10 => ?_)
   ·replace hS := iT hS hc10
    refine ke_seq <| ke_region <| sr_go 1 rfl <| sr_fin [4] rfl ?_
    cases hS
    exact ke_ret1 Tryz.func112 rfl rfl ⟨_, rfl, rfl, hb⟩
   ·replace hS := iF hS hc10
    refine ke_skip <| ke_inBlock <| ke_region <| sr_go 3 rfl <| sr_fin [0, 1, 5] rfl ?_
    have hK := hr0 hS hb hA hi hH hl_0
    exact ke_wk hK
  ·replace hS := iF hS hc3
   refine ke_exit (k' := _) rfl ?_
   refine ke_seq <| ke_region <| sr_go 1 rfl <| sr_fin [4] rfl ?_
   cases hS
   exact ke_ret1 Tryz.func112 rfl rfl ⟨_, rfl, rfl, hb⟩
theorem ref34_Has_ok {A0 : Nat → Prop} (w0 : World) (hg : Gs w0) {l_0 : List api_Proof} {f_1 : Int} {v1 : Value} {r : Bool} (h2 : SlR api_Proof.c A0 w0 v1 l_0) (hS : ref34_Has l_0 f_1 = some r) :
  Calls Tryz.prog 112 #[v1, .int .i64 f_1] w0 (Ret (fun v w' => v = .bool r ∧ Below w0.heap.size w0 w')) := by
 unfold ref34_Has at hS
 have hb := Below.refl w0.heap.size w0
 replace h2 := h2.weak (A' := fun _ => False) (fun _ h => h.elim)
 obtain ⟨A0, hA0, hAe⟩ : ∃ A0 : Nat → Prop, (∀ b, A0 b → b < w0.heap.size) ∧ A0 = fun _ => False := ⟨_, fun _ h => h.elim, rfl⟩
 rw [← hAe] at h2
 clear hAe
 have hA := hA0
 have hi : ∀ b, A0 b → A0 b := fun _ h => h
 have hH := Hp.nil A0 w0.heap.size w0
 refine ck Tryz.func112 [0, 1] rfl rfl ?_
 refine ke_seq <| ke_region <| sr_go 1 rfl <| sr_fin [0, 1] rfl <| ke_seq <| ke_seq <| ke_region <| sr_go 1 rfl <| sr_fin [0, 1, 5] rfl ?_
 refine ke_block ?_
 have hK := ref34_Has_L1_ok hg hA0 _ hS hb hA hi hH h2
 exact ke_wk (ke_loop hK)
theorem ref34_ordinary_B2_ok {w0 : World} (hg : Gs w0) {A0 : Nat → Prop} (hA0 : ∀ b, A0 b → b < w0.heap.size) (r0 : List api_Proof → Int → Int → Option (Int))
  (hr0 : ∀ {r : Int} {l_0 : List api_Proof} {n_3 : Int} {f_4 : Int} {vl_0 : Value}, r0 l_0 n_3 f_4 = some r → ∀ {w : World} {A : Nat → Prop}, (Below w0.heap.size w0 w) → (∀ b, A b → b < w.heap.size) → (∀ b, A0 b → A b) → (Hp A w0.heap.size w []) → (SlR api_Proof.c A w vl_0 l_0) → KE Tryz.prog 111 (Ret (fun v w' => v = .int .i64 r ∧ Below w0.heap.size w0 w')) 15 [.inLoop (sub (bodyOf Tryz.f111) [2, 2, 1, 2, 2, 1]), .inBlock 0, .code (sub (bodyOf Tryz.f111) [2, 2, 2])] [(0, vl_0), (3, .int .i64 n_3), (4, .int .i64 f_4)] w) {r : Int} {l_0 : List api_Proof} {n_3 : Int} {f_4 : Int} {vl_0 : Value} (hS : ref34_ordinary_B2 r0 l_0 n_3 f_4 = some r) {w : World} {A : Nat → Prop} (hb : Below w0.heap.size w0 w) (hA : ∀ b, A b → b < w.heap.size) (hi : ∀ b, A0 b → A b) (hH : Hp A w0.heap.size w []) (hl_0 : SlR api_Proof.c A w vl_0 l_0) :
  KE Tryz.prog 111 (Ret (fun v w' => v = .int .i64 r ∧ Below w0.heap.size w0 w')) 15 [.inBlock 1, .code (sub (bodyOf Tryz.f111) [2, 2, 1, 2, 2, 1, 2, 2]), .inLoop (sub (bodyOf Tryz.f111) [2, 2, 1, 2, 2, 1]), .inBlock 0, .code (sub (bodyOf Tryz.f111) [2, 2, 2])] [(0, vl_0), (3, .int .i64 n_3), (4, .int .i64 f_4)] w := by
 unfold ref34_ordinary_B2 at hS
 refine ke_inBlock <| ke_region <| sr_go 3 rfl <| sr_fin [0, 3, 4] rfl ?_
 have hK := hr0 hS hb hA hi hH hl_0
 exact ke_wk hK
theorem ref34_ordinary_L1_ok {w0 : World} (hg : Gs w0) {A0 : Nat → Prop} (hA0 : ∀ b, A0 b → b < w0.heap.size) : ∀ (n : Nat), ∀ {r : Int} {l_0 : List api_Proof} {n_3 : Int} {f_4 : Int} {vl_0 : Value}, ref34_ordinary_L1 n l_0 n_3 f_4 = some r → ∀ {w : World} {A : Nat → Prop}, (Below w0.heap.size w0 w) → (∀ b, A b → b < w.heap.size) → (∀ b, A0 b → A b) → (Hp A w0.heap.size w []) → (SlR api_Proof.c A w vl_0 l_0) → KE Tryz.prog 111 (Ret (fun v w' => v = .int .i64 r ∧ Below w0.heap.size w0 w')) 15 [.code (sub (bodyOf Tryz.f111) [2, 2, 1, 2, 2, 1]), .inLoop (sub (bodyOf Tryz.f111) [2, 2, 1, 2, 2, 1]), .inBlock 0, .code (sub (bodyOf Tryz.f111) [2, 2, 2])] [(0, vl_0), (3, .int .i64 n_3), (4, .int .i64 f_4)] w := by
 intro n
 induction n with
 | zero => intro r l_0 n_3 f_4 vl_0 hS; cases hS
 | succ n ih =>
  have hr0 : ∀ {r : Int} {l_0 : List api_Proof} {n_3 : Int} {f_4 : Int} {vl_0 : Value}, ref34_ordinary_L1 n l_0 n_3 f_4 = some r → ∀ {w : World} {A : Nat → Prop}, (Below w0.heap.size w0 w) → (∀ b, A b → b < w.heap.size) → (∀ b, A0 b → A b) → (Hp A w0.heap.size w []) → (SlR api_Proof.c A w vl_0 l_0) → KE Tryz.prog 111 (Ret (fun v w' => v = .int .i64 r ∧ Below w0.heap.size w0 w')) 15 [.inLoop (sub (bodyOf Tryz.f111) [2, 2, 1, 2, 2, 1]), .inBlock 0, .code (sub (bodyOf Tryz.f111) [2, 2, 2])] [(0, vl_0), (3, .int .i64 n_3), (4, .int .i64 f_4)] w := fun {r} {l_0} {n_3} {f_4} {vl_0} hS {w} {A} hb hA hi hH hl_0 => ke_inLoop (ih hS hb hA hi hH hl_0)
  clear ih
  intro r l_0 n_3 f_4 vl_0 hS w A hb hA hi hH hl_0
  unfold ref34_ordinary_L1 at hS
  refine ke_seq <| ke_seq <| ke_region <| sr_go 2 rfl <| sr_fin [0, 3, 4, 6] rfl ?_
  refine ke_cond rfl (fun hc3 => ?_) (fun hc3 => ?_)
  ·replace hS := iT hS hc3
   refine ke_skip <| ke_seq ?_
   refine ke_block ?_
   refine ke_seq <| ke_region <| sr_go 2 rfl ?_
   obtain ⟨y4, hy5, hS⟩ := bS hS
   refine sr_cl Tryz.call112 (ref34_Has_ok _ (hg.below hb) hl_0 hy5) ?_
   rintro _ w6 ⟨rfl, hbw7⟩
   replace hb := hb.trans (hbw7.mono hb.size)
   replace hA := lt_mono hA hbw7.size
   replace hH := hH.below hbw7
   replace hl_0 := hl_0.below hbw7
   refine sr_fin [0, 3, 4, 11] rfl ?_
   refine ke_cond rfl (fun hc8 => ?_) (fun hc8 => ?_)
   ·replace hS := iT hS hc8
    refine ke_region <| sr_go 3 rfl <| sr_fin [0, 3, 4] rfl ?_
    have hK := ref34_ordinary_B2_ok hg hA0 _ hr0 hS hb hA hi hH hl_0
    exact ke_wk hK
   ·replace hS := iF hS hc8
    refine ke_skip ?_
    have hK := ref34_ordinary_B2_ok hg hA0 _ hr0 hS hb hA hi hH hl_0
    exact ke_wk hK
  ·replace hS := iF hS hc3
   refine ke_exit (k' := _) rfl ?_
   refine ke_seq <| ke_region <| sr_go 2 rfl <| sr_fin [2] rfl ?_
   cases hS
   exact ke_ret1 Tryz.func111 rfl rfl ⟨_, rfl, rfl, hb⟩
theorem ref34_ordinary_ok {A0 : Nat → Prop} (w0 : World) (hg : Gs w0) {l_0 : List api_Proof} {v1 : Value} {r : Int} (h2 : SlR api_Proof.c A0 w0 v1 l_0) (hS : ref34_ordinary l_0 = some r) :
  Calls Tryz.prog 111 #[v1] w0 (Ret (fun v w' => v = .int .i64 r ∧ Below w0.heap.size w0 w')) := by
 unfold ref34_ordinary at hS
 have hb := Below.refl w0.heap.size w0
 replace h2 := h2.weak (A' := fun _ => False) (fun _ h => h.elim)
 obtain ⟨A0, hA0, hAe⟩ : ∃ A0 : Nat → Prop, (∀ b, A0 b → b < w0.heap.size) ∧ A0 = fun _ => False := ⟨_, fun _ h => h.elim, rfl⟩
 rw [← hAe] at h2
 clear hAe
 have hA := hA0
 have hi : ∀ b, A0 b → A0 b := fun _ h => h
 have hH := Hp.nil A0 w0.heap.size w0
 refine ck Tryz.func111 [0] rfl rfl ?_
 refine ke_seq <| ke_region <| sr_go 1 rfl <| sr_fin [0] rfl <| ke_seq <| ke_region <| sr_go 1 rfl <| sr_fin [0, 3] rfl <| ke_seq <| ke_seq <| ke_region <| sr_go 1 rfl <| sr_fin [0, 3, 4] rfl ?_
 refine ke_block ?_
 have hK := ref34_ordinary_L1_ok hg hA0 _ hS hb hA hi hH h2
 exact ke_wk (ke_loop hK)
theorem ref34_Level_ok {A0 : Nat → Prop} (w0 : World) (hg : Gs w0) {l_0 : List api_Proof} {v1 : Value} {r : Int} (h2 : SlR api_Proof.c A0 w0 v1 l_0) (hS : ref34_Level l_0 = some r) :
  Calls Tryz.prog 74 #[v1] w0 (Ret (fun v w' => v = .int .i64 r ∧ Below w0.heap.size w0 w')) := by
 unfold ref34_Level at hS
 have hb := Below.refl w0.heap.size w0
 replace h2 := h2.weak (A' := fun _ => False) (fun _ h => h.elim)
 obtain ⟨A0, hA0, hAe⟩ : ∃ A0 : Nat → Prop, (∀ b, A0 b → b < w0.heap.size) ∧ A0 = fun _ => False := ⟨_, fun _ h => h.elim, rfl⟩
 rw [← hAe] at h2
 clear hAe
 have hA := hA0
 have hi : ∀ b, A0 b → A0 b := fun _ h => h
 have hH := Hp.nil A0 w0.heap.size w0
 refine ck Tryz.func74 [0] rfl rfl ?_
 refine ke_seq <| ke_region <| sr_go 1 rfl <| sr_fin [0] rfl <| ke_seq <| ke_region <| sr_go 1 rfl ?_
 obtain ⟨y3, hy4, hS⟩ := bS hS
 refine sr_cl Tryz.call111 (ref34_ordinary_ok _ (hg.below hb) h2 hy4) ?_
 rintro _ w5 ⟨rfl, hbw6⟩
 replace hb := hb.trans (hbw6.mono hb.size)
 replace hA := lt_mono hA hbw6.size
 replace hH := hH.below hbw6
 replace h2 := h2.below hbw6
 refine sr_go 1 rfl <| sr_fin [0, 3] rfl <| ke_seq <| ke_seq <| ke_region <| sr_go 3 rfl ?_
 obtain ⟨z9, hz11, hS⟩ := bS hS
 refine sr_join (m := 3) (C := fun (x : Bool) w1 => z9 = x ∧ Below w5.heap.size w5 w1) (l' := fun x => [(3, .int .i64 y3), (11, .bool x)]) ?_ ?_
 ·rintro _ w12 ⟨rfl, hbw13⟩
  replace hb := hb.trans (hbw13.mono hb.size)
  replace hA := lt_mono hA hbw13.size
  replace hH := hH.below hbw13
  refine sr_fin [3, 11] rfl ?_
  refine ke_cond rfl (fun hc18 => ?_) (fun hc18 => ?_)
  ·replace hS := iT hS hc18
   refine ke_seq <| ke_region <| sr_go 1 rfl <| sr_fin [2] rfl ?_
   cases hS
   exact ke_ret1 Tryz.func74 rfl rfl ⟨_, rfl, rfl, hb⟩
  ·replace hS := iF hS hc18
   refine ke_skip <| ke_seq <| ke_region <| sr_go 2 rfl <| sr_fin [2] rfl ?_
   cases hS
   exact ke_ret1 Tryz.func74 rfl rfl ⟨_, rfl, rfl, hb⟩
 ·intro K8
  clear hS
  have hj10 := Below.refl w5.heap.size w5
  rcases Bool.eq_false_or_eq_true (y3 == 0) with hg7 | hg7
  ·have hS := iT hz11 hg7
   refine sr_setb 8 rfl hg7 <| sr_go 1 rfl ?_
   obtain ⟨y14, hy15, hS⟩ := bS hS
   refine sr_callg (b := true) (e := 8) rfl rfl rfl (vs := [v1, .int .i64 4]) rfl Tryz.call112 rfl (ref34_Has_ok _ (hg.below hb) h2 hy15) (by decide) ?_
   rintro _ w16 ⟨rfl, hbw17⟩
   replace hb := hb.trans (hbw17.mono hb.size)
   replace hj10 := hj10.trans (hbw17.mono hj10.size)
   replace hA := lt_mono hA hbw17.size
   replace hH := hH.below hbw17
   refine sr_go 1 rfl ?_
   exact sr_wk (K8 y14 _ ⟨(Option.some.inj hS).symm, hj10⟩)
  ·have hS := iF hz11 hg7
   refine sr_setb 8 rfl hg7 <| sr_go 3 rfl ?_
   exact sr_wk (K8 false _ ⟨(Option.some.inj hS).symm, hj10⟩)
theorem ref39_without_ok (w0 : World) (hg : Gs w0) {ρA : Tags} (hbd : ∀ b, ρA b ≠ 0 → b < w0.heap.size) (hz : Gz ρA) {o : Nat} (ho2 : 2 ≤ o) {M : NM api_Proof} {l_0 : List ref39_attempt} {k_1 : Int} {v1 : Value} {r : List ref39_attempt} (h2 : SlR (ref39_attempt.c M) (Wb ρA) w0 v1 l_0) (hS : ref39_without l_0 k_1 = some r) :
  Calls Tryz.prog 75 #[v1, .int .i64 k_1] w0 (Ret (fun v w' => ∃ ρ' x1, v = x1 ∧ OwnT (ref39_attempt.c M) 108 ρ' o w' x1 r ∧ Tr ρA w0 (rng o 1) ρ' w')) := by
 unfold ref39_without at hS
 have hb := enter_fr (ρ := ρA) (w := w0) (n := 1) ho2 hbd
 have hz := hz.enter (n := 1) ho2
 replace h2 := SlR.mv h2 (enter_rd (n := 1) ho2)
 refine ck Tryz.func75 [0, 1] rfl rfl ?_
 refine ke_seq <| ke_region <| sr_go 1 rfl <| sr_fin [0, 1] rfl <| ke_seq <| ke_region <| sr_go 1 rfl <| sr_fin [0, 1, 5] rfl <| ke_seq <| ke_region <| sr_go 3 rfl ?_
 obtain ⟨hk5, hS⟩ := chk_some hS
 obtain ⟨v6, h7, hq8⟩ := ((SlT.of_sl (i := 0) h2)).cutT_h (P := Tryz.prog) Tryz.underlying94 Tryz.info108 rfl hk5
 replace h7 := h7.sl
 refine sr_e (hq8 w0 rfl rfl) ?_
 obtain ⟨hk9, hS⟩ := chk_some hS
 refine sr_appendT (i := 12) (c := (ref39_attempt.c M)) (ρ := (enter ρA o 1)) (E := 108) (xs := ([] : List ref39_attempt)) (ys := cut l_0 0 k_1) OwnT.nil ((SlT.of_sl (i := 0) h7)).x Tryz.underlying94 Tryz.info108 rfl rfl rfl (Nat.succ_pos _) (by decide) (by decide) hb.bd hk9 rfl rfl (by decide) ?_
 intro v10 ρ12 w13 h11 t14
 replace h2 := h2.mv t14.rd
 replace hb := hb.trans t14
 refine sr_go 1 rfl <| sr_fin [0, 1, 5] rfl <| ke_seq <| ke_region <| sr_go 4 rfl ?_
 obtain ⟨hk15, hS⟩ := chk_some hS
 obtain ⟨v16, h17, hq18⟩ := ((SlT.of_sl (i := 0) h2)).cutT_l (P := Tryz.prog) Tryz.underlying94 Tryz.info108 rfl hk15
 replace h17 := h17.sl
 refine sr_e (hq18 w13 rfl rfl) ?_
 obtain ⟨hk19, hS⟩ := chk_some hS
 refine sr_appendT (i := 12) (c := (ref39_attempt.c M)) (ρ := ρ12) (E := 108) (xs := ([] : List ref39_attempt) ++ (cut l_0 0 k_1)) (ys := cut l_0 (IntKind.i64.wrap (k_1 + 1)) l_0.length) h11 ((SlT.of_sl (i := 0) h17)).x Tryz.underlying94 Tryz.info108 rfl rfl rfl (Nat.succ_pos _) (by decide) (by decide) hb.bd hk19 rfl rfl (by decide) ?_
 intro v20 ρ22 w23 h21 t24
 replace hb := hb.trans t24
 refine sr_go 1 rfl <| sr_fin [4] rfl ?_
 have t25 := rtg_tr (ρ := ρ22) (w := w23) (i := 12) 100 (by decide) hb.bd
 have hmv26 : Mv ρ22 w23 12 (rtg ρ22 12 100) w23 100 := rtg_mv (by decide)
 replace hb := hb.trans t25
 replace h21 := h21.mv hmv26 (by decide)
 cases hS
 exact ke_ret1 Tryz.func75 rfl rfl ⟨_, rfl, _, _, rfl, (h21.mv (leave_mv (p := 0) (by decide) hb) (Nat.ne_of_gt (Nat.lt_of_lt_of_le Nat.zero_lt_two ho2))), (leave_tr ho2 hb)⟩
theorem ref39_Logins_Finish_ok (w0 : World) (hg : Gs w0) {ρA : Tags} (hbd : ∀ b, ρA b ≠ 0 → b < w0.heap.size) (hz : Gz ρA) {o : Nat} (ho2 : 2 ≤ o) {l_0 : ref39_Logins} {id_1 : Str} {level_2 : Int} {now_3 : Int} {gl_0 : Nat} {r : Str × (List api_Proof) × Int × ref39_Logins} (ho0 : ref39_Logins.O (fun p => o + p) ρA w0 gl_0 l_0) (hS : ref39_Logins_Finish l_0 id_1 level_2 now_3 = some r) :
  Calls Tryz.prog 32 #[pT gl_0 0, str id_1, .int .i64 level_2, .int .i64 now_3] w0 (Ret (fun v w' => ∃ ρ' x1, v = .tuple #[str r.1, x1, .int .i64 r.2.2.1] ∧ SlR api_Proof.c (Wb ρ') w' x1 r.2.1 ∧ ref39_Logins.O (fun p => o + p) ρ' w' gl_0 r.2.2.2 ∧ Tr ρA w0 (rng o 6) ρ' w')) := by
 unfold ref39_Logins_Finish at hS
 have hb := enter_fr (ρ := ρA) (w := w0) (n := 6) ho2 hbd
 have hz := hz.enter (n := 6) ho2
 obtain ⟨v1, v3, v5, M7, hB9, hP2, h4, h6, hN8⟩ := ho0
 replace hB9 := hB9.mv (enter_mv (p := 0) (n := 6) (by decide) ho2)
 replace hP2 := PtrO.mv hP2 ref22_Locks.objK (fun p hp => enter_mv (p := 1 + p) (n := 6) (by omega) ho2) (fun p hp => by omega)
 replace h4 := h4.mv (enter_mv (p := 3) (n := 6) (by decide) ho2) (by decide)
 replace h6 := h6.mv (enter_mv (p := 4) (n := 6) (by decide) ho2) (by decide)
 replace hN8 := hN8.mv (enter_mv (p := 5) (n := 6) (by decide) ho2) (by decide)
 refine ck Tryz.func32 [0, 1, 2, 3] rfl rfl ?_
 refine ke_seq <| ke_region <| sr_go 3 rfl <| sr_fin [0, 1, 2, 3] rfl <| ke_seq <| ke_region <| sr_go 3 rfl ?_
 obtain ⟨y12, hy13, hS⟩ := bS hS
 refine sr_cb Tryz.call65 (ref39_find_ok _ (hg.fr hz hb) hb.bd (hz.fr hg hb) (τ0 := (fun p => 100 + p)) (fun p => Nat.le_add_right_of_le (by decide)) (by exact ⟨_, _, _, _, hB9, hP2, h4, h6, hN8⟩) hy13) hb.bd ?_
 intro w14 t16
 replace hB9 := hB9.m t16
 replace hP2 := hP2.m ref22_Locks.objK t16
 replace h4 := h4.m t16
 replace h6 := h6.m t16
 replace hN8 := hN8.m t16
 replace hb := hb.trans t16
 refine sr_go 5 rfl <| sr_fin [0, 2, 11, 12] rfl <| ke_seq <| ke_seq <| ke_region <| sr_go 2 rfl <| sr_fin [0, 2, 11, 12, 22] rfl ?_
 refine ke_cond rfl (fun hc17 => ?_) (fun hc17 => ?_)
 ·replace hS := iT hS hc17
  refine ke_seq <| ke_region <| sr_go 4 rfl <| sr_fin [8, 9, 10] rfl ?_
  cases hS
  exact ke_ret3 Tryz.func32 rfl rfl rfl rfl ⟨_, rfl, _, _, rfl, SlR.nil, ⟨_, _, _, _, (hB9.lv 0 hb), (hP2.lv ref22_Locks.objK ho2 hb), (h4.lv 3 ho2 hb), (h6.lv 4 ho2 hb), (hN8.lv 5 ho2 hb)⟩, (leave_tr ho2 hb)⟩
 ·replace hS := iF hS hc17
  refine ke_skip <| ke_seq <| ke_region <| sr_go 2 rfl ?_
  refine sr_fa 2 Tryz.underlying96 rfl Tryz.info94 ?_
  refine sr_ld v5 Tryz.isAgg94 rfl (hB9.cell rfl) ?_
  refine sr_go 1 rfl ?_
  obtain ⟨y18, hy19, hS⟩ := bS hS
  obtain ⟨b20, o21, cs23, hq24, he22, hg28, ho29⟩ := h6.elemQ (P := Tryz.prog) Tryz.underlying94 Tryz.info108 rfl hy19
  obtain ⟨v25, hcshe22, hR27⟩ := he22.rd
  obtain rfl : cs23 = [str y18.id, str y18.user, .int .i64 y18.begun, v25] := hcshe22
  have h26 := hN8.sl hR27
  refine sr_e (hq24 w14 rfl rfl) ?_
  refine sr_e (v := .agg #[str y18.id, str y18.user, .int .i64 y18.begun, v25]) (ev_loads (cs := [str y18.id, str y18.user, .int .i64 y18.begun, v25]) Tryz.isAgg108 Tryz.sizeOf108 rfl he22.cell) ?_
  refine sr_allocT 15 (by decide) hb.bd Tryz.zeroValue108 (by decide) ?_
  intro g30 ρ31 w32 hB34 t33
  replace hb := hb.trans t33
  refine sr_storeT (v := .agg #[str y18.id, str y18.user, .int .i64 y18.begun, v25]) (vs := [str y18.id, str y18.user, .int .i64 y18.begun, v25]) (cs' := #[str y18.id, str y18.user, .int .i64 y18.begun, v25]) hB34 (by decide) hb.bd rfl rfl rfl Tryz.sizeOf108 rfl (by first | rfl | (simp only [List.all_cons, List.all_nil, NR.oneCell hR27]; done) | (simp only [List.all_cons, List.all_nil, NR.oneCell hR27]; rfl)) rfl ?_
  intro w35 hB34 t36
  replace h26 := (h26.m t33).m t36
  replace hB9 := (hB9.m t33).m t36
  replace hP2 := (hP2.m ref22_Locks.objK t33).m ref22_Locks.objK t36
  replace h4 := (h4.m t33).m t36
  replace h6 := (h6.m t33).m t36
  replace hN8 := (hN8.m t33).m t36
  replace hb := hb.trans t36
  refine sr_fin [0, 2, 11, 13] rfl <| ke_seq <| ke_seq <| ke_region ?_
  refine sr_fa 3 Tryz.underlying108 rfl Tryz.info36 ?_
  refine sr_ld v25 Tryz.isAgg36 rfl (hB34.cell rfl) ?_
  obtain ⟨y37, hy38, hS⟩ := bS hS
  refine sr_cb Tryz.call74 (ref34_Level_ok _ (hg.fr hz hb) h26.as hy38) hb.bd ?_
  intro w39 t41
  replace hB34 := hB34.m t41
  replace hB9 := hB9.m t41
  replace hP2 := hP2.m ref22_Locks.objK t41
  replace h4 := h4.m t41
  replace h6 := h6.m t41
  replace hN8 := hN8.m t41
  replace hb := hb.trans t41
  refine sr_go 2 rfl <| sr_fin [0, 11, 13, 35] rfl ?_
  refine ke_cond rfl (fun hc42 => ?_) (fun hc42 => ?_)
  ·replace hS := iT hS hc42
   refine ke_seq <| ke_region <| sr_go 3 rfl <| sr_fin [8, 9, 10] rfl ?_
   cases hS
   exact ke_ret3 Tryz.func32 rfl rfl rfl rfl ⟨_, rfl, _, _, rfl, SlR.nil, ⟨_, _, _, _, (hB9.lv 0 hb), (hP2.lv ref22_Locks.objK ho2 hb), (h4.lv 3 ho2 hb), (h6.lv 4 ho2 hb), (hN8.lv 5 ho2 hb)⟩, (leave_tr ho2 hb)⟩
  ·replace hS := iF hS hc42
   refine ke_skip <| ke_seq <| ke_region <| sr_go 3 rfl ?_
   refine sr_fa 2 Tryz.underlying96 rfl Tryz.info94 ?_
   refine sr_ld v5 Tryz.isAgg94 rfl (hB9.cell rfl) ?_
   refine sr_go 1 rfl ?_
   have t43 := frz_tr (ρ := ρ31) (w := w39) (i := 104) (by decide) hb.bd
   have h44 : SlR (ref39_attempt.c M7) (Wb (frz ρ31 104)) w39 v5 l_0.attempts := (SlT.mv h6.sl (frz_mv (ρ := ρ31) (w := w39) (i := 104))).sl
   replace hb := hb.trans t43
   obtain ⟨y45, hy46, hS⟩ := bS hS
   refine sr_cl Tryz.call75 (ref39_without_ok _ (hg.fr hz hb) hb.bd (hz.fr hg hb) (o := 44) (by decide) h44 hy46) ?_
   rintro v50 w47 ⟨ρ52, _, rfl, h51, t49⟩
   replace hB34 := (hB34.m t43).m t49
   replace hB9 := (hB9.m t43).m t49
   replace hP2 := (hP2.m ref22_Locks.objK t43).m ref22_Locks.objK t49
   replace h4 := (h4.m t43).m t49
   replace hN8 := (hN8.m t43).m t49
   replace hb := hb.trans t49
   refine sr_go 1 rfl ?_
   refine sr_fa 2 Tryz.underlying96 rfl Tryz.info94 ?_
   refine sr_storeT (v := v50) (vs := [v50]) (cs' := #[v1, v3, v50]) hB9 (by decide) hb.bd rfl rfl (one_cells (OwnT.oneCell h51)) Tryz.sizeOf94 rfl (by first | rfl | (simp only [List.all_cons, List.all_nil, OwnT.oneCell h51]; done) | (simp only [List.all_cons, List.all_nil, OwnT.oneCell h51]; rfl)) rfl ?_
   intro w53 hB9 t54
   replace hB34 := hB34.m t54
   replace hb := hb.trans t54
   refine sr_fin [13] rfl <| ke_seq ?_
   refine ke_region_q Tryz.mixed (by kernel_rfl) ?_
   refine sq_ev (v := pT g30 1) (fun w1 hw1 => ev_fieldAddr (i := 1) Tryz.underlying108 rfl Tryz.info9 rfl rfl) (by decide) ?_
   refine sq_ev (v := str y18.user) (fun w1 hw1 => ev_load Tryz.isAgg9 rfl ((hB34.mv (Mv.of_below (i := 15) (ρ := ρ52) hw1)).cell rfl)) (by decide) ?_
   refine sq_ev (v := pT g30 3) (fun w1 hw1 => ev_fieldAddr (i := 3) Tryz.underlying108 rfl Tryz.info36 rfl rfl) (by decide) ?_
   refine sq_ev (v := v25) (fun w1 hw1 => ev_load Tryz.isAgg36 rfl ((hB34.mv (Mv.of_below (i := 15) (ρ := ρ52) hw1)).cell rfl)) (by decide) ?_
   refine sq_go 3 rfl ?_
   refine sq_fin [8, 9, 10] rfl (fun w56 hw55 => ?_)
   have t57 := Tr.of_below hw55 hb.bd
   replace hP2 := (hP2.m ref22_Locks.objK t54).m ref22_Locks.objK t57
   replace h4 := (h4.m t54).m t57
   replace h51 := (h51.m t54).m t57
   replace hN8 := (hN8.m t54).m t57
   replace hb := hb.trans t57
   obtain ⟨hk58, hS⟩ := chk_some hS
   obtain ⟨ρ59, M60, t61, h62, hN63, hm64⟩ := NestT.free hN8 hR27 (by decide) hb.bd
   replace hB9 := (hB9.m t57).m t61
   replace h51 := h51.m t61
   replace hb := hb.trans t61
   replace h51 := OwnT.cmap (c2 := ref39_attempt.c M60) h51 rfl (fun _ _ _ x hx h => ref39_attempt.cmono (fun u => hm64 u _ _ (ne_at (key := fun x => x.id) hk58 hx)) h)
   have t65 := rtg_tr (ρ := ρ59) (w := w56) (i := 44) 104 (by decide) hb.bd
   have hmv66 : Mv ρ59 w56 44 (rtg ρ59 44 104) w56 104 := rtg_mv (by decide)
   replace h62 := h62.mv t65.rd
   replace hB9 := hB9.m t65
   replace hP2 := (hP2.m ref22_Locks.objK t61).m ref22_Locks.objK t65
   replace h4 := (h4.m t61).m t65
   replace hN63 := hN63.m t65
   replace hb := hb.trans t65
   replace h51 := h51.mv hmv66 (by decide)
   cases hS
   exact ke_ret3 Tryz.func32 rfl rfl rfl rfl ⟨_, rfl, _, _, rfl, (SlR.mv h62 (leave_rd hb)), ⟨_, _, _, _, (hB9.lv 0 hb), (hP2.lv ref22_Locks.objK ho2 hb), (h4.lv 3 ho2 hb), (h51.lv 4 ho2 hb), (hN63.lv 5 ho2 hb)⟩, (leave_tr ho2 hb)⟩
theorem ref39_Same_L1_ok {w0 : World} (hg : Gs w0) {ρA : Tags} (hbd : ∀ b, ρA b ≠ 0 → b < w0.heap.size) (hz : Gz (flat1 ρA)) : ∀ (n : Nat), ∀ {r : Bool} {a_0 : List api_Proof} {b_1 : List api_Proof} {i_5 : Int} {va_0 : Value} {vb_1 : Value}, ref39_Same_L1 n a_0 b_1 i_5 = some r → ∀ {ρ : Tags} {w : World}, (Fr (flat1 ρA) w0 ρ w) → (SlR api_Proof.c (Wb ρ) w va_0 a_0) → (SlR api_Proof.c (Wb ρ) w vb_1 b_1) → KE Tryz.prog 33 (Ret (fun v w' => v = .bool r ∧ Below w0.heap.size w0 w')) 26 [.code (sub (bodyOf Tryz.f33) [2, 2, 1, 2, 2, 1]), .inLoop (sub (bodyOf Tryz.f33) [2, 2, 1, 2, 2, 1]), .inBlock 0, .code (sub (bodyOf Tryz.f33) [2, 2, 2])] [(0, va_0), (1, vb_1), (5, .int .i64 i_5)] w := by
 intro n
 induction n with
 | zero => intro r a_0 b_1 i_5 va_0 vb_1 hS; cases hS
 | succ n ih =>
  have hr0 : ∀ {r : Bool} {a_0 : List api_Proof} {b_1 : List api_Proof} {i_5 : Int} {va_0 : Value} {vb_1 : Value}, ref39_Same_L1 n a_0 b_1 i_5 = some r → ∀ {ρ : Tags} {w : World}, (Fr (flat1 ρA) w0 ρ w) → (SlR api_Proof.c (Wb ρ) w va_0 a_0) → (SlR api_Proof.c (Wb ρ) w vb_1 b_1) → KE Tryz.prog 33 (Ret (fun v w' => v = .bool r ∧ Below w0.heap.size w0 w')) 26 [.inLoop (sub (bodyOf Tryz.f33) [2, 2, 1, 2, 2, 1]), .inBlock 0, .code (sub (bodyOf Tryz.f33) [2, 2, 2])] [(0, va_0), (1, vb_1), (5, .int .i64 i_5)] w := fun {r} {a_0} {b_1} {i_5} {va_0} {vb_1} hS {ρ} {w} hb ha_0 hb_1 => ke_inLoop (ih hS hb ha_0 hb_1)
  clear ih
  intro r a_0 b_1 i_5 va_0 vb_1 hS ρ w hb ha_0 hb_1
  unfold ref39_Same_L1 at hS
  refine ke_seq <| ke_seq <| ke_region <| sr_go 2 rfl ?_
  refine sr_e (ev_sllenW Tryz.underlying36 rfl ha_0.asSl) ?_
  refine sr_go 1 rfl <| sr_fin [0, 1, 5, 14] rfl ?_
  refine ke_cond rfl (fun hc6 => ?_) (fun hc6 => ?_)
  ·replace hS := iT hS hc6
   refine ke_skip <| ke_seq ?_
   refine ke_block ?_
   refine ke_seq ?_
   refine ke_region_q Tryz.mixed (by kernel_rfl) ?_
   refine sq_go 2 rfl ?_
   obtain ⟨y9, hy10, hS⟩ := bS hS
   obtain ⟨b11, o12, cs14, hq15, he13⟩ := ((SlT.of_sl (i := 0) ha_0)).elem (P := Tryz.prog) Tryz.underlying36 Tryz.info42 rfl hy10
   obtain rfl : cs14 = [.int .i64 y9.Factor, .int .i64 y9.Time] := he13.rd
   refine sq_ev (v := pT b11 o12) (fun w1 hw1 => hq15 w1 rfl rfl) (by decide) ?_
   refine sq_ev (v := .agg #[.int .i64 y9.Factor, .int .i64 y9.Time]) (fun w1 hw1 => ev_loads (cs := [.int .i64 y9.Factor, .int .i64 y9.Time]) Tryz.isAgg42 Tryz.sizeOf42 rfl (he13.mv (Mv.of_below (i := 0) (ρ := ρ) hw1) (Nat.succ_pos _)).cell) (by decide) ?_
   refine sq_go 2 rfl ?_
   obtain ⟨y16, hy17, hS⟩ := bS hS
   obtain ⟨b18, o19, cs21, hq22, he20⟩ := ((SlT.of_sl (i := 0) hb_1)).elem (P := Tryz.prog) Tryz.underlying36 Tryz.info42 rfl hy17
   obtain rfl : cs21 = [.int .i64 y16.Factor, .int .i64 y16.Time] := he20.rd
   refine sq_ev (v := pT b18 o19) (fun w1 hw1 => hq22 w1 rfl rfl) (by decide) ?_
   refine sq_ev (v := .agg #[.int .i64 y16.Factor, .int .i64 y16.Time]) (fun w1 hw1 => ev_loads (cs := [.int .i64 y16.Factor, .int .i64 y16.Time]) Tryz.isAgg42 Tryz.sizeOf42 rfl (he20.mv (Mv.of_below (i := 0) (ρ := ρ) hw1) (Nat.succ_pos _)).cell) (by decide) ?_
   refine sq_ev (v := .bool (!(api_Proof.eqb y9 y16))) (fun w1 hw1 => ev_ane (Tryz.eq42 y9 y16) rfl rfl) (by decide) ?_
   refine sq_fin [0, 1, 5, 25] rfl (fun w8 hw7 => ?_)
   have t23 := Tr.of_below hw7 hb.bd
   replace ha_0 := ha_0.mv t23.rd
   replace hb_1 := hb_1.mv t23.rd
   replace hb := hb.trans t23
   refine ke_cond rfl (fun hc24 => ?_) (fun hc24 => ?_)
   ·replace hS := iT hS hc24
    refine ke_seq <| ke_region <| sr_go 1 rfl <| sr_fin [4] rfl ?_
    cases hS
    exact ke_ret1 Tryz.func33 rfl rfl ⟨_, rfl, rfl, (hb.below (flat1_le _))⟩
   ·replace hS := iF hS hc24
    refine ke_skip <| ke_inBlock <| ke_region <| sr_go 3 rfl <| sr_fin [0, 1, 5] rfl ?_
    have hK := hr0 hS hb ha_0 hb_1
    exact ke_wk hK
  ·replace hS := iF hS hc6
   refine ke_exit (k' := _) rfl ?_
   refine ke_seq <| ke_region <| sr_go 1 rfl <| sr_fin [4] rfl ?_
   cases hS
   exact ke_ret1 Tryz.func33 rfl rfl ⟨_, rfl, rfl, (hb.below (flat1_le _))⟩
theorem ref39_Same_ok (w0 : World) (hg : Gs w0) {ρA : Tags} (hbd : ∀ b, ρA b ≠ 0 → b < w0.heap.size) (hz : Gz ρA) {a_0 : List api_Proof} {b_1 : List api_Proof} {v1 : Value} {v3 : Value} {r : Bool} (h2 : SlR api_Proof.c (Wb ρA) w0 v1 a_0) (h4 : SlR api_Proof.c (Wb ρA) w0 v3 b_1) (hS : ref39_Same a_0 b_1 = some r) :
  Calls Tryz.prog 33 #[v1, v3] w0 (Ret (fun v w' => v = .bool r ∧ Below w0.heap.size w0 w')) := by
 unfold ref39_Same at hS
 have hb := flat1_fr (ρ := ρA) (w := w0) hbd
 have hz := hz.flat1
 replace h2 := SlR.mv h2 flat1_rd
 replace h4 := SlR.mv h4 flat1_rd
 refine ck Tryz.func33 [0, 1] rfl rfl ?_
 refine ke_seq <| ke_region <| sr_go 1 rfl <| sr_fin [0, 1] rfl <| ke_seq <| ke_seq <| ke_region <| sr_go 1 rfl ?_
 refine sr_e (ev_sllenW Tryz.underlying36 rfl h2.asSl) ?_
 refine sr_go 1 rfl ?_
 refine sr_e (ev_sllenW Tryz.underlying36 rfl h4.asSl) ?_
 refine sr_go 1 rfl <| sr_fin [0, 1, 10] rfl ?_
 refine ke_cond rfl (fun hc5 => ?_) (fun hc5 => ?_)
 ·replace hS := iT hS hc5
  refine ke_seq <| ke_region <| sr_go 1 rfl <| sr_fin [4] rfl ?_
  cases hS
  exact ke_ret1 Tryz.func33 rfl rfl ⟨_, rfl, rfl, (hb.below (flat1_le _))⟩
 ·replace hS := iF hS hc5
  refine ke_skip <| ke_seq <| ke_seq <| ke_region <| sr_go 1 rfl <| sr_fin [0, 1, 5] rfl ?_
  refine ke_block ?_
  have hK := ref39_Same_L1_ok hg hbd hz _ hS hb h2 h4
  exact ke_wk (ke_loop hK)
theorem ref39_Logins_Locked_ok (w0 : World) (hg : Gs w0) {ρA : Tags} (hbd : ∀ b, ρA b ≠ 0 → b < w0.heap.size) (hz : Gz ρA) {τ0 : Nat → Nat} (hτ0 : ∀ p, 1 ≤ τ0 p) {l_0 : ref39_Logins} {user_1 : Str} {now_2 : Int} {gl_0 : Nat} {r : Bool} (ho0 : ref39_Logins.O τ0 ρA w0 gl_0 l_0) (hS : ref39_Logins_Locked l_0 user_1 now_2 = some r) :
  Calls Tryz.prog 34 #[pT gl_0 0, str user_1, .int .i64 now_2] w0 (Ret (fun v w' => v = .bool r ∧ Below w0.heap.size w0 w')) := by
 unfold ref39_Logins_Locked at hS
 have hb := flat1_fr (ρ := ρA) (w := w0) hbd
 have hz := hz.flat1
 obtain ⟨v1, v3, v5, M7, hB9, hP2, h4, h6, hN8⟩ := ho0
 replace hB9 := hB9.mv (flat1_mv (hτ0 0))
 replace hP2 := PtrO.mv hP2 ref22_Locks.objK (fun p hp => flat1_mv (hτ0 (1 + p))) (fun _ _ => by decide)
 replace h4 := h4.mv (flat1_mv (hτ0 3)) (by decide)
 replace h6 := h6.mv (flat1_mv (hτ0 4)) (by decide)
 replace hN8 := hN8.mv (flat1_mv (hτ0 5)) (by decide)
 refine ck Tryz.func34 [0, 1, 2] rfl rfl ?_
 refine ke_seq <| ke_region <| sr_go 1 rfl <| sr_fin [0, 1, 2] rfl <| ke_seq <| ke_region <| sr_go 1 rfl ?_
 obtain ⟨y10, hy11, hS⟩ := bS hS
 refine sr_cb Tryz.call60 (ref39_made_ok _ (hg.fr hz hb) hb.bd (hz.fr hg hb) (τ0 := (fun _ => 1)) (fun _ => by decide) (by exact ⟨_, _, _, _, hB9, hP2, h4, h6, hN8⟩) hy11) hb.bd ?_
 intro w12 t14
 replace hB9 := hB9.m t14
 replace hP2 := hP2.m ref22_Locks.objK t14
 replace hb := hb.trans t14
 refine sr_go 1 rfl ?_
 obtain ⟨z17, hz19, hS⟩ := bS hS
 refine sr_join (m := 8) (C := fun (z : Bool) w1 => z17 = z ∧ ∃ ρ1, Tr (flat1 ρA) w12 (fun _ => false) ρ1 w1) (l' := fun z => [(17, .bool z)]) ?_ ?_
 ·rintro _ w20 ⟨rfl, ρ21, hj18⟩
  replace hb := hb.trans hj18
  refine sr_go 1 rfl <| sr_fin [6] rfl ?_
  cases hS
  exact ke_ret1 Tryz.func34 rfl rfl ⟨_, rfl, rfl, (hb.below (flat1_le _))⟩
 ·intro K16
  clear hS
  have hj18 : Tr (flat1 ρA) w12 (fun _ => false) (flat1 ρA) w12 := (Tr.refl hb.bd).weak (fun _ _ => rfl) rfl rfl
  rcases Bool.eq_false_or_eq_true y10 with hg15 | hg15
  ·have hS := iT hz19 hg15
   refine sr_setb 9 rfl hg15 <| sr_go 2 rfl ?_
   refine sr_eg rfl (ev_fieldAddr (i := 0) Tryz.underlying96 rfl Tryz.info90 rfl rfl) ?_
   refine sr_eg rfl (ev_load Tryz.isAgg90 rfl (hB9.cell rfl)) ?_
   refine sr_go 2 rfl ?_
   rcases ho24 : l_0.locks with _ | z23
   ·replace hS := optC_none hS ho24
    obtain rfl := hP2.none_ ho24
    obtain ⟨y34, hy35, hS⟩ := bS hS
    refine sr_callg (b := true) (e := 9) rfl rfl rfl (vs := [.pointer none, str user_1, .int .i64 now_2]) rfl Tryz.call76 rfl (ref22_Locks_Locked__nil_ok _ (hg.fr hz hb) (ρA := (flat1 ρA)) hb.bd (hz.fr hg hb) hy35) (by decide) ?_
    rintro _ w36 ⟨rfl, hbw37⟩
    have t38 := Tr.of_below hbw37 hb.bd
    replace hb := hb.trans t38
    replace hj18 := hj18.tw t38
    refine sr_go 1 rfl ?_
    exact sr_wk (K16 y34 _ ⟨(Option.some.inj hS).symm, _, hj18⟩)
   ·replace hS := optC_some hS ho24
    obtain ⟨g25, rfl, ⟨v26, hB28, h27⟩⟩ := hP2.some_ ho24
    obtain ⟨y29, hy30, hS⟩ := bS hS
    refine sr_callg (b := true) (e := 9) rfl rfl rfl (vs := [pT g25 0, str user_1, .int .i64 now_2]) rfl Tryz.call76 rfl (ref22_Locks_Locked_ok _ (hg.fr hz hb) (ρA := (flat1 ρA)) hb.bd (hz.fr hg hb) (τ0 := (fun _ => 1)) (fun _ => by decide) (⟨_, hB28, h27⟩ : ref22_Locks.O (fun _ => 1) (flat1 ρA) w12 g25 z23) hy30) (by decide) ?_
    rintro _ w31 ⟨rfl, hbw32⟩
    have t33 := Tr.of_below hbw32 hb.bd
    replace hb := hb.trans t33
    replace hj18 := hj18.tw t33
    refine sr_go 1 rfl ?_
    exact sr_wk (K16 y29 _ ⟨(Option.some.inj hS).symm, _, hj18⟩)
  ·have hS := iF hz19 hg15
   refine sr_setb 9 rfl hg15 <| sr_go 8 rfl ?_
   exact sr_wk (K16 false _ ⟨(Option.some.inj hS).symm, _, hj18⟩)
theorem login_Logins_Drop_1_ok (w0 : World) (hg : Gs w0) {ρA : Tags} (hbd : ∀ b, ρA b ≠ 0 → b < w0.heap.size) (hz : Gz ρA) {__0 : Str} {a_1 : login_attempt} {c2 : Str} {v1 : Value} {b3 : Nat} {r : Bool} (h2 : SlR api_Proof.c (Wb ρA) w0 v1 a_1.proofs) (he4 : ElT strC ρA 0 w0 b3 0 [str c2] c2) (hS : login_Logins_Drop_1 __0 a_1 c2 = some r) :
  Calls Tryz.prog 78 #[str __0, .agg #[str a_1.user, .int .i64 a_1.begun, v1], pT b3 0] w0 (Ret (fun v w' => v = .bool r ∧ Below w0.heap.size w0 w')) := by
 unfold login_Logins_Drop_1 at hS
 have hb := flat1_fr (ρ := ρA) (w := w0) hbd
 have hz := hz.flat1
 replace h2 := SlR.mv h2 flat1_rd
 replace he4 := he4.mv flat1_rd (Nat.succ_pos _)
 refine ck Tryz.func78 [0, 1, 2] rfl rfl ?_
 refine ke_seq <| ke_region ?_
 refine sr_boxT 6 (by decide) hb.bd rfl (by decide) ?_
 intro g5 ρ6 w7 hB9 t8
 replace he4 := he4.mv (t8.mv (i := 0) rfl) (Nat.succ_pos _)
 replace hb := hb.trans t8
 refine sr_go 1 rfl <| sr_fin [2, 4] rfl <| ke_seq <| ke_region ?_
 refine sr_fa 0 Tryz.underlying74 rfl Tryz.info9 ?_
 refine sr_ld (str a_1.user) Tryz.isAgg9 rfl (hB9.cell rfl) ?_
 refine sr_ld (str c2) Tryz.isAgg9 rfl (he4.cell 0 _ rfl) ?_
 refine sr_e (ev_seq rfl rfl) ?_
 refine sr_go 1 rfl <| sr_fin [5] rfl ?_
 cases hS
 exact ke_ret1 Tryz.func78 rfl rfl ⟨_, rfl, rfl, (hb.below (flat1_le _))⟩
theorem maps_DeleteFunc_map_string_login_attempt_string_login_attempt__Logins_Drop_1_B2_ok {w0 : World} (hg : Gs w0) {ρA : Tags} (hbd : ∀ b, ρA b ≠ 0 → b < w0.heap.size) {o : Nat} (ho2 : 2 ≤ o) {v1 : Value} (hz : Gz (enter ρA o 1)) (r0 : GMap Str login_attempt → Str → List Str → Option (GMap Str login_attempt))
  (hr0 : ∀ {r : GMap Str login_attempt} {m_0 : GMap Str login_attempt} {del_1_c0 : Str} {t_7 : List Str} {bdel_1_c0 : Nat} {rt_7 : Nat}, r0 m_0 del_1_c0 t_7 = some r → ∀ {ρ : Tags} {w : World}, (Fr (enter ρA o 1) w0 ρ w) → (MapT str login_attempt.c true ρ 100 w v1 m_0) → (ElT strC ρ 0 w bdel_1_c0 0 [str del_1_c0] del_1_c0) → (IterT str login_attempt.c true ρ 100 9 w rt_7 v1 m_0 t_7) → KE Tryz.prog 45 (Ret (fun v w' => ∃ ρ', v = .tuple #[] ∧ MapT str login_attempt.c true ρ' o w' v1 r ∧ Tr ρA w0 (rng o 1) ρ' w')) 19 [.inLoop (sub (bodyOf Tryz.f45) [2, 2, 1]), .inBlock 0] [(0, v1), (1, .func (.func 78) #[] #[pT bdel_1_c0 0]), (7, pT rt_7 0)] w) {r : GMap Str login_attempt} {m_0 : GMap Str login_attempt} {del_1_c0 : Str} {t_7 : List Str} {bdel_1_c0 : Nat} {rt_7 : Nat} (hS : maps_DeleteFunc_map_string_login_attempt_string_login_attempt__Logins_Drop_1_B2 r0 m_0 del_1_c0 t_7 = some r) {ρ : Tags} {w : World} (hb : Fr (enter ρA o 1) w0 ρ w) (hm_0 : MapT str login_attempt.c true ρ 100 w v1 m_0) (hedel_1_c0 : ElT strC ρ 0 w bdel_1_c0 0 [str del_1_c0] del_1_c0) (ht_7 : IterT str login_attempt.c true ρ 100 9 w rt_7 v1 m_0 t_7) :
  KE Tryz.prog 45 (Ret (fun v w' => ∃ ρ', v = .tuple #[] ∧ MapT str login_attempt.c true ρ' o w' v1 r ∧ Tr ρA w0 (rng o 1) ρ' w')) 19 [.inBlock 1, .inLoop (sub (bodyOf Tryz.f45) [2, 2, 1]), .inBlock 0] [(0, v1), (1, .func (.func 78) #[] #[pT bdel_1_c0 0]), (7, pT rt_7 0)] w := by
 unfold maps_DeleteFunc_map_string_login_attempt_string_login_attempt__Logins_Drop_1_B2 at hS
 refine ke_inBlock ?_
 have hK := hr0 hS hb hm_0 hedel_1_c0 ht_7
 exact ke_wk hK
theorem maps_DeleteFunc_map_string_login_attempt_string_login_attempt__Logins_Drop_1_L1_ok {w0 : World} (hg : Gs w0) {ρA : Tags} (hbd : ∀ b, ρA b ≠ 0 → b < w0.heap.size) {o : Nat} (ho2 : 2 ≤ o) {v1 : Value} (hz : Gz (enter ρA o 1)) : ∀ (n : Nat), ∀ {r : GMap Str login_attempt} {m_0 : GMap Str login_attempt} {del_1_c0 : Str} {t_7 : List Str} {bdel_1_c0 : Nat} {rt_7 : Nat}, maps_DeleteFunc_map_string_login_attempt_string_login_attempt__Logins_Drop_1_L1 n m_0 del_1_c0 t_7 = some r → ∀ {ρ : Tags} {w : World}, (Fr (enter ρA o 1) w0 ρ w) → (MapT str login_attempt.c true ρ 100 w v1 m_0) → (ElT strC ρ 0 w bdel_1_c0 0 [str del_1_c0] del_1_c0) → (IterT str login_attempt.c true ρ 100 9 w rt_7 v1 m_0 t_7) → KE Tryz.prog 45 (Ret (fun v w' => ∃ ρ', v = .tuple #[] ∧ MapT str login_attempt.c true ρ' o w' v1 r ∧ Tr ρA w0 (rng o 1) ρ' w')) 19 [.code (sub (bodyOf Tryz.f45) [2, 2, 1]), .inLoop (sub (bodyOf Tryz.f45) [2, 2, 1]), .inBlock 0] [(0, v1), (1, .func (.func 78) #[] #[pT bdel_1_c0 0]), (7, pT rt_7 0)] w := by
 intro n
 induction n with
 | zero => intro r m_0 del_1_c0 t_7 bdel_1_c0 rt_7 hS; cases hS
 | succ n ih =>
  have hr0 : ∀ {r : GMap Str login_attempt} {m_0 : GMap Str login_attempt} {del_1_c0 : Str} {t_7 : List Str} {bdel_1_c0 : Nat} {rt_7 : Nat}, maps_DeleteFunc_map_string_login_attempt_string_login_attempt__Logins_Drop_1_L1 n m_0 del_1_c0 t_7 = some r → ∀ {ρ : Tags} {w : World}, (Fr (enter ρA o 1) w0 ρ w) → (MapT str login_attempt.c true ρ 100 w v1 m_0) → (ElT strC ρ 0 w bdel_1_c0 0 [str del_1_c0] del_1_c0) → (IterT str login_attempt.c true ρ 100 9 w rt_7 v1 m_0 t_7) → KE Tryz.prog 45 (Ret (fun v w' => ∃ ρ', v = .tuple #[] ∧ MapT str login_attempt.c true ρ' o w' v1 r ∧ Tr ρA w0 (rng o 1) ρ' w')) 19 [.inLoop (sub (bodyOf Tryz.f45) [2, 2, 1]), .inBlock 0] [(0, v1), (1, .func (.func 78) #[] #[pT bdel_1_c0 0]), (7, pT rt_7 0)] w := fun {r} {m_0} {del_1_c0} {t_7} {bdel_1_c0} {rt_7} hS {ρ} {w} hb hm_0 hedel_1_c0 ht_7 => ke_inLoop (ih hS hb hm_0 hedel_1_c0 ht_7)
  clear ih
  intro r m_0 del_1_c0 t_7 bdel_1_c0 rt_7 hS ρ w hb hm_0 hedel_1_c0 ht_7
  unfold maps_DeleteFunc_map_string_login_attempt_string_login_attempt__Logins_Drop_1_L1 at hS
  refine ke_seq <| ke_region ?_
  refine sr_nextM ht_7 rfl (by decide) hb.bd hS rfl (by decide) (fun hS => ?_) (fun e10 cs11 w12 hS hrd14 ht_71 t13 hent15 => ?_)
  ·refine sr_go 1 rfl <| sr_fin [0, 1, 7, 9] rfl <| ke_seq ?_
   refine ke_cond rfl (fun h => by cases h) (fun _ => ?_)
   refine ke_exit (k' := _) rfl ?_
   cases hS
   exact ke_end0 Tryz.func45 rfl ⟨_, rfl, _, rfl, (hm_0.lv 0 hb), (leave_tr ho2 hb)⟩
  ·skip
   replace hedel_1_c0 := hedel_1_c0.mv (t13.mv (i := 0) rfl) (Nat.succ_pos _)
   replace hb := hb.trans t13
   replace ht_7 := ht_71
   clear ht_71
   obtain ⟨v16, hcshrd14, h17⟩ := hrd14
   obtain rfl : cs11 = [str e10.2.user, .int .i64 e10.2.begun, v16] := hcshrd14
   refine sr_go 1 rfl <| sr_fin [0, 1, 7, 9] rfl <| ke_seq ?_
   refine ke_cond rfl (fun _ => ?_) (fun h => by cases h)
   refine ke_skip ?_
   refine ke_block ?_
   refine ke_seq <| ke_region ?_
   refine sr_e (hent15 rfl) ?_
   refine sr_go 2 rfl ?_
   refine sr_allocT 7 (by decide) hb.bd Tryz.zeroValue74 (by decide) ?_
   intro g18 ρ19 w20 hB22 t21
   replace hm_0 := (hm_0.m t13).m t21
   replace hedel_1_c0 := hedel_1_c0.mv (t21.mv (i := 0) rfl) (Nat.succ_pos _)
   replace ht_7 := ht_7.mv (t21.mv (i := 100) rfl) (t21.mv (i := 9) rfl)
   replace h17 := h17.mv t21.rd
   replace hb := hb.trans t21
   refine sr_go 1 rfl ?_
   refine sr_storeT (v := .agg #[str e10.2.user, .int .i64 e10.2.begun, v16]) (vs := [str e10.2.user, .int .i64 e10.2.begun, v16]) (cs' := #[str e10.2.user, .int .i64 e10.2.begun, v16]) hB22 (by decide) hb.bd rfl rfl rfl Tryz.sizeOf74 rfl (by first | rfl | (simp only [List.all_cons, List.all_nil, SlR.oneCell h17]; done) | (simp only [List.all_cons, List.all_nil, SlR.oneCell h17]; rfl)) rfl ?_
   intro w23 hB22 t24
   replace hedel_1_c0 := hedel_1_c0.mv (t24.mv (i := 0) rfl) (Nat.succ_pos _)
   replace ht_7 := ht_7.mv (t24.mv (i := 100) rfl) (t24.mv (i := 9) rfl)
   replace h17 := h17.mv t24.rd
   replace hb := hb.trans t24
   refine sr_fin [0, 1, 4, 5, 7] rfl <| ke_seq <| ke_region <| sr_go 2 rfl ?_
   refine sr_e (v := .agg #[str e10.2.user, .int .i64 e10.2.begun, v16]) (ev_loads (cs := [str e10.2.user, .int .i64 e10.2.begun, v16]) Tryz.isAgg74 Tryz.sizeOf74 rfl (hB22.cells (vs := [str e10.2.user, .int .i64 e10.2.begun, v16]) rfl)) ?_
   obtain ⟨y25, hy26, hS⟩ := bS hS
   refine sr_callc (vs := [str e10.1, .agg #[str e10.2.user, .int .i64 e10.2.begun, v16]]) rfl Tryz.call78 rfl (login_Logins_Drop_1_ok _ (hg.fr hz hb) (ρA := ρ19) hb.bd (hz.fr hg hb) h17 hedel_1_c0 hy26) (by decide) ?_
   rintro _ w27 ⟨rfl, hbw28⟩
   have t29 := Tr.of_below hbw28 hb.bd
   replace hm_0 := (hm_0.m t24).m t29
   replace hedel_1_c0 := hedel_1_c0.mv (t29.mv (i := 0) rfl) (Nat.succ_pos _)
   replace ht_7 := ht_7.mv (t29.mv (i := 100) rfl) (t29.mv (i := 9) rfl)
   replace hb := hb.trans t29
   refine sr_fin [0, 1, 4, 7, 16] rfl ?_
   refine ke_cond rfl (fun hc30 => ?_) (fun hc30 => ?_)
   ·replace hS := iT hS hc30
    refine ke_region <| sr_go 2 rfl ?_
    obtain ⟨w31, hrunw31, ht_71, t32⟩ := sr_mapDelIt (n := 19) (l := [(0, v1), (1, .func (.func 78) #[] #[pT bdel_1_c0 0]), (4, str e10.1), (7, pT rt_7 0), (16, .bool y25), (17, v1), (18, str e10.1)]) (d := none) (x := _) (y := _) (pos := _) (after := _) (t := _) (k := e10.1) ht_7 rfl Tryz.keyB9 Tryz.underlying67 (by decide) hb.bd
    refine sr_run0 (fun a ha => hrunw31 (ha.weaken (.cons rfl (.cons rfl (.cons rfl (.cons rfl (.cons rfl (.cons rfl (.cons rfl (.nil _))))))))) rfl rfl) ?_
    replace hedel_1_c0 := hedel_1_c0.mv (t32.mv (i := 0) rfl) (Nat.succ_pos _)
    replace hb := hb.trans t32
    replace ht_7 := ht_71
    clear ht_71
    replace hm_0 := ht_7.map
    refine sr_fin [0, 1, 7] rfl ?_
    have hK := maps_DeleteFunc_map_string_login_attempt_string_login_attempt__Logins_Drop_1_B2_ok hg hbd ho2 hz _ hr0 hS hb hm_0 hedel_1_c0 ht_7
    exact ke_wk hK
   ·replace hS := iF hS hc30
    refine ke_skip ?_
    have hK := maps_DeleteFunc_map_string_login_attempt_string_login_attempt__Logins_Drop_1_B2_ok hg hbd ho2 hz _ hr0 hS hb hm_0 hedel_1_c0 ht_7
    exact ke_wk hK
theorem maps_DeleteFunc_map_string_login_attempt_string_login_attempt__Logins_Drop_1_ok (w0 : World) (hg : Gs w0) {ρA : Tags} (hbd : ∀ b, ρA b ≠ 0 → b < w0.heap.size) (hz : Gz ρA) {o : Nat} (ho2 : 2 ≤ o) {m_0 : GMap Str login_attempt} {c1_0 : Str} {v1 : Value} {b3 : Nat} {r : GMap Str login_attempt} (h2 : MapT str login_attempt.c true ρA o w0 v1 m_0) (he4 : ElT strC ρA 0 w0 b3 0 [str c1_0] c1_0) (hS : maps_DeleteFunc_map_string_login_attempt_string_login_attempt__Logins_Drop_1 m_0 c1_0 = some r) :
  Calls Tryz.prog 45 #[v1, .func (.func 78) #[] #[pT b3 0]] w0 (Ret (fun v w' => ∃ ρ', v = .tuple #[] ∧ MapT str login_attempt.c true ρ' o w' v1 r ∧ Tr ρA w0 (rng o 1) ρ' w')) := by
 unfold maps_DeleteFunc_map_string_login_attempt_string_login_attempt__Logins_Drop_1 at hS
 have hb := enter_fr (ρ := ρA) (w := w0) (n := 1) ho2 hbd
 have hz := hz.enter (n := 1) ho2
 replace he4 := he4.mv (enter_rd (n := 1) ho2) (Nat.succ_pos _)
 replace h2 := h2.mv (enter_mv (p := 0) (n := 1) (by decide) ho2)
 refine ck Tryz.func45 [0, 1] rfl rfl ?_
 refine ke_seq <| ke_region <| sr_go 1 rfl ?_
 refine sr_rangeM 9 (by decide) h2 rfl Tryz.underlying67 hb.bd rfl (by decide) ?_
 intro r5 ρ6 w7 h8 t9
 replace h2 := h2.m t9
 replace he4 := he4.mv (t9.mv (i := 0) rfl) (Nat.succ_pos _)
 replace hb := hb.trans t9
 refine sr_fin [0, 1, 7] rfl ?_
 refine ke_block ?_
 have hK := maps_DeleteFunc_map_string_login_attempt_string_login_attempt__Logins_Drop_1_L1_ok hg hbd ho2 hz _ hS hb h2 he4 h8
 exact ke_wk (ke_loop hK)
theorem login_Logins_Drop_ok (w0 : World) (hg : Gs w0) {ρA : Tags} (hbd : ∀ b, ρA b ≠ 0 → b < w0.heap.size) (hz : Gz ρA) {o : Nat} (ho2 : 2 ≤ o) {l_0 : login_Logins} {user_1 : Str} {gl_0 : Nat} {r : Bool × login_Logins} (ho0 : login_Logins.O (fun p => o + p) ρA w0 gl_0 l_0) (hS : login_Logins_Drop l_0 user_1 = some r) :
  Calls Tryz.prog 35 #[pT gl_0 0, str user_1] w0 (Ret (fun v w' => ∃ ρ', v = .bool r.1 ∧ login_Logins.O (fun p => o + p) ρ' w' gl_0 r.2 ∧ Tr ρA w0 (rng o 7) ρ' w')) := by
 unfold login_Logins_Drop at hS
 have hb := enter_fr (ρ := ρA) (w := w0) (n := 7) ho2 hbd
 have hz := hz.enter (n := 7) ho2
 obtain ⟨v1, v3, v5, v7, hB9, hP2, h4, h6, h8⟩ := ho0
 replace hB9 := hB9.mv (enter_mv (p := 0) (n := 7) (by decide) ho2)
 replace hP2 := PtrO.mv hP2 secret_Locks.objK (fun p hp => enter_mv (p := 1 + p) (n := 7) (by omega) ho2) (fun p hp => by omega)
 replace h4 := h4.mv (enter_mv (p := 4) (n := 7) (by decide) ho2)
 replace h6 := h6.mv (enter_mv (p := 5) (n := 7) (by decide) ho2)
 replace h8 := h8.mv (enter_mv (p := 6) (n := 7) (by decide) ho2)
 refine ck Tryz.func35 [0, 1] rfl rfl ?_
 refine ke_seq <| ke_region ?_
 refine sr_boxT 5 (by decide) hb.bd rfl (by decide) ?_
 intro g10 ρ11 w12 hB14 t13
 replace hB9 := hB9.m t13
 replace hP2 := hP2.m secret_Locks.objK t13
 replace h4 := h4.m t13
 replace h6 := h6.m t13
 replace h8 := h8.m t13
 replace hb := hb.trans t13
 refine sr_go 1 rfl <| sr_fin [0, 3] rfl <| ke_seq <| ke_seq <| ke_region <| sr_go 1 rfl ?_
 obtain ⟨y15, hy16, hS⟩ := bS hS
 refine sr_cb Tryz.call42 (login_Logins_ready_ok _ (hg.fr hz hb) hb.bd (hz.fr hg hb) (τ0 := (fun p => 100 + p)) (fun p => Nat.le_add_right_of_le (by decide)) (by exact ⟨_, _, _, _, hB9, hP2, h4, h6, h8⟩) hy16) hb.bd ?_
 intro w17 t19
 replace hB14 := hB14.m t19
 replace hB9 := hB9.m t19
 replace hP2 := hP2.m secret_Locks.objK t19
 replace h4 := h4.m t19
 replace h6 := h6.m t19
 replace h8 := h8.m t19
 replace hb := hb.trans t19
 refine sr_go 1 rfl <| sr_fin [0, 3, 9] rfl ?_
 refine ke_cond rfl (fun hc20 => ?_) (fun hc20 => ?_)
 ·replace hS := iT hS hc20
  refine ke_seq <| ke_region <| sr_go 1 rfl <| sr_fin [4] rfl ?_
  cases hS
  exact ke_ret1 Tryz.func35 rfl rfl ⟨_, rfl, _, rfl, ⟨_, _, _, _, (hB9.lv 0 hb), (hP2.lv secret_Locks.objK ho2 hb), (h4.lv 4 hb), (h6.lv 5 hb), (h8.lv 6 hb)⟩, (leave_tr ho2 hb)⟩
 ·replace hS := iF hS hc20
  refine ke_skip <| ke_seq ?_
  refine ke_region_j (ρ := ρ11) (fun t => ([7] : List Nat).contains t) 12 Tryz.mixed (fun w22 hw21 => ?_)
  have t23 := Tr.of_below hw21 hb.bd
  replace hB14 := hB14.m t23
  replace hB9 := hB9.m t23
  replace h4 := h4.m t23
  replace hb := hb.trans t23
  refine dj_v 0 hb.bd rfl rfl ?_
  refine dj_v 1 hb.bd rfl rfl ?_
  refine dj_h 2 (pT gl_0 1) hb.bd rfl (fun w1 ρ1 hw1 => ev_fieldAddr (i := 1) Tryz.underlying69 rfl Tryz.info65 rfl rfl) ?_
  refine dj_h 3 v3 hb.bd rfl (fun w1 ρ1 hw1 => ev_load Tryz.isAgg65 rfl ((hB9.mv (hw1.mv (i := 100) rfl)).cell rfl)) ?_
  refine dj_h 4 (str user_1) hb.bd rfl (fun w1 ρ1 hw1 => ev_load Tryz.isAgg9 rfl ((hB14.mv (hw1.mv (i := 5) rfl)).cell rfl)) ?_
  obtain ⟨y59, hy60, hS⟩ := bS hS
  replace hy60 := Option.some.inj hy60
  obtain ⟨cs55, hrd56, hl57, hl58⟩ := h4.look (zcs := [str ([]), .int .i64 0, str ([]), str ([])]) (z := (login_credentials.mk (api_Verifier.mk ([]) 0 ([])) ([]))) Tryz.keyB9 Tryz.underlying65 Tryz.zeroValue98 rfl user_1
  rw [hy60] at hrd56
  obtain rfl : cs55 = [str y59.verifier.Salt, .int .i64 y59.verifier.Rounds, str y59.verifier.Hash, str y59.code] := hrd56
  refine dj_h 5 (.tuple #[.agg #[str y59.verifier.Salt, .int .i64 y59.verifier.Rounds, str y59.verifier.Hash, str y59.code], .bool (mhas l_0.users user_1)]) hb.bd rfl (fun w1 ρ1 hw1 => hl58 w1 _ _ (hw1.mv (i := 104) rfl) rfl rfl) ?_
  refine dj_v 6 hb.bd rfl rfl ?_
  refine dj_v 7 hb.bd rfl rfl ?_
  refine dj_v 8 hb.bd rfl rfl ?_
  refine dj_E 9 (by kernel_rfl) rfl ?_
  have jt61 : Tr ρ11 w22 (fun t => ([7] : List Nat).contains t) ρ11 w22 := (Tr.refl hb.bd).weak (fun _ _ => rfl) rfl rfl
  refine sr_allocT 7 (by decide) hb.bd Tryz.zeroValue98 (by decide) ?_
  intro g62 ρ63 w64 hB66 t65
  replace hP2 := (hP2.m secret_Locks.objK t23).m secret_Locks.objK t65
  replace h6 := (h6.m t23).m t65
  replace h8 := (h8.m t23).m t65
  replace hb := hb.trans t65
  replace jt61 := jt61.tw t65
  refine dj_nx [0, 3, 5, 17, 18] rfl jt61 ?_
  refine dj_E 10 (by kernel_rfl) rfl ?_
  have jt67 : Tr ρ63 w64 (fun t => ([7] : List Nat).contains t) ρ63 w64 := (Tr.refl hb.bd).weak (fun _ _ => rfl) rfl rfl
  refine sr_storeT (v := .agg #[str y59.verifier.Salt, .int .i64 y59.verifier.Rounds, str y59.verifier.Hash, str y59.code]) (vs := [str y59.verifier.Salt, .int .i64 y59.verifier.Rounds, str y59.verifier.Hash, str y59.code]) (cs' := #[str y59.verifier.Salt, .int .i64 y59.verifier.Rounds, str y59.verifier.Hash, str y59.code]) hB66 (by decide) hb.bd rfl rfl rfl Tryz.sizeOf98 rfl rfl rfl ?_
  intro w68 hB66 t69
  replace hB14 := (hB14.m t65).m t69
  replace hB9 := (hB9.m t65).m t69
  replace h4 := (h4.m t65).m t69
  replace hb := hb.trans t69
  replace jt67 := jt67.tw t69
  refine dj_nx [0, 3, 18] rfl jt67 ?_
  refine dj_v 11 hb.bd rfl rfl ?_
  refine dj_done rfl (by kernel_rfl) ?_
  refine ke_fin [0, 3, 6] rfl <| ke_seq ?_
  refine ke_region_j (ρ := ρ63) (fun t => ([104] : List Nat).contains t) 6 Tryz.mixed (fun w71 hw70 => ?_)
  have t72 := Tr.of_below hw70 hb.bd
  replace hB14 := hB14.m t72
  replace hB9 := hB9.m t72
  replace hP2 := (hP2.m secret_Locks.objK t69).m secret_Locks.objK t72
  replace h4 := h4.m t72
  replace h6 := (h6.m t69).m t72
  replace h8 := (h8.m t69).m t72
  replace hb := hb.trans t72
  refine dj_v 0 hb.bd rfl rfl ?_
  refine dj_v 1 hb.bd rfl rfl ?_
  refine dj_h 2 (pT gl_0 1) hb.bd rfl (fun w1 ρ1 hw1 => ev_fieldAddr (i := 1) Tryz.underlying69 rfl Tryz.info65 rfl rfl) ?_
  refine dj_h 3 v3 hb.bd rfl (fun w1 ρ1 hw1 => ev_load Tryz.isAgg65 rfl ((hB9.mv (hw1.mv (i := 100) rfl)).cell rfl)) ?_
  refine dj_h 4 (str user_1) hb.bd rfl (fun w1 ρ1 hw1 => ev_load Tryz.isAgg9 rfl ((hB14.mv (hw1.mv (i := 5) rfl)).cell rfl)) ?_
  refine dj_E 5 (by kernel_rfl) rfl ?_
  have jt80 : Tr ρ63 w71 (fun t => ([104] : List Nat).contains t) ρ63 w71 := (Tr.refl hb.bd).weak (fun _ _ => rfl) rfl rfl
  refine sr_mapDel0 (k := user_1) h4 Tryz.keyB9 Tryz.underlying65 (by decide) hb.bd rfl rfl ?_
  intro w81 h41 t82
  replace hb := hb.trans t82
  replace jt80 := jt80.tw t82
  replace h4 := h41
  clear h41
  refine dj_nx [0, 3, 6] rfl jt80 ?_
  refine dj_done rfl (by kernel_rfl) ?_
  refine ke_fin [0, 3, 6] rfl <| ke_seq ?_
  refine ke_region_j (ρ := ρ63) (fun t => ([105] : List Nat).contains t) 6 Tryz.mixed (fun w84 hw83 => ?_)
  have t85 := Tr.of_below hw83 hb.bd
  replace hB14 := (hB14.m t82).m t85
  replace hB9 := (hB9.m t82).m t85
  replace hP2 := (hP2.m secret_Locks.objK t82).m secret_Locks.objK t85
  replace h6 := (h6.m t82).m t85
  replace h8 := (h8.m t82).m t85
  replace hb := hb.trans t85
  refine dj_v 0 hb.bd rfl rfl ?_
  refine dj_v 1 hb.bd rfl rfl ?_
  refine dj_h 2 (pT gl_0 2) hb.bd rfl (fun w1 ρ1 hw1 => ev_fieldAddr (i := 2) Tryz.underlying69 rfl Tryz.info66 rfl rfl) ?_
  refine dj_h 3 v5 hb.bd rfl (fun w1 ρ1 hw1 => ev_load Tryz.isAgg66 rfl ((hB9.mv (hw1.mv (i := 100) rfl)).cell rfl)) ?_
  refine dj_h 4 (str user_1) hb.bd rfl (fun w1 ρ1 hw1 => ev_load Tryz.isAgg9 rfl ((hB14.mv (hw1.mv (i := 5) rfl)).cell rfl)) ?_
  refine dj_E 5 (by kernel_rfl) rfl ?_
  have jt93 : Tr ρ63 w84 (fun t => ([105] : List Nat).contains t) ρ63 w84 := (Tr.refl hb.bd).weak (fun _ _ => rfl) rfl rfl
  refine sr_mapDel0 (k := user_1) h6 Tryz.keyB9 Tryz.underlying66 (by decide) hb.bd rfl rfl ?_
  intro w94 h61 t95
  replace h4 := (h4.m t85).m t95
  replace hb := hb.trans t95
  replace jt93 := jt93.tw t95
  replace h6 := h61
  clear h61
  refine dj_nx [0, 3, 6] rfl jt93 ?_
  refine dj_done rfl (by kernel_rfl) ?_
  refine ke_fin [0, 3, 6] rfl <| ke_seq ?_
  refine ke_region_j (ρ := ρ63) (fun t => ([101, 102, 103] : List Nat).contains t) 6 Tryz.mixed (fun w97 hw96 => ?_)
  have t98 := Tr.of_below hw96 hb.bd
  replace hB14 := (hB14.m t95).m t98
  replace hB9 := (hB9.m t95).m t98
  replace hP2 := (hP2.m secret_Locks.objK t95).m secret_Locks.objK t98
  replace h4 := h4.m t98
  replace h6 := h6.m t98
  replace h8 := (h8.m t95).m t98
  replace hb := hb.trans t98
  refine dj_v 0 hb.bd rfl rfl ?_
  refine dj_v 1 hb.bd rfl rfl ?_
  refine dj_h 2 (pT gl_0 0) hb.bd rfl (fun w1 ρ1 hw1 => ev_fieldAddr (i := 0) Tryz.underlying69 rfl Tryz.info64 rfl rfl) ?_
  refine dj_h 3 v1 hb.bd rfl (fun w1 ρ1 hw1 => ev_load Tryz.isAgg64 rfl ((hB9.mv (hw1.mv (i := 100) rfl)).cell rfl)) ?_
  refine dj_h 4 (str user_1) hb.bd rfl (fun w1 ρ1 hw1 => ev_load Tryz.isAgg9 rfl ((hB14.mv (hw1.mv (i := 5) rfl)).cell rfl)) ?_
  refine dj_E 5 (by kernel_rfl) rfl ?_
  have jt150 : Tr ρ63 w97 (fun t => ([101, 102, 103] : List Nat).contains t) ρ63 w97 := (Tr.refl hb.bd).weak (fun _ _ => rfl) rfl rfl
  rcases ho152 : l_0.locks with _ | z151
  ·replace hS := optC_none hS ho152
   obtain rfl := hP2.none_ ho152
   obtain ⟨y178, hy179, hS⟩ := bS hS
   refine sr_cb Tryz.call77 (secret_Locks_Clear__nil_ok _ (hg.fr hz hb) hb.bd (hz.fr hg hb) hy179) hb.bd ?_
   intro w180 t182
   replace hB14 := hB14.m t182
   replace hB9 := hB9.m t182
   replace hb := hb.trans t182
   replace jt150 := jt150.tw t182
   refine dj_nx [0, 3, 6] rfl jt150 ?_
   refine dj_done rfl (by kernel_rfl) ?_
   refine ke_fin [0, 3, 6] rfl <| ke_seq <| ke_region <| sr_go 2 rfl ?_
   refine sr_fa 3 Tryz.underlying69 rfl Tryz.info67 ?_
   refine sr_ld v7 Tryz.isAgg67 rfl (hB9.cell rfl) ?_
   have t183 := frz_tr (ρ := ρ63) (w := w180) (i := 5) (by decide) hb.bd
   have he184 : ElT strC (frz ρ63 5) 0 w180 g10 0 [str user_1] user_1 := Blk.frzEl hB14 rfl rfl
   replace h8 := (h8.m t182).m t183
   replace h4 := (h4.m t182).m t183
   replace h6 := (h6.m t182).m t183
   replace hb := hb.trans t183
   refine sr_e (v := .func (.func 78) #[] #[pT g10 0]) (ev_makeFunc rfl) ?_
   obtain ⟨y185, hy186, hS⟩ := bS hS
   refine sr_cl Tryz.call45 (maps_DeleteFunc_map_string_login_attempt_string_login_attempt__Logins_Drop_1_ok _ (hg.fr hz hb) hb.bd (hz.fr hg hb) (o := 106) (by decide) h8 he184 hy186) ?_
   rintro _ w187 ⟨ρ190, rfl, h81, t189⟩
   replace hB9 := (hB9.m t183).m t189
   replace h4 := h4.m t189
   replace h6 := h6.m t189
   replace hb := hb.trans t189
   replace h8 := h81
   clear h81
   refine sr_fin [6] rfl <| ke_seq <| ke_region <| sr_go 2 rfl <| sr_fin [4] rfl ?_
   cases hS
   exact ke_ret1 Tryz.func35 rfl rfl ⟨_, rfl, _, rfl, ⟨_, _, _, _, (hB9.lv 0 hb), PtrO.nil, (h4.lv 4 hb), (h6.lv 5 hb), (h8.lv 6 hb)⟩, (leave_tr ho2 hb)⟩
  ·replace hS := optC_some hS ho152
   obtain ⟨g153, rfl, ⟨v154, lp156, hB158, h155, hR157⟩⟩ := hP2.some_ ho152
   obtain ⟨y159, hy160, hS⟩ := bS hS
   refine sr_cl Tryz.call77 (secret_Locks_Clear_ok _ (hg.fr hz hb) hb.bd (hz.fr hg hb) (o := 101) (by decide) (by exact ⟨_, _, hB158, h155, hR157⟩) hy160) ?_
   rintro _ w161 ⟨ρ169, rfl, ⟨v164, lp166, hB168, h165, hR167⟩, t163⟩
   replace hB14 := hB14.m t163
   replace hB9 := hB9.m t163
   replace hb := hb.trans t163
   replace jt150 := jt150.tw t163
   refine dj_nx [0, 3, 6] rfl jt150 ?_
   refine dj_done rfl (by kernel_rfl) ?_
   refine ke_fin [0, 3, 6] rfl <| ke_seq <| ke_region <| sr_go 2 rfl ?_
   refine sr_fa 3 Tryz.underlying69 rfl Tryz.info67 ?_
   refine sr_ld v7 Tryz.isAgg67 rfl (hB9.cell rfl) ?_
   have t170 := frz_tr (ρ := ρ169) (w := w161) (i := 5) (by decide) hb.bd
   have he171 : ElT strC (frz ρ169 5) 0 w161 g10 0 [str user_1] user_1 := Blk.frzEl hB14 rfl rfl
   replace h8 := (h8.m t163).m t170
   replace hR167 := Recs.mv hR167 secret_record.objK (t170.mv (i := 103) rfl) (by decide)
   replace h4 := (h4.m t163).m t170
   replace h6 := (h6.m t163).m t170
   replace hb := hb.trans t170
   refine sr_e (v := .func (.func 78) #[] #[pT g10 0]) (ev_makeFunc rfl) ?_
   obtain ⟨y172, hy173, hS⟩ := bS hS
   refine sr_cl Tryz.call45 (maps_DeleteFunc_map_string_login_attempt_string_login_attempt__Logins_Drop_1_ok _ (hg.fr hz hb) hb.bd (hz.fr hg hb) (o := 106) (by decide) h8 he171 hy173) ?_
   rintro _ w174 ⟨ρ177, rfl, h81, t176⟩
   replace hB168 := (hB168.m t170).m t176
   replace h165 := (h165.m t170).m t176
   replace hR167 := Recs.mv hR167 secret_record.objK (t176.mv (i := 103) rfl) (by decide)
   replace hB9 := (hB9.m t170).m t176
   replace h4 := h4.m t176
   replace h6 := h6.m t176
   replace hb := hb.trans t176
   replace h8 := h81
   clear h81
   refine sr_fin [6] rfl <| ke_seq <| ke_region <| sr_go 2 rfl <| sr_fin [4] rfl ?_
   cases hS
   exact ke_ret1 Tryz.func35 rfl rfl ⟨_, rfl, _, rfl, ⟨_, _, _, _, (hB9.lv 0 hb), (PtrO.mk ⟨_, _, (hB168.lv 1 hb), (h165.lv 2 hb), (Recs.mv hR167 secret_record.objK (leave_mv (p := 3) (by decide) hb) (Nat.ne_of_gt (Nat.lt_of_lt_of_le (Nat.lt_of_lt_of_le Nat.zero_lt_two ho2) (Nat.le_add_right _ _))))⟩), (h4.lv 4 hb), (h6.lv 5 hb), (h8.lv 6 hb)⟩, (leave_tr ho2 hb)⟩
theorem ref39_Logins_Drop_B2_ok {w0 : World} (hg : Gs w0) {ρA : Tags} (hbd : ∀ b, ρA b ≠ 0 → b < w0.heap.size) {o : Nat} (ho2 : 2 ≤ o) {gl_0 : Nat} (hz : Gz (enter ρA o 6)) (r0 : ref39_Logins → Str → List ref39_attempt → Int → Option (Bool × ref39_Logins))
  (hr0 : ∀ {r : Bool × ref39_Logins} {ol_0 : ref39_Logins} {name_1 : Str} {kept_5 : List ref39_attempt} {i_6 : Int} {v16 : Value} {v18 : Value} {v20 : Value} {M22 : NM api_Proof} {vkept_5 : Value}, r0 ol_0 name_1 kept_5 i_6 = some r → ∀ {ρ : Tags} {w : World}, (Fr (enter ρA o 6) w0 ρ w) → (Blk ρ 100 w gl_0 (.cells #[v16, v18, v20] 96 (0, 0))) → (PtrO ref22_Locks.O (fun q => 100 + (1 + q)) ρ w v16 ol_0.locks) → (OwnT ref39_user.c 103 ρ 103 w v18 ol_0.users) → (OwnT (ref39_attempt.c M22) 108 ρ 104 w v20 ol_0.attempts) → (NestT api_Proof.c 42 ρ 105 w M22 none) → (OwnT (ref39_attempt.c M22) 108 ρ 7 w vkept_5 kept_5) → KE Tryz.prog 36 (Ret (fun v w' => ∃ ρ', v = .bool r.1 ∧ ref39_Logins.O (fun p => o + p) ρ' w' gl_0 r.2 ∧ Tr ρA w0 (rng o 6) ρ' w')) 76 [.inLoop (sub (bodyOf Tryz.f36) [2, 2, 2, 1, 2, 2, 1]), .inBlock 0, .code (sub (bodyOf Tryz.f36) [2, 2, 2, 2])] [(0, pT gl_0 0), (1, str name_1), (5, vkept_5), (6, .int .i64 i_6)] w) {r : Bool × ref39_Logins} {ol_0 : ref39_Logins} {name_1 : Str} {kept_5 : List ref39_attempt} {i_6 : Int} {v62 : Value} {v64 : Value} {v66 : Value} {M68 : NM api_Proof} {vkept_5 : Value} (hS : ref39_Logins_Drop_B2 r0 ol_0 name_1 kept_5 i_6 = some r) {ρ : Tags} {w : World} (hb : Fr (enter ρA o 6) w0 ρ w) (hBl_0 : Blk ρ 100 w gl_0 (.cells #[v62, v64, v66] 96 (0, 0))) (hP63 : PtrO ref22_Locks.O (fun q => 100 + (1 + q)) ρ w v62 ol_0.locks) (h65 : OwnT ref39_user.c 103 ρ 103 w v64 ol_0.users) (h67 : OwnT (ref39_attempt.c M68) 108 ρ 104 w v66 ol_0.attempts) (hN69 : NestT api_Proof.c 42 ρ 105 w M68 none) (hkept_5 : OwnT (ref39_attempt.c M68) 108 ρ 7 w vkept_5 kept_5) :
  KE Tryz.prog 36 (Ret (fun v w' => ∃ ρ', v = .bool r.1 ∧ ref39_Logins.O (fun p => o + p) ρ' w' gl_0 r.2 ∧ Tr ρA w0 (rng o 6) ρ' w')) 76 [.inBlock 1, .code (sub (bodyOf Tryz.f36) [2, 2, 2, 1, 2, 2, 1, 2, 2]), .inLoop (sub (bodyOf Tryz.f36) [2, 2, 2, 1, 2, 2, 1]), .inBlock 0, .code (sub (bodyOf Tryz.f36) [2, 2, 2, 2])] [(0, pT gl_0 0), (1, str name_1), (5, vkept_5), (6, .int .i64 i_6)] w := by
 unfold ref39_Logins_Drop_B2 at hS
 refine ke_inBlock <| ke_region <| sr_go 3 rfl <| sr_fin [0, 1, 5, 6] rfl ?_
 have hK := hr0 hS hb hBl_0 hP63 h65 h67 hN69 hkept_5
 exact ke_wk hK
theorem ref39_Logins_Drop_L1_ok {w0 : World} (hg : Gs w0) {ρA : Tags} (hbd : ∀ b, ρA b ≠ 0 → b < w0.heap.size) {o : Nat} (ho2 : 2 ≤ o) {gl_0 : Nat} (hz : Gz (enter ρA o 6)) : ∀ (n : Nat), ∀ {r : Bool × ref39_Logins} {ol_0 : ref39_Logins} {name_1 : Str} {kept_5 : List ref39_attempt} {i_6 : Int} {v16 : Value} {v18 : Value} {v20 : Value} {M22 : NM api_Proof} {vkept_5 : Value}, ref39_Logins_Drop_L1 n ol_0 name_1 kept_5 i_6 = some r → ∀ {ρ : Tags} {w : World}, (Fr (enter ρA o 6) w0 ρ w) → (Blk ρ 100 w gl_0 (.cells #[v16, v18, v20] 96 (0, 0))) → (PtrO ref22_Locks.O (fun q => 100 + (1 + q)) ρ w v16 ol_0.locks) → (OwnT ref39_user.c 103 ρ 103 w v18 ol_0.users) → (OwnT (ref39_attempt.c M22) 108 ρ 104 w v20 ol_0.attempts) → (NestT api_Proof.c 42 ρ 105 w M22 none) → (OwnT (ref39_attempt.c M22) 108 ρ 7 w vkept_5 kept_5) → KE Tryz.prog 36 (Ret (fun v w' => ∃ ρ', v = .bool r.1 ∧ ref39_Logins.O (fun p => o + p) ρ' w' gl_0 r.2 ∧ Tr ρA w0 (rng o 6) ρ' w')) 76 [.code (sub (bodyOf Tryz.f36) [2, 2, 2, 1, 2, 2, 1]), .inLoop (sub (bodyOf Tryz.f36) [2, 2, 2, 1, 2, 2, 1]), .inBlock 0, .code (sub (bodyOf Tryz.f36) [2, 2, 2, 2])] [(0, pT gl_0 0), (1, str name_1), (5, vkept_5), (6, .int .i64 i_6)] w := by
 intro n
 induction n with
 | zero => intro r ol_0 name_1 kept_5 i_6 v16 v18 v20 M22 vkept_5 hS; cases hS
 | succ n ih =>
  have hr0 : ∀ {r : Bool × ref39_Logins} {ol_0 : ref39_Logins} {name_1 : Str} {kept_5 : List ref39_attempt} {i_6 : Int} {v16 : Value} {v18 : Value} {v20 : Value} {M22 : NM api_Proof} {vkept_5 : Value}, ref39_Logins_Drop_L1 n ol_0 name_1 kept_5 i_6 = some r → ∀ {ρ : Tags} {w : World}, (Fr (enter ρA o 6) w0 ρ w) → (Blk ρ 100 w gl_0 (.cells #[v16, v18, v20] 96 (0, 0))) → (PtrO ref22_Locks.O (fun q => 100 + (1 + q)) ρ w v16 ol_0.locks) → (OwnT ref39_user.c 103 ρ 103 w v18 ol_0.users) → (OwnT (ref39_attempt.c M22) 108 ρ 104 w v20 ol_0.attempts) → (NestT api_Proof.c 42 ρ 105 w M22 none) → (OwnT (ref39_attempt.c M22) 108 ρ 7 w vkept_5 kept_5) → KE Tryz.prog 36 (Ret (fun v w' => ∃ ρ', v = .bool r.1 ∧ ref39_Logins.O (fun p => o + p) ρ' w' gl_0 r.2 ∧ Tr ρA w0 (rng o 6) ρ' w')) 76 [.inLoop (sub (bodyOf Tryz.f36) [2, 2, 2, 1, 2, 2, 1]), .inBlock 0, .code (sub (bodyOf Tryz.f36) [2, 2, 2, 2])] [(0, pT gl_0 0), (1, str name_1), (5, vkept_5), (6, .int .i64 i_6)] w := fun {r} {ol_0} {name_1} {kept_5} {i_6} {v16} {v18} {v20} {M22} {vkept_5} hS {ρ} {w} hb hBl_0 hP17 h19 h21 hN23 hkept_5 => ke_inLoop (ih hS hb hBl_0 hP17 h19 h21 hN23 hkept_5)
  clear ih
  intro r ol_0 name_1 kept_5 i_6 v16 v18 v20 M22 vkept_5 hS ρ w hb hBl_0 hP17 h19 h21 hN23 hkept_5
  unfold ref39_Logins_Drop_L1 at hS
  refine ke_seq <| ke_seq <| ke_region <| sr_go 3 rfl ?_
  refine sr_fa 2 Tryz.underlying96 rfl Tryz.info94 ?_
  refine sr_ld v20 Tryz.isAgg94 rfl (hBl_0.cell rfl) ?_
  refine sr_e (ev_sllenW Tryz.underlying94 rfl h21.asSl) ?_
  refine sr_go 1 rfl <| sr_fin [0, 1, 5, 6, 18] rfl ?_
  refine ke_cond rfl (fun hc25 => ?_) (fun hc25 => ?_)
  ·replace hS := iT hS hc25
   refine ke_skip <| ke_seq ?_
   refine ke_block ?_
   refine ke_seq <| ke_region <| sr_go 2 rfl ?_
   refine sr_fa 2 Tryz.underlying96 rfl Tryz.info94 ?_
   refine sr_ld v20 Tryz.isAgg94 rfl (hBl_0.cell rfl) ?_
   refine sr_go 1 rfl ?_
   obtain ⟨y26, hy27, hS⟩ := bS hS
   obtain ⟨b28, o29, cs31, hq32, he30, hg36, ho37⟩ := h21.elemQ (P := Tryz.prog) Tryz.underlying94 Tryz.info108 rfl hy27
   obtain ⟨v33, hcshe30, hR35⟩ := he30.rd
   obtain rfl : cs31 = [str y26.id, str y26.user, .int .i64 y26.begun, v33] := hcshe30
   have h34 := hN23.sl hR35
   refine sr_e (hq32 w rfl rfl) ?_
   refine sr_fa (o29 + 1) Tryz.underlying108 rfl Tryz.info9 ?_
   refine sr_ld (str y26.user) Tryz.isAgg9 rfl (he30.cell 1 _ rfl) ?_
   refine sr_go 1 rfl ?_
   refine sr_e (ev_sne rfl rfl) ?_
   refine sr_fin [0, 1, 5, 6, 30] rfl ?_
   refine ke_cond rfl (fun hc38 => ?_) (fun hc38 => ?_)
   ·replace hS := iT hS hc38
    refine ke_region <| sr_go 3 rfl ?_
    refine sr_fa 2 Tryz.underlying96 rfl Tryz.info94 ?_
    refine sr_ld v20 Tryz.isAgg94 rfl (hBl_0.cell rfl) ?_
    refine sr_go 1 rfl ?_
    obtain ⟨y39, hy40, hS⟩ := bS hS
    obtain ⟨b41, o42, cs44, hq45, he43, hg49, ho50⟩ := h21.elemQ (P := Tryz.prog) Tryz.underlying94 Tryz.info108 rfl hy40
    obtain ⟨v46, hcshe43, hR48⟩ := he43.rd
    obtain rfl : cs44 = [str y39.id, str y39.user, .int .i64 y39.begun, v46] := hcshe43
    have h47 := hN23.sl hR48
    refine sr_e (hq45 w rfl rfl) ?_
    refine sr_e (v := .agg #[str y39.id, str y39.user, .int .i64 y39.begun, v46]) (ev_loads (cs := [str y39.id, str y39.user, .int .i64 y39.begun, v46]) Tryz.isAgg108 Tryz.sizeOf108 rfl he43.cell) ?_
    refine sr_litT (c := (ref39_attempt.c M22)) (ρ := ρ) (E := 108) (xs := [y39]) (vs := #[(0, .agg #[str y39.id, str y39.user, .int .i64 y39.begun, v46])]) (cs := #[str y39.id, str y39.user, .int .i64 y39.begun, v46]) (css := [[str y39.id, str y39.user, .int .i64 y39.begun, v46]]) rfl (fun _ => by kernel_rfl) rfl ⟨⟨_, rfl, hR48⟩, trivial⟩ rfl (by decide) hb.bd (by decide) ?_
    intro v51 w53 h52 hbw55
    have t54 := Tr.of_below hbw55 hb.bd
    replace hkept_5 := hkept_5.m t54
    replace hb := hb.trans t54
    obtain ⟨hk56, hS⟩ := chk_some hS
    refine sr_appendT (i := 7) (c := (ref39_attempt.c M22)) (ρ := ρ) (E := 108) (xs := kept_5) (ys := ([y39] : List ref39_attempt)) hkept_5 ((SlT.of_sl (i := 0) h52)).x Tryz.underlying94 Tryz.info108 rfl rfl rfl (Nat.succ_pos _) (by decide) (by decide) hb.bd hk56 rfl rfl (by decide) ?_
    intro v57 ρ59 w60 h58 t61
    replace hBl_0 := (hBl_0.m t54).m t61
    replace hP17 := (hP17.m ref22_Locks.objK t54).m ref22_Locks.objK t61
    replace h19 := (h19.m t54).m t61
    replace h21 := (h21.m t54).m t61
    replace hN23 := (hN23.m t54).m t61
    replace hb := hb.trans t61
    refine sr_go 1 rfl <| sr_fin [0, 1, 5, 6] rfl ?_
    have hK := ref39_Logins_Drop_B2_ok hg hbd ho2 hz _ hr0 hS hb hBl_0 hP17 h19 h21 hN23 h58
    exact ke_wk hK
   ·replace hS := iF hS hc38
    refine ke_skip ?_
    have hK := ref39_Logins_Drop_B2_ok hg hbd ho2 hz _ hr0 hS hb hBl_0 hP17 h19 h21 hN23 hkept_5
    exact ke_wk hK
  ·replace hS := iF hS hc25
   refine ke_exit (k' := _) rfl ?_
   refine ke_seq <| ke_region <| sr_go 3 rfl ?_
   refine sr_fa 2 Tryz.underlying96 rfl Tryz.info94 ?_
   refine sr_storeT (v := vkept_5) (vs := [vkept_5]) (cs' := #[v16, v18, vkept_5]) hBl_0 (by decide) hb.bd rfl rfl (one_cells (OwnT.oneCell hkept_5)) Tryz.sizeOf94 rfl (by first | rfl | (simp only [List.all_cons, List.all_nil, OwnT.oneCell hkept_5]; done) | (simp only [List.all_cons, List.all_nil, OwnT.oneCell hkept_5]; rfl)) rfl ?_
   intro w71 hBl_01 t72
   replace hP17 := hP17.m ref22_Locks.objK t72
   replace h19 := h19.m t72
   replace hkept_5 := hkept_5.m t72
   replace hN23 := hN23.m t72
   replace hb := hb.trans t72
   replace hBl_0 : Blk ρ 100 w71 gl_0 (.cells #[v16, v18, vkept_5] 96 (0, 0)) := hBl_01
   clear hBl_01
   refine sr_fin [0, 1] rfl <| ke_seq <| ke_region <| sr_go 2 rfl ?_
   refine sr_fa 0 Tryz.underlying96 rfl Tryz.info90 ?_
   refine sr_ld v16 Tryz.isAgg90 rfl (hBl_0.cell rfl) ?_
   refine sr_go 1 rfl ?_
   rcases ho74 : ol_0.locks with _ | z73
   ·replace hS := optC_none hS ho74
    obtain rfl := hP17.none_ ho74
    obtain ⟨y120, hy121, hS⟩ := bS hS
    refine sr_cb Tryz.call71 (ref22_Locks_Clear__nil_ok _ (hg.fr hz hb) hb.bd (hz.fr hg hb) hy121) hb.bd ?_
    intro w122 t124
    replace hkept_5 := hkept_5.m t124
    replace hb := hb.trans t124
    refine sr_fin [0, 1] rfl <| ke_seq <| ke_region <| sr_go 2 rfl ?_
    have t125 := rtg_tr (ρ := ρ) (w := w122) (i := 7) 104 (by decide) hb.bd
    have hmv126 : Mv ρ w122 7 (rtg ρ 7 104) w122 104 := rtg_mv (by decide)
    replace hBl_0 := (hBl_0.m t124).m t125
    replace h19 := (h19.m t124).m t125
    replace hN23 := (hN23.m t124).m t125
    replace hb := hb.trans t125
    replace hkept_5 := hkept_5.mv hmv126 (by decide)
    obtain ⟨y127, hy128, hS⟩ := bS hS
    refine sr_cb Tryz.call64 (ref39_at_ok _ (hg.fr hz hb) hb.bd (hz.fr hg hb) (τ0 := (fun p => 100 + p)) (fun p => Nat.le_add_right_of_le (by decide)) (by exact ⟨_, _, _, _, hBl_0, PtrO.nil, h19, hkept_5, hN23⟩) hy128) hb.bd ?_
    intro w129 t131
    replace hBl_0 := hBl_0.m t131
    replace h19 := h19.m t131
    replace hkept_5 := hkept_5.m t131
    replace hN23 := hN23.m t131
    replace hb := hb.trans t131
    refine sr_go 1 rfl <| sr_fin [0, 7] rfl <| ke_seq <| ke_seq <| ke_region <| sr_go 2 rfl <| sr_fin [0, 7, 55] rfl ?_
    refine ke_cond rfl (fun hc132 => ?_) (fun hc132 => ?_)
    ·replace hS := iT hS hc132
     refine ke_seq <| ke_region <| sr_go 1 rfl <| sr_fin [4] rfl ?_
     cases hS
     exact ke_ret1 Tryz.func36 rfl rfl ⟨_, rfl, _, rfl, ⟨_, _, _, _, (hBl_0.lv 0 hb), PtrO.nil, (h19.lv 3 ho2 hb), (hkept_5.lv 4 ho2 hb), (hN23.lv 5 ho2 hb)⟩, (leave_tr ho2 hb)⟩
    ·replace hS := iF hS hc132
     refine ke_skip <| ke_seq <| ke_region <| sr_go 1 rfl <| sr_fin [0, 7, 8] rfl <| ke_seq <| ke_region <| sr_go 3 rfl ?_
     refine sr_fa 1 Tryz.underlying96 rfl Tryz.info93 ?_
     refine sr_ld v18 Tryz.isAgg93 rfl (hBl_0.cell rfl) ?_
     refine sr_go 1 rfl ?_
     obtain ⟨hk133, hS⟩ := chk_some hS
     obtain ⟨v134, h135, hq136⟩ := (h19.sl).cutT_h (P := Tryz.prog) Tryz.underlying93 Tryz.info103 rfl hk133
     refine sr_e (hq136 w129 rfl rfl) ?_
     obtain ⟨hk137, hS⟩ := chk_some hS
     refine sr_appendT (i := 65) (c := ref39_user.c) (ρ := (rtg ρ 7 104)) (E := 103) (xs := ([] : List ref39_user)) (ys := cut ol_0.users 0 y127) OwnT.nil (h135).x Tryz.underlying93 Tryz.info103 rfl rfl rfl (Nat.succ_pos _) (by decide) (by decide) hb.bd hk137 rfl rfl (by decide) ?_
     intro v138 ρ140 w141 h139 t142
     replace hBl_0 := hBl_0.m t142
     replace h19 := h19.m t142
     replace hb := hb.trans t142
     refine sr_go 1 rfl <| sr_fin [0, 7, 8] rfl <| ke_seq <| ke_region <| sr_go 4 rfl ?_
     refine sr_fa 1 Tryz.underlying96 rfl Tryz.info93 ?_
     refine sr_ld v18 Tryz.isAgg93 rfl (hBl_0.cell rfl) ?_
     refine sr_go 2 rfl ?_
     obtain ⟨hk143, hS⟩ := chk_some hS
     obtain ⟨v144, h145, hq146⟩ := (h19.sl).cutT_l (P := Tryz.prog) Tryz.underlying93 Tryz.info103 rfl hk143
     refine sr_e (hq146 w141 rfl rfl) ?_
     obtain ⟨hk147, hS⟩ := chk_some hS
     refine sr_appendT (i := 65) (c := ref39_user.c) (ρ := ρ140) (E := 103) (xs := ([] : List ref39_user) ++ (cut ol_0.users 0 y127)) (ys := cut ol_0.users (IntKind.i64.wrap (y127 + 1)) ol_0.users.length) h139 (h145).x Tryz.underlying93 Tryz.info103 rfl rfl rfl (Nat.succ_pos _) (by decide) (by decide) hb.bd hk147 rfl rfl (by decide) ?_
     intro v148 ρ150 w151 h149 t152
     replace hBl_0 := hBl_0.m t152
     replace hkept_5 := (hkept_5.m t142).m t152
     replace hN23 := (hN23.m t142).m t152
     replace hb := hb.trans t152
     refine sr_go 1 rfl ?_
     refine sr_fa 1 Tryz.underlying96 rfl Tryz.info93 ?_
     refine sr_storeT (v := v148) (vs := [v148]) (cs' := #[.pointer none, v148, vkept_5]) hBl_0 (by decide) hb.bd rfl rfl (one_cells (OwnT.oneCell h149)) Tryz.sizeOf93 rfl (by first | rfl | (simp only [List.all_cons, List.all_nil, OwnT.oneCell h149]; done) | (simp only [List.all_cons, List.all_nil, OwnT.oneCell h149]; rfl)) rfl ?_
     intro w153 hBl_0 t154
     replace h149 := h149.m t154
     replace hb := hb.trans t154
     refine sr_fin [] rfl <| ke_seq <| ke_region <| sr_go 1 rfl <| sr_fin [4] rfl ?_
     have t155 := rtg_tr (ρ := ρ150) (w := w153) (i := 65) 103 (by decide) hb.bd
     have hmv156 : Mv ρ150 w153 65 (rtg ρ150 65 103) w153 103 := rtg_mv (by decide)
     replace hBl_0 := hBl_0.m t155
     replace hkept_5 := (hkept_5.m t154).m t155
     replace hN23 := (hN23.m t154).m t155
     replace hb := hb.trans t155
     replace h149 := h149.mv hmv156 (by decide)
     cases hS
     exact ke_ret1 Tryz.func36 rfl rfl ⟨_, rfl, _, rfl, ⟨_, _, _, _, (hBl_0.lv 0 hb), PtrO.nil, (h149.lv 3 ho2 hb), (hkept_5.lv 4 ho2 hb), (hN23.lv 5 ho2 hb)⟩, (leave_tr ho2 hb)⟩
   ·replace hS := optC_some hS ho74
    obtain ⟨g75, rfl, ⟨v76, hB78, h77⟩⟩ := hP17.some_ ho74
    obtain ⟨y79, hy80, hS⟩ := bS hS
    refine sr_cl Tryz.call71 (ref22_Locks_Clear_ok _ (hg.fr hz hb) hb.bd (hz.fr hg hb) (o := 101) (by decide) (by exact ⟨_, hB78, h77⟩) hy80) ?_
    rintro _ w81 ⟨ρ87, rfl, ⟨v84, hB86, h85⟩, t83⟩
    replace hkept_5 := hkept_5.m t83
    replace hb := hb.trans t83
    refine sr_fin [0, 1] rfl <| ke_seq <| ke_region <| sr_go 2 rfl ?_
    have t88 := rtg_tr (ρ := ρ87) (w := w81) (i := 7) 104 (by decide) hb.bd
    have hmv89 : Mv ρ87 w81 7 (rtg ρ87 7 104) w81 104 := rtg_mv (by decide)
    replace hB86 := hB86.m t88
    replace h85 := h85.m t88
    replace hBl_0 := (hBl_0.m t83).m t88
    replace h19 := (h19.m t83).m t88
    replace hN23 := (hN23.m t83).m t88
    replace hb := hb.trans t88
    replace hkept_5 := hkept_5.mv hmv89 (by decide)
    obtain ⟨y90, hy91, hS⟩ := bS hS
    refine sr_cb Tryz.call64 (ref39_at_ok _ (hg.fr hz hb) hb.bd (hz.fr hg hb) (τ0 := (fun p => 100 + p)) (fun p => Nat.le_add_right_of_le (by decide)) (⟨_, _, _, _, hBl_0, (PtrO.mk ⟨_, hB86, h85⟩), h19, hkept_5, hN23⟩ : ref39_Logins.O (fun p => 100 + p) (rtg ρ87 7 104) w81 gl_0 (ref39_Logins.mk (some y79) ol_0.users kept_5)) hy91) hb.bd ?_
    intro w92 t94
    replace hB86 := hB86.m t94
    replace h85 := h85.m t94
    replace hBl_0 := hBl_0.m t94
    replace h19 := h19.m t94
    replace hkept_5 := hkept_5.m t94
    replace hN23 := hN23.m t94
    replace hb := hb.trans t94
    refine sr_go 1 rfl <| sr_fin [0, 7] rfl <| ke_seq <| ke_seq <| ke_region <| sr_go 2 rfl <| sr_fin [0, 7, 55] rfl ?_
    refine ke_cond rfl (fun hc95 => ?_) (fun hc95 => ?_)
    ·replace hS := iT hS hc95
     refine ke_seq <| ke_region <| sr_go 1 rfl <| sr_fin [4] rfl ?_
     cases hS
     exact ke_ret1 Tryz.func36 rfl rfl ⟨_, rfl, _, rfl, ⟨_, _, _, _, (hBl_0.lv 0 hb), (PtrO.mk ⟨_, (hB86.lv 1 hb), (h85.lv 2 ho2 hb)⟩), (h19.lv 3 ho2 hb), (hkept_5.lv 4 ho2 hb), (hN23.lv 5 ho2 hb)⟩, (leave_tr ho2 hb)⟩
    ·replace hS := iF hS hc95
     refine ke_skip <| ke_seq <| ke_region <| sr_go 1 rfl <| sr_fin [0, 7, 8] rfl <| ke_seq <| ke_region <| sr_go 3 rfl ?_
     refine sr_fa 1 Tryz.underlying96 rfl Tryz.info93 ?_
     refine sr_ld v18 Tryz.isAgg93 rfl (hBl_0.cell rfl) ?_
     refine sr_go 1 rfl ?_
     obtain ⟨hk96, hS⟩ := chk_some hS
     obtain ⟨v97, h98, hq99⟩ := (h19.sl).cutT_h (P := Tryz.prog) Tryz.underlying93 Tryz.info103 rfl hk96
     refine sr_e (hq99 w92 rfl rfl) ?_
     obtain ⟨hk100, hS⟩ := chk_some hS
     refine sr_appendT (i := 65) (c := ref39_user.c) (ρ := (rtg ρ87 7 104)) (E := 103) (xs := ([] : List ref39_user)) (ys := cut ol_0.users 0 y90) OwnT.nil (h98).x Tryz.underlying93 Tryz.info103 rfl rfl rfl (Nat.succ_pos _) (by decide) (by decide) hb.bd hk100 rfl rfl (by decide) ?_
     intro v101 ρ103 w104 h102 t105
     replace hBl_0 := hBl_0.m t105
     replace h19 := h19.m t105
     replace hb := hb.trans t105
     refine sr_go 1 rfl <| sr_fin [0, 7, 8] rfl <| ke_seq <| ke_region <| sr_go 4 rfl ?_
     refine sr_fa 1 Tryz.underlying96 rfl Tryz.info93 ?_
     refine sr_ld v18 Tryz.isAgg93 rfl (hBl_0.cell rfl) ?_
     refine sr_go 2 rfl ?_
     obtain ⟨hk106, hS⟩ := chk_some hS
     obtain ⟨v107, h108, hq109⟩ := (h19.sl).cutT_l (P := Tryz.prog) Tryz.underlying93 Tryz.info103 rfl hk106
     refine sr_e (hq109 w104 rfl rfl) ?_
     obtain ⟨hk110, hS⟩ := chk_some hS
     refine sr_appendT (i := 65) (c := ref39_user.c) (ρ := ρ103) (E := 103) (xs := ([] : List ref39_user) ++ (cut ol_0.users 0 y90)) (ys := cut ol_0.users (IntKind.i64.wrap (y90 + 1)) ol_0.users.length) h102 (h108).x Tryz.underlying93 Tryz.info103 rfl rfl rfl (Nat.succ_pos _) (by decide) (by decide) hb.bd hk110 rfl rfl (by decide) ?_
     intro v111 ρ113 w114 h112 t115
     replace hB86 := (hB86.m t105).m t115
     replace h85 := (h85.m t105).m t115
     replace hBl_0 := hBl_0.m t115
     replace hkept_5 := (hkept_5.m t105).m t115
     replace hN23 := (hN23.m t105).m t115
     replace hb := hb.trans t115
     refine sr_go 1 rfl ?_
     refine sr_fa 1 Tryz.underlying96 rfl Tryz.info93 ?_
     refine sr_storeT (v := v111) (vs := [v111]) (cs' := #[pT g75 0, v111, vkept_5]) hBl_0 (by decide) hb.bd rfl rfl (one_cells (OwnT.oneCell h112)) Tryz.sizeOf93 rfl (by first | rfl | (simp only [List.all_cons, List.all_nil, OwnT.oneCell h112]; done) | (simp only [List.all_cons, List.all_nil, OwnT.oneCell h112]; rfl)) rfl ?_
     intro w116 hBl_0 t117
     replace h112 := h112.m t117
     replace hb := hb.trans t117
     refine sr_fin [] rfl <| ke_seq <| ke_region <| sr_go 1 rfl <| sr_fin [4] rfl ?_
     have t118 := rtg_tr (ρ := ρ113) (w := w116) (i := 65) 103 (by decide) hb.bd
     have hmv119 : Mv ρ113 w116 65 (rtg ρ113 65 103) w116 103 := rtg_mv (by decide)
     replace hB86 := (hB86.m t117).m t118
     replace h85 := (h85.m t117).m t118
     replace hBl_0 := hBl_0.m t118
     replace hkept_5 := (hkept_5.m t117).m t118
     replace hN23 := (hN23.m t117).m t118
     replace hb := hb.trans t118
     replace h112 := h112.mv hmv119 (by decide)
     cases hS
     exact ke_ret1 Tryz.func36 rfl rfl ⟨_, rfl, _, rfl, ⟨_, _, _, _, (hBl_0.lv 0 hb), (PtrO.mk ⟨_, (hB86.lv 1 hb), (h85.lv 2 ho2 hb)⟩), (h112.lv 3 ho2 hb), (hkept_5.lv 4 ho2 hb), (hN23.lv 5 ho2 hb)⟩, (leave_tr ho2 hb)⟩
theorem ref39_Logins_Drop_ok (w0 : World) (hg : Gs w0) {ρA : Tags} (hbd : ∀ b, ρA b ≠ 0 → b < w0.heap.size) (hz : Gz ρA) {o : Nat} (ho2 : 2 ≤ o) {l_0 : ref39_Logins} {name_1 : Str} {gl_0 : Nat} {r : Bool × ref39_Logins} (ho0 : ref39_Logins.O (fun p => o + p) ρA w0 gl_0 l_0) (hS : ref39_Logins_Drop l_0 name_1 = some r) :
  Calls Tryz.prog 36 #[pT gl_0 0, str name_1] w0 (Ret (fun v w' => ∃ ρ', v = .bool r.1 ∧ ref39_Logins.O (fun p => o + p) ρ' w' gl_0 r.2 ∧ Tr ρA w0 (rng o 6) ρ' w')) := by
 unfold ref39_Logins_Drop at hS
 have hb := enter_fr (ρ := ρA) (w := w0) (n := 6) ho2 hbd
 have hz := hz.enter (n := 6) ho2
 obtain ⟨v1, v3, v5, M7, hB9, hP2, h4, h6, hN8⟩ := ho0
 replace hB9 := hB9.mv (enter_mv (p := 0) (n := 6) (by decide) ho2)
 replace hP2 := PtrO.mv hP2 ref22_Locks.objK (fun p hp => enter_mv (p := 1 + p) (n := 6) (by omega) ho2) (fun p hp => by omega)
 replace h4 := h4.mv (enter_mv (p := 3) (n := 6) (by decide) ho2) (by decide)
 replace h6 := h6.mv (enter_mv (p := 4) (n := 6) (by decide) ho2) (by decide)
 replace hN8 := hN8.mv (enter_mv (p := 5) (n := 6) (by decide) ho2) (by decide)
 refine ck Tryz.func36 [0, 1] rfl rfl ?_
 refine ke_seq <| ke_region <| sr_go 1 rfl <| sr_fin [0, 1] rfl <| ke_seq <| ke_seq <| ke_region <| sr_go 1 rfl ?_
 obtain ⟨y10, hy11, hS⟩ := bS hS
 refine sr_cb Tryz.call60 (ref39_made_ok _ (hg.fr hz hb) hb.bd (hz.fr hg hb) (τ0 := (fun p => 100 + p)) (fun p => Nat.le_add_right_of_le (by decide)) (by exact ⟨_, _, _, _, hB9, hP2, h4, h6, hN8⟩) hy11) hb.bd ?_
 intro w12 t14
 replace hB9 := hB9.m t14
 replace hP2 := hP2.m ref22_Locks.objK t14
 replace h4 := h4.m t14
 replace h6 := h6.m t14
 replace hN8 := hN8.m t14
 replace hb := hb.trans t14
 refine sr_go 1 rfl <| sr_fin [0, 1, 11] rfl ?_
 refine ke_cond rfl (fun hc15 => ?_) (fun hc15 => ?_)
 ·replace hS := iT hS hc15
  refine ke_seq <| ke_region <| sr_go 1 rfl <| sr_fin [4] rfl ?_
  cases hS
  exact ke_ret1 Tryz.func36 rfl rfl ⟨_, rfl, _, rfl, ⟨_, _, _, _, (hB9.lv 0 hb), (hP2.lv ref22_Locks.objK ho2 hb), (h4.lv 3 ho2 hb), (h6.lv 4 ho2 hb), (hN8.lv 5 ho2 hb)⟩, (leave_tr ho2 hb)⟩
 ·replace hS := iF hS hc15
  refine ke_skip <| ke_seq <| ke_region <| sr_go 1 rfl <| sr_fin [0, 1, 5] rfl <| ke_seq <| ke_seq <| ke_region <| sr_go 1 rfl <| sr_fin [0, 1, 5, 6] rfl ?_
  refine ke_block ?_
  have hK := ref39_Logins_Drop_L1_ok hg hbd ho2 hz _ hS hb hB9 hP2 h4 h6 hN8 OwnT.nil
  exact ke_wk (ke_loop hK)
theorem law39_LoginPlays_B2_ok {w0 : World} (hg : Gs w0) {ρA : Tags} (hbd : ∀ b, ρA b ≠ 0 → b < w0.heap.size) (hz : Gz (flat1 ρA)) (r0 : List law39_Op → login_Logins → ref39_Logins → Int → Option (Bool))
  (hr0 : ∀ {r : Bool} {l_2 : List law39_Op} {oa_7 : login_Logins} {ob_9 : ref39_Logins} {i_11 : Int} {vl_2 : Value} {ga_7 : Nat} {gb_9 : Nat}, r0 l_2 oa_7 ob_9 i_11 = some r → ∀ {ρ : Tags} {w : World}, (Fr (flat1 ρA) w0 ρ w) → (SlR law39_Op.c (Wb ρ) w vl_2 l_2) → (login_Logins.O (fun p => 100 + p) ρ w ga_7 oa_7) → (ref39_Logins.O (fun p => 200 + p) ρ w gb_9 ob_9) → KE Tryz.prog 6 (Ret (fun v w' => v = .bool r ∧ Below w0.heap.size w0 w')) 218 [.inLoop (sub (bodyOf Tryz.f6) [2, 2, 2, 2, 2, 2, 1, 2, 2, 1]), .inBlock 0, .code (sub (bodyOf Tryz.f6) [2, 2, 2, 2, 2, 2, 2])] [(2, vl_2), (7, pT ga_7 0), (9, pT gb_9 0), (11, .int .i64 i_11)] w) {r : Bool} {l_2 : List law39_Op} {oa_7 : login_Logins} {ob_9 : ref39_Logins} {i_11 : Int} {same_13 : Bool} {vl_2 : Value} {ga_7 : Nat} {gb_9 : Nat} (hS : law39_LoginPlays_B2 r0 l_2 oa_7 ob_9 i_11 same_13 = some r) {ρ : Tags} {w : World} (hb : Fr (flat1 ρA) w0 ρ w) (hl_2 : SlR law39_Op.c (Wb ρ) w vl_2 l_2) (hoa_7 : login_Logins.O (fun p => 100 + p) ρ w ga_7 oa_7) (hob_9 : ref39_Logins.O (fun p => 200 + p) ρ w gb_9 ob_9) :
  KE Tryz.prog 6 (Ret (fun v w' => v = .bool r ∧ Below w0.heap.size w0 w')) 218 [.inBlock 2, .code (sub (bodyOf Tryz.f6) [2, 2, 2, 2, 2, 2, 1, 2, 2, 1, 2, 1, 2, 2, 2, 2]), .inBlock 1, .code (sub (bodyOf Tryz.f6) [2, 2, 2, 2, 2, 2, 1, 2, 2, 1, 2, 2]), .inLoop (sub (bodyOf Tryz.f6) [2, 2, 2, 2, 2, 2, 1, 2, 2, 1]), .inBlock 0, .code (sub (bodyOf Tryz.f6) [2, 2, 2, 2, 2, 2, 2])] [(2, vl_2), (7, pT ga_7 0), (9, pT gb_9 0), (11, .int .i64 i_11), (13, .bool same_13)] w := by
 unfold law39_LoginPlays_B2 at hS
 obtain ⟨v233, v235, v237, v239, hB241, hP234, h236, h238, h240⟩ := hoa_7
 obtain ⟨v242, v244, v246, M248, hB250, hP243, h245, h247, hN249⟩ := hob_9
 refine ke_inBlock <| ke_seq <| ke_region <| sr_go 2 rfl <| sr_fin [2, 7, 9, 11, 216] rfl ?_
 refine ke_cond rfl (fun hc251 => ?_) (fun hc251 => ?_)
 ·replace hS := iT hS hc251
  refine ke_seq <| ke_region <| sr_go 1 rfl <| sr_fin [6] rfl ?_
  cases hS
  exact ke_ret1 Tryz.func6 rfl rfl ⟨_, rfl, rfl, (hb.below (flat1_le _))⟩
 ·replace hS := iF hS hc251
  refine ke_skip <| ke_inBlock <| ke_region <| sr_go 3 rfl <| sr_fin [2, 7, 9, 11] rfl ?_
  have hK := hr0 hS hb hl_2 ⟨_, _, _, _, hB241, hP234, h236, h238, h240⟩ ⟨_, _, _, _, hB250, hP243, h245, h247, hN249⟩
  exact ke_wk hK

end YtkhodjenbganfaaGreatDoor
end Go.Proofs
