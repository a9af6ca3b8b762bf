/- Own work: a part of the proofs of this seat. -/
import Derived.Test.YtkhodjenbganfaaGreatDoorProg
import Derived.Test.YtkhodjenbganfaaGreatDoorShelf
import Derived.Test.YtkhodjenbganfaaGreatDoorKwNS
import Derived.KernelRfl
import Derived.Test.YtkhodjenbganfaaGreatDoorKwNLoginNilW1
set_option linter.unusedVariables false
set_option linter.unusedSimpArgs false
set_option linter.unusedSectionVars false
set_option maxHeartbeats 8000000
set_option maxRecDepth 8000
namespace Go.Proofs
namespace YtkhodjenbganfaaGreatDoor
open Go Go.KW Go.KW.S Go.RowKit
theorem login_Logins_Begin_ok (w0 : World) (hg : Gs w0) {ρA : Tags} (hbd : ∀ b, ρA b ≠ 0 → b < w0.heap.size) (hz : Gz ρA) {o : Nat} (ho2 : 2 ≤ o) {l_0 : login_Logins} {id_1 : Str} {user_2 : Str} {now_3 : Int} {gl_0 : Nat} {r : Int × login_Logins} (ho0 : login_Logins.O (fun p => o + p) ρA w0 gl_0 l_0) (hS : login_Logins_Begin l_0 id_1 user_2 now_3 = some r) :
  Calls Tryz.prog 14 #[.pointer (some ⟨gl_0, 0, none⟩), str id_1, str user_2, .int .i64 now_3] w0 (Ret (fun v w' => ∃ ρ', v = .int .i64 r.1 ∧ login_Logins.O (fun p => o + p) ρ' w' gl_0 r.2 ∧ Tr ρA w0 (rng o 7) ρ' w')) := by
 unfold login_Logins_Begin at hS
 have hb := enter_fr (ρ := ρA) (w := w0) (n := 7) ho2 hbd
 have hz := hz.enter (n := 7) ho2
 obtain ⟨v1, v3, v5, v7, hB9, hP2, h4, h6, h8⟩ := ho0
 replace hB9 := hB9.mv (enter_mv (p := 0) (n := 7) (by decide) ho2)
 replace hP2 := PtrO.mv hP2 secret_Locks.objK (fun p hp => enter_mv (p := 1 + p) (n := 7) (by omega) ho2) (fun p hp => by omega)
 replace h4 := h4.mv (enter_mv (p := 4) (n := 7) (by decide) ho2)
 replace h6 := h6.mv (enter_mv (p := 5) (n := 7) (by decide) ho2)
 replace h8 := h8.mv (enter_mv (p := 6) (n := 7) (by decide) ho2)
 replace hB9 : Blk (enter ρA o 7) 100 w0 gl_0 (.cells #[v1, v3, v5, v7] 69 (0, 0)) := hB9
 replace hP2 : PtrO secret_Locks.O (fun q => 100 + (1 + q)) (enter ρA o 7) w0 v1 l_0.locks := hP2
 replace h4 : MapT str login_credentials.c true (enter ρA o 7) 104 w0 v3 l_0.users := h4
 replace h6 : MapT str (intC .i64) false (enter ρA o 7) 105 w0 v5 l_0.counters := h6
 replace h8 : MapT str login_attempt.c true (enter ρA o 7) 106 w0 v7 l_0.attempts := h8
 refine calls_of_ke Tryz.func14 rfl (n := 60) rfl rfl (l := [(0, .pointer (some ⟨gl_0, 0, none⟩)), (1, str id_1), (2, str user_2), (3, .int .i64 now_3)]) rfl ?_
 refine ke_seq ?_
 refine ke_region ?_
 refine sr_boxT 9 (by decide) hb.bd rfl (by decide) ?_
 intro g10 ρ11 w12 hB14 htr13
 replace hB9 := hB9.mv (htr13.mv (i := 100) rfl)
 replace hP2 := PtrO.mv hP2 secret_Locks.objK (fun p hp => htr13.mv (i := 100 + (1 + p)) (by rcases p with _ | _ | _ | p <;> first | rfl | omega)) (fun p hp => by show 100 + (1 + p) ≠ 0; omega)
 replace h4 := h4.mv (htr13.mv (i := 104) rfl)
 replace h6 := h6.mv (htr13.mv (i := 105) rfl)
 replace h8 := h8.mv (htr13.mv (i := 106) rfl)
 replace hb := hb.trans htr13
 replace hB14 : Blk ρ11 9 w12 g10 (.cells #[.int .i64 now_3] 3 (0, 0)) := hB14
 refine sr_ev (v := .int .i64 0) (ev_assign rfl) (by decide) ?_
 refine sr_end (l' := [(0, .pointer (some ⟨gl_0, 0, none⟩)), (1, str id_1), (2, str user_2), (7, .pointer (some ⟨g10, 0, none⟩))]) (.cons rfl (.cons rfl (.cons rfl (.cons rfl (.nil _))))) ?_
 refine ke_seq ?_
 refine ke_seq ?_
 refine ke_region ?_
 refine sr_ev (v := .pointer (some ⟨gl_0, 0, none⟩)) (ev_move rfl) (by decide) ?_
 obtain ⟨y15, hy16, hS⟩ := bind_some' hS
 refine sr_call (vs := [.pointer (some ⟨gl_0, 0, none⟩)]) rfl Tryz.call42 rfl (login_Logins_ready_ok _ (hg.fr hz hb) (ρA := ρ11) hb.bd (hz.fr hg hb) (τ0 := (fun p => 100 + p)) (fun p => Nat.le_add_right_of_le (by decide)) (⟨_, _, _, _, hB9, hP2, h4, h6, h8⟩ : login_Logins.O (fun p => 100 + p) ρ11 w12 gl_0 l_0) hy16) (by decide) ?_
 rintro _ w17 ⟨rfl, hbw18⟩
 have htr19 := Tr.of_below hbw18 hb.bd
 replace hB14 := hB14.mv (htr19.mv (i := 9) rfl)
 replace hB9 := hB9.mv (htr19.mv (i := 100) rfl)
 replace hP2 := PtrO.mv hP2 secret_Locks.objK (fun p hp => htr19.mv (i := 100 + (1 + p)) (by rcases p with _ | _ | _ | p <;> first | rfl | omega)) (fun p hp => by show 100 + (1 + p) ≠ 0; omega)
 replace h4 := h4.mv (htr19.mv (i := 104) rfl)
 replace h6 := h6.mv (htr19.mv (i := 105) rfl)
 replace h8 := h8.mv (htr19.mv (i := 106) rfl)
 replace hb := hb.trans htr19
 refine sr_ev (v := .bool (!y15)) (ev_not rfl) (by decide) ?_
 refine sr_end (l' := [(0, .pointer (some ⟨gl_0, 0, none⟩)), (1, str id_1), (2, str user_2), (7, .pointer (some ⟨g10, 0, none⟩)), (13, .bool (!y15))]) (.cons rfl (.cons rfl (.cons rfl (.cons rfl (.cons rfl (.nil _)))))) ?_
 refine ke_cond (t := !y15) rfl (fun hc20 => ?_) (fun hc20 => ?_)
 ·replace hS := ite_true' hS hc20
  refine ke_seq ?_
  refine ke_region ?_
  refine sr_ev (v := .int .i64 1) (ev_assign rfl) (by decide) ?_
  refine sr_end (l' := [(8, .int .i64 1)]) (.cons rfl (.nil _)) ?_
  cases hS
  exact ke_ret1 Tryz.func14 rfl rfl ⟨_, rfl, leave ρA w0 o 7 ρ11, rfl, ⟨_, _, _, _, (hB9.mv (leave_mv (p := 0) (by decide) hb)), (PtrO.mv hP2 secret_Locks.objK (fun p hp => leave_mv (p := 1 + p) (by omega) hb) (fun p hp => by show o + (1 + p) ≠ 0; omega)), (h4.mv (leave_mv (p := 4) (by decide) hb)), (h6.mv (leave_mv (p := 5) (by decide) hb)), (h8.mv (leave_mv (p := 6) (by decide) hb))⟩, (leave_tr ho2 hb)⟩
 ·replace hS := ite_false' hS hc20
  refine ke_skip ?_
  refine ke_seq ?_
  refine ke_region ?_
  refine sr_ev (v := .pointer (some ⟨gl_0, 0, none⟩)) (ev_move rfl) (by decide) ?_
  refine sr_ev (v := .pointer (some ⟨gl_0, 0, none⟩)) (ev_nilCheck rfl) (by decide) ?_
  refine sr_ev (v := .pointer (some ⟨gl_0, 3, none⟩)) (ev_fieldAddr (i := 3) Tryz.underlying69 rfl Tryz.info67 rfl rfl) (by decide) ?_
  refine sr_ev (v := v7) (ev_load Tryz.isAgg67 rfl (hB9.cell rfl)) (by decide) ?_
  refine sr_ev (v := str id_1) (ev_move rfl) (by decide) ?_
  obtain ⟨y25, hy26, hS⟩ := bind_some' hS
  replace hy26 := Option.some.inj hy26
  obtain ⟨cs21, hrd22, hl23, hl24⟩ := h8.look (zcs := [str ([]), .int .i64 0, (.slice none 0 0)]) (z := (login_attempt.mk ([]) 0 ([] : List api_Proof))) Tryz.keyB9 Tryz.underlying67 Tryz.zeroValue74 ⟨_, rfl, SlR.nil⟩ id_1
  rw [hy26] at hrd22
  obtain ⟨v27, hcshrd22, h28⟩ := hrd22
  obtain rfl : cs21 = [str y25.user, .int .i64 y25.begun, v27] := hcshrd22
  refine sr_ev (v := .tuple #[.agg #[str y25.user, .int .i64 y25.begun, v27], .bool (mhas l_0.attempts id_1)]) (hl24 w17 _ _ (Mv.of_below (i := 106) (ρ := ρ11) (Below.refl _ _)) rfl rfl) (by decide) ?_
  refine sr_ev (v := .tuple #[.agg #[str y25.user, .int .i64 y25.begun, v27], .bool (mhas l_0.attempts id_1)]) (ev_move rfl) (by decide) ?_
  refine sr_ev (v := .agg #[str y25.user, .int .i64 y25.begun, v27]) (ev_extract rfl rfl) (by decide) ?_
  refine sr_ev (v := .bool (mhas l_0.attempts id_1)) (ev_extract rfl rfl) (by decide) ?_
  refine sr_allocT 11 (by decide) hb.bd Tryz.zeroValue74 (by decide) ?_
  intro g29 ρ30 w31 hB33 htr32
  replace h28 := h28.mv htr32.rd
  replace hB14 := hB14.mv (htr32.mv (i := 9) rfl)
  replace hB9 := hB9.mv (htr32.mv (i := 100) rfl)
  replace hP2 := PtrO.mv hP2 secret_Locks.objK (fun p hp => htr32.mv (i := 100 + (1 + p)) (by rcases p with _ | _ | _ | p <;> first | rfl | omega)) (fun p hp => by show 100 + (1 + p) ≠ 0; omega)
  replace h4 := h4.mv (htr32.mv (i := 104) rfl)
  replace h6 := h6.mv (htr32.mv (i := 105) rfl)
  replace h8 := h8.mv (htr32.mv (i := 106) rfl)
  replace hb := hb.trans htr32
  replace hB33 : Blk ρ30 11 w31 g29 (.cells #[str ([]), .int .i64 0, (.slice none 0 0)] 74 (0, 0)) := hB33
  refine sr_storeT (v := .agg #[str y25.user, .int .i64 y25.begun, v27]) (vs := [str y25.user, .int .i64 y25.begun, v27]) (cs' := #[str y25.user, .int .i64 y25.begun, v27]) hB33 (by decide) hb.bd rfl rfl rfl Tryz.sizeOf74 rfl (by first | rfl | (simp only [List.all_cons, List.all_nil, SlR.oneCell h28]; done) | (simp only [List.all_cons, List.all_nil, SlR.oneCell h28]; rfl)) rfl ?_
  intro w34 hB331 htr35
  replace h28 := h28.mv htr35.rd
  replace hB14 := hB14.mv (htr35.mv (i := 9) rfl)
  replace hB9 := hB9.mv (htr35.mv (i := 100) rfl)
  replace hP2 := PtrO.mv hP2 secret_Locks.objK (fun p hp => htr35.mv (i := 100 + (1 + p)) (by rcases p with _ | _ | _ | p <;> first | rfl | omega)) (fun p hp => by show 100 + (1 + p) ≠ 0; omega)
  replace h4 := h4.mv (htr35.mv (i := 104) rfl)
  replace h6 := h6.mv (htr35.mv (i := 105) rfl)
  replace h8 := h8.mv (htr35.mv (i := 106) rfl)
  replace hb := hb.trans htr35
  replace hB33 : Blk ρ30 11 w34 g29 (.cells #[str y25.user, .int .i64 y25.begun, v27] 74 (0, 0)) := hB331
  clear hB331
  refine sr_ev (v := .bool (mhas l_0.attempts id_1)) (ev_assign rfl) (by decide) ?_
  refine sr_end (l' := [(0, .pointer (some ⟨gl_0, 0, none⟩)), (1, str id_1), (2, str user_2), (7, .pointer (some ⟨g10, 0, none⟩)), (9, .pointer (some ⟨g29, 0, none⟩)), (10, .bool (mhas l_0.attempts id_1))]) (.cons rfl (.cons rfl (.cons rfl (.cons rfl (.cons rfl (.cons rfl (.nil _))))))) ?_
  refine ke_seq ?_
  refine ke_block ?_
  refine ke_seq ?_
  refine ke_region ?_
  refine sr_ev (v := str id_1) (ev_move rfl) (by decide) ?_
  obtain ⟨y36, hy37, hS⟩ := bind_some' hS
  refine sr_call (vs := [str id_1]) rfl Tryz.call43 rfl (fold_Word_ok _ (hg.fr hz hb) hy37) (by decide) ?_
  rintro _ w38 ⟨rfl, hbw39⟩
  have htr40 := Tr.of_below hbw39 hb.bd
  replace hB33 := hB33.mv (htr40.mv (i := 11) rfl)
  replace h28 := h28.mv htr40.rd
  replace hB14 := hB14.mv (htr40.mv (i := 9) rfl)
  replace hB9 := hB9.mv (htr40.mv (i := 100) rfl)
  replace hP2 := PtrO.mv hP2 secret_Locks.objK (fun p hp => htr40.mv (i := 100 + (1 + p)) (by rcases p with _ | _ | _ | p <;> first | rfl | omega)) (fun p hp => by show 100 + (1 + p) ≠ 0; omega)
  replace h4 := h4.mv (htr40.mv (i := 104) rfl)
  replace h6 := h6.mv (htr40.mv (i := 105) rfl)
  replace h8 := h8.mv (htr40.mv (i := 106) rfl)
  replace hb := hb.trans htr40
  refine sr_ev (v := .bool (!y36)) (ev_not rfl) (by decide) ?_
  refine sr_ev (v := .bool (!y36)) (ev_move rfl) (by decide) ?_
  obtain ⟨z43, hz45, hS⟩ := bind_some' hS
  refine sr_join (m := 4) (C := fun (z : Bool) w1 => z43 = z ∧ ∃ ρ1, Tr ρ30 w38 (fun _ => false) ρ1 w1) (l' := fun z => [(0, .pointer (some ⟨gl_0, 0, none⟩)), (1, str id_1), (2, str user_2), (7, .pointer (some ⟨g10, 0, none⟩)), (9, .pointer (some ⟨g29, 0, none⟩)), (10, .bool (mhas l_0.attempts id_1)), (31, .bool z)]) ?_ ?_
  ·rintro _ w46 ⟨rfl, ρ47, hj44⟩
   replace hB33 := hB33.mv (hj44.mv (i := 11) rfl)
   replace h28 := h28.mv hj44.rd
   replace hB14 := hB14.mv (hj44.mv (i := 9) rfl)
   replace hB9 := hB9.mv (hj44.mv (i := 100) rfl)
   replace hP2 := PtrO.mv hP2 secret_Locks.objK (fun p hp => hj44.mv (i := 100 + (1 + p)) (by rcases p with _ | _ | _ | p <;> first | rfl | omega)) (fun p hp => by show 100 + (1 + p) ≠ 0; omega)
   replace h4 := h4.mv (hj44.mv (i := 104) rfl)
   replace h6 := h6.mv (hj44.mv (i := 105) rfl)
   replace h8 := h8.mv (hj44.mv (i := 106) rfl)
   replace hb := hb.trans hj44
   refine sr_ev (v := .bool z43) (ev_assign rfl) (by decide) ?_
   refine sr_end (l' := [(0, .pointer (some ⟨gl_0, 0, none⟩)), (1, str id_1), (2, str user_2), (7, .pointer (some ⟨g10, 0, none⟩)), (9, .pointer (some ⟨g29, 0, none⟩)), (10, .bool (mhas l_0.attempts id_1)), (23, .bool z43)]) (.cons rfl (.cons rfl (.cons rfl (.cons rfl (.cons rfl (.cons rfl (.cons rfl (.nil _)))))))) ?_
   refine ke_cond (t := z43) rfl (fun hc54 => ?_) (fun hc54 => ?_)
   ·replace hS := ite_true' hS hc54
    refine ke_seq ?_
    refine ke_region ?_
    refine sr_ev (v := .int .i64 5) (ev_assign rfl) (by decide) ?_
    refine sr_end (l' := [(8, .int .i64 5)]) (.cons rfl (.nil _)) ?_
    cases hS
    exact ke_ret1 Tryz.func14 rfl rfl ⟨_, rfl, leave ρA w0 o 7 ρ47, rfl, ⟨_, _, _, _, (hB9.mv (leave_mv (p := 0) (by decide) hb)), (PtrO.mv hP2 secret_Locks.objK (fun p hp => leave_mv (p := 1 + p) (by omega) hb) (fun p hp => by show o + (1 + p) ≠ 0; omega)), (h4.mv (leave_mv (p := 4) (by decide) hb)), (h6.mv (leave_mv (p := 5) (by decide) hb)), (h8.mv (leave_mv (p := 6) (by decide) hb))⟩, (leave_tr ho2 hb)⟩
   ·replace hS := ite_false' hS hc54
    refine ke_seq ?_
    refine ke_region ?_
    refine sr_ev (v := .bool (mhas l_0.attempts id_1)) (ev_move rfl) (by decide) ?_
    refine sr_ev (v := .bool (mhas l_0.attempts id_1)) (ev_move rfl) (by decide) ?_
    obtain ⟨z57, hz59, hS⟩ := bind_some' hS
    refine sr_join (m := 5) (C := fun (z : Bool) w1 => z57 = z ∧ ∃ ρ1, Tr ρ47 w46 (fun _ => false) ρ1 w1) (l' := fun z => [(0, .pointer (some ⟨gl_0, 0, none⟩)), (1, str id_1), (2, str user_2), (7, .pointer (some ⟨g10, 0, none⟩)), (39, .bool z)]) ?_ ?_
    ·rintro _ w60 ⟨rfl, ρ61, hj58⟩
     replace hB14 := hB14.mv (hj58.mv (i := 9) rfl)
     replace hB9 := hB9.mv (hj58.mv (i := 100) rfl)
     replace hP2 := PtrO.mv hP2 secret_Locks.objK (fun p hp => hj58.mv (i := 100 + (1 + p)) (by rcases p with _ | _ | _ | p <;> first | rfl | omega)) (fun p hp => by show 100 + (1 + p) ≠ 0; omega)
     replace h4 := h4.mv (hj58.mv (i := 104) rfl)
     replace h6 := h6.mv (hj58.mv (i := 105) rfl)
     replace h8 := h8.mv (hj58.mv (i := 106) rfl)
     replace hb := hb.trans hj58
     refine sr_ev (v := .bool z57) (ev_assign rfl) (by decide) ?_
     refine sr_end (l' := [(0, .pointer (some ⟨gl_0, 0, none⟩)), (1, str id_1), (2, str user_2), (7, .pointer (some ⟨g10, 0, none⟩)), (32, .bool z57)]) (.cons rfl (.cons rfl (.cons rfl (.cons rfl (.cons rfl (.nil _)))))) ?_
     refine ke_cond (t := z57) rfl (fun hc68 => ?_) (fun hc68 => ?_)
     ·replace hS := ite_true' hS hc68
      refine ke_seq ?_
      refine ke_region ?_
      refine sr_ev (v := .int .i64 7) (ev_assign rfl) (by decide) ?_
      refine sr_end (l' := [(8, .int .i64 7)]) (.cons rfl (.nil _)) ?_
      cases hS
      exact ke_ret1 Tryz.func14 rfl rfl ⟨_, rfl, leave ρA w0 o 7 ρ61, rfl, ⟨_, _, _, _, (hB9.mv (leave_mv (p := 0) (by decide) hb)), (PtrO.mv hP2 secret_Locks.objK (fun p hp => leave_mv (p := 1 + p) (by omega) hb) (fun p hp => by show o + (1 + p) ≠ 0; omega)), (h4.mv (leave_mv (p := 4) (by decide) hb)), (h6.mv (leave_mv (p := 5) (by decide) hb)), (h8.mv (leave_mv (p := 6) (by decide) hb))⟩, (leave_tr ho2 hb)⟩
     ·replace hS := ite_false' hS hc68
      refine ke_seq ?_
      refine ke_region ?_
      refine sr_ev (v := .pointer (some ⟨gl_0, 0, none⟩)) (ev_move rfl) (by decide) ?_
      refine sr_ev (v := .int .i64 now_3) (ev_load Tryz.isAgg3 rfl (hB14.cell rfl)) (by decide) ?_
      obtain ⟨y69, hy70, hS⟩ := bind_some' hS
      refine sr_call (vs := [.pointer (some ⟨gl_0, 0, none⟩), .int .i64 now_3]) rfl Tryz.call37 rfl (login_Logins_Open_ok _ (hg.fr hz hb) (ρA := ρ61) hb.bd (hz.fr hg hb) (τ0 := (fun p => 100 + p)) (fun p => Nat.le_add_right_of_le (by decide)) (⟨_, _, _, _, hB9, hP2, h4, h6, h8⟩ : login_Logins.O (fun p => 100 + p) ρ61 w60 gl_0 l_0) hy70) (by decide) ?_
      rintro _ w71 ⟨rfl, hbw72⟩
      have htr73 := Tr.of_below hbw72 hb.bd
      replace hB14 := hB14.mv (htr73.mv (i := 9) rfl)
      replace hB9 := hB9.mv (htr73.mv (i := 100) rfl)
      replace hP2 := PtrO.mv hP2 secret_Locks.objK (fun p hp => htr73.mv (i := 100 + (1 + p)) (by rcases p with _ | _ | _ | p <;> first | rfl | omega)) (fun p hp => by show 100 + (1 + p) ≠ 0; omega)
      replace h4 := h4.mv (htr73.mv (i := 104) rfl)
      replace h6 := h6.mv (htr73.mv (i := 105) rfl)
      replace h8 := h8.mv (htr73.mv (i := 106) rfl)
      replace hb := hb.trans htr73
      refine sr_ev (v := .bool (decide (y69 ≥ 256))) (ev_ge rfl rfl) (by decide) ?_
      refine sr_ev (v := .bool (decide (y69 ≥ 256))) (ev_assign rfl) (by decide) ?_
      refine sr_end (l' := [(0, .pointer (some ⟨gl_0, 0, none⟩)), (1, str id_1), (2, str user_2), (7, .pointer (some ⟨g10, 0, none⟩)), (40, .bool (decide (y69 ≥ 256)))]) (.cons rfl (.cons rfl (.cons rfl (.cons rfl (.cons rfl (.nil _)))))) ?_
      refine ke_cond (t := decide (y69 ≥ 256)) rfl (fun hc74 => ?_) (fun hc74 => ?_)
      ·replace hS := ite_true' hS hc74
       refine ke_seq ?_
       refine ke_region ?_
       refine sr_ev (v := .int .i64 3) (ev_assign rfl) (by decide) ?_
       refine sr_end (l' := [(8, .int .i64 3)]) (.cons rfl (.nil _)) ?_
       cases hS
       exact ke_ret1 Tryz.func14 rfl rfl ⟨_, rfl, leave ρA w0 o 7 ρ61, rfl, ⟨_, _, _, _, (hB9.mv (leave_mv (p := 0) (by decide) hb)), (PtrO.mv hP2 secret_Locks.objK (fun p hp => leave_mv (p := 1 + p) (by omega) hb) (fun p hp => by show o + (1 + p) ≠ 0; omega)), (h4.mv (leave_mv (p := 4) (by decide) hb)), (h6.mv (leave_mv (p := 5) (by decide) hb)), (h8.mv (leave_mv (p := 6) (by decide) hb))⟩, (leave_tr ho2 hb)⟩
      ·replace hS := ite_false' hS hc74
       refine ke_skip ?_
       refine ke_inBlock ?_
       refine ke_seq ?_
       refine ke_region ?_
       refine sr_ev (v := .pointer (some ⟨gl_0, 0, none⟩)) (ev_move rfl) (by decide) ?_
       refine sr_ev (v := .pointer (some ⟨gl_0, 0, none⟩)) (ev_nilCheck rfl) (by decide) ?_
       refine sr_ev (v := .pointer (some ⟨gl_0, 3, none⟩)) (ev_fieldAddr (i := 3) Tryz.underlying69 rfl Tryz.info67 rfl rfl) (by decide) ?_
       refine sr_ev (v := v7) (ev_load Tryz.isAgg67 rfl (hB9.cell rfl)) (by decide) ?_
       have htr75 := frz_tr (ρ := ρ61) (w := w71) (i := 9) (by decide) hb.bd
       have he76 : ElT (intC .i64) (frz ρ61 9) 0 w71 g10 0 [.int .i64 now_3] now_3 := Blk.frzEl hB14 rfl rfl
       replace h8 := h8.mv (htr75.mv (i := 106) rfl)
       replace hB9 := hB9.mv (htr75.mv (i := 100) rfl)
       replace hP2 := PtrO.mv hP2 secret_Locks.objK (fun p hp => htr75.mv (i := 100 + (1 + p)) (by rcases p with _ | _ | _ | p <;> first | rfl | omega)) (fun p hp => by show 100 + (1 + p) ≠ 0; omega)
       replace h4 := h4.mv (htr75.mv (i := 104) rfl)
       replace h6 := h6.mv (htr75.mv (i := 105) rfl)
       replace hb := hb.trans htr75
       refine sr_ev (v := .func (.func 46) #[] #[.pointer (some ⟨g10, 0, none⟩)]) (ev_makeFunc rfl) (by decide) ?_
       obtain ⟨y77, hy78, hS⟩ := bind_some' hS
       refine sr_call (vs := [v7, .func (.func 46) #[] #[.pointer (some ⟨g10, 0, none⟩)]]) rfl Tryz.call45 rfl (maps_DeleteFunc_map_string_login_attempt_string_login_attempt__Logins_Begin_1_ok _ (hg.fr hz hb) (ρA := (frz ρ61 9)) hb.bd (hz.fr hg hb) (o := 106) (by decide) h8 he76 hy78) (by decide) ?_
       rintro _ w79 ⟨ρ82, rfl, h81, htr81⟩
       replace he76 := he76.mv (htr81.mv (i := 0) rfl) (Nat.succ_pos _)
       replace hB9 := hB9.mv (htr81.mv (i := 100) rfl)
       replace hP2 := PtrO.mv hP2 secret_Locks.objK (fun p hp => htr81.mv (i := 100 + (1 + p)) (by rcases p with _ | _ | _ | p <;> first | rfl | omega)) (fun p hp => by show 100 + (1 + p) ≠ 0; omega)
       replace h4 := h4.mv (htr81.mv (i := 104) rfl)
       replace h6 := h6.mv (htr81.mv (i := 105) rfl)
       replace hb := hb.trans htr81
       replace h8 := h81
       clear h81
       refine sr_end (l' := [(0, .pointer (some ⟨gl_0, 0, none⟩)), (1, str id_1), (2, str user_2), (7, .pointer (some ⟨g10, 0, none⟩))]) (.cons rfl (.cons rfl (.cons rfl (.cons rfl (.nil _))))) ?_
       refine ke_seq ?_
       refine ke_region_j (ρ := ρ82) (fun t => ([106] : List Nat).contains t) 10 Tryz.mixed (fun w84 hw83 => ?_)
       have htr85 := Tr.of_below hw83 hb.bd
       replace he76 := he76.mv (htr85.mv (i := 0) rfl) (Nat.succ_pos _)
       replace hB9 := hB9.mv (htr85.mv (i := 100) rfl)
       replace hP2 := PtrO.mv hP2 secret_Locks.objK (fun p hp => htr85.mv (i := 100 + (1 + p)) (by rcases p with _ | _ | _ | p <;> first | rfl | omega)) (fun p hp => by show 100 + (1 + p) ≠ 0; omega)
       replace h4 := h4.mv (htr85.mv (i := 104) rfl)
       replace h6 := h6.mv (htr85.mv (i := 105) rfl)
       replace h8 := h8.mv (htr85.mv (i := 106) rfl)
       replace hb := hb.trans htr85
       refine dj_h 0 (.pointer (some ⟨gl_0, 0, none⟩)) hb.bd rfl (fun w1 ρ1 hw1 => ev_move rfl) ?_
       refine dj_h 1 (.pointer (some ⟨gl_0, 0, none⟩)) hb.bd rfl (fun w1 ρ1 hw1 => ev_nilCheck rfl) ?_
       refine dj_h 2 (.pointer (some ⟨gl_0, 3, none⟩)) hb.bd rfl (fun w1 ρ1 hw1 => ev_fieldAddr (i := 3) Tryz.underlying69 rfl Tryz.info67 rfl rfl) ?_
       refine dj_h 3 v7 hb.bd rfl (fun w1 ρ1 hw1 => ev_load Tryz.isAgg67 rfl ((hB9.mv (hw1.mv (i := 100) rfl)).cell rfl)) ?_
       refine dj_h 4 (str id_1) hb.bd rfl (fun w1 ρ1 hw1 => ev_move rfl) ?_
       refine dj_h 5 (str user_2) hb.bd rfl (fun w1 ρ1 hw1 => ev_move rfl) ?_
       refine dj_h 6 (.int .i64 now_3) hb.bd rfl (fun w1 ρ1 hw1 => ev_load Tryz.isAgg3 rfl ((he76.mv (hw1.mv (i := 0) rfl) (Nat.succ_pos _)).cell 0 _ rfl)) ?_
       refine dj_E 7 (by kernel_rfl) rfl ?_
       have jt107 : Tr ρ82 w84 (fun t => ([106] : List Nat).contains t) ρ82 w84 := (Tr.refl hb.bd).weak (fun _ _ => rfl) rfl rfl
       obtain ⟨y108, hy109, hS⟩ := bind_some' hS
       refine sr_call (vs := [.int .i64 now_3, .int .i64 0]) rfl Tryz.call39 rfl (clock_Add_ok _ (hg.fr hz hb) hy109) (by decide) ?_
       rintro _ w110 ⟨rfl, hbw111⟩
       have htr112 := Tr.of_below hbw111 hb.bd
       replace h8 := h8.mv (htr112.mv (i := 106) rfl)
       replace hB9 := hB9.mv (htr112.mv (i := 100) rfl)
       replace hP2 := PtrO.mv hP2 secret_Locks.objK (fun p hp => htr112.mv (i := 100 + (1 + p)) (by rcases p with _ | _ | _ | p <;> first | rfl | omega)) (fun p hp => by show 100 + (1 + p) ≠ 0; omega)
       replace h4 := h4.mv (htr112.mv (i := 104) rfl)
       replace h6 := h6.mv (htr112.mv (i := 105) rfl)
       replace hb := hb.trans htr112
       replace jt107 := (jt107.trans htr112).weak (J' := (fun t => ([106] : List Nat).contains t)) (by intro t h; simp [rng] at h ⊢ <;> omega) rfl rfl
       refine dj_next (l' := [(54, v7), (55, str id_1), (56, str user_2), (58, .int .i64 y108)]) rfl (.cons rfl (.cons rfl (.cons rfl (.cons rfl (.nil _))))) jt107 (by intro t h; simp [rng] at h ⊢ <;> omega) rfl rfl ?_
       refine dj_h 8 (.agg #[str user_2, .int .i64 y108, (.slice none 0 0)]) hb.bd rfl (fun w1 ρ1 hw1 => ev_build (vs := #[(0, str user_2), (1, .int .i64 y108)]) rfl (fun _ => by kernel_rfl)) ?_
       refine dj_E 9 (by kernel_rfl) rfl ?_
       have jt113 : Tr ρ82 w110 (fun t => ([106] : List Nat).contains t) ρ82 w110 := (Tr.refl hb.bd).weak (fun _ _ => rfl) rfl rfl
       obtain ⟨hk114, hS⟩ := chk_some hS
       refine sr_mapPut (k := id_1) (d := (login_attempt.mk user_2 y108 ([] : List api_Proof))) (u := .agg #[str user_2, .int .i64 y108, (.slice none 0 0)]) (cs := [str user_2, .int .i64 y108, (.slice none 0 0)]) h8 hk114 Tryz.keyB9 Tryz.underlying67 (by decide) hb.bd rfl ⟨_, rfl, SlR.nil⟩ rfl rfl rfl ?_
       intro w115 h81 htr116
       replace hB9 := hB9.mv (htr116.mv (i := 100) rfl)
       replace hP2 := PtrO.mv hP2 secret_Locks.objK (fun p hp => htr116.mv (i := 100 + (1 + p)) (by rcases p with _ | _ | _ | p <;> first | rfl | omega)) (fun p hp => by show 100 + (1 + p) ≠ 0; omega)
       replace h4 := h4.mv (htr116.mv (i := 104) rfl)
       replace h6 := h6.mv (htr116.mv (i := 105) rfl)
       replace hb := hb.trans htr116
       replace jt113 := (jt113.trans htr116).weak (J' := (fun t => ([106] : List Nat).contains t)) (by intro t h; simp [rng] at h ⊢ <;> omega) rfl rfl
       replace h8 := h81
       clear h81
       refine dj_next (l' := []) rfl (.nil _) jt113 (by intro t h; simp [rng] at h ⊢ <;> omega) rfl rfl ?_
       refine dj_done rfl (by kernel_rfl) ?_
       refine ke_weaken (l' := []) (.nil _) ?_
       refine ke_seq ?_
       refine ke_region ?_
       refine sr_ev (v := .int .i64 0) (ev_assign rfl) (by decide) ?_
       refine sr_end (l' := [(8, .int .i64 0)]) (.cons rfl (.nil _)) ?_
       cases hS
       exact ke_ret1 Tryz.func14 rfl rfl ⟨_, rfl, leave ρA w0 o 7 ρ82, rfl, ⟨_, _, _, _, (hB9.mv (leave_mv (p := 0) (by decide) hb)), (PtrO.mv hP2 secret_Locks.objK (fun p hp => leave_mv (p := 1 + p) (by omega) hb) (fun p hp => by show o + (1 + p) ≠ 0; omega)), (h4.mv (leave_mv (p := 4) (by decide) hb)), (h6.mv (leave_mv (p := 5) (by decide) hb)), (h8.mv (leave_mv (p := 6) (by decide) hb))⟩, (leave_tr ho2 hb)⟩
    ·intro K56
     clear hS
     have hj58 : Tr ρ47 w46 (fun _ => false) ρ47 w46 := (Tr.refl hb.bd).weak (fun _ _ => rfl) rfl rfl
     rcases Bool.eq_false_or_eq_true (mhas l_0.attempts id_1) with hg55 | hg55
     ·have hS := ite_true' hz59 hg55
      refine sr_evg (b := true) (e := 34) rfl rfl hg55 (v := .agg #[str y25.user, .int .i64 y25.begun, v27]) (ev_loads (cs := [str y25.user, .int .i64 y25.begun, v27]) Tryz.isAgg74 Tryz.sizeOf74 rfl (hB33.cells (vs := [str y25.user, .int .i64 y25.begun, v27]) rfl)) (by decide) ?_
      refine sr_evg (b := true) (e := 34) rfl rfl hg55 (v := .int .i64 now_3) (ev_load Tryz.isAgg3 rfl (hB14.cell rfl)) (by decide) ?_
      obtain ⟨y63, hy64, hS⟩ := bind_some' hS
      refine sr_callg (b := true) (e := 34) rfl rfl hg55 (vs := [.agg #[str y25.user, .int .i64 y25.begun, v27], .int .i64 now_3]) rfl Tryz.call44 rfl (login_attempt_expired_ok _ (hg.fr hz hb) (ρA := ρ47) hb.bd (hz.fr hg hb) h28 hy64) (by decide) ?_
      rintro _ w65 ⟨rfl, hbw66⟩
      have htr67 := Tr.of_below hbw66 hb.bd
      replace hB14 := hB14.mv (htr67.mv (i := 9) rfl)
      replace hB9 := hB9.mv (htr67.mv (i := 100) rfl)
      replace hP2 := PtrO.mv hP2 secret_Locks.objK (fun p hp => htr67.mv (i := 100 + (1 + p)) (by rcases p with _ | _ | _ | p <;> first | rfl | omega)) (fun p hp => by show 100 + (1 + p) ≠ 0; omega)
      replace h4 := h4.mv (htr67.mv (i := 104) rfl)
      replace h6 := h6.mv (htr67.mv (i := 105) rfl)
      replace h8 := h8.mv (htr67.mv (i := 106) rfl)
      replace hb := hb.trans htr67
      replace hj58 := (hj58.trans htr67).weak (J' := (fun _ => false)) (by intro t h; simp [rng] at h ⊢ <;> omega) rfl rfl
      refine sr_evg (b := true) (e := 34) rfl rfl hg55 (v := .bool (!y63)) (ev_not rfl) (by decide) ?_
      refine sr_ev (v := .bool (!y63)) (ev_pick_t rfl hg55 rfl) (by decide) ?_
      exact sr_weaken (l' := [(0, .pointer (some ⟨gl_0, 0, none⟩)), (1, str id_1), (2, str user_2), (7, .pointer (some ⟨g10, 0, none⟩)), (39, .bool (!y63))]) (.cons rfl (.cons rfl (.cons rfl (.cons rfl (.cons rfl (.nil _)))))) (K56 (!y63) _ ⟨(Option.some.inj hS).symm, _, hj58⟩)
     ·have hS := ite_false' hz59 hg55
      refine sr_pass (e := 34) rfl rfl (by rw [hg55]; rfl) (by decide) ?_
      refine sr_pass (e := 34) rfl rfl (by rw [hg55]; rfl) (by decide) ?_
      refine sr_pass (e := 34) rfl rfl (by rw [hg55]; rfl) (by decide) ?_
      refine sr_pass (e := 34) rfl rfl (by rw [hg55]; rfl) (by decide) ?_
      refine sr_ev (v := .bool false) (ev_pick_f rfl hg55 rfl) (by decide) ?_
      exact sr_weaken (l' := [(0, .pointer (some ⟨gl_0, 0, none⟩)), (1, str id_1), (2, str user_2), (7, .pointer (some ⟨g10, 0, none⟩)), (39, .bool false)]) (.cons rfl (.cons rfl (.cons rfl (.cons rfl (.cons rfl (.nil _)))))) (K56 false _ ⟨(Option.some.inj hS).symm, _, hj58⟩)
  ·intro K42
   clear hS
   have hj44 : Tr ρ30 w38 (fun _ => false) ρ30 w38 := (Tr.refl hb.bd).weak (fun _ _ => rfl) rfl rfl
   rcases Bool.eq_false_or_eq_true (!y36) with hg41 | hg41
   ·have hS := ite_true' hz45 hg41
    refine sr_pass (e := 27) rfl rfl (by rw [hg41]; rfl) (by decide) ?_
    refine sr_pass (e := 27) rfl rfl (by rw [hg41]; rfl) (by decide) ?_
    refine sr_pass (e := 27) rfl rfl (by rw [hg41]; rfl) (by decide) ?_
    refine sr_ev (v := .bool true) (ev_pick_t rfl hg41 rfl) (by decide) ?_
    exact sr_weaken (l' := [(0, .pointer (some ⟨gl_0, 0, none⟩)), (1, str id_1), (2, str user_2), (7, .pointer (some ⟨g10, 0, none⟩)), (9, .pointer (some ⟨g29, 0, none⟩)), (10, .bool (mhas l_0.attempts id_1)), (31, .bool true)]) (.cons rfl (.cons rfl (.cons rfl (.cons rfl (.cons rfl (.cons rfl (.cons rfl (.nil _)))))))) (K42 true _ ⟨(Option.some.inj hS).symm, _, hj44⟩)
   ·have hS := ite_false' hz45 hg41
    refine sr_evg (b := false) (e := 27) rfl rfl hg41 (v := str user_2) (ev_move rfl) (by decide) ?_
    obtain ⟨y49, hy50, hS⟩ := bind_some' hS
    refine sr_callg (b := false) (e := 27) rfl rfl hg41 (vs := [str user_2]) rfl Tryz.call43 rfl (fold_Word_ok _ (hg.fr hz hb) hy50) (by decide) ?_
    rintro _ w51 ⟨rfl, hbw52⟩
    have htr53 := Tr.of_below hbw52 hb.bd
    replace hB33 := hB33.mv (htr53.mv (i := 11) rfl)
    replace h28 := h28.mv htr53.rd
    replace hB14 := hB14.mv (htr53.mv (i := 9) rfl)
    replace hB9 := hB9.mv (htr53.mv (i := 100) rfl)
    replace hP2 := PtrO.mv hP2 secret_Locks.objK (fun p hp => htr53.mv (i := 100 + (1 + p)) (by rcases p with _ | _ | _ | p <;> first | rfl | omega)) (fun p hp => by show 100 + (1 + p) ≠ 0; omega)
    replace h4 := h4.mv (htr53.mv (i := 104) rfl)
    replace h6 := h6.mv (htr53.mv (i := 105) rfl)
    replace h8 := h8.mv (htr53.mv (i := 106) rfl)
    replace hb := hb.trans htr53
    replace hj44 := (hj44.trans htr53).weak (J' := (fun _ => false)) (by intro t h; simp [rng] at h ⊢ <;> omega) rfl rfl
    refine sr_evg (b := false) (e := 27) rfl rfl hg41 (v := .bool (!y49)) (ev_not rfl) (by decide) ?_
    refine sr_ev (v := .bool (!y49)) (ev_pick_f rfl hg41 rfl) (by decide) ?_
    exact sr_weaken (l' := [(0, .pointer (some ⟨gl_0, 0, none⟩)), (1, str id_1), (2, str user_2), (7, .pointer (some ⟨g10, 0, none⟩)), (9, .pointer (some ⟨g29, 0, none⟩)), (10, .bool (mhas l_0.attempts id_1)), (31, .bool (!y49))]) (.cons rfl (.cons rfl (.cons rfl (.cons rfl (.cons rfl (.cons rfl (.cons rfl (.nil _)))))))) (K42 (!y49) _ ⟨(Option.some.inj hS).symm, _, hj44⟩)
theorem login_Logins_find_ok (w0 : World) (hg : Gs w0) {ρA : Tags} (hbd : ∀ b, ρA b ≠ 0 → b < w0.heap.size) (hz : Gz ρA) {τ0 : Nat → Nat} (hτ0 : ∀ p, 1 ≤ τ0 p) {l_0 : login_Logins} {id_1 : Str} {now_2 : Int} {gl_0 : Nat} {r : login_attempt × Int} (ho0 : login_Logins.O τ0 ρA w0 gl_0 l_0) (hS : login_Logins_find l_0 id_1 now_2 = some r) :
  Calls Tryz.prog 49 #[.pointer (some ⟨gl_0, 0, none⟩), str id_1, .int .i64 now_2] w0 (Ret (fun v w' => ∃ x1, v = .tuple #[.agg #[str r.1.user, .int .i64 r.1.begun, x1], .int .i64 r.2] ∧ SlR api_Proof.c (Wb ρA) w' x1 r.1.proofs ∧ Below w0.heap.size w0 w')) := by
 unfold login_Logins_find at hS
 have hb := flat1_fr (ρ := ρA) (w := w0) hbd
 have hz := hz.flat1
 obtain ⟨v1, v3, v5, v7, hB9, hP2, h4, h6, h8⟩ := ho0
 replace hB9 := hB9.mv (flat1_mv (hτ0 0))
 replace hP2 := PtrO.mv hP2 secret_Locks.objK (fun p hp => flat1_mv (hτ0 (1 + p))) (fun _ _ => by decide)
 replace h4 := h4.mv (flat1_mv (hτ0 4))
 replace h6 := h6.mv (flat1_mv (hτ0 5))
 replace h8 := h8.mv (flat1_mv (hτ0 6))
 replace hB9 : Blk (flat1 ρA) 1 w0 gl_0 (.cells #[v1, v3, v5, v7] 69 (0, 0)) := hB9
 replace hP2 : PtrO secret_Locks.O (fun _ => 1) (flat1 ρA) w0 v1 l_0.locks := hP2
 replace h4 : MapT str login_credentials.c true (flat1 ρA) 1 w0 v3 l_0.users := h4
 replace h6 : MapT str (intC .i64) false (flat1 ρA) 1 w0 v5 l_0.counters := h6
 replace h8 : MapT str login_attempt.c true (flat1 ρA) 1 w0 v7 l_0.attempts := h8
 refine calls_of_ke Tryz.func49 rfl (n := 33) rfl rfl (l := [(0, .pointer (some ⟨gl_0, 0, none⟩)), (1, str id_1), (2, .int .i64 now_2)]) rfl ?_
 refine ke_seq ?_
 refine ke_region ?_
 refine sr_allocT 8 (by decide) hb.bd Tryz.zeroValue74 (by decide) ?_
 intro g12 ρ13 w14 hB16 htr15
 replace hB9 := hB9.mv (htr15.mv (i := 1) rfl)
 replace hP2 := PtrO.mv hP2 secret_Locks.objK (fun p hp => htr15.mv (i := 1) rfl) (fun _ _ => by decide)
 replace h4 := h4.mv (htr15.mv (i := 1) rfl)
 replace h6 := h6.mv (htr15.mv (i := 1) rfl)
 replace h8 := h8.mv (htr15.mv (i := 1) rfl)
 replace hb := hb.trans htr15
 replace hB16 : Blk ρ13 8 w14 g12 (.cells #[str ([]), .int .i64 0, (.slice none 0 0)] 74 (0, 0)) := hB16
 refine sr_ev (v := .int .i64 0) (ev_assign rfl) (by decide) ?_
 refine sr_end (l' := [(0, .pointer (some ⟨gl_0, 0, none⟩)), (1, str id_1), (2, .int .i64 now_2), (6, .pointer (some ⟨g12, 0, none⟩))]) (.cons rfl (.cons rfl (.cons rfl (.cons rfl (.nil _))))) ?_
 refine ke_seq ?_
 refine ke_seq ?_
 refine ke_region ?_
 refine sr_ev (v := .pointer (some ⟨gl_0, 0, none⟩)) (ev_move rfl) (by decide) ?_
 obtain ⟨y17, hy18, hS⟩ := bind_some' hS
 refine sr_call (vs := [.pointer (some ⟨gl_0, 0, none⟩)]) rfl Tryz.call42 rfl (login_Logins_ready_ok _ (hg.fr hz hb) (ρA := ρ13) hb.bd (hz.fr hg hb) (τ0 := (fun _ => 1)) (fun _ => by decide) (⟨_, _, _, _, hB9, hP2, h4, h6, h8⟩ : login_Logins.O (fun _ => 1) ρ13 w14 gl_0 l_0) hy18) (by decide) ?_
 rintro _ w19 ⟨rfl, hbw20⟩
 have htr21 := Tr.of_below hbw20 hb.bd
 replace hB16 := hB16.mv (htr21.mv (i := 8) rfl)
 replace hB9 := hB9.mv (htr21.mv (i := 1) rfl)
 replace hP2 := PtrO.mv hP2 secret_Locks.objK (fun p hp => htr21.mv (i := 1) rfl) (fun _ _ => by decide)
 replace h4 := h4.mv (htr21.mv (i := 1) rfl)
 replace h6 := h6.mv (htr21.mv (i := 1) rfl)
 replace h8 := h8.mv (htr21.mv (i := 1) rfl)
 replace hb := hb.trans htr21
 refine sr_ev (v := .bool (!y17)) (ev_not rfl) (by decide) ?_
 refine sr_end (l' := [(0, .pointer (some ⟨gl_0, 0, none⟩)), (1, str id_1), (2, .int .i64 now_2), (6, .pointer (some ⟨g12, 0, none⟩)), (12, .bool (!y17))]) (.cons rfl (.cons rfl (.cons rfl (.cons rfl (.cons rfl (.nil _)))))) ?_
 refine ke_cond (t := !y17) rfl (fun hc22 => ?_) (fun hc22 => ?_)
 ·replace hS := ite_true' hS hc22
  refine ke_seq ?_
  refine ke_region ?_
  refine sr_ev (v := .agg #[str ([]), .int .i64 0, (.slice none 0 0)]) (ev_build (vs := #[]) rfl (fun _ => by kernel_rfl)) (by decide) ?_
  refine sr_storeT (v := .agg #[str ([]), .int .i64 0, (.slice none 0 0)]) (vs := [str ([]), .int .i64 0, (.slice none 0 0)]) (cs' := #[str ([]), .int .i64 0, (.slice none 0 0)]) hB16 (by decide) hb.bd rfl rfl rfl Tryz.sizeOf74 rfl rfl rfl ?_
  intro w23 hB161 htr24
  replace hb := hb.trans htr24
  replace hB16 : Blk ρ13 8 w23 g12 (.cells #[str ([]), .int .i64 0, (.slice none 0 0)] 74 (0, 0)) := hB161
  clear hB161
  refine sr_ev (v := .int .i64 1) (ev_assign rfl) (by decide) ?_
  refine sr_end (l' := [(6, .pointer (some ⟨g12, 0, none⟩)), (7, .int .i64 1)]) (.cons rfl (.cons rfl (.nil _))) ?_
  cases hS
  exact ke_ret (rs := [.cell 6 74, .tmp 7]) (vs := [.agg #[str ([]), .int .i64 0, (.slice none 0 0)], .int .i64 1]) Tryz.func49 rfl ⟨⟨_, rfl, run_loadVar_s (cs := [str ([]), .int .i64 0, (.slice none 0 0)]) Tryz.isAgg74 Tryz.sizeOf74 (hB16.cells (vs := [str ([]), .int .i64 0, (.slice none 0 0)]) rfl)⟩, rfl, trivial⟩ rfl ⟨_, rfl, _, rfl, SlR.nil, (hb.below (flat1_le _))⟩
 ·replace hS := ite_false' hS hc22
  refine ke_skip ?_
  refine ke_seq ?_
  refine ke_region ?_
  refine sr_ev (v := .pointer (some ⟨gl_0, 0, none⟩)) (ev_move rfl) (by decide) ?_
  refine sr_ev (v := .pointer (some ⟨gl_0, 0, none⟩)) (ev_nilCheck rfl) (by decide) ?_
  refine sr_ev (v := .pointer (some ⟨gl_0, 3, none⟩)) (ev_fieldAddr (i := 3) Tryz.underlying69 rfl Tryz.info67 rfl rfl) (by decide) ?_
  refine sr_ev (v := v7) (ev_load Tryz.isAgg67 rfl (hB9.cell rfl)) (by decide) ?_
  refine sr_ev (v := str id_1) (ev_move rfl) (by decide) ?_
  obtain ⟨y29, hy30, hS⟩ := bind_some' hS
  replace hy30 := Option.some.inj hy30
  obtain ⟨cs25, hrd26, hl27, hl28⟩ := h8.look (zcs := [str ([]), .int .i64 0, (.slice none 0 0)]) (z := (login_attempt.mk ([]) 0 ([] : List api_Proof))) Tryz.keyB9 Tryz.underlying67 Tryz.zeroValue74 ⟨_, rfl, SlR.nil⟩ id_1
  rw [hy30] at hrd26
  obtain ⟨v31, hcshrd26, h32⟩ := hrd26
  obtain rfl : cs25 = [str y29.user, .int .i64 y29.begun, v31] := hcshrd26
  refine sr_ev (v := .tuple #[.agg #[str y29.user, .int .i64 y29.begun, v31], .bool (mhas l_0.attempts id_1)]) (hl28 w19 _ _ (Mv.of_below (i := 1) (ρ := ρ13) (Below.refl _ _)) rfl rfl) (by decide) ?_
  refine sr_ev (v := .tuple #[.agg #[str y29.user, .int .i64 y29.begun, v31], .bool (mhas l_0.attempts id_1)]) (ev_move rfl) (by decide) ?_
  refine sr_ev (v := .agg #[str y29.user, .int .i64 y29.begun, v31]) (ev_extract rfl rfl) (by decide) ?_
  refine sr_ev (v := .bool (mhas l_0.attempts id_1)) (ev_extract rfl rfl) (by decide) ?_
  refine sr_allocT 10 (by decide) hb.bd Tryz.zeroValue74 (by decide) ?_
  intro g33 ρ34 w35 hB37 htr36
  replace h32 := h32.mv htr36.rd
  replace hB16 := hB16.mv (htr36.mv (i := 8) rfl)
  replace hb := hb.trans htr36
  replace hB37 : Blk ρ34 10 w35 g33 (.cells #[str ([]), .int .i64 0, (.slice none 0 0)] 74 (0, 0)) := hB37
  refine sr_storeT (v := .agg #[str y29.user, .int .i64 y29.begun, v31]) (vs := [str y29.user, .int .i64 y29.begun, v31]) (cs' := #[str y29.user, .int .i64 y29.begun, v31]) hB37 (by decide) hb.bd rfl rfl rfl Tryz.sizeOf74 rfl (by first | rfl | (simp only [List.all_cons, List.all_nil, SlR.oneCell h32]; done) | (simp only [List.all_cons, List.all_nil, SlR.oneCell h32]; rfl)) rfl ?_
  intro w38 hB371 htr39
  replace h32 := h32.mv htr39.rd
  replace hB16 := hB16.mv (htr39.mv (i := 8) rfl)
  replace hb := hb.trans htr39
  replace hB37 : Blk ρ34 10 w38 g33 (.cells #[str y29.user, .int .i64 y29.begun, v31] 74 (0, 0)) := hB371
  clear hB371
  refine sr_ev (v := .bool (mhas l_0.attempts id_1)) (ev_assign rfl) (by decide) ?_
  refine sr_end (l' := [(2, .int .i64 now_2), (6, .pointer (some ⟨g12, 0, none⟩)), (8, .pointer (some ⟨g33, 0, none⟩)), (9, .bool (mhas l_0.attempts id_1))]) (.cons rfl (.cons rfl (.cons rfl (.cons rfl (.nil _))))) ?_
  refine ke_seq ?_
  refine ke_block ?_
  refine ke_seq ?_
  refine ke_region ?_
  refine sr_ev (v := .bool (mhas l_0.attempts id_1)) (ev_move rfl) (by decide) ?_
  refine sr_ev (v := .bool (!(mhas l_0.attempts id_1))) (ev_not rfl) (by decide) ?_
  refine sr_ev (v := .bool (!(mhas l_0.attempts id_1))) (ev_assign rfl) (by decide) ?_
  refine sr_end (l' := [(2, .int .i64 now_2), (6, .pointer (some ⟨g12, 0, none⟩)), (8, .pointer (some ⟨g33, 0, none⟩)), (23, .bool (!(mhas l_0.attempts id_1)))]) (.cons rfl (.cons rfl (.cons rfl (.cons rfl (.nil _))))) ?_
  refine ke_cond (t := !(mhas l_0.attempts id_1)) rfl (fun hc40 => ?_) (fun hc40 => ?_)
  ·replace hS := ite_true' hS hc40
   refine ke_seq ?_
   refine ke_region ?_
   refine sr_ev (v := .agg #[str ([]), .int .i64 0, (.slice none 0 0)]) (ev_build (vs := #[]) rfl (fun _ => by kernel_rfl)) (by decide) ?_
   refine sr_storeT (v := .agg #[str ([]), .int .i64 0, (.slice none 0 0)]) (vs := [str ([]), .int .i64 0, (.slice none 0 0)]) (cs' := #[str ([]), .int .i64 0, (.slice none 0 0)]) hB16 (by decide) hb.bd rfl rfl rfl Tryz.sizeOf74 rfl rfl rfl ?_
   intro w41 hB161 htr42
   replace hb := hb.trans htr42
   replace hB16 : Blk ρ34 8 w41 g12 (.cells #[str ([]), .int .i64 0, (.slice none 0 0)] 74 (0, 0)) := hB161
   clear hB161
   refine sr_ev (v := .int .i64 6) (ev_assign rfl) (by decide) ?_
   refine sr_end (l' := [(6, .pointer (some ⟨g12, 0, none⟩)), (7, .int .i64 6)]) (.cons rfl (.cons rfl (.nil _))) ?_
   cases hS
   exact ke_ret (rs := [.cell 6 74, .tmp 7]) (vs := [.agg #[str ([]), .int .i64 0, (.slice none 0 0)], .int .i64 6]) Tryz.func49 rfl ⟨⟨_, rfl, run_loadVar_s (cs := [str ([]), .int .i64 0, (.slice none 0 0)]) Tryz.isAgg74 Tryz.sizeOf74 (hB16.cells (vs := [str ([]), .int .i64 0, (.slice none 0 0)]) rfl)⟩, rfl, trivial⟩ rfl ⟨_, rfl, _, rfl, SlR.nil, (hb.below (flat1_le _))⟩
  ·replace hS := ite_false' hS hc40
   refine ke_seq ?_
   refine ke_region ?_
   refine sr_ev (v := .agg #[str y29.user, .int .i64 y29.begun, v31]) (ev_loads (cs := [str y29.user, .int .i64 y29.begun, v31]) Tryz.isAgg74 Tryz.sizeOf74 rfl (hB37.cells (vs := [str y29.user, .int .i64 y29.begun, v31]) rfl)) (by decide) ?_
   refine sr_ev (v := .int .i64 now_2) (ev_move rfl) (by decide) ?_
   obtain ⟨y43, hy44, hS⟩ := bind_some' hS
   refine sr_call (vs := [.agg #[str y29.user, .int .i64 y29.begun, v31], .int .i64 now_2]) rfl Tryz.call44 rfl (login_attempt_expired_ok _ (hg.fr hz hb) (ρA := ρ34) hb.bd (hz.fr hg hb) h32 hy44) (by decide) ?_
   rintro _ w45 ⟨rfl, hbw46⟩
   have htr47 := Tr.of_below hbw46 hb.bd
   replace hB37 := hB37.mv (htr47.mv (i := 10) rfl)
   replace h32 := h32.mv htr47.rd
   replace hB16 := hB16.mv (htr47.mv (i := 8) rfl)
   replace hb := hb.trans htr47
   refine sr_ev (v := .bool y43) (ev_assign rfl) (by decide) ?_
   refine sr_end (l' := [(6, .pointer (some ⟨g12, 0, none⟩)), (8, .pointer (some ⟨g33, 0, none⟩)), (27, .bool y43)]) (.cons rfl (.cons rfl (.cons rfl (.nil _)))) ?_
   refine ke_cond (t := y43) rfl (fun hc48 => ?_) (fun hc48 => ?_)
   ·replace hS := ite_true' hS hc48
    refine ke_seq ?_
    refine ke_region ?_
    refine sr_ev (v := .agg #[str ([]), .int .i64 0, (.slice none 0 0)]) (ev_build (vs := #[]) rfl (fun _ => by kernel_rfl)) (by decide) ?_
    refine sr_storeT (v := .agg #[str ([]), .int .i64 0, (.slice none 0 0)]) (vs := [str ([]), .int .i64 0, (.slice none 0 0)]) (cs' := #[str ([]), .int .i64 0, (.slice none 0 0)]) hB16 (by decide) hb.bd rfl rfl rfl Tryz.sizeOf74 rfl rfl rfl ?_
    intro w49 hB161 htr50
    replace hb := hb.trans htr50
    replace hB16 : Blk ρ34 8 w49 g12 (.cells #[str ([]), .int .i64 0, (.slice none 0 0)] 74 (0, 0)) := hB161
    clear hB161
    refine sr_ev (v := .int .i64 13) (ev_assign rfl) (by decide) ?_
    refine sr_end (l' := [(6, .pointer (some ⟨g12, 0, none⟩)), (7, .int .i64 13)]) (.cons rfl (.cons rfl (.nil _))) ?_
    cases hS
    exact ke_ret (rs := [.cell 6 74, .tmp 7]) (vs := [.agg #[str ([]), .int .i64 0, (.slice none 0 0)], .int .i64 13]) Tryz.func49 rfl ⟨⟨_, rfl, run_loadVar_s (cs := [str ([]), .int .i64 0, (.slice none 0 0)]) Tryz.isAgg74 Tryz.sizeOf74 (hB16.cells (vs := [str ([]), .int .i64 0, (.slice none 0 0)]) rfl)⟩, rfl, trivial⟩ rfl ⟨_, rfl, _, rfl, SlR.nil, (hb.below (flat1_le _))⟩
   ·replace hS := ite_false' hS hc48
    refine ke_skip ?_
    refine ke_inBlock ?_
    refine ke_seq ?_
    refine ke_region ?_
    refine sr_ev (v := .agg #[str y29.user, .int .i64 y29.begun, v31]) (ev_loads (cs := [str y29.user, .int .i64 y29.begun, v31]) Tryz.isAgg74 Tryz.sizeOf74 rfl (hB37.cells (vs := [str y29.user, .int .i64 y29.begun, v31]) rfl)) (by decide) ?_
    refine sr_storeT (v := .agg #[str y29.user, .int .i64 y29.begun, v31]) (vs := [str y29.user, .int .i64 y29.begun, v31]) (cs' := #[str y29.user, .int .i64 y29.begun, v31]) hB16 (by decide) hb.bd rfl rfl rfl Tryz.sizeOf74 rfl (by first | rfl | (simp only [List.all_cons, List.all_nil, SlR.oneCell h32]; done) | (simp only [List.all_cons, List.all_nil, SlR.oneCell h32]; rfl)) rfl ?_
    intro w51 hB161 htr52
    replace h32 := h32.mv htr52.rd
    replace hb := hb.trans htr52
    replace hB16 : Blk ρ34 8 w51 g12 (.cells #[str y29.user, .int .i64 y29.begun, v31] 74 (0, 0)) := hB161
    clear hB161
    refine sr_ev (v := .int .i64 0) (ev_assign rfl) (by decide) ?_
    refine sr_end (l' := [(6, .pointer (some ⟨g12, 0, none⟩)), (7, .int .i64 0)]) (.cons rfl (.cons rfl (.nil _))) ?_
    cases hS
    exact ke_ret (rs := [.cell 6 74, .tmp 7]) (vs := [.agg #[str y29.user, .int .i64 y29.begun, v31], .int .i64 0]) Tryz.func49 rfl ⟨⟨_, rfl, run_loadVar_s (cs := [str y29.user, .int .i64 y29.begun, v31]) Tryz.isAgg74 Tryz.sizeOf74 (hB16.cells (vs := [str y29.user, .int .i64 y29.begun, v31]) rfl)⟩, rfl, trivial⟩ rfl ⟨_, rfl, _, rfl, (SlR.mv h32 (flat1_back hb hbd)), (hb.below (flat1_le _))⟩
theorem login_attempt_has_1_ok (w0 : World) (hg : Gs w0) {ρA : Tags} (hbd : ∀ b, ρA b ≠ 0 → b < w0.heap.size) (hz : Gz ρA) {p_0 : api_Proof} {c1 : Int} {b1 : Nat} {r : Bool} (he2 : ElT (intC .i64) ρA 0 w0 b1 0 [.int .i64 c1] c1) (hS : login_attempt_has_1 p_0 c1 = some r) :
  Calls Tryz.prog 116 #[.agg #[.int .i64 p_0.Factor, .int .i64 p_0.Time], .pointer (some ⟨b1, 0, none⟩)] w0 (Ret (fun v w' => v = .bool r ∧ Below w0.heap.size w0 w')) := by
 unfold login_attempt_has_1 at hS
 have hb := flat1_fr (ρ := ρA) (w := w0) hbd
 have hz := hz.flat1
 replace he2 := he2.mv flat1_rd (Nat.succ_pos _)
 refine calls_of_ke Tryz.func116 rfl (n := 8) rfl rfl (l := [(0, .agg #[.int .i64 p_0.Factor, .int .i64 p_0.Time]), (1, .pointer (some ⟨b1, 0, none⟩))]) rfl ?_
 refine ke_seq ?_
 refine ke_region ?_
 refine sr_boxT 4 (by decide) hb.bd rfl (by decide) ?_
 intro g3 ρ4 w5 hB7 htr6
 replace he2 := he2.mv (htr6.mv (i := 0) rfl) (Nat.succ_pos _)
 replace hb := hb.trans htr6
 replace hB7 : Blk ρ4 4 w5 g3 (.cells #[.int .i64 p_0.Factor, .int .i64 p_0.Time] 42 (0, 0)) := hB7
 refine sr_ev (v := .bool false) (ev_assign rfl) (by decide) ?_
 refine sr_end (l' := [(1, .pointer (some ⟨b1, 0, none⟩)), (2, .pointer (some ⟨g3, 0, none⟩))]) (.cons rfl (.cons rfl (.nil _))) ?_
 refine ke_seq ?_
 refine ke_region ?_
 refine sr_ev (v := .pointer (some ⟨g3, 0, none⟩)) (ev_fieldAddr (i := 0) Tryz.underlying42 rfl Tryz.info40 rfl rfl) (by decide) ?_
 refine sr_ev (v := .int .i64 p_0.Factor) (ev_load Tryz.isAgg40 rfl (hB7.cell rfl)) (by decide) ?_
 refine sr_ev (v := .int .i64 c1) (ev_load Tryz.isAgg40 rfl (he2.cell 0 _ rfl)) (by decide) ?_
 refine sr_ev (v := .bool (p_0.Factor == c1)) (ev_eq rfl rfl) (by decide) ?_
 refine sr_ev (v := .bool (p_0.Factor == c1)) (ev_assign rfl) (by decide) ?_
 refine sr_end (l' := [(3, .bool (p_0.Factor == c1))]) (.cons rfl (.nil _)) ?_
 cases hS
 exact ke_ret1 Tryz.func116 rfl rfl ⟨_, rfl, rfl, (hb.below (flat1_le _))⟩
theorem slices_IndexFunc_api_Proof_api_Proof__attempt_has_1_L1_ok {w0 : World} (hg : Gs w0) {ρA : Tags} (hbd : ∀ b, ρA b ≠ 0 → b < w0.heap.size) (hz : Gz (flat1 ρA)) : ∀ (n : Nat), ∀ {r : Int} {s_0 : List api_Proof} {f_1_c0 : Int} {t_7 : Int} {t_8 : Int} {vs_0 : Value} {bf_1_c0 : Nat}, slices_IndexFunc_api_Proof_api_Proof__attempt_has_1_L1 n s_0 f_1_c0 t_7 t_8 = some r → ∀ {ρ : Tags} {w : World}, (Fr (flat1 ρA) w0 ρ w) → (SlR api_Proof.c (Wb ρ) w vs_0 s_0) → (ElT (intC .i64) ρ 0 w bf_1_c0 0 [.int .i64 f_1_c0] f_1_c0) → KE Tryz.prog 121 (Ret (fun v w' => v = .int .i64 r ∧ Below w0.heap.size w0 w')) 19 [.code (sub (bodyOf Tryz.f121) [2, 1, 2, 2, 1]), .inLoop (sub (bodyOf Tryz.f121) [2, 1, 2, 2, 1]), .inBlock 0, .code (sub (bodyOf Tryz.f121) [2, 2])] [(0, vs_0), (1, .func (.func 116) #[] #[.pointer (some ⟨bf_1_c0, 0, none⟩)]), (7, .int .i64 t_7), (8, .int .i64 t_8)] w := by
 intro n
 induction n with
 | zero => intro r s_0 f_1_c0 t_7 t_8 vs_0 bf_1_c0 hS; cases hS
 | succ n ih =>
  have hr0 : ∀ {r : Int} {s_0 : List api_Proof} {f_1_c0 : Int} {t_7 : Int} {t_8 : Int} {vs_0 : Value} {bf_1_c0 : Nat}, slices_IndexFunc_api_Proof_api_Proof__attempt_has_1_L1 n s_0 f_1_c0 t_7 t_8 = some r → ∀ {ρ : Tags} {w : World}, (Fr (flat1 ρA) w0 ρ w) → (SlR api_Proof.c (Wb ρ) w vs_0 s_0) → (ElT (intC .i64) ρ 0 w bf_1_c0 0 [.int .i64 f_1_c0] f_1_c0) → KE Tryz.prog 121 (Ret (fun v w' => v = .int .i64 r ∧ Below w0.heap.size w0 w')) 19 [.inLoop (sub (bodyOf Tryz.f121) [2, 1, 2, 2, 1]), .inBlock 0, .code (sub (bodyOf Tryz.f121) [2, 2])] [(0, vs_0), (1, .func (.func 116) #[] #[.pointer (some ⟨bf_1_c0, 0, none⟩)]), (7, .int .i64 t_7), (8, .int .i64 t_8)] w := fun {r} {s_0} {f_1_c0} {t_7} {t_8} {vs_0} {bf_1_c0} hS {ρ} {w} hb hs_0 hef_1_c0 => ke_inLoop (ih hS hb hs_0 hef_1_c0)
  clear ih
  intro r s_0 f_1_c0 t_7 t_8 vs_0 bf_1_c0 hS ρ w hb hs_0 hef_1_c0
  unfold slices_IndexFunc_api_Proof_api_Proof__attempt_has_1_L1 at hS
  refine ke_seq ?_
  refine ke_region ?_
  refine sr_ev (v := .bool (decide (t_8 < t_7))) (ev_lt rfl rfl) (by decide) ?_
  refine sr_end (l' := [(0, vs_0), (1, .func (.func 116) #[] #[.pointer (some ⟨bf_1_c0, 0, none⟩)]), (7, .int .i64 t_7), (8, .int .i64 t_8), (9, .bool (decide (t_8 < t_7)))]) (.cons rfl (.cons rfl (.cons rfl (.cons rfl (.cons rfl (.nil _)))))) ?_
  refine ke_seq ?_
  refine ke_cond (t := decide (t_8 < t_7)) rfl (fun hc5 => ?_) (fun hc5 => ?_)
  ·replace hS := ite_true' hS hc5
   refine ke_skip ?_
   refine ke_seq ?_
   refine ke_block ?_
   refine ke_seq ?_
   refine ke_region ?_
   refine sr_ev (v := .int .i64 t_8) (ev_move rfl) (by decide) ?_
   refine sr_ev (v := .int .i64 t_8) (ev_assign rfl) (by decide) ?_
   refine sr_end (l' := [(0, vs_0), (1, .func (.func 116) #[] #[.pointer (some ⟨bf_1_c0, 0, none⟩)]), (5, .int .i64 t_8), (7, .int .i64 t_7), (8, .int .i64 t_8)]) (.cons rfl (.cons rfl (.cons rfl (.cons rfl (.cons rfl (.nil _)))))) ?_
   refine ke_seq ?_
   refine ke_region ?_
   refine sr_ev (v := .func (.func 116) #[] #[.pointer (some ⟨bf_1_c0, 0, none⟩)]) (ev_move rfl) (by decide) ?_
   refine sr_ev (v := vs_0) (ev_move rfl) (by decide) ?_
   refine sr_ev (v := .int .i64 t_8) (ev_move rfl) (by decide) ?_
   obtain ⟨y6, hy7, hS⟩ := bind_some' hS
   obtain ⟨b8, o9, cs11, hq12, he10⟩ := ((SlT.of_sl (i := 0) hs_0)).elem (P := Tryz.prog) Tryz.underlying36 Tryz.info42 rfl hy7
   obtain rfl : cs11 = [.int .i64 y6.Factor, .int .i64 y6.Time] := he10.rd
   refine sr_ev (v := .pointer (some ⟨b8, o9, none⟩)) (hq12 w rfl rfl) (by decide) ?_
   refine sr_ev (v := .agg #[.int .i64 y6.Factor, .int .i64 y6.Time]) (ev_loads (cs := [.int .i64 y6.Factor, .int .i64 y6.Time]) Tryz.isAgg42 Tryz.sizeOf42 rfl he10.cell) (by decide) ?_
   obtain ⟨y13, hy14, hS⟩ := bind_some' hS
   refine sr_callc (vs := [.agg #[.int .i64 y6.Factor, .int .i64 y6.Time]]) rfl Tryz.call116 rfl (login_attempt_has_1_ok _ (hg.fr hz hb) (ρA := ρ) hb.bd (hz.fr hg hb) hef_1_c0 hy14) (by decide) ?_
   rintro _ w15 ⟨rfl, hbw16⟩
   have htr17 := Tr.of_below hbw16 hb.bd
   replace hs_0 := hs_0.mv htr17.rd
   replace hef_1_c0 := hef_1_c0.mv (htr17.mv (i := 0) rfl) (Nat.succ_pos _)
   replace hb := hb.trans htr17
   refine sr_end (l' := [(0, vs_0), (1, .func (.func 116) #[] #[.pointer (some ⟨bf_1_c0, 0, none⟩)]), (5, .int .i64 t_8), (7, .int .i64 t_7), (8, .int .i64 t_8), (16, .bool y13)]) (.cons rfl (.cons rfl (.cons rfl (.cons rfl (.cons rfl (.cons rfl (.nil _))))))) ?_
   refine ke_cond (t := y13) rfl (fun hc18 => ?_) (fun hc18 => ?_)
   ·replace hS := ite_true' hS hc18
    refine ke_seq ?_
    refine ke_region ?_
    refine sr_ev (v := .int .i64 t_8) (ev_move rfl) (by decide) ?_
    refine sr_ev (v := .int .i64 t_8) (ev_assign rfl) (by decide) ?_
    refine sr_end (l' := [(4, .int .i64 t_8)]) (.cons rfl (.nil _)) ?_
    cases hS
    exact ke_ret1 Tryz.func121 rfl rfl ⟨_, rfl, rfl, (hb.below (flat1_le _))⟩
   ·replace hS := ite_false' hS hc18
    refine ke_skip ?_
    refine ke_inBlock ?_
    refine ke_region ?_
    refine sr_ev (v := .int .i64 (IntKind.i64.wrap (t_8 + 1))) (ev_add rfl rfl) (by decide) ?_
    refine sr_ev (v := .int .i64 (IntKind.i64.wrap (t_8 + 1))) (ev_move rfl) (by decide) ?_
    refine sr_end (l' := [(0, vs_0), (1, .func (.func 116) #[] #[.pointer (some ⟨bf_1_c0, 0, none⟩)]), (7, .int .i64 t_7), (8, .int .i64 (IntKind.i64.wrap (t_8 + 1)))]) (.cons rfl (.cons rfl (.cons rfl (.cons rfl (.nil _))))) ?_
    have hK := hr0 hS hb hs_0 hef_1_c0
    exact ke_weaken (l' := [(0, vs_0), (1, .func (.func 116) #[] #[.pointer (some ⟨bf_1_c0, 0, none⟩)]), (7, .int .i64 t_7), (8, .int .i64 (IntKind.i64.wrap (t_8 + 1)))]) (.cons rfl (.cons rfl (.cons rfl (.cons rfl (.nil _))))) hK
  ·replace hS := ite_false' hS hc5
   refine ke_exit (k' := _) rfl ?_
   refine ke_seq ?_
   refine ke_region ?_
   refine sr_ev (v := .int .i64 (-1)) (ev_assign rfl) (by decide) ?_
   refine sr_end (l' := [(4, .int .i64 (-1))]) (.cons rfl (.nil _)) ?_
   cases hS
   exact ke_ret1 Tryz.func121 rfl rfl ⟨_, rfl, rfl, (hb.below (flat1_le _))⟩
theorem slices_IndexFunc_api_Proof_api_Proof__attempt_has_1_ok (w0 : World) (hg : Gs w0) {ρA : Tags} (hbd : ∀ b, ρA b ≠ 0 → b < w0.heap.size) (hz : Gz ρA) {s_0 : List api_Proof} {c1_0 : Int} {v1 : Value} {b3 : Nat} {r : Int} (h2 : SlR api_Proof.c (Wb ρA) w0 v1 s_0) (he4 : ElT (intC .i64) ρA 0 w0 b3 0 [.int .i64 c1_0] c1_0) (hS : slices_IndexFunc_api_Proof_api_Proof__attempt_has_1 s_0 c1_0 = some r) :
  Calls Tryz.prog 121 #[v1, .func (.func 116) #[] #[.pointer (some ⟨b3, 0, none⟩)]] w0 (Ret (fun v w' => v = .int .i64 r ∧ Below w0.heap.size w0 w')) := by
 unfold slices_IndexFunc_api_Proof_api_Proof__attempt_has_1 at hS
 have hb := flat1_fr (ρ := ρA) (w := w0) hbd
 have hz := hz.flat1
 replace h2 := SlR.mv h2 flat1_rd
 replace he4 := he4.mv flat1_rd (Nat.succ_pos _)
 refine calls_of_ke Tryz.func121 rfl (n := 19) rfl rfl (l := [(0, v1), (1, .func (.func 116) #[] #[.pointer (some ⟨b3, 0, none⟩)])]) rfl ?_
 refine ke_seq ?_
 refine ke_region ?_
 refine sr_ev (v := .int .i64 0) (ev_assign rfl) (by decide) ?_
 refine sr_end (l' := [(0, v1), (1, .func (.func 116) #[] #[.pointer (some ⟨b3, 0, none⟩)])]) (.cons rfl (.cons rfl (.nil _))) ?_
 refine ke_seq ?_
 refine ke_seq ?_
 refine ke_region ?_
 refine sr_ev (v := v1) (ev_move rfl) (by decide) ?_
 refine sr_ev (v := .int .i64 (s_0.length : Int)) (ev_sllenW Tryz.underlying36 rfl h2.asSl) (by decide) ?_
 refine sr_ev (v := .int .i64 0) (ev_move rfl) (by decide) ?_
 refine sr_end (l' := [(0, v1), (1, .func (.func 116) #[] #[.pointer (some ⟨b3, 0, none⟩)]), (7, .int .i64 (s_0.length : Int)), (8, .int .i64 0)]) (.cons rfl (.cons rfl (.cons rfl (.cons rfl (.nil _))))) ?_
 refine ke_block ?_
 have hK := slices_IndexFunc_api_Proof_api_Proof__attempt_has_1_L1_ok hg hbd hz _ hS hb h2 he4
 exact ke_weaken (l' := [(0, v1), (1, .func (.func 116) #[] #[.pointer (some ⟨b3, 0, none⟩)]), (7, .int .i64 (s_0.length : Int)), (8, .int .i64 0)]) (.cons rfl (.cons rfl (.cons rfl (.cons rfl (.nil _))))) (ke_loop hK)
theorem slices_ContainsFunc_api_Proof_api_Proof__attempt_has_1_ok (w0 : World) (hg : Gs w0) {ρA : Tags} (hbd : ∀ b, ρA b ≠ 0 → b < w0.heap.size) (hz : Gz ρA) {s_0 : List api_Proof} {c1_0 : Int} {v1 : Value} {b3 : Nat} {r : Bool} (h2 : SlR api_Proof.c (Wb ρA) w0 v1 s_0) (he4 : ElT (intC .i64) ρA 0 w0 b3 0 [.int .i64 c1_0] c1_0) (hS : slices_ContainsFunc_api_Proof_api_Proof__attempt_has_1 s_0 c1_0 = some r) :
  Calls Tryz.prog 94 #[v1, .func (.func 116) #[] #[.pointer (some ⟨b3, 0, none⟩)]] w0 (Ret (fun v w' => v = .bool r ∧ Below w0.heap.size w0 w')) := by
 unfold slices_ContainsFunc_api_Proof_api_Proof__attempt_has_1 at hS
 have hb := flat1_fr (ρ := ρA) (w := w0) hbd
 have hz := hz.flat1
 replace h2 := SlR.mv h2 flat1_rd
 replace he4 := he4.mv flat1_rd (Nat.succ_pos _)
 refine calls_of_ke Tryz.func94 rfl (n := 9) rfl rfl (l := [(0, v1), (1, .func (.func 116) #[] #[.pointer (some ⟨b3, 0, none⟩)])]) rfl ?_
 refine ke_seq ?_
 refine ke_region ?_
 refine sr_ev (v := .bool false) (ev_assign rfl) (by decide) ?_
 refine sr_end (l' := [(0, v1), (1, .func (.func 116) #[] #[.pointer (some ⟨b3, 0, none⟩)])]) (.cons rfl (.cons rfl (.nil _))) ?_
 refine ke_seq ?_
 refine ke_region ?_
 refine sr_ev (v := v1) (ev_move rfl) (by decide) ?_
 refine sr_ev (v := .func (.func 116) #[] #[.pointer (some ⟨b3, 0, none⟩)]) (ev_move rfl) (by decide) ?_
 obtain ⟨y5, hy6, hS⟩ := bind_some' hS
 refine sr_call (vs := [v1, .func (.func 116) #[] #[.pointer (some ⟨b3, 0, none⟩)]]) rfl Tryz.call121 rfl (slices_IndexFunc_api_Proof_api_Proof__attempt_has_1_ok _ (hg.fr hz hb) (ρA := (flat1 ρA)) hb.bd (hz.fr hg hb) h2 he4 hy6) (by decide) ?_
 rintro _ w7 ⟨rfl, hbw8⟩
 have htr9 := Tr.of_below hbw8 hb.bd
 replace hb := hb.trans htr9
 refine sr_ev (v := .bool (decide (y5 ≥ 0))) (ev_ge rfl rfl) (by decide) ?_
 refine sr_ev (v := .bool (decide (y5 ≥ 0))) (ev_assign rfl) (by decide) ?_
 refine sr_end (l' := [(4, .bool (decide (y5 ≥ 0)))]) (.cons rfl (.nil _)) ?_
 cases hS
 exact ke_ret1 Tryz.func94 rfl rfl ⟨_, rfl, rfl, (hb.below (flat1_le _))⟩
theorem login_attempt_has_ok (w0 : World) (hg : Gs w0) {ρA : Tags} (hbd : ∀ b, ρA b ≠ 0 → b < w0.heap.size) (hz : Gz ρA) {a_0 : login_attempt} {f_1 : Int} {v1 : Value} {r : Bool} (h2 : SlR api_Proof.c (Wb ρA) w0 v1 a_0.proofs) (hS : login_attempt_has a_0 f_1 = some r) :
  Calls Tryz.prog 89 #[.agg #[str a_0.user, .int .i64 a_0.begun, v1], .int .i64 f_1] w0 (Ret (fun v w' => v = .bool r ∧ Below w0.heap.size w0 w')) := by
 unfold login_attempt_has at hS
 have hb := flat1_fr (ρ := ρA) (w := w0) hbd
 have hz := hz.flat1
 replace h2 := SlR.mv h2 flat1_rd
 refine calls_of_ke Tryz.func89 rfl (n := 9) rfl rfl (l := [(0, .agg #[str a_0.user, .int .i64 a_0.begun, v1]), (1, .int .i64 f_1)]) rfl ?_
 refine ke_seq ?_
 refine ke_region ?_
 refine sr_boxT 4 (by decide) hb.bd rfl (by decide) ?_
 intro g3 ρ4 w5 hB7 htr6
 replace h2 := h2.mv htr6.rd
 replace hb := hb.trans htr6
 replace hB7 : Blk ρ4 4 w5 g3 (.cells #[str a_0.user, .int .i64 a_0.begun, v1] 74 (0, 0)) := hB7
 refine sr_boxT 5 (by decide) hb.bd rfl (by decide) ?_
 intro g8 ρ9 w10 hB12 htr11
 replace hB7 := hB7.mv (htr11.mv (i := 4) rfl)
 replace h2 := h2.mv htr11.rd
 replace hb := hb.trans htr11
 replace hB12 : Blk ρ9 5 w10 g8 (.cells #[.int .i64 f_1] 40 (0, 0)) := hB12
 refine sr_ev (v := .bool false) (ev_assign rfl) (by decide) ?_
 refine sr_end (l' := [(2, .pointer (some ⟨g3, 0, none⟩)), (3, .pointer (some ⟨g8, 0, none⟩))]) (.cons rfl (.cons rfl (.nil _))) ?_
 refine ke_seq ?_
 refine ke_region ?_
 refine sr_ev (v := .pointer (some ⟨g3, 2, none⟩)) (ev_fieldAddr (i := 2) Tryz.underlying74 rfl Tryz.info36 rfl rfl) (by decide) ?_
 refine sr_ev (v := v1) (ev_load Tryz.isAgg36 rfl (hB7.cell rfl)) (by decide) ?_
 have htr13 := frz_tr (ρ := ρ9) (w := w10) (i := 5) (by decide) hb.bd
 have he14 : ElT (intC .i64) (frz ρ9 5) 0 w10 g8 0 [.int .i64 f_1] f_1 := Blk.frzEl hB12 rfl rfl
 replace h2 := h2.mv htr13.rd
 replace hb := hb.trans htr13
 refine sr_ev (v := .func (.func 116) #[] #[.pointer (some ⟨g8, 0, none⟩)]) (ev_makeFunc rfl) (by decide) ?_
 obtain ⟨y15, hy16, hS⟩ := bind_some' hS
 refine sr_call (vs := [v1, .func (.func 116) #[] #[.pointer (some ⟨g8, 0, none⟩)]]) rfl Tryz.call94 rfl (slices_ContainsFunc_api_Proof_api_Proof__attempt_has_1_ok _ (hg.fr hz hb) (ρA := (frz ρ9 5)) hb.bd (hz.fr hg hb) h2 he14 hy16) (by decide) ?_
 rintro _ w17 ⟨rfl, hbw18⟩
 have htr19 := Tr.of_below hbw18 hb.bd
 replace hb := hb.trans htr19
 refine sr_ev (v := .bool y15) (ev_assign rfl) (by decide) ?_
 refine sr_end (l' := [(4, .bool y15)]) (.cons rfl (.nil _)) ?_
 cases hS
 exact ke_ret1 Tryz.func89 rfl rfl ⟨_, rfl, rfl, (hb.below (flat1_le _))⟩
theorem secret_Locks_Locked_ok (w0 : World) (hg : Gs w0) {ρA : Tags} (hbd : ∀ b, ρA b ≠ 0 → b < w0.heap.size) (hz : Gz ρA) {τ0 : Nat → Nat} (hτ0 : ∀ p, 1 ≤ τ0 p) {k_0 : secret_Locks} {user_1 : Str} {now_2 : Int} {gk_0 : Nat} {r : Bool} (ho0 : secret_Locks.O τ0 ρA w0 gk_0 k_0) (hS : secret_Locks_Locked k_0 user_1 now_2 = some r) :
  Calls Tryz.prog 57 #[.pointer (some ⟨gk_0, 0, none⟩), str user_1, .int .i64 now_2] w0 (Ret (fun v w' => v = .bool r ∧ Below w0.heap.size w0 w')) := by
 unfold secret_Locks_Locked at hS
 have hb := flat1_fr (ρ := ρA) (w := w0) hbd
 have hz := hz.flat1
 obtain ⟨v1, lp3, hB5, h2, hR4⟩ := ho0
 replace hB5 := hB5.mv (flat1_mv (hτ0 0))
 replace h2 := h2.mv (flat1_mv (hτ0 1))
 replace hR4 := Recs.mv hR4 secret_record.objK (flat1_mv (hτ0 2)) (by decide)
 replace hB5 : Blk (flat1 ρA) 1 w0 gk_0 (.cells #[.int .i64 k_0.most, .int .i64 k_0.window, .int .i64 k_0.lock, v1] 134 (0, 0)) := hB5
 replace h2 : MapT str ptrC false (flat1 ρA) 1 w0 v1 lp3 := h2
 replace hR4 : Recs secret_record.O 2 (flat1 ρA) 1 w0 lp3 k_0.users := hR4
 refine calls_of_ke Tryz.func57 rfl (n := 32) rfl rfl (l := [(0, .pointer (some ⟨gk_0, 0, none⟩)), (1, str user_1), (2, .int .i64 now_2)]) rfl ?_
 refine ke_seq ?_
 refine ke_region ?_
 refine sr_ev (v := .bool false) (ev_assign rfl) (by decide) ?_
 refine sr_end (l' := [(0, .pointer (some ⟨gk_0, 0, none⟩)), (1, str user_1), (2, .int .i64 now_2)]) (.cons rfl (.cons rfl (.cons rfl (.nil _)))) ?_
 refine ke_seq ?_
 refine ke_region_q Tryz.mixed (by kernel_rfl) ?_
 refine sq_ev (v := .pointer (some ⟨gk_0, 0, none⟩)) (fun w1 hw1 => ev_move rfl) (by decide) ?_
 refine sq_ev (v := .bool true) (fun w1 hw1 => ev_pneT_some Tryz.underlying64 rfl rfl) (by decide) ?_
 refine sq_ev (v := .bool true) (fun w1 hw1 => ev_move rfl) (by decide) ?_
 refine sq_evg (b := true) (e := 9) rfl rfl rfl (v := .pointer (some ⟨gk_0, 0, none⟩)) (fun w1 hw1 => ev_move rfl) (by decide) ?_
 refine sq_evg (b := true) (e := 9) rfl rfl rfl (v := .pointer (some ⟨gk_0, 0, none⟩)) (fun w1 hw1 => ev_nilCheck rfl) (by decide) ?_
 refine sq_evg (b := true) (e := 9) rfl rfl rfl (v := .pointer (some ⟨gk_0, 3, none⟩)) (fun w1 hw1 => ev_fieldAddr (i := 3) Tryz.underlying134 rfl Tryz.info132 rfl rfl) (by decide) ?_
 refine sq_evg (b := true) (e := 9) rfl rfl rfl (v := v1) (fun w1 hw1 => ev_load Tryz.isAgg132 rfl ((hB5.mv (Mv.of_below (i := 1) (ρ := (flat1 ρA)) hw1)).cell rfl)) (by decide) ?_
 refine sq_evg (b := true) (e := 9) rfl rfl rfl (v := str user_1) (fun w1 hw1 => ev_move rfl) (by decide) ?_
 refine sq_evg (b := true) (e := 9) rfl rfl rfl (v := (pval (mgetD lp3 user_1 none))) (fun w1 hw1 => ev_pmLook h2 Tryz.keyB9 Tryz.underlying132 Tryz.zeroValue131 (Mv.of_below (i := 1) (ρ := (flat1 ρA)) hw1) rfl rfl) (by decide) ?_
 refine sq_evg (b := true) (e := 9) rfl rfl rfl (v := .bool (!(mgetP k_0.users user_1).isNone)) (fun w1 hw1 => pptr_ne (p := mgetD lp3 user_1 none) rfl (RecsX.ptrNil hR4 user_1) Tryz.underlying131 rfl rfl) (by decide) ?_
 refine sq_ev (v := .bool (!(mgetP k_0.users user_1).isNone)) (fun w1 hw1 => ev_pick_t rfl rfl rfl) (by decide) ?_
 refine sq_ev (v := .bool (!(mgetP k_0.users user_1).isNone)) (fun w1 hw1 => ev_move rfl) (by decide) ?_
 obtain ⟨z10, hz12, hS⟩ := bind_some' hS
 refine sq_join (m := 13) (C := fun (x : Bool) => z10 = x) (l' := fun x => [(31, .bool x)]) ?_ ?_
 ·rintro _ rfl
  refine sq_ev (v := .bool z10) (fun w1 hw1 => ev_assign rfl) (by decide) ?_
  refine sq_end (l' := [(6, .bool z10)]) (.cons rfl (.nil _)) (fun w7 hw6 => ?_)
  have htr27 := Tr.of_below hw6 hb.bd
  replace hb := hb.trans htr27
  cases hS
  exact ke_ret1 Tryz.func57 rfl rfl ⟨_, rfl, rfl, (hb.below (flat1_le _))⟩
 ·intro K9
  clear hS
  rcases Bool.eq_false_or_eq_true (!(mgetP k_0.users user_1).isNone) with hg8 | hg8
  ·have hS := ite_true' hz12 hg8
   refine sq_evg (b := true) (e := 18) rfl rfl hg8 (v := .int .i64 now_2) (fun w1 hw1 => ev_move rfl) (by decide) ?_
   obtain ⟨y15, hy16, hS⟩ := bind_some' hS
   refine sq_callg (b := true) (e := 18) rfl rfl hg8 (v := .int .i64 y15) (vs := [.int .i64 now_2, .int .i64 0]) rfl Tryz.call39 rfl (fun w1 hw1 => (clock_Add_ok _ ((hg.fr hz hb).below hw1) hy16)) (by decide) ?_
   refine sq_evg (b := true) (e := 18) rfl rfl hg8 (v := .pointer (some ⟨gk_0, 0, none⟩)) (fun w1 hw1 => ev_move rfl) (by decide) ?_
   refine sq_evg (b := true) (e := 18) rfl rfl hg8 (v := .pointer (some ⟨gk_0, 0, none⟩)) (fun w1 hw1 => ev_nilCheck rfl) (by decide) ?_
   refine sq_evg (b := true) (e := 18) rfl rfl hg8 (v := .pointer (some ⟨gk_0, 3, none⟩)) (fun w1 hw1 => ev_fieldAddr (i := 3) Tryz.underlying134 rfl Tryz.info132 rfl rfl) (by decide) ?_
   refine sq_evg (b := true) (e := 18) rfl rfl hg8 (v := v1) (fun w1 hw1 => ev_load Tryz.isAgg132 rfl ((hB5.mv (Mv.of_below (i := 1) (ρ := (flat1 ρA)) hw1)).cell rfl)) (by decide) ?_
   refine sq_evg (b := true) (e := 18) rfl rfl hg8 (v := str user_1) (fun w1 hw1 => ev_move rfl) (by decide) ?_
   refine sq_evg (b := true) (e := 18) rfl rfl hg8 (v := (pval (mgetD lp3 user_1 none))) (fun w1 hw1 => ev_pmLook h2 Tryz.keyB9 Tryz.underlying132 Tryz.zeroValue131 (Mv.of_below (i := 1) (ρ := (flat1 ρA)) hw1) rfl rfl) (by decide) ?_
   obtain ⟨y20, hy21, hS⟩ := bind_some' hS
   obtain ⟨g22, hvb23, ⟨v24, hB26, h25⟩⟩ := Recs.peekX hR4 secret_record.objK (by decide) hy21
   try rw [hvb23]
   replace hB26 : Blk (flat1 ρA) 1 w0 g22 (.cells #[v24, .int .i64 y20.until_] 137 (0, 0)) := hB26
   replace h25 : OffT (intC .i64) 3 (flat1 ρA) 1 w0 v24 y20.times := h25
   refine sq_evg (b := true) (e := 18) rfl rfl hg8 (v := .pointer (some ⟨g22, 0, none⟩)) (fun w1 hw1 => ev_nilCheck rfl) (by decide) ?_
   refine sq_evg (b := true) (e := 18) rfl rfl hg8 (v := .pointer (some ⟨g22, 1, none⟩)) (fun w1 hw1 => ev_fieldAddr (i := 1) Tryz.underlying137 rfl Tryz.info3 rfl rfl) (by decide) ?_
   refine sq_evg (b := true) (e := 18) rfl rfl hg8 (v := .int .i64 y20.until_) (fun w1 hw1 => ev_load Tryz.isAgg3 rfl ((hB26.mv (Mv.of_below (i := 1) (ρ := (flat1 ρA)) hw1)).cell rfl)) (by decide) ?_
   refine sq_evg (b := true) (e := 18) rfl rfl hg8 (v := .bool (decide (y15 < y20.until_))) (fun w1 hw1 => ev_lt rfl rfl) (by decide) ?_
   refine sq_ev (v := .bool (decide (y15 < y20.until_))) (fun w1 hw1 => ev_pick_t rfl hg8 rfl) (by decide) ?_
   exact sq_weaken (l' := [(31, .bool (decide (y15 < y20.until_)))]) (.cons rfl (.nil _)) (K9 (decide (y15 < y20.until_)) (Option.some.inj hS).symm)
  ·have hS := ite_false' hz12 hg8
   refine sq_pass (e := 18) rfl rfl (by rw [hg8]; rfl) (by decide) ?_
   refine sq_pass (e := 18) rfl rfl (by rw [hg8]; rfl) (by decide) ?_
   refine sq_pass (e := 18) rfl rfl (by rw [hg8]; rfl) (by decide) ?_
   refine sq_pass (e := 18) rfl rfl (by rw [hg8]; rfl) (by decide) ?_
   refine sq_pass (e := 18) rfl rfl (by rw [hg8]; rfl) (by decide) ?_
   refine sq_pass (e := 18) rfl rfl (by rw [hg8]; rfl) (by decide) ?_
   refine sq_pass (e := 18) rfl rfl (by rw [hg8]; rfl) (by decide) ?_
   refine sq_pass (e := 18) rfl rfl (by rw [hg8]; rfl) (by decide) ?_
   refine sq_pass (e := 18) rfl rfl (by rw [hg8]; rfl) (by decide) ?_
   refine sq_pass (e := 18) rfl rfl (by rw [hg8]; rfl) (by decide) ?_
   refine sq_pass (e := 18) rfl rfl (by rw [hg8]; rfl) (by decide) ?_
   refine sq_pass (e := 18) rfl rfl (by rw [hg8]; rfl) (by decide) ?_
   refine sq_ev (v := .bool false) (fun w1 hw1 => ev_pick_f rfl hg8 rfl) (by decide) ?_
   exact sq_weaken (l' := [(31, .bool false)]) (.cons rfl (.nil _)) (K9 false (Option.some.inj hS).symm)
theorem secret_Check_ok (w0 : World) (hg : Gs w0) {v_0 : api_Verifier} {password_1 : Str} {r : Bool} (hS : secret_Check v_0 password_1 = some r) :
  Calls Tryz.prog 21 #[.agg #[str v_0.Salt, .int .i64 v_0.Rounds, str v_0.Hash], str password_1] w0 (Ret (fun v w' => v = .bool r ∧ Below w0.heap.size w0 w')) := by
 unfold secret_Check at hS
 have hb := Below.refl w0.heap.size w0
 obtain ⟨A0, hA0, hAe⟩ : ∃ A0 : Nat → Prop, (∀ b, A0 b → b < w0.heap.size) ∧ A0 = fun _ => False := ⟨_, fun _ h => h.elim, rfl⟩
 clear hAe
 have hA := hA0
 have hi : ∀ b, A0 b → A0 b := fun _ h => h
 have hH := Hp.nil A0 w0.heap.size w0
 refine calls_of_ke Tryz.func21 rfl (n := 22) rfl rfl (l := [(0, .agg #[str v_0.Salt, .int .i64 v_0.Rounds, str v_0.Hash]), (1, str password_1)]) rfl ?_
 refine ke_seq ?_
 refine ke_region ?_
 refine sr_box hH hb.size hA rfl (by decide) ?_
 intro g1 A2 w3 hH1 hst4 hbw5 hinc6 hA1 hge7
 replace hb := hb.trans (hbw5.mono hb.size)
 replace hi := fun b hb => hinc6 b (hi b hb)
 replace hH : Hp A2 w0.heap.size w3 [(g1, .cells #[str v_0.Salt, .int .i64 v_0.Rounds, str v_0.Hash] 45 (0, 0))] := hH1
 replace hA := hA1
 clear hH1 hA1
 refine sr_ev (v := .bool false) (ev_assign rfl) (by decide) ?_
 refine sr_end (l' := [(1, str password_1), (2, .pointer (some ⟨g1, 0, none⟩))]) (.cons rfl (.cons rfl (.nil _))) ?_
 refine ke_seq ?_
 refine ke_region_q Tryz.mixed (by kernel_rfl) ?_
 refine sq_ev (v := .agg #[str v_0.Salt, .int .i64 v_0.Rounds, str v_0.Hash]) (fun w1 hw1 => ev_loads Tryz.isAgg45 Tryz.sizeOf45 rfl ((hH.below hw1).cells (i := 0) (vs := [str v_0.Salt, .int .i64 v_0.Rounds, str v_0.Hash]) rfl rfl)) (by decide) ?_
 obtain ⟨y10, hy11, hS⟩ := bind_some' hS
 refine sq_call (v := .bool y10) (vs := [.agg #[str v_0.Salt, .int .i64 v_0.Rounds, str v_0.Hash]]) rfl Tryz.call56 rfl (fun w1 hw1 => (secret_Valid_ok _ (hg.below (hb.trans (hw1.mono hb.size))) hy11)) (by decide) ?_
 refine sq_ev (v := .bool y10) (fun w1 hw1 => ev_move rfl) (by decide) ?_
 obtain ⟨z16, hz18, hS⟩ := bind_some' hS
 refine sq_join (m := 3) (C := fun (x : Bool) => z16 = x) (l' := fun x => [(1, str password_1), (2, .pointer (some ⟨g1, 0, none⟩)), (10, .bool x)]) ?_ ?_
 ·rintro _ rfl
  refine sq_ev (v := .bool z16) (fun w1 hw1 => ev_move rfl) (by decide) ?_
  obtain ⟨z27, hz29, hS⟩ := bind_some' hS
  refine sq_join (m := 10) (C := fun (x : Bool) => z27 = x) (l' := fun x => [(21, .bool x)]) ?_ ?_
  ·rintro _ rfl
   refine sq_ev (v := .bool z27) (fun w1 hw1 => ev_assign rfl) (by decide) ?_
   refine sq_end (l' := [(4, .bool z27)]) (.cons rfl (.nil _)) (fun w9 hw8 => ?_)
   replace hb := hb.trans (hw8.mono hb.size)
   replace hA := lt_mono hA hw8.size
   replace hH := hH.below hw8
   cases hS
   exact ke_ret1 Tryz.func21 rfl rfl ⟨_, rfl, rfl, hb⟩
  ·intro K26
   clear hS
   rcases Bool.eq_false_or_eq_true z16 with hg25 | hg25
   ·have hS := ite_true' hz29 hg25
    refine sq_evg (b := true) (e := 11) rfl rfl hg25 (v := .pointer (some ⟨g1, 2, none⟩)) (fun w1 hw1 => ev_fieldAddr (i := 2) Tryz.underlying45 rfl Tryz.info9 rfl rfl) (by decide) ?_
    refine sq_evg (b := true) (e := 11) rfl rfl hg25 (v := str v_0.Hash) (fun w1 hw1 => ev_load Tryz.isAgg9 rfl ((hH.below hw1).cell (i := 0) rfl rfl)) (by decide) ?_
    refine sq_evg (b := true) (e := 11) rfl rfl hg25 (v := .pointer (some ⟨g1, 0, none⟩)) (fun w1 hw1 => ev_fieldAddr (i := 0) Tryz.underlying45 rfl Tryz.info9 rfl rfl) (by decide) ?_
    refine sq_evg (b := true) (e := 11) rfl rfl hg25 (v := str v_0.Salt) (fun w1 hw1 => ev_load Tryz.isAgg9 rfl ((hH.below hw1).cell (i := 0) rfl rfl)) (by decide) ?_
    refine sq_evg (b := true) (e := 11) rfl rfl hg25 (v := str password_1) (fun w1 hw1 => ev_move rfl) (by decide) ?_
    refine sq_evg (b := true) (e := 11) rfl rfl hg25 (v := .pointer (some ⟨g1, 1, none⟩)) (fun w1 hw1 => ev_fieldAddr (i := 1) Tryz.underlying45 rfl Tryz.info3 rfl rfl) (by decide) ?_
    refine sq_evg (b := true) (e := 11) rfl rfl hg25 (v := .int .i64 v_0.Rounds) (fun w1 hw1 => ev_load Tryz.isAgg3 rfl ((hH.below hw1).cell (i := 0) rfl rfl)) (by decide) ?_
    obtain ⟨y32, hy33, hS⟩ := bind_some' hS
    refine sq_callg (b := true) (e := 11) rfl rfl hg25 (v := str y32) (vs := [str v_0.Salt, str password_1, .int .i64 v_0.Rounds]) rfl Tryz.call55 rfl (fun w1 hw1 => (digest_Iterate_ok _ (hg.below (hb.trans (hw1.mono hb.size))) hy33)) (by decide) ?_
    refine sq_evg (b := true) (e := 11) rfl rfl hg25 (v := .bool (v_0.Hash == y32)) (fun w1 hw1 => ev_seq rfl rfl) (by decide) ?_
    refine sq_ev (v := .bool (v_0.Hash == y32)) (fun w1 hw1 => ev_pick_t rfl hg25 rfl) (by decide) ?_
    exact sq_weaken (l' := [(21, .bool (v_0.Hash == y32))]) (.cons rfl (.nil _)) (K26 (v_0.Hash == y32) (Option.some.inj hS).symm)
   ·have hS := ite_false' hz29 hg25
    refine sq_pass (e := 11) rfl rfl (by rw [hg25]; rfl) (by decide) ?_
    refine sq_pass (e := 11) rfl rfl (by rw [hg25]; rfl) (by decide) ?_
    refine sq_pass (e := 11) rfl rfl (by rw [hg25]; rfl) (by decide) ?_
    refine sq_pass (e := 11) rfl rfl (by rw [hg25]; rfl) (by decide) ?_
    refine sq_pass (e := 11) rfl rfl (by rw [hg25]; rfl) (by decide) ?_
    refine sq_pass (e := 11) rfl rfl (by rw [hg25]; rfl) (by decide) ?_
    refine sq_pass (e := 11) rfl rfl (by rw [hg25]; rfl) (by decide) ?_
    refine sq_pass (e := 11) rfl rfl (by rw [hg25]; rfl) (by decide) ?_
    refine sq_pass (e := 11) rfl rfl (by rw [hg25]; rfl) (by decide) ?_
    refine sq_ev (v := .bool false) (fun w1 hw1 => ev_pick_f rfl hg25 rfl) (by decide) ?_
    exact sq_weaken (l' := [(21, .bool false)]) (.cons rfl (.nil _)) (K26 false (Option.some.inj hS).symm)
 ·intro K15
  clear hS
  rcases Bool.eq_false_or_eq_true y10 with hg14 | hg14
  ·have hS := ite_true' hz18 hg14
   refine sq_evg (b := true) (e := 7) rfl rfl hg14 (v := str password_1) (fun w1 hw1 => ev_move rfl) (by decide) ?_
   obtain ⟨y21, hy22, hS⟩ := bind_some' hS
   refine sq_callg (b := true) (e := 7) rfl rfl hg14 (v := .bool y21) (vs := [str password_1]) rfl Tryz.call54 rfl (fun w1 hw1 => (secret_isPassword_ok _ (hg.below (hb.trans (hw1.mono hb.size))) hy22)) (by decide) ?_
   refine sq_ev (v := .bool y21) (fun w1 hw1 => ev_pick_t rfl hg14 rfl) (by decide) ?_
   exact sq_weaken (l' := [(1, str password_1), (2, .pointer (some ⟨g1, 0, none⟩)), (10, .bool y21)]) (.cons rfl (.cons rfl (.cons rfl (.nil _)))) (K15 y21 (Option.some.inj hS).symm)
  ·have hS := ite_false' hz18 hg14
   refine sq_pass (e := 7) rfl rfl (by rw [hg14]; rfl) (by decide) ?_
   refine sq_pass (e := 7) rfl rfl (by rw [hg14]; rfl) (by decide) ?_
   refine sq_ev (v := .bool false) (fun w1 hw1 => ev_pick_f rfl hg14 rfl) (by decide) ?_
   exact sq_weaken (l' := [(1, str password_1), (2, .pointer (some ⟨g1, 0, none⟩)), (10, .bool false)]) (.cons rfl (.cons rfl (.cons rfl (.nil _)))) (K15 false (Option.some.inj hS).symm)
theorem secret_Locks_Clear_ok (w0 : World) (hg : Gs w0) {ρA : Tags} (hbd : ∀ b, ρA b ≠ 0 → b < w0.heap.size) (hz : Gz ρA) {o : Nat} (ho2 : 2 ≤ o) {k_0 : secret_Locks} {user_1 : Str} {gk_0 : Nat} {r : secret_Locks} (ho0 : secret_Locks.O (fun p => o + p) ρA w0 gk_0 k_0) (hS : secret_Locks_Clear k_0 user_1 = some r) :
  Calls Tryz.prog 77 #[.pointer (some ⟨gk_0, 0, none⟩), str user_1] w0 (Ret (fun v w' => ∃ ρ', v = .tuple #[] ∧ secret_Locks.O (fun p => o + p) ρ' w' gk_0 r ∧ Tr ρA w0 (rng o 3) ρ' w')) := by
 unfold secret_Locks_Clear at hS
 have hb := enter_fr (ρ := ρA) (w := w0) (n := 3) ho2 hbd
 have hz := hz.enter (n := 3) ho2
 obtain ⟨v1, lp3, hB5, h2, hR4⟩ := ho0
 replace hB5 := hB5.mv (enter_mv (p := 0) (n := 3) (by decide) ho2)
 replace h2 := h2.mv (enter_mv (p := 1) (n := 3) (by decide) ho2)
 replace hR4 := Recs.mv hR4 secret_record.objK (enter_mv (p := 2) (n := 3) (by decide) ho2) (by decide)
 replace hB5 : Blk (enter ρA o 3) 100 w0 gk_0 (.cells #[.int .i64 k_0.most, .int .i64 k_0.window, .int .i64 k_0.lock, v1] 134 (0, 0)) := hB5
 replace h2 : MapT str ptrC false (enter ρA o 3) 101 w0 v1 lp3 := h2
 replace hR4 : Recs secret_record.O 2 (enter ρA o 3) 102 w0 lp3 k_0.users := hR4
 refine calls_of_ke Tryz.func77 rfl (n := 11) rfl rfl (l := [(0, .pointer (some ⟨gk_0, 0, none⟩)), (1, str user_1)]) rfl ?_
 refine ke_seq ?_
 refine ke_region ?_
 refine sr_ev (v := .pointer (some ⟨gk_0, 0, none⟩)) (ev_move rfl) (by decide) ?_
 refine sr_ev (v := .bool true) (ev_pneT_some Tryz.underlying64 rfl rfl) (by decide) ?_
 refine sr_end (l' := [(0, .pointer (some ⟨gk_0, 0, none⟩)), (1, str user_1), (5, .bool true)]) (.cons rfl (.cons rfl (.cons rfl (.nil _)))) ?_
 refine ke_cond (t := true) rfl (fun _ => ?_) (fun h => by cases h)
 refine ke_region ?_
 refine sr_ev (v := .pointer (some ⟨gk_0, 0, none⟩)) (ev_move rfl) (by decide) ?_
 refine sr_ev (v := .pointer (some ⟨gk_0, 0, none⟩)) (ev_nilCheck rfl) (by decide) ?_
 refine sr_ev (v := .pointer (some ⟨gk_0, 3, none⟩)) (ev_fieldAddr (i := 3) Tryz.underlying134 rfl Tryz.info132 rfl rfl) (by decide) ?_
 refine sr_ev (v := v1) (ev_load Tryz.isAgg132 rfl (hB5.cell rfl)) (by decide) ?_
 refine sr_ev (v := str user_1) (ev_move rfl) (by decide) ?_
 have hR8 := Recs.delX hR4 user_1
 refine sr_mapDel0 (k := user_1) h2 Tryz.keyB9 Tryz.underlying132 (by decide) hb.bd rfl rfl ?_
 intro w6 h21 htr7
 replace hR8 := Recs.mv hR8 secret_record.objK (htr7.mv (i := 102) rfl) (by decide)
 replace hB5 := hB5.mv (htr7.mv (i := 100) rfl)
 replace hb := hb.trans htr7
 replace h2 := h21
 clear h21
 refine sr_end (l' := []) (.nil _) ?_
 cases hS
 exact ke_end0 Tryz.func77 rfl ⟨_, rfl, leave ρA w0 o 3 (enter ρA o 3), rfl, ⟨_, _, (hB5.mv (leave_mv (p := 0) (by decide) hb)), (h2.mv (leave_mv (p := 1) (by decide) hb)), (Recs.mv hR8 secret_record.objK (leave_mv (p := 2) (by decide) hb) (Nat.ne_of_gt (Nat.lt_of_lt_of_le (Nat.lt_of_lt_of_le Nat.zero_lt_two ho2) (Nat.le_add_right _ _))))⟩, (leave_tr ho2 hb)⟩
theorem secret_Locks_Clear__nil_ok (w0 : World) (hg : Gs w0) {ρA : Tags} (hbd : ∀ b, ρA b ≠ 0 → b < w0.heap.size) (hz : Gz ρA) {user_1 : Str} {r : Unit} (hS : secret_Locks_Clear__nil user_1 = some r) :
  Calls Tryz.prog 77 #[.pointer none, str user_1] w0 (Ret (fun v w' => v = .tuple #[] ∧ Below w0.heap.size w0 w')) := by
 unfold secret_Locks_Clear__nil at hS
 have hb := flat1_fr (ρ := ρA) (w := w0) hbd
 have hz := hz.flat1
 refine calls_of_ke Tryz.func77 rfl (n := 11) rfl rfl (l := [(0, .pointer none), (1, str user_1)]) rfl ?_
 refine ke_seq ?_
 refine ke_region ?_
 refine sr_ev (v := .pointer none) (ev_move rfl) (by decide) ?_
 refine sr_ev (v := .bool false) (ev_pneT_nil Tryz.underlying64 rfl rfl) (by decide) ?_
 refine sr_end (l' := [(0, .pointer none), (1, str user_1), (5, .bool false)]) (.cons rfl (.cons rfl (.cons rfl (.nil _)))) ?_
 refine ke_cond (t := false) rfl (fun h => by cases h) (fun _ => ?_)
 refine ke_skip ?_
 cases hS
 exact ke_end0 Tryz.func77 rfl ⟨_, rfl, rfl, (hb.below (flat1_le _))⟩
theorem login_Logins_byPassword_ok (w0 : World) (hg : Gs w0) {ρA : Tags} (hbd : ∀ b, ρA b ≠ 0 → b < w0.heap.size) (hz : Gz ρA) {o : Nat} (ho2 : 2 ≤ o) {l_0 : login_Logins} {user_1 : Str} {password_2 : Str} {now_3 : Int} {gl_0 : Nat} {r : Bool × login_Logins} (ho0 : login_Logins.O (fun p => o + p) ρA w0 gl_0 l_0) (hS : login_Logins_byPassword l_0 user_1 password_2 now_3 = some r) :
  Calls Tryz.prog 53 #[.pointer (some ⟨gl_0, 0, none⟩), str user_1, str password_2, .int .i64 now_3] w0 (Ret (fun v w' => ∃ ρ', v = .bool r.1 ∧ login_Logins.O (fun p => o + p) ρ' w' gl_0 r.2 ∧ Tr ρA w0 (rng o 7) ρ' w')) := by
 unfold login_Logins_byPassword at hS
 have hb := enter_fr (ρ := ρA) (w := w0) (n := 7) ho2 hbd
 have hz := hz.enter (n := 7) ho2
 obtain ⟨v1, v3, v5, v7, hB9, hP2, h4, h6, h8⟩ := ho0
 replace hB9 := hB9.mv (enter_mv (p := 0) (n := 7) (by decide) ho2)
 replace hP2 := PtrO.mv hP2 secret_Locks.objK (fun p hp => enter_mv (p := 1 + p) (n := 7) (by omega) ho2) (fun p hp => by omega)
 replace h4 := h4.mv (enter_mv (p := 4) (n := 7) (by decide) ho2)
 replace h6 := h6.mv (enter_mv (p := 5) (n := 7) (by decide) ho2)
 replace h8 := h8.mv (enter_mv (p := 6) (n := 7) (by decide) ho2)
 replace hB9 : Blk (enter ρA o 7) 100 w0 gl_0 (.cells #[v1, v3, v5, v7] 69 (0, 0)) := hB9
 replace hP2 : PtrO secret_Locks.O (fun q => 100 + (1 + q)) (enter ρA o 7) w0 v1 l_0.locks := hP2
 replace h4 : MapT str login_credentials.c true (enter ρA o 7) 104 w0 v3 l_0.users := h4
 replace h6 : MapT str (intC .i64) false (enter ρA o 7) 105 w0 v5 l_0.counters := h6
 replace h8 : MapT str login_attempt.c true (enter ρA o 7) 106 w0 v7 l_0.attempts := h8
 refine calls_of_ke Tryz.func53 rfl (n := 35) rfl rfl (l := [(0, .pointer (some ⟨gl_0, 0, none⟩)), (1, str user_1), (2, str password_2), (3, .int .i64 now_3)]) rfl ?_
 refine ke_seq ?_
 refine ke_region ?_
 refine sr_ev (v := .bool false) (ev_assign rfl) (by decide) ?_
 refine sr_end (l' := [(0, .pointer (some ⟨gl_0, 0, none⟩)), (1, str user_1), (2, str password_2)]) (.cons rfl (.cons rfl (.cons rfl (.nil _)))) ?_
 refine ke_seq ?_
 refine ke_region ?_
 refine sr_ev (v := .pointer (some ⟨gl_0, 0, none⟩)) (ev_move rfl) (by decide) ?_
 refine sr_ev (v := .pointer (some ⟨gl_0, 0, none⟩)) (ev_nilCheck rfl) (by decide) ?_
 refine sr_ev (v := .pointer (some ⟨gl_0, 1, none⟩)) (ev_fieldAddr (i := 1) Tryz.underlying69 rfl Tryz.info65 rfl rfl) (by decide) ?_
 refine sr_ev (v := v3) (ev_load Tryz.isAgg65 rfl (hB9.cell rfl)) (by decide) ?_
 refine sr_ev (v := str user_1) (ev_move rfl) (by decide) ?_
 obtain ⟨y14, hy15, hS⟩ := bind_some' hS
 replace hy15 := Option.some.inj hy15
 obtain ⟨cs10, hrd11, hl12, hl13⟩ := h4.look (zcs := [str ([]), .int .i64 0, str ([]), str ([])]) (z := (login_credentials.mk (api_Verifier.mk ([]) 0 ([])) ([]))) Tryz.keyB9 Tryz.underlying65 Tryz.zeroValue98 rfl user_1
 rw [hy15] at hrd11
 obtain rfl : cs10 = [str y14.verifier.Salt, .int .i64 y14.verifier.Rounds, str y14.verifier.Hash, str y14.code] := hrd11
 refine sr_ev (v := .tuple #[.agg #[str y14.verifier.Salt, .int .i64 y14.verifier.Rounds, str y14.verifier.Hash, str y14.code], .bool (mhas l_0.users user_1)]) (hl13 w0 _ _ (Mv.of_below (i := 104) (ρ := (enter ρA o 7)) (Below.refl _ _)) rfl rfl) (by decide) ?_
 refine sr_ev (v := .tuple #[.agg #[str y14.verifier.Salt, .int .i64 y14.verifier.Rounds, str y14.verifier.Hash, str y14.code], .bool (mhas l_0.users user_1)]) (ev_move rfl) (by decide) ?_
 refine sr_ev (v := .agg #[str y14.verifier.Salt, .int .i64 y14.verifier.Rounds, str y14.verifier.Hash, str y14.code]) (ev_extract rfl rfl) (by decide) ?_
 refine sr_ev (v := .bool (mhas l_0.users user_1)) (ev_extract rfl rfl) (by decide) ?_
 refine sr_allocT 11 (by decide) hb.bd Tryz.zeroValue98 (by decide) ?_
 intro g16 ρ17 w18 hB20 htr19
 replace hB9 := hB9.mv (htr19.mv (i := 100) rfl)
 replace hP2 := PtrO.mv hP2 secret_Locks.objK (fun p hp => htr19.mv (i := 100 + (1 + p)) (by rcases p with _ | _ | _ | p <;> first | rfl | omega)) (fun p hp => by show 100 + (1 + p) ≠ 0; omega)
 replace h4 := h4.mv (htr19.mv (i := 104) rfl)
 replace h6 := h6.mv (htr19.mv (i := 105) rfl)
 replace h8 := h8.mv (htr19.mv (i := 106) rfl)
 replace hb := hb.trans htr19
 replace hB20 : Blk ρ17 11 w18 g16 (.cells #[str ([]), .int .i64 0, str ([]), str ([])] 98 (0, 0)) := hB20
 refine sr_storeT (v := .agg #[str y14.verifier.Salt, .int .i64 y14.verifier.Rounds, str y14.verifier.Hash, str y14.code]) (vs := [str y14.verifier.Salt, .int .i64 y14.verifier.Rounds, str y14.verifier.Hash, str y14.code]) (cs' := #[str y14.verifier.Salt, .int .i64 y14.verifier.Rounds, str y14.verifier.Hash, str y14.code]) hB20 (by decide) hb.bd rfl rfl rfl Tryz.sizeOf98 rfl rfl rfl ?_
 intro w21 hB201 htr22
 replace hB9 := hB9.mv (htr22.mv (i := 100) rfl)
 replace hP2 := PtrO.mv hP2 secret_Locks.objK (fun p hp => htr22.mv (i := 100 + (1 + p)) (by rcases p with _ | _ | _ | p <;> first | rfl | omega)) (fun p hp => by show 100 + (1 + p) ≠ 0; omega)
 replace h4 := h4.mv (htr22.mv (i := 104) rfl)
 replace h6 := h6.mv (htr22.mv (i := 105) rfl)
 replace h8 := h8.mv (htr22.mv (i := 106) rfl)
 replace hb := hb.trans htr22
 replace hB20 : Blk ρ17 11 w21 g16 (.cells #[str y14.verifier.Salt, .int .i64 y14.verifier.Rounds, str y14.verifier.Hash, str y14.code] 98 (0, 0)) := hB201
 clear hB201
 refine sr_ev (v := .bool (mhas l_0.users user_1)) (ev_assign rfl) (by decide) ?_
 refine sr_end (l' := [(0, .pointer (some ⟨gl_0, 0, none⟩)), (1, str user_1), (2, str password_2), (9, .pointer (some ⟨g16, 0, none⟩)), (10, .bool (mhas l_0.users user_1))]) (.cons rfl (.cons rfl (.cons rfl (.cons rfl (.cons rfl (.nil _)))))) ?_
 refine ke_seq ?_
 refine ke_seq ?_
 refine ke_region ?_
 refine sr_ev (v := .bool (mhas l_0.users user_1)) (ev_move rfl) (by decide) ?_
 refine sr_ev (v := .bool (!(mhas l_0.users user_1))) (ev_not rfl) (by decide) ?_
 refine sr_ev (v := .bool (!(mhas l_0.users user_1))) (ev_move rfl) (by decide) ?_
 obtain ⟨z25, hz27, hS⟩ := bind_some' hS
 refine sr_join (m := 6) (C := fun (z : Bool) w1 => z25 = z ∧ ∃ ρ1, Tr ρ17 w21 (fun _ => false) ρ1 w1) (l' := fun z => [(0, .pointer (some ⟨gl_0, 0, none⟩)), (1, str user_1), (28, .bool z)]) ?_ ?_
 ·rintro _ w28 ⟨rfl, ρ29, hj26⟩
  replace hB9 := hB9.mv (hj26.mv (i := 100) rfl)
  replace hP2 := PtrO.mv hP2 secret_Locks.objK (fun p hp => hj26.mv (i := 100 + (1 + p)) (by rcases p with _ | _ | _ | p <;> first | rfl | omega)) (fun p hp => by show 100 + (1 + p) ≠ 0; omega)
  replace h4 := h4.mv (hj26.mv (i := 104) rfl)
  replace h6 := h6.mv (hj26.mv (i := 105) rfl)
  replace h8 := h8.mv (hj26.mv (i := 106) rfl)
  replace hb := hb.trans hj26
  refine sr_end (l' := [(0, .pointer (some ⟨gl_0, 0, none⟩)), (1, str user_1), (28, .bool z25)]) (.cons rfl (.cons rfl (.cons rfl (.nil _)))) ?_
  refine ke_cond (t := z25) rfl (fun hc36 => ?_) (fun hc36 => ?_)
  ·replace hS := ite_true' hS hc36
   refine ke_seq ?_
   refine ke_region ?_
   refine sr_ev (v := .bool false) (ev_assign rfl) (by decide) ?_
   refine sr_end (l' := [(8, .bool false)]) (.cons rfl (.nil _)) ?_
   cases hS
   exact ke_ret1 Tryz.func53 rfl rfl ⟨_, rfl, leave ρA w0 o 7 ρ29, rfl, ⟨_, _, _, _, (hB9.mv (leave_mv (p := 0) (by decide) hb)), (PtrO.mv hP2 secret_Locks.objK (fun p hp => leave_mv (p := 1 + p) (by omega) hb) (fun p hp => by show o + (1 + p) ≠ 0; omega)), (h4.mv (leave_mv (p := 4) (by decide) hb)), (h6.mv (leave_mv (p := 5) (by decide) hb)), (h8.mv (leave_mv (p := 6) (by decide) hb))⟩, (leave_tr ho2 hb)⟩
  ·replace hS := ite_false' hS hc36
   refine ke_skip ?_
   refine ke_seq ?_
   refine ke_region ?_
   refine sr_ev (v := .pointer (some ⟨gl_0, 0, none⟩)) (ev_move rfl) (by decide) ?_
   refine sr_ev (v := .pointer (some ⟨gl_0, 0, none⟩)) (ev_nilCheck rfl) (by decide) ?_
   refine sr_ev (v := .pointer (some ⟨gl_0, 0, none⟩)) (ev_fieldAddr (i := 0) Tryz.underlying69 rfl Tryz.info64 rfl rfl) (by decide) ?_
   refine sr_ev (v := v1) (ev_load Tryz.isAgg64 rfl (hB9.cell rfl)) (by decide) ?_
   refine sr_ev (v := str user_1) (ev_move rfl) (by decide) ?_
   rcases ho38 : l_0.locks with _ | z37
   ·replace hS := optC_none hS ho38
    obtain rfl := hP2.none_ ho38
    obtain ⟨y56, hy57, hS⟩ := bind_some' hS
    refine sr_call (vs := [.pointer none, str user_1]) rfl Tryz.call77 rfl (secret_Locks_Clear__nil_ok _ (hg.fr hz hb) (ρA := ρ29) hb.bd (hz.fr hg hb) hy57) (by decide) ?_
    rintro _ w58 ⟨rfl, hbw59⟩
    have htr60 := Tr.of_below hbw59 hb.bd
    replace hB9 := hB9.mv (htr60.mv (i := 100) rfl)
    replace h4 := h4.mv (htr60.mv (i := 104) rfl)
    replace h6 := h6.mv (htr60.mv (i := 105) rfl)
    replace h8 := h8.mv (htr60.mv (i := 106) rfl)
    replace hb := hb.trans htr60
    refine sr_end (l' := []) (.nil _) ?_
    refine ke_seq ?_
    refine ke_region ?_
    refine sr_ev (v := .bool true) (ev_assign rfl) (by decide) ?_
    refine sr_end (l' := [(8, .bool true)]) (.cons rfl (.nil _)) ?_
    cases hS
    exact ke_ret1 Tryz.func53 rfl rfl ⟨_, rfl, leave ρA w0 o 7 ρ29, rfl, ⟨_, _, _, _, (hB9.mv (leave_mv (p := 0) (by decide) hb)), PtrO.nil, (h4.mv (leave_mv (p := 4) (by decide) hb)), (h6.mv (leave_mv (p := 5) (by decide) hb)), (h8.mv (leave_mv (p := 6) (by decide) hb))⟩, (leave_tr ho2 hb)⟩
   ·replace hS := optC_some hS ho38
    obtain ⟨g39, rfl, ⟨v40, lp42, hB44, h41, hR43⟩⟩ := hP2.some_ ho38
    replace hB44 : Blk ρ29 101 w28 g39 (.cells #[.int .i64 z37.most, .int .i64 z37.window, .int .i64 z37.lock, v40] 134 (0, 0)) := hB44
    replace h41 : MapT str ptrC false ρ29 102 w28 v40 lp42 := h41
    replace hR43 : Recs secret_record.O 2 ρ29 103 w28 lp42 z37.users := hR43
    obtain ⟨y45, hy46, hS⟩ := bind_some' hS
    refine sr_call (vs := [.pointer (some ⟨g39, 0, none⟩), str user_1]) rfl Tryz.call77 rfl (secret_Locks_Clear_ok _ (hg.fr hz hb) (ρA := ρ29) hb.bd (hz.fr hg hb) (o := 101) (by decide) (⟨_, _, hB44, h41, hR43⟩ : secret_Locks.O (fun p => 101 + p) ρ29 w28 g39 z37) hy46) (by decide) ?_
    rintro _ w47 ⟨ρ55, rfl, ⟨v50, lp52, hB54, h51, hR53⟩, htr49⟩
    replace hB9 := hB9.mv (htr49.mv (i := 100) rfl)
    replace h4 := h4.mv (htr49.mv (i := 104) rfl)
    replace h6 := h6.mv (htr49.mv (i := 105) rfl)
    replace h8 := h8.mv (htr49.mv (i := 106) rfl)
    replace hb := hb.trans htr49
    replace hB54 : Blk ρ55 101 w47 g39 (.cells #[.int .i64 y45.most, .int .i64 y45.window, .int .i64 y45.lock, v50] 134 (0, 0)) := hB54
    replace h51 : MapT str ptrC false ρ55 102 w47 v50 lp52 := h51
    replace hR53 : Recs secret_record.O 2 ρ55 103 w47 lp52 y45.users := hR53
    refine sr_end (l' := []) (.nil _) ?_
    refine ke_seq ?_
    refine ke_region ?_
    refine sr_ev (v := .bool true) (ev_assign rfl) (by decide) ?_
    refine sr_end (l' := [(8, .bool true)]) (.cons rfl (.nil _)) ?_
    cases hS
    exact ke_ret1 Tryz.func53 rfl rfl ⟨_, rfl, leave ρA w0 o 7 ρ55, rfl, ⟨_, _, _, _, (hB9.mv (leave_mv (p := 0) (by decide) hb)), (PtrO.mk ⟨_, _, (hB54.mv (leave_mv (p := 1) (by decide) hb)), (h51.mv (leave_mv (p := 2) (by decide) hb)), (Recs.mv hR53 secret_record.objK (leave_mv (p := 3) (by decide) hb) (Nat.ne_of_gt (Nat.lt_of_lt_of_le (Nat.lt_of_lt_of_le Nat.zero_lt_two ho2) (Nat.le_add_right _ _))))⟩), (h4.mv (leave_mv (p := 4) (by decide) hb)), (h6.mv (leave_mv (p := 5) (by decide) hb)), (h8.mv (leave_mv (p := 6) (by decide) hb))⟩, (leave_tr ho2 hb)⟩
 ·intro K24
  clear hS
  have hj26 : Tr ρ17 w21 (fun _ => false) ρ17 w21 := (Tr.refl hb.bd).weak (fun _ _ => rfl) rfl rfl
  rcases Bool.eq_false_or_eq_true (!(mhas l_0.users user_1)) with hg23 | hg23
  ·have hS := ite_true' hz27 hg23
   refine sr_pass (e := 22) rfl rfl (by rw [hg23]; rfl) (by decide) ?_
   refine sr_pass (e := 22) rfl rfl (by rw [hg23]; rfl) (by decide) ?_
   refine sr_pass (e := 22) rfl rfl (by rw [hg23]; rfl) (by decide) ?_
   refine sr_pass (e := 22) rfl rfl (by rw [hg23]; rfl) (by decide) ?_
   refine sr_pass (e := 22) rfl rfl (by rw [hg23]; rfl) (by decide) ?_
   refine sr_ev (v := .bool true) (ev_pick_t rfl hg23 rfl) (by decide) ?_
   exact sr_weaken (l' := [(0, .pointer (some ⟨gl_0, 0, none⟩)), (1, str user_1), (28, .bool true)]) (.cons rfl (.cons rfl (.cons rfl (.nil _)))) (K24 true _ ⟨(Option.some.inj hS).symm, _, hj26⟩)
  ·have hS := ite_false' hz27 hg23
   refine sr_evg (b := false) (e := 22) rfl rfl hg23 (v := .pointer (some ⟨g16, 0, none⟩)) (ev_fieldAddr (i := 0) Tryz.underlying98 rfl Tryz.info45 rfl rfl) (by decide) ?_
   refine sr_evg (b := false) (e := 22) rfl rfl hg23 (v := .agg #[str y14.verifier.Salt, .int .i64 y14.verifier.Rounds, str y14.verifier.Hash]) (ev_loads (cs := [str y14.verifier.Salt, .int .i64 y14.verifier.Rounds, str y14.verifier.Hash]) Tryz.isAgg45 Tryz.sizeOf45 rfl (hB20.cells (vs := [str y14.verifier.Salt, .int .i64 y14.verifier.Rounds, str y14.verifier.Hash]) rfl)) (by decide) ?_
   refine sr_evg (b := false) (e := 22) rfl rfl hg23 (v := str password_2) (ev_move rfl) (by decide) ?_
   obtain ⟨y31, hy32, hS⟩ := bind_some' hS
   refine sr_callg (b := false) (e := 22) rfl rfl hg23 (vs := [.agg #[str y14.verifier.Salt, .int .i64 y14.verifier.Rounds, str y14.verifier.Hash], str password_2]) rfl Tryz.call21 rfl (secret_Check_ok _ (hg.fr hz hb) hy32) (by decide) ?_
   rintro _ w33 ⟨rfl, hbw34⟩
   have htr35 := Tr.of_below hbw34 hb.bd
   replace hB9 := hB9.mv (htr35.mv (i := 100) rfl)
   replace hP2 := PtrO.mv hP2 secret_Locks.objK (fun p hp => htr35.mv (i := 100 + (1 + p)) (by rcases p with _ | _ | _ | p <;> first | rfl | omega)) (fun p hp => by show 100 + (1 + p) ≠ 0; omega)
   replace h4 := h4.mv (htr35.mv (i := 104) rfl)
   replace h6 := h6.mv (htr35.mv (i := 105) rfl)
   replace h8 := h8.mv (htr35.mv (i := 106) rfl)
   replace hb := hb.trans htr35
   replace hj26 := (hj26.trans htr35).weak (J' := (fun _ => false)) (by intro t h; simp [rng] at h ⊢ <;> omega) rfl rfl
   refine sr_evg (b := false) (e := 22) rfl rfl hg23 (v := .bool (!y31)) (ev_not rfl) (by decide) ?_
   refine sr_ev (v := .bool (!y31)) (ev_pick_f rfl hg23 rfl) (by decide) ?_
   exact sr_weaken (l' := [(0, .pointer (some ⟨gl_0, 0, none⟩)), (1, str user_1), (28, .bool (!y31))]) (.cons rfl (.cons rfl (.cons rfl (.nil _)))) (K24 (!y31) _ ⟨(Option.some.inj hS).symm, _, hj26⟩)
theorem secret_Locks_count_B2_ok {w0 : World} (hg : Gs w0) {ρA : Tags} (hbd : ∀ b, ρA b ≠ 0 → b < w0.heap.size) (hz : Gz (flat1 ρA)) (r0 : secret_Locks → Int → Int → List Int → Int → Int → Option (Int))
  (hr0 : ∀ {r : Int} {ok_0 : secret_Locks} {now_2 : Int} {n_7 : Int} {t_13 : List Int} {t_14 : Int} {t_15 : Int} {gk_0 : Nat} {vt_13 : Value}, r0 ok_0 now_2 n_7 t_13 t_14 t_15 = some r → ∀ {ρ : Tags} {w : World}, (Fr (flat1 ρA) w0 ρ w) → (secret_Locks.O (fun _ => 1) ρ w gk_0 ok_0) → (OffT (intC .i64) 3 ρ 1 w vt_13 t_13) → KE Tryz.prog 117 (Ret (fun v w' => v = .int .i64 r ∧ Below w0.heap.size w0 w')) 36 [.inLoop (sub (bodyOf Tryz.f117) [2, 2, 1, 2, 2, 1]), .inBlock 0, .code (sub (bodyOf Tryz.f117) [2, 2, 2])] [(0, .pointer (some ⟨gk_0, 0, none⟩)), (2, .int .i64 now_2), (7, .int .i64 n_7), (13, vt_13), (14, .int .i64 t_14), (15, .int .i64 t_15)] w) {r : Int} {ok_0 : secret_Locks} {now_2 : Int} {n_7 : Int} {t_13 : List Int} {t_14 : Int} {t_15 : Int} {gk_0 : Nat} {vt_13 : Value} (hS : secret_Locks_count_B2 r0 ok_0 now_2 n_7 t_13 t_14 t_15 = some r) {ρ : Tags} {w : World} (hb : Fr (flat1 ρA) w0 ρ w) (hok_0 : secret_Locks.O (fun _ => 1) ρ w gk_0 ok_0) (ht_13 : OffT (intC .i64) 3 ρ 1 w vt_13 t_13) :
  KE Tryz.prog 117 (Ret (fun v w' => v = .int .i64 r ∧ Below w0.heap.size w0 w')) 36 [.inBlock 1, .code (sub (bodyOf Tryz.f117) [2, 2, 1, 2, 2, 1, 2, 2, 2]), .inLoop (sub (bodyOf Tryz.f117) [2, 2, 1, 2, 2, 1]), .inBlock 0, .code (sub (bodyOf Tryz.f117) [2, 2, 2])] [(0, .pointer (some ⟨gk_0, 0, none⟩)), (2, .int .i64 now_2), (7, .int .i64 n_7), (13, vt_13), (14, .int .i64 t_14), (15, .int .i64 t_15)] w := by
 unfold secret_Locks_count_B2 at hS
 obtain ⟨v31, lp33, hB35, h32, hR34⟩ := hok_0
 replace hB35 : Blk ρ 1 w gk_0 (.cells #[.int .i64 ok_0.most, .int .i64 ok_0.window, .int .i64 ok_0.lock, v31] 134 (0, 0)) := hB35
 replace h32 : MapT str ptrC false ρ 1 w v31 lp33 := h32
 replace hR34 : Recs secret_record.O 2 ρ 1 w lp33 ok_0.users := hR34
 refine ke_inBlock ?_
 refine ke_region ?_
 refine sr_ev (v := .int .i64 (IntKind.i64.wrap (t_15 + 1))) (ev_add rfl rfl) (by decide) ?_
 refine sr_ev (v := .int .i64 (IntKind.i64.wrap (t_15 + 1))) (ev_move rfl) (by decide) ?_
 refine sr_end (l' := [(0, .pointer (some ⟨gk_0, 0, none⟩)), (2, .int .i64 now_2), (7, .int .i64 n_7), (13, vt_13), (14, .int .i64 t_14), (15, .int .i64 (IntKind.i64.wrap (t_15 + 1)))]) (.cons rfl (.cons rfl (.cons rfl (.cons rfl (.cons rfl (.cons rfl (.nil _))))))) ?_
 have hK := hr0 hS hb ⟨_, _, hB35, h32, hR34⟩ ht_13
 exact ke_weaken (l' := [(0, .pointer (some ⟨gk_0, 0, none⟩)), (2, .int .i64 now_2), (7, .int .i64 n_7), (13, vt_13), (14, .int .i64 t_14), (15, .int .i64 (IntKind.i64.wrap (t_15 + 1)))]) (.cons rfl (.cons rfl (.cons rfl (.cons rfl (.cons rfl (.cons rfl (.nil _))))))) hK
theorem secret_Locks_count_L1_ok {w0 : World} (hg : Gs w0) {ρA : Tags} (hbd : ∀ b, ρA b ≠ 0 → b < w0.heap.size) (hz : Gz (flat1 ρA)) : ∀ (n : Nat), ∀ {r : Int} {ok_0 : secret_Locks} {now_2 : Int} {n_7 : Int} {t_13 : List Int} {t_14 : Int} {t_15 : Int} {gk_0 : Nat} {vt_13 : Value}, secret_Locks_count_L1 n ok_0 now_2 n_7 t_13 t_14 t_15 = some r → ∀ {ρ : Tags} {w : World}, (Fr (flat1 ρA) w0 ρ w) → (secret_Locks.O (fun _ => 1) ρ w gk_0 ok_0) → (OffT (intC .i64) 3 ρ 1 w vt_13 t_13) → KE Tryz.prog 117 (Ret (fun v w' => v = .int .i64 r ∧ Below w0.heap.size w0 w')) 36 [.code (sub (bodyOf Tryz.f117) [2, 2, 1, 2, 2, 1]), .inLoop (sub (bodyOf Tryz.f117) [2, 2, 1, 2, 2, 1]), .inBlock 0, .code (sub (bodyOf Tryz.f117) [2, 2, 2])] [(0, .pointer (some ⟨gk_0, 0, none⟩)), (2, .int .i64 now_2), (7, .int .i64 n_7), (13, vt_13), (14, .int .i64 t_14), (15, .int .i64 t_15)] w := by
 intro n
 induction n with
 | zero => intro r ok_0 now_2 n_7 t_13 t_14 t_15 gk_0 vt_13 hS; cases hS
 | succ n ih =>
  have hr0 : ∀ {r : Int} {ok_0 : secret_Locks} {now_2 : Int} {n_7 : Int} {t_13 : List Int} {t_14 : Int} {t_15 : Int} {gk_0 : Nat} {vt_13 : Value}, secret_Locks_count_L1 n ok_0 now_2 n_7 t_13 t_14 t_15 = some r → ∀ {ρ : Tags} {w : World}, (Fr (flat1 ρA) w0 ρ w) → (secret_Locks.O (fun _ => 1) ρ w gk_0 ok_0) → (OffT (intC .i64) 3 ρ 1 w vt_13 t_13) → KE Tryz.prog 117 (Ret (fun v w' => v = .int .i64 r ∧ Below w0.heap.size w0 w')) 36 [.inLoop (sub (bodyOf Tryz.f117) [2, 2, 1, 2, 2, 1]), .inBlock 0, .code (sub (bodyOf Tryz.f117) [2, 2, 2])] [(0, .pointer (some ⟨gk_0, 0, none⟩)), (2, .int .i64 now_2), (7, .int .i64 n_7), (13, vt_13), (14, .int .i64 t_14), (15, .int .i64 t_15)] w := fun {r} {ok_0} {now_2} {n_7} {t_13} {t_14} {t_15} {gk_0} {vt_13} hS {ρ} {w} hb hok_0 ht_13 => ke_inLoop (ih hS hb hok_0 ht_13)
  clear ih
  intro r ok_0 now_2 n_7 t_13 t_14 t_15 gk_0 vt_13 hS ρ w hb hok_0 ht_13
  unfold secret_Locks_count_L1 at hS
  obtain ⟨v9, lp11, hB13, h10, hR12⟩ := hok_0
  replace hB13 : Blk ρ 1 w gk_0 (.cells #[.int .i64 ok_0.most, .int .i64 ok_0.window, .int .i64 ok_0.lock, v9] 134 (0, 0)) := hB13
  replace h10 : MapT str ptrC false ρ 1 w v9 lp11 := h10
  replace hR12 : Recs secret_record.O 2 ρ 1 w lp11 ok_0.users := hR12
  refine ke_seq ?_
  refine ke_region ?_
  refine sr_ev (v := .bool (decide (t_15 < t_14))) (ev_lt rfl rfl) (by decide) ?_
  refine sr_end (l' := [(0, .pointer (some ⟨gk_0, 0, none⟩)), (2, .int .i64 now_2), (7, .int .i64 n_7), (13, vt_13), (14, .int .i64 t_14), (15, .int .i64 t_15), (16, .bool (decide (t_15 < t_14)))]) (.cons rfl (.cons rfl (.cons rfl (.cons rfl (.cons rfl (.cons rfl (.cons rfl (.nil _)))))))) ?_
  refine ke_seq ?_
  refine ke_cond (t := decide (t_15 < t_14)) rfl (fun hc14 => ?_) (fun hc14 => ?_)
  ·replace hS := ite_true' hS hc14
   refine ke_skip ?_
   refine ke_seq ?_
   refine ke_block ?_
   refine ke_seq ?_
   refine ke_region ?_
   obtain ⟨y15, hy16, hS⟩ := bind_some' hS
   obtain ⟨b17, o18, cs20, hq21, he19⟩ := (ht_13.sl).elem (P := Tryz.prog) Tryz.underlying135 Tryz.info3 rfl hy16
   obtain rfl : cs20 = [.int .i64 y15] := he19.rd
   refine sr_ev (v := .pointer (some ⟨b17, o18, none⟩)) (hq21 w rfl rfl) (by decide) ?_
   refine sr_ev (v := .int .i64 y15) (ev_load Tryz.isAgg3 rfl (he19.cell 0 _ rfl)) (by decide) ?_
   refine sr_ev (v := .int .i64 y15) (ev_assign rfl) (by decide) ?_
   refine sr_end (l' := [(0, .pointer (some ⟨gk_0, 0, none⟩)), (2, .int .i64 now_2), (7, .int .i64 n_7), (9, .int .i64 y15), (13, vt_13), (14, .int .i64 t_14), (15, .int .i64 t_15)]) (.cons rfl (.cons rfl (.cons rfl (.cons rfl (.cons rfl (.cons rfl (.cons rfl (.nil _)))))))) ?_
   refine ke_seq ?_
   refine ke_region ?_
   refine sr_ev (v := .int .i64 y15) (ev_move rfl) (by decide) ?_
   refine sr_ev (v := .int .i64 now_2) (ev_move rfl) (by decide) ?_
   refine sr_ev (v := .bool (decide (y15 ≤ now_2))) (ev_le rfl rfl) (by decide) ?_
   refine sr_ev (v := .bool (decide (y15 ≤ now_2))) (ev_move rfl) (by decide) ?_
   refine sr_join (m := 9) (C := fun (x : Bool) w1 => x = ((decide (y15 ≤ now_2)) && (decide ((IntKind.i64.wrap (now_2 - y15)) < ok_0.window))) ∧ w = w1) (l' := fun x => [(0, .pointer (some ⟨gk_0, 0, none⟩)), (2, .int .i64 now_2), (7, .int .i64 n_7), (13, vt_13), (14, .int .i64 t_14), (15, .int .i64 t_15), (31, .bool x)]) ?_ ?_
   ·rintro _ _ ⟨rfl, rfl⟩
    refine sr_end (l' := [(0, .pointer (some ⟨gk_0, 0, none⟩)), (2, .int .i64 now_2), (7, .int .i64 n_7), (13, vt_13), (14, .int .i64 t_14), (15, .int .i64 t_15), (31, .bool ((decide (y15 ≤ now_2)) && (decide ((IntKind.i64.wrap (now_2 - y15)) < ok_0.window))))]) (.cons rfl (.cons rfl (.cons rfl (.cons rfl (.cons rfl (.cons rfl (.cons rfl (.nil _)))))))) ?_
    refine ke_cond (t := (decide (y15 ≤ now_2)) && (decide ((IntKind.i64.wrap (now_2 - y15)) < ok_0.window))) rfl (fun hc30 => ?_) (fun hc30 => ?_)
    ·replace hS := ite_true' hS hc30
     refine ke_region ?_
     refine sr_ev (v := .int .i64 n_7) (ev_move rfl) (by decide) ?_
     refine sr_ev (v := .int .i64 (IntKind.i64.wrap (n_7 + 1))) (ev_add rfl rfl) (by decide) ?_
     refine sr_ev (v := .int .i64 (IntKind.i64.wrap (n_7 + 1))) (ev_assign rfl) (by decide) ?_
     refine sr_end (l' := [(0, .pointer (some ⟨gk_0, 0, none⟩)), (2, .int .i64 now_2), (7, .int .i64 (IntKind.i64.wrap (n_7 + 1))), (13, vt_13), (14, .int .i64 t_14), (15, .int .i64 t_15)]) (.cons rfl (.cons rfl (.cons rfl (.cons rfl (.cons rfl (.cons rfl (.nil _))))))) ?_
     have hK := secret_Locks_count_B2_ok hg hbd hz _ hr0 hS hb ⟨_, _, hB13, h10, hR12⟩ ht_13
     exact ke_weaken (l' := [(0, .pointer (some ⟨gk_0, 0, none⟩)), (2, .int .i64 now_2), (7, .int .i64 (IntKind.i64.wrap (n_7 + 1))), (13, vt_13), (14, .int .i64 t_14), (15, .int .i64 t_15)]) (.cons rfl (.cons rfl (.cons rfl (.cons rfl (.cons rfl (.cons rfl (.nil _))))))) hK
    ·replace hS := ite_false' hS hc30
     refine ke_skip ?_
     have hK := secret_Locks_count_B2_ok hg hbd hz _ hr0 hS hb ⟨_, _, hB13, h10, hR12⟩ ht_13
     exact ke_weaken (l' := [(0, .pointer (some ⟨gk_0, 0, none⟩)), (2, .int .i64 now_2), (7, .int .i64 n_7), (13, vt_13), (14, .int .i64 t_14), (15, .int .i64 t_15)]) (.cons rfl (.cons rfl (.cons rfl (.cons rfl (.cons rfl (.cons rfl (.nil _))))))) hK
   ·intro K23
    rcases Bool.eq_false_or_eq_true (decide (y15 ≤ now_2)) with hg22 | hg22
    all_goals try have hj25 : Tr ρ w (fun _ => false) ρ w := Tr.refl hb.bd
    ·refine sr_evg (b := true) (e := 22) rfl rfl hg22 (v := .int .i64 now_2) (ev_move rfl) (by decide) ?_
     refine sr_evg (b := true) (e := 22) rfl rfl hg22 (v := .int .i64 y15) (ev_move rfl) (by decide) ?_
     refine sr_evg (b := true) (e := 22) rfl rfl hg22 (v := .int .i64 (IntKind.i64.wrap (now_2 - y15))) (ev_sub rfl rfl) (by decide) ?_
     refine sr_evg (b := true) (e := 22) rfl rfl hg22 (v := .pointer (some ⟨gk_0, 0, none⟩)) (ev_move rfl) (by decide) ?_
     refine sr_evg (b := true) (e := 22) rfl rfl hg22 (v := .pointer (some ⟨gk_0, 0, none⟩)) (ev_nilCheck rfl) (by decide) ?_
     refine sr_evg (b := true) (e := 22) rfl rfl hg22 (v := .pointer (some ⟨gk_0, 1, none⟩)) (ev_fieldAddr (i := 1) Tryz.underlying134 rfl Tryz.info3 rfl rfl) (by decide) ?_
     refine sr_evg (b := true) (e := 22) rfl rfl hg22 (v := .int .i64 ok_0.window) (ev_load Tryz.isAgg3 rfl (hB13.cell rfl)) (by decide) ?_
     refine sr_evg (b := true) (e := 22) rfl rfl hg22 (v := .bool (decide ((IntKind.i64.wrap (now_2 - y15)) < ok_0.window))) (ev_lt rfl rfl) (by decide) ?_
     refine sr_ev (v := .bool (decide ((IntKind.i64.wrap (now_2 - y15)) < ok_0.window))) (ev_pick_t rfl hg22 rfl) (by decide) ?_
     exact sr_weaken (l' := [(0, .pointer (some ⟨gk_0, 0, none⟩)), (2, .int .i64 now_2), (7, .int .i64 n_7), (13, vt_13), (14, .int .i64 t_14), (15, .int .i64 t_15), (31, .bool (decide ((IntKind.i64.wrap (now_2 - y15)) < ok_0.window)))]) (.cons rfl (.cons rfl (.cons rfl (.cons rfl (.cons rfl (.cons rfl (.cons rfl (.nil _)))))))) (K23 (decide ((IntKind.i64.wrap (now_2 - y15)) < ok_0.window)) _ ⟨by first | (rw [hg22]; rfl) | rfl, rfl⟩)
    ·refine sr_pass (e := 22) rfl rfl (by rw [hg22]; rfl) (by decide) ?_
     refine sr_pass (e := 22) rfl rfl (by rw [hg22]; rfl) (by decide) ?_
     refine sr_pass (e := 22) rfl rfl (by rw [hg22]; rfl) (by decide) ?_
     refine sr_pass (e := 22) rfl rfl (by rw [hg22]; rfl) (by decide) ?_
     refine sr_pass (e := 22) rfl rfl (by rw [hg22]; rfl) (by decide) ?_
     refine sr_pass (e := 22) rfl rfl (by rw [hg22]; rfl) (by decide) ?_
     refine sr_pass (e := 22) rfl rfl (by rw [hg22]; rfl) (by decide) ?_
     refine sr_pass (e := 22) rfl rfl (by rw [hg22]; rfl) (by decide) ?_
     refine sr_ev (v := .bool false) (ev_pick_f rfl hg22 rfl) (by decide) ?_
     exact sr_weaken (l' := [(0, .pointer (some ⟨gk_0, 0, none⟩)), (2, .int .i64 now_2), (7, .int .i64 n_7), (13, vt_13), (14, .int .i64 t_14), (15, .int .i64 t_15), (31, .bool false)]) (.cons rfl (.cons rfl (.cons rfl (.cons rfl (.cons rfl (.cons rfl (.cons rfl (.nil _)))))))) (K23 false _ ⟨by first | (rw [hg22]; rfl) | rfl, rfl⟩)
  ·replace hS := ite_false' hS hc14
   refine ke_exit (k' := _) rfl ?_
   refine ke_seq ?_
   refine ke_region ?_
   refine sr_ev (v := .int .i64 n_7) (ev_move rfl) (by decide) ?_
   refine sr_ev (v := .int .i64 n_7) (ev_assign rfl) (by decide) ?_
   refine sr_end (l' := [(6, .int .i64 n_7)]) (.cons rfl (.nil _)) ?_
   cases hS
   exact ke_ret1 Tryz.func117 rfl rfl ⟨_, rfl, rfl, (hb.below (flat1_le _))⟩
theorem secret_Locks_count_ok (w0 : World) (hg : Gs w0) {ρA : Tags} (hbd : ∀ b, ρA b ≠ 0 → b < w0.heap.size) (hz : Gz ρA) {τ0 : Nat → Nat} (hτ0 : ∀ p, 1 ≤ τ0 p) {τ1 : Nat → Nat} (hτ1 : ∀ p, 1 ≤ τ1 p) {k_0 : secret_Locks} {r_1 : secret_record} {now_2 : Int} {gk_0 : Nat} {gr_1 : Nat} {r : Int} (ho0 : secret_Locks.O τ0 ρA w0 gk_0 k_0) (ho1 : secret_record.O τ1 ρA w0 gr_1 r_1) (hS : secret_Locks_count k_0 r_1 now_2 = some r) :
  Calls Tryz.prog 117 #[.pointer (some ⟨gk_0, 0, none⟩), .pointer (some ⟨gr_1, 0, none⟩), .int .i64 now_2] w0 (Ret (fun v w' => v = .int .i64 r ∧ Below w0.heap.size w0 w')) := by
 unfold secret_Locks_count at hS
 have hb := flat1_fr (ρ := ρA) (w := w0) hbd
 have hz := hz.flat1
 obtain ⟨v1, lp3, hB5, h2, hR4⟩ := ho0
 replace hB5 := hB5.mv (flat1_mv (hτ0 0))
 replace h2 := h2.mv (flat1_mv (hτ0 1))
 replace hR4 := Recs.mv hR4 secret_record.objK (flat1_mv (hτ0 2)) (by decide)
 replace hB5 : Blk (flat1 ρA) 1 w0 gk_0 (.cells #[.int .i64 k_0.most, .int .i64 k_0.window, .int .i64 k_0.lock, v1] 134 (0, 0)) := hB5
 replace h2 : MapT str ptrC false (flat1 ρA) 1 w0 v1 lp3 := h2
 replace hR4 : Recs secret_record.O 2 (flat1 ρA) 1 w0 lp3 k_0.users := hR4
 obtain ⟨v6, hB8, h7⟩ := ho1
 replace hB8 := hB8.mv (flat1_mv (hτ1 0))
 replace h7 := h7.mv (flat1_mv (hτ1 1)) (by decide)
 replace hB8 : Blk (flat1 ρA) 1 w0 gr_1 (.cells #[v6, .int .i64 r_1.until_] 137 (0, 0)) := hB8
 replace h7 : OffT (intC .i64) 3 (flat1 ρA) 1 w0 v6 r_1.times := h7
 refine calls_of_ke Tryz.func117 rfl (n := 36) rfl rfl (l := [(0, .pointer (some ⟨gk_0, 0, none⟩)), (1, .pointer (some ⟨gr_1, 0, none⟩)), (2, .int .i64 now_2)]) rfl ?_
 refine ke_seq ?_
 refine ke_region ?_
 refine sr_ev (v := .int .i64 0) (ev_assign rfl) (by decide) ?_
 refine sr_end (l' := [(0, .pointer (some ⟨gk_0, 0, none⟩)), (1, .pointer (some ⟨gr_1, 0, none⟩)), (2, .int .i64 now_2)]) (.cons rfl (.cons rfl (.cons rfl (.nil _)))) ?_
 refine ke_seq ?_
 refine ke_region ?_
 refine sr_ev (v := .int .i64 0) (ev_assign rfl) (by decide) ?_
 refine sr_end (l' := [(0, .pointer (some ⟨gk_0, 0, none⟩)), (1, .pointer (some ⟨gr_1, 0, none⟩)), (2, .int .i64 now_2), (7, .int .i64 0)]) (.cons rfl (.cons rfl (.cons rfl (.cons rfl (.nil _))))) ?_
 refine ke_seq ?_
 refine ke_seq ?_
 refine ke_region ?_
 refine sr_ev (v := .pointer (some ⟨gr_1, 0, none⟩)) (ev_move rfl) (by decide) ?_
 refine sr_ev (v := .pointer (some ⟨gr_1, 0, none⟩)) (ev_nilCheck rfl) (by decide) ?_
 refine sr_ev (v := .pointer (some ⟨gr_1, 0, none⟩)) (ev_fieldAddr (i := 0) Tryz.underlying137 rfl Tryz.info135 rfl rfl) (by decide) ?_
 refine sr_ev (v := v6) (ev_load Tryz.isAgg135 rfl (hB8.cell rfl)) (by decide) ?_
 refine sr_ev (v := .int .i64 (r_1.times.length : Int)) (ev_sllenW Tryz.underlying135 rfl h7.asSl) (by decide) ?_
 refine sr_ev (v := .int .i64 0) (ev_move rfl) (by decide) ?_
 refine sr_end (l' := [(0, .pointer (some ⟨gk_0, 0, none⟩)), (2, .int .i64 now_2), (7, .int .i64 0), (13, v6), (14, .int .i64 (r_1.times.length : Int)), (15, .int .i64 0)]) (.cons rfl (.cons rfl (.cons rfl (.cons rfl (.cons rfl (.cons rfl (.nil _))))))) ?_
 refine ke_block ?_
 have hK := secret_Locks_count_L1_ok hg hbd hz _ hS hb ⟨_, _, hB5, h2, hR4⟩ h7
 exact ke_weaken (l' := [(0, .pointer (some ⟨gk_0, 0, none⟩)), (2, .int .i64 now_2), (7, .int .i64 0), (13, v6), (14, .int .i64 (r_1.times.length : Int)), (15, .int .i64 0)]) (.cons rfl (.cons rfl (.cons rfl (.cons rfl (.cons rfl (.cons rfl (.nil _))))))) (ke_loop hK)
theorem secret_Locks_Fail_B2_ok {w0 : World} (hg : Gs w0) {ρA : Tags} (hbd : ∀ b, ρA b ≠ 0 → b < w0.heap.size) {o : Nat} (ho2 : 2 ≤ o) {gk_0 : Nat} (hz : Gz (enter ρA o 3)) {r : secret_Locks} {ok_0 : secret_Locks} {t_7 : Int} {locked_8 : Bool} {r_6k : Str} {v79 : Value} {lp81 : GMap Str (Option Nat)} {vr_6 : Value} (hS : secret_Locks_Fail_B2 ok_0 t_7 locked_8 r_6k = some r) {ρ : Tags} {w : World} (hb : Fr (enter ρA o 3) w0 ρ w) (hBk_0 : Blk ρ 100 w gk_0 (.cells #[.int .i64 ok_0.most, .int .i64 ok_0.window, .int .i64 ok_0.lock, v79] 134 (0, 0))) (h80 : MapT str ptrC false ρ 101 w v79 lp81) (hR82 : Recs secret_record.O 2 ρ 102 w lp81 ok_0.users) (hpr_6 : vr_6 = pval (mgetD lp81 r_6k none)) :
  KE Tryz.prog 90 (Ret (fun v w' => ∃ ρ', v = .tuple #[] ∧ secret_Locks.O (fun p => o + p) ρ' w' gk_0 r ∧ Tr ρA w0 (rng o 3) ρ' w')) 103 [.code (sub (bodyOf Tryz.f90) [2, 2, 2, 2, 2, 2, 2])] [(0, .pointer (some ⟨gk_0, 0, none⟩)), (6, vr_6), (7, .int .i64 t_7), (8, .bool locked_8)] w := by
 unfold secret_Locks_Fail_B2 at hS
 refine ke_seq ?_
 refine ke_region_q Tryz.mixed (by kernel_rfl) ?_
 refine sq_ev (v := .bool locked_8) (fun w1 hw1 => ev_move rfl) (by decide) ?_
 refine sq_ev (v := .bool locked_8) (fun w1 hw1 => ev_move rfl) (by decide) ?_
 obtain ⟨z88, hz90, hS⟩ := bind_some' hS
 refine sq_join (m := 10) (C := fun (x : Bool) => z88 = x) (l' := fun x => [(0, .pointer (some ⟨gk_0, 0, none⟩)), (6, vr_6), (7, .int .i64 t_7), (88, .bool x)]) ?_ ?_
 ·rintro _ rfl
  refine sq_end (l' := [(0, .pointer (some ⟨gk_0, 0, none⟩)), (6, vr_6), (7, .int .i64 t_7), (88, .bool z88)]) (.cons rfl (.cons rfl (.cons rfl (.cons rfl (.nil _))))) (fun w85 hw84 => ?_)
  have htr105 := Tr.of_below hw84 hb.bd
  replace hBk_0 := hBk_0.mv (htr105.mv (i := 100) rfl)
  replace h80 := h80.mv (htr105.mv (i := 101) rfl)
  replace hR82 := Recs.mv hR82 secret_record.objK (htr105.mv (i := 102) rfl) (by decide)
  replace hb := hb.trans htr105
  refine ke_cond (t := z88) rfl (fun hc106 => ?_) (fun hc106 => ?_)
  ·replace hS := ite_true' hS hc106
   obtain ⟨y107, hy108, hS⟩ := bind_some' hS
   obtain ⟨g109, ρ111, hfb112, hvb110, ⟨v115, hB117, h116⟩, hR113, htr114⟩ := Recs.openX hR82 secret_record.objK 200 (by decide) (by decide) (by decide) hb.bd hy108
   obtain rfl := hpr_6.trans hvb110
   replace hBk_0 := hBk_0.mv (htr114.mv (i := 100) rfl)
   replace h80 := h80.mv (htr114.mv (i := 101) rfl)
   replace hb := hb.trans htr114
   replace hB117 : Blk ρ111 200 w85 g109 (.cells #[v115, .int .i64 y107.until_] 137 (0, 0)) := hB117
   replace h116 : OffT (intC .i64) 3 ρ111 201 w85 v115 y107.times := h116
   refine ke_region_j (ρ := ρ111) (fun t => ([200] : List Nat).contains t) 15 Tryz.mixed (fun w119 hw118 => ?_)
   have htr120 := Tr.of_below hw118 hb.bd
   replace hB117 := hB117.mv (htr120.mv (i := 200) rfl)
   replace h116 := h116.mv (htr120.mv (i := 201) rfl) (by decide)
   replace hBk_0 := hBk_0.mv (htr120.mv (i := 100) rfl)
   replace h80 := h80.mv (htr120.mv (i := 101) rfl)
   replace hR113 := RecsH.mv hR113 secret_record.objK (htr120.mv (i := 102) rfl) (by decide)
   replace hb := hb.trans htr120
   refine dj_h 0 (.pointer (some ⟨g109, 0, none⟩)) hb.bd rfl (fun w1 ρ1 hw1 => ev_move rfl) ?_
   refine dj_h 1 (.pointer (some ⟨g109, 0, none⟩)) hb.bd rfl (fun w1 ρ1 hw1 => ev_move rfl) ?_
   refine dj_h 2 (.pointer (some ⟨g109, 0, none⟩)) hb.bd rfl (fun w1 ρ1 hw1 => ev_nilCheck rfl) ?_
   refine dj_h 3 (.pointer (some ⟨g109, 1, none⟩)) hb.bd rfl (fun w1 ρ1 hw1 => ev_fieldAddr (i := 1) Tryz.underlying137 rfl Tryz.info3 rfl rfl) ?_
   refine dj_h 5 (.int .i64 t_7) hb.bd rfl (fun w1 ρ1 hw1 => ev_move rfl) ?_
   refine dj_h 6 (.pointer (some ⟨gk_0, 0, none⟩)) hb.bd rfl (fun w1 ρ1 hw1 => ev_move rfl) ?_
   refine dj_h 7 (.pointer (some ⟨gk_0, 0, none⟩)) hb.bd rfl (fun w1 ρ1 hw1 => ev_nilCheck rfl) ?_
   refine dj_h 8 (.pointer (some ⟨gk_0, 2, none⟩)) hb.bd rfl (fun w1 ρ1 hw1 => ev_fieldAddr (i := 2) Tryz.underlying134 rfl Tryz.info3 rfl rfl) ?_
   refine dj_h 9 (.int .i64 ok_0.lock) hb.bd rfl (fun w1 ρ1 hw1 => ev_load Tryz.isAgg3 rfl ((hBk_0.mv (hw1.mv (i := 100) rfl)).cell rfl)) ?_
   obtain ⟨y153, hy154, hS⟩ := bind_some' hS
   refine dj_all [4, 10] (by kernel_rfl) (fun i hi => ?_)
   simp only [List.mem_cons, List.not_mem_nil, or_false] at hi
   rcases hi with rfl | rfl
   ·refine ⟨_, rfl, ?_⟩
    have jt161 : Tr ρ111 w119 (fun t => ([200] : List Nat).contains t) ρ111 w119 := (Tr.refl hb.bd).weak (fun _ _ => rfl) rfl rfl
    refine sr_ev (v := .int .i64 y107.until_) (ev_load Tryz.isAgg3 rfl (hB117.cell rfl)) (by decide) ?_
    refine dj_next (l' := [(89, .pointer (some ⟨g109, 0, none⟩)), (93, .int .i64 y107.until_), (94, .int .i64 t_7), (98, .int .i64 ok_0.lock)]) rfl (.cons rfl (.cons rfl (.cons rfl (.cons rfl (.nil _))))) jt161 (by intro t h; simp [rng] at h ⊢ <;> omega) rfl rfl ?_
    refine dj_E 10 (by kernel_rfl) rfl ?_
    have jt162 : Tr ρ111 w119 (fun t => ([200] : List Nat).contains t) ρ111 w119 := (Tr.refl hb.bd).weak (fun _ _ => rfl) rfl rfl
    refine sr_call (vs := [.int .i64 t_7, .int .i64 ok_0.lock]) rfl Tryz.call39 rfl (clock_Add_ok _ (hg.fr hz hb) hy154) (by decide) ?_
    rintro _ w165 ⟨rfl, hbw166⟩
    have htr167 := Tr.of_below hbw166 hb.bd
    replace hB117 := hB117.mv (htr167.mv (i := 200) rfl)
    replace h116 := h116.mv (htr167.mv (i := 201) rfl) (by decide)
    replace hBk_0 := hBk_0.mv (htr167.mv (i := 100) rfl)
    replace h80 := h80.mv (htr167.mv (i := 101) rfl)
    replace hR113 := RecsH.mv hR113 secret_record.objK (htr167.mv (i := 102) rfl) (by decide)
    replace hb := hb.trans htr167
    replace jt162 := (jt162.trans htr167).weak (J' := (fun t => ([200] : List Nat).contains t)) (by intro t h; simp [rng] at h ⊢ <;> omega) rfl rfl
    refine dj_next (l' := [(89, .pointer (some ⟨g109, 0, none⟩)), (93, .int .i64 y107.until_), (99, .int .i64 y153)]) rfl (.cons rfl (.cons rfl (.cons rfl (.nil _)))) jt162 (by intro t h; simp [rng] at h ⊢ <;> omega) rfl rfl ?_
    refine dj_h 11 (.int .i64 (gmax y107.until_ y153)) hb.bd rfl (fun w1 ρ1 hw1 => ev_max rfl rfl) ?_
    refine dj_h 12 (.pointer (some ⟨g109, 0, none⟩)) hb.bd rfl (fun w1 ρ1 hw1 => ev_nilCheck rfl) ?_
    refine dj_h 13 (.pointer (some ⟨g109, 1, none⟩)) hb.bd rfl (fun w1 ρ1 hw1 => ev_fieldAddr (i := 1) Tryz.underlying137 rfl Tryz.info3 rfl rfl) ?_
    refine dj_E 14 (by kernel_rfl) rfl ?_
    have jt168 : Tr ρ111 w165 (fun t => ([200] : List Nat).contains t) ρ111 w165 := (Tr.refl hb.bd).weak (fun _ _ => rfl) rfl rfl
    refine sr_storeT (v := .int .i64 (gmax y107.until_ y153)) (vs := [.int .i64 (gmax y107.until_ y153)]) (cs' := #[v115, .int .i64 (gmax y107.until_ y153)]) hB117 (by decide) hb.bd rfl rfl rfl Tryz.sizeOf3 rfl rfl rfl ?_
    intro w169 hB1171 htr170
    replace h116 := h116.mv (htr170.mv (i := 201) rfl) (by decide)
    replace hBk_0 := hBk_0.mv (htr170.mv (i := 100) rfl)
    replace h80 := h80.mv (htr170.mv (i := 101) rfl)
    replace hR113 := RecsH.mv hR113 secret_record.objK (htr170.mv (i := 102) rfl) (by decide)
    replace hb := hb.trans htr170
    replace jt168 := (jt168.trans htr170).weak (J' := (fun t => ([200] : List Nat).contains t)) (by intro t h; simp [rng] at h ⊢ <;> omega) rfl rfl
    replace hB117 : Blk ρ111 200 w169 g109 (.cells #[v115, .int .i64 (gmax y107.until_ y153)] 137 (0, 0)) := hB1171
    clear hB1171
    refine dj_next (l' := []) rfl (.nil _) jt168 (by intro t h; simp [rng] at h ⊢ <;> omega) rfl rfl ?_
    refine dj_done rfl (by kernel_rfl) ?_
    refine ke_weaken (l' := []) (.nil _) ?_
    obtain ⟨hR171, htr172⟩ := RecsH.close hR113 secret_record.objK 200 (by decide) (by decide) (by decide) hb.bd hfb112 (x := (secret_record.mk y107.times (gmax y107.until_ y153))) ⟨_, hB117, h116⟩
    replace hBk_0 := hBk_0.mv (htr172.mv (i := 100) rfl)
    replace h80 := h80.mv (htr172.mv (i := 101) rfl)
    replace hb := hb.trans htr172
    cases hS
    exact ke_end0 Tryz.func90 rfl ⟨_, rfl, leave ρA w0 o 3 (closeTags ρ111 2 102 200), rfl, ⟨_, _, (hBk_0.mv (leave_mv (p := 0) (by decide) hb)), (h80.mv (leave_mv (p := 1) (by decide) hb)), (Recs.mv hR171 secret_record.objK (leave_mv (p := 2) (by decide) hb) (Nat.ne_of_gt (Nat.lt_of_lt_of_le (Nat.lt_of_lt_of_le Nat.zero_lt_two ho2) (Nat.le_add_right _ _))))⟩, (leave_tr ho2 hb)⟩
   ·refine ⟨_, rfl, ?_⟩
    have jt173 : Tr ρ111 w119 (fun t => ([200] : List Nat).contains t) ρ111 w119 := (Tr.refl hb.bd).weak (fun _ _ => rfl) rfl rfl
    refine sr_call (vs := [.int .i64 t_7, .int .i64 ok_0.lock]) rfl Tryz.call39 rfl (clock_Add_ok _ (hg.fr hz hb) hy154) (by decide) ?_
    rintro _ w176 ⟨rfl, hbw177⟩
    have htr178 := Tr.of_below hbw177 hb.bd
    replace hB117 := hB117.mv (htr178.mv (i := 200) rfl)
    replace h116 := h116.mv (htr178.mv (i := 201) rfl) (by decide)
    replace hBk_0 := hBk_0.mv (htr178.mv (i := 100) rfl)
    replace h80 := h80.mv (htr178.mv (i := 101) rfl)
    replace hR113 := RecsH.mv hR113 secret_record.objK (htr178.mv (i := 102) rfl) (by decide)
    replace hb := hb.trans htr178
    replace jt173 := (jt173.trans htr178).weak (J' := (fun t => ([200] : List Nat).contains t)) (by intro t h; simp [rng] at h ⊢ <;> omega) rfl rfl
    refine dj_next (l' := [(89, .pointer (some ⟨g109, 0, none⟩)), (92, .pointer (some ⟨g109, 1, none⟩)), (99, .int .i64 y153)]) rfl (.cons rfl (.cons rfl (.cons rfl (.nil _)))) jt173 (by intro t h; simp [rng] at h ⊢ <;> omega) rfl rfl ?_
    refine dj_E 4 (by kernel_rfl) rfl ?_
    have jt179 : Tr ρ111 w176 (fun t => ([200] : List Nat).contains t) ρ111 w176 := (Tr.refl hb.bd).weak (fun _ _ => rfl) rfl rfl
    refine sr_ev (v := .int .i64 y107.until_) (ev_load Tryz.isAgg3 rfl (hB117.cell rfl)) (by decide) ?_
    refine dj_next (l' := [(89, .pointer (some ⟨g109, 0, none⟩)), (93, .int .i64 y107.until_), (99, .int .i64 y153)]) rfl (.cons rfl (.cons rfl (.cons rfl (.nil _)))) jt179 (by intro t h; simp [rng] at h ⊢ <;> omega) rfl rfl ?_
    refine dj_h 11 (.int .i64 (gmax y107.until_ y153)) hb.bd rfl (fun w1 ρ1 hw1 => ev_max rfl rfl) ?_
    refine dj_h 12 (.pointer (some ⟨g109, 0, none⟩)) hb.bd rfl (fun w1 ρ1 hw1 => ev_nilCheck rfl) ?_
    refine dj_h 13 (.pointer (some ⟨g109, 1, none⟩)) hb.bd rfl (fun w1 ρ1 hw1 => ev_fieldAddr (i := 1) Tryz.underlying137 rfl Tryz.info3 rfl rfl) ?_
    refine dj_E 14 (by kernel_rfl) rfl ?_
    have jt180 : Tr ρ111 w176 (fun t => ([200] : List Nat).contains t) ρ111 w176 := (Tr.refl hb.bd).weak (fun _ _ => rfl) rfl rfl
    refine sr_storeT (v := .int .i64 (gmax y107.until_ y153)) (vs := [.int .i64 (gmax y107.until_ y153)]) (cs' := #[v115, .int .i64 (gmax y107.until_ y153)]) hB117 (by decide) hb.bd rfl rfl rfl Tryz.sizeOf3 rfl rfl rfl ?_
    intro w181 hB1171 htr182
    replace h116 := h116.mv (htr182.mv (i := 201) rfl) (by decide)
    replace hBk_0 := hBk_0.mv (htr182.mv (i := 100) rfl)
    replace h80 := h80.mv (htr182.mv (i := 101) rfl)
    replace hR113 := RecsH.mv hR113 secret_record.objK (htr182.mv (i := 102) rfl) (by decide)
    replace hb := hb.trans htr182
    replace jt180 := (jt180.trans htr182).weak (J' := (fun t => ([200] : List Nat).contains t)) (by intro t h; simp [rng] at h ⊢ <;> omega) rfl rfl
    replace hB117 : Blk ρ111 200 w181 g109 (.cells #[v115, .int .i64 (gmax y107.until_ y153)] 137 (0, 0)) := hB1171
    clear hB1171
    refine dj_next (l' := []) rfl (.nil _) jt180 (by intro t h; simp [rng] at h ⊢ <;> omega) rfl rfl ?_
    refine dj_done rfl (by kernel_rfl) ?_
    refine ke_weaken (l' := []) (.nil _) ?_
    obtain ⟨hR183, htr184⟩ := RecsH.close hR113 secret_record.objK 200 (by decide) (by decide) (by decide) hb.bd hfb112 (x := (secret_record.mk y107.times (gmax y107.until_ y153))) ⟨_, hB117, h116⟩
    replace hBk_0 := hBk_0.mv (htr184.mv (i := 100) rfl)
    replace h80 := h80.mv (htr184.mv (i := 101) rfl)
    replace hb := hb.trans htr184
    cases hS
    exact ke_end0 Tryz.func90 rfl ⟨_, rfl, leave ρA w0 o 3 (closeTags ρ111 2 102 200), rfl, ⟨_, _, (hBk_0.mv (leave_mv (p := 0) (by decide) hb)), (h80.mv (leave_mv (p := 1) (by decide) hb)), (Recs.mv hR183 secret_record.objK (leave_mv (p := 2) (by decide) hb) (Nat.ne_of_gt (Nat.lt_of_lt_of_le (Nat.lt_of_lt_of_le Nat.zero_lt_two ho2) (Nat.le_add_right _ _))))⟩, (leave_tr ho2 hb)⟩
  ·replace hS := ite_false' hS hc106
   refine ke_skip ?_
   cases hS
   exact ke_end0 Tryz.func90 rfl ⟨_, rfl, leave ρA w0 o 3 ρ, rfl, ⟨_, _, (hBk_0.mv (leave_mv (p := 0) (by decide) hb)), (h80.mv (leave_mv (p := 1) (by decide) hb)), (Recs.mv hR82 secret_record.objK (leave_mv (p := 2) (by decide) hb) (Nat.ne_of_gt (Nat.lt_of_lt_of_le (Nat.lt_of_lt_of_le Nat.zero_lt_two ho2) (Nat.le_add_right _ _))))⟩, (leave_tr ho2 hb)⟩
 ·intro K87
  clear hS
  rcases Bool.eq_false_or_eq_true locked_8 with hg86 | hg86
  ·have hS := ite_true' hz90 hg86
   refine sq_pass (e := 78) rfl rfl (by rw [hg86]; rfl) (by decide) ?_
   refine sq_pass (e := 78) rfl rfl (by rw [hg86]; rfl) (by decide) ?_
   refine sq_pass (e := 78) rfl rfl (by rw [hg86]; rfl) (by decide) ?_
   refine sq_pass (e := 78) rfl rfl (by rw [hg86]; rfl) (by decide) ?_
   refine sq_pass (e := 78) rfl rfl (by rw [hg86]; rfl) (by decide) ?_
   refine sq_pass (e := 78) rfl rfl (by rw [hg86]; rfl) (by decide) ?_
   refine sq_pass (e := 78) rfl rfl (by rw [hg86]; rfl) (by decide) ?_
   refine sq_pass (e := 78) rfl rfl (by rw [hg86]; rfl) (by decide) ?_
   refine sq_pass (e := 78) rfl rfl (by rw [hg86]; rfl) (by decide) ?_
   refine sq_ev (v := .bool true) (fun w1 hw1 => ev_pick_t rfl hg86 rfl) (by decide) ?_
   exact sq_weaken (l' := [(0, .pointer (some ⟨gk_0, 0, none⟩)), (6, vr_6), (7, .int .i64 t_7), (88, .bool true)]) (.cons rfl (.cons rfl (.cons rfl (.cons rfl (.nil _))))) (K87 true (Option.some.inj hS).symm)
  ·have hS := ite_false' hz90 hg86
   refine sq_evg (b := false) (e := 78) rfl rfl hg86 (v := .pointer (some ⟨gk_0, 0, none⟩)) (fun w1 hw1 => ev_move rfl) (by decide) ?_
   refine sq_evg (b := false) (e := 78) rfl rfl hg86 (v := vr_6) (fun w1 hw1 => ev_move rfl) (by decide) ?_
   refine sq_evg (b := false) (e := 78) rfl rfl hg86 (v := .int .i64 t_7) (fun w1 hw1 => ev_move rfl) (by decide) ?_
   obtain ⟨y93, hy94, hS⟩ := bind_some' hS
   obtain ⟨g95, hvb96, ⟨v97, hB99, h98⟩⟩ := Recs.peekX hR82 secret_record.objK (by decide) hy94
   obtain rfl := hpr_6.trans hvb96
   replace hB99 : Blk ρ 102 w g95 (.cells #[v97, .int .i64 y93.until_] 137 (0, 0)) := hB99
   replace h98 : OffT (intC .i64) 3 ρ 102 w v97 y93.times := h98
   obtain ⟨y100, hy101, hS⟩ := bind_some' hS
   refine sq_callg (b := false) (e := 78) rfl rfl hg86 (v := .int .i64 y100) (vs := [.pointer (some ⟨gk_0, 0, none⟩), .pointer (some ⟨g95, 0, none⟩), .int .i64 t_7]) rfl Tryz.call117 rfl (fun w1 hw1 => (secret_Locks_count_ok _ ((hg.fr hz hb).below hw1) (ρA := ρ) (fun b h => Nat.lt_of_lt_of_le (hb.bd b h) hw1.size) (hz.fr hg hb) (τ0 := (fun p => 100 + p)) (fun p => Nat.le_add_right_of_le (by decide)) (τ1 := (fun _ => 102)) (fun _ => by decide) (⟨_, _, (hBk_0.mv (Mv.of_below (i := 100) (ρ := ρ) hw1)), (h80.mv (Mv.of_below (i := 101) (ρ := ρ) hw1)), (Recs.mv hR82 secret_record.objK (Mv.of_below (i := 102) (ρ := ρ) hw1) (by decide))⟩ : secret_Locks.O (fun p => 100 + p) ρ w1 gk_0 ok_0) (⟨_, (hB99.mv (Mv.of_below (i := 102) (ρ := ρ) hw1)), (h98.mv (Mv.of_below (i := 102) (ρ := ρ) hw1) (by decide))⟩ : secret_record.O (fun _ => 102) ρ w1 g95 y93) hy101)) (by decide) ?_
   refine sq_evg (b := false) (e := 78) rfl rfl hg86 (v := .pointer (some ⟨gk_0, 0, none⟩)) (fun w1 hw1 => ev_move rfl) (by decide) ?_
   refine sq_evg (b := false) (e := 78) rfl rfl hg86 (v := .pointer (some ⟨gk_0, 0, none⟩)) (fun w1 hw1 => ev_nilCheck rfl) (by decide) ?_
   refine sq_evg (b := false) (e := 78) rfl rfl hg86 (v := .pointer (some ⟨gk_0, 0, none⟩)) (fun w1 hw1 => ev_fieldAddr (i := 0) Tryz.underlying134 rfl Tryz.info3 rfl rfl) (by decide) ?_
   refine sq_evg (b := false) (e := 78) rfl rfl hg86 (v := .int .i64 ok_0.most) (fun w1 hw1 => ev_load Tryz.isAgg3 rfl ((hBk_0.mv (Mv.of_below (i := 100) (ρ := ρ) hw1)).cell rfl)) (by decide) ?_
   refine sq_evg (b := false) (e := 78) rfl rfl hg86 (v := .bool (decide (y100 ≥ ok_0.most))) (fun w1 hw1 => ev_ge rfl rfl) (by decide) ?_
   refine sq_ev (v := .bool (decide (y100 ≥ ok_0.most))) (fun w1 hw1 => ev_pick_f rfl hg86 rfl) (by decide) ?_
   exact sq_weaken (l' := [(0, .pointer (some ⟨gk_0, 0, none⟩)), (6, (.pointer (some ⟨g95, 0, none⟩))), (7, .int .i64 t_7), (88, .bool (decide (y100 ≥ ok_0.most)))]) (.cons rfl (.cons rfl (.cons rfl (.cons rfl (.nil _))))) (K87 (decide (y100 ≥ ok_0.most)) (Option.some.inj hS).symm)
theorem secret_Locks_Fail_B1_ok {w0 : World} (hg : Gs w0) {ρA : Tags} (hbd : ∀ b, ρA b ≠ 0 → b < w0.heap.size) {o : Nat} (ho2 : 2 ≤ o) {gk_0 : Nat} (hz : Gz (enter ρA o 3)) {r : secret_Locks} {ok_0 : secret_Locks} {now_2 : Int} {r_6k : Str} {v36 : Value} {lp38 : GMap Str (Option Nat)} {vr_6 : Value} (hS : secret_Locks_Fail_B1 ok_0 now_2 r_6k = some r) {ρ : Tags} {w : World} (hb : Fr (enter ρA o 3) w0 ρ w) (hBk_0 : Blk ρ 100 w gk_0 (.cells #[.int .i64 ok_0.most, .int .i64 ok_0.window, .int .i64 ok_0.lock, v36] 134 (0, 0))) (h37 : MapT str ptrC false ρ 101 w v36 lp38) (hR39 : Recs secret_record.O 2 ρ 102 w lp38 ok_0.users) (hpr_6 : vr_6 = pval (mgetD lp38 r_6k none)) :
  KE Tryz.prog 90 (Ret (fun v w' => ∃ ρ', v = .tuple #[] ∧ secret_Locks.O (fun p => o + p) ρ' w' gk_0 r ∧ Tr ρA w0 (rng o 3) ρ' w')) 103 [.code (sub (bodyOf Tryz.f90) [2, 2, 2])] [(0, .pointer (some ⟨gk_0, 0, none⟩)), (2, .int .i64 now_2), (6, vr_6)] w := by
 unfold secret_Locks_Fail_B1 at hS
 refine ke_seq ?_
 refine ke_region ?_
 refine sr_ev (v := .int .i64 now_2) (ev_move rfl) (by decide) ?_
 obtain ⟨y41, hy42, hS⟩ := bind_some' hS
 refine sr_call (vs := [.int .i64 now_2, .int .i64 0]) rfl Tryz.call39 rfl (clock_Add_ok _ (hg.fr hz hb) hy42) (by decide) ?_
 rintro _ w43 ⟨rfl, hbw44⟩
 have htr45 := Tr.of_below hbw44 hb.bd
 replace hBk_0 := hBk_0.mv (htr45.mv (i := 100) rfl)
 replace h37 := h37.mv (htr45.mv (i := 101) rfl)
 replace hR39 := Recs.mv hR39 secret_record.objK (htr45.mv (i := 102) rfl) (by decide)
 replace hb := hb.trans htr45
 refine sr_ev (v := .int .i64 y41) (ev_assign rfl) (by decide) ?_
 refine sr_end (l' := [(0, .pointer (some ⟨gk_0, 0, none⟩)), (6, vr_6), (7, .int .i64 y41)]) (.cons rfl (.cons rfl (.cons rfl (.nil _)))) ?_
 refine ke_seq ?_
 refine ke_region ?_
 refine sr_ev (v := .int .i64 y41) (ev_move rfl) (by decide) ?_
 refine sr_ev (v := vr_6) (ev_move rfl) (by decide) ?_
 obtain ⟨y46, hy47, hS⟩ := bind_some' hS
 obtain ⟨g48, ρ50, hfb51, hvb49, ⟨v54, hB56, h55⟩, hR52, htr53⟩ := Recs.openX hR39 secret_record.objK 200 (by decide) (by decide) (by decide) hb.bd hy47
 obtain rfl := hpr_6.trans hvb49
 replace hBk_0 := hBk_0.mv (htr53.mv (i := 100) rfl)
 replace h37 := h37.mv (htr53.mv (i := 101) rfl)
 replace hb := hb.trans htr53
 replace hB56 : Blk ρ50 200 w43 g48 (.cells #[v54, .int .i64 y46.until_] 137 (0, 0)) := hB56
 replace h55 : OffT (intC .i64) 3 ρ50 201 w43 v54 y46.times := h55
 refine sr_ev (v := .pointer (some ⟨g48, 0, none⟩)) (ev_nilCheck rfl) (by decide) ?_
 refine sr_ev (v := .pointer (some ⟨g48, 1, none⟩)) (ev_fieldAddr (i := 1) Tryz.underlying137 rfl Tryz.info3 rfl rfl) (by decide) ?_
 refine sr_ev (v := .int .i64 y46.until_) (ev_load Tryz.isAgg3 rfl (hB56.cell rfl)) (by decide) ?_
 refine sr_ev (v := .bool (decide (y41 < y46.until_))) (ev_lt rfl rfl) (by decide) ?_
 refine sr_ev (v := .bool (decide (y41 < y46.until_))) (ev_assign rfl) (by decide) ?_
 refine sr_end (l' := [(0, .pointer (some ⟨gk_0, 0, none⟩)), (6, .pointer (some ⟨g48, 0, none⟩)), (7, .int .i64 y41), (8, .bool (decide (y41 < y46.until_)))]) (.cons rfl (.cons rfl (.cons rfl (.cons rfl (.nil _))))) ?_
 refine ke_seq ?_
 refine ke_region ?_
 refine sr_ev (v := .pointer (some ⟨g48, 0, none⟩)) (ev_move rfl) (by decide) ?_
 refine sr_ev (v := .pointer (some ⟨g48, 0, none⟩)) (ev_move rfl) (by decide) ?_
 refine sr_ev (v := .pointer (some ⟨g48, 0, none⟩)) (ev_nilCheck rfl) (by decide) ?_
 refine sr_ev (v := .pointer (some ⟨g48, 0, none⟩)) (ev_fieldAddr (i := 0) Tryz.underlying137 rfl Tryz.info135 rfl rfl) (by decide) ?_
 refine sr_ev (v := v54) (ev_load Tryz.isAgg135 rfl (hB56.cell rfl)) (by decide) ?_
 refine sr_ev (v := .int .i64 y41) (ev_move rfl) (by decide) ?_
 refine sr_litT (c := (intC .i64)) (ρ := ρ50) (E := 3) (xs := [y41]) (vs := #[(0, .int .i64 y41)]) (cs := #[.int .i64 y41]) (css := [[.int .i64 y41]]) rfl (fun _ => by kernel_rfl) rfl ⟨rfl, trivial⟩ rfl (by decide) hb.bd (by decide) ?_
 intro v57 w59 h58 hbw61
 have htr60 := Tr.of_below hbw61 hb.bd
 replace h55 := h55.mv (htr60.mv (i := 201) rfl) (by decide)
 replace hB56 := hB56.mv (htr60.mv (i := 200) rfl)
 replace hBk_0 := hBk_0.mv (htr60.mv (i := 100) rfl)
 replace h37 := h37.mv (htr60.mv (i := 101) rfl)
 replace hR52 := RecsH.mv hR52 secret_record.objK (htr60.mv (i := 102) rfl) (by decide)
 replace hb := hb.trans htr60
 obtain ⟨hk62, hS⟩ := chk_some hS
 refine sr_appendO (i := 201) (c := (intC .i64)) (ρ := ρ50) (E := 3) (xs := y46.times) (ys := ([y41] : List Int)) h55 ((SlT.of_sl (i := 0) h58)).x Tryz.underlying135 Tryz.info3 rfl rfl rfl (by decide) (by decide) (by decide) hb.bd hk62 rfl rfl (by decide) ?_
 intro v63 ρ65 w66 h64 htr67
 replace hB56 := hB56.mv (htr67.mv (i := 200) rfl)
 replace hBk_0 := hBk_0.mv (htr67.mv (i := 100) rfl)
 replace h37 := h37.mv (htr67.mv (i := 101) rfl)
 replace hR52 := RecsH.mv hR52 secret_record.objK (htr67.mv (i := 102) rfl) (by decide)
 replace hb := hb.trans htr67
 refine sr_ev (v := .pointer (some ⟨g48, 0, none⟩)) (ev_nilCheck rfl) (by decide) ?_
 refine sr_ev (v := .pointer (some ⟨g48, 0, none⟩)) (ev_fieldAddr (i := 0) Tryz.underlying137 rfl Tryz.info135 rfl rfl) (by decide) ?_
 refine sr_storeT (v := v63) (vs := [v63]) (cs' := #[v63, .int .i64 y46.until_]) hB56 (by decide) hb.bd rfl rfl (one_cells (OffT.oneCell h64)) Tryz.sizeOf135 rfl (by first | rfl | (simp only [List.all_cons, List.all_nil, OffT.oneCell h64]; done) | (simp only [List.all_cons, List.all_nil, OffT.oneCell h64]; rfl)) rfl ?_
 intro w68 hB561 htr69
 replace h64 := h64.mv (htr69.mv (i := 201) rfl) (by decide)
 replace hBk_0 := hBk_0.mv (htr69.mv (i := 100) rfl)
 replace h37 := h37.mv (htr69.mv (i := 101) rfl)
 replace hR52 := RecsH.mv hR52 secret_record.objK (htr69.mv (i := 102) rfl) (by decide)
 replace hb := hb.trans htr69
 replace hB56 : Blk ρ65 200 w68 g48 (.cells #[v63, .int .i64 y46.until_] 137 (0, 0)) := hB561
 clear hB561
 refine sr_end (l' := [(0, .pointer (some ⟨gk_0, 0, none⟩)), (6, .pointer (some ⟨g48, 0, none⟩)), (7, .int .i64 y41), (8, .bool (decide (y41 < y46.until_)))]) (.cons rfl (.cons rfl (.cons rfl (.cons rfl (.nil _))))) ?_
 refine ke_seq ?_
 refine ke_seq ?_
 refine ke_region ?_
 refine sr_ev (v := .pointer (some ⟨g48, 0, none⟩)) (ev_move rfl) (by decide) ?_
 refine sr_ev (v := .pointer (some ⟨g48, 0, none⟩)) (ev_nilCheck rfl) (by decide) ?_
 refine sr_ev (v := .pointer (some ⟨g48, 0, none⟩)) (ev_fieldAddr (i := 0) Tryz.underlying137 rfl Tryz.info135 rfl rfl) (by decide) ?_
 refine sr_ev (v := v63) (ev_load Tryz.isAgg135 rfl (hB56.cell rfl)) (by decide) ?_
 refine sr_ev (v := .int .i64 ((y46.times ++ ([y41] : List Int)).length : Int)) (ev_sllenW Tryz.underlying135 rfl h64.asSl) (by decide) ?_
 refine sr_ev (v := .bool (decide (((y46.times ++ ([y41] : List Int)).length : Int) > 256))) (ev_gt rfl rfl) (by decide) ?_
 refine sr_end (l' := [(0, .pointer (some ⟨gk_0, 0, none⟩)), (6, .pointer (some ⟨g48, 0, none⟩)), (7, .int .i64 y41), (8, .bool (decide (y41 < y46.until_))), (68, .bool (decide (((y46.times ++ ([y41] : List Int)).length : Int) > 256)))]) (.cons rfl (.cons rfl (.cons rfl (.cons rfl (.cons rfl (.nil _)))))) ?_
 refine ke_cond (t := decide (((y46.times ++ ([y41] : List Int)).length : Int) > 256)) rfl (fun hc70 => ?_) (fun hc70 => ?_)
 ·replace hS := ite_true' hS hc70
  refine ke_region ?_
  refine sr_ev (v := .pointer (some ⟨g48, 0, none⟩)) (ev_move rfl) (by decide) ?_
  refine sr_ev (v := .pointer (some ⟨g48, 0, none⟩)) (ev_move rfl) (by decide) ?_
  refine sr_ev (v := .pointer (some ⟨g48, 0, none⟩)) (ev_nilCheck rfl) (by decide) ?_
  refine sr_ev (v := .pointer (some ⟨g48, 0, none⟩)) (ev_fieldAddr (i := 0) Tryz.underlying137 rfl Tryz.info135 rfl rfl) (by decide) ?_
  refine sr_ev (v := v63) (ev_load Tryz.isAgg135 rfl (hB56.cell rfl)) (by decide) ?_
  obtain ⟨hk71, hS⟩ := chk_some hS
  obtain ⟨v72, h73, hq74⟩ := (h64).cutT_l (P := Tryz.prog) Tryz.underlying135 Tryz.info3 rfl hk71
  refine sr_ev (v := v72) (hq74 w68 rfl rfl) (by decide) ?_
  refine sr_ev (v := .pointer (some ⟨g48, 0, none⟩)) (ev_nilCheck rfl) (by decide) ?_
  refine sr_ev (v := .pointer (some ⟨g48, 0, none⟩)) (ev_fieldAddr (i := 0) Tryz.underlying137 rfl Tryz.info135 rfl rfl) (by decide) ?_
  refine sr_storeT (v := v72) (vs := [v72]) (cs' := #[v72, .int .i64 y46.until_]) hB56 (by decide) hb.bd rfl rfl (one_cells (OffT.oneCell h73)) Tryz.sizeOf135 rfl (by first | rfl | (simp only [List.all_cons, List.all_nil, OffT.oneCell h73]; done) | (simp only [List.all_cons, List.all_nil, OffT.oneCell h73]; rfl)) rfl ?_
  intro w75 hB561 htr76
  replace h73 := h73.mv (htr76.mv (i := 201) rfl) (by decide)
  replace hBk_0 := hBk_0.mv (htr76.mv (i := 100) rfl)
  replace h37 := h37.mv (htr76.mv (i := 101) rfl)
  replace hR52 := RecsH.mv hR52 secret_record.objK (htr76.mv (i := 102) rfl) (by decide)
  replace hb := hb.trans htr76
  replace hB56 : Blk ρ65 200 w75 g48 (.cells #[v72, .int .i64 y46.until_] 137 (0, 0)) := hB561
  clear hB561
  refine sr_end (l' := [(0, .pointer (some ⟨gk_0, 0, none⟩)), (6, .pointer (some ⟨g48, 0, none⟩)), (7, .int .i64 y41), (8, .bool (decide (y41 < y46.until_)))]) (.cons rfl (.cons rfl (.cons rfl (.cons rfl (.nil _))))) ?_
  obtain ⟨hR77, htr78⟩ := RecsH.close hR52 secret_record.objK 200 (by decide) (by decide) (by decide) hb.bd hfb51 (x := (secret_record.mk (cut (y46.times ++ ([y41] : List Int)) 1 ((y46.times ++ ([y41] : List Int)).length)) y46.until_)) ⟨_, hB56, h73⟩
  replace hBk_0 := hBk_0.mv (htr78.mv (i := 100) rfl)
  replace h37 := h37.mv (htr78.mv (i := 101) rfl)
  replace hb := hb.trans htr78
  have hK := secret_Locks_Fail_B2_ok hg hbd ho2 hz hS hb hBk_0 h37 hR77 hvb49.symm
  exact ke_weaken (l' := [(0, .pointer (some ⟨gk_0, 0, none⟩)), (6, (.pointer (some ⟨g48, 0, none⟩))), (7, .int .i64 y41), (8, .bool (decide (y41 < y46.until_)))]) (.cons rfl (.cons rfl (.cons rfl (.cons rfl (.nil _))))) hK
 ·replace hS := ite_false' hS hc70
  refine ke_skip ?_
  obtain ⟨hR185, htr186⟩ := RecsH.close hR52 secret_record.objK 200 (by decide) (by decide) (by decide) hb.bd hfb51 (x := (secret_record.mk (y46.times ++ ([y41] : List Int)) y46.until_)) ⟨_, hB56, h64⟩
  replace hBk_0 := hBk_0.mv (htr186.mv (i := 100) rfl)
  replace h37 := h37.mv (htr186.mv (i := 101) rfl)
  replace hb := hb.trans htr186
  have hK := secret_Locks_Fail_B2_ok hg hbd ho2 hz hS hb hBk_0 h37 hR185 hvb49.symm
  exact ke_weaken (l' := [(0, .pointer (some ⟨gk_0, 0, none⟩)), (6, (.pointer (some ⟨g48, 0, none⟩))), (7, .int .i64 y41), (8, .bool (decide (y41 < y46.until_)))]) (.cons rfl (.cons rfl (.cons rfl (.cons rfl (.nil _))))) hK
theorem secret_Locks_Fail_ok (w0 : World) (hg : Gs w0) {ρA : Tags} (hbd : ∀ b, ρA b ≠ 0 → b < w0.heap.size) (hz : Gz ρA) {o : Nat} (ho2 : 2 ≤ o) {k_0 : secret_Locks} {user_1 : Str} {now_2 : Int} {gk_0 : Nat} {r : secret_Locks} (ho0 : secret_Locks.O (fun p => o + p) ρA w0 gk_0 k_0) (hS : secret_Locks_Fail k_0 user_1 now_2 = some r) :
  Calls Tryz.prog 90 #[.pointer (some ⟨gk_0, 0, none⟩), str user_1, .int .i64 now_2] w0 (Ret (fun v w' => ∃ ρ', v = .tuple #[] ∧ secret_Locks.O (fun p => o + p) ρ' w' gk_0 r ∧ Tr ρA w0 (rng o 3) ρ' w')) := by
 unfold secret_Locks_Fail at hS
 have hb := enter_fr (ρ := ρA) (w := w0) (n := 3) ho2 hbd
 have hz := hz.enter (n := 3) ho2
 obtain ⟨v1, lp3, hB5, h2, hR4⟩ := ho0
 replace hB5 := hB5.mv (enter_mv (p := 0) (n := 3) (by decide) ho2)
 replace h2 := h2.mv (enter_mv (p := 1) (n := 3) (by decide) ho2)
 replace hR4 := Recs.mv hR4 secret_record.objK (enter_mv (p := 2) (n := 3) (by decide) ho2) (by decide)
 replace hB5 : Blk (enter ρA o 3) 100 w0 gk_0 (.cells #[.int .i64 k_0.most, .int .i64 k_0.window, .int .i64 k_0.lock, v1] 134 (0, 0)) := hB5
 replace h2 : MapT str ptrC false (enter ρA o 3) 101 w0 v1 lp3 := h2
 replace hR4 : Recs secret_record.O 2 (enter ρA o 3) 102 w0 lp3 k_0.users := hR4
 refine calls_of_ke Tryz.func90 rfl (n := 103) rfl rfl (l := [(0, .pointer (some ⟨gk_0, 0, none⟩)), (1, str user_1), (2, .int .i64 now_2)]) rfl ?_
 refine ke_seq ?_
 refine ke_seq ?_
 refine ke_region ?_
 refine sr_ev (v := .pointer (some ⟨gk_0, 0, none⟩)) (ev_move rfl) (by decide) ?_
 refine sr_ev (v := .bool false) (ev_peqT_some Tryz.underlying64 rfl rfl) (by decide) ?_
 refine sr_ev (v := .bool false) (ev_move rfl) (by decide) ?_
 refine sr_evg (b := false) (e := 11) rfl rfl rfl (v := .pointer (some ⟨gk_0, 0, none⟩)) (ev_move rfl) (by decide) ?_
 refine sr_evg (b := false) (e := 11) rfl rfl rfl (v := .pointer (some ⟨gk_0, 0, none⟩)) (ev_nilCheck rfl) (by decide) ?_
 refine sr_evg (b := false) (e := 11) rfl rfl rfl (v := .pointer (some ⟨gk_0, 3, none⟩)) (ev_fieldAddr (i := 3) Tryz.underlying134 rfl Tryz.info132 rfl rfl) (by decide) ?_
 refine sr_evg (b := false) (e := 11) rfl rfl rfl (v := v1) (ev_load Tryz.isAgg132 rfl (hB5.cell rfl)) (by decide) ?_
 refine sr_evg (b := false) (e := 11) rfl rfl rfl (v := .bool k_0.users.isNone) (ev_pmNil h2 hR4 Tryz.underlying132 w0 rfl rfl) (by decide) ?_
 refine sr_ev (v := .bool k_0.users.isNone) (ev_pick_f rfl rfl rfl) (by decide) ?_
 refine sr_ev (v := .bool k_0.users.isNone) (ev_move rfl) (by decide) ?_
 obtain ⟨z8, hz10, hS⟩ := bind_some' hS
 refine sr_join (m := 4) (C := fun (z : Bool) w1 => z8 = z ∧ ∃ ρ1, Tr (enter ρA o 3) w0 (fun _ => false) ρ1 w1) (l' := fun z => [(0, .pointer (some ⟨gk_0, 0, none⟩)), (1, str user_1), (2, .int .i64 now_2), (22, .bool z)]) ?_ ?_
 ·rintro _ w11 ⟨rfl, ρ12, hj9⟩
  replace hB5 := hB5.mv (hj9.mv (i := 100) rfl)
  replace h2 := h2.mv (hj9.mv (i := 101) rfl)
  replace hR4 := Recs.mv hR4 secret_record.objK (hj9.mv (i := 102) rfl) (by decide)
  replace hb := hb.trans hj9
  refine sr_end (l' := [(0, .pointer (some ⟨gk_0, 0, none⟩)), (1, str user_1), (2, .int .i64 now_2), (22, .bool z8)]) (.cons rfl (.cons rfl (.cons rfl (.cons rfl (.nil _))))) ?_
  refine ke_cond (t := z8) rfl (fun hc19 => ?_) (fun hc19 => ?_)
  ·replace hS := ite_true' hS hc19
   cases hS
   exact ke_ret0 Tryz.func90 rfl ⟨_, rfl, leave ρA w0 o 3 ρ12, rfl, ⟨_, _, (hB5.mv (leave_mv (p := 0) (by decide) hb)), (h2.mv (leave_mv (p := 1) (by decide) hb)), (Recs.mv hR4 secret_record.objK (leave_mv (p := 2) (by decide) hb) (Nat.ne_of_gt (Nat.lt_of_lt_of_le (Nat.lt_of_lt_of_le Nat.zero_lt_two ho2) (Nat.le_add_right _ _))))⟩, (leave_tr ho2 hb)⟩
  ·replace hS := ite_false' hS hc19
   refine ke_skip ?_
   refine ke_seq ?_
   refine ke_region ?_
   refine sr_ev (v := .pointer (some ⟨gk_0, 0, none⟩)) (ev_move rfl) (by decide) ?_
   refine sr_ev (v := .pointer (some ⟨gk_0, 0, none⟩)) (ev_nilCheck rfl) (by decide) ?_
   refine sr_ev (v := .pointer (some ⟨gk_0, 3, none⟩)) (ev_fieldAddr (i := 3) Tryz.underlying134 rfl Tryz.info132 rfl rfl) (by decide) ?_
   refine sr_ev (v := v1) (ev_load Tryz.isAgg132 rfl (hB5.cell rfl)) (by decide) ?_
   refine sr_ev (v := str user_1) (ev_move rfl) (by decide) ?_
   refine sr_ev (v := (pval (mgetD lp3 user_1 none))) (ev_pmLook h2 Tryz.keyB9 Tryz.underlying132 Tryz.zeroValue131 (Mv.of_below (i := 101) (ρ := ρ12) (Below.refl _ _)) rfl rfl) (by decide) ?_
   refine sr_ev (v := (pval (mgetD lp3 user_1 none))) (ev_assign rfl) (by decide) ?_
   refine sr_end (l' := [(0, .pointer (some ⟨gk_0, 0, none⟩)), (1, str user_1), (2, .int .i64 now_2), (6, (pval (mgetD lp3 user_1 none)))]) (.cons rfl (.cons rfl (.cons rfl (.cons rfl (.nil _))))) ?_
   refine ke_seq ?_
   refine ke_seq ?_
   refine ke_region ?_
   refine sr_ev (v := (pval (mgetD lp3 user_1 none))) (ev_move rfl) (by decide) ?_
   refine sr_ev (v := .bool ((mgetP k_0.users user_1).isNone)) (pptr_eq (p := mgetD lp3 user_1 none) rfl (RecsX.ptrNil hR4 user_1) Tryz.underlying131 rfl rfl) (by decide) ?_
   refine sr_end (l' := [(0, .pointer (some ⟨gk_0, 0, none⟩)), (1, str user_1), (2, .int .i64 now_2), (6, (pval (mgetD lp3 user_1 none))), (30, .bool ((mgetP k_0.users user_1).isNone))]) (.cons rfl (.cons rfl (.cons rfl (.cons rfl (.cons rfl (.nil _)))))) ?_
   refine ke_cond (t := (mgetP k_0.users user_1).isNone) rfl (fun hc20 => ?_) (fun hc20 => ?_)
   ·replace hS := ite_true' hS hc20
    refine ke_seq ?_
    refine ke_seq ?_
    refine ke_region ?_
    refine sr_ev (v := .pointer (some ⟨gk_0, 0, none⟩)) (ev_move rfl) (by decide) ?_
    refine sr_ev (v := .pointer (some ⟨gk_0, 0, none⟩)) (ev_nilCheck rfl) (by decide) ?_
    refine sr_ev (v := .pointer (some ⟨gk_0, 3, none⟩)) (ev_fieldAddr (i := 3) Tryz.underlying134 rfl Tryz.info132 rfl rfl) (by decide) ?_
    refine sr_ev (v := v1) (ev_load Tryz.isAgg132 rfl (hB5.cell rfl)) (by decide) ?_
    refine sr_ev (v := .int .i64 (mlen k_0.users)) (ev_pmLen h2 hR4 Tryz.underlying132 (Mv.of_below (i := 101) (ρ := ρ12) (Below.refl _ _)) rfl) (by decide) ?_
    refine sr_ev (v := .bool (decide ((mlen k_0.users) ≥ 256))) (ev_ge rfl rfl) (by decide) ?_
    refine sr_end (l' := [(0, .pointer (some ⟨gk_0, 0, none⟩)), (1, str user_1), (2, .int .i64 now_2), (36, .bool (decide ((mlen k_0.users) ≥ 256)))]) (.cons rfl (.cons rfl (.cons rfl (.cons rfl (.nil _))))) ?_
    refine ke_cond (t := decide ((mlen k_0.users) ≥ 256)) rfl (fun hc21 => ?_) (fun hc21 => ?_)
    ·replace hS := ite_true' hS hc21
     cases hS
     exact ke_ret0 Tryz.func90 rfl ⟨_, rfl, leave ρA w0 o 3 ρ12, rfl, ⟨_, _, (hB5.mv (leave_mv (p := 0) (by decide) hb)), (h2.mv (leave_mv (p := 1) (by decide) hb)), (Recs.mv hR4 secret_record.objK (leave_mv (p := 2) (by decide) hb) (Nat.ne_of_gt (Nat.lt_of_lt_of_le (Nat.lt_of_lt_of_le Nat.zero_lt_two ho2) (Nat.le_add_right _ _))))⟩, (leave_tr ho2 hb)⟩
    ·replace hS := ite_false' hS hc21
     refine ke_skip ?_
     refine ke_seq ?_
     refine ke_region ?_
     refine sr_ev (v := .agg #[(.slice none 0 0), .int .i64 0]) (ev_build (vs := #[]) rfl (fun _ => by kernel_rfl)) (by decide) ?_
     refine sr_boxT 200 (by decide) hb.bd rfl (by decide) ?_
     intro g22 ρ23 w24 hB26 htr25
     replace hB5 := hB5.mv (htr25.mv (i := 100) rfl)
     replace h2 := h2.mv (htr25.mv (i := 101) rfl)
     replace hR4 := Recs.mv hR4 secret_record.objK (htr25.mv (i := 102) rfl) (by decide)
     replace hb := hb.trans htr25
     replace hB26 : Blk ρ23 200 w24 g22 (.cells #[(.slice none 0 0), .int .i64 0] 137 (0, 0)) := hB26
     refine sr_ev (v := .pointer (some ⟨g22, 0, none⟩)) (ev_assign rfl) (by decide) ?_
     refine sr_end (l' := [(0, .pointer (some ⟨gk_0, 0, none⟩)), (1, str user_1), (2, .int .i64 now_2), (6, .pointer (some ⟨g22, 0, none⟩))]) (.cons rfl (.cons rfl (.cons rfl (.cons rfl (.nil _))))) ?_
     refine ke_region ?_
     refine sr_ev (v := .pointer (some ⟨gk_0, 0, none⟩)) (ev_move rfl) (by decide) ?_
     refine sr_ev (v := .pointer (some ⟨gk_0, 0, none⟩)) (ev_nilCheck rfl) (by decide) ?_
     refine sr_ev (v := .pointer (some ⟨gk_0, 3, none⟩)) (ev_fieldAddr (i := 3) Tryz.underlying134 rfl Tryz.info132 rfl rfl) (by decide) ?_
     refine sr_ev (v := v1) (ev_load Tryz.isAgg132 rfl (hB5.cell rfl)) (by decide) ?_
     refine sr_ev (v := str user_1) (ev_move rfl) (by decide) ?_
     refine sr_ev (v := .pointer (some ⟨g22, 0, none⟩)) (ev_move rfl) (by decide) ?_
     obtain ⟨hk27, hS⟩ := chk_some hS
     have hs30 := (RecsX.isSome hR4).trans hk27
     have hR31 := Recs.putX hR4 hk27 user_1 g22 (secret_record.mk ([] : List Int) 0)
     have hfb32 := find_mput hs30 user_1 (some g22)
     have hvb33 := pval_put hs30 user_1 g22
     refine sr_mapPut (k := user_1) (d := some g22) (u := .pointer (some ⟨g22, 0, none⟩)) (cs := [.pointer (some ⟨g22, 0, none⟩)]) h2 hs30 Tryz.keyB9 Tryz.underlying132 (by decide) hb.bd rfl rfl rfl rfl rfl ?_
     intro w28 h21 htr29
     replace hR31 := RecsH.mv hR31 secret_record.objK (htr29.mv (i := 102) rfl) (by decide)
     replace hB26 := hB26.mv (htr29.mv (i := 200) rfl)
     replace hB5 := hB5.mv (htr29.mv (i := 100) rfl)
     replace hb := hb.trans htr29
     replace h2 := h21
     clear h21
     refine sr_end (l' := [(0, .pointer (some ⟨gk_0, 0, none⟩)), (2, .int .i64 now_2), (6, .pointer (some ⟨g22, 0, none⟩))]) (.cons rfl (.cons rfl (.cons rfl (.nil _)))) ?_
     obtain ⟨hR34, htr35⟩ := RecsH.close hR31 secret_record.objK 200 (by decide) (by decide) (by decide) hb.bd hfb32 (x := (secret_record.mk ([] : List Int) 0)) ⟨_, hB26, OffT.nil⟩
     replace hB5 := hB5.mv (htr35.mv (i := 100) rfl)
     replace h2 := h2.mv (htr35.mv (i := 101) rfl)
     replace hb := hb.trans htr35
     have hK := secret_Locks_Fail_B1_ok hg hbd ho2 hz hS hb hB5 h2 hR34 hvb33.symm
     exact ke_weaken (l' := [(0, .pointer (some ⟨gk_0, 0, none⟩)), (2, .int .i64 now_2), (6, (.pointer (some ⟨g22, 0, none⟩)))]) (.cons rfl (.cons rfl (.cons rfl (.nil _)))) hK
   ·replace hS := ite_false' hS hc20
    refine ke_skip ?_
    have hK := secret_Locks_Fail_B1_ok hg hbd ho2 hz hS hb hB5 h2 hR4 rfl
    exact ke_weaken (l' := [(0, .pointer (some ⟨gk_0, 0, none⟩)), (2, .int .i64 now_2), (6, (pval (mgetD lp3 user_1 none)))]) (.cons rfl (.cons rfl (.cons rfl (.nil _)))) hK
 ·intro K7
  clear hS
  have hj9 : Tr (enter ρA o 3) w0 (fun _ => false) (enter ρA o 3) w0 := (Tr.refl hb.bd).weak (fun _ _ => rfl) rfl rfl
  rcases Bool.eq_false_or_eq_true k_0.users.isNone with hg6 | hg6
  ·have hS := ite_true' hz10 hg6
   refine sr_pass (e := 18) rfl rfl (by rw [hg6]; rfl) (by decide) ?_
   refine sr_pass (e := 18) rfl rfl (by rw [hg6]; rfl) (by decide) ?_
   refine sr_pass (e := 18) rfl rfl (by rw [hg6]; rfl) (by decide) ?_
   refine sr_ev (v := .bool true) (ev_pick_t rfl hg6 rfl) (by decide) ?_
   exact sr_weaken (l' := [(0, .pointer (some ⟨gk_0, 0, none⟩)), (1, str user_1), (2, .int .i64 now_2), (22, .bool true)]) (.cons rfl (.cons rfl (.cons rfl (.cons rfl (.nil _))))) (K7 true _ ⟨(Option.some.inj hS).symm, _, hj9⟩)
  ·have hS := ite_false' hz10 hg6
   refine sr_evg (b := false) (e := 18) rfl rfl hg6 (v := str user_1) (ev_move rfl) (by decide) ?_
   obtain ⟨y14, hy15, hS⟩ := bind_some' hS
   refine sr_callg (b := false) (e := 18) rfl rfl hg6 (vs := [str user_1]) rfl Tryz.call43 rfl (fold_Word_ok _ (hg.fr hz hb) hy15) (by decide) ?_
   rintro _ w16 ⟨rfl, hbw17⟩
   have htr18 := Tr.of_below hbw17 hb.bd
   replace hB5 := hB5.mv (htr18.mv (i := 100) rfl)
   replace h2 := h2.mv (htr18.mv (i := 101) rfl)
   replace hR4 := Recs.mv hR4 secret_record.objK (htr18.mv (i := 102) rfl) (by decide)
   replace hb := hb.trans htr18
   replace hj9 := (hj9.trans htr18).weak (J' := (fun _ => false)) (by intro t h; simp [rng] at h ⊢ <;> omega) rfl rfl
   refine sr_evg (b := false) (e := 18) rfl rfl hg6 (v := .bool (!y14)) (ev_not rfl) (by decide) ?_
   refine sr_ev (v := .bool (!y14)) (ev_pick_f rfl hg6 rfl) (by decide) ?_
   exact sr_weaken (l' := [(0, .pointer (some ⟨gk_0, 0, none⟩)), (1, str user_1), (2, .int .i64 now_2), (22, .bool (!y14))]) (.cons rfl (.cons rfl (.cons rfl (.cons rfl (.nil _))))) (K7 (!y14) _ ⟨(Option.some.inj hS).symm, _, hj9⟩)
theorem secret_Locks_Fail__nil_ok (w0 : World) (hg : Gs w0) {ρA : Tags} (hbd : ∀ b, ρA b ≠ 0 → b < w0.heap.size) (hz : Gz ρA) {user_1 : Str} {now_2 : Int} {r : Unit} (hS : secret_Locks_Fail__nil user_1 now_2 = some r) :
  Calls Tryz.prog 90 #[.pointer none, str user_1, .int .i64 now_2] w0 (Ret (fun v w' => v = .tuple #[] ∧ Below w0.heap.size w0 w')) := by
 unfold secret_Locks_Fail__nil at hS
 have hb := flat1_fr (ρ := ρA) (w := w0) hbd
 have hz := hz.flat1
 refine calls_of_ke Tryz.func90 rfl (n := 103) rfl rfl (l := [(0, .pointer none), (1, str user_1), (2, .int .i64 now_2)]) rfl ?_
 refine ke_seq ?_
 refine ke_seq ?_
 refine ke_region ?_
 refine sr_ev (v := .pointer none) (ev_move rfl) (by decide) ?_
 refine sr_ev (v := .bool true) (ev_peqT_nil Tryz.underlying64 rfl rfl) (by decide) ?_
 refine sr_ev (v := .bool true) (ev_move rfl) (by decide) ?_
 refine sr_pass (e := 11) rfl rfl rfl (by decide) ?_
 refine sr_pass (e := 11) rfl rfl rfl (by decide) ?_
 refine sr_pass (e := 11) rfl rfl rfl (by decide) ?_
 refine sr_pass (e := 11) rfl rfl rfl (by decide) ?_
 refine sr_pass (e := 11) rfl rfl rfl (by decide) ?_
 refine sr_ev (v := .bool true) (ev_pick_t rfl rfl rfl) (by decide) ?_
 refine sr_ev (v := .bool true) (ev_move rfl) (by decide) ?_
 refine sr_pass (e := 18) rfl rfl rfl (by decide) ?_
 refine sr_pass (e := 18) rfl rfl rfl (by decide) ?_
 refine sr_pass (e := 18) rfl rfl rfl (by decide) ?_
 refine sr_ev (v := .bool true) (ev_pick_t rfl rfl rfl) (by decide) ?_
 refine sr_end (l' := [(0, .pointer none), (1, str user_1), (2, .int .i64 now_2), (22, .bool true)]) (.cons rfl (.cons rfl (.cons rfl (.cons rfl (.nil _))))) ?_
 refine ke_cond (t := true) rfl (fun _ => ?_) (fun h => by cases h)
 cases hS
 exact ke_ret0 Tryz.func90 rfl ⟨_, rfl, rfl, (hb.below (flat1_le _))⟩
theorem slices_Clone_api_Proof_api_Proof_ok (w0 : World) (hg : Gs w0) {ρA : Tags} (hbd : ∀ b, ρA b ≠ 0 → b < w0.heap.size) (hz : Gz ρA) {o : Nat} (ho2 : 2 ≤ o) {s_0 : List api_Proof} {v1 : Value} {r : List api_Proof} (h2 : SlR api_Proof.c (Wb ρA) w0 v1 s_0) (hS : slices_Clone_api_Proof_api_Proof s_0 = some r) :
  Calls Tryz.prog 50 #[v1] w0 (Ret (fun v w' => ∃ ρ' x1, v = x1 ∧ OwnT api_Proof.c 42 ρ' o w' x1 r ∧ Tr ρA w0 (rng o 1) ρ' w')) := by
 unfold slices_Clone_api_Proof_api_Proof at hS
 have hb := enter_fr (ρ := ρA) (w := w0) (n := 1) ho2 hbd
 have hz := hz.enter (n := 1) ho2
 replace h2 := SlR.mv h2 (enter_rd (n := 1) ho2)
 refine calls_of_ke Tryz.func50 rfl (n := 8) rfl rfl (l := [(0, v1)]) rfl ?_
 refine ke_seq ?_
 refine ke_region ?_
 refine sr_ev (v := .slice none 0 0) (ev_assign rfl) (by decide) ?_
 refine sr_end (l' := [(0, v1)]) (.cons rfl (.nil _)) ?_
 refine ke_seq ?_
 refine ke_seq ?_
 refine ke_region ?_
 refine sr_ev (v := v1) (ev_move rfl) (by decide) ?_
 rcases slNil h2 with ⟨hv8, hx9⟩ | ⟨a5, n6, c7, hv8⟩
 ·subst hv8; subst hx9
  replace hS : (some (([] : List api_Proof))) = some r := by simpa [chk, fitL] using hS
  refine sr_ev (v := .bool true) (ev_slNil Tryz.underlying36 rfl rfl rfl) (by decide) ?_
  refine sr_end (l' := [(0, (.slice none 0 0)), (4, .bool true)]) (.cons rfl (.cons rfl (.nil _))) ?_
  refine ke_cond (t := true) rfl (fun _ => ?_) (fun h => by cases h)
  refine ke_seq ?_
  refine ke_region ?_
  refine sr_ev (v := .slice none 0 0) (ev_assign rfl) (by decide) ?_
  refine sr_end (l' := [(2, .slice none 0 0)]) (.cons rfl (.nil _)) ?_
  cases hS
  exact ke_ret1 Tryz.func50 rfl rfl ⟨_, rfl, leave ρA w0 o 1 (enter ρA o 1), _, rfl, OwnT.nil, (leave_tr ho2 hb)⟩
 ·subst hv8
  refine sr_ev (v := .bool false) (ev_slNil Tryz.underlying36 rfl rfl rfl) (by decide) ?_
  refine sr_end (l' := [(0, (.slice (some a5) n6 c7)), (4, .bool false)]) (.cons rfl (.cons rfl (.nil _))) ?_
  refine ke_cond (t := false) rfl (fun h => by cases h) (fun _ => ?_)
  refine ke_skip ?_
  refine ke_seq ?_
  refine ke_region ?_
  refine sr_litOwnT (i := 7) (c := api_Proof.c) (ρ := (enter ρA o 1)) (E := 42) (xs := []) (vs := #[]) (cs := #[]) (css := []) rfl (fun _ => by kernel_rfl) rfl trivial rfl (by decide) (by decide) hb.bd (by decide) ?_
  intro v10 ρ14 w12 h11 htr13
  replace h2 := h2.mv htr13.rd
  replace hb := hb.trans htr13
  refine sr_ev (v := (.slice (some a5) n6 c7)) (ev_move rfl) (by decide) ?_
  obtain ⟨hk15, hS⟩ := chk_some hS
  refine sr_appendT (i := 7) (c := api_Proof.c) (ρ := ρ14) (E := 42) (xs := ([] : List api_Proof)) (ys := s_0) h11 ((SlT.of_sl (i := 0) h2)).x Tryz.underlying36 Tryz.info42 rfl rfl rfl (by decide) (by decide) (by decide) hb.bd hk15 rfl rfl (by decide) ?_
  intro v16 ρ18 w19 h17 htr20
  replace hb := hb.trans htr20
  refine sr_ev (v := v16) (ev_assign rfl) (by decide) ?_
  refine sr_end (l' := [(2, v16)]) (.cons rfl (.nil _)) ?_
  have htr21 := rtg_tr (ρ := ρ18) (w := w19) (i := 7) 100 (by decide) hb.bd
  have hmv22 : Mv ρ18 w19 7 (rtg ρ18 7 100) w19 100 := rtg_mv (by decide)
  replace hb := hb.trans htr21
  replace h17 := h17.mv hmv22 (by decide)
  cases hS
  exact ke_ret1 Tryz.func50 rfl rfl ⟨_, rfl, leave ρA w0 o 1 (rtg ρ18 7 100), _, rfl, (h17.mv (leave_mv (p := 0) (by decide) hb) (Nat.ne_of_gt (Nat.lt_of_lt_of_le Nat.zero_lt_two ho2))), (leave_tr ho2 hb)⟩
theorem secret_Locks_Locked__nil_ok (w0 : World) (hg : Gs w0) {ρA : Tags} (hbd : ∀ b, ρA b ≠ 0 → b < w0.heap.size) (hz : Gz ρA) {user_1 : Str} {now_2 : Int} {r : Bool} (hS : secret_Locks_Locked__nil user_1 now_2 = some r) :
  Calls Tryz.prog 57 #[.pointer none, str user_1, .int .i64 now_2] w0 (Ret (fun v w' => v = .bool r ∧ Below w0.heap.size w0 w')) := by
 unfold secret_Locks_Locked__nil at hS
 have hb := flat1_fr (ρ := ρA) (w := w0) hbd
 have hz := hz.flat1
 refine calls_of_ke Tryz.func57 rfl (n := 32) rfl rfl (l := [(0, .pointer none), (1, str user_1), (2, .int .i64 now_2)]) rfl ?_
 refine ke_seq ?_
 refine ke_region ?_
 refine sr_ev (v := .bool false) (ev_assign rfl) (by decide) ?_
 refine sr_end (l' := [(0, .pointer none), (1, str user_1), (2, .int .i64 now_2)]) (.cons rfl (.cons rfl (.cons rfl (.nil _)))) ?_
 refine ke_seq ?_
 refine ke_region_q Tryz.mixed (by kernel_rfl) ?_
 refine sq_ev (v := .pointer none) (fun w1 hw1 => ev_move rfl) (by decide) ?_
 refine sq_ev (v := .bool false) (fun w1 hw1 => ev_pneT_nil Tryz.underlying64 rfl rfl) (by decide) ?_
 refine sq_ev (v := .bool false) (fun w1 hw1 => ev_move rfl) (by decide) ?_
 refine sq_pass (e := 9) rfl rfl rfl (by decide) ?_
 refine sq_pass (e := 9) rfl rfl rfl (by decide) ?_
 refine sq_pass (e := 9) rfl rfl rfl (by decide) ?_
 refine sq_pass (e := 9) rfl rfl rfl (by decide) ?_
 refine sq_pass (e := 9) rfl rfl rfl (by decide) ?_
 refine sq_pass (e := 9) rfl rfl rfl (by decide) ?_
 refine sq_pass (e := 9) rfl rfl rfl (by decide) ?_
 refine sq_ev (v := .bool false) (fun w1 hw1 => ev_pick_f rfl rfl rfl) (by decide) ?_
 refine sq_ev (v := .bool false) (fun w1 hw1 => ev_move rfl) (by decide) ?_
 refine sq_pass (e := 18) rfl rfl rfl (by decide) ?_
 refine sq_pass (e := 18) rfl rfl rfl (by decide) ?_
 refine sq_pass (e := 18) rfl rfl rfl (by decide) ?_
 refine sq_pass (e := 18) rfl rfl rfl (by decide) ?_
 refine sq_pass (e := 18) rfl rfl rfl (by decide) ?_
 refine sq_pass (e := 18) rfl rfl rfl (by decide) ?_
 refine sq_pass (e := 18) rfl rfl rfl (by decide) ?_
 refine sq_pass (e := 18) rfl rfl rfl (by decide) ?_
 refine sq_pass (e := 18) rfl rfl rfl (by decide) ?_
 refine sq_pass (e := 18) rfl rfl rfl (by decide) ?_
 refine sq_pass (e := 18) rfl rfl rfl (by decide) ?_
 refine sq_pass (e := 18) rfl rfl rfl (by decide) ?_
 refine sq_ev (v := .bool false) (fun w1 hw1 => ev_pick_f rfl rfl rfl) (by decide) ?_
 refine sq_ev (v := .bool false) (fun w1 hw1 => ev_assign rfl) (by decide) ?_
 refine sq_end (l' := [(6, .bool false)]) (.cons rfl (.nil _)) (fun w2 hw1 => ?_)
 have htr3 := Tr.of_below hw1 hb.bd
 replace hb := hb.trans htr3
 cases hS
 exact ke_ret1 Tryz.func57 rfl rfl ⟨_, rfl, rfl, (hb.below (flat1_le _))⟩
theorem login_Logins_present__Logins_byPassword_ok (w0 : World) (hg : Gs w0) {ρA : Tags} (hbd : ∀ b, ρA b ≠ 0 → b < w0.heap.size) (hz : Gz ρA) {o : Nat} (ho2 : 2 ≤ o) {l_0 : login_Logins} {id_1 : Str} {text_2 : Str} {now_3 : Int} {f_4 : Int} {gl_0 : Nat} {r : Int × login_Logins} (ho0 : login_Logins.O (fun p => o + p) ρA w0 gl_0 l_0) (hS : login_Logins_present__Logins_byPassword l_0 id_1 text_2 now_3 f_4 = some r) :
  Calls Tryz.prog 47 #[.pointer (some ⟨gl_0, 0, none⟩), str id_1, str text_2, .int .i64 now_3, .int .i64 f_4, .func (.func 53) #[] #[]] w0 (Ret (fun v w' => ∃ ρ', v = .int .i64 r.1 ∧ login_Logins.O (fun p => o + p) ρ' w' gl_0 r.2 ∧ Tr ρA w0 (rng o 7) ρ' w')) := by
 unfold login_Logins_present__Logins_byPassword at hS
 have hb := enter_fr (ρ := ρA) (w := w0) (n := 7) ho2 hbd
 have hz := hz.enter (n := 7) ho2
 obtain ⟨v1, v3, v5, v7, hB9, hP2, h4, h6, h8⟩ := ho0
 replace hB9 := hB9.mv (enter_mv (p := 0) (n := 7) (by decide) ho2)
 replace hP2 := PtrO.mv hP2 secret_Locks.objK (fun p hp => enter_mv (p := 1 + p) (n := 7) (by omega) ho2) (fun p hp => by omega)
 replace h4 := h4.mv (enter_mv (p := 4) (n := 7) (by decide) ho2)
 replace h6 := h6.mv (enter_mv (p := 5) (n := 7) (by decide) ho2)
 replace h8 := h8.mv (enter_mv (p := 6) (n := 7) (by decide) ho2)
 replace hB9 : Blk (enter ρA o 7) 100 w0 gl_0 (.cells #[v1, v3, v5, v7] 69 (0, 0)) := hB9
 replace hP2 : PtrO secret_Locks.O (fun q => 100 + (1 + q)) (enter ρA o 7) w0 v1 l_0.locks := hP2
 replace h4 : MapT str login_credentials.c true (enter ρA o 7) 104 w0 v3 l_0.users := h4
 replace h6 : MapT str (intC .i64) false (enter ρA o 7) 105 w0 v5 l_0.counters := h6
 replace h8 : MapT str login_attempt.c true (enter ρA o 7) 106 w0 v7 l_0.attempts := h8
 refine calls_of_ke Tryz.func47 rfl (n := 72) rfl rfl (l := [(0, .pointer (some ⟨gl_0, 0, none⟩)), (1, str id_1), (2, str text_2), (3, .int .i64 now_3), (4, .int .i64 f_4), (5, .func (.func 53) #[] #[])]) rfl ?_
 refine ke_seq ?_
 refine ke_region ?_
 refine sr_ev (v := .int .i64 0) (ev_assign rfl) (by decide) ?_
 refine sr_end (l' := [(0, .pointer (some ⟨gl_0, 0, none⟩)), (1, str id_1), (2, str text_2), (3, .int .i64 now_3), (4, .int .i64 f_4), (5, .func (.func 53) #[] #[])]) (.cons rfl (.cons rfl (.cons rfl (.cons rfl (.cons rfl (.cons rfl (.nil _))))))) ?_
 refine ke_seq ?_
 refine ke_region ?_
 refine sr_ev (v := .pointer (some ⟨gl_0, 0, none⟩)) (ev_move rfl) (by decide) ?_
 refine sr_ev (v := str id_1) (ev_move rfl) (by decide) ?_
 refine sr_ev (v := .int .i64 now_3) (ev_move rfl) (by decide) ?_
 obtain ⟨y10, hy11, hS⟩ := bind_some' hS
 refine sr_call (vs := [.pointer (some ⟨gl_0, 0, none⟩), str id_1, .int .i64 now_3]) rfl Tryz.call49 rfl (login_Logins_find_ok _ (hg.fr hz hb) (ρA := (enter ρA o 7)) hb.bd (hz.fr hg hb) (τ0 := (fun p => 100 + p)) (fun p => Nat.le_add_right_of_le (by decide)) (⟨_, _, _, _, hB9, hP2, h4, h6, h8⟩ : login_Logins.O (fun p => 100 + p) (enter ρA o 7) w0 gl_0 l_0) hy11) (by decide) ?_
 rintro _ w12 ⟨v15, rfl, h16, hbw13⟩
 have htr14 := Tr.of_below hbw13 hb.bd
 replace hB9 := hB9.mv (htr14.mv (i := 100) rfl)
 replace hP2 := PtrO.mv hP2 secret_Locks.objK (fun p hp => htr14.mv (i := 100 + (1 + p)) (by rcases p with _ | _ | _ | p <;> first | rfl | omega)) (fun p hp => by show 100 + (1 + p) ≠ 0; omega)
 replace h4 := h4.mv (htr14.mv (i := 104) rfl)
 replace h6 := h6.mv (htr14.mv (i := 105) rfl)
 replace h8 := h8.mv (htr14.mv (i := 106) rfl)
 replace hb := hb.trans htr14
 refine sr_ev (v := .tuple #[.agg #[str y10.1.user, .int .i64 y10.1.begun, v15], .int .i64 y10.2]) (ev_move rfl) (by decide) ?_
 refine sr_ev (v := .agg #[str y10.1.user, .int .i64 y10.1.begun, v15]) (ev_extract rfl rfl) (by decide) ?_
 refine sr_ev (v := .int .i64 y10.2) (ev_extract rfl rfl) (by decide) ?_
 refine sr_allocT 15 (by decide) hb.bd Tryz.zeroValue74 (by decide) ?_
 intro g17 ρ18 w19 hB21 htr20
 replace h16 := h16.mv htr20.rd
 replace hB9 := hB9.mv (htr20.mv (i := 100) rfl)
 replace hP2 := PtrO.mv hP2 secret_Locks.objK (fun p hp => htr20.mv (i := 100 + (1 + p)) (by rcases p with _ | _ | _ | p <;> first | rfl | omega)) (fun p hp => by show 100 + (1 + p) ≠ 0; omega)
 replace h4 := h4.mv (htr20.mv (i := 104) rfl)
 replace h6 := h6.mv (htr20.mv (i := 105) rfl)
 replace h8 := h8.mv (htr20.mv (i := 106) rfl)
 replace hb := hb.trans htr20
 replace hB21 : Blk ρ18 15 w19 g17 (.cells #[str ([]), .int .i64 0, (.slice none 0 0)] 74 (0, 0)) := hB21
 refine sr_storeT (v := .agg #[str y10.1.user, .int .i64 y10.1.begun, v15]) (vs := [str y10.1.user, .int .i64 y10.1.begun, v15]) (cs' := #[str y10.1.user, .int .i64 y10.1.begun, v15]) hB21 (by decide) hb.bd rfl rfl rfl Tryz.sizeOf74 rfl (by first | rfl | (simp only [List.all_cons, List.all_nil, SlR.oneCell h16]; done) | (simp only [List.all_cons, List.all_nil, SlR.oneCell h16]; rfl)) rfl ?_
 intro w22 hB211 htr23
 replace h16 := h16.mv htr23.rd
 replace hB9 := hB9.mv (htr23.mv (i := 100) rfl)
 replace hP2 := PtrO.mv hP2 secret_Locks.objK (fun p hp => htr23.mv (i := 100 + (1 + p)) (by rcases p with _ | _ | _ | p <;> first | rfl | omega)) (fun p hp => by show 100 + (1 + p) ≠ 0; omega)
 replace h4 := h4.mv (htr23.mv (i := 104) rfl)
 replace h6 := h6.mv (htr23.mv (i := 105) rfl)
 replace h8 := h8.mv (htr23.mv (i := 106) rfl)
 replace hb := hb.trans htr23
 replace hB21 : Blk ρ18 15 w22 g17 (.cells #[str y10.1.user, .int .i64 y10.1.begun, v15] 74 (0, 0)) := hB211
 clear hB211
 refine sr_ev (v := .int .i64 y10.2) (ev_assign rfl) (by decide) ?_
 refine sr_end (l' := [(0, .pointer (some ⟨gl_0, 0, none⟩)), (1, str id_1), (2, str text_2), (3, .int .i64 now_3), (4, .int .i64 f_4), (5, .func (.func 53) #[] #[]), (13, .pointer (some ⟨g17, 0, none⟩)), (14, .int .i64 y10.2)]) (.cons rfl (.cons rfl (.cons rfl (.cons rfl (.cons rfl (.cons rfl (.cons rfl (.cons rfl (.nil _))))))))) ?_
 refine ke_seq ?_
 refine ke_block ?_
 refine ke_seq ?_
 refine ke_region ?_
 refine sr_ev (v := .int .i64 y10.2) (ev_move rfl) (by decide) ?_
 refine sr_ev (v := .bool (y10.2 != 0)) (ev_ne rfl rfl) (by decide) ?_
 refine sr_ev (v := .bool (y10.2 != 0)) (ev_assign rfl) (by decide) ?_
 refine sr_end (l' := [(0, .pointer (some ⟨gl_0, 0, none⟩)), (1, str id_1), (2, str text_2), (3, .int .i64 now_3), (4, .int .i64 f_4), (5, .func (.func 53) #[] #[]), (13, .pointer (some ⟨g17, 0, none⟩)), (14, .int .i64 y10.2), (22, .bool (y10.2 != 0))]) (.cons rfl (.cons rfl (.cons rfl (.cons rfl (.cons rfl (.cons rfl (.cons rfl (.cons rfl (.cons rfl (.nil _)))))))))) ?_
 refine ke_cond (t := y10.2 != 0) rfl (fun hc24 => ?_) (fun hc24 => ?_)
 ·replace hS := ite_true' hS hc24
  refine ke_seq ?_
  refine ke_region ?_
  refine sr_ev (v := .int .i64 y10.2) (ev_move rfl) (by decide) ?_
  refine sr_ev (v := .int .i64 y10.2) (ev_assign rfl) (by decide) ?_
  refine sr_end (l' := [(12, .int .i64 y10.2)]) (.cons rfl (.nil _)) ?_
  cases hS
  exact ke_ret1 Tryz.func47 rfl rfl ⟨_, rfl, leave ρA w0 o 7 ρ18, rfl, ⟨_, _, _, _, (hB9.mv (leave_mv (p := 0) (by decide) hb)), (PtrO.mv hP2 secret_Locks.objK (fun p hp => leave_mv (p := 1 + p) (by omega) hb) (fun p hp => by show o + (1 + p) ≠ 0; omega)), (h4.mv (leave_mv (p := 4) (by decide) hb)), (h6.mv (leave_mv (p := 5) (by decide) hb)), (h8.mv (leave_mv (p := 6) (by decide) hb))⟩, (leave_tr ho2 hb)⟩
 ·replace hS := ite_false' hS hc24
  refine ke_seq ?_
  refine ke_region ?_
  refine sr_ev (v := .agg #[str y10.1.user, .int .i64 y10.1.begun, v15]) (ev_loads (cs := [str y10.1.user, .int .i64 y10.1.begun, v15]) Tryz.isAgg74 Tryz.sizeOf74 rfl (hB21.cells (vs := [str y10.1.user, .int .i64 y10.1.begun, v15]) rfl)) (by decide) ?_
  refine sr_ev (v := .int .i64 f_4) (ev_move rfl) (by decide) ?_
  obtain ⟨y25, hy26, hS⟩ := bind_some' hS
  refine sr_call (vs := [.agg #[str y10.1.user, .int .i64 y10.1.begun, v15], .int .i64 f_4]) rfl Tryz.call89 rfl (login_attempt_has_ok _ (hg.fr hz hb) (ρA := ρ18) hb.bd (hz.fr hg hb) h16 hy26) (by decide) ?_
  rintro _ w27 ⟨rfl, hbw28⟩
  have htr29 := Tr.of_below hbw28 hb.bd
  replace hB21 := hB21.mv (htr29.mv (i := 15) rfl)
  replace h16 := h16.mv htr29.rd
  replace hB9 := hB9.mv (htr29.mv (i := 100) rfl)
  replace hP2 := PtrO.mv hP2 secret_Locks.objK (fun p hp => htr29.mv (i := 100 + (1 + p)) (by rcases p with _ | _ | _ | p <;> first | rfl | omega)) (fun p hp => by show 100 + (1 + p) ≠ 0; omega)
  replace h4 := h4.mv (htr29.mv (i := 104) rfl)
  replace h6 := h6.mv (htr29.mv (i := 105) rfl)
  replace h8 := h8.mv (htr29.mv (i := 106) rfl)
  replace hb := hb.trans htr29
  refine sr_ev (v := .bool y25) (ev_assign rfl) (by decide) ?_
  refine sr_end (l' := [(0, .pointer (some ⟨gl_0, 0, none⟩)), (1, str id_1), (2, str text_2), (3, .int .i64 now_3), (4, .int .i64 f_4), (5, .func (.func 53) #[] #[]), (13, .pointer (some ⟨g17, 0, none⟩)), (26, .bool y25)]) (.cons rfl (.cons rfl (.cons rfl (.cons rfl (.cons rfl (.cons rfl (.cons rfl (.cons rfl (.nil _))))))))) ?_
  refine ke_cond (t := y25) rfl (fun hc30 => ?_) (fun hc30 => ?_)
  ·replace hS := ite_true' hS hc30
   refine ke_seq ?_
   refine ke_region ?_
   refine sr_ev (v := .int .i64 12) (ev_assign rfl) (by decide) ?_
   refine sr_end (l' := [(12, .int .i64 12)]) (.cons rfl (.nil _)) ?_
   cases hS
   exact ke_ret1 Tryz.func47 rfl rfl ⟨_, rfl, leave ρA w0 o 7 ρ18, rfl, ⟨_, _, _, _, (hB9.mv (leave_mv (p := 0) (by decide) hb)), (PtrO.mv hP2 secret_Locks.objK (fun p hp => leave_mv (p := 1 + p) (by omega) hb) (fun p hp => by show o + (1 + p) ≠ 0; omega)), (h4.mv (leave_mv (p := 4) (by decide) hb)), (h6.mv (leave_mv (p := 5) (by decide) hb)), (h8.mv (leave_mv (p := 6) (by decide) hb))⟩, (leave_tr ho2 hb)⟩
  ·replace hS := ite_false' hS hc30
   refine ke_seq ?_
   refine ke_region_q Tryz.mixed (by kernel_rfl) ?_
   refine sq_ev (v := .pointer (some ⟨gl_0, 0, none⟩)) (fun w1 hw1 => ev_move rfl) (by decide) ?_
   refine sq_ev (v := .pointer (some ⟨gl_0, 0, none⟩)) (fun w1 hw1 => ev_nilCheck rfl) (by decide) ?_
   refine sq_ev (v := .pointer (some ⟨gl_0, 0, none⟩)) (fun w1 hw1 => ev_fieldAddr (i := 0) Tryz.underlying69 rfl Tryz.info64 rfl rfl) (by decide) ?_
   refine sq_ev (v := v1) (fun w1 hw1 => ev_load Tryz.isAgg64 rfl ((hB9.mv (Mv.of_below (i := 100) (ρ := ρ18) hw1)).cell rfl)) (by decide) ?_
   refine sq_ev (v := .pointer (some ⟨g17, 0, none⟩)) (fun w1 hw1 => ev_fieldAddr (i := 0) Tryz.underlying74 rfl Tryz.info9 rfl rfl) (by decide) ?_
   refine sq_ev (v := str y10.1.user) (fun w1 hw1 => ev_load Tryz.isAgg9 rfl ((hB21.mv (Mv.of_below (i := 15) (ρ := ρ18) hw1)).cell rfl)) (by decide) ?_
   refine sq_ev (v := .int .i64 now_3) (fun w1 hw1 => ev_move rfl) (by decide) ?_
   rcases ho34 : l_0.locks with _ | z33
   ·replace hS := optC_none hS ho34
    obtain rfl := hP2.none_ ho34
    obtain ⟨y191, hy192, hS⟩ := bind_some' hS
    obtain rfl : y191 = false := (Option.some.inj hy192).symm
    refine sq_call (v := .bool false) (vs := [.pointer none, str y10.1.user, .int .i64 now_3]) rfl Tryz.call57 rfl (fun w1 hw1 => (secret_Locks_Locked__nil_ok _ ((hg.fr hz hb).below hw1) (ρA := ρ18) (fun b h => Nat.lt_of_lt_of_le (hb.bd b h) hw1.size) (hz.fr hg hb) hy192)) (by decide) ?_
    refine sq_ev (v := .bool false) (fun w1 hw1 => ev_assign rfl) (by decide) ?_
    refine sq_end (l' := [(0, .pointer (some ⟨gl_0, 0, none⟩)), (1, str id_1), (2, str text_2), (3, .int .i64 now_3), (4, .int .i64 f_4), (5, .func (.func 53) #[] #[]), (13, .pointer (some ⟨g17, 0, none⟩)), (30, .bool false)]) (.cons rfl (.cons rfl (.cons rfl (.cons rfl (.cons rfl (.cons rfl (.cons rfl (.cons rfl (.nil _))))))))) (fun w32 hw31 => ?_)
    have htr196 := Tr.of_below hw31 hb.bd
    replace hB21 := hB21.mv (htr196.mv (i := 15) rfl)
    replace h16 := h16.mv htr196.rd
    replace hB9 := hB9.mv (htr196.mv (i := 100) rfl)
    replace hP2 := PtrO.mv hP2 secret_Locks.objK (fun p hp => htr196.mv (i := 100 + (1 + p)) (by rcases p with _ | _ | _ | p <;> first | rfl | omega)) (fun p hp => by show 100 + (1 + p) ≠ 0; omega)
    replace h4 := h4.mv (htr196.mv (i := 104) rfl)
    replace h6 := h6.mv (htr196.mv (i := 105) rfl)
    replace h8 := h8.mv (htr196.mv (i := 106) rfl)
    replace hb := hb.trans htr196
    refine ke_cond (t := false) rfl (fun h => by cases h) (fun _ => ?_)
    refine ke_seq ?_
    refine ke_region ?_
    refine sr_ev (v := .func (.func 53) #[] #[]) (ev_move rfl) (by decide) ?_
    refine sr_ev (v := .pointer (some ⟨gl_0, 0, none⟩)) (ev_move rfl) (by decide) ?_
    refine sr_ev (v := .pointer (some ⟨g17, 0, none⟩)) (ev_fieldAddr (i := 0) Tryz.underlying74 rfl Tryz.info9 rfl rfl) (by decide) ?_
    refine sr_ev (v := str y10.1.user) (ev_load Tryz.isAgg9 rfl (hB21.cell rfl)) (by decide) ?_
    refine sr_ev (v := str text_2) (ev_move rfl) (by decide) ?_
    refine sr_ev (v := .int .i64 now_3) (ev_move rfl) (by decide) ?_
    obtain ⟨y197, hy198, hS⟩ := bind_some' hS
    refine sr_call (vs := [.pointer (some ⟨gl_0, 0, none⟩), str y10.1.user, str text_2, .int .i64 now_3]) rfl Tryz.call53 rfl (login_Logins_byPassword_ok _ (hg.fr hz hb) (ρA := ρ18) hb.bd (hz.fr hg hb) (o := 100) (by decide) (⟨_, _, _, _, hB9, hP2, h4, h6, h8⟩ : login_Logins.O (fun p => 100 + p) ρ18 w32 gl_0 l_0) hy198) (by decide) ?_
    rintro _ w199 ⟨ρ211, rfl, ⟨v202, v204, v206, v208, hB210, hP203, h205, h207, h209⟩, htr201⟩
    replace hB21 := hB21.mv (htr201.mv (i := 15) rfl)
    replace h16 := h16.mv htr201.rd
    replace hb := hb.trans htr201
    replace hB210 : Blk ρ211 100 w199 gl_0 (.cells #[v202, v204, v206, v208] 69 (0, 0)) := hB210
    replace hP203 : PtrO secret_Locks.O (fun q => 100 + (1 + q)) ρ211 w199 v202 y197.2.locks := hP203
    replace h205 : MapT str login_credentials.c true ρ211 104 w199 v204 y197.2.users := h205
    replace h207 : MapT str (intC .i64) false ρ211 105 w199 v206 y197.2.counters := h207
    replace h209 : MapT str login_attempt.c true ρ211 106 w199 v208 y197.2.attempts := h209
    refine sr_ev (v := .bool (!y197.1)) (ev_not rfl) (by decide) ?_
    refine sr_ev (v := .bool (!y197.1)) (ev_assign rfl) (by decide) ?_
    refine sr_end (l' := [(0, .pointer (some ⟨gl_0, 0, none⟩)), (1, str id_1), (3, .int .i64 now_3), (4, .int .i64 f_4), (13, .pointer (some ⟨g17, 0, none⟩)), (39, .bool (!y197.1))]) (.cons rfl (.cons rfl (.cons rfl (.cons rfl (.cons rfl (.cons rfl (.nil _))))))) ?_
    refine ke_cond (t := !y197.1) rfl (fun hc212 => ?_) (fun hc212 => ?_)
    ·replace hS := ite_true' hS hc212
     refine ke_seq ?_
     refine ke_region_j (ρ := ρ211) (fun t => ([101, 102, 103] : List Nat).contains t) 8 Tryz.mixed (fun w214 hw213 => ?_)
     have htr215 := Tr.of_below hw213 hb.bd
     replace hB21 := hB21.mv (htr215.mv (i := 15) rfl)
     replace h16 := h16.mv htr215.rd
     replace hB210 := hB210.mv (htr215.mv (i := 100) rfl)
     replace hP203 := PtrO.mv hP203 secret_Locks.objK (fun p hp => htr215.mv (i := 100 + (1 + p)) (by rcases p with _ | _ | _ | p <;> first | rfl | omega)) (fun p hp => by show 100 + (1 + p) ≠ 0; omega)
     replace h205 := h205.mv (htr215.mv (i := 104) rfl)
     replace h207 := h207.mv (htr215.mv (i := 105) rfl)
     replace h209 := h209.mv (htr215.mv (i := 106) rfl)
     replace hb := hb.trans htr215
     refine dj_h 0 (.pointer (some ⟨gl_0, 0, none⟩)) hb.bd rfl (fun w1 ρ1 hw1 => ev_move rfl) ?_
     refine dj_h 1 (.pointer (some ⟨gl_0, 0, none⟩)) hb.bd rfl (fun w1 ρ1 hw1 => ev_nilCheck rfl) ?_
     refine dj_h 2 (.pointer (some ⟨gl_0, 0, none⟩)) hb.bd rfl (fun w1 ρ1 hw1 => ev_fieldAddr (i := 0) Tryz.underlying69 rfl Tryz.info64 rfl rfl) ?_
     refine dj_h 3 v202 hb.bd rfl (fun w1 ρ1 hw1 => ev_load Tryz.isAgg64 rfl ((hB210.mv (hw1.mv (i := 100) rfl)).cell rfl)) ?_
     refine dj_h 4 (.pointer (some ⟨g17, 0, none⟩)) hb.bd rfl (fun w1 ρ1 hw1 => ev_fieldAddr (i := 0) Tryz.underlying74 rfl Tryz.info9 rfl rfl) ?_
     refine dj_h 5 (str y10.1.user) hb.bd rfl (fun w1 ρ1 hw1 => ev_load Tryz.isAgg9 rfl ((hB21.mv (hw1.mv (i := 15) rfl)).cell rfl)) ?_
     refine dj_h 6 (.int .i64 now_3) hb.bd rfl (fun w1 ρ1 hw1 => ev_move rfl) ?_
     refine dj_E 7 (by kernel_rfl) rfl ?_
     have jt267 : Tr ρ211 w214 (fun t => ([101, 102, 103] : List Nat).contains t) ρ211 w214 := (Tr.refl hb.bd).weak (fun _ _ => rfl) rfl rfl
     rcases ho269 : y197.2.locks with _ | z268
     ·replace hS := optC_none hS ho269
      obtain rfl := hP203.none_ ho269
      obtain ⟨y287, hy288, hS⟩ := bind_some' hS
      refine sr_call (vs := [.pointer none, str y10.1.user, .int .i64 now_3]) rfl Tryz.call90 rfl (secret_Locks_Fail__nil_ok _ (hg.fr hz hb) (ρA := ρ211) hb.bd (hz.fr hg hb) hy288) (by decide) ?_
      rintro _ w289 ⟨rfl, hbw290⟩
      have htr291 := Tr.of_below hbw290 hb.bd
      replace hB210 := hB210.mv (htr291.mv (i := 100) rfl)
      replace h205 := h205.mv (htr291.mv (i := 104) rfl)
      replace h207 := h207.mv (htr291.mv (i := 105) rfl)
      replace h209 := h209.mv (htr291.mv (i := 106) rfl)
      replace hb := hb.trans htr291
      replace jt267 := (jt267.trans htr291).weak (J' := (fun t => ([101, 102, 103] : List Nat).contains t)) (by intro t h; simp [rng] at h ⊢ <;> omega) rfl rfl
      refine dj_next (l' := []) rfl (.nil _) jt267 (by intro t h; simp [rng] at h ⊢ <;> omega) rfl rfl ?_
      refine dj_done rfl (by kernel_rfl) ?_
      refine ke_weaken (l' := []) (.nil _) ?_
      refine ke_seq ?_
      refine ke_region ?_
      refine sr_ev (v := .int .i64 11) (ev_assign rfl) (by decide) ?_
      refine sr_end (l' := [(12, .int .i64 11)]) (.cons rfl (.nil _)) ?_
      cases hS
      exact ke_ret1 Tryz.func47 rfl rfl ⟨_, rfl, leave ρA w0 o 7 ρ211, rfl, ⟨_, _, _, _, (hB210.mv (leave_mv (p := 0) (by decide) hb)), PtrO.nil, (h205.mv (leave_mv (p := 4) (by decide) hb)), (h207.mv (leave_mv (p := 5) (by decide) hb)), (h209.mv (leave_mv (p := 6) (by decide) hb))⟩, (leave_tr ho2 hb)⟩
     ·replace hS := optC_some hS ho269
      obtain ⟨g270, rfl, ⟨v271, lp273, hB275, h272, hR274⟩⟩ := hP203.some_ ho269
      replace hB275 : Blk ρ211 101 w214 g270 (.cells #[.int .i64 z268.most, .int .i64 z268.window, .int .i64 z268.lock, v271] 134 (0, 0)) := hB275
      replace h272 : MapT str ptrC false ρ211 102 w214 v271 lp273 := h272
      replace hR274 : Recs secret_record.O 2 ρ211 103 w214 lp273 z268.users := hR274
      obtain ⟨y276, hy277, hS⟩ := bind_some' hS
      refine sr_call (vs := [.pointer (some ⟨g270, 0, none⟩), str y10.1.user, .int .i64 now_3]) rfl Tryz.call90 rfl (secret_Locks_Fail_ok _ (hg.fr hz hb) (ρA := ρ211) hb.bd (hz.fr hg hb) (o := 101) (by decide) (⟨_, _, hB275, h272, hR274⟩ : secret_Locks.O (fun p => 101 + p) ρ211 w214 g270 z268) hy277) (by decide) ?_
      rintro _ w278 ⟨ρ286, rfl, ⟨v281, lp283, hB285, h282, hR284⟩, htr280⟩
      replace hB210 := hB210.mv (htr280.mv (i := 100) rfl)
      replace h205 := h205.mv (htr280.mv (i := 104) rfl)
      replace h207 := h207.mv (htr280.mv (i := 105) rfl)
      replace h209 := h209.mv (htr280.mv (i := 106) rfl)
      replace hb := hb.trans htr280
      replace jt267 := (jt267.trans htr280).weak (J' := (fun t => ([101, 102, 103] : List Nat).contains t)) (by intro t h; simp [rng] at h ⊢ <;> omega) rfl rfl
      replace hB285 : Blk ρ286 101 w278 g270 (.cells #[.int .i64 y276.most, .int .i64 y276.window, .int .i64 y276.lock, v281] 134 (0, 0)) := hB285
      replace h282 : MapT str ptrC false ρ286 102 w278 v281 lp283 := h282
      replace hR284 : Recs secret_record.O 2 ρ286 103 w278 lp283 y276.users := hR284
      refine dj_next (l' := []) rfl (.nil _) jt267 (by intro t h; simp [rng] at h ⊢ <;> omega) rfl rfl ?_
      refine dj_done rfl (by kernel_rfl) ?_
      refine ke_weaken (l' := []) (.nil _) ?_
      refine ke_seq ?_
      refine ke_region ?_
      refine sr_ev (v := .int .i64 11) (ev_assign rfl) (by decide) ?_
      refine sr_end (l' := [(12, .int .i64 11)]) (.cons rfl (.nil _)) ?_
      cases hS
      exact ke_ret1 Tryz.func47 rfl rfl ⟨_, rfl, leave ρA w0 o 7 ρ286, rfl, ⟨_, _, _, _, (hB210.mv (leave_mv (p := 0) (by decide) hb)), (PtrO.mk ⟨_, _, (hB285.mv (leave_mv (p := 1) (by decide) hb)), (h282.mv (leave_mv (p := 2) (by decide) hb)), (Recs.mv hR284 secret_record.objK (leave_mv (p := 3) (by decide) hb) (Nat.ne_of_gt (Nat.lt_of_lt_of_le (Nat.lt_of_lt_of_le Nat.zero_lt_two ho2) (Nat.le_add_right _ _))))⟩), (h205.mv (leave_mv (p := 4) (by decide) hb)), (h207.mv (leave_mv (p := 5) (by decide) hb)), (h209.mv (leave_mv (p := 6) (by decide) hb))⟩, (leave_tr ho2 hb)⟩
    ·replace hS := ite_false' hS hc212
     refine ke_skip ?_
     refine ke_inBlock ?_
     refine ke_seq ?_
     refine ke_region ?_
     refine sr_ev (v := .pointer (some ⟨g17, 2, none⟩)) (ev_fieldAddr (i := 2) Tryz.underlying74 rfl Tryz.info36 rfl rfl) (by decide) ?_
     refine sr_ev (v := v15) (ev_load Tryz.isAgg36 rfl (hB21.cell rfl)) (by decide) ?_
     obtain ⟨y292, hy293, hS⟩ := bind_some' hS
     refine sr_call (vs := [v15]) rfl Tryz.call50 rfl (slices_Clone_api_Proof_api_Proof_ok _ (hg.fr hz hb) (ρA := ρ211) hb.bd (hz.fr hg hb) (o := 60) (by decide) h16 hy293) (by decide) ?_
     rintro v297 w294 ⟨ρ299, _, rfl, h298, htr296⟩
     replace hB21 := hB21.mv (htr296.mv (i := 15) rfl)
     replace h16 := h16.mv htr296.rd
     replace hB210 := hB210.mv (htr296.mv (i := 100) rfl)
     replace hP203 := PtrO.mv hP203 secret_Locks.objK (fun p hp => htr296.mv (i := 100 + (1 + p)) (by rcases p with _ | _ | _ | p <;> first | rfl | omega)) (fun p hp => by show 100 + (1 + p) ≠ 0; omega)
     replace h205 := h205.mv (htr296.mv (i := 104) rfl)
     replace h207 := h207.mv (htr296.mv (i := 105) rfl)
     replace h209 := h209.mv (htr296.mv (i := 106) rfl)
     replace hb := hb.trans htr296
     refine sr_ev (v := .int .i64 f_4) (ev_move rfl) (by decide) ?_
     refine sr_ev (v := .int .i64 now_3) (ev_move rfl) (by decide) ?_
     obtain ⟨y300, hy301, hS⟩ := bind_some' hS
     refine sr_call (vs := [.int .i64 now_3, .int .i64 0]) rfl Tryz.call39 rfl (clock_Add_ok _ (hg.fr hz hb) hy301) (by decide) ?_
     rintro _ w302 ⟨rfl, hbw303⟩
     have htr304 := Tr.of_below hbw303 hb.bd
     replace h298 := h298.mv (htr304.mv (i := 60) rfl) (by decide)
     replace hB21 := hB21.mv (htr304.mv (i := 15) rfl)
     replace h16 := h16.mv htr304.rd
     replace hB210 := hB210.mv (htr304.mv (i := 100) rfl)
     replace hP203 := PtrO.mv hP203 secret_Locks.objK (fun p hp => htr304.mv (i := 100 + (1 + p)) (by rcases p with _ | _ | _ | p <;> first | rfl | omega)) (fun p hp => by show 100 + (1 + p) ≠ 0; omega)
     replace h205 := h205.mv (htr304.mv (i := 104) rfl)
     replace h207 := h207.mv (htr304.mv (i := 105) rfl)
     replace h209 := h209.mv (htr304.mv (i := 106) rfl)
     replace hb := hb.trans htr304
     refine sr_ev (v := .agg #[.int .i64 f_4, .int .i64 y300]) (ev_build (vs := #[(0, .int .i64 f_4), (1, .int .i64 y300)]) rfl (fun _ => by kernel_rfl)) (by decide) ?_
     refine sr_litT (c := api_Proof.c) (ρ := ρ299) (E := 42) (xs := [(api_Proof.mk f_4 y300)]) (vs := #[(0, .agg #[.int .i64 f_4, .int .i64 y300])]) (cs := #[.int .i64 f_4, .int .i64 y300]) (css := [[.int .i64 f_4, .int .i64 y300]]) rfl (fun _ => by kernel_rfl) rfl ⟨rfl, trivial⟩ rfl (by decide) hb.bd (by decide) ?_
     intro v305 w307 h306 hbw309
     have htr308 := Tr.of_below hbw309 hb.bd
     replace h298 := h298.mv (htr308.mv (i := 60) rfl) (by decide)
     replace hB21 := hB21.mv (htr308.mv (i := 15) rfl)
     replace h16 := h16.mv htr308.rd
     replace hB210 := hB210.mv (htr308.mv (i := 100) rfl)
     replace hP203 := PtrO.mv hP203 secret_Locks.objK (fun p hp => htr308.mv (i := 100 + (1 + p)) (by rcases p with _ | _ | _ | p <;> first | rfl | omega)) (fun p hp => by show 100 + (1 + p) ≠ 0; omega)
     replace h205 := h205.mv (htr308.mv (i := 104) rfl)
     replace h207 := h207.mv (htr308.mv (i := 105) rfl)
     replace h209 := h209.mv (htr308.mv (i := 106) rfl)
     replace hb := hb.trans htr308
     obtain ⟨hk310, hS⟩ := chk_some hS
     refine sr_appendT (i := 60) (c := api_Proof.c) (ρ := ρ299) (E := 42) (xs := y292) (ys := ([(api_Proof.mk f_4 y300)] : List api_Proof)) h298 ((SlT.of_sl (i := 0) h306)).x Tryz.underlying36 Tryz.info42 rfl rfl rfl (by decide) (by decide) (by decide) hb.bd hk310 rfl rfl (by decide) ?_
     intro v311 ρ313 w314 h312 htr315
     replace hB21 := hB21.mv (htr315.mv (i := 15) rfl)
     replace h16 := h16.mv htr315.rd
     replace hB210 := hB210.mv (htr315.mv (i := 100) rfl)
     replace hP203 := PtrO.mv hP203 secret_Locks.objK (fun p hp => htr315.mv (i := 100 + (1 + p)) (by rcases p with _ | _ | _ | p <;> first | rfl | omega)) (fun p hp => by show 100 + (1 + p) ≠ 0; omega)
     replace h205 := h205.mv (htr315.mv (i := 104) rfl)
     replace h207 := h207.mv (htr315.mv (i := 105) rfl)
     replace h209 := h209.mv (htr315.mv (i := 106) rfl)
     replace hb := hb.trans htr315
     refine sr_ev (v := .pointer (some ⟨g17, 2, none⟩)) (ev_fieldAddr (i := 2) Tryz.underlying74 rfl Tryz.info36 rfl rfl) (by decide) ?_
     refine sr_storeT (v := v311) (vs := [v311]) (cs' := #[str y10.1.user, .int .i64 y10.1.begun, v311]) hB21 (by decide) hb.bd rfl rfl (one_cells (OwnT.oneCell h312)) Tryz.sizeOf36 rfl (by first | rfl | (simp only [List.all_cons, List.all_nil, OwnT.oneCell h312]; done) | (simp only [List.all_cons, List.all_nil, OwnT.oneCell h312]; rfl)) rfl ?_
     intro w316 hB211 htr317
     replace h312 := h312.mv (htr317.mv (i := 60) rfl) (by decide)
     replace hB210 := hB210.mv (htr317.mv (i := 100) rfl)
     replace hP203 := PtrO.mv hP203 secret_Locks.objK (fun p hp => htr317.mv (i := 100 + (1 + p)) (by rcases p with _ | _ | _ | p <;> first | rfl | omega)) (fun p hp => by show 100 + (1 + p) ≠ 0; omega)
     replace h205 := h205.mv (htr317.mv (i := 104) rfl)
     replace h207 := h207.mv (htr317.mv (i := 105) rfl)
     replace h209 := h209.mv (htr317.mv (i := 106) rfl)
     replace hb := hb.trans htr317
     replace hB21 : Blk ρ313 15 w316 g17 (.cells #[str y10.1.user, .int .i64 y10.1.begun, v311] 74 (0, 0)) := hB211
     clear hB211
     refine sr_end (l' := [(0, .pointer (some ⟨gl_0, 0, none⟩)), (1, str id_1), (13, .pointer (some ⟨g17, 0, none⟩))]) (.cons rfl (.cons rfl (.cons rfl (.nil _)))) ?_
     refine ke_seq ?_
     refine ke_region_j (ρ := ρ313) (fun t => ([60, 106] : List Nat).contains t) 7 Tryz.mixed (fun w319 hw318 => ?_)
     have htr320 := Tr.of_below hw318 hb.bd
     replace hB21 := hB21.mv (htr320.mv (i := 15) rfl)
     replace h312 := h312.mv (htr320.mv (i := 60) rfl) (by decide)
     replace hB210 := hB210.mv (htr320.mv (i := 100) rfl)
     replace hP203 := PtrO.mv hP203 secret_Locks.objK (fun p hp => htr320.mv (i := 100 + (1 + p)) (by rcases p with _ | _ | _ | p <;> first | rfl | omega)) (fun p hp => by show 100 + (1 + p) ≠ 0; omega)
     replace h205 := h205.mv (htr320.mv (i := 104) rfl)
     replace h207 := h207.mv (htr320.mv (i := 105) rfl)
     replace h209 := h209.mv (htr320.mv (i := 106) rfl)
     replace hb := hb.trans htr320
     refine dj_h 0 (.pointer (some ⟨gl_0, 0, none⟩)) hb.bd rfl (fun w1 ρ1 hw1 => ev_move rfl) ?_
     refine dj_h 1 (.pointer (some ⟨gl_0, 0, none⟩)) hb.bd rfl (fun w1 ρ1 hw1 => ev_nilCheck rfl) ?_
     refine dj_h 2 (.pointer (some ⟨gl_0, 3, none⟩)) hb.bd rfl (fun w1 ρ1 hw1 => ev_fieldAddr (i := 3) Tryz.underlying69 rfl Tryz.info67 rfl rfl) ?_
     refine dj_h 3 v208 hb.bd rfl (fun w1 ρ1 hw1 => ev_load Tryz.isAgg67 rfl ((hB210.mv (hw1.mv (i := 100) rfl)).cell rfl)) ?_
     refine dj_h 4 (str id_1) hb.bd rfl (fun w1 ρ1 hw1 => ev_move rfl) ?_
     refine dj_h 5 (.agg #[str y10.1.user, .int .i64 y10.1.begun, v311]) hb.bd rfl (fun w1 ρ1 hw1 => ev_loads (cs := [str y10.1.user, .int .i64 y10.1.begun, v311]) Tryz.isAgg74 Tryz.sizeOf74 rfl ((hB21.mv (hw1.mv (i := 15) rfl)).cells (vs := [str y10.1.user, .int .i64 y10.1.begun, v311]) rfl)) ?_
     refine dj_E 6 (by kernel_rfl) rfl ?_
     have jt334 : Tr ρ313 w319 (fun t => ([60, 106] : List Nat).contains t) ρ313 w319 := (Tr.refl hb.bd).weak (fun _ _ => rfl) rfl rfl
     have htr335 := frz_tr (ρ := ρ313) (w := w319) (i := 60) (by decide) hb.bd
     have h336 : SlR api_Proof.c (Wb (frz ρ313 60)) w319 v311 (y292 ++ ([(api_Proof.mk f_4 y300)] : List api_Proof)) := (SlT.mv h312.sl (frz_mv (ρ := ρ313) (w := w319) (i := 60))).sl
     replace h209 := h209.mv (htr335.mv (i := 106) rfl)
     replace hB210 := hB210.mv (htr335.mv (i := 100) rfl)
     replace hP203 := PtrO.mv hP203 secret_Locks.objK (fun p hp => htr335.mv (i := 100 + (1 + p)) (by rcases p with _ | _ | _ | p <;> first | rfl | omega)) (fun p hp => by show 100 + (1 + p) ≠ 0; omega)
     replace h205 := h205.mv (htr335.mv (i := 104) rfl)
     replace h207 := h207.mv (htr335.mv (i := 105) rfl)
     replace hb := hb.trans htr335
     replace jt334 := (jt334.trans htr335).weak (J' := (fun t => ([60, 106] : List Nat).contains t)) (by intro t h; simp [rng] at h ⊢ <;> omega) rfl rfl
     obtain ⟨hk337, hS⟩ := chk_some hS
     refine sr_mapPut (k := id_1) (d := (login_attempt.mk y10.1.user y10.1.begun (y292 ++ ([(api_Proof.mk f_4 y300)] : List api_Proof)))) (u := .agg #[str y10.1.user, .int .i64 y10.1.begun, v311]) (cs := [str y10.1.user, .int .i64 y10.1.begun, v311]) h209 hk337 Tryz.keyB9 Tryz.underlying67 (by decide) hb.bd rfl ⟨_, rfl, h336⟩ rfl rfl rfl ?_
     intro w338 h2091 htr339
     replace hB210 := hB210.mv (htr339.mv (i := 100) rfl)
     replace hP203 := PtrO.mv hP203 secret_Locks.objK (fun p hp => htr339.mv (i := 100 + (1 + p)) (by rcases p with _ | _ | _ | p <;> first | rfl | omega)) (fun p hp => by show 100 + (1 + p) ≠ 0; omega)
     replace h205 := h205.mv (htr339.mv (i := 104) rfl)
     replace h207 := h207.mv (htr339.mv (i := 105) rfl)
     replace hb := hb.trans htr339
     replace jt334 := (jt334.trans htr339).weak (J' := (fun t => ([60, 106] : List Nat).contains t)) (by intro t h; simp [rng] at h ⊢ <;> omega) rfl rfl
     replace h209 := h2091
     clear h2091
     refine dj_next (l' := []) rfl (.nil _) jt334 (by intro t h; simp [rng] at h ⊢ <;> omega) rfl rfl ?_
     refine dj_done rfl (by kernel_rfl) ?_
     refine ke_weaken (l' := []) (.nil _) ?_
     refine ke_seq ?_
     refine ke_region ?_
     refine sr_ev (v := .int .i64 0) (ev_assign rfl) (by decide) ?_
     refine sr_end (l' := [(12, .int .i64 0)]) (.cons rfl (.nil _)) ?_
     cases hS
     exact ke_ret1 Tryz.func47 rfl rfl ⟨_, rfl, leave ρA w0 o 7 (frz ρ313 60), rfl, ⟨_, _, _, _, (hB210.mv (leave_mv (p := 0) (by decide) hb)), (PtrO.mv hP203 secret_Locks.objK (fun p hp => leave_mv (p := 1 + p) (by omega) hb) (fun p hp => by show o + (1 + p) ≠ 0; omega)), (h205.mv (leave_mv (p := 4) (by decide) hb)), (h207.mv (leave_mv (p := 5) (by decide) hb)), (h209.mv (leave_mv (p := 6) (by decide) hb))⟩, (leave_tr ho2 hb)⟩
   ·replace hS := optC_some hS ho34
    obtain ⟨g35, rfl, ⟨v36, lp38, hB40, h37, hR39⟩⟩ := hP2.some_ ho34
    replace hB40 : Blk ρ18 101 w27 g35 (.cells #[.int .i64 z33.most, .int .i64 z33.window, .int .i64 z33.lock, v36] 134 (0, 0)) := hB40
    replace h37 : MapT str ptrC false ρ18 102 w27 v36 lp38 := h37
    replace hR39 : Recs secret_record.O 2 ρ18 103 w27 lp38 z33.users := hR39
    obtain ⟨y41, hy42, hS⟩ := bind_some' hS
    refine sq_call (v := .bool y41) (vs := [.pointer (some ⟨g35, 0, none⟩), str y10.1.user, .int .i64 now_3]) rfl Tryz.call57 rfl (fun w1 hw1 => (secret_Locks_Locked_ok _ ((hg.fr hz hb).below hw1) (ρA := ρ18) (fun b h => Nat.lt_of_lt_of_le (hb.bd b h) hw1.size) (hz.fr hg hb) (τ0 := (fun p => 101 + p)) (fun p => Nat.le_add_right_of_le (by decide)) (⟨_, _, (hB40.mv (Mv.of_below (i := 101) (ρ := ρ18) hw1)), (h37.mv (Mv.of_below (i := 102) (ρ := ρ18) hw1)), (Recs.mv hR39 secret_record.objK (Mv.of_below (i := 103) (ρ := ρ18) hw1) (by decide))⟩ : secret_Locks.O (fun p => 101 + p) ρ18 w1 g35 z33) hy42)) (by decide) ?_
    refine sq_ev (v := .bool y41) (fun w1 hw1 => ev_assign rfl) (by decide) ?_
    refine sq_end (l' := [(0, .pointer (some ⟨gl_0, 0, none⟩)), (1, str id_1), (2, str text_2), (3, .int .i64 now_3), (4, .int .i64 f_4), (5, .func (.func 53) #[] #[]), (13, .pointer (some ⟨g17, 0, none⟩)), (30, .bool y41)]) (.cons rfl (.cons rfl (.cons rfl (.cons rfl (.cons rfl (.cons rfl (.cons rfl (.cons rfl (.nil _))))))))) (fun w32 hw31 => ?_)
    have htr46 := Tr.of_below hw31 hb.bd
    replace hB21 := hB21.mv (htr46.mv (i := 15) rfl)
    replace h16 := h16.mv htr46.rd
    replace hB9 := hB9.mv (htr46.mv (i := 100) rfl)
    replace hP2 := PtrO.mv hP2 secret_Locks.objK (fun p hp => htr46.mv (i := 100 + (1 + p)) (by rcases p with _ | _ | _ | p <;> first | rfl | omega)) (fun p hp => by show 100 + (1 + p) ≠ 0; omega)
    replace h4 := h4.mv (htr46.mv (i := 104) rfl)
    replace h6 := h6.mv (htr46.mv (i := 105) rfl)
    replace h8 := h8.mv (htr46.mv (i := 106) rfl)
    replace hb := hb.trans htr46
    refine ke_cond (t := y41) rfl (fun hc47 => ?_) (fun hc47 => ?_)
    ·replace hS := ite_true' hS hc47
     refine ke_seq ?_
     refine ke_region ?_
     refine sr_ev (v := .int .i64 22) (ev_assign rfl) (by decide) ?_
     refine sr_end (l' := [(12, .int .i64 22)]) (.cons rfl (.nil _)) ?_
     cases hS
     exact ke_ret1 Tryz.func47 rfl rfl ⟨_, rfl, leave ρA w0 o 7 ρ18, rfl, ⟨_, _, _, _, (hB9.mv (leave_mv (p := 0) (by decide) hb)), (PtrO.mv hP2 secret_Locks.objK (fun p hp => leave_mv (p := 1 + p) (by omega) hb) (fun p hp => by show o + (1 + p) ≠ 0; omega)), (h4.mv (leave_mv (p := 4) (by decide) hb)), (h6.mv (leave_mv (p := 5) (by decide) hb)), (h8.mv (leave_mv (p := 6) (by decide) hb))⟩, (leave_tr ho2 hb)⟩
    ·replace hS := ite_false' hS hc47
     refine ke_seq ?_
     refine ke_region ?_
     refine sr_ev (v := .func (.func 53) #[] #[]) (ev_move rfl) (by decide) ?_
     refine sr_ev (v := .pointer (some ⟨gl_0, 0, none⟩)) (ev_move rfl) (by decide) ?_
     refine sr_ev (v := .pointer (some ⟨g17, 0, none⟩)) (ev_fieldAddr (i := 0) Tryz.underlying74 rfl Tryz.info9 rfl rfl) (by decide) ?_
     refine sr_ev (v := str y10.1.user) (ev_load Tryz.isAgg9 rfl (hB21.cell rfl)) (by decide) ?_
     refine sr_ev (v := str text_2) (ev_move rfl) (by decide) ?_
     refine sr_ev (v := .int .i64 now_3) (ev_move rfl) (by decide) ?_
     obtain ⟨y48, hy49, hS⟩ := bind_some' hS
     refine sr_call (vs := [.pointer (some ⟨gl_0, 0, none⟩), str y10.1.user, str text_2, .int .i64 now_3]) rfl Tryz.call53 rfl (login_Logins_byPassword_ok _ (hg.fr hz hb) (ρA := ρ18) hb.bd (hz.fr hg hb) (o := 100) (by decide) (⟨_, _, _, _, hB9, hP2, h4, h6, h8⟩ : login_Logins.O (fun p => 100 + p) ρ18 w32 gl_0 l_0) hy49) (by decide) ?_
     rintro _ w50 ⟨ρ62, rfl, ⟨v53, v55, v57, v59, hB61, hP54, h56, h58, h60⟩, htr52⟩
     replace hB21 := hB21.mv (htr52.mv (i := 15) rfl)
     replace h16 := h16.mv htr52.rd
     replace hb := hb.trans htr52
     replace hB61 : Blk ρ62 100 w50 gl_0 (.cells #[v53, v55, v57, v59] 69 (0, 0)) := hB61
     replace hP54 : PtrO secret_Locks.O (fun q => 100 + (1 + q)) ρ62 w50 v53 y48.2.locks := hP54
     replace h56 : MapT str login_credentials.c true ρ62 104 w50 v55 y48.2.users := h56
     replace h58 : MapT str (intC .i64) false ρ62 105 w50 v57 y48.2.counters := h58
     replace h60 : MapT str login_attempt.c true ρ62 106 w50 v59 y48.2.attempts := h60
     refine sr_ev (v := .bool (!y48.1)) (ev_not rfl) (by decide) ?_
     refine sr_ev (v := .bool (!y48.1)) (ev_assign rfl) (by decide) ?_
     refine sr_end (l' := [(0, .pointer (some ⟨gl_0, 0, none⟩)), (1, str id_1), (3, .int .i64 now_3), (4, .int .i64 f_4), (13, .pointer (some ⟨g17, 0, none⟩)), (39, .bool (!y48.1))]) (.cons rfl (.cons rfl (.cons rfl (.cons rfl (.cons rfl (.cons rfl (.nil _))))))) ?_
     refine ke_cond (t := !y48.1) rfl (fun hc63 => ?_) (fun hc63 => ?_)
     ·replace hS := ite_true' hS hc63
      refine ke_seq ?_
      refine ke_region_j (ρ := ρ62) (fun t => ([101, 102, 103] : List Nat).contains t) 8 Tryz.mixed (fun w65 hw64 => ?_)
      have htr66 := Tr.of_below hw64 hb.bd
      replace hB21 := hB21.mv (htr66.mv (i := 15) rfl)
      replace h16 := h16.mv htr66.rd
      replace hB61 := hB61.mv (htr66.mv (i := 100) rfl)
      replace hP54 := PtrO.mv hP54 secret_Locks.objK (fun p hp => htr66.mv (i := 100 + (1 + p)) (by rcases p with _ | _ | _ | p <;> first | rfl | omega)) (fun p hp => by show 100 + (1 + p) ≠ 0; omega)
      replace h56 := h56.mv (htr66.mv (i := 104) rfl)
      replace h58 := h58.mv (htr66.mv (i := 105) rfl)
      replace h60 := h60.mv (htr66.mv (i := 106) rfl)
      replace hb := hb.trans htr66
      refine dj_h 0 (.pointer (some ⟨gl_0, 0, none⟩)) hb.bd rfl (fun w1 ρ1 hw1 => ev_move rfl) ?_
      refine dj_h 1 (.pointer (some ⟨gl_0, 0, none⟩)) hb.bd rfl (fun w1 ρ1 hw1 => ev_nilCheck rfl) ?_
      refine dj_h 2 (.pointer (some ⟨gl_0, 0, none⟩)) hb.bd rfl (fun w1 ρ1 hw1 => ev_fieldAddr (i := 0) Tryz.underlying69 rfl Tryz.info64 rfl rfl) ?_
      refine dj_h 3 v53 hb.bd rfl (fun w1 ρ1 hw1 => ev_load Tryz.isAgg64 rfl ((hB61.mv (hw1.mv (i := 100) rfl)).cell rfl)) ?_
      refine dj_h 4 (.pointer (some ⟨g17, 0, none⟩)) hb.bd rfl (fun w1 ρ1 hw1 => ev_fieldAddr (i := 0) Tryz.underlying74 rfl Tryz.info9 rfl rfl) ?_
      refine dj_h 5 (str y10.1.user) hb.bd rfl (fun w1 ρ1 hw1 => ev_load Tryz.isAgg9 rfl ((hB21.mv (hw1.mv (i := 15) rfl)).cell rfl)) ?_
      refine dj_h 6 (.int .i64 now_3) hb.bd rfl (fun w1 ρ1 hw1 => ev_move rfl) ?_
      refine dj_E 7 (by kernel_rfl) rfl ?_
      have jt118 : Tr ρ62 w65 (fun t => ([101, 102, 103] : List Nat).contains t) ρ62 w65 := (Tr.refl hb.bd).weak (fun _ _ => rfl) rfl rfl
      rcases ho120 : y48.2.locks with _ | z119
      ·replace hS := optC_none hS ho120
       obtain rfl := hP54.none_ ho120
       obtain ⟨y138, hy139, hS⟩ := bind_some' hS
       refine sr_call (vs := [.pointer none, str y10.1.user, .int .i64 now_3]) rfl Tryz.call90 rfl (secret_Locks_Fail__nil_ok _ (hg.fr hz hb) (ρA := ρ62) hb.bd (hz.fr hg hb) hy139) (by decide) ?_
       rintro _ w140 ⟨rfl, hbw141⟩
       have htr142 := Tr.of_below hbw141 hb.bd
       replace hB61 := hB61.mv (htr142.mv (i := 100) rfl)
       replace h56 := h56.mv (htr142.mv (i := 104) rfl)
       replace h58 := h58.mv (htr142.mv (i := 105) rfl)
       replace h60 := h60.mv (htr142.mv (i := 106) rfl)
       replace hb := hb.trans htr142
       replace jt118 := (jt118.trans htr142).weak (J' := (fun t => ([101, 102, 103] : List Nat).contains t)) (by intro t h; simp [rng] at h ⊢ <;> omega) rfl rfl
       refine dj_next (l' := []) rfl (.nil _) jt118 (by intro t h; simp [rng] at h ⊢ <;> omega) rfl rfl ?_
       refine dj_done rfl (by kernel_rfl) ?_
       refine ke_weaken (l' := []) (.nil _) ?_
       refine ke_seq ?_
       refine ke_region ?_
       refine sr_ev (v := .int .i64 11) (ev_assign rfl) (by decide) ?_
       refine sr_end (l' := [(12, .int .i64 11)]) (.cons rfl (.nil _)) ?_
       cases hS
       exact ke_ret1 Tryz.func47 rfl rfl ⟨_, rfl, leave ρA w0 o 7 ρ62, rfl, ⟨_, _, _, _, (hB61.mv (leave_mv (p := 0) (by decide) hb)), PtrO.nil, (h56.mv (leave_mv (p := 4) (by decide) hb)), (h58.mv (leave_mv (p := 5) (by decide) hb)), (h60.mv (leave_mv (p := 6) (by decide) hb))⟩, (leave_tr ho2 hb)⟩
      ·replace hS := optC_some hS ho120
       obtain ⟨g121, rfl, ⟨v122, lp124, hB126, h123, hR125⟩⟩ := hP54.some_ ho120
       replace hB126 : Blk ρ62 101 w65 g121 (.cells #[.int .i64 z119.most, .int .i64 z119.window, .int .i64 z119.lock, v122] 134 (0, 0)) := hB126
       replace h123 : MapT str ptrC false ρ62 102 w65 v122 lp124 := h123
       replace hR125 : Recs secret_record.O 2 ρ62 103 w65 lp124 z119.users := hR125
       obtain ⟨y127, hy128, hS⟩ := bind_some' hS
       refine sr_call (vs := [.pointer (some ⟨g121, 0, none⟩), str y10.1.user, .int .i64 now_3]) rfl Tryz.call90 rfl (secret_Locks_Fail_ok _ (hg.fr hz hb) (ρA := ρ62) hb.bd (hz.fr hg hb) (o := 101) (by decide) (⟨_, _, hB126, h123, hR125⟩ : secret_Locks.O (fun p => 101 + p) ρ62 w65 g121 z119) hy128) (by decide) ?_
       rintro _ w129 ⟨ρ137, rfl, ⟨v132, lp134, hB136, h133, hR135⟩, htr131⟩
       replace hB61 := hB61.mv (htr131.mv (i := 100) rfl)
       replace h56 := h56.mv (htr131.mv (i := 104) rfl)
       replace h58 := h58.mv (htr131.mv (i := 105) rfl)
       replace h60 := h60.mv (htr131.mv (i := 106) rfl)
       replace hb := hb.trans htr131
       replace jt118 := (jt118.trans htr131).weak (J' := (fun t => ([101, 102, 103] : List Nat).contains t)) (by intro t h; simp [rng] at h ⊢ <;> omega) rfl rfl
       replace hB136 : Blk ρ137 101 w129 g121 (.cells #[.int .i64 y127.most, .int .i64 y127.window, .int .i64 y127.lock, v132] 134 (0, 0)) := hB136
       replace h133 : MapT str ptrC false ρ137 102 w129 v132 lp134 := h133
       replace hR135 : Recs secret_record.O 2 ρ137 103 w129 lp134 y127.users := hR135
       refine dj_next (l' := []) rfl (.nil _) jt118 (by intro t h; simp [rng] at h ⊢ <;> omega) rfl rfl ?_
       refine dj_done rfl (by kernel_rfl) ?_
       refine ke_weaken (l' := []) (.nil _) ?_
       refine ke_seq ?_
       refine ke_region ?_
       refine sr_ev (v := .int .i64 11) (ev_assign rfl) (by decide) ?_
       refine sr_end (l' := [(12, .int .i64 11)]) (.cons rfl (.nil _)) ?_
       cases hS
       exact ke_ret1 Tryz.func47 rfl rfl ⟨_, rfl, leave ρA w0 o 7 ρ137, rfl, ⟨_, _, _, _, (hB61.mv (leave_mv (p := 0) (by decide) hb)), (PtrO.mk ⟨_, _, (hB136.mv (leave_mv (p := 1) (by decide) hb)), (h133.mv (leave_mv (p := 2) (by decide) hb)), (Recs.mv hR135 secret_record.objK (leave_mv (p := 3) (by decide) hb) (Nat.ne_of_gt (Nat.lt_of_lt_of_le (Nat.lt_of_lt_of_le Nat.zero_lt_two ho2) (Nat.le_add_right _ _))))⟩), (h56.mv (leave_mv (p := 4) (by decide) hb)), (h58.mv (leave_mv (p := 5) (by decide) hb)), (h60.mv (leave_mv (p := 6) (by decide) hb))⟩, (leave_tr ho2 hb)⟩
     ·replace hS := ite_false' hS hc63
      refine ke_skip ?_
      refine ke_inBlock ?_
      refine ke_seq ?_
      refine ke_region ?_
      refine sr_ev (v := .pointer (some ⟨g17, 2, none⟩)) (ev_fieldAddr (i := 2) Tryz.underlying74 rfl Tryz.info36 rfl rfl) (by decide) ?_
      refine sr_ev (v := v15) (ev_load Tryz.isAgg36 rfl (hB21.cell rfl)) (by decide) ?_
      obtain ⟨y143, hy144, hS⟩ := bind_some' hS
      refine sr_call (vs := [v15]) rfl Tryz.call50 rfl (slices_Clone_api_Proof_api_Proof_ok _ (hg.fr hz hb) (ρA := ρ62) hb.bd (hz.fr hg hb) (o := 60) (by decide) h16 hy144) (by decide) ?_
      rintro v148 w145 ⟨ρ150, _, rfl, h149, htr147⟩
      replace hB21 := hB21.mv (htr147.mv (i := 15) rfl)
      replace h16 := h16.mv htr147.rd
      replace hB61 := hB61.mv (htr147.mv (i := 100) rfl)
      replace hP54 := PtrO.mv hP54 secret_Locks.objK (fun p hp => htr147.mv (i := 100 + (1 + p)) (by rcases p with _ | _ | _ | p <;> first | rfl | omega)) (fun p hp => by show 100 + (1 + p) ≠ 0; omega)
      replace h56 := h56.mv (htr147.mv (i := 104) rfl)
      replace h58 := h58.mv (htr147.mv (i := 105) rfl)
      replace h60 := h60.mv (htr147.mv (i := 106) rfl)
      replace hb := hb.trans htr147
      refine sr_ev (v := .int .i64 f_4) (ev_move rfl) (by decide) ?_
      refine sr_ev (v := .int .i64 now_3) (ev_move rfl) (by decide) ?_
      obtain ⟨y151, hy152, hS⟩ := bind_some' hS
      refine sr_call (vs := [.int .i64 now_3, .int .i64 0]) rfl Tryz.call39 rfl (clock_Add_ok _ (hg.fr hz hb) hy152) (by decide) ?_
      rintro _ w153 ⟨rfl, hbw154⟩
      have htr155 := Tr.of_below hbw154 hb.bd
      replace h149 := h149.mv (htr155.mv (i := 60) rfl) (by decide)
      replace hB21 := hB21.mv (htr155.mv (i := 15) rfl)
      replace h16 := h16.mv htr155.rd
      replace hB61 := hB61.mv (htr155.mv (i := 100) rfl)
      replace hP54 := PtrO.mv hP54 secret_Locks.objK (fun p hp => htr155.mv (i := 100 + (1 + p)) (by rcases p with _ | _ | _ | p <;> first | rfl | omega)) (fun p hp => by show 100 + (1 + p) ≠ 0; omega)
      replace h56 := h56.mv (htr155.mv (i := 104) rfl)
      replace h58 := h58.mv (htr155.mv (i := 105) rfl)
      replace h60 := h60.mv (htr155.mv (i := 106) rfl)
      replace hb := hb.trans htr155
      refine sr_ev (v := .agg #[.int .i64 f_4, .int .i64 y151]) (ev_build (vs := #[(0, .int .i64 f_4), (1, .int .i64 y151)]) rfl (fun _ => by kernel_rfl)) (by decide) ?_
      refine sr_litT (c := api_Proof.c) (ρ := ρ150) (E := 42) (xs := [(api_Proof.mk f_4 y151)]) (vs := #[(0, .agg #[.int .i64 f_4, .int .i64 y151])]) (cs := #[.int .i64 f_4, .int .i64 y151]) (css := [[.int .i64 f_4, .int .i64 y151]]) rfl (fun _ => by kernel_rfl) rfl ⟨rfl, trivial⟩ rfl (by decide) hb.bd (by decide) ?_
      intro v156 w158 h157 hbw160
      have htr159 := Tr.of_below hbw160 hb.bd
      replace h149 := h149.mv (htr159.mv (i := 60) rfl) (by decide)
      replace hB21 := hB21.mv (htr159.mv (i := 15) rfl)
      replace h16 := h16.mv htr159.rd
      replace hB61 := hB61.mv (htr159.mv (i := 100) rfl)
      replace hP54 := PtrO.mv hP54 secret_Locks.objK (fun p hp => htr159.mv (i := 100 + (1 + p)) (by rcases p with _ | _ | _ | p <;> first | rfl | omega)) (fun p hp => by show 100 + (1 + p) ≠ 0; omega)
      replace h56 := h56.mv (htr159.mv (i := 104) rfl)
      replace h58 := h58.mv (htr159.mv (i := 105) rfl)
      replace h60 := h60.mv (htr159.mv (i := 106) rfl)
      replace hb := hb.trans htr159
      obtain ⟨hk161, hS⟩ := chk_some hS
      refine sr_appendT (i := 60) (c := api_Proof.c) (ρ := ρ150) (E := 42) (xs := y143) (ys := ([(api_Proof.mk f_4 y151)] : List api_Proof)) h149 ((SlT.of_sl (i := 0) h157)).x Tryz.underlying36 Tryz.info42 rfl rfl rfl (by decide) (by decide) (by decide) hb.bd hk161 rfl rfl (by decide) ?_
      intro v162 ρ164 w165 h163 htr166
      replace hB21 := hB21.mv (htr166.mv (i := 15) rfl)
      replace h16 := h16.mv htr166.rd
      replace hB61 := hB61.mv (htr166.mv (i := 100) rfl)
      replace hP54 := PtrO.mv hP54 secret_Locks.objK (fun p hp => htr166.mv (i := 100 + (1 + p)) (by rcases p with _ | _ | _ | p <;> first | rfl | omega)) (fun p hp => by show 100 + (1 + p) ≠ 0; omega)
      replace h56 := h56.mv (htr166.mv (i := 104) rfl)
      replace h58 := h58.mv (htr166.mv (i := 105) rfl)
      replace h60 := h60.mv (htr166.mv (i := 106) rfl)
      replace hb := hb.trans htr166
      refine sr_ev (v := .pointer (some ⟨g17, 2, none⟩)) (ev_fieldAddr (i := 2) Tryz.underlying74 rfl Tryz.info36 rfl rfl) (by decide) ?_
      refine sr_storeT (v := v162) (vs := [v162]) (cs' := #[str y10.1.user, .int .i64 y10.1.begun, v162]) hB21 (by decide) hb.bd rfl rfl (one_cells (OwnT.oneCell h163)) Tryz.sizeOf36 rfl (by first | rfl | (simp only [List.all_cons, List.all_nil, OwnT.oneCell h163]; done) | (simp only [List.all_cons, List.all_nil, OwnT.oneCell h163]; rfl)) rfl ?_
      intro w167 hB211 htr168
      replace h163 := h163.mv (htr168.mv (i := 60) rfl) (by decide)
      replace hB61 := hB61.mv (htr168.mv (i := 100) rfl)
      replace hP54 := PtrO.mv hP54 secret_Locks.objK (fun p hp => htr168.mv (i := 100 + (1 + p)) (by rcases p with _ | _ | _ | p <;> first | rfl | omega)) (fun p hp => by show 100 + (1 + p) ≠ 0; omega)
      replace h56 := h56.mv (htr168.mv (i := 104) rfl)
      replace h58 := h58.mv (htr168.mv (i := 105) rfl)
      replace h60 := h60.mv (htr168.mv (i := 106) rfl)
      replace hb := hb.trans htr168
      replace hB21 : Blk ρ164 15 w167 g17 (.cells #[str y10.1.user, .int .i64 y10.1.begun, v162] 74 (0, 0)) := hB211
      clear hB211
      refine sr_end (l' := [(0, .pointer (some ⟨gl_0, 0, none⟩)), (1, str id_1), (13, .pointer (some ⟨g17, 0, none⟩))]) (.cons rfl (.cons rfl (.cons rfl (.nil _)))) ?_
      refine ke_seq ?_
      refine ke_region_j (ρ := ρ164) (fun t => ([60, 106] : List Nat).contains t) 7 Tryz.mixed (fun w170 hw169 => ?_)
      have htr171 := Tr.of_below hw169 hb.bd
      replace hB21 := hB21.mv (htr171.mv (i := 15) rfl)
      replace h163 := h163.mv (htr171.mv (i := 60) rfl) (by decide)
      replace hB61 := hB61.mv (htr171.mv (i := 100) rfl)
      replace hP54 := PtrO.mv hP54 secret_Locks.objK (fun p hp => htr171.mv (i := 100 + (1 + p)) (by rcases p with _ | _ | _ | p <;> first | rfl | omega)) (fun p hp => by show 100 + (1 + p) ≠ 0; omega)
      replace h56 := h56.mv (htr171.mv (i := 104) rfl)
      replace h58 := h58.mv (htr171.mv (i := 105) rfl)
      replace h60 := h60.mv (htr171.mv (i := 106) rfl)
      replace hb := hb.trans htr171
      refine dj_h 0 (.pointer (some ⟨gl_0, 0, none⟩)) hb.bd rfl (fun w1 ρ1 hw1 => ev_move rfl) ?_
      refine dj_h 1 (.pointer (some ⟨gl_0, 0, none⟩)) hb.bd rfl (fun w1 ρ1 hw1 => ev_nilCheck rfl) ?_
      refine dj_h 2 (.pointer (some ⟨gl_0, 3, none⟩)) hb.bd rfl (fun w1 ρ1 hw1 => ev_fieldAddr (i := 3) Tryz.underlying69 rfl Tryz.info67 rfl rfl) ?_
      refine dj_h 3 v59 hb.bd rfl (fun w1 ρ1 hw1 => ev_load Tryz.isAgg67 rfl ((hB61.mv (hw1.mv (i := 100) rfl)).cell rfl)) ?_
      refine dj_h 4 (str id_1) hb.bd rfl (fun w1 ρ1 hw1 => ev_move rfl) ?_
      refine dj_h 5 (.agg #[str y10.1.user, .int .i64 y10.1.begun, v162]) hb.bd rfl (fun w1 ρ1 hw1 => ev_loads (cs := [str y10.1.user, .int .i64 y10.1.begun, v162]) Tryz.isAgg74 Tryz.sizeOf74 rfl ((hB21.mv (hw1.mv (i := 15) rfl)).cells (vs := [str y10.1.user, .int .i64 y10.1.begun, v162]) rfl)) ?_
      refine dj_E 6 (by kernel_rfl) rfl ?_
      have jt185 : Tr ρ164 w170 (fun t => ([60, 106] : List Nat).contains t) ρ164 w170 := (Tr.refl hb.bd).weak (fun _ _ => rfl) rfl rfl
      have htr186 := frz_tr (ρ := ρ164) (w := w170) (i := 60) (by decide) hb.bd
      have h187 : SlR api_Proof.c (Wb (frz ρ164 60)) w170 v162 (y143 ++ ([(api_Proof.mk f_4 y151)] : List api_Proof)) := (SlT.mv h163.sl (frz_mv (ρ := ρ164) (w := w170) (i := 60))).sl
      replace h60 := h60.mv (htr186.mv (i := 106) rfl)
      replace hB61 := hB61.mv (htr186.mv (i := 100) rfl)
      replace hP54 := PtrO.mv hP54 secret_Locks.objK (fun p hp => htr186.mv (i := 100 + (1 + p)) (by rcases p with _ | _ | _ | p <;> first | rfl | omega)) (fun p hp => by show 100 + (1 + p) ≠ 0; omega)
      replace h56 := h56.mv (htr186.mv (i := 104) rfl)
      replace h58 := h58.mv (htr186.mv (i := 105) rfl)
      replace hb := hb.trans htr186
      replace jt185 := (jt185.trans htr186).weak (J' := (fun t => ([60, 106] : List Nat).contains t)) (by intro t h; simp [rng] at h ⊢ <;> omega) rfl rfl
      obtain ⟨hk188, hS⟩ := chk_some hS
      refine sr_mapPut (k := id_1) (d := (login_attempt.mk y10.1.user y10.1.begun (y143 ++ ([(api_Proof.mk f_4 y151)] : List api_Proof)))) (u := .agg #[str y10.1.user, .int .i64 y10.1.begun, v162]) (cs := [str y10.1.user, .int .i64 y10.1.begun, v162]) h60 hk188 Tryz.keyB9 Tryz.underlying67 (by decide) hb.bd rfl ⟨_, rfl, h187⟩ rfl rfl rfl ?_
      intro w189 h601 htr190
      replace hB61 := hB61.mv (htr190.mv (i := 100) rfl)
      replace hP54 := PtrO.mv hP54 secret_Locks.objK (fun p hp => htr190.mv (i := 100 + (1 + p)) (by rcases p with _ | _ | _ | p <;> first | rfl | omega)) (fun p hp => by show 100 + (1 + p) ≠ 0; omega)
      replace h56 := h56.mv (htr190.mv (i := 104) rfl)
      replace h58 := h58.mv (htr190.mv (i := 105) rfl)
      replace hb := hb.trans htr190
      replace jt185 := (jt185.trans htr190).weak (J' := (fun t => ([60, 106] : List Nat).contains t)) (by intro t h; simp [rng] at h ⊢ <;> omega) rfl rfl
      replace h60 := h601
      clear h601
      refine dj_next (l' := []) rfl (.nil _) jt185 (by intro t h; simp [rng] at h ⊢ <;> omega) rfl rfl ?_
      refine dj_done rfl (by kernel_rfl) ?_
      refine ke_weaken (l' := []) (.nil _) ?_
      refine ke_seq ?_
      refine ke_region ?_
      refine sr_ev (v := .int .i64 0) (ev_assign rfl) (by decide) ?_
      refine sr_end (l' := [(12, .int .i64 0)]) (.cons rfl (.nil _)) ?_
      cases hS
      exact ke_ret1 Tryz.func47 rfl rfl ⟨_, rfl, leave ρA w0 o 7 (frz ρ164 60), rfl, ⟨_, _, _, _, (hB61.mv (leave_mv (p := 0) (by decide) hb)), (PtrO.mv hP54 secret_Locks.objK (fun p hp => leave_mv (p := 1 + p) (by omega) hb) (fun p hp => by show o + (1 + p) ≠ 0; omega)), (h56.mv (leave_mv (p := 4) (by decide) hb)), (h58.mv (leave_mv (p := 5) (by decide) hb)), (h60.mv (leave_mv (p := 6) (by decide) hb))⟩, (leave_tr ho2 hb)⟩
theorem login_Logins_Password_ok (w0 : World) (hg : Gs w0) {ρA : Tags} (hbd : ∀ b, ρA b ≠ 0 → b < w0.heap.size) (hz : Gz ρA) {o : Nat} (ho2 : 2 ≤ o) {l_0 : login_Logins} {id_1 : Str} {password_2 : Str} {now_3 : Int} {gl_0 : Nat} {r : Int × login_Logins} (ho0 : login_Logins.O (fun p => o + p) ρA w0 gl_0 l_0) (hS : login_Logins_Password l_0 id_1 password_2 now_3 = some r) :
  Calls Tryz.prog 19 #[.pointer (some ⟨gl_0, 0, none⟩), str id_1, str password_2, .int .i64 now_3] w0 (Ret (fun v w' => ∃ ρ', v = .int .i64 r.1 ∧ login_Logins.O (fun p => o + p) ρ' w' gl_0 r.2 ∧ Tr ρA w0 (rng o 7) ρ' w')) := by
 unfold login_Logins_Password at hS
 have hb := enter_fr (ρ := ρA) (w := w0) (n := 7) ho2 hbd
 have hz := hz.enter (n := 7) ho2
 obtain ⟨v1, v3, v5, v7, hB9, hP2, h4, h6, h8⟩ := ho0
 replace hB9 := hB9.mv (enter_mv (p := 0) (n := 7) (by decide) ho2)
 replace hP2 := PtrO.mv hP2 secret_Locks.objK (fun p hp => enter_mv (p := 1 + p) (n := 7) (by omega) ho2) (fun p hp => by omega)
 replace h4 := h4.mv (enter_mv (p := 4) (n := 7) (by decide) ho2)
 replace h6 := h6.mv (enter_mv (p := 5) (n := 7) (by decide) ho2)
 replace h8 := h8.mv (enter_mv (p := 6) (n := 7) (by decide) ho2)
 replace hB9 : Blk (enter ρA o 7) 100 w0 gl_0 (.cells #[v1, v3, v5, v7] 69 (0, 0)) := hB9
 replace hP2 : PtrO secret_Locks.O (fun q => 100 + (1 + q)) (enter ρA o 7) w0 v1 l_0.locks := hP2
 replace h4 : MapT str login_credentials.c true (enter ρA o 7) 104 w0 v3 l_0.users := h4
 replace h6 : MapT str (intC .i64) false (enter ρA o 7) 105 w0 v5 l_0.counters := h6
 replace h8 : MapT str login_attempt.c true (enter ρA o 7) 106 w0 v7 l_0.attempts := h8
 refine calls_of_ke Tryz.func19 rfl (n := 14) rfl rfl (l := [(0, .pointer (some ⟨gl_0, 0, none⟩)), (1, str id_1), (2, str password_2), (3, .int .i64 now_3)]) rfl ?_
 refine ke_seq ?_
 refine ke_region ?_
 refine sr_ev (v := .int .i64 0) (ev_assign rfl) (by decide) ?_
 refine sr_end (l' := [(0, .pointer (some ⟨gl_0, 0, none⟩)), (1, str id_1), (2, str password_2), (3, .int .i64 now_3)]) (.cons rfl (.cons rfl (.cons rfl (.cons rfl (.nil _))))) ?_
 refine ke_seq ?_
 refine ke_region ?_
 refine sr_ev (v := .pointer (some ⟨gl_0, 0, none⟩)) (ev_move rfl) (by decide) ?_
 refine sr_ev (v := str id_1) (ev_move rfl) (by decide) ?_
 refine sr_ev (v := str password_2) (ev_move rfl) (by decide) ?_
 refine sr_ev (v := .int .i64 now_3) (ev_move rfl) (by decide) ?_
 obtain ⟨y10, hy11, hS⟩ := bind_some' hS
 refine sr_call (vs := [.pointer (some ⟨gl_0, 0, none⟩), str id_1, str password_2, .int .i64 now_3, .int .i64 1, .func (.func 53) #[] #[]]) rfl Tryz.call47 rfl (login_Logins_present__Logins_byPassword_ok _ (hg.fr hz hb) (ρA := (enter ρA o 7)) hb.bd (hz.fr hg hb) (o := 100) (by decide) (⟨_, _, _, _, hB9, hP2, h4, h6, h8⟩ : login_Logins.O (fun p => 100 + p) (enter ρA o 7) w0 gl_0 l_0) hy11) (by decide) ?_
 rintro _ w12 ⟨ρ24, rfl, ⟨v15, v17, v19, v21, hB23, hP16, h18, h20, h22⟩, htr14⟩
 replace hb := hb.trans htr14
 replace hB23 : Blk ρ24 100 w12 gl_0 (.cells #[v15, v17, v19, v21] 69 (0, 0)) := hB23
 replace hP16 : PtrO secret_Locks.O (fun q => 100 + (1 + q)) ρ24 w12 v15 y10.2.locks := hP16
 replace h18 : MapT str login_credentials.c true ρ24 104 w12 v17 y10.2.users := h18
 replace h20 : MapT str (intC .i64) false ρ24 105 w12 v19 y10.2.counters := h20
 replace h22 : MapT str login_attempt.c true ρ24 106 w12 v21 y10.2.attempts := h22
 refine sr_ev (v := .int .i64 y10.1) (ev_assign rfl) (by decide) ?_
 refine sr_end (l' := [(8, .int .i64 y10.1)]) (.cons rfl (.nil _)) ?_
 cases hS
 exact ke_ret1 Tryz.func19 rfl rfl ⟨_, rfl, leave ρA w0 o 7 ρ24, rfl, ⟨_, _, _, _, (hB23.mv (leave_mv (p := 0) (by decide) hb)), (PtrO.mv hP16 secret_Locks.objK (fun p hp => leave_mv (p := 1 + p) (by omega) hb) (fun p hp => by show o + (1 + p) ≠ 0; omega)), (h18.mv (leave_mv (p := 4) (by decide) hb)), (h20.mv (leave_mv (p := 5) (by decide) hb)), (h22.mv (leave_mv (p := 6) (by decide) hb))⟩, (leave_tr ho2 hb)⟩
theorem strength_ordinary_ok (w0 : World) (hg : Gs w0) {ρA : Tags} (hbd : ∀ b, ρA b ≠ 0 → b < w0.heap.size) (hz : Gz ρA) {r : List Int} (hS : strength_ordinary = some r) :
  Calls Tryz.prog 93 #[] w0 (Ret (fun v w' => v = arrV .i64 r ∧ Below w0.heap.size w0 w')) := by
 unfold strength_ordinary at hS
 have hb := flat1_fr (ρ := ρA) (w := w0) hbd
 have hz := hz.flat1
 refine calls_of_ke Tryz.func93 rfl (n := 2) rfl rfl (l := []) rfl ?_
 refine ke_seq ?_
 refine ke_region ?_
 refine sr_allocT 2 (by decide) hb.bd Tryz.zeroValue125 (by decide) ?_
 intro g1 ρ2 w3 hB5 htr4
 replace hb := hb.trans htr4
 replace hB5 : Blk ρ2 2 w3 g1 (.cells #[.int .i64 0, .int .i64 0, .int .i64 0] 125 (0, 0)) := hB5
 refine sr_end (l' := [(0, .pointer (some ⟨g1, 0, none⟩))]) (.cons rfl (.nil _)) ?_
 refine ke_seq ?_
 refine ke_region ?_
 refine sr_ev (v := .agg #[.int .i64 1, .int .i64 2, .int .i64 3]) (ev_build (vs := #[(0, .int .i64 1), (1, .int .i64 2), (2, .int .i64 3)]) rfl (fun _ => by kernel_rfl)) (by decide) ?_
 refine sr_storeT (v := .agg #[.int .i64 1, .int .i64 2, .int .i64 3]) (vs := [.int .i64 1, .int .i64 2, .int .i64 3]) (cs' := #[.int .i64 1, .int .i64 2, .int .i64 3]) hB5 (by decide) hb.bd rfl rfl rfl Tryz.sizeOf125 rfl rfl rfl ?_
 intro w6 hB51 htr7
 replace hb := hb.trans htr7
 replace hB5 : Blk ρ2 2 w6 g1 (.cells #[.int .i64 1, .int .i64 2, .int .i64 3] 125 (0, 0)) := hB51
 clear hB51
 refine sr_end (l' := [(0, .pointer (some ⟨g1, 0, none⟩))]) (.cons rfl (.nil _)) ?_
 cases hS
 exact ke_ret (rs := [.cell 0 125]) (vs := [.agg #[.int .i64 1, .int .i64 2, .int .i64 3]]) Tryz.func93 rfl ⟨⟨_, rfl, run_loadVar_s (cs := [.int .i64 1, .int .i64 2, .int .i64 3]) Tryz.isAgg125 Tryz.sizeOf125 (hB5.cells (vs := [.int .i64 1, .int .i64 2, .int .i64 3]) rfl)⟩, trivial⟩ rfl ⟨_, rfl, rfl, (hb.below (flat1_le _))⟩
theorem strength_has_1_ok (w0 : World) (hg : Gs w0) {ρA : Tags} (hbd : ∀ b, ρA b ≠ 0 → b < w0.heap.size) (hz : Gz ρA) {p_0 : api_Proof} {c1 : Int} {b1 : Nat} {r : Bool} (he2 : ElT (intC .i64) ρA 0 w0 b1 0 [.int .i64 c1] c1) (hS : strength_has_1 p_0 c1 = some r) :
  Calls Tryz.prog 95 #[.agg #[.int .i64 p_0.Factor, .int .i64 p_0.Time], .pointer (some ⟨b1, 0, none⟩)] w0 (Ret (fun v w' => v = .bool r ∧ Below w0.heap.size w0 w')) := by
 unfold strength_has_1 at hS
 have hb := flat1_fr (ρ := ρA) (w := w0) hbd
 have hz := hz.flat1
 replace he2 := he2.mv flat1_rd (Nat.succ_pos _)
 refine calls_of_ke Tryz.func95 rfl (n := 8) rfl rfl (l := [(0, .agg #[.int .i64 p_0.Factor, .int .i64 p_0.Time]), (1, .pointer (some ⟨b1, 0, none⟩))]) rfl ?_
 refine ke_seq ?_
 refine ke_region ?_
 refine sr_boxT 4 (by decide) hb.bd rfl (by decide) ?_
 intro g3 ρ4 w5 hB7 htr6
 replace he2 := he2.mv (htr6.mv (i := 0) rfl) (Nat.succ_pos _)
 replace hb := hb.trans htr6
 replace hB7 : Blk ρ4 4 w5 g3 (.cells #[.int .i64 p_0.Factor, .int .i64 p_0.Time] 42 (0, 0)) := hB7
 refine sr_ev (v := .bool false) (ev_assign rfl) (by decide) ?_
 refine sr_end (l' := [(1, .pointer (some ⟨b1, 0, none⟩)), (2, .pointer (some ⟨g3, 0, none⟩))]) (.cons rfl (.cons rfl (.nil _))) ?_
 refine ke_seq ?_
 refine ke_region ?_
 refine sr_ev (v := .pointer (some ⟨g3, 0, none⟩)) (ev_fieldAddr (i := 0) Tryz.underlying42 rfl Tryz.info40 rfl rfl) (by decide) ?_
 refine sr_ev (v := .int .i64 p_0.Factor) (ev_load Tryz.isAgg40 rfl (hB7.cell rfl)) (by decide) ?_
 refine sr_ev (v := .int .i64 c1) (ev_load Tryz.isAgg40 rfl (he2.cell 0 _ rfl)) (by decide) ?_
 refine sr_ev (v := .bool (p_0.Factor == c1)) (ev_eq rfl rfl) (by decide) ?_
 refine sr_ev (v := .bool (p_0.Factor == c1)) (ev_assign rfl) (by decide) ?_
 refine sr_end (l' := [(3, .bool (p_0.Factor == c1))]) (.cons rfl (.nil _)) ?_
 cases hS
 exact ke_ret1 Tryz.func95 rfl rfl ⟨_, rfl, rfl, (hb.below (flat1_le _))⟩
theorem slices_IndexFunc_api_Proof_api_Proof__has_1_L1_ok {w0 : World} (hg : Gs w0) {ρA : Tags} (hbd : ∀ b, ρA b ≠ 0 → b < w0.heap.size) (hz : Gz (flat1 ρA)) : ∀ (n : Nat), ∀ {r : Int} {s_0 : List api_Proof} {f_1_c0 : Int} {t_7 : Int} {t_8 : Int} {vs_0 : Value} {bf_1_c0 : Nat}, slices_IndexFunc_api_Proof_api_Proof__has_1_L1 n s_0 f_1_c0 t_7 t_8 = some r → ∀ {ρ : Tags} {w : World}, (Fr (flat1 ρA) w0 ρ w) → (SlR api_Proof.c (Wb ρ) w vs_0 s_0) → (ElT (intC .i64) ρ 0 w bf_1_c0 0 [.int .i64 f_1_c0] f_1_c0) → KE Tryz.prog 121 (Ret (fun v w' => v = .int .i64 r ∧ Below w0.heap.size w0 w')) 19 [.code (sub (bodyOf Tryz.f121) [2, 1, 2, 2, 1]), .inLoop (sub (bodyOf Tryz.f121) [2, 1, 2, 2, 1]), .inBlock 0, .code (sub (bodyOf Tryz.f121) [2, 2])] [(0, vs_0), (1, .func (.func 95) #[] #[.pointer (some ⟨bf_1_c0, 0, none⟩)]), (7, .int .i64 t_7), (8, .int .i64 t_8)] w := by
 intro n
 induction n with
 | zero => intro r s_0 f_1_c0 t_7 t_8 vs_0 bf_1_c0 hS; cases hS
 | succ n ih =>
  have hr0 : ∀ {r : Int} {s_0 : List api_Proof} {f_1_c0 : Int} {t_7 : Int} {t_8 : Int} {vs_0 : Value} {bf_1_c0 : Nat}, slices_IndexFunc_api_Proof_api_Proof__has_1_L1 n s_0 f_1_c0 t_7 t_8 = some r → ∀ {ρ : Tags} {w : World}, (Fr (flat1 ρA) w0 ρ w) → (SlR api_Proof.c (Wb ρ) w vs_0 s_0) → (ElT (intC .i64) ρ 0 w bf_1_c0 0 [.int .i64 f_1_c0] f_1_c0) → KE Tryz.prog 121 (Ret (fun v w' => v = .int .i64 r ∧ Below w0.heap.size w0 w')) 19 [.inLoop (sub (bodyOf Tryz.f121) [2, 1, 2, 2, 1]), .inBlock 0, .code (sub (bodyOf Tryz.f121) [2, 2])] [(0, vs_0), (1, .func (.func 95) #[] #[.pointer (some ⟨bf_1_c0, 0, none⟩)]), (7, .int .i64 t_7), (8, .int .i64 t_8)] w := fun {r} {s_0} {f_1_c0} {t_7} {t_8} {vs_0} {bf_1_c0} hS {ρ} {w} hb hs_0 hef_1_c0 => ke_inLoop (ih hS hb hs_0 hef_1_c0)
  clear ih
  intro r s_0 f_1_c0 t_7 t_8 vs_0 bf_1_c0 hS ρ w hb hs_0 hef_1_c0
  unfold slices_IndexFunc_api_Proof_api_Proof__has_1_L1 at hS
  refine ke_seq ?_
  refine ke_region ?_
  refine sr_ev (v := .bool (decide (t_8 < t_7))) (ev_lt rfl rfl) (by decide) ?_
  refine sr_end (l' := [(0, vs_0), (1, .func (.func 95) #[] #[.pointer (some ⟨bf_1_c0, 0, none⟩)]), (7, .int .i64 t_7), (8, .int .i64 t_8), (9, .bool (decide (t_8 < t_7)))]) (.cons rfl (.cons rfl (.cons rfl (.cons rfl (.cons rfl (.nil _)))))) ?_
  refine ke_seq ?_
  refine ke_cond (t := decide (t_8 < t_7)) rfl (fun hc5 => ?_) (fun hc5 => ?_)
  ·replace hS := ite_true' hS hc5
   refine ke_skip ?_
   refine ke_seq ?_
   refine ke_block ?_
   refine ke_seq ?_
   refine ke_region ?_
   refine sr_ev (v := .int .i64 t_8) (ev_move rfl) (by decide) ?_
   refine sr_ev (v := .int .i64 t_8) (ev_assign rfl) (by decide) ?_
   refine sr_end (l' := [(0, vs_0), (1, .func (.func 95) #[] #[.pointer (some ⟨bf_1_c0, 0, none⟩)]), (5, .int .i64 t_8), (7, .int .i64 t_7), (8, .int .i64 t_8)]) (.cons rfl (.cons rfl (.cons rfl (.cons rfl (.cons rfl (.nil _)))))) ?_
   refine ke_seq ?_
   refine ke_region ?_
   refine sr_ev (v := .func (.func 95) #[] #[.pointer (some ⟨bf_1_c0, 0, none⟩)]) (ev_move rfl) (by decide) ?_
   refine sr_ev (v := vs_0) (ev_move rfl) (by decide) ?_
   refine sr_ev (v := .int .i64 t_8) (ev_move rfl) (by decide) ?_
   obtain ⟨y6, hy7, hS⟩ := bind_some' hS
   obtain ⟨b8, o9, cs11, hq12, he10⟩ := ((SlT.of_sl (i := 0) hs_0)).elem (P := Tryz.prog) Tryz.underlying36 Tryz.info42 rfl hy7
   obtain rfl : cs11 = [.int .i64 y6.Factor, .int .i64 y6.Time] := he10.rd
   refine sr_ev (v := .pointer (some ⟨b8, o9, none⟩)) (hq12 w rfl rfl) (by decide) ?_
   refine sr_ev (v := .agg #[.int .i64 y6.Factor, .int .i64 y6.Time]) (ev_loads (cs := [.int .i64 y6.Factor, .int .i64 y6.Time]) Tryz.isAgg42 Tryz.sizeOf42 rfl he10.cell) (by decide) ?_
   obtain ⟨y13, hy14, hS⟩ := bind_some' hS
   refine sr_callc (vs := [.agg #[.int .i64 y6.Factor, .int .i64 y6.Time]]) rfl Tryz.call95 rfl (strength_has_1_ok _ (hg.fr hz hb) (ρA := ρ) hb.bd (hz.fr hg hb) hef_1_c0 hy14) (by decide) ?_
   rintro _ w15 ⟨rfl, hbw16⟩
   have htr17 := Tr.of_below hbw16 hb.bd
   replace hs_0 := hs_0.mv htr17.rd
   replace hef_1_c0 := hef_1_c0.mv (htr17.mv (i := 0) rfl) (Nat.succ_pos _)
   replace hb := hb.trans htr17
   refine sr_end (l' := [(0, vs_0), (1, .func (.func 95) #[] #[.pointer (some ⟨bf_1_c0, 0, none⟩)]), (5, .int .i64 t_8), (7, .int .i64 t_7), (8, .int .i64 t_8), (16, .bool y13)]) (.cons rfl (.cons rfl (.cons rfl (.cons rfl (.cons rfl (.cons rfl (.nil _))))))) ?_
   refine ke_cond (t := y13) rfl (fun hc18 => ?_) (fun hc18 => ?_)
   ·replace hS := ite_true' hS hc18
    refine ke_seq ?_
    refine ke_region ?_
    refine sr_ev (v := .int .i64 t_8) (ev_move rfl) (by decide) ?_
    refine sr_ev (v := .int .i64 t_8) (ev_assign rfl) (by decide) ?_
    refine sr_end (l' := [(4, .int .i64 t_8)]) (.cons rfl (.nil _)) ?_
    cases hS
    exact ke_ret1 Tryz.func121 rfl rfl ⟨_, rfl, rfl, (hb.below (flat1_le _))⟩
   ·replace hS := ite_false' hS hc18
    refine ke_skip ?_
    refine ke_inBlock ?_
    refine ke_region ?_
    refine sr_ev (v := .int .i64 (IntKind.i64.wrap (t_8 + 1))) (ev_add rfl rfl) (by decide) ?_
    refine sr_ev (v := .int .i64 (IntKind.i64.wrap (t_8 + 1))) (ev_move rfl) (by decide) ?_
    refine sr_end (l' := [(0, vs_0), (1, .func (.func 95) #[] #[.pointer (some ⟨bf_1_c0, 0, none⟩)]), (7, .int .i64 t_7), (8, .int .i64 (IntKind.i64.wrap (t_8 + 1)))]) (.cons rfl (.cons rfl (.cons rfl (.cons rfl (.nil _))))) ?_
    have hK := hr0 hS hb hs_0 hef_1_c0
    exact ke_weaken (l' := [(0, vs_0), (1, .func (.func 95) #[] #[.pointer (some ⟨bf_1_c0, 0, none⟩)]), (7, .int .i64 t_7), (8, .int .i64 (IntKind.i64.wrap (t_8 + 1)))]) (.cons rfl (.cons rfl (.cons rfl (.cons rfl (.nil _))))) hK
  ·replace hS := ite_false' hS hc5
   refine ke_exit (k' := _) rfl ?_
   refine ke_seq ?_
   refine ke_region ?_
   refine sr_ev (v := .int .i64 (-1)) (ev_assign rfl) (by decide) ?_
   refine sr_end (l' := [(4, .int .i64 (-1))]) (.cons rfl (.nil _)) ?_
   cases hS
   exact ke_ret1 Tryz.func121 rfl rfl ⟨_, rfl, rfl, (hb.below (flat1_le _))⟩
theorem slices_IndexFunc_api_Proof_api_Proof__has_1_ok (w0 : World) (hg : Gs w0) {ρA : Tags} (hbd : ∀ b, ρA b ≠ 0 → b < w0.heap.size) (hz : Gz ρA) {s_0 : List api_Proof} {c1_0 : Int} {v1 : Value} {b3 : Nat} {r : Int} (h2 : SlR api_Proof.c (Wb ρA) w0 v1 s_0) (he4 : ElT (intC .i64) ρA 0 w0 b3 0 [.int .i64 c1_0] c1_0) (hS : slices_IndexFunc_api_Proof_api_Proof__has_1 s_0 c1_0 = some r) :
  Calls Tryz.prog 121 #[v1, .func (.func 95) #[] #[.pointer (some ⟨b3, 0, none⟩)]] w0 (Ret (fun v w' => v = .int .i64 r ∧ Below w0.heap.size w0 w')) := by
 unfold slices_IndexFunc_api_Proof_api_Proof__has_1 at hS
 have hb := flat1_fr (ρ := ρA) (w := w0) hbd
 have hz := hz.flat1
 replace h2 := SlR.mv h2 flat1_rd
 replace he4 := he4.mv flat1_rd (Nat.succ_pos _)
 refine calls_of_ke Tryz.func121 rfl (n := 19) rfl rfl (l := [(0, v1), (1, .func (.func 95) #[] #[.pointer (some ⟨b3, 0, none⟩)])]) rfl ?_
 refine ke_seq ?_
 refine ke_region ?_
 refine sr_ev (v := .int .i64 0) (ev_assign rfl) (by decide) ?_
 refine sr_end (l' := [(0, v1), (1, .func (.func 95) #[] #[.pointer (some ⟨b3, 0, none⟩)])]) (.cons rfl (.cons rfl (.nil _))) ?_
 refine ke_seq ?_
 refine ke_seq ?_
 refine ke_region ?_
 refine sr_ev (v := v1) (ev_move rfl) (by decide) ?_
 refine sr_ev (v := .int .i64 (s_0.length : Int)) (ev_sllenW Tryz.underlying36 rfl h2.asSl) (by decide) ?_
 refine sr_ev (v := .int .i64 0) (ev_move rfl) (by decide) ?_
 refine sr_end (l' := [(0, v1), (1, .func (.func 95) #[] #[.pointer (some ⟨b3, 0, none⟩)]), (7, .int .i64 (s_0.length : Int)), (8, .int .i64 0)]) (.cons rfl (.cons rfl (.cons rfl (.cons rfl (.nil _))))) ?_
 refine ke_block ?_
 have hK := slices_IndexFunc_api_Proof_api_Proof__has_1_L1_ok hg hbd hz _ hS hb h2 he4
 exact ke_weaken (l' := [(0, v1), (1, .func (.func 95) #[] #[.pointer (some ⟨b3, 0, none⟩)]), (7, .int .i64 (s_0.length : Int)), (8, .int .i64 0)]) (.cons rfl (.cons rfl (.cons rfl (.cons rfl (.nil _))))) (ke_loop hK)
theorem slices_ContainsFunc_api_Proof_api_Proof__has_1_ok (w0 : World) (hg : Gs w0) {ρA : Tags} (hbd : ∀ b, ρA b ≠ 0 → b < w0.heap.size) (hz : Gz ρA) {s_0 : List api_Proof} {c1_0 : Int} {v1 : Value} {b3 : Nat} {r : Bool} (h2 : SlR api_Proof.c (Wb ρA) w0 v1 s_0) (he4 : ElT (intC .i64) ρA 0 w0 b3 0 [.int .i64 c1_0] c1_0) (hS : slices_ContainsFunc_api_Proof_api_Proof__has_1 s_0 c1_0 = some r) :
  Calls Tryz.prog 94 #[v1, .func (.func 95) #[] #[.pointer (some ⟨b3, 0, none⟩)]] w0 (Ret (fun v w' => v = .bool r ∧ Below w0.heap.size w0 w')) := by
 unfold slices_ContainsFunc_api_Proof_api_Proof__has_1 at hS
 have hb := flat1_fr (ρ := ρA) (w := w0) hbd
 have hz := hz.flat1
 replace h2 := SlR.mv h2 flat1_rd
 replace he4 := he4.mv flat1_rd (Nat.succ_pos _)
 refine calls_of_ke Tryz.func94 rfl (n := 9) rfl rfl (l := [(0, v1), (1, .func (.func 95) #[] #[.pointer (some ⟨b3, 0, none⟩)])]) rfl ?_
 refine ke_seq ?_
 refine ke_region ?_
 refine sr_ev (v := .bool false) (ev_assign rfl) (by decide) ?_
 refine sr_end (l' := [(0, v1), (1, .func (.func 95) #[] #[.pointer (some ⟨b3, 0, none⟩)])]) (.cons rfl (.cons rfl (.nil _))) ?_
 refine ke_seq ?_
 refine ke_region ?_
 refine sr_ev (v := v1) (ev_move rfl) (by decide) ?_
 refine sr_ev (v := .func (.func 95) #[] #[.pointer (some ⟨b3, 0, none⟩)]) (ev_move rfl) (by decide) ?_
 obtain ⟨y5, hy6, hS⟩ := bind_some' hS
 refine sr_call (vs := [v1, .func (.func 95) #[] #[.pointer (some ⟨b3, 0, none⟩)]]) rfl Tryz.call121 rfl (slices_IndexFunc_api_Proof_api_Proof__has_1_ok _ (hg.fr hz hb) (ρA := (flat1 ρA)) hb.bd (hz.fr hg hb) h2 he4 hy6) (by decide) ?_
 rintro _ w7 ⟨rfl, hbw8⟩
 have htr9 := Tr.of_below hbw8 hb.bd
 replace hb := hb.trans htr9
 refine sr_ev (v := .bool (decide (y5 ≥ 0))) (ev_ge rfl rfl) (by decide) ?_
 refine sr_ev (v := .bool (decide (y5 ≥ 0))) (ev_assign rfl) (by decide) ?_
 refine sr_end (l' := [(4, .bool (decide (y5 ≥ 0)))]) (.cons rfl (.nil _)) ?_
 cases hS
 exact ke_ret1 Tryz.func94 rfl rfl ⟨_, rfl, rfl, (hb.below (flat1_le _))⟩
theorem strength_has_ok (w0 : World) (hg : Gs w0) {ρA : Tags} (hbd : ∀ b, ρA b ≠ 0 → b < w0.heap.size) (hz : Gz ρA) {l_0 : List api_Proof} {f_1 : Int} {v1 : Value} {r : Bool} (h2 : SlR api_Proof.c (Wb ρA) w0 v1 l_0) (hS : strength_has l_0 f_1 = some r) :
  Calls Tryz.prog 52 #[v1, .int .i64 f_1] w0 (Ret (fun v w' => v = .bool r ∧ Below w0.heap.size w0 w')) := by
 unfold strength_has at hS
 have hb := flat1_fr (ρ := ρA) (w := w0) hbd
 have hz := hz.flat1
 replace h2 := SlR.mv h2 flat1_rd
 refine calls_of_ke Tryz.func52 rfl (n := 8) rfl rfl (l := [(0, v1), (1, .int .i64 f_1)]) rfl ?_
 refine ke_seq ?_
 refine ke_region ?_
 refine sr_boxT 5 (by decide) hb.bd rfl (by decide) ?_
 intro g3 ρ4 w5 hB7 htr6
 replace h2 := h2.mv htr6.rd
 replace hb := hb.trans htr6
 replace hB7 : Blk ρ4 5 w5 g3 (.cells #[.int .i64 f_1] 40 (0, 0)) := hB7
 refine sr_ev (v := .bool false) (ev_assign rfl) (by decide) ?_
 refine sr_end (l' := [(0, v1), (3, .pointer (some ⟨g3, 0, none⟩))]) (.cons rfl (.cons rfl (.nil _))) ?_
 refine ke_seq ?_
 refine ke_region ?_
 refine sr_ev (v := v1) (ev_move rfl) (by decide) ?_
 have htr8 := frz_tr (ρ := ρ4) (w := w5) (i := 5) (by decide) hb.bd
 have he9 : ElT (intC .i64) (frz ρ4 5) 0 w5 g3 0 [.int .i64 f_1] f_1 := Blk.frzEl hB7 rfl rfl
 replace h2 := h2.mv htr8.rd
 replace hb := hb.trans htr8
 refine sr_ev (v := .func (.func 95) #[] #[.pointer (some ⟨g3, 0, none⟩)]) (ev_makeFunc rfl) (by decide) ?_
 obtain ⟨y10, hy11, hS⟩ := bind_some' hS
 refine sr_call (vs := [v1, .func (.func 95) #[] #[.pointer (some ⟨g3, 0, none⟩)]]) rfl Tryz.call94 rfl (slices_ContainsFunc_api_Proof_api_Proof__has_1_ok _ (hg.fr hz hb) (ρA := (frz ρ4 5)) hb.bd (hz.fr hg hb) h2 he9 hy11) (by decide) ?_
 rintro _ w12 ⟨rfl, hbw13⟩
 have htr14 := Tr.of_below hbw13 hb.bd
 replace hb := hb.trans htr14
 refine sr_ev (v := .bool y10) (ev_assign rfl) (by decide) ?_
 refine sr_end (l' := [(4, .bool y10)]) (.cons rfl (.nil _)) ?_
 cases hS
 exact ke_ret1 Tryz.func52 rfl rfl ⟨_, rfl, rfl, (hb.below (flat1_le _))⟩
theorem strength_count_B2_ok {w0 : World} (hg : Gs w0) {ρA : Tags} (hbd : ∀ b, ρA b ≠ 0 → b < w0.heap.size) (hz : Gz (flat1 ρA)) (r0 : List api_Proof → Int → List Int → Int → Option (Int))
  (hr0 : ∀ {r : Int} {l_0 : List api_Proof} {n_3 : Int} {t_6 : List Int} {t_7 : Int} {vl_0 : Value}, r0 l_0 n_3 t_6 t_7 = some r → ∀ {ρ : Tags} {w : World}, (Fr (flat1 ρA) w0 ρ w) → (SlR api_Proof.c (Wb ρ) w vl_0 l_0) → KE Tryz.prog 51 (Ret (fun v w' => v = .int .i64 r ∧ Below w0.heap.size w0 w')) 17 [.inLoop (sub (bodyOf Tryz.f51) [2, 2, 1, 2, 2, 1]), .inBlock 0, .code (sub (bodyOf Tryz.f51) [2, 2, 2])] [(0, vl_0), (3, .int .i64 n_3), (6, arrV .i64 t_6), (7, .int .i64 t_7)] w) {r : Int} {l_0 : List api_Proof} {n_3 : Int} {t_6 : List Int} {t_7 : Int} {vl_0 : Value} (hS : strength_count_B2 r0 l_0 n_3 t_6 t_7 = some r) {ρ : Tags} {w : World} (hb : Fr (flat1 ρA) w0 ρ w) (hl_0 : SlR api_Proof.c (Wb ρ) w vl_0 l_0) :
  KE Tryz.prog 51 (Ret (fun v w' => v = .int .i64 r ∧ Below w0.heap.size w0 w')) 17 [.inBlock 1, .code (sub (bodyOf Tryz.f51) [2, 2, 1, 2, 2, 1, 2, 2, 2]), .inLoop (sub (bodyOf Tryz.f51) [2, 2, 1, 2, 2, 1]), .inBlock 0, .code (sub (bodyOf Tryz.f51) [2, 2, 2])] [(0, vl_0), (3, .int .i64 n_3), (6, arrV .i64 t_6), (7, .int .i64 t_7)] w := by
 unfold strength_count_B2 at hS
 refine ke_inBlock ?_
 refine ke_region ?_
 refine sr_ev (v := .int .i64 (IntKind.i64.wrap (t_7 + 1))) (ev_add rfl rfl) (by decide) ?_
 refine sr_ev (v := .int .i64 (IntKind.i64.wrap (t_7 + 1))) (ev_move rfl) (by decide) ?_
 refine sr_end (l' := [(0, vl_0), (3, .int .i64 n_3), (6, arrV .i64 t_6), (7, .int .i64 (IntKind.i64.wrap (t_7 + 1)))]) (.cons rfl (.cons rfl (.cons rfl (.cons rfl (.nil _))))) ?_
 have hK := hr0 hS hb hl_0
 exact ke_weaken (l' := [(0, vl_0), (3, .int .i64 n_3), (6, arrV .i64 t_6), (7, .int .i64 (IntKind.i64.wrap (t_7 + 1)))]) (.cons rfl (.cons rfl (.cons rfl (.cons rfl (.nil _))))) hK
theorem strength_count_L1_ok {w0 : World} (hg : Gs w0) {ρA : Tags} (hbd : ∀ b, ρA b ≠ 0 → b < w0.heap.size) (hz : Gz (flat1 ρA)) : ∀ (n : Nat), ∀ {r : Int} {l_0 : List api_Proof} {n_3 : Int} {t_6 : List Int} {t_7 : Int} {vl_0 : Value}, strength_count_L1 n l_0 n_3 t_6 t_7 = some r → ∀ {ρ : Tags} {w : World}, (Fr (flat1 ρA) w0 ρ w) → (SlR api_Proof.c (Wb ρ) w vl_0 l_0) → KE Tryz.prog 51 (Ret (fun v w' => v = .int .i64 r ∧ Below w0.heap.size w0 w')) 17 [.code (sub (bodyOf Tryz.f51) [2, 2, 1, 2, 2, 1]), .inLoop (sub (bodyOf Tryz.f51) [2, 2, 1, 2, 2, 1]), .inBlock 0, .code (sub (bodyOf Tryz.f51) [2, 2, 2])] [(0, vl_0), (3, .int .i64 n_3), (6, arrV .i64 t_6), (7, .int .i64 t_7)] w := by
 intro n
 induction n with
 | zero => intro r l_0 n_3 t_6 t_7 vl_0 hS; cases hS
 | succ n ih =>
  have hr0 : ∀ {r : Int} {l_0 : List api_Proof} {n_3 : Int} {t_6 : List Int} {t_7 : Int} {vl_0 : Value}, strength_count_L1 n l_0 n_3 t_6 t_7 = some r → ∀ {ρ : Tags} {w : World}, (Fr (flat1 ρA) w0 ρ w) → (SlR api_Proof.c (Wb ρ) w vl_0 l_0) → KE Tryz.prog 51 (Ret (fun v w' => v = .int .i64 r ∧ Below w0.heap.size w0 w')) 17 [.inLoop (sub (bodyOf Tryz.f51) [2, 2, 1, 2, 2, 1]), .inBlock 0, .code (sub (bodyOf Tryz.f51) [2, 2, 2])] [(0, vl_0), (3, .int .i64 n_3), (6, arrV .i64 t_6), (7, .int .i64 t_7)] w := fun {r} {l_0} {n_3} {t_6} {t_7} {vl_0} hS {ρ} {w} hb hl_0 => ke_inLoop (ih hS hb hl_0)
  clear ih
  intro r l_0 n_3 t_6 t_7 vl_0 hS ρ w hb hl_0
  unfold strength_count_L1 at hS
  refine ke_seq ?_
  refine ke_region ?_
  refine sr_ev (v := .bool (decide (t_7 < 3))) (ev_lt rfl rfl) (by decide) ?_
  refine sr_end (l' := [(0, vl_0), (3, .int .i64 n_3), (6, arrV .i64 t_6), (7, .int .i64 t_7), (8, .bool (decide (t_7 < 3)))]) (.cons rfl (.cons rfl (.cons rfl (.cons rfl (.cons rfl (.nil _)))))) ?_
  refine ke_seq ?_
  refine ke_cond (t := decide (t_7 < 3)) rfl (fun hc8 => ?_) (fun hc8 => ?_)
  ·replace hS := ite_true' hS hc8
   refine ke_skip ?_
   refine ke_seq ?_
   refine ke_block ?_
   refine ke_seq ?_
   refine ke_region ?_
   obtain ⟨hk9, hS⟩ := chk_some hS
   obtain ⟨y10, hy11, hS⟩ := bind_some' hS
   refine sr_ev (v := .int .i64 y10) (ev_avindex Tryz.underlying125 Tryz.sizeOf40 Tryz.isAgg40 (by simpa using (eq_of_beq hk9).symm) rfl rfl hy11) (by decide) ?_
   refine sr_ev (v := .int .i64 y10) (ev_assign rfl) (by decide) ?_
   refine sr_end (l' := [(0, vl_0), (3, .int .i64 n_3), (5, .int .i64 y10), (6, arrV .i64 t_6), (7, .int .i64 t_7)]) (.cons rfl (.cons rfl (.cons rfl (.cons rfl (.cons rfl (.nil _)))))) ?_
   refine ke_seq ?_
   refine ke_region ?_
   refine sr_ev (v := vl_0) (ev_move rfl) (by decide) ?_
   refine sr_ev (v := .int .i64 y10) (ev_move rfl) (by decide) ?_
   obtain ⟨y12, hy13, hS⟩ := bind_some' hS
   refine sr_call (vs := [vl_0, .int .i64 y10]) rfl Tryz.call52 rfl (strength_has_ok _ (hg.fr hz hb) (ρA := ρ) hb.bd (hz.fr hg hb) hl_0 hy13) (by decide) ?_
   rintro _ w14 ⟨rfl, hbw15⟩
   have htr16 := Tr.of_below hbw15 hb.bd
   replace hl_0 := hl_0.mv htr16.rd
   replace hb := hb.trans htr16
   refine sr_end (l' := [(0, vl_0), (3, .int .i64 n_3), (6, arrV .i64 t_6), (7, .int .i64 t_7), (12, .bool y12)]) (.cons rfl (.cons rfl (.cons rfl (.cons rfl (.cons rfl (.nil _)))))) ?_
   refine ke_cond (t := y12) rfl (fun hc17 => ?_) (fun hc17 => ?_)
   ·replace hS := ite_true' hS hc17
    refine ke_region ?_
    refine sr_ev (v := .int .i64 n_3) (ev_move rfl) (by decide) ?_
    refine sr_ev (v := .int .i64 (IntKind.i64.wrap (n_3 + 1))) (ev_add rfl rfl) (by decide) ?_
    refine sr_ev (v := .int .i64 (IntKind.i64.wrap (n_3 + 1))) (ev_assign rfl) (by decide) ?_
    refine sr_end (l' := [(0, vl_0), (3, .int .i64 (IntKind.i64.wrap (n_3 + 1))), (6, arrV .i64 t_6), (7, .int .i64 t_7)]) (.cons rfl (.cons rfl (.cons rfl (.cons rfl (.nil _))))) ?_
    have hK := strength_count_B2_ok hg hbd hz _ hr0 hS hb hl_0
    exact ke_weaken (l' := [(0, vl_0), (3, .int .i64 (IntKind.i64.wrap (n_3 + 1))), (6, arrV .i64 t_6), (7, .int .i64 t_7)]) (.cons rfl (.cons rfl (.cons rfl (.cons rfl (.nil _))))) hK
   ·replace hS := ite_false' hS hc17
    refine ke_skip ?_
    have hK := strength_count_B2_ok hg hbd hz _ hr0 hS hb hl_0
    exact ke_weaken (l' := [(0, vl_0), (3, .int .i64 n_3), (6, arrV .i64 t_6), (7, .int .i64 t_7)]) (.cons rfl (.cons rfl (.cons rfl (.cons rfl (.nil _))))) hK
  ·replace hS := ite_false' hS hc8
   refine ke_exit (k' := _) rfl ?_
   refine ke_seq ?_
   refine ke_region ?_
   refine sr_ev (v := .int .i64 n_3) (ev_move rfl) (by decide) ?_
   refine sr_ev (v := .int .i64 n_3) (ev_assign rfl) (by decide) ?_
   refine sr_end (l' := [(2, .int .i64 n_3)]) (.cons rfl (.nil _)) ?_
   cases hS
   exact ke_ret1 Tryz.func51 rfl rfl ⟨_, rfl, rfl, (hb.below (flat1_le _))⟩
theorem strength_count_ok (w0 : World) (hg : Gs w0) {ρA : Tags} (hbd : ∀ b, ρA b ≠ 0 → b < w0.heap.size) (hz : Gz ρA) {l_0 : List api_Proof} {v1 : Value} {r : Int} (h2 : SlR api_Proof.c (Wb ρA) w0 v1 l_0) (hS : strength_count l_0 = some r) :
  Calls Tryz.prog 51 #[v1] w0 (Ret (fun v w' => v = .int .i64 r ∧ Below w0.heap.size w0 w')) := by
 unfold strength_count at hS
 have hb := flat1_fr (ρ := ρA) (w := w0) hbd
 have hz := hz.flat1
 replace h2 := SlR.mv h2 flat1_rd
 refine calls_of_ke Tryz.func51 rfl (n := 17) rfl rfl (l := [(0, v1)]) rfl ?_
 refine ke_seq ?_
 refine ke_region ?_
 refine sr_ev (v := .int .i64 0) (ev_assign rfl) (by decide) ?_
 refine sr_end (l' := [(0, v1)]) (.cons rfl (.nil _)) ?_
 refine ke_seq ?_
 refine ke_region ?_
 refine sr_ev (v := .int .i64 0) (ev_assign rfl) (by decide) ?_
 refine sr_end (l' := [(0, v1), (3, .int .i64 0)]) (.cons rfl (.cons rfl (.nil _))) ?_
 refine ke_seq ?_
 refine ke_seq ?_
 refine ke_region ?_
 obtain ⟨y3, hy4, hS⟩ := bind_some' hS
 refine sr_call (vs := []) rfl Tryz.call93 rfl (strength_ordinary_ok _ (hg.fr hz hb) (ρA := (flat1 ρA)) hb.bd (hz.fr hg hb) hy4) (by decide) ?_
 rintro _ w5 ⟨rfl, hbw6⟩
 have htr7 := Tr.of_below hbw6 hb.bd
 replace h2 := h2.mv htr7.rd
 replace hb := hb.trans htr7
 refine sr_ev (v := .int .i64 0) (ev_move rfl) (by decide) ?_
 refine sr_end (l' := [(0, v1), (3, .int .i64 0), (6, arrV .i64 y3), (7, .int .i64 0)]) (.cons rfl (.cons rfl (.cons rfl (.cons rfl (.nil _))))) ?_
 refine ke_block ?_
 have hK := strength_count_L1_ok hg hbd hz _ hS hb h2
 exact ke_weaken (l' := [(0, v1), (3, .int .i64 0), (6, arrV .i64 y3), (7, .int .i64 0)]) (.cons rfl (.cons rfl (.cons rfl (.cons rfl (.nil _))))) (ke_loop hK)
theorem strength_Level_ok (w0 : World) (hg : Gs w0) {ρA : Tags} (hbd : ∀ b, ρA b ≠ 0 → b < w0.heap.size) (hz : Gz ρA) {l_0 : List api_Proof} {v1 : Value} {r : Int} (h2 : SlR api_Proof.c (Wb ρA) w0 v1 l_0) (hS : strength_Level l_0 = some r) :
  Calls Tryz.prog 18 #[v1] w0 (Ret (fun v w' => v = .int .i64 r ∧ Below w0.heap.size w0 w')) := by
 unfold strength_Level at hS
 have hb := flat1_fr (ρ := ρA) (w := w0) hbd
 have hz := hz.flat1
 replace h2 := SlR.mv h2 flat1_rd
 refine calls_of_ke Tryz.func18 rfl (n := 14) rfl rfl (l := [(0, v1)]) rfl ?_
 refine ke_seq ?_
 refine ke_region ?_
 refine sr_ev (v := .int .i64 0) (ev_assign rfl) (by decide) ?_
 refine sr_end (l' := [(0, v1)]) (.cons rfl (.nil _)) ?_
 refine ke_seq ?_
 refine ke_seq ?_
 refine ke_region ?_
 refine sr_ev (v := v1) (ev_move rfl) (by decide) ?_
 obtain ⟨y3, hy4, hS⟩ := bind_some' hS
 refine sr_call (vs := [v1]) rfl Tryz.call51 rfl (strength_count_ok _ (hg.fr hz hb) (ρA := (flat1 ρA)) hb.bd (hz.fr hg hb) h2 hy4) (by decide) ?_
 rintro _ w5 ⟨rfl, hbw6⟩
 have htr7 := Tr.of_below hbw6 hb.bd
 replace h2 := h2.mv htr7.rd
 replace hb := hb.trans htr7
 refine sr_ev (v := .int .i64 y3) (ev_assign rfl) (by decide) ?_
 refine sr_end (l' := [(0, v1), (3, .int .i64 y3)]) (.cons rfl (.cons rfl (.nil _))) ?_
 refine ke_seq ?_
 refine ke_region ?_
 refine sr_ev (v := .int .i64 y3) (ev_move rfl) (by decide) ?_
 refine sr_ev (v := .bool (decide (y3 > 0))) (ev_gt rfl rfl) (by decide) ?_
 refine sr_ev (v := .bool (decide (y3 > 0))) (ev_move rfl) (by decide) ?_
 obtain ⟨z10, hz12, hS⟩ := bind_some' hS
 refine sr_join (m := 4) (C := fun (z : Bool) w1 => z10 = z ∧ ∃ ρ1, Tr (flat1 ρA) w5 (fun _ => false) ρ1 w1) (l' := fun z => [(3, .int .i64 y3), (12, .bool z)]) ?_ ?_
 ·rintro _ w13 ⟨rfl, ρ14, hj11⟩
  replace hb := hb.trans hj11
  refine sr_end (l' := [(3, .int .i64 y3), (12, .bool z10)]) (.cons rfl (.cons rfl (.nil _))) ?_
  refine ke_cond (t := z10) rfl (fun hc21 => ?_) (fun hc21 => ?_)
  ·replace hS := ite_true' hS hc21
   refine ke_seq ?_
   refine ke_region ?_
   refine sr_ev (v := .int .i64 y3) (ev_move rfl) (by decide) ?_
   refine sr_ev (v := .int .i64 y3) (ev_assign rfl) (by decide) ?_
   refine sr_end (l' := [(2, .int .i64 y3)]) (.cons rfl (.nil _)) ?_
   cases hS
   exact ke_ret1 Tryz.func18 rfl rfl ⟨_, rfl, rfl, (hb.below (flat1_le _))⟩
  ·replace hS := ite_false' hS hc21
   refine ke_skip ?_
   refine ke_seq ?_
   refine ke_region ?_
   refine sr_ev (v := .int .i64 1) (ev_assign rfl) (by decide) ?_
   refine sr_end (l' := [(2, .int .i64 1)]) (.cons rfl (.nil _)) ?_
   cases hS
   exact ke_ret1 Tryz.func18 rfl rfl ⟨_, rfl, rfl, (hb.below (flat1_le _))⟩
 ·intro K9
  clear hS
  have hj11 : Tr (flat1 ρA) w5 (fun _ => false) (flat1 ρA) w5 := (Tr.refl hb.bd).weak (fun _ _ => rfl) rfl rfl
  rcases Bool.eq_false_or_eq_true (decide (y3 > 0)) with hg8 | hg8
  ·have hS := ite_true' hz12 hg8
   refine sr_pass (e := 8) rfl rfl (by rw [hg8]; rfl) (by decide) ?_
   refine sr_pass (e := 8) rfl rfl (by rw [hg8]; rfl) (by decide) ?_
   refine sr_pass (e := 8) rfl rfl (by rw [hg8]; rfl) (by decide) ?_
   refine sr_ev (v := .bool true) (ev_pick_t rfl hg8 rfl) (by decide) ?_
   exact sr_weaken (l' := [(3, .int .i64 y3), (12, .bool true)]) (.cons rfl (.cons rfl (.nil _))) (K9 true _ ⟨(Option.some.inj hS).symm, _, hj11⟩)
  ·have hS := ite_false' hz12 hg8
   refine sr_evg (b := false) (e := 8) rfl rfl hg8 (v := v1) (ev_move rfl) (by decide) ?_
   obtain ⟨y16, hy17, hS⟩ := bind_some' hS
   refine sr_callg (b := false) (e := 8) rfl rfl hg8 (vs := [v1, .int .i64 4]) rfl Tryz.call52 rfl (strength_has_ok _ (hg.fr hz hb) (ρA := (flat1 ρA)) hb.bd (hz.fr hg hb) h2 hy17) (by decide) ?_
   rintro _ w18 ⟨rfl, hbw19⟩
   have htr20 := Tr.of_below hbw19 hb.bd
   replace hb := hb.trans htr20
   replace hj11 := (hj11.trans htr20).weak (J' := (fun _ => false)) (by intro t h; simp [rng] at h ⊢ <;> omega) rfl rfl
   refine sr_evg (b := false) (e := 8) rfl rfl hg8 (v := .bool (!y16)) (ev_not rfl) (by decide) ?_
   refine sr_ev (v := .bool (!y16)) (ev_pick_f rfl hg8 rfl) (by decide) ?_
   exact sr_weaken (l' := [(3, .int .i64 y3), (12, .bool (!y16))]) (.cons rfl (.cons rfl (.nil _))) (K9 (!y16) _ ⟨(Option.some.inj hS).symm, _, hj11⟩)
theorem login_Logins_Finish_ok (w0 : World) (hg : Gs w0) {ρA : Tags} (hbd : ∀ b, ρA b ≠ 0 → b < w0.heap.size) (hz : Gz ρA) {o : Nat} (ho2 : 2 ≤ o) {l_0 : login_Logins} {id_1 : Str} {level_2 : Int} {now_3 : Int} {gl_0 : Nat} {r : Str × (List api_Proof) × Int × login_Logins} (ho0 : login_Logins.O (fun p => o + p) ρA w0 gl_0 l_0) (hS : login_Logins_Finish l_0 id_1 level_2 now_3 = some r) :
  Calls Tryz.prog 17 #[.pointer (some ⟨gl_0, 0, none⟩), str id_1, .int .i64 level_2, .int .i64 now_3] w0 (Ret (fun v w' => ∃ ρ' x1, v = .tuple #[str r.1, x1, .int .i64 r.2.2.1] ∧ SlR api_Proof.c (Wb ρ') w' x1 r.2.1 ∧ login_Logins.O (fun p => o + p) ρ' w' gl_0 r.2.2.2 ∧ Tr ρA w0 (rng o 7) ρ' w')) := by
 unfold login_Logins_Finish at hS
 have hb := enter_fr (ρ := ρA) (w := w0) (n := 7) ho2 hbd
 have hz := hz.enter (n := 7) ho2
 obtain ⟨v1, v3, v5, v7, hB9, hP2, h4, h6, h8⟩ := ho0
 replace hB9 := hB9.mv (enter_mv (p := 0) (n := 7) (by decide) ho2)
 replace hP2 := PtrO.mv hP2 secret_Locks.objK (fun p hp => enter_mv (p := 1 + p) (n := 7) (by omega) ho2) (fun p hp => by omega)
 replace h4 := h4.mv (enter_mv (p := 4) (n := 7) (by decide) ho2)
 replace h6 := h6.mv (enter_mv (p := 5) (n := 7) (by decide) ho2)
 replace h8 := h8.mv (enter_mv (p := 6) (n := 7) (by decide) ho2)
 replace hB9 : Blk (enter ρA o 7) 100 w0 gl_0 (.cells #[v1, v3, v5, v7] 69 (0, 0)) := hB9
 replace hP2 : PtrO secret_Locks.O (fun q => 100 + (1 + q)) (enter ρA o 7) w0 v1 l_0.locks := hP2
 replace h4 : MapT str login_credentials.c true (enter ρA o 7) 104 w0 v3 l_0.users := h4
 replace h6 : MapT str (intC .i64) false (enter ρA o 7) 105 w0 v5 l_0.counters := h6
 replace h8 : MapT str login_attempt.c true (enter ρA o 7) 106 w0 v7 l_0.attempts := h8
 refine calls_of_ke Tryz.func17 rfl (n := 40) rfl rfl (l := [(0, .pointer (some ⟨gl_0, 0, none⟩)), (1, str id_1), (2, .int .i64 level_2), (3, .int .i64 now_3)]) rfl ?_
 refine ke_seq ?_
 refine ke_region ?_
 refine sr_ev (v := str ([])) (ev_assign rfl) (by decide) ?_
 refine sr_ev (v := .slice none 0 0) (ev_assign rfl) (by decide) ?_
 refine sr_ev (v := .int .i64 0) (ev_assign rfl) (by decide) ?_
 refine sr_end (l' := [(0, .pointer (some ⟨gl_0, 0, none⟩)), (1, str id_1), (2, .int .i64 level_2), (3, .int .i64 now_3)]) (.cons rfl (.cons rfl (.cons rfl (.cons rfl (.nil _))))) ?_
 refine ke_seq ?_
 refine ke_region ?_
 refine sr_ev (v := .pointer (some ⟨gl_0, 0, none⟩)) (ev_move rfl) (by decide) ?_
 refine sr_ev (v := str id_1) (ev_move rfl) (by decide) ?_
 refine sr_ev (v := .int .i64 now_3) (ev_move rfl) (by decide) ?_
 obtain ⟨y12, hy13, hS⟩ := bind_some' hS
 refine sr_call (vs := [.pointer (some ⟨gl_0, 0, none⟩), str id_1, .int .i64 now_3]) rfl Tryz.call49 rfl (login_Logins_find_ok _ (hg.fr hz hb) (ρA := (enter ρA o 7)) hb.bd (hz.fr hg hb) (τ0 := (fun p => 100 + p)) (fun p => Nat.le_add_right_of_le (by decide)) (⟨_, _, _, _, hB9, hP2, h4, h6, h8⟩ : login_Logins.O (fun p => 100 + p) (enter ρA o 7) w0 gl_0 l_0) hy13) (by decide) ?_
 rintro _ w14 ⟨v17, rfl, h18, hbw15⟩
 have htr16 := Tr.of_below hbw15 hb.bd
 replace hB9 := hB9.mv (htr16.mv (i := 100) rfl)
 replace hP2 := PtrO.mv hP2 secret_Locks.objK (fun p hp => htr16.mv (i := 100 + (1 + p)) (by rcases p with _ | _ | _ | p <;> first | rfl | omega)) (fun p hp => by show 100 + (1 + p) ≠ 0; omega)
 replace h4 := h4.mv (htr16.mv (i := 104) rfl)
 replace h6 := h6.mv (htr16.mv (i := 105) rfl)
 replace h8 := h8.mv (htr16.mv (i := 106) rfl)
 replace hb := hb.trans htr16
 refine sr_ev (v := .tuple #[.agg #[str y12.1.user, .int .i64 y12.1.begun, v17], .int .i64 y12.2]) (ev_move rfl) (by decide) ?_
 refine sr_ev (v := .agg #[str y12.1.user, .int .i64 y12.1.begun, v17]) (ev_extract rfl rfl) (by decide) ?_
 refine sr_ev (v := .int .i64 y12.2) (ev_extract rfl rfl) (by decide) ?_
 refine sr_allocT 13 (by decide) hb.bd Tryz.zeroValue74 (by decide) ?_
 intro g19 ρ20 w21 hB23 htr22
 replace h18 := h18.mv htr22.rd
 replace hB9 := hB9.mv (htr22.mv (i := 100) rfl)
 replace hP2 := PtrO.mv hP2 secret_Locks.objK (fun p hp => htr22.mv (i := 100 + (1 + p)) (by rcases p with _ | _ | _ | p <;> first | rfl | omega)) (fun p hp => by show 100 + (1 + p) ≠ 0; omega)
 replace h4 := h4.mv (htr22.mv (i := 104) rfl)
 replace h6 := h6.mv (htr22.mv (i := 105) rfl)
 replace h8 := h8.mv (htr22.mv (i := 106) rfl)
 replace hb := hb.trans htr22
 replace hB23 : Blk ρ20 13 w21 g19 (.cells #[str ([]), .int .i64 0, (.slice none 0 0)] 74 (0, 0)) := hB23
 refine sr_storeT (v := .agg #[str y12.1.user, .int .i64 y12.1.begun, v17]) (vs := [str y12.1.user, .int .i64 y12.1.begun, v17]) (cs' := #[str y12.1.user, .int .i64 y12.1.begun, v17]) hB23 (by decide) hb.bd rfl rfl rfl Tryz.sizeOf74 rfl (by first | rfl | (simp only [List.all_cons, List.all_nil, SlR.oneCell h18]; done) | (simp only [List.all_cons, List.all_nil, SlR.oneCell h18]; rfl)) rfl ?_
 intro w24 hB231 htr25
 replace h18 := h18.mv htr25.rd
 replace hB9 := hB9.mv (htr25.mv (i := 100) rfl)
 replace hP2 := PtrO.mv hP2 secret_Locks.objK (fun p hp => htr25.mv (i := 100 + (1 + p)) (by rcases p with _ | _ | _ | p <;> first | rfl | omega)) (fun p hp => by show 100 + (1 + p) ≠ 0; omega)
 replace h4 := h4.mv (htr25.mv (i := 104) rfl)
 replace h6 := h6.mv (htr25.mv (i := 105) rfl)
 replace h8 := h8.mv (htr25.mv (i := 106) rfl)
 replace hb := hb.trans htr25
 replace hB23 : Blk ρ20 13 w24 g19 (.cells #[str y12.1.user, .int .i64 y12.1.begun, v17] 74 (0, 0)) := hB231
 clear hB231
 refine sr_ev (v := .int .i64 y12.2) (ev_assign rfl) (by decide) ?_
 refine sr_end (l' := [(0, .pointer (some ⟨gl_0, 0, none⟩)), (1, str id_1), (2, .int .i64 level_2), (11, .pointer (some ⟨g19, 0, none⟩)), (12, .int .i64 y12.2)]) (.cons rfl (.cons rfl (.cons rfl (.cons rfl (.cons rfl (.nil _)))))) ?_
 refine ke_seq ?_
 refine ke_block ?_
 refine ke_seq ?_
 refine ke_region ?_
 refine sr_ev (v := .int .i64 y12.2) (ev_move rfl) (by decide) ?_
 refine sr_ev (v := .bool (y12.2 != 0)) (ev_ne rfl rfl) (by decide) ?_
 refine sr_ev (v := .bool (y12.2 != 0)) (ev_assign rfl) (by decide) ?_
 refine sr_end (l' := [(0, .pointer (some ⟨gl_0, 0, none⟩)), (1, str id_1), (2, .int .i64 level_2), (11, .pointer (some ⟨g19, 0, none⟩)), (12, .int .i64 y12.2), (20, .bool (y12.2 != 0))]) (.cons rfl (.cons rfl (.cons rfl (.cons rfl (.cons rfl (.cons rfl (.nil _))))))) ?_
 refine ke_cond (t := y12.2 != 0) rfl (fun hc26 => ?_) (fun hc26 => ?_)
 ·replace hS := ite_true' hS hc26
  refine ke_seq ?_
  refine ke_region ?_
  refine sr_ev (v := .int .i64 y12.2) (ev_move rfl) (by decide) ?_
  refine sr_ev (v := str ([])) (ev_assign rfl) (by decide) ?_
  refine sr_ev (v := .slice none 0 0) (ev_assign rfl) (by decide) ?_
  refine sr_ev (v := .int .i64 y12.2) (ev_assign rfl) (by decide) ?_
  refine sr_end (l' := [(8, str ([])), (9, .slice none 0 0), (10, .int .i64 y12.2)]) (.cons rfl (.cons rfl (.cons rfl (.nil _)))) ?_
  cases hS
  exact ke_ret3 Tryz.func17 rfl rfl rfl rfl ⟨_, rfl, leave ρA w0 o 7 ρ20, _, rfl, SlR.nil, ⟨_, _, _, _, (hB9.mv (leave_mv (p := 0) (by decide) hb)), (PtrO.mv hP2 secret_Locks.objK (fun p hp => leave_mv (p := 1 + p) (by omega) hb) (fun p hp => by show o + (1 + p) ≠ 0; omega)), (h4.mv (leave_mv (p := 4) (by decide) hb)), (h6.mv (leave_mv (p := 5) (by decide) hb)), (h8.mv (leave_mv (p := 6) (by decide) hb))⟩, (leave_tr ho2 hb)⟩
 ·replace hS := ite_false' hS hc26
  refine ke_seq ?_
  refine ke_region ?_
  refine sr_ev (v := .pointer (some ⟨g19, 2, none⟩)) (ev_fieldAddr (i := 2) Tryz.underlying74 rfl Tryz.info36 rfl rfl) (by decide) ?_
  refine sr_ev (v := v17) (ev_load Tryz.isAgg36 rfl (hB23.cell rfl)) (by decide) ?_
  obtain ⟨y27, hy28, hS⟩ := bind_some' hS
  refine sr_call (vs := [v17]) rfl Tryz.call18 rfl (strength_Level_ok _ (hg.fr hz hb) (ρA := ρ20) hb.bd (hz.fr hg hb) h18 hy28) (by decide) ?_
  rintro _ w29 ⟨rfl, hbw30⟩
  have htr31 := Tr.of_below hbw30 hb.bd
  replace hB23 := hB23.mv (htr31.mv (i := 13) rfl)
  replace h18 := h18.mv htr31.rd
  replace hB9 := hB9.mv (htr31.mv (i := 100) rfl)
  replace hP2 := PtrO.mv hP2 secret_Locks.objK (fun p hp => htr31.mv (i := 100 + (1 + p)) (by rcases p with _ | _ | _ | p <;> first | rfl | omega)) (fun p hp => by show 100 + (1 + p) ≠ 0; omega)
  replace h4 := h4.mv (htr31.mv (i := 104) rfl)
  replace h6 := h6.mv (htr31.mv (i := 105) rfl)
  replace h8 := h8.mv (htr31.mv (i := 106) rfl)
  replace hb := hb.trans htr31
  refine sr_ev (v := .int .i64 level_2) (ev_move rfl) (by decide) ?_
  refine sr_ev (v := .bool (decide (y27 < level_2))) (ev_lt rfl rfl) (by decide) ?_
  refine sr_ev (v := .bool (decide (y27 < level_2))) (ev_assign rfl) (by decide) ?_
  refine sr_end (l' := [(0, .pointer (some ⟨gl_0, 0, none⟩)), (1, str id_1), (11, .pointer (some ⟨g19, 0, none⟩)), (24, .bool (decide (y27 < level_2)))]) (.cons rfl (.cons rfl (.cons rfl (.cons rfl (.nil _))))) ?_
  refine ke_cond (t := decide (y27 < level_2)) rfl (fun hc32 => ?_) (fun hc32 => ?_)
  ·replace hS := ite_true' hS hc32
   refine ke_seq ?_
   refine ke_region ?_
   refine sr_ev (v := str ([])) (ev_assign rfl) (by decide) ?_
   refine sr_ev (v := .slice none 0 0) (ev_assign rfl) (by decide) ?_
   refine sr_ev (v := .int .i64 21) (ev_assign rfl) (by decide) ?_
   refine sr_end (l' := [(8, str ([])), (9, .slice none 0 0), (10, .int .i64 21)]) (.cons rfl (.cons rfl (.cons rfl (.nil _)))) ?_
   cases hS
   exact ke_ret3 Tryz.func17 rfl rfl rfl rfl ⟨_, rfl, leave ρA w0 o 7 ρ20, _, rfl, SlR.nil, ⟨_, _, _, _, (hB9.mv (leave_mv (p := 0) (by decide) hb)), (PtrO.mv hP2 secret_Locks.objK (fun p hp => leave_mv (p := 1 + p) (by omega) hb) (fun p hp => by show o + (1 + p) ≠ 0; omega)), (h4.mv (leave_mv (p := 4) (by decide) hb)), (h6.mv (leave_mv (p := 5) (by decide) hb)), (h8.mv (leave_mv (p := 6) (by decide) hb))⟩, (leave_tr ho2 hb)⟩
  ·replace hS := ite_false' hS hc32
   refine ke_skip ?_
   refine ke_inBlock ?_
   refine ke_seq ?_
   refine ke_region ?_
   refine sr_ev (v := .pointer (some ⟨gl_0, 0, none⟩)) (ev_move rfl) (by decide) ?_
   refine sr_ev (v := .pointer (some ⟨gl_0, 0, none⟩)) (ev_nilCheck rfl) (by decide) ?_
   refine sr_ev (v := .pointer (some ⟨gl_0, 3, none⟩)) (ev_fieldAddr (i := 3) Tryz.underlying69 rfl Tryz.info67 rfl rfl) (by decide) ?_
   refine sr_ev (v := v7) (ev_load Tryz.isAgg67 rfl (hB9.cell rfl)) (by decide) ?_
   refine sr_ev (v := str id_1) (ev_move rfl) (by decide) ?_
   refine sr_mapDel0 (k := id_1) h8 Tryz.keyB9 Tryz.underlying67 (by decide) hb.bd rfl rfl ?_
   intro w33 h81 htr34
   replace hB23 := hB23.mv (htr34.mv (i := 13) rfl)
   replace h18 := h18.mv htr34.rd
   replace hB9 := hB9.mv (htr34.mv (i := 100) rfl)
   replace hP2 := PtrO.mv hP2 secret_Locks.objK (fun p hp => htr34.mv (i := 100 + (1 + p)) (by rcases p with _ | _ | _ | p <;> first | rfl | omega)) (fun p hp => by show 100 + (1 + p) ≠ 0; omega)
   replace h4 := h4.mv (htr34.mv (i := 104) rfl)
   replace h6 := h6.mv (htr34.mv (i := 105) rfl)
   replace hb := hb.trans htr34
   replace h8 := h81
   clear h81
   refine sr_end (l' := [(11, .pointer (some ⟨g19, 0, none⟩))]) (.cons rfl (.nil _)) ?_
   refine ke_seq ?_
   refine ke_region_j (ρ := ρ20) (fun t => ([41] : List Nat).contains t) 8 Tryz.mixed (fun w36 hw35 => ?_)
   have htr37 := Tr.of_below hw35 hb.bd
   replace hB23 := hB23.mv (htr37.mv (i := 13) rfl)
   replace h18 := h18.mv htr37.rd
   replace hB9 := hB9.mv (htr37.mv (i := 100) rfl)
   replace hP2 := PtrO.mv hP2 secret_Locks.objK (fun p hp => htr37.mv (i := 100 + (1 + p)) (by rcases p with _ | _ | _ | p <;> first | rfl | omega)) (fun p hp => by show 100 + (1 + p) ≠ 0; omega)
   replace h4 := h4.mv (htr37.mv (i := 104) rfl)
   replace h6 := h6.mv (htr37.mv (i := 105) rfl)
   replace h8 := h8.mv (htr37.mv (i := 106) rfl)
   replace hb := hb.trans htr37
   refine dj_h 0 (.pointer (some ⟨g19, 0, none⟩)) hb.bd rfl (fun w1 ρ1 hw1 => ev_fieldAddr (i := 0) Tryz.underlying74 rfl Tryz.info9 rfl rfl) ?_
   refine dj_h 1 (str y12.1.user) hb.bd rfl (fun w1 ρ1 hw1 => ev_load Tryz.isAgg9 rfl ((hB23.mv (hw1.mv (i := 13) rfl)).cell rfl)) ?_
   refine dj_h 2 (.pointer (some ⟨g19, 2, none⟩)) hb.bd rfl (fun w1 ρ1 hw1 => ev_fieldAddr (i := 2) Tryz.underlying74 rfl Tryz.info36 rfl rfl) ?_
   refine dj_h 3 v17 hb.bd rfl (fun w1 ρ1 hw1 => ev_load Tryz.isAgg36 rfl ((hB23.mv (hw1.mv (i := 13) rfl)).cell rfl)) ?_
   refine dj_E 4 (by kernel_rfl) rfl ?_
   have jt57 : Tr ρ20 w36 (fun t => ([41] : List Nat).contains t) ρ20 w36 := (Tr.refl hb.bd).weak (fun _ _ => rfl) rfl rfl
   obtain ⟨y58, hy59, hS⟩ := bind_some' hS
   refine sr_call (vs := [v17]) rfl Tryz.call50 rfl (slices_Clone_api_Proof_api_Proof_ok _ (hg.fr hz hb) (ρA := ρ20) hb.bd (hz.fr hg hb) (o := 41) (by decide) h18 hy59) (by decide) ?_
   rintro v63 w60 ⟨ρ65, _, rfl, h64, htr62⟩
   replace hB9 := hB9.mv (htr62.mv (i := 100) rfl)
   replace hP2 := PtrO.mv hP2 secret_Locks.objK (fun p hp => htr62.mv (i := 100 + (1 + p)) (by rcases p with _ | _ | _ | p <;> first | rfl | omega)) (fun p hp => by show 100 + (1 + p) ≠ 0; omega)
   replace h4 := h4.mv (htr62.mv (i := 104) rfl)
   replace h6 := h6.mv (htr62.mv (i := 105) rfl)
   replace h8 := h8.mv (htr62.mv (i := 106) rfl)
   replace hb := hb.trans htr62
   replace jt57 := (jt57.trans htr62).weak (J' := (fun t => ([41] : List Nat).contains t)) (by intro t h; simp [rng] at h ⊢ <;> omega) rfl rfl
   refine dj_next (l' := [(36, str y12.1.user), (39, v63)]) rfl (.cons rfl (.cons rfl (.nil _))) jt57 (by intro t h; simp [rng] at h ⊢ <;> omega) rfl rfl ?_
   refine dj_h 5 (str y12.1.user) hb.bd rfl (fun w1 ρ1 hw1 => ev_assign rfl) ?_
   refine dj_h 6 v63 hb.bd rfl (fun w1 ρ1 hw1 => ev_assign rfl) ?_
   refine dj_h 7 (.int .i64 0) hb.bd rfl (fun w1 ρ1 hw1 => ev_assign rfl) ?_
   refine dj_done rfl (by kernel_rfl) ?_
   refine ke_weaken (l' := [(8, str y12.1.user), (9, v63), (10, .int .i64 0)]) (.cons rfl (.cons rfl (.cons rfl (.nil _)))) ?_
   have htr66 := frz_tr (ρ := ρ65) (w := w60) (i := 41) (by decide) hb.bd
   have h67 : SlR api_Proof.c (Wb (frz ρ65 41)) w60 v63 y58 := (SlT.mv h64.sl (frz_mv (ρ := ρ65) (w := w60) (i := 41))).sl
   replace hB9 := hB9.mv (htr66.mv (i := 100) rfl)
   replace hP2 := PtrO.mv hP2 secret_Locks.objK (fun p hp => htr66.mv (i := 100 + (1 + p)) (by rcases p with _ | _ | _ | p <;> first | rfl | omega)) (fun p hp => by show 100 + (1 + p) ≠ 0; omega)
   replace h4 := h4.mv (htr66.mv (i := 104) rfl)
   replace h6 := h6.mv (htr66.mv (i := 105) rfl)
   replace h8 := h8.mv (htr66.mv (i := 106) rfl)
   replace hb := hb.trans htr66
   cases hS
   exact ke_ret3 Tryz.func17 rfl rfl rfl rfl ⟨_, rfl, leave ρA w0 o 7 (frz ρ65 41), _, rfl, (SlR.mv h67 (leave_rd hb)), ⟨_, _, _, _, (hB9.mv (leave_mv (p := 0) (by decide) hb)), (PtrO.mv hP2 secret_Locks.objK (fun p hp => leave_mv (p := 1 + p) (by omega) hb) (fun p hp => by show o + (1 + p) ≠ 0; omega)), (h4.mv (leave_mv (p := 4) (by decide) hb)), (h6.mv (leave_mv (p := 5) (by decide) hb)), (h8.mv (leave_mv (p := 6) (by decide) hb))⟩, (leave_tr ho2 hb)⟩
theorem codec_Int_ok (w0 : World) (hg : Gs w0) {n_0 : Int} {r : Str} (hS : codec_Int n_0 = some r) :
  Calls Tryz.prog 83 #[.int .i64 n_0] w0 (Ret (fun v w' => v = str r ∧ Below w0.heap.size w0 w')) := by
 unfold codec_Int at hS
 have hb := Below.refl w0.heap.size w0
 refine calls_of_ke Tryz.func83 rfl (n := 5) rfl rfl (l := [(0, .int .i64 n_0)]) rfl ?_
 refine ke_seq ?_
 refine ke_region ?_
 refine sr_ev (v := str ([])) (ev_assign rfl) (by decide) ?_
 refine sr_end (l' := [(0, .int .i64 n_0)]) (.cons rfl (.nil _)) ?_
 refine ke_seq ?_
 refine ke_region ?_
 refine sr_ev (v := .int .i64 n_0) (ev_move rfl) (by decide) ?_
 obtain ⟨y1, hy2, hS⟩ := bind_some' hS
 refine sr_call (vs := [.int .i64 n_0]) rfl Tryz.call114 rfl (lib_Itoa_ok _ (hg.below hb) hy2) (by decide) ?_
 rintro _ w3 ⟨rfl, hbw4⟩
 replace hb := hb.trans (hbw4.mono hb.size)
 refine sr_ev (v := str y1) (ev_assign rfl) (by decide) ?_
 refine sr_end (l' := [(2, str y1)]) (.cons rfl (.nil _)) ?_
 cases hS
 exact ke_ret1 Tryz.func83 rfl rfl ⟨_, rfl, rfl, hb⟩
theorem digest_Mac_ok (w0 : World) (hg : Gs w0) {key_0 : Str} {s_1 : Str} {r : Str} (hS : digest_Mac key_0 s_1 = some r) :
  Calls Tryz.prog 82 #[str key_0, str s_1] w0 (Ret (fun v w' => v = str r ∧ Below w0.heap.size w0 w')) := by
 unfold digest_Mac at hS
 have hb := Below.refl w0.heap.size w0
 refine calls_of_ke Tryz.func82 rfl (n := 19) rfl rfl (l := [(0, str key_0), (1, str s_1)]) rfl ?_
 refine ke_seq ?_
 refine ke_region ?_
 refine sr_ev (v := str ([])) (ev_assign rfl) (by decide) ?_
 refine sr_end (l' := [(0, str key_0), (1, str s_1)]) (.cons rfl (.cons rfl (.nil _))) ?_
 refine ke_seq ?_
 refine ke_region ?_
 refine sr_ev (v := str key_0) (ev_move rfl) (by decide) ?_
 refine sr_ev (v := .int .i64 (key_0.length : Int)) (ev_slen Tryz.underlying9 rfl) (by decide) ?_
 obtain ⟨y1, hy2, hS⟩ := bind_some' hS
 refine sr_call (vs := [.int .i64 (key_0.length : Int)]) rfl Tryz.call114 rfl (lib_Itoa_ok _ (hg.below hb) hy2) (by decide) ?_
 rintro _ w3 ⟨rfl, hbw4⟩
 replace hb := hb.trans (hbw4.mono hb.size)
 obtain ⟨hk5, hS⟩ := chk_some hS
 refine sr_ev (v := str (y1 ++ ([58]))) (ev_cat rfl rfl hk5) (by decide) ?_
 refine sr_ev (v := str key_0) (ev_move rfl) (by decide) ?_
 obtain ⟨hk6, hS⟩ := chk_some hS
 refine sr_ev (v := str ((y1 ++ ([58])) ++ key_0)) (ev_cat rfl rfl hk6) (by decide) ?_
 refine sr_ev (v := str ((y1 ++ ([58])) ++ key_0)) (ev_assign rfl) (by decide) ?_
 refine sr_end (l' := [(1, str s_1), (5, str ((y1 ++ ([58])) ++ key_0))]) (.cons rfl (.cons rfl (.nil _))) ?_
 refine ke_seq ?_
 refine ke_region ?_
 refine sr_ev (v := str ((y1 ++ ([58])) ++ key_0)) (ev_move rfl) (by decide) ?_
 refine sr_ev (v := str ((y1 ++ ([58])) ++ key_0)) (ev_move rfl) (by decide) ?_
 refine sr_ev (v := str s_1) (ev_move rfl) (by decide) ?_
 obtain ⟨hk7, hS⟩ := chk_some hS
 refine sr_ev (v := str (((y1 ++ ([58])) ++ key_0) ++ s_1)) (ev_cat rfl rfl hk7) (by decide) ?_
 obtain ⟨y8, hy9, hS⟩ := bind_some' hS
 refine sr_call (vs := [str (((y1 ++ ([58])) ++ key_0) ++ s_1)]) rfl Tryz.call96 rfl (digest_Text_ok _ (hg.below hb) hy9) (by decide) ?_
 rintro _ w10 ⟨rfl, hbw11⟩
 replace hb := hb.trans (hbw11.mono hb.size)
 obtain ⟨hk12, hS⟩ := chk_some hS
 refine sr_ev (v := str (((y1 ++ ([58])) ++ key_0) ++ y8)) (ev_cat rfl rfl hk12) (by decide) ?_
 obtain ⟨y13, hy14, hS⟩ := bind_some' hS
 refine sr_call (vs := [str (((y1 ++ ([58])) ++ key_0) ++ y8)]) rfl Tryz.call96 rfl (digest_Text_ok _ (hg.below hb) hy14) (by decide) ?_
 rintro _ w15 ⟨rfl, hbw16⟩
 replace hb := hb.trans (hbw16.mono hb.size)
 refine sr_ev (v := str y13) (ev_assign rfl) (by decide) ?_
 refine sr_end (l' := [(4, str y13)]) (.cons rfl (.nil _)) ?_
 cases hS
 exact ke_ret1 Tryz.func82 rfl rfl ⟨_, rfl, rfl, hb⟩
theorem otp_code_L1_ok {w0 : World} (hg : Gs w0) {A0 : Nat → Prop} (hA0 : ∀ b, A0 b → b < w0.heap.size) : ∀ (n : Nat), ∀ {r : Str} {n_5 : Int} {out_6 : List Int} {t_15 : Int} {gout_6 : Nat}, otp_code_L1 n n_5 out_6 t_15 = some r → ∀ {w : World} {A : Nat → Prop}, (Below w0.heap.size w0 w) → (∀ b, A b → b < w.heap.size) → (∀ b, A0 b → A b) → (Hp A w0.heap.size w [(gout_6, .cells (out_6.map (Value.int .u8)).toArray 5 (0, 0))]) → KE Tryz.prog 41 (Ret (fun v w' => v = str r ∧ Below w0.heap.size w0 w')) 31 [.code (sub (bodyOf Tryz.f41) [2, 2, 2, 1, 2, 2, 1]), .inLoop (sub (bodyOf Tryz.f41) [2, 2, 2, 1, 2, 2, 1]), .inBlock 0, .code (sub (bodyOf Tryz.f41) [2, 2, 2, 2])] [(5, .int .u64 n_5), (6, .slice (some ⟨gout_6, 0, none⟩) 6 6), (15, .int .i64 t_15)] w := by
 intro n
 induction n with
 | zero => intro r n_5 out_6 t_15 gout_6 hS; cases hS
 | succ n ih =>
  have hr0 : ∀ {r : Str} {n_5 : Int} {out_6 : List Int} {t_15 : Int} {gout_6 : Nat}, otp_code_L1 n n_5 out_6 t_15 = some r → ∀ {w : World} {A : Nat → Prop}, (Below w0.heap.size w0 w) → (∀ b, A b → b < w.heap.size) → (∀ b, A0 b → A b) → (Hp A w0.heap.size w [(gout_6, .cells (out_6.map (Value.int .u8)).toArray 5 (0, 0))]) → KE Tryz.prog 41 (Ret (fun v w' => v = str r ∧ Below w0.heap.size w0 w')) 31 [.inLoop (sub (bodyOf Tryz.f41) [2, 2, 2, 1, 2, 2, 1]), .inBlock 0, .code (sub (bodyOf Tryz.f41) [2, 2, 2, 2])] [(5, .int .u64 n_5), (6, .slice (some ⟨gout_6, 0, none⟩) 6 6), (15, .int .i64 t_15)] w := fun {r} {n_5} {out_6} {t_15} {gout_6} hS {w} {A} hb hA hi hH => ke_inLoop (ih hS hb hA hi hH)
  clear ih
  intro r n_5 out_6 t_15 gout_6 hS w A hb hA hi hH
  unfold otp_code_L1 at hS
  refine ke_seq ?_
  refine ke_region ?_
  refine sr_ev (v := .bool (decide (t_15 < 6))) (ev_lt rfl rfl) (by decide) ?_
  refine sr_end (l' := [(5, .int .u64 n_5), (6, .slice (some ⟨gout_6, 0, none⟩) 6 6), (15, .int .i64 t_15), (16, .bool (decide (t_15 < 6)))]) (.cons rfl (.cons rfl (.cons rfl (.cons rfl (.nil _))))) ?_
  refine ke_seq ?_
  refine ke_cond (t := decide (t_15 < 6)) rfl (fun hc20 => ?_) (fun hc20 => ?_)
  ·replace hS := ite_true' hS hc20
   refine ke_skip ?_
   refine ke_seq ?_
   refine ke_block ?_
   refine ke_seq ?_
   refine ke_region ?_
   refine sr_ev (v := .int .i64 t_15) (ev_move rfl) (by decide) ?_
   refine sr_ev (v := .int .i64 t_15) (ev_assign rfl) (by decide) ?_
   refine sr_end (l' := [(5, .int .u64 n_5), (6, .slice (some ⟨gout_6, 0, none⟩) 6 6), (7, .int .i64 t_15), (15, .int .i64 t_15)]) (.cons rfl (.cons rfl (.cons rfl (.cons rfl (.nil _))))) ?_
   refine ke_seq ?_
   refine ke_region ?_
   refine sr_ev (v := .slice (some ⟨gout_6, 0, none⟩) 6 6) (ev_move rfl) (by decide) ?_
   refine sr_ev (v := .int .i64 t_15) (ev_move rfl) (by decide) ?_
   refine sr_ev (v := .int .i64 (IntKind.i64.wrap (5 - t_15))) (ev_sub rfl rfl) (by decide) ?_
   refine sr_ev (v := .int .u64 n_5) (ev_move rfl) (by decide) ?_
   refine sr_ev (v := .int .u64 (Int.tmod n_5 10)) (ev_rem rfl rfl (by decide)) (by decide) ?_
   refine sr_ev (v := .int .u64 (IntKind.u64.wrap (48 + (Int.tmod n_5 10)))) (ev_add rfl rfl) (by decide) ?_
   refine sr_ev (v := .int .u8 (IntKind.u8.wrap (IntKind.u64.wrap (48 + (Int.tmod n_5 10))))) (ev_conv Tryz.underlying5 Tryz.underlying116 rfl) (by decide) ?_
   obtain ⟨hk21, hS⟩ := chk_some hS
   refine sr_ev (v := .pointer (some ⟨gout_6, 0 + (IntKind.i64.wrap (5 - t_15)).toNat * 1, none⟩)) (ev_arrslindex Tryz.underlying120 Tryz.info5 rfl rfl rfl hk21) (by decide) ?_
   obtain ⟨hk22, hS⟩ := chk_some hS
   refine sr_store_arr (j := 0) hH rfl Tryz.sizeOf5 rfl rfl hk22 ?_
   intro w23 hH1 hwr24
   replace hb := hwr24.below hb (hH.base _ (List.mem_of_getElem? (i := 0) rfl))
   replace hA := hwr24.lt hA
   replace hH : Hp A w0.heap.size w23 [(gout_6, .cells ((setAt out_6 (IntKind.i64.wrap (5 - t_15)) (IntKind.u8.wrap (IntKind.u64.wrap (48 + (Int.tmod n_5 10))))).map (Value.int .u8)).toArray 5 (0, 0))] := hH1
   clear hH1
   refine sr_end (l' := [(5, .int .u64 n_5), (6, .slice (some ⟨gout_6, 0, none⟩) 6 6), (15, .int .i64 t_15)]) (.cons rfl (.cons rfl (.cons rfl (.nil _)))) ?_
   refine ke_region ?_
   refine sr_ev (v := .int .u64 n_5) (ev_move rfl) (by decide) ?_
   refine sr_ev (v := .int .u64 (IntKind.u64.wrap (n_5.tdiv 10))) (ev_quo rfl rfl (by decide)) (by decide) ?_
   refine sr_ev (v := .int .u64 (IntKind.u64.wrap (n_5.tdiv 10))) (ev_assign rfl) (by decide) ?_
   refine sr_end (l' := [(5, .int .u64 (IntKind.u64.wrap (n_5.tdiv 10))), (6, .slice (some ⟨gout_6, 0, none⟩) 6 6), (15, .int .i64 t_15)]) (.cons rfl (.cons rfl (.cons rfl (.nil _)))) ?_
   refine ke_inBlock ?_
   refine ke_region ?_
   refine sr_ev (v := .int .i64 (IntKind.i64.wrap (t_15 + 1))) (ev_add rfl rfl) (by decide) ?_
   refine sr_ev (v := .int .i64 (IntKind.i64.wrap (t_15 + 1))) (ev_move rfl) (by decide) ?_
   refine sr_end (l' := [(5, .int .u64 (IntKind.u64.wrap (n_5.tdiv 10))), (6, .slice (some ⟨gout_6, 0, none⟩) 6 6), (15, .int .i64 (IntKind.i64.wrap (t_15 + 1)))]) (.cons rfl (.cons rfl (.cons rfl (.nil _)))) ?_
   have hK := hr0 hS hb hA hi hH
   exact ke_weaken (l' := [(5, .int .u64 (IntKind.u64.wrap (n_5.tdiv 10))), (6, .slice (some ⟨gout_6, 0, none⟩) 6 6), (15, .int .i64 (IntKind.i64.wrap (t_15 + 1)))]) (.cons rfl (.cons rfl (.cons rfl (.nil _)))) hK
  ·replace hS := ite_false' hS hc20
   refine ke_exit (k' := _) rfl ?_
   refine ke_seq ?_
   refine ke_region ?_
   refine sr_ev (v := .slice (some ⟨gout_6, 0, none⟩) 6 6) (ev_move rfl) (by decide) ?_
   obtain ⟨hk25, hS⟩ := chk_some hS
   refine sr_ev (v := str (bytesStr out_6)) (ev_arr2s (j := 0) hH rfl (by simpa using hk25) rfl Tryz.underlying120 Tryz.underlying5 Tryz.underlying9 rfl) (by decide) ?_
   refine sr_ev (v := str (bytesStr out_6)) (ev_assign rfl) (by decide) ?_
   refine sr_end (l' := [(4, str (bytesStr out_6))]) (.cons rfl (.nil _)) ?_
   cases hS
   exact ke_ret1 Tryz.func41 rfl rfl ⟨_, rfl, rfl, hb⟩
theorem otp_code_ok (w0 : World) (hg : Gs w0) {secret_0 : Str} {counter_1 : Int} {r : Str} (hS : otp_code secret_0 counter_1 = some r) :
  Calls Tryz.prog 41 #[str secret_0, .int .i64 counter_1] w0 (Ret (fun v w' => v = str r ∧ Below w0.heap.size w0 w')) := by
 unfold otp_code at hS
 have hb := Below.refl w0.heap.size w0
 obtain ⟨A0, hA0, hAe⟩ : ∃ A0 : Nat → Prop, (∀ b, A0 b → b < w0.heap.size) ∧ A0 = fun _ => False := ⟨_, fun _ h => h.elim, rfl⟩
 clear hAe
 have hA := hA0
 have hi : ∀ b, A0 b → A0 b := fun _ h => h
 have hH := Hp.nil A0 w0.heap.size w0
 refine calls_of_ke Tryz.func41 rfl (n := 31) rfl rfl (l := [(0, str secret_0), (1, .int .i64 counter_1)]) rfl ?_
 refine ke_seq ?_
 refine ke_region ?_
 refine sr_ev (v := str ([])) (ev_assign rfl) (by decide) ?_
 refine sr_end (l' := [(0, str secret_0), (1, .int .i64 counter_1)]) (.cons rfl (.cons rfl (.nil _))) ?_
 refine ke_seq ?_
 refine ke_region ?_
 refine sr_ev (v := str secret_0) (ev_move rfl) (by decide) ?_
 refine sr_ev (v := .int .i64 counter_1) (ev_move rfl) (by decide) ?_
 obtain ⟨y1, hy2, hS⟩ := bind_some' hS
 refine sr_call (vs := [.int .i64 counter_1]) rfl Tryz.call83 rfl (codec_Int_ok _ (hg.below hb) hy2) (by decide) ?_
 rintro _ w3 ⟨rfl, hbw4⟩
 replace hb := hb.trans (hbw4.mono hb.size)
 replace hA := lt_mono hA hbw4.size
 replace hH := hH.below hbw4
 obtain ⟨y5, hy6, hS⟩ := bind_some' hS
 refine sr_call (vs := [str secret_0, str y1]) rfl Tryz.call82 rfl (digest_Mac_ok _ (hg.below hb) hy6) (by decide) ?_
 rintro _ w7 ⟨rfl, hbw8⟩
 replace hb := hb.trans (hbw8.mono hb.size)
 replace hA := lt_mono hA hbw8.size
 replace hH := hH.below hbw8
 obtain ⟨y9, hy10, hS⟩ := bind_some' hS
 refine sr_call (vs := [str y5]) rfl Tryz.call81 rfl (digest_Sum_ok _ (hg.below hb) hy10) (by decide) ?_
 rintro _ w11 ⟨rfl, hbw12⟩
 replace hb := hb.trans (hbw12.mono hb.size)
 replace hA := lt_mono hA hbw12.size
 replace hH := hH.below hbw12
 refine sr_ev (v := .int .u64 (Int.tmod y9 1000000)) (ev_rem rfl rfl (by decide)) (by decide) ?_
 refine sr_ev (v := .int .u64 (Int.tmod y9 1000000)) (ev_assign rfl) (by decide) ?_
 refine sr_end (l' := [(5, .int .u64 (Int.tmod y9 1000000))]) (.cons rfl (.nil _)) ?_
 refine ke_seq ?_
 refine ke_region ?_
 refine sr_makeArr (m := 6) (E := 5) (kk := .u8) (xs := [0, 0, 0, 0, 0, 0]) hH hb.size hA rfl rfl (fun _ => by kernel_rfl) (by decide) ?_
 intro g13 A14 w15 hH1 hst16 hbw17 hinc18 hA1 hge19
 replace hb := hb.trans (hbw17.mono hb.size)
 replace hi := fun b hb => hinc18 b (hi b hb)
 replace hH : Hp A14 w0.heap.size w15 [(g13, .cells (([0, 0, 0, 0, 0, 0]).map (Value.int .u8)).toArray 5 (0, 0))] := hH1
 replace hA := hA1
 clear hH1 hA1
 refine sr_ev (v := .slice (some ⟨g13, 0, none⟩) 6 6) (ev_assign rfl) (by decide) ?_
 refine sr_end (l' := [(5, .int .u64 (Int.tmod y9 1000000)), (6, .slice (some ⟨g13, 0, none⟩) 6 6)]) (.cons rfl (.cons rfl (.nil _))) ?_
 refine ke_seq ?_
 refine ke_seq ?_
 refine ke_region ?_
 refine sr_ev (v := .int .i64 0) (ev_move rfl) (by decide) ?_
 refine sr_end (l' := [(5, .int .u64 (Int.tmod y9 1000000)), (6, .slice (some ⟨g13, 0, none⟩) 6 6), (15, .int .i64 0)]) (.cons rfl (.cons rfl (.cons rfl (.nil _)))) ?_
 refine ke_block ?_
 have hK := otp_code_L1_ok hg hA0 _ hS hb hA hi hH
 exact ke_weaken (l' := [(5, .int .u64 (Int.tmod y9 1000000)), (6, .slice (some ⟨g13, 0, none⟩) 6 6), (15, .int .i64 0)]) (.cons rfl (.cons rfl (.cons rfl (.nil _)))) (ke_loop hK)

end YtkhodjenbganfaaGreatDoor
end Go.Proofs
