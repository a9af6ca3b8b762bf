/- Own work: a part of the proofs of this seat. -/
import Derived.Test.YtijiipelpgmhpaaProg
import Derived.Test.YtijiipelpgmhpaaShelf
import Derived.Test.YtijiipelpgmhpaaKwIS
import Derived.KernelRfl
import Derived.Test.YtijiipelpgmhpaaKwIConsentGrantedW1
set_option linter.unusedVariables false
set_option linter.unusedSimpArgs false
set_option linter.unusedSectionVars false
set_option maxHeartbeats 8000000
set_option maxRecDepth 8000
namespace Go.Proofs
namespace Ytijiipelpgmhpaa
open Go Go.KW Go.KW.S Go.RowKit
theorem consent_Consents_Revoke_ok (w0 : World) (hg : Gs w0) {ρA : Tags} (hbd : ∀ b, ρA b ≠ 0 → b < w0.heap.size) (hz : Gz ρA) {o : Nat} (ho2 : 2 ≤ o) {c_0 : consent_Consents} {user_1 : Str} {client_2 : Str} {gc_0 : Nat} {r : Bool × consent_Consents} (ho0 : consent_Consents.O (fun p => o + p) ρA w0 gc_0 c_0) (hS : consent_Consents_Revoke c_0 user_1 client_2 = some r) :
  Calls Try.prog 26 #[.pointer (some ⟨gc_0, 0, none⟩), str user_1, str client_2] w0 (Ret (fun v w' => ∃ ρ', v = .bool r.1 ∧ consent_Consents.O (fun p => o + p) ρ' w' gc_0 r.2 ∧ Tr ρA w0 (rng o 2) ρ' w')) := by
 unfold consent_Consents_Revoke at hS
 have hb := enter_fr (ρ := ρA) (w := w0) (n := 2) ho2 hbd
 have hz := hz.enter (n := 2) ho2
 obtain ⟨v1, hB3, h2⟩ := ho0
 replace hB3 := hB3.mv (enter_mv (p := 0) (n := 2) (by decide) ho2)
 replace h2 := h2.mv (enter_mv (p := 1) (n := 2) (by decide) ho2)
 replace hB3 : Blk (enter ρA o 2) 100 w0 gc_0 (.cells #[v1] 52 (0, 0)) := hB3
 replace h2 : MapT consent_pair.ek (mapC str (intC .i64) false) false (enter ρA o 2) 101 w0 v1 c_0.pairs := h2
 refine calls_of_ke Try.func26 rfl (n := 30) rfl rfl (l := [(0, .pointer (some ⟨gc_0, 0, none⟩)), (1, str user_1), (2, str client_2)]) rfl ?_
 refine ke_seq ?_
 refine ke_region ?_
 refine sr_ev (v := .bool false) (ev_assign rfl) (by decide) ?_
 refine sr_end (l' := [(0, .pointer (some ⟨gc_0, 0, none⟩)), (1, str user_1), (2, str client_2)]) (.cons rfl (.cons rfl (.cons rfl (.nil _)))) ?_
 refine ke_seq ?_
 refine ke_seq ?_
 refine ke_region ?_
 refine sr_ev (v := .pointer (some ⟨gc_0, 0, none⟩)) (ev_move rfl) (by decide) ?_
 refine sr_ev (v := .bool false) (ev_peqT_some Try.underlying25 rfl rfl) (by decide) ?_
 refine sr_end (l' := [(0, .pointer (some ⟨gc_0, 0, none⟩)), (1, str user_1), (2, str client_2), (11, .bool false)]) (.cons rfl (.cons rfl (.cons rfl (.cons rfl (.nil _))))) ?_
 refine ke_cond (t := false) rfl (fun h => by cases h) (fun _ => ?_)
 refine ke_skip ?_
 refine ke_seq ?_
 refine ke_region ?_
 refine sr_ev (v := str user_1) (ev_move rfl) (by decide) ?_
 refine sr_ev (v := str client_2) (ev_move rfl) (by decide) ?_
 refine sr_ev (v := .agg #[str user_1, str client_2]) (ev_build (vs := #[(0, str user_1), (1, str client_2)]) rfl (fun _ => by kernel_rfl)) (by decide) ?_
 refine sr_allocT 9 (by decide) hb.bd Try.zeroValue59 (by decide) ?_
 intro g4 ρ5 w6 hB8 htr7
 replace hB3 := hB3.mv (htr7.mv (i := 100) rfl)
 replace h2 := h2.mv (htr7.mv (i := 101) rfl)
 replace hb := hb.trans htr7
 replace hB8 : Blk ρ5 9 w6 g4 (.cells #[str ([]), str ([])] 59 (0, 0)) := hB8
 refine sr_storeT (v := .agg #[str user_1, str client_2]) (vs := [str user_1, str client_2]) (cs' := #[str user_1, str client_2]) hB8 (by decide) hb.bd rfl rfl rfl Try.sizeOf59 rfl rfl rfl ?_
 intro w9 hB81 htr10
 replace hB3 := hB3.mv (htr10.mv (i := 100) rfl)
 replace h2 := h2.mv (htr10.mv (i := 101) rfl)
 replace hb := hb.trans htr10
 replace hB8 : Blk ρ5 9 w9 g4 (.cells #[str user_1, str client_2] 59 (0, 0)) := hB81
 clear hB81
 refine sr_end (l' := [(0, .pointer (some ⟨gc_0, 0, none⟩)), (7, .pointer (some ⟨g4, 0, none⟩))]) (.cons rfl (.cons rfl (.nil _))) ?_
 refine ke_seq ?_
 refine ke_region_q Try.mixed (by kernel_rfl) ?_
 refine sq_ev (v := .pointer (some ⟨gc_0, 0, none⟩)) (fun w1 hw1 => ev_move rfl) (by decide) ?_
 refine sq_ev (v := .pointer (some ⟨gc_0, 0, none⟩)) (fun w1 hw1 => ev_nilCheck rfl) (by decide) ?_
 refine sq_ev (v := .pointer (some ⟨gc_0, 0, none⟩)) (fun w1 hw1 => ev_fieldAddr (i := 0) Try.underlying52 rfl Try.info50 rfl rfl) (by decide) ?_
 refine sq_ev (v := v1) (fun w1 hw1 => ev_load Try.isAgg50 rfl ((hB3.mv (Mv.of_below (i := 100) (ρ := ρ5) hw1)).cell rfl)) (by decide) ?_
 refine sq_ev (v := .agg #[str user_1, str client_2]) (fun w1 hw1 => ev_loads (cs := [str user_1, str client_2]) Try.isAgg59 Try.sizeOf59 rfl ((hB8.mv (Mv.of_below (i := 9) (ρ := ρ5) hw1)).cells (vs := [str user_1, str client_2]) rfl)) (by decide) ?_
 obtain ⟨y17, hy18, hS⟩ := bind_some' hS
 replace hy18 := Option.some.inj hy18
 obtain ⟨cs13, hrd14, hl15, hl16⟩ := h2.look (zcs := [(.map none)]) (z := (none : GMap Str Int)) Try.keyB59 Try.underlying50 Try.zeroValue71 ⟨_, rfl, MapRd.nil⟩ (consent_pair.mk user_1 client_2)
 rw [hy18] at hrd14
 obtain ⟨v19, hcshrd14, h20⟩ := hrd14
 obtain rfl : cs13 = [v19] := hcshrd14
 refine sq_ev (v := .tuple #[v19, .bool (mhas c_0.pairs (consent_pair.mk user_1 client_2))]) (fun w1 hw1 => hl16 w1 _ _ (Mv.of_below (i := 101) (ρ := ρ5) hw1) rfl rfl) (by decide) ?_
 refine sq_ev (v := .tuple #[v19, .bool (mhas c_0.pairs (consent_pair.mk user_1 client_2))]) (fun w1 hw1 => ev_move rfl) (by decide) ?_
 refine sq_ev (v := v19) (fun w1 hw1 => ev_extract rfl rfl) (by decide) ?_
 refine sq_ev (v := .bool (mhas c_0.pairs (consent_pair.mk user_1 client_2))) (fun w1 hw1 => ev_extract rfl rfl) (by decide) ?_
 refine sq_ev (v := v19) (fun w1 hw1 => ev_assign rfl) (by decide) ?_
 refine sq_ev (v := .bool (mhas c_0.pairs (consent_pair.mk user_1 client_2))) (fun w1 hw1 => ev_assign rfl) (by decide) ?_
 refine sq_end (l' := [(0, .pointer (some ⟨gc_0, 0, none⟩)), (7, .pointer (some ⟨g4, 0, none⟩)), (9, .bool (mhas c_0.pairs (consent_pair.mk user_1 client_2)))]) (.cons rfl (.cons rfl (.cons rfl (.nil _)))) (fun w12 hw11 => ?_)
 have htr21 := Tr.of_below hw11 hb.bd
 replace hB8 := hB8.mv (htr21.mv (i := 9) rfl)
 replace hB3 := hB3.mv (htr21.mv (i := 100) rfl)
 replace h2 := h2.mv (htr21.mv (i := 101) rfl)
 replace hb := hb.trans htr21
 refine ke_seq ?_
 refine ke_region_j (ρ := ρ5) (fun t => ([101] : List Nat).contains t) 6 Try.mixed (fun w23 hw22 => ?_)
 have htr24 := Tr.of_below hw22 hb.bd
 replace hB8 := hB8.mv (htr24.mv (i := 9) rfl)
 replace hB3 := hB3.mv (htr24.mv (i := 100) rfl)
 replace h2 := h2.mv (htr24.mv (i := 101) rfl)
 replace hb := hb.trans htr24
 refine dj_H 0 (v := .pointer (some ⟨gc_0, 0, none⟩)) (by kernel_rfl) (by kernel_rfl) rfl (fun _ _ _ h => h) (sj_refl hb.bd rfl rfl) (fun w1 ρ1 hw1 => ev_move rfl) (by decide) ?_
 refine dj_H 1 (v := .pointer (some ⟨gc_0, 0, none⟩)) (by kernel_rfl) (by kernel_rfl) rfl (fun _ _ _ h => h) (sj_refl hb.bd rfl rfl) (fun w1 ρ1 hw1 => ev_nilCheck rfl) (by decide) ?_
 refine dj_H 2 (v := .pointer (some ⟨gc_0, 0, none⟩)) (by kernel_rfl) (by kernel_rfl) rfl (fun _ _ _ h => h) (sj_refl hb.bd rfl rfl) (fun w1 ρ1 hw1 => ev_fieldAddr (i := 0) Try.underlying52 rfl Try.info50 rfl rfl) (by decide) ?_
 refine dj_H 3 (v := v1) (by kernel_rfl) (by kernel_rfl) rfl (fun _ _ _ h => h) (sj_refl hb.bd rfl rfl) (fun w1 ρ1 hw1 => ev_load Try.isAgg50 rfl ((hB3.mv (hw1.mv (i := 100) rfl)).cell rfl)) (by decide) ?_
 refine dj_H 4 (v := .agg #[str user_1, str client_2]) (by kernel_rfl) (by kernel_rfl) rfl (fun _ _ _ h => h) (sj_refl hb.bd rfl rfl) (fun w1 ρ1 hw1 => ev_loads (cs := [str user_1, str client_2]) Try.isAgg59 Try.sizeOf59 rfl ((hB8.mv (hw1.mv (i := 9) rfl)).cells (vs := [str user_1, str client_2]) rfl)) (by decide) ?_
 refine dj_E 5 (by kernel_rfl) rfl ?_
 have jt32 : Tr ρ5 w23 (fun t => ([101] : List Nat).contains t) ρ5 w23 := (Tr.refl hb.bd).weak (fun _ _ => rfl) rfl rfl
 refine sr_mapDel0 (k := (consent_pair.mk user_1 client_2)) h2 Try.keyB59 Try.underlying50 (by decide) hb.bd rfl rfl ?_
 intro w33 h21 htr34
 replace hB3 := hB3.mv (htr34.mv (i := 100) rfl)
 replace hb := hb.trans htr34
 replace jt32 := (jt32.trans htr34).weak (J' := (fun t => ([101] : List Nat).contains t)) (by intro t h; simp [rng] at h ⊢ <;> omega) rfl rfl
 replace h2 := h21
 clear h21
 refine dj_next (l' := [(9, .bool (mhas c_0.pairs (consent_pair.mk user_1 client_2)))]) rfl (.cons rfl (.nil _)) jt32 (by intro t h; simp [rng] at h ⊢ <;> omega) rfl rfl ?_
 refine dj_done rfl (by kernel_rfl) ?_
 refine ke_weaken (l' := [(9, .bool (mhas c_0.pairs (consent_pair.mk user_1 client_2)))]) (.cons rfl (.nil _)) ?_
 refine ke_seq ?_
 refine ke_region ?_
 refine sr_ev (v := .bool (mhas c_0.pairs (consent_pair.mk user_1 client_2))) (ev_move rfl) (by decide) ?_
 refine sr_ev (v := .bool (mhas c_0.pairs (consent_pair.mk user_1 client_2))) (ev_assign rfl) (by decide) ?_
 refine sr_end (l' := [(6, .bool (mhas c_0.pairs (consent_pair.mk user_1 client_2)))]) (.cons rfl (.nil _)) ?_
 cases hS
 exact ke_ret1 Try.func26 rfl rfl ⟨_, rfl, leave ρA w0 o 2 ρ5, rfl, ⟨_, (hB3.mv (leave_mv (p := 0) (by decide) hb)), (h2.mv (leave_mv (p := 1) (by decide) hb))⟩, (leave_tr ho2 hb)⟩
theorem consent_Consents_Grant__nil_ok (w0 : World) (hg : Gs w0) {ρA : Tags} (hbd : ∀ b, ρA b ≠ 0 → b < w0.heap.size) (hz : Gz ρA) {user_1 : Str} {client_2 : Str} {scopes_3 : List Str} {until_4 : Int} {now_5 : Int} {v1 : Value} {r : Int} (h2 : SlR strC (Wb ρA) w0 v1 scopes_3) (hS : consent_Consents_Grant__nil user_1 client_2 scopes_3 until_4 now_5 = some r) :
  Calls Try.prog 21 #[.pointer none, str user_1, str client_2, v1, .int .i64 until_4, .int .i64 now_5] w0 (Ret (fun v w' => v = .int .i64 r ∧ Below w0.heap.size w0 w')) := by
 unfold consent_Consents_Grant__nil at hS
 have hb := flat1_fr (ρ := ρA) (w := w0) hbd
 have hz := hz.flat1
 replace h2 := SlR.mv h2 flat1_rd
 refine calls_of_ke Try.func21 rfl (n := 115) rfl rfl (l := [(0, .pointer none), (1, str user_1), (2, str client_2), (3, v1), (4, .int .i64 until_4), (5, .int .i64 now_5)]) rfl ?_
 refine ke_seq ?_
 refine ke_region ?_
 refine sr_ev (v := .int .i64 0) (ev_assign rfl) (by decide) ?_
 refine sr_end (l' := [(0, .pointer none), (1, str user_1), (2, str client_2), (3, v1), (4, .int .i64 until_4), (5, .int .i64 now_5)]) (.cons rfl (.cons rfl (.cons rfl (.cons rfl (.cons rfl (.cons rfl (.nil _))))))) ?_
 refine ke_seq ?_
 refine ke_seq ?_
 refine ke_region ?_
 refine sr_ev (v := .pointer none) (ev_move rfl) (by decide) ?_
 refine sr_ev (v := .bool true) (ev_peqT_nil Try.underlying25 rfl rfl) (by decide) ?_
 refine sr_ev (v := .bool true) (ev_move rfl) (by decide) ?_
 refine sr_pass (e := 26) rfl rfl rfl (by decide) ?_
 refine sr_pass (e := 26) rfl rfl rfl (by decide) ?_
 refine sr_pass (e := 26) rfl rfl rfl (by decide) ?_
 refine sr_pass (e := 26) rfl rfl rfl (by decide) ?_
 refine sr_pass (e := 26) rfl rfl rfl (by decide) ?_
 refine sr_ev (v := .bool true) (ev_pick_t rfl rfl rfl) (by decide) ?_
 refine sr_end (l' := [(0, .pointer none), (1, str user_1), (2, str client_2), (3, v1), (4, .int .i64 until_4), (5, .int .i64 now_5), (32, .bool true)]) (.cons rfl (.cons rfl (.cons rfl (.cons rfl (.cons rfl (.cons rfl (.cons rfl (.nil _)))))))) ?_
 refine ke_cond (t := true) rfl (fun _ => ?_) (fun h => by cases h)
 refine ke_seq ?_
 refine ke_region ?_
 refine sr_ev (v := .int .i64 1) (ev_assign rfl) (by decide) ?_
 refine sr_end (l' := [(12, .int .i64 1)]) (.cons rfl (.nil _)) ?_
 cases hS
 exact ke_ret1 Try.func21 rfl rfl ⟨_, rfl, rfl, (hb.below (flat1_le _))⟩
theorem consent_Consents_Covers__nil_ok (w0 : World) (hg : Gs w0) {ρA : Tags} (hbd : ∀ b, ρA b ≠ 0 → b < w0.heap.size) (hz : Gz ρA) {user_1 : Str} {client_2 : Str} {scopes_3 : List Str} {now_4 : Int} {v1 : Value} {r : Bool} (h2 : SlR strC (Wb ρA) w0 v1 scopes_3) (hS : consent_Consents_Covers__nil user_1 client_2 scopes_3 now_4 = some r) :
  Calls Try.prog 25 #[.pointer none, str user_1, str client_2, v1, .int .i64 now_4] w0 (Ret (fun v w' => v = .bool r ∧ Below w0.heap.size w0 w')) := by
 unfold consent_Consents_Covers__nil at hS
 have hb := flat1_fr (ρ := ρA) (w := w0) hbd
 have hz := hz.flat1
 replace h2 := SlR.mv h2 flat1_rd
 refine calls_of_ke Try.func25 rfl (n := 29) rfl rfl (l := [(0, .pointer none), (1, str user_1), (2, str client_2), (3, v1), (4, .int .i64 now_4)]) rfl ?_
 refine ke_seq ?_
 refine ke_region ?_
 refine sr_ev (v := .bool false) (ev_assign rfl) (by decide) ?_
 refine sr_end (l' := [(0, .pointer none), (1, str user_1), (2, str client_2), (3, v1), (4, .int .i64 now_4)]) (.cons rfl (.cons rfl (.cons rfl (.cons rfl (.cons rfl (.nil _)))))) ?_
 refine ke_seq ?_
 refine ke_region ?_
 refine sr_ev (v := .pointer none) (ev_move rfl) (by decide) ?_
 refine sr_ev (v := .bool false) (ev_pneT_nil Try.underlying25 rfl rfl) (by decide) ?_
 refine sr_ev (v := .bool false) (ev_move rfl) (by decide) ?_
 refine sr_pass (e := 13) rfl rfl rfl (by decide) ?_
 refine sr_pass (e := 13) rfl rfl rfl (by decide) ?_
 refine sr_pass (e := 13) rfl rfl rfl (by decide) ?_
 refine sr_pass (e := 13) rfl rfl rfl (by decide) ?_
 refine sr_pass (e := 13) rfl rfl rfl (by decide) ?_
 refine sr_ev (v := .bool false) (ev_pick_f rfl rfl rfl) (by decide) ?_
 refine sr_ev (v := .bool false) (ev_move rfl) (by decide) ?_
 refine sr_pass (e := 20) rfl rfl rfl (by decide) ?_
 refine sr_pass (e := 20) rfl rfl rfl (by decide) ?_
 refine sr_pass (e := 20) rfl rfl rfl (by decide) ?_
 refine sr_pass (e := 20) rfl rfl rfl (by decide) ?_
 refine sr_pass (e := 20) rfl rfl rfl (by decide) ?_
 refine sr_pass (e := 20) rfl rfl rfl (by decide) ?_
 refine sr_pass (e := 20) rfl rfl rfl (by decide) ?_
 refine sr_ev (v := .bool false) (ev_pick_f rfl rfl rfl) (by decide) ?_
 refine sr_ev (v := .bool false) (ev_assign rfl) (by decide) ?_
 refine sr_end (l' := [(10, .bool false)]) (.cons rfl (.nil _)) ?_
 cases hS
 exact ke_ret1 Try.func25 rfl rfl ⟨_, rfl, rfl, (hb.below (flat1_le _))⟩
theorem law32_awake_ok (w0 : World) (hg : Gs w0) {ρA : Tags} (hbd : ∀ b, ρA b ≠ 0 → b < w0.heap.size) (hz : Gz ρA) {r : Bool} (hS : law32_awake = some r) :
  Calls Try.prog 9 #[] w0 (Ret (fun v w' => v = .bool r ∧ Below w0.heap.size w0 w')) := by
 unfold law32_awake at hS
 have hb := flat1_fr (ρ := ρA) (w := w0) hbd
 have hz := hz.flat1
 refine calls_of_ke Try.func9 rfl (n := 87) rfl rfl (l := []) rfl ?_
 refine ke_seq ?_
 refine ke_region ?_
 refine sr_ev (v := .bool false) (ev_assign rfl) (by decide) ?_
 refine sr_end (l' := []) (.nil _) ?_
 refine ke_seq ?_
 refine ke_region ?_
 obtain ⟨y1, hy2, hS⟩ := bind_some' hS
 refine sr_call (vs := []) rfl Try.call10 rfl (consent_New_ok _ (hg.fr hz hb) (ρA := (flat1 ρA)) hb.bd (hz.fr hg hb) (o := 100) (by decide) hy2) (by decide) ?_
 rintro _ w3 ⟨ρ10, g6, rfl, ⟨v7, hB9, h8⟩, htr5⟩
 replace hb := hb.trans htr5
 replace hB9 : Blk ρ10 100 w3 g6 (.cells #[v7] 52 (0, 0)) := hB9
 replace h8 : MapT consent_pair.ek (mapC str (intC .i64) false) false ρ10 101 w3 v7 y1.pairs := h8
 refine sr_ev (v := .pointer (some ⟨g6, 0, none⟩)) (ev_assign rfl) (by decide) ?_
 refine sr_end (l' := [(1, .pointer (some ⟨g6, 0, none⟩))]) (.cons rfl (.nil _)) ?_
 refine ke_seq ?_
 refine ke_seq ?_
 refine ke_region ?_
 refine sr_ev (v := .pointer (some ⟨g6, 0, none⟩)) (ev_move rfl) (by decide) ?_
 refine sr_ev (v := .bool false) (ev_peqT_some Try.underlying25 rfl rfl) (by decide) ?_
 refine sr_end (l' := [(1, .pointer (some ⟨g6, 0, none⟩)), (13, .bool false)]) (.cons rfl (.cons rfl (.nil _))) ?_
 refine ke_cond (t := false) rfl (fun h => by cases h) (fun _ => ?_)
 refine ke_skip ?_
 refine ke_seq ?_
 refine ke_region ?_
 refine sr_ev (v := .pointer (some ⟨g6, 0, none⟩)) (ev_move rfl) (by decide) ?_
 refine sr_litT (c := strC) (ρ := ρ10) (E := 9) (xs := [[109, 97, 105, 108]]) (vs := #[(0, str ([109, 97, 105, 108]))]) (cs := #[str ([109, 97, 105, 108])]) (css := [[str ([109, 97, 105, 108])]]) rfl (fun _ => by kernel_rfl) rfl ⟨rfl, trivial⟩ rfl (by decide) hb.bd (by decide) ?_
 intro v11 w13 h12 hbw15
 have htr14 := Tr.of_below hbw15 hb.bd
 replace hB9 := hB9.mv (htr14.mv (i := 100) rfl)
 replace h8 := h8.mv (htr14.mv (i := 101) rfl)
 replace hb := hb.trans htr14
 obtain ⟨y16, hy17, hS⟩ := bind_some' hS
 refine sr_call (vs := [.pointer (some ⟨g6, 0, none⟩), str ([97, 110, 110]), str ([119, 101, 98]), v11, .int .i64 10, .int .i64 0]) rfl Try.call21 rfl (consent_Consents_Grant_ok _ (hg.fr hz hb) (ρA := ρ10) hb.bd (hz.fr hg hb) (o := 100) (by decide) h12 (⟨_, hB9, h8⟩ : consent_Consents.O (fun p => 100 + p) ρ10 w13 g6 y1) hy17) (by decide) ?_
 rintro _ w18 ⟨ρ24, rfl, ⟨v21, hB23, h22⟩, htr20⟩
 replace hb := hb.trans htr20
 replace hB23 : Blk ρ24 100 w18 g6 (.cells #[v21] 52 (0, 0)) := hB23
 replace h22 : MapT consent_pair.ek (mapC str (intC .i64) false) false ρ24 101 w18 v21 y16.2.pairs := h22
 refine sr_ev (v := .int .i64 y16.1) (ev_assign rfl) (by decide) ?_
 refine sr_end (l' := [(1, .pointer (some ⟨g6, 0, none⟩)), (2, .int .i64 y16.1)]) (.cons rfl (.cons rfl (.nil _))) ?_
 refine ke_seq ?_
 refine ke_region ?_
 refine sr_ev (v := .pointer (some ⟨g6, 0, none⟩)) (ev_move rfl) (by decide) ?_
 refine sr_litT (c := strC) (ρ := ρ24) (E := 9) (xs := [[109, 97, 105, 108]]) (vs := #[(0, str ([109, 97, 105, 108]))]) (cs := #[str ([109, 97, 105, 108])]) (css := [[str ([109, 97, 105, 108])]]) rfl (fun _ => by kernel_rfl) rfl ⟨rfl, trivial⟩ rfl (by decide) hb.bd (by decide) ?_
 intro v25 w27 h26 hbw29
 have htr28 := Tr.of_below hbw29 hb.bd
 replace hB23 := hB23.mv (htr28.mv (i := 100) rfl)
 replace h22 := h22.mv (htr28.mv (i := 101) rfl)
 replace hb := hb.trans htr28
 obtain ⟨y30, hy31, hS⟩ := bind_some' hS
 refine sr_call (vs := [.pointer (some ⟨g6, 0, none⟩), str ([97, 110, 110]), str ([119, 101, 98]), v25, .int .i64 5, .int .i64 0]) rfl Try.call21 rfl (consent_Consents_Grant_ok _ (hg.fr hz hb) (ρA := ρ24) hb.bd (hz.fr hg hb) (o := 100) (by decide) h26 (⟨_, hB23, h22⟩ : consent_Consents.O (fun p => 100 + p) ρ24 w27 g6 y16.2) hy31) (by decide) ?_
 rintro _ w32 ⟨ρ38, rfl, ⟨v35, hB37, h36⟩, htr34⟩
 replace hb := hb.trans htr34
 replace hB37 : Blk ρ38 100 w32 g6 (.cells #[v35] 52 (0, 0)) := hB37
 replace h36 : MapT consent_pair.ek (mapC str (intC .i64) false) false ρ38 101 w32 v35 y30.2.pairs := h36
 refine sr_ev (v := .int .i64 y30.1) (ev_assign rfl) (by decide) ?_
 refine sr_end (l' := [(1, .pointer (some ⟨g6, 0, none⟩)), (2, .int .i64 y16.1), (3, .int .i64 y30.1)]) (.cons rfl (.cons rfl (.cons rfl (.nil _)))) ?_
 refine ke_seq ?_
 refine ke_region ?_
 refine sr_ev (v := .pointer (some ⟨g6, 0, none⟩)) (ev_move rfl) (by decide) ?_
 refine sr_litT (c := strC) (ρ := ρ38) (E := 9) (xs := [[97]]) (vs := #[(0, str ([97]))]) (cs := #[str ([97])]) (css := [[str ([97])]]) rfl (fun _ => by kernel_rfl) rfl ⟨rfl, trivial⟩ rfl (by decide) hb.bd (by decide) ?_
 intro v39 w41 h40 hbw43
 have htr42 := Tr.of_below hbw43 hb.bd
 replace hB37 := hB37.mv (htr42.mv (i := 100) rfl)
 replace h36 := h36.mv (htr42.mv (i := 101) rfl)
 replace hb := hb.trans htr42
 obtain ⟨y44, hy45, hS⟩ := bind_some' hS
 refine sr_call (vs := [.pointer (some ⟨g6, 0, none⟩), str ([97, 110, 110]), str ([97, 112, 112]), v39, .int .i64 3, .int .i64 3]) rfl Try.call21 rfl (consent_Consents_Grant_ok _ (hg.fr hz hb) (ρA := ρ38) hb.bd (hz.fr hg hb) (o := 100) (by decide) h40 (⟨_, hB37, h36⟩ : consent_Consents.O (fun p => 100 + p) ρ38 w41 g6 y30.2) hy45) (by decide) ?_
 rintro _ w46 ⟨ρ52, rfl, ⟨v49, hB51, h50⟩, htr48⟩
 replace hb := hb.trans htr48
 replace hB51 : Blk ρ52 100 w46 g6 (.cells #[v49] 52 (0, 0)) := hB51
 replace h50 : MapT consent_pair.ek (mapC str (intC .i64) false) false ρ52 101 w46 v49 y44.2.pairs := h50
 refine sr_ev (v := .int .i64 y44.1) (ev_assign rfl) (by decide) ?_
 refine sr_end (l' := [(1, .pointer (some ⟨g6, 0, none⟩)), (2, .int .i64 y16.1), (3, .int .i64 y30.1), (4, .int .i64 y44.1)]) (.cons rfl (.cons rfl (.cons rfl (.cons rfl (.nil _))))) ?_
 refine ke_seq ?_
 refine ke_region ?_
 refine sr_ev (v := .pointer (some ⟨g6, 0, none⟩)) (ev_move rfl) (by decide) ?_
 obtain ⟨y53, hy54, hS⟩ := bind_some' hS
 refine sr_call (vs := [.pointer (some ⟨g6, 0, none⟩), str ([97, 110, 110]), str ([119, 101, 98]), .int .i64 9]) rfl Try.call17 rfl (consent_Consents_Scopes_ok _ (hg.fr hz hb) (ρA := ρ52) hb.bd (hz.fr hg hb) (τ0 := (fun p => 100 + p)) (fun p => Nat.le_add_right_of_le (by decide)) (⟨_, hB51, h50⟩ : consent_Consents.O (fun p => 100 + p) ρ52 w46 g6 y44.2) hy54) (by decide) ?_
 rintro v58 w55 ⟨_, rfl, h59, hbw56⟩
 have htr57 := Tr.of_below hbw56 hb.bd
 replace hB51 := hB51.mv (htr57.mv (i := 100) rfl)
 replace h50 := h50.mv (htr57.mv (i := 101) rfl)
 replace hb := hb.trans htr57
 refine sr_ev (v := v58) (ev_assign rfl) (by decide) ?_
 refine sr_end (l' := [(1, .pointer (some ⟨g6, 0, none⟩)), (2, .int .i64 y16.1), (3, .int .i64 y30.1), (4, .int .i64 y44.1), (5, v58)]) (.cons rfl (.cons rfl (.cons rfl (.cons rfl (.cons rfl (.nil _)))))) ?_
 refine ke_seq ?_
 refine ke_region ?_
 refine sr_ev (v := .pointer (some ⟨g6, 0, none⟩)) (ev_move rfl) (by decide) ?_
 refine sr_litT (c := strC) (ρ := ρ52) (E := 9) (xs := [[109, 97, 105, 108, 46, 114, 101, 97, 100]]) (vs := #[(0, str ([109, 97, 105, 108, 46, 114, 101, 97, 100]))]) (cs := #[str ([109, 97, 105, 108, 46, 114, 101, 97, 100])]) (css := [[str ([109, 97, 105, 108, 46, 114, 101, 97, 100])]]) rfl (fun _ => by kernel_rfl) rfl ⟨rfl, trivial⟩ rfl (by decide) hb.bd (by decide) ?_
 intro v60 w62 h61 hbw64
 have htr63 := Tr.of_below hbw64 hb.bd
 replace h59 := h59.mv htr63.rd
 replace hB51 := hB51.mv (htr63.mv (i := 100) rfl)
 replace h50 := h50.mv (htr63.mv (i := 101) rfl)
 replace hb := hb.trans htr63
 obtain ⟨y65, hy66, hS⟩ := bind_some' hS
 refine sr_call (vs := [.pointer (some ⟨g6, 0, none⟩), str ([97, 110, 110]), str ([119, 101, 98]), v60, .int .i64 9]) rfl Try.call25 rfl (consent_Consents_Covers_ok _ (hg.fr hz hb) (ρA := ρ52) hb.bd (hz.fr hg hb) (τ0 := (fun p => 100 + p)) (fun p => Nat.le_add_right_of_le (by decide)) h61 (⟨_, hB51, h50⟩ : consent_Consents.O (fun p => 100 + p) ρ52 w62 g6 y44.2) hy66) (by decide) ?_
 rintro _ w67 ⟨rfl, hbw68⟩
 have htr69 := Tr.of_below hbw68 hb.bd
 replace h59 := h59.mv htr69.rd
 replace hB51 := hB51.mv (htr69.mv (i := 100) rfl)
 replace h50 := h50.mv (htr69.mv (i := 101) rfl)
 replace hb := hb.trans htr69
 refine sr_ev (v := .bool y65) (ev_assign rfl) (by decide) ?_
 refine sr_end (l' := [(1, .pointer (some ⟨g6, 0, none⟩)), (2, .int .i64 y16.1), (3, .int .i64 y30.1), (4, .int .i64 y44.1), (5, v58), (6, .bool y65)]) (.cons rfl (.cons rfl (.cons rfl (.cons rfl (.cons rfl (.cons rfl (.nil _))))))) ?_
 refine ke_seq ?_
 refine ke_region ?_
 refine sr_ev (v := .pointer (some ⟨g6, 0, none⟩)) (ev_move rfl) (by decide) ?_
 refine sr_litT (c := strC) (ρ := ρ52) (E := 9) (xs := [[109, 97, 105, 108, 46, 114, 101, 97, 100]]) (vs := #[(0, str ([109, 97, 105, 108, 46, 114, 101, 97, 100]))]) (cs := #[str ([109, 97, 105, 108, 46, 114, 101, 97, 100])]) (css := [[str ([109, 97, 105, 108, 46, 114, 101, 97, 100])]]) rfl (fun _ => by kernel_rfl) rfl ⟨rfl, trivial⟩ rfl (by decide) hb.bd (by decide) ?_
 intro v70 w72 h71 hbw74
 have htr73 := Tr.of_below hbw74 hb.bd
 replace h59 := h59.mv htr73.rd
 replace hB51 := hB51.mv (htr73.mv (i := 100) rfl)
 replace h50 := h50.mv (htr73.mv (i := 101) rfl)
 replace hb := hb.trans htr73
 obtain ⟨y75, hy76, hS⟩ := bind_some' hS
 refine sr_call (vs := [.pointer (some ⟨g6, 0, none⟩), str ([97, 110, 110]), str ([119, 101, 98]), v70, .int .i64 10]) rfl Try.call25 rfl (consent_Consents_Covers_ok _ (hg.fr hz hb) (ρA := ρ52) hb.bd (hz.fr hg hb) (τ0 := (fun p => 100 + p)) (fun p => Nat.le_add_right_of_le (by decide)) h71 (⟨_, hB51, h50⟩ : consent_Consents.O (fun p => 100 + p) ρ52 w72 g6 y44.2) hy76) (by decide) ?_
 rintro _ w77 ⟨rfl, hbw78⟩
 have htr79 := Tr.of_below hbw78 hb.bd
 replace h59 := h59.mv htr79.rd
 replace hB51 := hB51.mv (htr79.mv (i := 100) rfl)
 replace h50 := h50.mv (htr79.mv (i := 101) rfl)
 replace hb := hb.trans htr79
 refine sr_ev (v := .bool y75) (ev_assign rfl) (by decide) ?_
 refine sr_end (l' := [(1, .pointer (some ⟨g6, 0, none⟩)), (2, .int .i64 y16.1), (3, .int .i64 y30.1), (4, .int .i64 y44.1), (5, v58), (6, .bool y65), (7, .bool y75)]) (.cons rfl (.cons rfl (.cons rfl (.cons rfl (.cons rfl (.cons rfl (.cons rfl (.nil _)))))))) ?_
 refine ke_seq ?_
 refine ke_region ?_
 refine sr_ev (v := .pointer (some ⟨g6, 0, none⟩)) (ev_move rfl) (by decide) ?_
 obtain ⟨y80, hy81, hS⟩ := bind_some' hS
 refine sr_call (vs := [.pointer (some ⟨g6, 0, none⟩), str ([97, 110, 110]), .int .i64 9]) rfl Try.call19 rfl (consent_Consents_Clients_ok _ (hg.fr hz hb) (ρA := ρ52) hb.bd (hz.fr hg hb) (τ0 := (fun p => 100 + p)) (fun p => Nat.le_add_right_of_le (by decide)) (⟨_, hB51, h50⟩ : consent_Consents.O (fun p => 100 + p) ρ52 w77 g6 y44.2) hy81) (by decide) ?_
 rintro v85 w82 ⟨_, rfl, h86, hbw83⟩
 have htr84 := Tr.of_below hbw83 hb.bd
 replace h59 := h59.mv htr84.rd
 replace hB51 := hB51.mv (htr84.mv (i := 100) rfl)
 replace h50 := h50.mv (htr84.mv (i := 101) rfl)
 replace hb := hb.trans htr84
 refine sr_ev (v := v85) (ev_assign rfl) (by decide) ?_
 refine sr_end (l' := [(1, .pointer (some ⟨g6, 0, none⟩)), (2, .int .i64 y16.1), (3, .int .i64 y30.1), (4, .int .i64 y44.1), (5, v58), (6, .bool y65), (7, .bool y75), (8, v85)]) (.cons rfl (.cons rfl (.cons rfl (.cons rfl (.cons rfl (.cons rfl (.cons rfl (.cons rfl (.nil _))))))))) ?_
 refine ke_seq ?_
 refine ke_region ?_
 refine sr_ev (v := .pointer (some ⟨g6, 0, none⟩)) (ev_move rfl) (by decide) ?_
 obtain ⟨y87, hy88, hS⟩ := bind_some' hS
 refine sr_call (vs := [.pointer (some ⟨g6, 0, none⟩), str ([97, 110, 110])]) rfl Try.call27 rfl (consent_Consents_Drop_ok _ (hg.fr hz hb) (ρA := ρ52) hb.bd (hz.fr hg hb) (o := 100) (by decide) (⟨_, hB51, h50⟩ : consent_Consents.O (fun p => 100 + p) ρ52 w82 g6 y44.2) hy88) (by decide) ?_
 rintro _ w89 ⟨ρ95, rfl, ⟨v92, hB94, h93⟩, htr91⟩
 replace h59 := h59.mv htr91.rd
 replace h86 := h86.mv htr91.rd
 replace hb := hb.trans htr91
 replace hB94 : Blk ρ95 100 w89 g6 (.cells #[v92] 52 (0, 0)) := hB94
 replace h93 : MapT consent_pair.ek (mapC str (intC .i64) false) false ρ95 101 w89 v92 y87.2.pairs := h93
 refine sr_ev (v := .int .i64 y87.1) (ev_assign rfl) (by decide) ?_
 refine sr_end (l' := [(1, .pointer (some ⟨g6, 0, none⟩)), (2, .int .i64 y16.1), (3, .int .i64 y30.1), (4, .int .i64 y44.1), (5, v58), (6, .bool y65), (7, .bool y75), (8, v85), (9, .int .i64 y87.1)]) (.cons rfl (.cons rfl (.cons rfl (.cons rfl (.cons rfl (.cons rfl (.cons rfl (.cons rfl (.cons rfl (.nil _)))))))))) ?_
 refine ke_seq ?_
 refine ke_region ?_
 refine sr_ev (v := .pointer none) (ev_assign rfl) (by decide) ?_
 refine sr_end (l' := [(1, .pointer (some ⟨g6, 0, none⟩)), (2, .int .i64 y16.1), (3, .int .i64 y30.1), (4, .int .i64 y44.1), (5, v58), (6, .bool y65), (7, .bool y75), (8, v85), (9, .int .i64 y87.1), (10, .pointer none)]) (.cons rfl (.cons rfl (.cons rfl (.cons rfl (.cons rfl (.cons rfl (.cons rfl (.cons rfl (.cons rfl (.cons rfl (.nil _))))))))))) ?_
 refine ke_seq ?_
 refine ke_region ?_
 refine sr_ev (v := .int .i64 y16.1) (ev_move rfl) (by decide) ?_
 refine sr_ev (v := .bool (y16.1 == 0)) (ev_eq rfl rfl) (by decide) ?_
 refine sr_ev (v := .bool (y16.1 == 0)) (ev_move rfl) (by decide) ?_
 refine sr_join (m := 3) (C := fun (x : Bool) w1 => x = ((y16.1 == 0) && (y30.1 == 0)) ∧ w89 = w1) (l' := fun x => [(1, .pointer (some ⟨g6, 0, none⟩)), (4, .int .i64 y44.1), (5, v58), (6, .bool y65), (7, .bool y75), (8, v85), (9, .int .i64 y87.1), (10, .pointer none), (40, .bool x)]) ?_ ?_
 ·rintro _ _ ⟨rfl, rfl⟩
  refine sr_ev (v := .bool ((y16.1 == 0) && (y30.1 == 0))) (ev_move rfl) (by decide) ?_
  refine sr_join (m := 3) (C := fun (x : Bool) w1 => x = (((y16.1 == 0) && (y30.1 == 0)) && (y44.1 == 13)) ∧ w89 = w1) (l' := fun x => [(1, .pointer (some ⟨g6, 0, none⟩)), (5, v58), (6, .bool y65), (7, .bool y75), (8, v85), (9, .int .i64 y87.1), (10, .pointer none), (44, .bool x)]) ?_ ?_
  ·rintro _ _ ⟨rfl, rfl⟩
   refine sr_ev (v := .bool (((y16.1 == 0) && (y30.1 == 0)) && (y44.1 == 13))) (ev_move rfl) (by decide) ?_
   obtain ⟨z114, hz116, hS⟩ := bind_some' hS
   refine sr_join (m := 4) (C := fun (z : Bool) w1 => z114 = z ∧ ∃ ρ1, Tr ρ95 w89 (fun _ => false) ρ1 w1) (l' := fun z => [(1, .pointer (some ⟨g6, 0, none⟩)), (6, .bool y65), (7, .bool y75), (8, v85), (9, .int .i64 y87.1), (10, .pointer none), (49, .bool z)]) ?_ ?_
   ·rintro _ w117 ⟨rfl, ρ118, hj115⟩
    replace h86 := h86.mv hj115.rd
    replace hB94 := hB94.mv (hj115.mv (i := 100) rfl)
    replace h93 := h93.mv (hj115.mv (i := 101) rfl)
    replace hb := hb.trans hj115
    refine sr_ev (v := .bool z114) (ev_move rfl) (by decide) ?_
    refine sr_join (m := 2) (C := fun (x : Bool) w1 => x = (z114 && y65) ∧ w117 = w1) (l' := fun x => [(1, .pointer (some ⟨g6, 0, none⟩)), (7, .bool y75), (8, v85), (9, .int .i64 y87.1), (10, .pointer none), (52, .bool x)]) ?_ ?_
    ·rintro _ _ ⟨rfl, rfl⟩
     refine sr_ev (v := .bool (z114 && y65)) (ev_move rfl) (by decide) ?_
     refine sr_join (m := 3) (C := fun (x : Bool) w1 => x = ((z114 && y65) && (!y75)) ∧ w117 = w1) (l' := fun x => [(1, .pointer (some ⟨g6, 0, none⟩)), (8, v85), (9, .int .i64 y87.1), (10, .pointer none), (56, .bool x)]) ?_ ?_
     ·rintro _ _ ⟨rfl, rfl⟩
      refine sr_ev (v := .bool ((z114 && y65) && (!y75))) (ev_move rfl) (by decide) ?_
      obtain ⟨z148, hz150, hS⟩ := bind_some' hS
      refine sr_join (m := 4) (C := fun (z : Bool) w1 => z148 = z ∧ ∃ ρ1, Tr ρ118 w117 (fun _ => false) ρ1 w1) (l' := fun z => [(1, .pointer (some ⟨g6, 0, none⟩)), (9, .int .i64 y87.1), (10, .pointer none), (61, .bool z)]) ?_ ?_
      ·rintro _ w151 ⟨rfl, ρ152, hj149⟩
       replace hB94 := hB94.mv (hj149.mv (i := 100) rfl)
       replace h93 := h93.mv (hj149.mv (i := 101) rfl)
       replace hb := hb.trans hj149
       refine sr_ev (v := .bool z148) (ev_move rfl) (by decide) ?_
       refine sr_join (m := 3) (C := fun (x : Bool) w1 => x = (z148 && (y87.1 == 1)) ∧ w151 = w1) (l' := fun x => [(1, .pointer (some ⟨g6, 0, none⟩)), (10, .pointer none), (65, .bool x)]) ?_ ?_
       ·rintro _ _ ⟨rfl, rfl⟩
        refine sr_ev (v := .bool (z148 && (y87.1 == 1))) (ev_move rfl) (by decide) ?_
        obtain ⟨z174, hz176, hS⟩ := bind_some' hS
        refine sr_join (m := 4) (C := fun (z : Bool) w1 => z174 = z ∧ ∃ ρ1, Tr ρ152 w151 (fun _ => false) ρ1 w1) (l' := fun z => [(1, .pointer (some ⟨g6, 0, none⟩)), (10, .pointer none), (70, .bool z)]) ?_ ?_
        ·rintro _ w177 ⟨rfl, ρ178, hj175⟩
         replace hB94 := hB94.mv (hj175.mv (i := 100) rfl)
         replace h93 := h93.mv (hj175.mv (i := 101) rfl)
         replace hb := hb.trans hj175
         refine sr_ev (v := .bool z174) (ev_move rfl) (by decide) ?_
         obtain ⟨z187, hz189, hS⟩ := bind_some' hS
         refine sr_join (m := 4) (C := fun (z : Bool × consent_Consents) w1 => z187 = z ∧ ∃ ρ1, consent_Consents.O (fun p => 100 + p) ρ1 w1 g6 z.2 ∧ Tr ρ178 w177 (fun t => ([100, 101] : List Nat).contains t) ρ1 w1) (l' := fun z => [(10, .pointer none), (75, .bool z.1)]) ?_ ?_
         ·rintro _ w190 ⟨rfl, ρ191, ⟨v202, hB204, h203⟩, hj188⟩
          replace hb := hb.trans hj188
          replace hB204 : Blk ρ191 100 w190 g6 (.cells #[v202] 52 (0, 0)) := hB204
          replace h203 : MapT consent_pair.ek (mapC str (intC .i64) false) false ρ191 101 w190 v202 z187.2.pairs := h203
          refine sr_ev (v := .bool z187.1) (ev_move rfl) (by decide) ?_
          obtain ⟨z207, hz209, hS⟩ := bind_some' hS
          refine sr_join (m := 5) (C := fun (z : Bool) w1 => z207 = z ∧ ∃ ρ1, Tr ρ191 w190 (fun _ => false) ρ1 w1) (l' := fun z => [(10, .pointer none), (81, .bool z)]) ?_ ?_
          ·rintro _ w210 ⟨rfl, ρ211, hj208⟩
           replace hb := hb.trans hj208
           refine sr_ev (v := .bool z207) (ev_move rfl) (by decide) ?_
           obtain ⟨z225, hz227, hS⟩ := bind_some' hS
           refine sr_join (m := 4) (C := fun (z : Bool) w1 => z225 = z ∧ ∃ ρ1, Tr ρ211 w210 (fun _ => false) ρ1 w1) (l' := fun z => [(86, .bool z)]) ?_ ?_
           ·rintro _ w228 ⟨rfl, ρ229, hj226⟩
            replace hb := hb.trans hj226
            refine sr_ev (v := .bool z225) (ev_assign rfl) (by decide) ?_
            refine sr_end (l' := [(0, .bool z225)]) (.cons rfl (.nil _)) ?_
            cases hS
            exact ke_ret1 Try.func9 rfl rfl ⟨_, rfl, rfl, (hb.below (flat1_le _))⟩
           ·intro K224
            clear hS
            have hj226 : Tr ρ211 w210 (fun _ => false) ρ211 w210 := (Tr.refl hb.bd).weak (fun _ _ => rfl) rfl rfl
            rcases Bool.eq_false_or_eq_true z207 with hg223 | hg223
            ·have hS := ite_true' hz227 hg223
             refine sr_evg (b := true) (e := 82) rfl rfl hg223 (v := .pointer none) (ev_move rfl) (by decide) ?_
             obtain ⟨y231, hy232, hS⟩ := bind_some' hS
             obtain rfl : y231 = false := (Option.some.inj hy232).symm
             refine sr_callg (b := true) (e := 82) rfl rfl hg223 (vs := [.pointer none, str ([97, 110, 110]), str ([119, 101, 98]), (.slice none 0 0), .int .i64 0]) rfl Try.call25 rfl (consent_Consents_Covers__nil_ok _ (hg.fr hz hb) (ρA := ρ211) hb.bd (hz.fr hg hb) (SlR.nil (A := Wb ρ211)) hy232) (by decide) ?_
             rintro _ w233 ⟨rfl, hbw234⟩
             have htr235 := Tr.of_below hbw234 hb.bd
             replace hb := hb.trans htr235
             replace hj226 := (hj226.trans htr235).weak (J' := (fun _ => false)) (by intro t h; simp [rng] at h ⊢ <;> omega) rfl rfl
             refine sr_evg (b := true) (e := 82) rfl rfl hg223 (v := .bool true) (ev_notc rfl rfl) (by decide) ?_
             refine sr_ev (v := .bool true) (ev_pick_t rfl hg223 rfl) (by decide) ?_
             exact sr_weaken (l' := [(86, .bool true)]) (.cons rfl (.nil _)) (K224 true _ ⟨(Option.some.inj hS).symm, _, hj226⟩)
            ·have hS := ite_false' hz227 hg223
             refine sr_pass (e := 82) rfl rfl (by rw [hg223]; rfl) (by decide) ?_
             refine sr_pass (e := 82) rfl rfl (by rw [hg223]; rfl) (by decide) ?_
             refine sr_pass (e := 82) rfl rfl (by rw [hg223]; rfl) (by decide) ?_
             refine sr_ev (v := .bool false) (ev_pick_f rfl hg223 rfl) (by decide) ?_
             exact sr_weaken (l' := [(86, .bool false)]) (.cons rfl (.nil _)) (K224 false _ ⟨(Option.some.inj hS).symm, _, hj226⟩)
          ·intro K206
           clear hS
           have hj208 : Tr ρ191 w190 (fun _ => false) ρ191 w190 := (Tr.refl hb.bd).weak (fun _ _ => rfl) rfl rfl
           rcases Bool.eq_false_or_eq_true z187.1 with hg205 | hg205
           ·have hS := ite_true' hz209 hg205
            refine sr_evg (b := true) (e := 76) rfl rfl hg205 (v := .pointer none) (ev_move rfl) (by decide) ?_
            refine sr_unguard rfl rfl hg205 ?_
            refine sr_litT (c := strC) (ρ := ρ191) (E := 9) (xs := [[97]]) (vs := #[(0, str ([97]))]) (cs := #[str ([97])]) (css := [[str ([97])]]) rfl (fun _ => by kernel_rfl) rfl ⟨rfl, trivial⟩ rfl (by decide) hb.bd (by decide) ?_
            intro v213 w215 h214 hbw217
            have htr216 := Tr.of_below hbw217 hb.bd
            replace hb := hb.trans htr216
            replace hj208 := (hj208.trans htr216).weak (J' := (fun _ => false)) (by intro t h; simp [rng] at h ⊢ <;> omega) rfl rfl
            obtain ⟨y218, hy219, hS⟩ := bind_some' hS
            refine sr_callg (b := true) (e := 76) rfl rfl hg205 (vs := [.pointer none, str ([97, 110, 110]), str ([119, 101, 98]), v213, .int .i64 5, .int .i64 0]) rfl Try.call21 rfl (consent_Consents_Grant__nil_ok _ (hg.fr hz hb) (ρA := ρ191) hb.bd (hz.fr hg hb) h214 hy219) (by decide) ?_
            rintro _ w220 ⟨rfl, hbw221⟩
            have htr222 := Tr.of_below hbw221 hb.bd
            replace hb := hb.trans htr222
            replace hj208 := (hj208.trans htr222).weak (J' := (fun _ => false)) (by intro t h; simp [rng] at h ⊢ <;> omega) rfl rfl
            refine sr_evg (b := true) (e := 76) rfl rfl hg205 (v := .bool (y218 == 1)) (ev_eq rfl rfl) (by decide) ?_
            refine sr_ev (v := .bool (y218 == 1)) (ev_pick_t rfl hg205 rfl) (by decide) ?_
            exact sr_weaken (l' := [(10, .pointer none), (81, .bool (y218 == 1))]) (.cons rfl (.cons rfl (.nil _))) (K206 (y218 == 1) _ ⟨(Option.some.inj hS).symm, _, hj208⟩)
           ·have hS := ite_false' hz209 hg205
            refine sr_pass (e := 76) rfl rfl (by rw [hg205]; rfl) (by decide) ?_
            refine sr_pass (e := 76) rfl rfl (by rw [hg205]; rfl) (by decide) ?_
            refine sr_pass (e := 76) rfl rfl (by rw [hg205]; rfl) (by decide) ?_
            refine sr_pass (e := 76) rfl rfl (by rw [hg205]; rfl) (by decide) ?_
            refine sr_ev (v := .bool false) (ev_pick_f rfl hg205 rfl) (by decide) ?_
            exact sr_weaken (l' := [(10, .pointer none), (81, .bool false)]) (.cons rfl (.cons rfl (.nil _))) (K206 false _ ⟨(Option.some.inj hS).symm, _, hj208⟩)
         ·intro K186
          clear hS
          have hj188 : Tr ρ178 w177 (fun t => ([100, 101] : List Nat).contains t) ρ178 w177 := (Tr.refl hb.bd).weak (fun _ _ => rfl) rfl rfl
          rcases Bool.eq_false_or_eq_true z174 with hg185 | hg185
          ·have hS := ite_true' hz189 hg185
           refine sr_evg (b := true) (e := 71) rfl rfl hg185 (v := .pointer (some ⟨g6, 0, none⟩)) (ev_move rfl) (by decide) ?_
           obtain ⟨y193, hy194, hS⟩ := bind_some' hS
           refine sr_callg (b := true) (e := 71) rfl rfl hg185 (vs := [.pointer (some ⟨g6, 0, none⟩), str ([97, 110, 110]), str ([119, 101, 98])]) rfl Try.call26 rfl (consent_Consents_Revoke_ok _ (hg.fr hz hb) (ρA := ρ178) hb.bd (hz.fr hg hb) (o := 100) (by decide) (⟨_, hB94, h93⟩ : consent_Consents.O (fun p => 100 + p) ρ178 w177 g6 y87.2) hy194) (by decide) ?_
           rintro _ w195 ⟨ρ201, rfl, ⟨v198, hB200, h199⟩, htr197⟩
           replace hb := hb.trans htr197
           replace hj188 := (hj188.trans htr197).weak (J' := (fun t => ([100, 101] : List Nat).contains t)) (by intro t h; simp [rng] at h ⊢ <;> omega) rfl rfl
           replace hB200 : Blk ρ201 100 w195 g6 (.cells #[v198] 52 (0, 0)) := hB200
           replace h199 : MapT consent_pair.ek (mapC str (intC .i64) false) false ρ201 101 w195 v198 y193.2.pairs := h199
           refine sr_evg (b := true) (e := 71) rfl rfl hg185 (v := .bool (!y193.1)) (ev_not rfl) (by decide) ?_
           refine sr_ev (v := .bool (!y193.1)) (ev_pick_t rfl hg185 rfl) (by decide) ?_
           exact sr_weaken (l' := [(10, .pointer none), (75, .bool (!y193.1))]) (.cons rfl (.cons rfl (.nil _))) (K186 (!y193.1, y193.2) _ ⟨(Option.some.inj hS).symm, _, ⟨_, hB200, h199⟩, hj188⟩)
          ·have hS := ite_false' hz189 hg185
           refine sr_pass (e := 71) rfl rfl (by rw [hg185]; rfl) (by decide) ?_
           refine sr_pass (e := 71) rfl rfl (by rw [hg185]; rfl) (by decide) ?_
           refine sr_pass (e := 71) rfl rfl (by rw [hg185]; rfl) (by decide) ?_
           refine sr_ev (v := .bool false) (ev_pick_f rfl hg185 rfl) (by decide) ?_
           exact sr_weaken (l' := [(10, .pointer none), (75, .bool false)]) (.cons rfl (.cons rfl (.nil _))) (K186 (false, y87.2) _ ⟨(Option.some.inj hS).symm, _, ⟨_, hB94, h93⟩, hj188⟩)
        ·intro K173
         clear hS
         have hj175 : Tr ρ152 w151 (fun _ => false) ρ152 w151 := (Tr.refl hb.bd).weak (fun _ _ => rfl) rfl rfl
         rcases Bool.eq_false_or_eq_true (z148 && (y87.1 == 1)) with hg172 | hg172
         ·have hS := ite_true' hz176 hg172
          refine sr_evg (b := true) (e := 66) rfl rfl hg172 (v := .pointer (some ⟨g6, 0, none⟩)) (ev_move rfl) (by decide) ?_
          obtain ⟨y180, hy181, hS⟩ := bind_some' hS
          refine sr_callg (b := true) (e := 66) rfl rfl hg172 (vs := [.pointer (some ⟨g6, 0, none⟩)]) rfl Try.call14 rfl (consent_Consents_Len_ok _ (hg.fr hz hb) (ρA := ρ152) hb.bd (hz.fr hg hb) (τ0 := (fun p => 100 + p)) (fun p => Nat.le_add_right_of_le (by decide)) (⟨_, hB94, h93⟩ : consent_Consents.O (fun p => 100 + p) ρ152 w151 g6 y87.2) hy181) (by decide) ?_
          rintro _ w182 ⟨rfl, hbw183⟩
          have htr184 := Tr.of_below hbw183 hb.bd
          replace hB94 := hB94.mv (htr184.mv (i := 100) rfl)
          replace h93 := h93.mv (htr184.mv (i := 101) rfl)
          replace hb := hb.trans htr184
          replace hj175 := (hj175.trans htr184).weak (J' := (fun _ => false)) (by intro t h; simp [rng] at h ⊢ <;> omega) rfl rfl
          refine sr_evg (b := true) (e := 66) rfl rfl hg172 (v := .bool (y180 == 0)) (ev_eq rfl rfl) (by decide) ?_
          refine sr_ev (v := .bool (y180 == 0)) (ev_pick_t rfl hg172 rfl) (by decide) ?_
          exact sr_weaken (l' := [(1, .pointer (some ⟨g6, 0, none⟩)), (10, .pointer none), (70, .bool (y180 == 0))]) (.cons rfl (.cons rfl (.cons rfl (.nil _)))) (K173 (y180 == 0) _ ⟨(Option.some.inj hS).symm, _, hj175⟩)
         ·have hS := ite_false' hz176 hg172
          refine sr_pass (e := 66) rfl rfl (by rw [hg172]; rfl) (by decide) ?_
          refine sr_pass (e := 66) rfl rfl (by rw [hg172]; rfl) (by decide) ?_
          refine sr_pass (e := 66) rfl rfl (by rw [hg172]; rfl) (by decide) ?_
          refine sr_ev (v := .bool false) (ev_pick_f rfl hg172 rfl) (by decide) ?_
          exact sr_weaken (l' := [(1, .pointer (some ⟨g6, 0, none⟩)), (10, .pointer none), (70, .bool false)]) (.cons rfl (.cons rfl (.cons rfl (.nil _)))) (K173 false _ ⟨(Option.some.inj hS).symm, _, hj175⟩)
       ·intro K165
        rcases Bool.eq_false_or_eq_true z148 with hg164 | hg164
        all_goals try have hj167 : Tr ρ152 w151 (fun _ => false) ρ152 w151 := Tr.refl hb.bd
        ·refine sr_evg (b := true) (e := 62) rfl rfl hg164 (v := .int .i64 y87.1) (ev_move rfl) (by decide) ?_
         refine sr_evg (b := true) (e := 62) rfl rfl hg164 (v := .bool (y87.1 == 1)) (ev_eq rfl rfl) (by decide) ?_
         refine sr_ev (v := .bool (y87.1 == 1)) (ev_pick_t rfl hg164 rfl) (by decide) ?_
         exact sr_weaken (l' := [(1, .pointer (some ⟨g6, 0, none⟩)), (10, .pointer none), (65, .bool (y87.1 == 1))]) (.cons rfl (.cons rfl (.cons rfl (.nil _)))) (K165 (y87.1 == 1) _ ⟨by rw [hg164]; rfl, rfl⟩)
        ·refine sr_pass (e := 62) rfl rfl (by rw [hg164]; rfl) (by decide) ?_
         refine sr_pass (e := 62) rfl rfl (by rw [hg164]; rfl) (by decide) ?_
         refine sr_ev (v := .bool false) (ev_pick_f rfl hg164 rfl) (by decide) ?_
         exact sr_weaken (l' := [(1, .pointer (some ⟨g6, 0, none⟩)), (10, .pointer none), (65, .bool false)]) (.cons rfl (.cons rfl (.cons rfl (.nil _)))) (K165 false _ ⟨by rw [hg164]; rfl, rfl⟩)
      ·intro K147
       clear hS
       have hj149 : Tr ρ118 w117 (fun _ => false) ρ118 w117 := (Tr.refl hb.bd).weak (fun _ _ => rfl) rfl rfl
       rcases Bool.eq_false_or_eq_true ((z114 && y65) && (!y75)) with hg146 | hg146
       ·have hS := ite_true' hz150 hg146
        refine sr_evg (b := true) (e := 57) rfl rfl hg146 (v := v85) (ev_move rfl) (by decide) ?_
        refine sr_unguard rfl rfl hg146 ?_
        refine sr_litT (c := strC) (ρ := ρ118) (E := 9) (xs := [[119, 101, 98]]) (vs := #[(0, str ([119, 101, 98]))]) (cs := #[str ([119, 101, 98])]) (css := [[str ([119, 101, 98])]]) rfl (fun _ => by kernel_rfl) rfl ⟨rfl, trivial⟩ rfl (by decide) hb.bd (by decide) ?_
        intro v154 w156 h155 hbw158
        have htr157 := Tr.of_below hbw158 hb.bd
        replace h86 := h86.mv htr157.rd
        replace hB94 := hB94.mv (htr157.mv (i := 100) rfl)
        replace h93 := h93.mv (htr157.mv (i := 101) rfl)
        replace hb := hb.trans htr157
        replace hj149 := (hj149.trans htr157).weak (J' := (fun _ => false)) (by intro t h; simp [rng] at h ⊢ <;> omega) rfl rfl
        obtain ⟨y159, hy160, hS⟩ := bind_some' hS
        refine sr_callg (b := true) (e := 57) rfl rfl hg146 (vs := [v85, v154]) rfl Try.call16 rfl (ref03_Same_ok _ (hg.fr hz hb) h86.asSl h155.asSl hy160) (by decide) ?_
        rintro _ w161 ⟨rfl, hbw162⟩
        have htr163 := Tr.of_below hbw162 hb.bd
        replace hB94 := hB94.mv (htr163.mv (i := 100) rfl)
        replace h93 := h93.mv (htr163.mv (i := 101) rfl)
        replace hb := hb.trans htr163
        replace hj149 := (hj149.trans htr163).weak (J' := (fun _ => false)) (by intro t h; simp [rng] at h ⊢ <;> omega) rfl rfl
        refine sr_ev (v := .bool y159) (ev_pick_t rfl hg146 rfl) (by decide) ?_
        exact sr_weaken (l' := [(1, .pointer (some ⟨g6, 0, none⟩)), (9, .int .i64 y87.1), (10, .pointer none), (61, .bool y159)]) (.cons rfl (.cons rfl (.cons rfl (.cons rfl (.nil _))))) (K147 y159 _ ⟨(Option.some.inj hS).symm, _, hj149⟩)
       ·have hS := ite_false' hz150 hg146
        refine sr_pass (e := 57) rfl rfl (by rw [hg146]; rfl) (by decide) ?_
        refine sr_pass (e := 57) rfl rfl (by rw [hg146]; rfl) (by decide) ?_
        refine sr_pass (e := 57) rfl rfl (by rw [hg146]; rfl) (by decide) ?_
        refine sr_ev (v := .bool false) (ev_pick_f rfl hg146 rfl) (by decide) ?_
        exact sr_weaken (l' := [(1, .pointer (some ⟨g6, 0, none⟩)), (9, .int .i64 y87.1), (10, .pointer none), (61, .bool false)]) (.cons rfl (.cons rfl (.cons rfl (.cons rfl (.nil _))))) (K147 false _ ⟨(Option.some.inj hS).symm, _, hj149⟩)
     ·intro K139
      rcases Bool.eq_false_or_eq_true (z114 && y65) with hg138 | hg138
      all_goals try have hj141 : Tr ρ118 w117 (fun _ => false) ρ118 w117 := Tr.refl hb.bd
      ·refine sr_evg (b := true) (e := 53) rfl rfl hg138 (v := .bool y75) (ev_move rfl) (by decide) ?_
       refine sr_evg (b := true) (e := 53) rfl rfl hg138 (v := .bool (!y75)) (ev_not rfl) (by decide) ?_
       refine sr_ev (v := .bool (!y75)) (ev_pick_t rfl hg138 rfl) (by decide) ?_
       exact sr_weaken (l' := [(1, .pointer (some ⟨g6, 0, none⟩)), (8, v85), (9, .int .i64 y87.1), (10, .pointer none), (56, .bool (!y75))]) (.cons rfl (.cons rfl (.cons rfl (.cons rfl (.cons rfl (.nil _)))))) (K139 (!y75) _ ⟨by rw [hg138]; rfl, rfl⟩)
      ·refine sr_pass (e := 53) rfl rfl (by rw [hg138]; rfl) (by decide) ?_
       refine sr_pass (e := 53) rfl rfl (by rw [hg138]; rfl) (by decide) ?_
       refine sr_ev (v := .bool false) (ev_pick_f rfl hg138 rfl) (by decide) ?_
       exact sr_weaken (l' := [(1, .pointer (some ⟨g6, 0, none⟩)), (8, v85), (9, .int .i64 y87.1), (10, .pointer none), (56, .bool false)]) (.cons rfl (.cons rfl (.cons rfl (.cons rfl (.cons rfl (.nil _)))))) (K139 false _ ⟨by rw [hg138]; rfl, rfl⟩)
    ·intro K131
     rcases Bool.eq_false_or_eq_true z114 with hg130 | hg130
     all_goals try have hj133 : Tr ρ118 w117 (fun _ => false) ρ118 w117 := Tr.refl hb.bd
     ·refine sr_evg (b := true) (e := 50) rfl rfl hg130 (v := .bool y65) (ev_move rfl) (by decide) ?_
      refine sr_ev (v := .bool y65) (ev_pick_t rfl hg130 rfl) (by decide) ?_
      exact sr_weaken (l' := [(1, .pointer (some ⟨g6, 0, none⟩)), (7, .bool y75), (8, v85), (9, .int .i64 y87.1), (10, .pointer none), (52, .bool y65)]) (.cons rfl (.cons rfl (.cons rfl (.cons rfl (.cons rfl (.cons rfl (.nil _))))))) (K131 y65 _ ⟨by rw [hg130]; rfl, rfl⟩)
     ·refine sr_pass (e := 50) rfl rfl (by rw [hg130]; rfl) (by decide) ?_
      refine sr_ev (v := .bool false) (ev_pick_f rfl hg130 rfl) (by decide) ?_
      exact sr_weaken (l' := [(1, .pointer (some ⟨g6, 0, none⟩)), (7, .bool y75), (8, v85), (9, .int .i64 y87.1), (10, .pointer none), (52, .bool false)]) (.cons rfl (.cons rfl (.cons rfl (.cons rfl (.cons rfl (.cons rfl (.nil _))))))) (K131 false _ ⟨by rw [hg130]; rfl, rfl⟩)
   ·intro K113
    clear hS
    have hj115 : Tr ρ95 w89 (fun _ => false) ρ95 w89 := (Tr.refl hb.bd).weak (fun _ _ => rfl) rfl rfl
    rcases Bool.eq_false_or_eq_true (((y16.1 == 0) && (y30.1 == 0)) && (y44.1 == 13)) with hg112 | hg112
    ·have hS := ite_true' hz116 hg112
     refine sr_evg (b := true) (e := 45) rfl rfl hg112 (v := v58) (ev_move rfl) (by decide) ?_
     refine sr_unguard rfl rfl hg112 ?_
     refine sr_litT (c := strC) (ρ := ρ95) (E := 9) (xs := [[109, 97, 105, 108]]) (vs := #[(0, str ([109, 97, 105, 108]))]) (cs := #[str ([109, 97, 105, 108])]) (css := [[str ([109, 97, 105, 108])]]) rfl (fun _ => by kernel_rfl) rfl ⟨rfl, trivial⟩ rfl (by decide) hb.bd (by decide) ?_
     intro v120 w122 h121 hbw124
     have htr123 := Tr.of_below hbw124 hb.bd
     replace h86 := h86.mv htr123.rd
     replace h59 := h59.mv htr123.rd
     replace hB94 := hB94.mv (htr123.mv (i := 100) rfl)
     replace h93 := h93.mv (htr123.mv (i := 101) rfl)
     replace hb := hb.trans htr123
     replace hj115 := (hj115.trans htr123).weak (J' := (fun _ => false)) (by intro t h; simp [rng] at h ⊢ <;> omega) rfl rfl
     obtain ⟨y125, hy126, hS⟩ := bind_some' hS
     refine sr_callg (b := true) (e := 45) rfl rfl hg112 (vs := [v58, v120]) rfl Try.call16 rfl (ref03_Same_ok _ (hg.fr hz hb) h59.asSl h121.asSl hy126) (by decide) ?_
     rintro _ w127 ⟨rfl, hbw128⟩
     have htr129 := Tr.of_below hbw128 hb.bd
     replace h86 := h86.mv htr129.rd
     replace hB94 := hB94.mv (htr129.mv (i := 100) rfl)
     replace h93 := h93.mv (htr129.mv (i := 101) rfl)
     replace hb := hb.trans htr129
     replace hj115 := (hj115.trans htr129).weak (J' := (fun _ => false)) (by intro t h; simp [rng] at h ⊢ <;> omega) rfl rfl
     refine sr_ev (v := .bool y125) (ev_pick_t rfl hg112 rfl) (by decide) ?_
     exact sr_weaken (l' := [(1, .pointer (some ⟨g6, 0, none⟩)), (6, .bool y65), (7, .bool y75), (8, v85), (9, .int .i64 y87.1), (10, .pointer none), (49, .bool y125)]) (.cons rfl (.cons rfl (.cons rfl (.cons rfl (.cons rfl (.cons rfl (.cons rfl (.nil _)))))))) (K113 y125 _ ⟨(Option.some.inj hS).symm, _, hj115⟩)
    ·have hS := ite_false' hz116 hg112
     refine sr_pass (e := 45) rfl rfl (by rw [hg112]; rfl) (by decide) ?_
     refine sr_pass (e := 45) rfl rfl (by rw [hg112]; rfl) (by decide) ?_
     refine sr_pass (e := 45) rfl rfl (by rw [hg112]; rfl) (by decide) ?_
     refine sr_ev (v := .bool false) (ev_pick_f rfl hg112 rfl) (by decide) ?_
     exact sr_weaken (l' := [(1, .pointer (some ⟨g6, 0, none⟩)), (6, .bool y65), (7, .bool y75), (8, v85), (9, .int .i64 y87.1), (10, .pointer none), (49, .bool false)]) (.cons rfl (.cons rfl (.cons rfl (.cons rfl (.cons rfl (.cons rfl (.cons rfl (.nil _)))))))) (K113 false _ ⟨(Option.some.inj hS).symm, _, hj115⟩)
  ·intro K105
   rcases Bool.eq_false_or_eq_true ((y16.1 == 0) && (y30.1 == 0)) with hg104 | hg104
   all_goals try have hj107 : Tr ρ95 w89 (fun _ => false) ρ95 w89 := Tr.refl hb.bd
   ·refine sr_evg (b := true) (e := 41) rfl rfl hg104 (v := .int .i64 y44.1) (ev_move rfl) (by decide) ?_
    refine sr_evg (b := true) (e := 41) rfl rfl hg104 (v := .bool (y44.1 == 13)) (ev_eq rfl rfl) (by decide) ?_
    refine sr_ev (v := .bool (y44.1 == 13)) (ev_pick_t rfl hg104 rfl) (by decide) ?_
    exact sr_weaken (l' := [(1, .pointer (some ⟨g6, 0, none⟩)), (5, v58), (6, .bool y65), (7, .bool y75), (8, v85), (9, .int .i64 y87.1), (10, .pointer none), (44, .bool (y44.1 == 13))]) (.cons rfl (.cons rfl (.cons rfl (.cons rfl (.cons rfl (.cons rfl (.cons rfl (.cons rfl (.nil _))))))))) (K105 (y44.1 == 13) _ ⟨by rw [hg104]; rfl, rfl⟩)
   ·refine sr_pass (e := 41) rfl rfl (by rw [hg104]; rfl) (by decide) ?_
    refine sr_pass (e := 41) rfl rfl (by rw [hg104]; rfl) (by decide) ?_
    refine sr_ev (v := .bool false) (ev_pick_f rfl hg104 rfl) (by decide) ?_
    exact sr_weaken (l' := [(1, .pointer (some ⟨g6, 0, none⟩)), (5, v58), (6, .bool y65), (7, .bool y75), (8, v85), (9, .int .i64 y87.1), (10, .pointer none), (44, .bool false)]) (.cons rfl (.cons rfl (.cons rfl (.cons rfl (.cons rfl (.cons rfl (.cons rfl (.cons rfl (.nil _))))))))) (K105 false _ ⟨by rw [hg104]; rfl, rfl⟩)
 ·intro K97
  rcases Bool.eq_false_or_eq_true (y16.1 == 0) with hg96 | hg96
  all_goals try have hj99 : Tr ρ95 w89 (fun _ => false) ρ95 w89 := Tr.refl hb.bd
  ·refine sr_evg (b := true) (e := 37) rfl rfl hg96 (v := .int .i64 y30.1) (ev_move rfl) (by decide) ?_
   refine sr_evg (b := true) (e := 37) rfl rfl hg96 (v := .bool (y30.1 == 0)) (ev_eq rfl rfl) (by decide) ?_
   refine sr_ev (v := .bool (y30.1 == 0)) (ev_pick_t rfl hg96 rfl) (by decide) ?_
   exact sr_weaken (l' := [(1, .pointer (some ⟨g6, 0, none⟩)), (4, .int .i64 y44.1), (5, v58), (6, .bool y65), (7, .bool y75), (8, v85), (9, .int .i64 y87.1), (10, .pointer none), (40, .bool (y30.1 == 0))]) (.cons rfl (.cons rfl (.cons rfl (.cons rfl (.cons rfl (.cons rfl (.cons rfl (.cons rfl (.cons rfl (.nil _)))))))))) (K97 (y30.1 == 0) _ ⟨by rw [hg96]; rfl, rfl⟩)
  ·refine sr_pass (e := 37) rfl rfl (by rw [hg96]; rfl) (by decide) ?_
   refine sr_pass (e := 37) rfl rfl (by rw [hg96]; rfl) (by decide) ?_
   refine sr_ev (v := .bool false) (ev_pick_f rfl hg96 rfl) (by decide) ?_
   exact sr_weaken (l' := [(1, .pointer (some ⟨g6, 0, none⟩)), (4, .int .i64 y44.1), (5, v58), (6, .bool y65), (7, .bool y75), (8, v85), (9, .int .i64 y87.1), (10, .pointer none), (40, .bool false)]) (.cons rfl (.cons rfl (.cons rfl (.cons rfl (.cons rfl (.cons rfl (.cons rfl (.cons rfl (.cons rfl (.nil _)))))))))) (K97 false _ ⟨by rw [hg96]; rfl, rfl⟩)
theorem law32_yes_ok (w0 : World) (hg : Gs w0) {b_0 : Bool} {r : Int} (hS : law32_yes b_0 = some r) :
  Calls Try.prog 28 #[.bool b_0] w0 (Ret (fun v w' => v = .int .i64 r ∧ Below w0.heap.size w0 w')) := by
 unfold law32_yes at hS
 have hb := Below.refl w0.heap.size w0
 refine calls_of_ke Try.func28 rfl (n := 4) rfl rfl (l := [(0, .bool b_0)]) rfl ?_
 refine ke_seq ?_
 refine ke_region ?_
 refine sr_ev (v := .int .i64 0) (ev_assign rfl) (by decide) ?_
 refine sr_end (l' := [(0, .bool b_0)]) (.cons rfl (.nil _)) ?_
 refine ke_seq ?_
 refine ke_seq ?_
 refine ke_region ?_
 refine sr_ev (v := .bool b_0) (ev_move rfl) (by decide) ?_
 refine sr_end (l' := [(3, .bool b_0)]) (.cons rfl (.nil _)) ?_
 refine ke_cond (t := b_0) rfl (fun hc1 => ?_) (fun hc1 => ?_)
 ·replace hS := ite_true' hS hc1
  refine ke_seq ?_
  refine ke_region ?_
  refine sr_ev (v := .int .i64 1) (ev_assign rfl) (by decide) ?_
  refine sr_end (l' := [(2, .int .i64 1)]) (.cons rfl (.nil _)) ?_
  cases hS
  exact ke_ret1 Try.func28 rfl rfl ⟨_, rfl, rfl, hb⟩
 ·replace hS := ite_false' hS hc1
  refine ke_skip ?_
  refine ke_seq ?_
  refine ke_region ?_
  refine sr_ev (v := .int .i64 0) (ev_assign rfl) (by decide) ?_
  refine sr_end (l' := [(2, .int .i64 0)]) (.cons rfl (.nil _)) ?_
  cases hS
  exact ke_ret1 Try.func28 rfl rfl ⟨_, rfl, rfl, hb⟩
theorem law32_do_ok (w0 : World) (hg : Gs w0) {ρA : Tags} (hbd : ∀ b, ρA b ≠ 0 → b < w0.heap.size) (hz : Gz ρA) {o : Nat} (ho2 : 2 ≤ o) {c_0 : consent_Consents} {x_1 : law32_Op} {v4 : Value} {gc_0 : Nat} {r : Int × consent_Consents} (h5 : SlR strC (Wb ρA) w0 v4 x_1.Scopes) (ho0 : consent_Consents.O (fun p => o + p) ρA w0 gc_0 c_0) (hS : law32_do c_0 x_1 = some r) :
  Calls Try.prog 12 #[.pointer (some ⟨gc_0, 0, none⟩), .agg #[.int .i64 x_1.Call, .int .i64 x_1.Until, .int .i64 x_1.Now, str x_1.User, str x_1.Client, v4]] w0 (Ret (fun v w' => ∃ ρ', v = .int .i64 r.1 ∧ consent_Consents.O (fun p => o + p) ρ' w' gc_0 r.2 ∧ Tr ρA w0 (rng o 2) ρ' w')) := by
 unfold law32_do at hS
 have hb := enter_fr (ρ := ρA) (w := w0) (n := 2) ho2 hbd
 have hz := hz.enter (n := 2) ho2
 replace h5 := SlR.mv h5 (enter_rd (n := 2) ho2)
 obtain ⟨v1, hB3, h2⟩ := ho0
 replace hB3 := hB3.mv (enter_mv (p := 0) (n := 2) (by decide) ho2)
 replace h2 := h2.mv (enter_mv (p := 1) (n := 2) (by decide) ho2)
 replace hB3 : Blk (enter ρA o 2) 100 w0 gc_0 (.cells #[v1] 52 (0, 0)) := hB3
 replace h2 : MapT consent_pair.ek (mapC str (intC .i64) false) false (enter ρA o 2) 101 w0 v1 c_0.pairs := h2
 refine calls_of_ke Try.func12 rfl (n := 47) rfl rfl (l := [(0, .pointer (some ⟨gc_0, 0, none⟩)), (1, .agg #[.int .i64 x_1.Call, .int .i64 x_1.Until, .int .i64 x_1.Now, str x_1.User, str x_1.Client, v4])]) rfl ?_
 refine ke_seq ?_
 refine ke_region ?_
 refine sr_boxT 5 (by decide) hb.bd rfl (by decide) ?_
 intro g6 ρ7 w8 hB10 htr9
 replace h5 := h5.mv htr9.rd
 replace hB3 := hB3.mv (htr9.mv (i := 100) rfl)
 replace h2 := h2.mv (htr9.mv (i := 101) rfl)
 replace hb := hb.trans htr9
 replace hB10 : Blk ρ7 5 w8 g6 (.cells #[.int .i64 x_1.Call, .int .i64 x_1.Until, .int .i64 x_1.Now, str x_1.User, str x_1.Client, v4] 32 (0, 0)) := hB10
 refine sr_ev (v := .int .i64 0) (ev_assign rfl) (by decide) ?_
 refine sr_end (l' := [(0, .pointer (some ⟨gc_0, 0, none⟩)), (3, .pointer (some ⟨g6, 0, none⟩))]) (.cons rfl (.cons rfl (.nil _))) ?_
 refine ke_seq ?_
 refine ke_seq ?_
 refine ke_region ?_
 refine sr_ev (v := .pointer (some ⟨g6, 0, none⟩)) (ev_fieldAddr (i := 0) Try.underlying32 rfl Try.info3 rfl rfl) (by decide) ?_
 refine sr_ev (v := .int .i64 x_1.Call) (ev_load Try.isAgg3 rfl (hB10.cell rfl)) (by decide) ?_
 refine sr_end (l' := [(0, .pointer (some ⟨gc_0, 0, none⟩)), (3, .pointer (some ⟨g6, 0, none⟩)), (6, .int .i64 x_1.Call)]) (.cons rfl (.cons rfl (.cons rfl (.nil _)))) ?_
 refine ke_block ?_
 refine ke_seq ?_
 refine ke_region ?_
 refine sr_ev (v := .bool (x_1.Call == 0)) (ev_eq rfl rfl) (by decide) ?_
 refine sr_ev (v := .bool (x_1.Call == 0)) (ev_assign rfl) (by decide) ?_
 refine sr_end (l' := [(0, .pointer (some ⟨gc_0, 0, none⟩)), (3, .pointer (some ⟨g6, 0, none⟩)), (6, .int .i64 x_1.Call), (7, .bool (x_1.Call == 0))]) (.cons rfl (.cons rfl (.cons rfl (.cons rfl (.nil _))))) ?_
 refine ke_cond (t := x_1.Call == 0) rfl (fun hc11 => ?_) (fun hc11 => ?_)
 ·replace hS := ite_true' hS hc11
  refine ke_seq ?_
  refine ke_region ?_
  refine sr_ev (v := .pointer (some ⟨gc_0, 0, none⟩)) (ev_move rfl) (by decide) ?_
  refine sr_ev (v := .pointer (some ⟨g6, 3, none⟩)) (ev_fieldAddr (i := 3) Try.underlying32 rfl Try.info9 rfl rfl) (by decide) ?_
  refine sr_ev (v := str x_1.User) (ev_load Try.isAgg9 rfl (hB10.cell rfl)) (by decide) ?_
  refine sr_ev (v := .pointer (some ⟨g6, 4, none⟩)) (ev_fieldAddr (i := 4) Try.underlying32 rfl Try.info9 rfl rfl) (by decide) ?_
  refine sr_ev (v := str x_1.Client) (ev_load Try.isAgg9 rfl (hB10.cell rfl)) (by decide) ?_
  refine sr_ev (v := .pointer (some ⟨g6, 5, none⟩)) (ev_fieldAddr (i := 5) Try.underlying32 rfl Try.info30 rfl rfl) (by decide) ?_
  refine sr_ev (v := v4) (ev_load Try.isAgg30 rfl (hB10.cell rfl)) (by decide) ?_
  refine sr_ev (v := .pointer (some ⟨g6, 1, none⟩)) (ev_fieldAddr (i := 1) Try.underlying32 rfl Try.info3 rfl rfl) (by decide) ?_
  refine sr_ev (v := .int .i64 x_1.Until) (ev_load Try.isAgg3 rfl (hB10.cell rfl)) (by decide) ?_
  refine sr_ev (v := .pointer (some ⟨g6, 2, none⟩)) (ev_fieldAddr (i := 2) Try.underlying32 rfl Try.info3 rfl rfl) (by decide) ?_
  refine sr_ev (v := .int .i64 x_1.Now) (ev_load Try.isAgg3 rfl (hB10.cell rfl)) (by decide) ?_
  obtain ⟨y12, hy13, hS⟩ := bind_some' hS
  refine sr_call (vs := [.pointer (some ⟨gc_0, 0, none⟩), str x_1.User, str x_1.Client, v4, .int .i64 x_1.Until, .int .i64 x_1.Now]) rfl Try.call21 rfl (consent_Consents_Grant_ok _ (hg.fr hz hb) (ρA := ρ7) hb.bd (hz.fr hg hb) (o := 100) (by decide) h5 (⟨_, hB3, h2⟩ : consent_Consents.O (fun p => 100 + p) ρ7 w8 gc_0 c_0) hy13) (by decide) ?_
  rintro _ w14 ⟨ρ20, rfl, ⟨v17, hB19, h18⟩, htr16⟩
  replace hb := hb.trans htr16
  replace hB19 : Blk ρ20 100 w14 gc_0 (.cells #[v17] 52 (0, 0)) := hB19
  replace h18 : MapT consent_pair.ek (mapC str (intC .i64) false) false ρ20 101 w14 v17 y12.2.pairs := h18
  refine sr_ev (v := .int .i64 y12.1) (ev_assign rfl) (by decide) ?_
  refine sr_end (l' := [(4, .int .i64 y12.1)]) (.cons rfl (.nil _)) ?_
  cases hS
  exact ke_ret1 Try.func12 rfl rfl ⟨_, rfl, leave ρA w0 o 2 ρ20, rfl, ⟨_, (hB19.mv (leave_mv (p := 0) (by decide) hb)), (h18.mv (leave_mv (p := 1) (by decide) hb))⟩, (leave_tr ho2 hb)⟩
 ·replace hS := ite_false' hS hc11
  refine ke_seq ?_
  refine ke_region ?_
  refine sr_ev (v := .bool (x_1.Call == 1)) (ev_eq rfl rfl) (by decide) ?_
  refine sr_ev (v := .bool (x_1.Call == 1)) (ev_assign rfl) (by decide) ?_
  refine sr_end (l' := [(0, .pointer (some ⟨gc_0, 0, none⟩)), (3, .pointer (some ⟨g6, 0, none⟩)), (6, .int .i64 x_1.Call), (21, .bool (x_1.Call == 1))]) (.cons rfl (.cons rfl (.cons rfl (.cons rfl (.nil _))))) ?_
  refine ke_cond (t := x_1.Call == 1) rfl (fun hc21 => ?_) (fun hc21 => ?_)
  ·replace hS := ite_true' hS hc21
   refine ke_seq ?_
   refine ke_region ?_
   refine sr_ev (v := .pointer (some ⟨gc_0, 0, none⟩)) (ev_move rfl) (by decide) ?_
   refine sr_ev (v := .pointer (some ⟨g6, 3, none⟩)) (ev_fieldAddr (i := 3) Try.underlying32 rfl Try.info9 rfl rfl) (by decide) ?_
   refine sr_ev (v := str x_1.User) (ev_load Try.isAgg9 rfl (hB10.cell rfl)) (by decide) ?_
   refine sr_ev (v := .pointer (some ⟨g6, 4, none⟩)) (ev_fieldAddr (i := 4) Try.underlying32 rfl Try.info9 rfl rfl) (by decide) ?_
   refine sr_ev (v := str x_1.Client) (ev_load Try.isAgg9 rfl (hB10.cell rfl)) (by decide) ?_
   obtain ⟨y22, hy23, hS⟩ := bind_some' hS
   refine sr_call (vs := [.pointer (some ⟨gc_0, 0, none⟩), str x_1.User, str x_1.Client]) rfl Try.call26 rfl (consent_Consents_Revoke_ok _ (hg.fr hz hb) (ρA := ρ7) hb.bd (hz.fr hg hb) (o := 100) (by decide) (⟨_, hB3, h2⟩ : consent_Consents.O (fun p => 100 + p) ρ7 w8 gc_0 c_0) hy23) (by decide) ?_
   rintro _ w24 ⟨ρ30, rfl, ⟨v27, hB29, h28⟩, htr26⟩
   replace hb := hb.trans htr26
   replace hB29 : Blk ρ30 100 w24 gc_0 (.cells #[v27] 52 (0, 0)) := hB29
   replace h28 : MapT consent_pair.ek (mapC str (intC .i64) false) false ρ30 101 w24 v27 y22.2.pairs := h28
   obtain ⟨y31, hy32, hS⟩ := bind_some' hS
   refine sr_call (vs := [.bool y22.1]) rfl Try.call28 rfl (law32_yes_ok _ (hg.fr hz hb) hy32) (by decide) ?_
   rintro _ w33 ⟨rfl, hbw34⟩
   have htr35 := Tr.of_below hbw34 hb.bd
   replace hB29 := hB29.mv (htr35.mv (i := 100) rfl)
   replace h28 := h28.mv (htr35.mv (i := 101) rfl)
   replace hb := hb.trans htr35
   refine sr_ev (v := .int .i64 y31) (ev_assign rfl) (by decide) ?_
   refine sr_end (l' := [(4, .int .i64 y31)]) (.cons rfl (.nil _)) ?_
   cases hS
   exact ke_ret1 Try.func12 rfl rfl ⟨_, rfl, leave ρA w0 o 2 ρ30, rfl, ⟨_, (hB29.mv (leave_mv (p := 0) (by decide) hb)), (h28.mv (leave_mv (p := 1) (by decide) hb))⟩, (leave_tr ho2 hb)⟩
  ·replace hS := ite_false' hS hc21
   refine ke_seq ?_
   refine ke_region ?_
   refine sr_ev (v := .bool (x_1.Call == 2)) (ev_eq rfl rfl) (by decide) ?_
   refine sr_ev (v := .bool (x_1.Call == 2)) (ev_assign rfl) (by decide) ?_
   refine sr_end (l' := [(0, .pointer (some ⟨gc_0, 0, none⟩)), (3, .pointer (some ⟨g6, 0, none⟩)), (30, .bool (x_1.Call == 2))]) (.cons rfl (.cons rfl (.cons rfl (.nil _)))) ?_
   refine ke_cond (t := x_1.Call == 2) rfl (fun hc36 => ?_) (fun hc36 => ?_)
   ·replace hS := ite_true' hS hc36
    refine ke_seq ?_
    refine ke_region ?_
    refine sr_ev (v := .pointer (some ⟨gc_0, 0, none⟩)) (ev_move rfl) (by decide) ?_
    refine sr_ev (v := .pointer (some ⟨g6, 3, none⟩)) (ev_fieldAddr (i := 3) Try.underlying32 rfl Try.info9 rfl rfl) (by decide) ?_
    refine sr_ev (v := str x_1.User) (ev_load Try.isAgg9 rfl (hB10.cell rfl)) (by decide) ?_
    obtain ⟨y37, hy38, hS⟩ := bind_some' hS
    refine sr_call (vs := [.pointer (some ⟨gc_0, 0, none⟩), str x_1.User]) rfl Try.call27 rfl (consent_Consents_Drop_ok _ (hg.fr hz hb) (ρA := ρ7) hb.bd (hz.fr hg hb) (o := 100) (by decide) (⟨_, hB3, h2⟩ : consent_Consents.O (fun p => 100 + p) ρ7 w8 gc_0 c_0) hy38) (by decide) ?_
    rintro _ w39 ⟨ρ45, rfl, ⟨v42, hB44, h43⟩, htr41⟩
    replace hb := hb.trans htr41
    replace hB44 : Blk ρ45 100 w39 gc_0 (.cells #[v42] 52 (0, 0)) := hB44
    replace h43 : MapT consent_pair.ek (mapC str (intC .i64) false) false ρ45 101 w39 v42 y37.2.pairs := h43
    refine sr_ev (v := .int .i64 y37.1) (ev_assign rfl) (by decide) ?_
    refine sr_end (l' := [(4, .int .i64 y37.1)]) (.cons rfl (.nil _)) ?_
    cases hS
    exact ke_ret1 Try.func12 rfl rfl ⟨_, rfl, leave ρA w0 o 2 ρ45, rfl, ⟨_, (hB44.mv (leave_mv (p := 0) (by decide) hb)), (h43.mv (leave_mv (p := 1) (by decide) hb))⟩, (leave_tr ho2 hb)⟩
   ·replace hS := ite_false' hS hc36
    refine ke_skip ?_
    refine ke_inBlock ?_
    refine ke_seq ?_
    refine ke_region ?_
    refine sr_ev (v := .pointer (some ⟨gc_0, 0, none⟩)) (ev_move rfl) (by decide) ?_
    refine sr_ev (v := .pointer (some ⟨g6, 3, none⟩)) (ev_fieldAddr (i := 3) Try.underlying32 rfl Try.info9 rfl rfl) (by decide) ?_
    refine sr_ev (v := str x_1.User) (ev_load Try.isAgg9 rfl (hB10.cell rfl)) (by decide) ?_
    refine sr_ev (v := .pointer (some ⟨g6, 4, none⟩)) (ev_fieldAddr (i := 4) Try.underlying32 rfl Try.info9 rfl rfl) (by decide) ?_
    refine sr_ev (v := str x_1.Client) (ev_load Try.isAgg9 rfl (hB10.cell rfl)) (by decide) ?_
    refine sr_ev (v := .pointer (some ⟨g6, 5, none⟩)) (ev_fieldAddr (i := 5) Try.underlying32 rfl Try.info30 rfl rfl) (by decide) ?_
    refine sr_ev (v := v4) (ev_load Try.isAgg30 rfl (hB10.cell rfl)) (by decide) ?_
    refine sr_ev (v := .pointer (some ⟨g6, 2, none⟩)) (ev_fieldAddr (i := 2) Try.underlying32 rfl Try.info3 rfl rfl) (by decide) ?_
    refine sr_ev (v := .int .i64 x_1.Now) (ev_load Try.isAgg3 rfl (hB10.cell rfl)) (by decide) ?_
    obtain ⟨y46, hy47, hS⟩ := bind_some' hS
    refine sr_call (vs := [.pointer (some ⟨gc_0, 0, none⟩), str x_1.User, str x_1.Client, v4, .int .i64 x_1.Now]) rfl Try.call25 rfl (consent_Consents_Covers_ok _ (hg.fr hz hb) (ρA := ρ7) hb.bd (hz.fr hg hb) (τ0 := (fun p => 100 + p)) (fun p => Nat.le_add_right_of_le (by decide)) h5 (⟨_, hB3, h2⟩ : consent_Consents.O (fun p => 100 + p) ρ7 w8 gc_0 c_0) hy47) (by decide) ?_
    rintro _ w48 ⟨rfl, hbw49⟩
    have htr50 := Tr.of_below hbw49 hb.bd
    replace hB3 := hB3.mv (htr50.mv (i := 100) rfl)
    replace h2 := h2.mv (htr50.mv (i := 101) rfl)
    replace hb := hb.trans htr50
    obtain ⟨y51, hy52, hS⟩ := bind_some' hS
    refine sr_call (vs := [.bool y46]) rfl Try.call28 rfl (law32_yes_ok _ (hg.fr hz hb) hy52) (by decide) ?_
    rintro _ w53 ⟨rfl, hbw54⟩
    have htr55 := Tr.of_below hbw54 hb.bd
    replace hB3 := hB3.mv (htr55.mv (i := 100) rfl)
    replace h2 := h2.mv (htr55.mv (i := 101) rfl)
    replace hb := hb.trans htr55
    refine sr_ev (v := .int .i64 y51) (ev_assign rfl) (by decide) ?_
    refine sr_end (l' := [(4, .int .i64 y51)]) (.cons rfl (.nil _)) ?_
    cases hS
    exact ke_ret1 Try.func12 rfl rfl ⟨_, rfl, leave ρA w0 o 2 ρ7, rfl, ⟨_, (hB3.mv (leave_mv (p := 0) (by decide) hb)), (h2.mv (leave_mv (p := 1) (by decide) hb))⟩, (leave_tr ho2 hb)⟩
theorem law32_limited_ok (w0 : World) (hg : Gs w0) {n_0 : Int} {r : Int} (hS : law32_limited n_0 = some r) :
  Calls Try.prog 23 #[.int .i64 n_0] w0 (Ret (fun v w' => v = .int .i64 r ∧ Below w0.heap.size w0 w')) := by
 unfold law32_limited at hS
 have hb := Below.refl w0.heap.size w0
 refine calls_of_ke Try.func23 rfl (n := 6) rfl rfl (l := [(0, .int .i64 n_0)]) rfl ?_
 refine ke_seq ?_
 refine ke_region ?_
 refine sr_ev (v := .int .i64 0) (ev_assign rfl) (by decide) ?_
 refine sr_end (l' := [(0, .int .i64 n_0)]) (.cons rfl (.nil _)) ?_
 refine ke_seq ?_
 refine ke_region ?_
 refine sr_ev (v := .int .i64 n_0) (ev_move rfl) (by decide) ?_
 refine sr_ev (v := .int .i64 (gmin n_0 1099511627776)) (ev_min rfl rfl) (by decide) ?_
 refine sr_ev (v := .int .i64 (gmax 0 (gmin n_0 1099511627776))) (ev_max rfl rfl) (by decide) ?_
 refine sr_ev (v := .int .i64 (gmax 0 (gmin n_0 1099511627776))) (ev_assign rfl) (by decide) ?_
 refine sr_end (l' := [(2, .int .i64 (gmax 0 (gmin n_0 1099511627776)))]) (.cons rfl (.nil _)) ?_
 cases hS
 exact ke_ret1 Try.func23 rfl rfl ⟨_, rfl, rfl, hb⟩
theorem law32_ConsentGranted_L4_ok {w0 : World} (hg : Gs w0) {ρA : Tags} (hbd : ∀ b, ρA b ≠ 0 → b < w0.heap.size) (hz : Gz (flat1 ρA)) (r0 : List law32_Op → Int → Int → Int → Int → Str → Str → List Str → consent_Consents → Int → Option (Bool))
  (hr0 : ∀ {r : Bool} {l_0 : List law32_Op} {at_2 : Int} {x_4_0 : Int} {x_4_1 : Int} {x_4_2 : Int} {x_4_3 : Str} {x_4_4 : Str} {x_4_5 : List Str} {oc_7 : consent_Consents} {i_8 : Int} {vl_0 : Value} {gx_4 : Nat} {vx_4_5 : Value} {gc_7 : Nat}, r0 l_0 at_2 x_4_0 x_4_1 x_4_2 x_4_3 x_4_4 x_4_5 oc_7 i_8 = some r → ∀ {ρ : Tags} {w : World}, (Fr (flat1 ρA) w0 ρ w) → (SlR law32_Op.c (Wb ρ) w vl_0 l_0) → (SlR strC (Wb ρ) w vx_4_5 x_4_5) → (Blk ρ 6 w gx_4 (.cells #[.int .i64 x_4_0, .int .i64 x_4_1, .int .i64 x_4_2, str x_4_3, str x_4_4, vx_4_5] 32 (0, 0))) → (consent_Consents.O (fun p => 100 + p) ρ w gc_7 oc_7) → KE Try.prog 6 (Ret (fun v w' => v = .bool r ∧ Below w0.heap.size w0 w')) 116 [.inLoop (sub (bodyOf Try.f6) [2, 2, 2, 2, 1, 2, 2, 1]), .inBlock 0, .code (sub (bodyOf Try.f6) [2, 2, 2, 2, 2])] [(0, vl_0), (2, .int .i64 at_2), (4, .pointer (some ⟨gx_4, 0, none⟩)), (7, .pointer (some ⟨gc_7, 0, none⟩)), (8, .int .i64 i_8)] w) : ∀ (n : Nat), ∀ {r : Bool} {at_2 : Int} {x_4_0 : Int} {x_4_1 : Int} {x_4_2 : Int} {x_4_3 : Str} {x_4_4 : Str} {x_4_5 : List Str} {oc_7 : consent_Consents} {found_9 : Bool} {k_10 : List Str} {i_11 : Int} {gx_4 : Nat} {vx_4_5 : Value} {gc_7 : Nat} {vk_10 : Value}, law32_ConsentGranted_L4 r0 n at_2 x_4_0 x_4_1 x_4_2 x_4_3 x_4_4 x_4_5 oc_7 found_9 k_10 i_11 = some r → ∀ {ρ : Tags} {w : World}, (Fr (flat1 ρA) w0 ρ w) → (SlR strC (Wb ρ) w vx_4_5 x_4_5) → (Blk ρ 6 w gx_4 (.cells #[.int .i64 x_4_0, .int .i64 x_4_1, .int .i64 x_4_2, str x_4_3, str x_4_4, vx_4_5] 32 (0, 0))) → (consent_Consents.O (fun p => 100 + p) ρ w gc_7 oc_7) → (SlR strC (Wb ρ) w vk_10 k_10) → KE Try.prog 6 (Ret (fun v w' => v = .bool r ∧ Below w0.heap.size w0 w')) 116 [.code (sub (bodyOf Try.f6) [2, 2, 2, 2, 2, 2, 2, 2, 2, 1, 2, 2, 1]), .inLoop (sub (bodyOf Try.f6) [2, 2, 2, 2, 2, 2, 2, 2, 2, 1, 2, 2, 1]), .inBlock 2, .code (sub (bodyOf Try.f6) [2, 2, 2, 2, 2, 2, 2, 2, 2, 2])] [(2, .int .i64 at_2), (4, .pointer (some ⟨gx_4, 0, none⟩)), (7, .pointer (some ⟨gc_7, 0, none⟩)), (9, .bool found_9), (10, vk_10), (11, .int .i64 i_11)] w := by
 intro n
 induction n with
 | zero => intro r at_2 x_4_0 x_4_1 x_4_2 x_4_3 x_4_4 x_4_5 oc_7 found_9 k_10 i_11 gx_4 vx_4_5 gc_7 vk_10 hS; cases hS
 | succ n ih =>
  have hr1 : ∀ {r : Bool} {at_2 : Int} {x_4_0 : Int} {x_4_1 : Int} {x_4_2 : Int} {x_4_3 : Str} {x_4_4 : Str} {x_4_5 : List Str} {oc_7 : consent_Consents} {found_9 : Bool} {k_10 : List Str} {i_11 : Int} {gx_4 : Nat} {vx_4_5 : Value} {gc_7 : Nat} {vk_10 : Value}, law32_ConsentGranted_L4 r0 n at_2 x_4_0 x_4_1 x_4_2 x_4_3 x_4_4 x_4_5 oc_7 found_9 k_10 i_11 = some r → ∀ {ρ : Tags} {w : World}, (Fr (flat1 ρA) w0 ρ w) → (SlR strC (Wb ρ) w vx_4_5 x_4_5) → (Blk ρ 6 w gx_4 (.cells #[.int .i64 x_4_0, .int .i64 x_4_1, .int .i64 x_4_2, str x_4_3, str x_4_4, vx_4_5] 32 (0, 0))) → (consent_Consents.O (fun p => 100 + p) ρ w gc_7 oc_7) → (SlR strC (Wb ρ) w vk_10 k_10) → KE Try.prog 6 (Ret (fun v w' => v = .bool r ∧ Below w0.heap.size w0 w')) 116 [.inLoop (sub (bodyOf Try.f6) [2, 2, 2, 2, 2, 2, 2, 2, 2, 1, 2, 2, 1]), .inBlock 2, .code (sub (bodyOf Try.f6) [2, 2, 2, 2, 2, 2, 2, 2, 2, 2])] [(2, .int .i64 at_2), (4, .pointer (some ⟨gx_4, 0, none⟩)), (7, .pointer (some ⟨gc_7, 0, none⟩)), (9, .bool found_9), (10, vk_10), (11, .int .i64 i_11)] w := fun {r} {at_2} {x_4_0} {x_4_1} {x_4_2} {x_4_3} {x_4_4} {x_4_5} {oc_7} {found_9} {k_10} {i_11} {gx_4} {vx_4_5} {gc_7} {vk_10} hS {ρ} {w} hb hx_4_5 hBx_4 hoc_7 hk_10 => ke_inLoop (ih hS hb hx_4_5 hBx_4 hoc_7 hk_10)
  clear ih
  intro r at_2 x_4_0 x_4_1 x_4_2 x_4_3 x_4_4 x_4_5 oc_7 found_9 k_10 i_11 gx_4 vx_4_5 gc_7 vk_10 hS ρ w hb hx_4_5 hBx_4 hoc_7 hk_10
  unfold law32_ConsentGranted_L4 at hS
  obtain ⟨v389, hB391, h390⟩ := hoc_7
  replace hB391 : Blk ρ 100 w gc_7 (.cells #[v389] 52 (0, 0)) := hB391
  replace h390 : MapT consent_pair.ek (mapC str (intC .i64) false) false ρ 101 w v389 oc_7.pairs := h390
  refine ke_seq ?_
  refine ke_seq ?_
  refine ke_region ?_
  refine sr_ev (v := .int .i64 i_11) (ev_move rfl) (by decide) ?_
  refine sr_ev (v := vk_10) (ev_move rfl) (by decide) ?_
  refine sr_ev (v := .int .i64 (k_10.length : Int)) (ev_sllen Try.underlying30 rfl hk_10.asSl) (by decide) ?_
  refine sr_ev (v := .bool (decide (i_11 < (k_10.length : Int)))) (ev_lt rfl rfl) (by decide) ?_
  refine sr_end (l' := [(2, .int .i64 at_2), (4, .pointer (some ⟨gx_4, 0, none⟩)), (7, .pointer (some ⟨gc_7, 0, none⟩)), (9, .bool found_9), (10, vk_10), (11, .int .i64 i_11), (80, .bool (decide (i_11 < (k_10.length : Int))))]) (.cons rfl (.cons rfl (.cons rfl (.cons rfl (.cons rfl (.cons rfl (.cons rfl (.nil _)))))))) ?_
  refine ke_cond (t := decide (i_11 < (k_10.length : Int))) rfl (fun hc392 => ?_) (fun hc392 => ?_)
  ·replace hS := ite_true' hS hc392
   refine ke_skip ?_
   refine ke_seq ?_
   refine ke_block ?_
   refine ke_region_q Try.mixed (by kernel_rfl) ?_
   refine sq_ev (v := .bool found_9) (fun w1 hw1 => ev_move rfl) (by decide) ?_
   refine sq_ev (v := .bool found_9) (fun w1 hw1 => ev_move rfl) (by decide) ?_
   obtain ⟨z397, hz399, hS⟩ := bind_some' hS
   refine sq_join (m := 8) (C := fun (x : Bool) => z397 = x) (l' := fun x => [(2, .int .i64 at_2), (4, .pointer (some ⟨gx_4, 0, none⟩)), (7, .pointer (some ⟨gc_7, 0, none⟩)), (10, vk_10), (11, .int .i64 i_11), (92, .bool x)]) ?_ ?_
   ·rintro _ rfl
    refine sq_ev (v := .bool z397) (fun w1 hw1 => ev_assign rfl) (by decide) ?_
    refine sq_end (l' := [(2, .int .i64 at_2), (4, .pointer (some ⟨gx_4, 0, none⟩)), (7, .pointer (some ⟨gc_7, 0, none⟩)), (9, .bool z397), (10, vk_10), (11, .int .i64 i_11)]) (.cons rfl (.cons rfl (.cons rfl (.cons rfl (.cons rfl (.cons rfl (.nil _))))))) (fun w394 hw393 => ?_)
    have htr409 := Tr.of_below hw393 hb.bd
    replace hk_10 := hk_10.mv htr409.rd
    replace hBx_4 := hBx_4.mv (htr409.mv (i := 6) rfl)
    replace hx_4_5 := hx_4_5.mv htr409.rd
    replace hB391 := hB391.mv (htr409.mv (i := 100) rfl)
    replace h390 := h390.mv (htr409.mv (i := 101) rfl)
    replace hb := hb.trans htr409
    refine ke_inBlock ?_
    refine ke_region ?_
    refine sr_ev (v := .int .i64 i_11) (ev_move rfl) (by decide) ?_
    refine sr_ev (v := .int .i64 (IntKind.i64.wrap (i_11 + 1))) (ev_add rfl rfl) (by decide) ?_
    refine sr_ev (v := .int .i64 (IntKind.i64.wrap (i_11 + 1))) (ev_assign rfl) (by decide) ?_
    refine sr_end (l' := [(2, .int .i64 at_2), (4, .pointer (some ⟨gx_4, 0, none⟩)), (7, .pointer (some ⟨gc_7, 0, none⟩)), (9, .bool z397), (10, vk_10), (11, .int .i64 (IntKind.i64.wrap (i_11 + 1)))]) (.cons rfl (.cons rfl (.cons rfl (.cons rfl (.cons rfl (.cons rfl (.nil _))))))) ?_
    have hK := hr1 hS hb hx_4_5 hBx_4 ⟨_, hB391, h390⟩ hk_10
    exact ke_weaken (l' := [(2, .int .i64 at_2), (4, .pointer (some ⟨gx_4, 0, none⟩)), (7, .pointer (some ⟨gc_7, 0, none⟩)), (9, .bool z397), (10, vk_10), (11, .int .i64 (IntKind.i64.wrap (i_11 + 1)))]) (.cons rfl (.cons rfl (.cons rfl (.cons rfl (.cons rfl (.cons rfl (.nil _))))))) hK
   ·intro K396
    clear hS
    rcases Bool.eq_false_or_eq_true found_9 with hg395 | hg395
    ·have hS := ite_true' hz399 hg395
     refine sq_pass (e := 84) rfl rfl (by rw [hg395]; rfl) (by decide) ?_
     refine sq_pass (e := 84) rfl rfl (by rw [hg395]; rfl) (by decide) ?_
     refine sq_pass (e := 84) rfl rfl (by rw [hg395]; rfl) (by decide) ?_
     refine sq_pass (e := 84) rfl rfl (by rw [hg395]; rfl) (by decide) ?_
     refine sq_pass (e := 84) rfl rfl (by rw [hg395]; rfl) (by decide) ?_
     refine sq_pass (e := 84) rfl rfl (by rw [hg395]; rfl) (by decide) ?_
     refine sq_pass (e := 84) rfl rfl (by rw [hg395]; rfl) (by decide) ?_
     refine sq_ev (v := .bool true) (fun w1 hw1 => ev_pick_t rfl hg395 rfl) (by decide) ?_
     exact sq_weaken (l' := [(2, .int .i64 at_2), (4, .pointer (some ⟨gx_4, 0, none⟩)), (7, .pointer (some ⟨gc_7, 0, none⟩)), (10, vk_10), (11, .int .i64 i_11), (92, .bool true)]) (.cons rfl (.cons rfl (.cons rfl (.cons rfl (.cons rfl (.cons rfl (.nil _))))))) (K396 true (Option.some.inj hS).symm)
    ·have hS := ite_false' hz399 hg395
     refine sq_evg (b := false) (e := 84) rfl rfl hg395 (v := vk_10) (fun w1 hw1 => ev_move rfl) (by decide) ?_
     refine sq_evg (b := false) (e := 84) rfl rfl hg395 (v := .int .i64 i_11) (fun w1 hw1 => ev_move rfl) (by decide) ?_
     obtain ⟨y402, hy403, hS⟩ := bind_some' hS
     obtain ⟨b404, o405, cs407, hq408, he406⟩ := ((SlT.of_sl (i := 0) hk_10)).elem (P := Try.prog) Try.underlying30 Try.info9 rfl hy403
     obtain rfl : cs407 = [str y402] := he406.rd
     refine sq_evg (b := false) (e := 84) rfl rfl hg395 (v := .pointer (some ⟨b404, o405, none⟩)) (fun w1 hw1 => hq408 w1 rfl rfl) (by decide) ?_
     refine sq_evg (b := false) (e := 84) rfl rfl hg395 (v := str y402) (fun w1 hw1 => ev_load Try.isAgg9 rfl ((he406.mv (Mv.of_below (i := 0) (ρ := ρ) hw1) (Nat.succ_pos _)).cell 0 _ rfl)) (by decide) ?_
     refine sq_evg (b := false) (e := 84) rfl rfl hg395 (v := .pointer (some ⟨gx_4, 4, none⟩)) (fun w1 hw1 => ev_fieldAddr (i := 4) Try.underlying32 rfl Try.info9 rfl rfl) (by decide) ?_
     refine sq_evg (b := false) (e := 84) rfl rfl hg395 (v := str x_4_4) (fun w1 hw1 => ev_load Try.isAgg9 rfl ((hBx_4.mv (Mv.of_below (i := 6) (ρ := ρ) hw1)).cell rfl)) (by decide) ?_
     refine sq_evg (b := false) (e := 84) rfl rfl hg395 (v := .bool (y402 == x_4_4)) (fun w1 hw1 => ev_seq rfl rfl) (by decide) ?_
     refine sq_ev (v := .bool (y402 == x_4_4)) (fun w1 hw1 => ev_pick_f rfl hg395 rfl) (by decide) ?_
     exact sq_weaken (l' := [(2, .int .i64 at_2), (4, .pointer (some ⟨gx_4, 0, none⟩)), (7, .pointer (some ⟨gc_7, 0, none⟩)), (10, vk_10), (11, .int .i64 i_11), (92, .bool (y402 == x_4_4))]) (.cons rfl (.cons rfl (.cons rfl (.cons rfl (.cons rfl (.cons rfl (.nil _))))))) (K396 (y402 == x_4_4) (Option.some.inj hS).symm)
  ·replace hS := ite_false' hS hc392
   refine ke_exit (k' := _) rfl ?_
   refine ke_seq ?_
   refine ke_region ?_
   refine sr_ev (v := .bool found_9) (ev_move rfl) (by decide) ?_
   refine sr_ev (v := .bool found_9) (ev_move rfl) (by decide) ?_
   obtain ⟨z412, hz414, hS⟩ := bind_some' hS
   refine sr_join (m := 7) (C := fun (z : Bool × consent_Consents) w1 => z412 = z ∧ ∃ ρ1, consent_Consents.O (fun p => 100 + p) ρ1 w1 gc_7 z.2 ∧ Tr ρ w (fun t => ([100, 101] : List Nat).contains t) ρ1 w1) (l' := fun z => [(2, .int .i64 at_2), (4, .pointer (some ⟨gx_4, 0, none⟩)), (7, .pointer (some ⟨gc_7, 0, none⟩)), (101, .bool z.1)]) ?_ ?_
   ·rintro _ w415 ⟨rfl, ρ416, ⟨v427, hB429, h428⟩, hj413⟩
    replace hBx_4 := hBx_4.mv (hj413.mv (i := 6) rfl)
    replace hx_4_5 := hx_4_5.mv hj413.rd
    replace hb := hb.trans hj413
    replace hB429 : Blk ρ416 100 w415 gc_7 (.cells #[v427] 52 (0, 0)) := hB429
    replace h428 : MapT consent_pair.ek (mapC str (intC .i64) false) false ρ416 101 w415 v427 z412.2.pairs := h428
    refine sr_ev (v := .bool z412.1) (ev_move rfl) (by decide) ?_
    obtain ⟨z432, hz434, hS⟩ := bind_some' hS
    refine sr_join (m := 10) (C := fun (z : Bool) w1 => z432 = z ∧ ∃ ρ1, Tr ρ416 w415 (fun _ => false) ρ1 w1) (l' := fun z => [(112, .bool z)]) ?_ ?_
    ·rintro _ w435 ⟨rfl, ρ436, hj433⟩
     replace hb := hb.trans hj433
     refine sr_ev (v := .bool z432) (ev_move rfl) (by decide) ?_
     obtain ⟨z447, hz449, hS⟩ := bind_some' hS
     refine sr_join (m := 2) (C := fun (z : Bool) w1 => z447 = z ∧ ∃ ρ1, Tr ρ436 w435 (fun _ => false) ρ1 w1) (l' := fun z => [(115, .bool z)]) ?_ ?_
     ·rintro _ w450 ⟨rfl, ρ451, hj448⟩
      replace hb := hb.trans hj448
      refine sr_ev (v := .bool z447) (ev_assign rfl) (by decide) ?_
      refine sr_end (l' := [(6, .bool z447)]) (.cons rfl (.nil _)) ?_
      cases hS
      exact ke_ret1 Try.func6 rfl rfl ⟨_, rfl, rfl, (hb.below (flat1_le _))⟩
     ·intro K446
      clear hS
      have hj448 : Tr ρ436 w435 (fun _ => false) ρ436 w435 := (Tr.refl hb.bd).weak (fun _ _ => rfl) rfl rfl
      rcases Bool.eq_false_or_eq_true z432 with hg445 | hg445
      ·have hS := ite_true' hz449 hg445
       obtain ⟨y453, hy454, hS⟩ := bind_some' hS
       refine sr_callg (b := true) (e := 113) rfl rfl hg445 (vs := []) rfl Try.call9 rfl (law32_awake_ok _ (hg.fr hz hb) (ρA := ρ436) hb.bd (hz.fr hg hb) hy454) (by decide) ?_
       rintro _ w455 ⟨rfl, hbw456⟩
       have htr457 := Tr.of_below hbw456 hb.bd
       replace hb := hb.trans htr457
       replace hj448 := (hj448.trans htr457).weak (J' := (fun _ => false)) (by intro t h; simp [rng] at h ⊢ <;> omega) rfl rfl
       refine sr_ev (v := .bool y453) (ev_pick_t rfl hg445 rfl) (by decide) ?_
       exact sr_weaken (l' := [(115, .bool y453)]) (.cons rfl (.nil _)) (K446 y453 _ ⟨(Option.some.inj hS).symm, _, hj448⟩)
      ·have hS := ite_false' hz449 hg445
       refine sr_pass (e := 113) rfl rfl (by rw [hg445]; rfl) (by decide) ?_
       refine sr_ev (v := .bool false) (ev_pick_f rfl hg445 rfl) (by decide) ?_
       exact sr_weaken (l' := [(115, .bool false)]) (.cons rfl (.nil _)) (K446 false _ ⟨(Option.some.inj hS).symm, _, hj448⟩)
    ·intro K431
     clear hS
     have hj433 : Tr ρ416 w415 (fun _ => false) ρ416 w415 := (Tr.refl hb.bd).weak (fun _ _ => rfl) rfl rfl
     rcases Bool.eq_false_or_eq_true z412.1 with hg430 | hg430
     ·have hS := ite_true' hz434 hg430
      refine sr_evg (b := true) (e := 102) rfl rfl hg430 (v := .pointer (some ⟨gc_7, 0, none⟩)) (ev_move rfl) (by decide) ?_
      refine sr_evg (b := true) (e := 102) rfl rfl hg430 (v := .pointer (some ⟨gx_4, 3, none⟩)) (ev_fieldAddr (i := 3) Try.underlying32 rfl Try.info9 rfl rfl) (by decide) ?_
      refine sr_evg (b := true) (e := 102) rfl rfl hg430 (v := str x_4_3) (ev_load Try.isAgg9 rfl (hBx_4.cell rfl)) (by decide) ?_
      refine sr_evg (b := true) (e := 102) rfl rfl hg430 (v := .pointer (some ⟨gx_4, 4, none⟩)) (ev_fieldAddr (i := 4) Try.underlying32 rfl Try.info9 rfl rfl) (by decide) ?_
      refine sr_evg (b := true) (e := 102) rfl rfl hg430 (v := str x_4_4) (ev_load Try.isAgg9 rfl (hBx_4.cell rfl)) (by decide) ?_
      refine sr_evg (b := true) (e := 102) rfl rfl hg430 (v := .int .i64 at_2) (ev_move rfl) (by decide) ?_
      obtain ⟨y438, hy439, hS⟩ := bind_some' hS
      refine sr_callg (b := true) (e := 102) rfl rfl hg430 (vs := [.pointer (some ⟨gc_7, 0, none⟩), str x_4_3, str x_4_4, .int .i64 at_2]) rfl Try.call17 rfl (consent_Consents_Scopes_ok _ (hg.fr hz hb) (ρA := ρ416) hb.bd (hz.fr hg hb) (τ0 := (fun p => 100 + p)) (fun p => Nat.le_add_right_of_le (by decide)) (⟨_, hB429, h428⟩ : consent_Consents.O (fun p => 100 + p) ρ416 w415 gc_7 z412.2) hy439) (by decide) ?_
      rintro v443 w440 ⟨_, rfl, h444, hbw441⟩
      have htr442 := Tr.of_below hbw441 hb.bd
      replace hb := hb.trans htr442
      replace hj433 := (hj433.trans htr442).weak (J' := (fun _ => false)) (by intro t h; simp [rng] at h ⊢ <;> omega) rfl rfl
      refine sr_evg (b := true) (e := 102) rfl rfl hg430 (v := .int .i64 (y438.length : Int)) (ev_sllen Try.underlying30 rfl h444.asSl) (by decide) ?_
      refine sr_evg (b := true) (e := 102) rfl rfl hg430 (v := .bool ((y438.length : Int) == 0)) (ev_eq rfl rfl) (by decide) ?_
      refine sr_ev (v := .bool ((y438.length : Int) == 0)) (ev_pick_t rfl hg430 rfl) (by decide) ?_
      exact sr_weaken (l' := [(112, .bool ((y438.length : Int) == 0))]) (.cons rfl (.nil _)) (K431 ((y438.length : Int) == 0) _ ⟨(Option.some.inj hS).symm, _, hj433⟩)
     ·have hS := ite_false' hz434 hg430
      refine sr_pass (e := 102) rfl rfl (by rw [hg430]; rfl) (by decide) ?_
      refine sr_pass (e := 102) rfl rfl (by rw [hg430]; rfl) (by decide) ?_
      refine sr_pass (e := 102) rfl rfl (by rw [hg430]; rfl) (by decide) ?_
      refine sr_pass (e := 102) rfl rfl (by rw [hg430]; rfl) (by decide) ?_
      refine sr_pass (e := 102) rfl rfl (by rw [hg430]; rfl) (by decide) ?_
      refine sr_pass (e := 102) rfl rfl (by rw [hg430]; rfl) (by decide) ?_
      refine sr_pass (e := 102) rfl rfl (by rw [hg430]; rfl) (by decide) ?_
      refine sr_pass (e := 102) rfl rfl (by rw [hg430]; rfl) (by decide) ?_
      refine sr_pass (e := 102) rfl rfl (by rw [hg430]; rfl) (by decide) ?_
      refine sr_ev (v := .bool false) (ev_pick_f rfl hg430 rfl) (by decide) ?_
      exact sr_weaken (l' := [(112, .bool false)]) (.cons rfl (.nil _)) (K431 false _ ⟨(Option.some.inj hS).symm, _, hj433⟩)
   ·intro K411
    clear hS
    have hj413 : Tr ρ w (fun t => ([100, 101] : List Nat).contains t) ρ w := (Tr.refl hb.bd).weak (fun _ _ => rfl) rfl rfl
    rcases Bool.eq_false_or_eq_true found_9 with hg410 | hg410
    ·have hS := ite_true' hz414 hg410
     refine sr_evg (b := true) (e := 94) rfl rfl hg410 (v := .pointer (some ⟨gc_7, 0, none⟩)) (ev_move rfl) (by decide) ?_
     refine sr_evg (b := true) (e := 94) rfl rfl hg410 (v := .pointer (some ⟨gx_4, 3, none⟩)) (ev_fieldAddr (i := 3) Try.underlying32 rfl Try.info9 rfl rfl) (by decide) ?_
     refine sr_evg (b := true) (e := 94) rfl rfl hg410 (v := str x_4_3) (ev_load Try.isAgg9 rfl (hBx_4.cell rfl)) (by decide) ?_
     refine sr_evg (b := true) (e := 94) rfl rfl hg410 (v := .pointer (some ⟨gx_4, 4, none⟩)) (ev_fieldAddr (i := 4) Try.underlying32 rfl Try.info9 rfl rfl) (by decide) ?_
     refine sr_evg (b := true) (e := 94) rfl rfl hg410 (v := str x_4_4) (ev_load Try.isAgg9 rfl (hBx_4.cell rfl)) (by decide) ?_
     obtain ⟨y418, hy419, hS⟩ := bind_some' hS
     refine sr_callg (b := true) (e := 94) rfl rfl hg410 (vs := [.pointer (some ⟨gc_7, 0, none⟩), str x_4_3, str x_4_4]) rfl Try.call26 rfl (consent_Consents_Revoke_ok _ (hg.fr hz hb) (ρA := ρ) hb.bd (hz.fr hg hb) (o := 100) (by decide) (⟨_, hB391, h390⟩ : consent_Consents.O (fun p => 100 + p) ρ w gc_7 oc_7) hy419) (by decide) ?_
     rintro _ w420 ⟨ρ426, rfl, ⟨v423, hB425, h424⟩, htr422⟩
     replace hBx_4 := hBx_4.mv (htr422.mv (i := 6) rfl)
     replace hx_4_5 := hx_4_5.mv htr422.rd
     replace hb := hb.trans htr422
     replace hj413 := (hj413.trans htr422).weak (J' := (fun t => ([100, 101] : List Nat).contains t)) (by intro t h; simp [rng] at h ⊢ <;> omega) rfl rfl
     replace hB425 : Blk ρ426 100 w420 gc_7 (.cells #[v423] 52 (0, 0)) := hB425
     replace h424 : MapT consent_pair.ek (mapC str (intC .i64) false) false ρ426 101 w420 v423 y418.2.pairs := h424
     refine sr_ev (v := .bool y418.1) (ev_pick_t rfl hg410 rfl) (by decide) ?_
     exact sr_weaken (l' := [(2, .int .i64 at_2), (4, .pointer (some ⟨gx_4, 0, none⟩)), (7, .pointer (some ⟨gc_7, 0, none⟩)), (101, .bool y418.1)]) (.cons rfl (.cons rfl (.cons rfl (.cons rfl (.nil _))))) (K411 (y418.1, y418.2) _ ⟨(Option.some.inj hS).symm, _, ⟨_, hB425, h424⟩, hj413⟩)
    ·have hS := ite_false' hz414 hg410
     refine sr_pass (e := 94) rfl rfl (by rw [hg410]; rfl) (by decide) ?_
     refine sr_pass (e := 94) rfl rfl (by rw [hg410]; rfl) (by decide) ?_
     refine sr_pass (e := 94) rfl rfl (by rw [hg410]; rfl) (by decide) ?_
     refine sr_pass (e := 94) rfl rfl (by rw [hg410]; rfl) (by decide) ?_
     refine sr_pass (e := 94) rfl rfl (by rw [hg410]; rfl) (by decide) ?_
     refine sr_pass (e := 94) rfl rfl (by rw [hg410]; rfl) (by decide) ?_
     refine sr_ev (v := .bool false) (ev_pick_f rfl hg410 rfl) (by decide) ?_
     exact sr_weaken (l' := [(2, .int .i64 at_2), (4, .pointer (some ⟨gx_4, 0, none⟩)), (7, .pointer (some ⟨gc_7, 0, none⟩)), (101, .bool false)]) (.cons rfl (.cons rfl (.cons rfl (.cons rfl (.nil _))))) (K411 (false, oc_7) _ ⟨(Option.some.inj hS).symm, _, ⟨_, hB391, h390⟩, hj413⟩)
theorem law32_ConsentGranted_B3_ok {w0 : World} (hg : Gs w0) {ρA : Tags} (hbd : ∀ b, ρA b ≠ 0 → b < w0.heap.size) (hz : Gz (flat1 ρA)) (r0 : List law32_Op → Int → Int → Int → Int → Str → Str → List Str → consent_Consents → Int → Option (Bool))
  (hr0 : ∀ {r : Bool} {l_0 : List law32_Op} {at_2 : Int} {x_4_0 : Int} {x_4_1 : Int} {x_4_2 : Int} {x_4_3 : Str} {x_4_4 : Str} {x_4_5 : List Str} {oc_7 : consent_Consents} {i_8 : Int} {vl_0 : Value} {gx_4 : Nat} {vx_4_5 : Value} {gc_7 : Nat}, r0 l_0 at_2 x_4_0 x_4_1 x_4_2 x_4_3 x_4_4 x_4_5 oc_7 i_8 = some r → ∀ {ρ : Tags} {w : World}, (Fr (flat1 ρA) w0 ρ w) → (SlR law32_Op.c (Wb ρ) w vl_0 l_0) → (SlR strC (Wb ρ) w vx_4_5 x_4_5) → (Blk ρ 6 w gx_4 (.cells #[.int .i64 x_4_0, .int .i64 x_4_1, .int .i64 x_4_2, str x_4_3, str x_4_4, vx_4_5] 32 (0, 0))) → (consent_Consents.O (fun p => 100 + p) ρ w gc_7 oc_7) → KE Try.prog 6 (Ret (fun v w' => v = .bool r ∧ Below w0.heap.size w0 w')) 116 [.inLoop (sub (bodyOf Try.f6) [2, 2, 2, 2, 1, 2, 2, 1]), .inBlock 0, .code (sub (bodyOf Try.f6) [2, 2, 2, 2, 2])] [(0, vl_0), (2, .int .i64 at_2), (4, .pointer (some ⟨gx_4, 0, none⟩)), (7, .pointer (some ⟨gc_7, 0, none⟩)), (8, .int .i64 i_8)] w) {r : Bool} {at_2 : Int} {x_4_0 : Int} {x_4_1 : Int} {x_4_2 : Int} {x_4_3 : Str} {x_4_4 : Str} {x_4_5 : List Str} {oc_7 : consent_Consents} {t_60 : Bool} {gx_4 : Nat} {vx_4_5 : Value} {gc_7 : Nat} (hS : law32_ConsentGranted_B3 r0 at_2 x_4_0 x_4_1 x_4_2 x_4_3 x_4_4 x_4_5 oc_7 t_60 = some r) {ρ : Tags} {w : World} (hb : Fr (flat1 ρA) w0 ρ w) (hx_4_5 : SlR strC (Wb ρ) w vx_4_5 x_4_5) (hBx_4 : Blk ρ 6 w gx_4 (.cells #[.int .i64 x_4_0, .int .i64 x_4_1, .int .i64 x_4_2, str x_4_3, str x_4_4, vx_4_5] 32 (0, 0))) (hoc_7 : consent_Consents.O (fun p => 100 + p) ρ w gc_7 oc_7) :
  KE Try.prog 6 (Ret (fun v w' => v = .bool r ∧ Below w0.heap.size w0 w')) 116 [.code (sub (bodyOf Try.f6) [2, 2, 2, 2, 2, 1, 2]), .code (sub (bodyOf Try.f6) [2, 2, 2, 2, 2, 2])] [(2, .int .i64 at_2), (4, .pointer (some ⟨gx_4, 0, none⟩)), (7, .pointer (some ⟨gc_7, 0, none⟩)), (60, .bool t_60)] w := by
 unfold law32_ConsentGranted_B3 at hS
 obtain ⟨v367, hB369, h368⟩ := hoc_7
 replace hB369 : Blk ρ 100 w gc_7 (.cells #[v367] 52 (0, 0)) := hB369
 replace h368 : MapT consent_pair.ek (mapC str (intC .i64) false) false ρ 101 w v367 oc_7.pairs := h368
 refine ke_cond (t := t_60) rfl (fun hc370 => ?_) (fun hc370 => ?_)
 ·replace hS := ite_true' hS hc370
  refine ke_seq ?_
  refine ke_region ?_
  obtain ⟨y371, hy372, hS⟩ := bind_some' hS
  refine sr_call (vs := []) rfl Try.call9 rfl (law32_awake_ok _ (hg.fr hz hb) (ρA := ρ) hb.bd (hz.fr hg hb) hy372) (by decide) ?_
  rintro _ w373 ⟨rfl, hbw374⟩
  have htr375 := Tr.of_below hbw374 hb.bd
  replace hb := hb.trans htr375
  refine sr_ev (v := .bool y371) (ev_assign rfl) (by decide) ?_
  refine sr_end (l' := [(6, .bool y371)]) (.cons rfl (.nil _)) ?_
  cases hS
  exact ke_ret1 Try.func6 rfl rfl ⟨_, rfl, rfl, (hb.below (flat1_le _))⟩
 ·replace hS := ite_false' hS hc370
  refine ke_skip ?_
  refine ke_seq ?_
  refine ke_seq ?_
  refine ke_region ?_
  refine sr_ev (v := .pointer (some ⟨gc_7, 0, none⟩)) (ev_move rfl) (by decide) ?_
  refine sr_ev (v := .pointer (some ⟨gx_4, 3, none⟩)) (ev_fieldAddr (i := 3) Try.underlying32 rfl Try.info9 rfl rfl) (by decide) ?_
  refine sr_ev (v := str x_4_3) (ev_load Try.isAgg9 rfl (hBx_4.cell rfl)) (by decide) ?_
  refine sr_ev (v := .pointer (some ⟨gx_4, 4, none⟩)) (ev_fieldAddr (i := 4) Try.underlying32 rfl Try.info9 rfl rfl) (by decide) ?_
  refine sr_ev (v := str x_4_4) (ev_load Try.isAgg9 rfl (hBx_4.cell rfl)) (by decide) ?_
  refine sr_ev (v := .pointer (some ⟨gx_4, 5, none⟩)) (ev_fieldAddr (i := 5) Try.underlying32 rfl Try.info30 rfl rfl) (by decide) ?_
  refine sr_ev (v := vx_4_5) (ev_load Try.isAgg30 rfl (hBx_4.cell rfl)) (by decide) ?_
  refine sr_ev (v := .int .i64 at_2) (ev_move rfl) (by decide) ?_
  obtain ⟨y376, hy377, hS⟩ := bind_some' hS
  refine sr_call (vs := [.pointer (some ⟨gc_7, 0, none⟩), str x_4_3, str x_4_4, vx_4_5, .int .i64 at_2]) rfl Try.call25 rfl (consent_Consents_Covers_ok _ (hg.fr hz hb) (ρA := ρ) hb.bd (hz.fr hg hb) (τ0 := (fun p => 100 + p)) (fun p => Nat.le_add_right_of_le (by decide)) hx_4_5 (⟨_, hB369, h368⟩ : consent_Consents.O (fun p => 100 + p) ρ w gc_7 oc_7) hy377) (by decide) ?_
  rintro _ w378 ⟨rfl, hbw379⟩
  have htr380 := Tr.of_below hbw379 hb.bd
  replace hBx_4 := hBx_4.mv (htr380.mv (i := 6) rfl)
  replace hx_4_5 := hx_4_5.mv htr380.rd
  replace hB369 := hB369.mv (htr380.mv (i := 100) rfl)
  replace h368 := h368.mv (htr380.mv (i := 101) rfl)
  replace hb := hb.trans htr380
  refine sr_ev (v := .bool (!y376)) (ev_not rfl) (by decide) ?_
  refine sr_end (l' := [(2, .int .i64 at_2), (4, .pointer (some ⟨gx_4, 0, none⟩)), (7, .pointer (some ⟨gc_7, 0, none⟩)), (71, .bool (!y376))]) (.cons rfl (.cons rfl (.cons rfl (.cons rfl (.nil _))))) ?_
  refine ke_cond (t := !y376) rfl (fun hc381 => ?_) (fun hc381 => ?_)
  ·replace hS := ite_true' hS hc381
   refine ke_seq ?_
   refine ke_region ?_
   refine sr_ev (v := .bool false) (ev_assign rfl) (by decide) ?_
   refine sr_end (l' := [(6, .bool false)]) (.cons rfl (.nil _)) ?_
   cases hS
   exact ke_ret1 Try.func6 rfl rfl ⟨_, rfl, rfl, (hb.below (flat1_le _))⟩
  ·replace hS := ite_false' hS hc381
   refine ke_skip ?_
   refine ke_seq ?_
   refine ke_region ?_
   refine sr_ev (v := .bool false) (ev_assign rfl) (by decide) ?_
   refine sr_end (l' := [(2, .int .i64 at_2), (4, .pointer (some ⟨gx_4, 0, none⟩)), (7, .pointer (some ⟨gc_7, 0, none⟩)), (9, .bool false)]) (.cons rfl (.cons rfl (.cons rfl (.cons rfl (.nil _))))) ?_
   refine ke_seq ?_
   refine ke_region ?_
   refine sr_ev (v := .pointer (some ⟨gc_7, 0, none⟩)) (ev_move rfl) (by decide) ?_
   refine sr_ev (v := .pointer (some ⟨gx_4, 3, none⟩)) (ev_fieldAddr (i := 3) Try.underlying32 rfl Try.info9 rfl rfl) (by decide) ?_
   refine sr_ev (v := str x_4_3) (ev_load Try.isAgg9 rfl (hBx_4.cell rfl)) (by decide) ?_
   refine sr_ev (v := .int .i64 at_2) (ev_move rfl) (by decide) ?_
   obtain ⟨y382, hy383, hS⟩ := bind_some' hS
   refine sr_call (vs := [.pointer (some ⟨gc_7, 0, none⟩), str x_4_3, .int .i64 at_2]) rfl Try.call19 rfl (consent_Consents_Clients_ok _ (hg.fr hz hb) (ρA := ρ) hb.bd (hz.fr hg hb) (τ0 := (fun p => 100 + p)) (fun p => Nat.le_add_right_of_le (by decide)) (⟨_, hB369, h368⟩ : consent_Consents.O (fun p => 100 + p) ρ w378 gc_7 oc_7) hy383) (by decide) ?_
   rintro v387 w384 ⟨_, rfl, h388, hbw385⟩
   have htr386 := Tr.of_below hbw385 hb.bd
   replace hBx_4 := hBx_4.mv (htr386.mv (i := 6) rfl)
   replace hx_4_5 := hx_4_5.mv htr386.rd
   replace hB369 := hB369.mv (htr386.mv (i := 100) rfl)
   replace h368 := h368.mv (htr386.mv (i := 101) rfl)
   replace hb := hb.trans htr386
   refine sr_ev (v := v387) (ev_assign rfl) (by decide) ?_
   refine sr_end (l' := [(2, .int .i64 at_2), (4, .pointer (some ⟨gx_4, 0, none⟩)), (7, .pointer (some ⟨gc_7, 0, none⟩)), (9, .bool false), (10, v387)]) (.cons rfl (.cons rfl (.cons rfl (.cons rfl (.cons rfl (.nil _)))))) ?_
   refine ke_seq ?_
   refine ke_seq ?_
   refine ke_region ?_
   refine sr_ev (v := .int .i64 0) (ev_assign rfl) (by decide) ?_
   refine sr_end (l' := [(2, .int .i64 at_2), (4, .pointer (some ⟨gx_4, 0, none⟩)), (7, .pointer (some ⟨gc_7, 0, none⟩)), (9, .bool false), (10, v387), (11, .int .i64 0)]) (.cons rfl (.cons rfl (.cons rfl (.cons rfl (.cons rfl (.cons rfl (.nil _))))))) ?_
   refine ke_block ?_
   have hK := law32_ConsentGranted_L4_ok hg hbd hz _ hr0 _ hS hb hx_4_5 hBx_4 ⟨_, hB369, h368⟩ h388
   exact ke_weaken (l' := [(2, .int .i64 at_2), (4, .pointer (some ⟨gx_4, 0, none⟩)), (7, .pointer (some ⟨gc_7, 0, none⟩)), (9, .bool false), (10, v387), (11, .int .i64 0)]) (.cons rfl (.cons rfl (.cons rfl (.cons rfl (.cons rfl (.cons rfl (.nil _))))))) (ke_loop hK)
theorem law32_ConsentGranted_L2_ok {w0 : World} (hg : Gs w0) {ρA : Tags} (hbd : ∀ b, ρA b ≠ 0 → b < w0.heap.size) (hz : Gz (flat1 ρA)) : ∀ (n : Nat), ∀ {r : Bool} {l_0 : List law32_Op} {at_2 : Int} {x_4_0 : Int} {x_4_1 : Int} {x_4_2 : Int} {x_4_3 : Str} {x_4_4 : Str} {x_4_5 : List Str} {oc_7 : consent_Consents} {i_8 : Int} {vl_0 : Value} {gx_4 : Nat} {vx_4_5 : Value} {gc_7 : Nat}, law32_ConsentGranted_L2 n l_0 at_2 x_4_0 x_4_1 x_4_2 x_4_3 x_4_4 x_4_5 oc_7 i_8 = some r → ∀ {ρ : Tags} {w : World}, (Fr (flat1 ρA) w0 ρ w) → (SlR law32_Op.c (Wb ρ) w vl_0 l_0) → (SlR strC (Wb ρ) w vx_4_5 x_4_5) → (Blk ρ 6 w gx_4 (.cells #[.int .i64 x_4_0, .int .i64 x_4_1, .int .i64 x_4_2, str x_4_3, str x_4_4, vx_4_5] 32 (0, 0))) → (consent_Consents.O (fun p => 100 + p) ρ w gc_7 oc_7) → KE Try.prog 6 (Ret (fun v w' => v = .bool r ∧ Below w0.heap.size w0 w')) 116 [.code (sub (bodyOf Try.f6) [2, 2, 2, 2, 1, 2, 2, 1]), .inLoop (sub (bodyOf Try.f6) [2, 2, 2, 2, 1, 2, 2, 1]), .inBlock 0, .code (sub (bodyOf Try.f6) [2, 2, 2, 2, 2])] [(0, vl_0), (2, .int .i64 at_2), (4, .pointer (some ⟨gx_4, 0, none⟩)), (7, .pointer (some ⟨gc_7, 0, none⟩)), (8, .int .i64 i_8)] w := by
 intro n
 induction n with
 | zero => intro r l_0 at_2 x_4_0 x_4_1 x_4_2 x_4_3 x_4_4 x_4_5 oc_7 i_8 vl_0 gx_4 vx_4_5 gc_7 hS; cases hS
 | succ n ih =>
  have hr0 : ∀ {r : Bool} {l_0 : List law32_Op} {at_2 : Int} {x_4_0 : Int} {x_4_1 : Int} {x_4_2 : Int} {x_4_3 : Str} {x_4_4 : Str} {x_4_5 : List Str} {oc_7 : consent_Consents} {i_8 : Int} {vl_0 : Value} {gx_4 : Nat} {vx_4_5 : Value} {gc_7 : Nat}, law32_ConsentGranted_L2 n l_0 at_2 x_4_0 x_4_1 x_4_2 x_4_3 x_4_4 x_4_5 oc_7 i_8 = some r → ∀ {ρ : Tags} {w : World}, (Fr (flat1 ρA) w0 ρ w) → (SlR law32_Op.c (Wb ρ) w vl_0 l_0) → (SlR strC (Wb ρ) w vx_4_5 x_4_5) → (Blk ρ 6 w gx_4 (.cells #[.int .i64 x_4_0, .int .i64 x_4_1, .int .i64 x_4_2, str x_4_3, str x_4_4, vx_4_5] 32 (0, 0))) → (consent_Consents.O (fun p => 100 + p) ρ w gc_7 oc_7) → KE Try.prog 6 (Ret (fun v w' => v = .bool r ∧ Below w0.heap.size w0 w')) 116 [.inLoop (sub (bodyOf Try.f6) [2, 2, 2, 2, 1, 2, 2, 1]), .inBlock 0, .code (sub (bodyOf Try.f6) [2, 2, 2, 2, 2])] [(0, vl_0), (2, .int .i64 at_2), (4, .pointer (some ⟨gx_4, 0, none⟩)), (7, .pointer (some ⟨gc_7, 0, none⟩)), (8, .int .i64 i_8)] w := fun {r} {l_0} {at_2} {x_4_0} {x_4_1} {x_4_2} {x_4_3} {x_4_4} {x_4_5} {oc_7} {i_8} {vl_0} {gx_4} {vx_4_5} {gc_7} hS {ρ} {w} hb hl_0 hx_4_5 hBx_4 hoc_7 => ke_inLoop (ih hS hb hl_0 hx_4_5 hBx_4 hoc_7)
  clear ih
  intro r l_0 at_2 x_4_0 x_4_1 x_4_2 x_4_3 x_4_4 x_4_5 oc_7 i_8 vl_0 gx_4 vx_4_5 gc_7 hS ρ w hb hl_0 hx_4_5 hBx_4 hoc_7
  unfold law32_ConsentGranted_L2 at hS
  obtain ⟨v284, hB286, h285⟩ := hoc_7
  replace hB286 : Blk ρ 100 w gc_7 (.cells #[v284] 52 (0, 0)) := hB286
  replace h285 : MapT consent_pair.ek (mapC str (intC .i64) false) false ρ 101 w v284 oc_7.pairs := h285
  refine ke_seq ?_
  refine ke_seq ?_
  refine ke_region ?_
  refine sr_ev (v := .int .i64 i_8) (ev_move rfl) (by decide) ?_
  refine sr_ev (v := vl_0) (ev_move rfl) (by decide) ?_
  refine sr_ev (v := .int .i64 (l_0.length : Int)) (ev_sllen Try.underlying22 rfl hl_0.asSl) (by decide) ?_
  refine sr_ev (v := .bool (decide (i_8 < (l_0.length : Int)))) (ev_lt rfl rfl) (by decide) ?_
  refine sr_end (l' := [(0, vl_0), (2, .int .i64 at_2), (4, .pointer (some ⟨gx_4, 0, none⟩)), (7, .pointer (some ⟨gc_7, 0, none⟩)), (8, .int .i64 i_8), (31, .bool (decide (i_8 < (l_0.length : Int))))]) (.cons rfl (.cons rfl (.cons rfl (.cons rfl (.cons rfl (.cons rfl (.nil _))))))) ?_
  refine ke_cond (t := decide (i_8 < (l_0.length : Int))) rfl (fun hc287 => ?_) (fun hc287 => ?_)
  ·replace hS := ite_true' hS hc287
   refine ke_skip ?_
   refine ke_seq ?_
   refine ke_block ?_
   refine ke_region ?_
   refine sr_ev (v := .pointer (some ⟨gc_7, 0, none⟩)) (ev_move rfl) (by decide) ?_
   refine sr_ev (v := vl_0) (ev_move rfl) (by decide) ?_
   refine sr_ev (v := .int .i64 i_8) (ev_move rfl) (by decide) ?_
   obtain ⟨y288, hy289, hS⟩ := bind_some' hS
   obtain ⟨b290, o291, cs293, hq294, he292⟩ := ((SlT.of_sl (i := 0) hl_0)).elem (P := Try.prog) Try.underlying22 Try.info32 rfl hy289
   obtain ⟨v295, hcshe292, h296⟩ := he292.rd
   obtain rfl : cs293 = [.int .i64 y288.Call, .int .i64 y288.Until, .int .i64 y288.Now, str y288.User, str y288.Client, v295] := hcshe292
   refine sr_ev (v := .pointer (some ⟨b290, o291, none⟩)) (hq294 w rfl rfl) (by decide) ?_
   refine sr_ev (v := .agg #[.int .i64 y288.Call, .int .i64 y288.Until, .int .i64 y288.Now, str y288.User, str y288.Client, v295]) (ev_loads (cs := [.int .i64 y288.Call, .int .i64 y288.Until, .int .i64 y288.Now, str y288.User, str y288.Client, v295]) Try.isAgg32 Try.sizeOf32 rfl he292.cell) (by decide) ?_
   obtain ⟨y297, hy298, hS⟩ := bind_some' hS
   refine sr_call (vs := [.pointer (some ⟨gc_7, 0, none⟩), .agg #[.int .i64 y288.Call, .int .i64 y288.Until, .int .i64 y288.Now, str y288.User, str y288.Client, v295]]) rfl Try.call12 rfl (law32_do_ok _ (hg.fr hz hb) (ρA := ρ) hb.bd (hz.fr hg hb) (o := 100) (by decide) h296 (⟨_, hB286, h285⟩ : consent_Consents.O (fun p => 100 + p) ρ w gc_7 oc_7) hy298) (by decide) ?_
   rintro _ w299 ⟨ρ305, rfl, ⟨v302, hB304, h303⟩, htr301⟩
   replace hl_0 := hl_0.mv htr301.rd
   replace hBx_4 := hBx_4.mv (htr301.mv (i := 6) rfl)
   replace hx_4_5 := hx_4_5.mv htr301.rd
   replace hb := hb.trans htr301
   replace hB304 : Blk ρ305 100 w299 gc_7 (.cells #[v302] 52 (0, 0)) := hB304
   replace h303 : MapT consent_pair.ek (mapC str (intC .i64) false) false ρ305 101 w299 v302 y297.2.pairs := h303
   refine sr_end (l' := [(0, vl_0), (2, .int .i64 at_2), (4, .pointer (some ⟨gx_4, 0, none⟩)), (7, .pointer (some ⟨gc_7, 0, none⟩)), (8, .int .i64 i_8)]) (.cons rfl (.cons rfl (.cons rfl (.cons rfl (.cons rfl (.nil _)))))) ?_
   refine ke_inBlock ?_
   refine ke_region ?_
   refine sr_ev (v := .int .i64 i_8) (ev_move rfl) (by decide) ?_
   refine sr_ev (v := .int .i64 (IntKind.i64.wrap (i_8 + 1))) (ev_add rfl rfl) (by decide) ?_
   refine sr_ev (v := .int .i64 (IntKind.i64.wrap (i_8 + 1))) (ev_assign rfl) (by decide) ?_
   refine sr_end (l' := [(0, vl_0), (2, .int .i64 at_2), (4, .pointer (some ⟨gx_4, 0, none⟩)), (7, .pointer (some ⟨gc_7, 0, none⟩)), (8, .int .i64 (IntKind.i64.wrap (i_8 + 1)))]) (.cons rfl (.cons rfl (.cons rfl (.cons rfl (.cons rfl (.nil _)))))) ?_
   have hK := hr0 hS hb hl_0 hx_4_5 hBx_4 ⟨_, hB304, h303⟩
   exact ke_weaken (l' := [(0, vl_0), (2, .int .i64 at_2), (4, .pointer (some ⟨gx_4, 0, none⟩)), (7, .pointer (some ⟨gc_7, 0, none⟩)), (8, .int .i64 (IntKind.i64.wrap (i_8 + 1)))]) (.cons rfl (.cons rfl (.cons rfl (.cons rfl (.cons rfl (.nil _)))))) hK
  ·replace hS := ite_false' hS hc287
   refine ke_exit (k' := _) rfl ?_
   refine ke_seq ?_
   refine ke_seq ?_
   refine ke_region_j (ρ := ρ) (fun t => ([100, 101] : List Nat).contains t) 21 Try.mixed (fun w307 hw306 => ?_)
   have htr308 := Tr.of_below hw306 hb.bd
   replace hBx_4 := hBx_4.mv (htr308.mv (i := 6) rfl)
   replace hx_4_5 := hx_4_5.mv htr308.rd
   replace hB286 := hB286.mv (htr308.mv (i := 100) rfl)
   replace h285 := h285.mv (htr308.mv (i := 101) rfl)
   replace hb := hb.trans htr308
   refine dj_H 0 (v := .pointer (some ⟨gc_7, 0, none⟩)) (by kernel_rfl) (by kernel_rfl) rfl (fun _ _ _ h => h) (sj_refl hb.bd rfl rfl) (fun w1 ρ1 hw1 => ev_move rfl) (by decide) ?_
   refine dj_H 1 (v := .pointer (some ⟨gx_4, 3, none⟩)) (by kernel_rfl) (by kernel_rfl) rfl (fun _ _ _ h => h) (sj_refl hb.bd rfl rfl) (fun w1 ρ1 hw1 => ev_fieldAddr (i := 3) Try.underlying32 rfl Try.info9 rfl rfl) (by decide) ?_
   refine dj_H 2 (v := str x_4_3) (by kernel_rfl) (by kernel_rfl) rfl (fun _ _ _ h => h) (sj_refl hb.bd rfl rfl) (fun w1 ρ1 hw1 => ev_load Try.isAgg9 rfl ((hBx_4.mv (hw1.mv (i := 6) rfl)).cell rfl)) (by decide) ?_
   refine dj_H 3 (v := .pointer (some ⟨gx_4, 4, none⟩)) (by kernel_rfl) (by kernel_rfl) rfl (fun _ _ _ h => h) (sj_refl hb.bd rfl rfl) (fun w1 ρ1 hw1 => ev_fieldAddr (i := 4) Try.underlying32 rfl Try.info9 rfl rfl) (by decide) ?_
   refine dj_H 4 (v := str x_4_4) (by kernel_rfl) (by kernel_rfl) rfl (fun _ _ _ h => h) (sj_refl hb.bd rfl rfl) (fun w1 ρ1 hw1 => ev_load Try.isAgg9 rfl ((hBx_4.mv (hw1.mv (i := 6) rfl)).cell rfl)) (by decide) ?_
   refine dj_H 5 (v := .pointer (some ⟨gx_4, 5, none⟩)) (by kernel_rfl) (by kernel_rfl) rfl (fun _ _ _ h => h) (sj_refl hb.bd rfl rfl) (fun w1 ρ1 hw1 => ev_fieldAddr (i := 5) Try.underlying32 rfl Try.info30 rfl rfl) (by decide) ?_
   refine dj_H 6 (v := vx_4_5) (by kernel_rfl) (by kernel_rfl) rfl (fun _ _ _ h => h) (sj_refl hb.bd rfl rfl) (fun w1 ρ1 hw1 => ev_load Try.isAgg30 rfl ((hBx_4.mv (hw1.mv (i := 6) rfl)).cell rfl)) (by decide) ?_
   refine dj_H 7 (v := .pointer (some ⟨gx_4, 1, none⟩)) (by kernel_rfl) (by kernel_rfl) rfl (fun _ _ _ h => h) (sj_refl hb.bd rfl rfl) (fun w1 ρ1 hw1 => ev_fieldAddr (i := 1) Try.underlying32 rfl Try.info3 rfl rfl) (by decide) ?_
   refine dj_H 8 (v := .int .i64 x_4_1) (by kernel_rfl) (by kernel_rfl) rfl (fun _ _ _ h => h) (sj_refl hb.bd rfl rfl) (fun w1 ρ1 hw1 => ev_load Try.isAgg3 rfl ((hBx_4.mv (hw1.mv (i := 6) rfl)).cell rfl)) (by decide) ?_
   refine dj_H 9 (v := .pointer (some ⟨gx_4, 2, none⟩)) (by kernel_rfl) (by kernel_rfl) rfl (fun _ _ _ h => h) (sj_refl hb.bd rfl rfl) (fun w1 ρ1 hw1 => ev_fieldAddr (i := 2) Try.underlying32 rfl Try.info3 rfl rfl) (by decide) ?_
   refine dj_H 10 (v := .int .i64 x_4_2) (by kernel_rfl) (by kernel_rfl) rfl (fun _ _ _ h => h) (sj_refl hb.bd rfl rfl) (fun w1 ρ1 hw1 => ev_load Try.isAgg3 rfl ((hBx_4.mv (hw1.mv (i := 6) rfl)).cell rfl)) (by decide) ?_
   refine dj_E 11 (by kernel_rfl) rfl ?_
   have jt356 : Tr ρ w307 (fun t => ([100, 101] : List Nat).contains t) ρ w307 := (Tr.refl hb.bd).weak (fun _ _ => rfl) rfl rfl
   obtain ⟨y357, hy358, hS⟩ := bind_some' hS
   refine sr_call (vs := [.pointer (some ⟨gc_7, 0, none⟩), str x_4_3, str x_4_4, vx_4_5, .int .i64 x_4_1, .int .i64 x_4_2]) rfl Try.call21 rfl (consent_Consents_Grant_ok _ (hg.fr hz hb) (ρA := ρ) hb.bd (hz.fr hg hb) (o := 100) (by decide) hx_4_5 (⟨_, hB286, h285⟩ : consent_Consents.O (fun p => 100 + p) ρ w307 gc_7 oc_7) hy358) (by decide) ?_
   rintro _ w359 ⟨ρ365, rfl, ⟨v362, hB364, h363⟩, htr361⟩
   replace hBx_4 := hBx_4.mv (htr361.mv (i := 6) rfl)
   replace hx_4_5 := hx_4_5.mv htr361.rd
   replace hb := hb.trans htr361
   replace jt356 := (jt356.trans htr361).weak (J' := (fun t => ([100, 101] : List Nat).contains t)) (by intro t h; simp [rng] at h ⊢ <;> omega) rfl rfl
   replace hB364 : Blk ρ365 100 w359 gc_7 (.cells #[v362] 52 (0, 0)) := hB364
   replace h363 : MapT consent_pair.ek (mapC str (intC .i64) false) false ρ365 101 w359 v362 y357.2.pairs := h363
   refine dj_next (l' := [(2, .int .i64 at_2), (4, .pointer (some ⟨gx_4, 0, none⟩)), (7, .pointer (some ⟨gc_7, 0, none⟩)), (51, .int .i64 y357.1)]) rfl (.cons rfl (.cons rfl (.cons rfl (.cons rfl (.nil _))))) jt356 (by intro t h; simp [rng] at h ⊢ <;> omega) rfl rfl ?_
   refine dj_H 12 (v := .bool (y357.1 != 0)) (by kernel_rfl) (by kernel_rfl) rfl (fun _ _ _ h => h) (sj_refl hb.bd rfl rfl) (fun w1 ρ1 hw1 => ev_ne rfl rfl) (by decide) ?_
   refine dj_H 13 (v := .bool (y357.1 != 0)) (by kernel_rfl) (by kernel_rfl) rfl (fun _ _ _ h => h) (sj_refl hb.bd rfl rfl) (fun w1 ρ1 hw1 => ev_move rfl) (by decide) ?_
   rcases Bool.eq_false_or_eq_true (y357.1 != 0) with hg366 | hg366
   ·replace hS := ite_true' hS hg366
    refine dj_pass 14 (e := 53) (by kernel_rfl) (by kernel_rfl) rfl rfl rfl rfl rfl (by rw [hg366]; rfl) (fun _ _ _ h => h) (sj_refl hb.bd rfl rfl) (by decide) ?_
    refine dj_pass 15 (e := 53) (by kernel_rfl) (by kernel_rfl) rfl rfl rfl rfl rfl (by rw [hg366]; rfl) (fun _ _ _ h => h) (sj_refl hb.bd rfl rfl) (by decide) ?_
    refine dj_pass 16 (e := 53) (by kernel_rfl) (by kernel_rfl) rfl rfl rfl rfl rfl (by rw [hg366]; rfl) (fun _ _ _ h => h) (sj_refl hb.bd rfl rfl) (by decide) ?_
    refine dj_pass 17 (e := 53) (by kernel_rfl) (by kernel_rfl) rfl rfl rfl rfl rfl (by rw [hg366]; rfl) (fun _ _ _ h => h) (sj_refl hb.bd rfl rfl) (by decide) ?_
    refine dj_pass 18 (e := 53) (by kernel_rfl) (by kernel_rfl) rfl rfl rfl rfl rfl (by rw [hg366]; rfl) (fun _ _ _ h => h) (sj_refl hb.bd rfl rfl) (by decide) ?_
    refine dj_pass 19 (e := 53) (by kernel_rfl) (by kernel_rfl) rfl rfl rfl rfl rfl (by rw [hg366]; rfl) (fun _ _ _ h => h) (sj_refl hb.bd rfl rfl) (by decide) ?_
    refine dj_H 20 (v := .bool true) (by kernel_rfl) (by kernel_rfl) rfl (fun _ _ _ h => h) (sj_refl hb.bd rfl rfl) (fun w1 ρ1 hw1 => ev_pick_t rfl hg366 rfl) (by decide) ?_
    refine dj_done rfl (by kernel_rfl) ?_
    refine ke_weaken (l' := [(2, .int .i64 at_2), (4, .pointer (some ⟨gx_4, 0, none⟩)), (7, .pointer (some ⟨gc_7, 0, none⟩)), (60, .bool true)]) (.cons rfl (.cons rfl (.cons rfl (.cons rfl (.nil _))))) ?_
    have hK := law32_ConsentGranted_B3_ok hg hbd hz _ hr0 hS hb hx_4_5 hBx_4 ⟨_, hB364, h363⟩
    exact ke_weaken (l' := [(2, .int .i64 at_2), (4, .pointer (some ⟨gx_4, 0, none⟩)), (7, .pointer (some ⟨gc_7, 0, none⟩)), (60, .bool true)]) (.cons rfl (.cons rfl (.cons rfl (.cons rfl (.nil _))))) hK
   ·replace hS := ite_false' hS hg366
    refine dj_Hg 14 (v := .int .i64 at_2) (by kernel_rfl) (by kernel_rfl) rfl rfl rfl hg366 (fun _ _ _ h => h) (sj_refl hb.bd rfl rfl) (fun w1 ρ1 hw1 => ev_move rfl) (by decide) ?_
    refine dj_Hg 16 (v := .pointer (some ⟨gx_4, 1, none⟩)) (by kernel_rfl) (by kernel_rfl) rfl rfl rfl hg366 (fun _ _ _ h => h) (sj_refl hb.bd rfl rfl) (fun w1 ρ1 hw1 => ev_fieldAddr (i := 1) Try.underlying32 rfl Try.info3 rfl rfl) (by decide) ?_
    refine dj_Hg 17 (v := .int .i64 x_4_1) (by kernel_rfl) (by kernel_rfl) rfl rfl rfl hg366 (fun _ _ _ h => h) (sj_refl hb.bd rfl rfl) (fun w1 ρ1 hw1 => ev_load Try.isAgg3 rfl ((hBx_4.mv (hw1.mv (i := 6) rfl)).cell rfl)) (by decide) ?_
    refine dj_E 15 (by kernel_rfl) rfl ?_
    have jt458 : Tr ρ365 w359 (fun t => ([100, 101] : List Nat).contains t) ρ365 w359 := (Tr.refl hb.bd).weak (fun _ _ => rfl) rfl rfl
    obtain ⟨y459, hy460, hS⟩ := bind_some' hS
    refine sr_callg (b := false) (e := 53) rfl rfl hg366 (vs := [.int .i64 at_2]) rfl Try.call23 rfl (law32_limited_ok _ (hg.fr hz hb) hy460) (by decide) ?_
    rintro _ w461 ⟨rfl, hbw462⟩
    have htr463 := Tr.of_below hbw462 hb.bd
    replace hBx_4 := hBx_4.mv (htr463.mv (i := 6) rfl)
    replace hx_4_5 := hx_4_5.mv htr463.rd
    replace hB364 := hB364.mv (htr463.mv (i := 100) rfl)
    replace h363 := h363.mv (htr463.mv (i := 101) rfl)
    replace hb := hb.trans htr463
    replace jt458 := (jt458.trans htr463).weak (J' := (fun t => ([100, 101] : List Nat).contains t)) (by intro t h; simp [rng] at h ⊢ <;> omega) rfl rfl
    refine dj_next (l' := [(2, .int .i64 at_2), (4, .pointer (some ⟨gx_4, 0, none⟩)), (7, .pointer (some ⟨gc_7, 0, none⟩)), (53, .bool (y357.1 != 0)), (55, .int .i64 y459), (57, .int .i64 x_4_1)]) rfl (.cons rfl (.cons rfl (.cons rfl (.cons rfl (.cons rfl (.cons rfl (.nil _))))))) jt458 (by intro t h; simp [rng] at h ⊢ <;> omega) rfl rfl ?_
    refine dj_E 18 (by kernel_rfl) rfl ?_
    have jt464 : Tr ρ365 w461 (fun t => ([100, 101] : List Nat).contains t) ρ365 w461 := (Tr.refl hb.bd).weak (fun _ _ => rfl) rfl rfl
    obtain ⟨y465, hy466, hS⟩ := bind_some' hS
    refine sr_callg (b := false) (e := 53) rfl rfl hg366 (vs := [.int .i64 x_4_1]) rfl Try.call23 rfl (law32_limited_ok _ (hg.fr hz hb) hy466) (by decide) ?_
    rintro _ w467 ⟨rfl, hbw468⟩
    have htr469 := Tr.of_below hbw468 hb.bd
    replace hBx_4 := hBx_4.mv (htr469.mv (i := 6) rfl)
    replace hx_4_5 := hx_4_5.mv htr469.rd
    replace hB364 := hB364.mv (htr469.mv (i := 100) rfl)
    replace h363 := h363.mv (htr469.mv (i := 101) rfl)
    replace hb := hb.trans htr469
    replace jt464 := (jt464.trans htr469).weak (J' := (fun t => ([100, 101] : List Nat).contains t)) (by intro t h; simp [rng] at h ⊢ <;> omega) rfl rfl
    refine dj_next (l' := [(2, .int .i64 at_2), (4, .pointer (some ⟨gx_4, 0, none⟩)), (7, .pointer (some ⟨gc_7, 0, none⟩)), (53, .bool (y357.1 != 0)), (55, .int .i64 y459), (58, .int .i64 y465)]) rfl (.cons rfl (.cons rfl (.cons rfl (.cons rfl (.cons rfl (.cons rfl (.nil _))))))) jt464 (by intro t h; simp [rng] at h ⊢ <;> omega) rfl rfl ?_
    refine dj_Hg 19 (v := .bool (decide (y459 ≥ y465))) (by kernel_rfl) (by kernel_rfl) rfl rfl rfl hg366 (fun _ _ _ h => h) (sj_refl hb.bd rfl rfl) (fun w1 ρ1 hw1 => ev_ge rfl rfl) (by decide) ?_
    refine dj_H 20 (v := .bool (decide (y459 ≥ y465))) (by kernel_rfl) (by kernel_rfl) rfl (fun _ _ _ h => h) (sj_refl hb.bd rfl rfl) (fun w1 ρ1 hw1 => ev_pick_f rfl hg366 rfl) (by decide) ?_
    refine dj_done rfl (by kernel_rfl) ?_
    refine ke_weaken (l' := [(2, .int .i64 at_2), (4, .pointer (some ⟨gx_4, 0, none⟩)), (7, .pointer (some ⟨gc_7, 0, none⟩)), (60, .bool (decide (y459 ≥ y465)))]) (.cons rfl (.cons rfl (.cons rfl (.cons rfl (.nil _))))) ?_
    have hK := law32_ConsentGranted_B3_ok hg hbd hz _ hr0 hS hb hx_4_5 hBx_4 ⟨_, hB364, h363⟩
    exact ke_weaken (l' := [(2, .int .i64 at_2), (4, .pointer (some ⟨gx_4, 0, none⟩)), (7, .pointer (some ⟨gc_7, 0, none⟩)), (60, .bool (decide (y459 ≥ y465)))]) (.cons rfl (.cons rfl (.cons rfl (.cons rfl (.nil _))))) hK
theorem law32_ConsentGranted_B1_ok {w0 : World} (hg : Gs w0) {ρA : Tags} (hbd : ∀ b, ρA b ≠ 0 → b < w0.heap.size) (hz : Gz (flat1 ρA)) {r : Bool} {l_0 : List law32_Op} {at_2 : Int} {x_4_0 : Int} {x_4_1 : Int} {x_4_2 : Int} {x_4_3 : Str} {x_4_4 : Str} {x_4_5 : List Str} {t_23 : Bool} {vl_0 : Value} {gx_4 : Nat} {vx_4_5 : Value} (hS : law32_ConsentGranted_B1 l_0 at_2 x_4_0 x_4_1 x_4_2 x_4_3 x_4_4 x_4_5 t_23 = some r) {ρ : Tags} {w : World} (hb : Fr (flat1 ρA) w0 ρ w) (hl_0 : SlR law32_Op.c (Wb ρ) w vl_0 l_0) (hx_4_5 : SlR strC (Wb ρ) w vx_4_5 x_4_5) (hBx_4 : Blk ρ 6 w gx_4 (.cells #[.int .i64 x_4_0, .int .i64 x_4_1, .int .i64 x_4_2, str x_4_3, str x_4_4, vx_4_5] 32 (0, 0))) :
  KE Try.prog 6 (Ret (fun v w' => v = .bool r ∧ Below w0.heap.size w0 w')) 116 [.code (sub (bodyOf Try.f6) [2, 1, 2]), .code (sub (bodyOf Try.f6) [2, 2])] [(0, vl_0), (2, .int .i64 at_2), (4, .pointer (some ⟨gx_4, 0, none⟩)), (23, .bool t_23)] w := by
 unfold law32_ConsentGranted_B1 at hS
 refine ke_cond (t := t_23) rfl (fun hc268 => ?_) (fun hc268 => ?_)
 ·replace hS := ite_true' hS hc268
  refine ke_seq ?_
  refine ke_region ?_
  obtain ⟨y269, hy270, hS⟩ := bind_some' hS
  refine sr_call (vs := []) rfl Try.call9 rfl (law32_awake_ok _ (hg.fr hz hb) (ρA := ρ) hb.bd (hz.fr hg hb) hy270) (by decide) ?_
  rintro _ w271 ⟨rfl, hbw272⟩
  have htr273 := Tr.of_below hbw272 hb.bd
  replace hb := hb.trans htr273
  refine sr_ev (v := .bool y269) (ev_assign rfl) (by decide) ?_
  refine sr_end (l' := [(6, .bool y269)]) (.cons rfl (.nil _)) ?_
  cases hS
  exact ke_ret1 Try.func6 rfl rfl ⟨_, rfl, rfl, (hb.below (flat1_le _))⟩
 ·replace hS := ite_false' hS hc268
  refine ke_skip ?_
  refine ke_seq ?_
  refine ke_region ?_
  obtain ⟨y274, hy275, hS⟩ := bind_some' hS
  refine sr_call (vs := []) rfl Try.call10 rfl (consent_New_ok _ (hg.fr hz hb) (ρA := ρ) hb.bd (hz.fr hg hb) (o := 100) (by decide) hy275) (by decide) ?_
  rintro _ w276 ⟨ρ283, g279, rfl, ⟨v280, hB282, h281⟩, htr278⟩
  replace hl_0 := hl_0.mv htr278.rd
  replace hBx_4 := hBx_4.mv (htr278.mv (i := 6) rfl)
  replace hx_4_5 := hx_4_5.mv htr278.rd
  replace hb := hb.trans htr278
  replace hB282 : Blk ρ283 100 w276 g279 (.cells #[v280] 52 (0, 0)) := hB282
  replace h281 : MapT consent_pair.ek (mapC str (intC .i64) false) false ρ283 101 w276 v280 y274.pairs := h281
  refine sr_ev (v := .pointer (some ⟨g279, 0, none⟩)) (ev_assign rfl) (by decide) ?_
  refine sr_end (l' := [(0, vl_0), (2, .int .i64 at_2), (4, .pointer (some ⟨gx_4, 0, none⟩)), (7, .pointer (some ⟨g279, 0, none⟩))]) (.cons rfl (.cons rfl (.cons rfl (.cons rfl (.nil _))))) ?_
  refine ke_seq ?_
  refine ke_seq ?_
  refine ke_region ?_
  refine sr_ev (v := .pointer (some ⟨g279, 0, none⟩)) (ev_move rfl) (by decide) ?_
  refine sr_ev (v := .bool false) (ev_peqT_some Try.underlying25 rfl rfl) (by decide) ?_
  refine sr_end (l' := [(0, vl_0), (2, .int .i64 at_2), (4, .pointer (some ⟨gx_4, 0, none⟩)), (7, .pointer (some ⟨g279, 0, none⟩)), (27, .bool false)]) (.cons rfl (.cons rfl (.cons rfl (.cons rfl (.cons rfl (.nil _)))))) ?_
  refine ke_cond (t := false) rfl (fun h => by cases h) (fun _ => ?_)
  refine ke_skip ?_
  refine ke_seq ?_
  refine ke_seq ?_
  refine ke_region ?_
  refine sr_ev (v := .int .i64 0) (ev_assign rfl) (by decide) ?_
  refine sr_end (l' := [(0, vl_0), (2, .int .i64 at_2), (4, .pointer (some ⟨gx_4, 0, none⟩)), (7, .pointer (some ⟨g279, 0, none⟩)), (8, .int .i64 0)]) (.cons rfl (.cons rfl (.cons rfl (.cons rfl (.cons rfl (.nil _)))))) ?_
  refine ke_block ?_
  have hK := law32_ConsentGranted_L2_ok hg hbd hz _ hS hb hl_0 hx_4_5 hBx_4 ⟨_, hB282, h281⟩
  exact ke_weaken (l' := [(0, vl_0), (2, .int .i64 at_2), (4, .pointer (some ⟨gx_4, 0, none⟩)), (7, .pointer (some ⟨g279, 0, none⟩)), (8, .int .i64 0)]) (.cons rfl (.cons rfl (.cons rfl (.cons rfl (.cons rfl (.nil _)))))) (ke_loop hK)
theorem law32_ConsentGranted_ok (w0 : World) (hg : Gs w0) {ρA : Tags} (hbd : ∀ b, ρA b ≠ 0 → b < w0.heap.size) (hz : Gz ρA) {l_0 : List law32_Op} {x_1 : law32_Op} {at_2 : Int} {v1 : Value} {v3 : Value} {r : Bool} (h2 : SlR law32_Op.c (Wb ρA) w0 v1 l_0) (h4 : SlR strC (Wb ρA) w0 v3 x_1.Scopes) (hS : law32_ConsentGranted l_0 x_1 at_2 = some r) :
  Calls Try.prog 6 #[v1, .agg #[.int .i64 x_1.Call, .int .i64 x_1.Until, .int .i64 x_1.Now, str x_1.User, str x_1.Client, v3], .int .i64 at_2] w0 (Ret (fun v w' => v = .bool r ∧ Below w0.heap.size w0 w')) := by
 unfold law32_ConsentGranted at hS
 have hb := flat1_fr (ρ := ρA) (w := w0) hbd
 have hz := hz.flat1
 replace h2 := SlR.mv h2 flat1_rd
 replace h4 := SlR.mv h4 flat1_rd
 refine calls_of_ke Try.func6 rfl (n := 116) rfl rfl (l := [(0, v1), (1, .agg #[.int .i64 x_1.Call, .int .i64 x_1.Until, .int .i64 x_1.Now, str x_1.User, str x_1.Client, v3]), (2, .int .i64 at_2)]) rfl ?_
 refine ke_seq ?_
 refine ke_region ?_
 refine sr_boxT 6 (by decide) hb.bd rfl (by decide) ?_
 intro g5 ρ6 w7 hB9 htr8
 replace h2 := h2.mv htr8.rd
 replace h4 := h4.mv htr8.rd
 replace hb := hb.trans htr8
 replace hB9 : Blk ρ6 6 w7 g5 (.cells #[.int .i64 x_1.Call, .int .i64 x_1.Until, .int .i64 x_1.Now, str x_1.User, str x_1.Client, v3] 32 (0, 0)) := hB9
 refine sr_ev (v := .bool false) (ev_assign rfl) (by decide) ?_
 refine sr_end (l' := [(0, v1), (2, .int .i64 at_2), (4, .pointer (some ⟨g5, 0, none⟩))]) (.cons rfl (.cons rfl (.cons rfl (.nil _)))) ?_
 refine ke_seq ?_
 refine ke_seq ?_
 refine ke_region_j (ρ := ρ6) (fun t => ([14] : List Nat).contains t) 12 Try.mixed (fun w11 hw10 => ?_)
 have htr12 := Tr.of_below hw10 hb.bd
 replace h2 := h2.mv htr12.rd
 replace hB9 := hB9.mv (htr12.mv (i := 6) rfl)
 replace h4 := h4.mv htr12.rd
 replace hb := hb.trans htr12
 refine dj_H 1 (v := v1) (by kernel_rfl) (by kernel_rfl) rfl (fun _ _ _ h => h) (sj_refl hb.bd rfl rfl) (fun w1 ρ1 hw1 => ev_move rfl) (by decide) ?_
 refine dj_H 2 (v := v1) (by kernel_rfl) (by kernel_rfl) rfl (fun _ _ _ h => h) (sj_refl hb.bd rfl rfl) (fun w1 ρ1 hw1 => ev_move rfl) (by decide) ?_
 refine dj_H 3 (v := .int .i64 (l_0.length : Int)) (by kernel_rfl) (by kernel_rfl) rfl (fun _ _ _ h => h) (sj_refl hb.bd rfl rfl) (fun w1 ρ1 hw1 => ev_sllen Try.underlying22 rfl (h2.mv hw1.rd).asSl) (by decide) ?_
 refine dj_H 4 (v := .int .i64 (gmin (l_0.length : Int) 25)) (by kernel_rfl) (by kernel_rfl) rfl (fun _ _ _ h => h) (sj_refl hb.bd rfl rfl) (fun w1 ρ1 hw1 => ev_min rfl rfl) (by decide) ?_
 obtain ⟨hk202, hS⟩ := chk_some hS
 obtain ⟨v203, h204, hq205⟩ := ((SlT.of_sl (i := 0) h2)).cutT_h (P := Try.prog) Try.underlying22 Try.info32 rfl hk202
 replace h204 := h204.sl
 refine dj_H 5 (v := v203) (by kernel_rfl) (by kernel_rfl) rfl (fun _ _ _ h => h) (sj_refl hb.bd rfl rfl) (fun w1 ρ1 hw1 => hq205 w1 rfl rfl) (by decide) ?_
 refine dj_H 7 (v := .agg #[.int .i64 x_1.Call, .int .i64 x_1.Until, .int .i64 x_1.Now, str x_1.User, str x_1.Client, v3]) (by kernel_rfl) (by kernel_rfl) rfl (fun _ _ _ h => h) (sj_refl hb.bd rfl rfl) (fun w1 ρ1 hw1 => ev_loads (cs := [.int .i64 x_1.Call, .int .i64 x_1.Until, .int .i64 x_1.Now, str x_1.User, str x_1.Client, v3]) Try.isAgg32 Try.sizeOf32 rfl ((hB9.mv (hw1.mv (i := 6) rfl)).cells (vs := [.int .i64 x_1.Call, .int .i64 x_1.Until, .int .i64 x_1.Now, str x_1.User, str x_1.Client, v3]) rfl)) (by decide) ?_
 obtain ⟨hk213, hS⟩ := chk_some hS
 obtain ⟨hk226, hS⟩ := chk_some hS
 obtain ⟨y233, hy234, hS⟩ := bind_some' hS
 refine dj_all [0, 8] (by kernel_rfl) (fun i hi => ?_)
 simp only [List.mem_cons, List.not_mem_nil, or_false] at hi
 rcases hi with rfl | rfl
 ·refine ⟨_, rfl, ?_⟩
  have jt238 : Tr ρ6 w11 (fun t => ([14] : List Nat).contains t) ρ6 w11 := (Tr.refl hb.bd).weak (fun _ _ => rfl) rfl rfl
  refine sr_litOwnT (i := 14) (c := law32_Op.c) (ρ := ρ6) (E := 32) (xs := []) (vs := #[]) (cs := #[]) (css := []) rfl (fun _ => by kernel_rfl) rfl trivial rfl (by decide) (by decide) hb.bd (by decide) ?_
  intro v239 ρ243 w241 h240 htr242
  replace h2 := h2.mv htr242.rd
  replace h204 := h204.mv htr242.rd
  replace h4 := h4.mv htr242.rd
  replace hB9 := hB9.mv (htr242.mv (i := 6) rfl)
  replace hb := hb.trans htr242
  replace jt238 := (jt238.trans htr242).weak (J' := (fun t => ([14] : List Nat).contains t)) (by intro t h; simp [rng] at h ⊢ <;> omega) rfl rfl
  refine dj_next (l' := [(0, v1), (2, .int .i64 at_2), (4, .pointer (some ⟨g5, 0, none⟩)), (12, v239), (17, v203), (19, .agg #[.int .i64 x_1.Call, .int .i64 x_1.Until, .int .i64 x_1.Now, str x_1.User, str x_1.Client, v3])]) rfl (.cons rfl (.cons rfl (.cons rfl (.cons rfl (.cons rfl (.cons rfl (.nil _))))))) jt238 (by intro t h; simp [rng] at h ⊢ <;> omega) rfl rfl ?_
  refine dj_all [6, 8] (by kernel_rfl) (fun i hi => ?_)
  simp only [List.mem_cons, List.not_mem_nil, or_false] at hi
  rcases hi with rfl | rfl
  ·refine ⟨_, rfl, ?_⟩
   have jt244 : Tr ρ243 w241 (fun t => ([14] : List Nat).contains t) ρ243 w241 := (Tr.refl hb.bd).weak (fun _ _ => rfl) rfl rfl
   refine sr_appendT (i := 14) (c := law32_Op.c) (ρ := ρ243) (E := 32) (xs := ([] : List law32_Op)) (ys := cut l_0 0 (gmin (l_0.length : Int) 25)) h240 ((SlT.of_sl (i := 0) h204)).x Try.underlying22 Try.info32 rfl rfl rfl (by decide) (by decide) (by decide) hb.bd hk213 rfl rfl (by decide) ?_
   intro v245 ρ247 w248 h246 htr249
   replace h2 := h2.mv htr249.rd
   replace h4 := h4.mv htr249.rd
   replace hB9 := hB9.mv (htr249.mv (i := 6) rfl)
   replace hb := hb.trans htr249
   replace jt244 := (jt244.trans htr249).weak (J' := (fun t => ([14] : List Nat).contains t)) (by intro t h; simp [rng] at h ⊢ <;> omega) rfl rfl
   refine dj_next (l' := [(0, v1), (2, .int .i64 at_2), (4, .pointer (some ⟨g5, 0, none⟩)), (18, v245), (19, .agg #[.int .i64 x_1.Call, .int .i64 x_1.Until, .int .i64 x_1.Now, str x_1.User, str x_1.Client, v3])]) rfl (.cons rfl (.cons rfl (.cons rfl (.cons rfl (.cons rfl (.nil _)))))) jt244 (by intro t h; simp [rng] at h ⊢ <;> omega) rfl rfl ?_
   refine dj_E 8 (by kernel_rfl) rfl ?_
   have jt250 : Tr ρ247 w248 (fun t => ([14] : List Nat).contains t) ρ247 w248 := (Tr.refl hb.bd).weak (fun _ _ => rfl) rfl rfl
   refine sr_litT (c := law32_Op.c) (ρ := ρ247) (E := 32) (xs := [x_1]) (vs := #[(0, .agg #[.int .i64 x_1.Call, .int .i64 x_1.Until, .int .i64 x_1.Now, str x_1.User, str x_1.Client, v3])]) (cs := #[.int .i64 x_1.Call, .int .i64 x_1.Until, .int .i64 x_1.Now, str x_1.User, str x_1.Client, v3]) (css := [[.int .i64 x_1.Call, .int .i64 x_1.Until, .int .i64 x_1.Now, str x_1.User, str x_1.Client, v3]]) rfl (fun _ => by kernel_rfl) rfl ⟨⟨_, rfl, h4⟩, trivial⟩ rfl (by decide) hb.bd (by decide) ?_
   intro v251 w253 h252 hbw255
   have htr254 := Tr.of_below hbw255 hb.bd
   replace h2 := h2.mv htr254.rd
   replace h246 := h246.mv (htr254.mv (i := 14) rfl) (by decide)
   replace hB9 := hB9.mv (htr254.mv (i := 6) rfl)
   replace h4 := h4.mv htr254.rd
   replace hb := hb.trans htr254
   replace jt250 := (jt250.trans htr254).weak (J' := (fun t => ([14] : List Nat).contains t)) (by intro t h; simp [rng] at h ⊢ <;> omega) rfl rfl
   refine dj_next (l' := [(0, v1), (2, .int .i64 at_2), (4, .pointer (some ⟨g5, 0, none⟩)), (18, v245), (20, v251)]) rfl (.cons rfl (.cons rfl (.cons rfl (.cons rfl (.cons rfl (.nil _)))))) jt250 (by intro t h; simp [rng] at h ⊢ <;> omega) rfl rfl ?_
   refine dj_E 9 (by kernel_rfl) rfl ?_
   have jt256 : Tr ρ247 w253 (fun t => ([14] : List Nat).contains t) ρ247 w253 := (Tr.refl hb.bd).weak (fun _ _ => rfl) rfl rfl
   refine sr_appendT (i := 14) (c := law32_Op.c) (ρ := ρ247) (E := 32) (xs := ([] : List law32_Op) ++ (cut l_0 0 (gmin (l_0.length : Int) 25))) (ys := ([x_1] : List law32_Op)) h246 ((SlT.of_sl (i := 0) h252)).x Try.underlying22 Try.info32 rfl rfl rfl (by decide) (by decide) (by decide) hb.bd hk226 rfl rfl (by decide) ?_
   intro v257 ρ259 w260 h258 htr261
   replace h2 := h2.mv htr261.rd
   replace hB9 := hB9.mv (htr261.mv (i := 6) rfl)
   replace h4 := h4.mv htr261.rd
   replace hb := hb.trans htr261
   replace jt256 := (jt256.trans htr261).weak (J' := (fun t => ([14] : List Nat).contains t)) (by intro t h; simp [rng] at h ⊢ <;> omega) rfl rfl
   refine dj_next (l' := [(0, v1), (2, .int .i64 at_2), (4, .pointer (some ⟨g5, 0, none⟩)), (21, v257)]) rfl (.cons rfl (.cons rfl (.cons rfl (.cons rfl (.nil _))))) jt256 (by intro t h; simp [rng] at h ⊢ <;> omega) rfl rfl ?_
   refine dj_E 10 (by kernel_rfl) rfl ?_
   have jt262 : Tr ρ259 w260 (fun t => ([14] : List Nat).contains t) ρ259 w260 := (Tr.refl hb.bd).weak (fun _ _ => rfl) rfl rfl
   refine sr_call (vs := [v257]) rfl Try.call8 rfl (law32_light_ok _ (hg.fr hz hb) h258.asSl hy234) (by decide) ?_
   rintro _ w265 ⟨rfl, hbw266⟩
   have htr267 := Tr.of_below hbw266 hb.bd
   replace h2 := h2.mv htr267.rd
   replace hB9 := hB9.mv (htr267.mv (i := 6) rfl)
   replace h4 := h4.mv htr267.rd
   replace hb := hb.trans htr267
   replace jt262 := (jt262.trans htr267).weak (J' := (fun t => ([14] : List Nat).contains t)) (by intro t h; simp [rng] at h ⊢ <;> omega) rfl rfl
   refine dj_next (l' := [(0, v1), (2, .int .i64 at_2), (4, .pointer (some ⟨g5, 0, none⟩)), (22, .bool y233)]) rfl (.cons rfl (.cons rfl (.cons rfl (.cons rfl (.nil _))))) jt262 (by intro t h; simp [rng] at h ⊢ <;> omega) rfl rfl ?_
   refine dj_H 11 (v := .bool (!y233)) (by kernel_rfl) (by kernel_rfl) rfl (fun _ _ _ h => h) (sj_refl hb.bd rfl rfl) (fun w1 ρ1 hw1 => ev_not rfl) (by decide) ?_
   refine dj_done rfl (by kernel_rfl) ?_
   refine ke_weaken (l' := [(0, v1), (2, .int .i64 at_2), (4, .pointer (some ⟨g5, 0, none⟩)), (23, .bool (!y233))]) (.cons rfl (.cons rfl (.cons rfl (.cons rfl (.nil _))))) ?_
   have hK := law32_ConsentGranted_B1_ok hg hbd hz hS hb h2 h4 hB9
   exact ke_weaken (l' := [(0, v1), (2, .int .i64 at_2), (4, .pointer (some ⟨g5, 0, none⟩)), (23, .bool (!y233))]) (.cons rfl (.cons rfl (.cons rfl (.cons rfl (.nil _))))) hK
  ·refine ⟨_, rfl, ?_⟩
   have jt470 : Tr ρ243 w241 (fun t => ([14] : List Nat).contains t) ρ243 w241 := (Tr.refl hb.bd).weak (fun _ _ => rfl) rfl rfl
   refine sr_litT (c := law32_Op.c) (ρ := ρ243) (E := 32) (xs := [x_1]) (vs := #[(0, .agg #[.int .i64 x_1.Call, .int .i64 x_1.Until, .int .i64 x_1.Now, str x_1.User, str x_1.Client, v3])]) (cs := #[.int .i64 x_1.Call, .int .i64 x_1.Until, .int .i64 x_1.Now, str x_1.User, str x_1.Client, v3]) (css := [[.int .i64 x_1.Call, .int .i64 x_1.Until, .int .i64 x_1.Now, str x_1.User, str x_1.Client, v3]]) rfl (fun _ => by kernel_rfl) rfl ⟨⟨_, rfl, h4⟩, trivial⟩ rfl (by decide) hb.bd (by decide) ?_
   intro v471 w473 h472 hbw475
   have htr474 := Tr.of_below hbw475 hb.bd
   replace h2 := h2.mv htr474.rd
   replace h204 := h204.mv htr474.rd
   replace h240 := h240.mv (htr474.mv (i := 14) rfl) (by decide)
   replace hB9 := hB9.mv (htr474.mv (i := 6) rfl)
   replace h4 := h4.mv htr474.rd
   replace hb := hb.trans htr474
   replace jt470 := (jt470.trans htr474).weak (J' := (fun t => ([14] : List Nat).contains t)) (by intro t h; simp [rng] at h ⊢ <;> omega) rfl rfl
   refine dj_next (l' := [(0, v1), (2, .int .i64 at_2), (4, .pointer (some ⟨g5, 0, none⟩)), (12, v239), (17, v203), (20, v471)]) rfl (.cons rfl (.cons rfl (.cons rfl (.cons rfl (.cons rfl (.cons rfl (.nil _))))))) jt470 (by intro t h; simp [rng] at h ⊢ <;> omega) rfl rfl ?_
   refine dj_E 6 (by kernel_rfl) rfl ?_
   have jt476 : Tr ρ243 w473 (fun t => ([14] : List Nat).contains t) ρ243 w473 := (Tr.refl hb.bd).weak (fun _ _ => rfl) rfl rfl
   refine sr_appendT (i := 14) (c := law32_Op.c) (ρ := ρ243) (E := 32) (xs := ([] : List law32_Op)) (ys := cut l_0 0 (gmin (l_0.length : Int) 25)) h240 ((SlT.of_sl (i := 0) h204)).x Try.underlying22 Try.info32 rfl rfl rfl (by decide) (by decide) (by decide) hb.bd hk213 rfl rfl (by decide) ?_
   intro v477 ρ479 w480 h478 htr481
   replace h2 := h2.mv htr481.rd
   replace h472 := h472.mv htr481.rd
   replace hB9 := hB9.mv (htr481.mv (i := 6) rfl)
   replace h4 := h4.mv htr481.rd
   replace hb := hb.trans htr481
   replace jt476 := (jt476.trans htr481).weak (J' := (fun t => ([14] : List Nat).contains t)) (by intro t h; simp [rng] at h ⊢ <;> omega) rfl rfl
   refine dj_next (l' := [(0, v1), (2, .int .i64 at_2), (4, .pointer (some ⟨g5, 0, none⟩)), (18, v477), (20, v471)]) rfl (.cons rfl (.cons rfl (.cons rfl (.cons rfl (.cons rfl (.nil _)))))) jt476 (by intro t h; simp [rng] at h ⊢ <;> omega) rfl rfl ?_
   refine dj_E 9 (by kernel_rfl) rfl ?_
   have jt482 : Tr ρ479 w480 (fun t => ([14] : List Nat).contains t) ρ479 w480 := (Tr.refl hb.bd).weak (fun _ _ => rfl) rfl rfl
   refine sr_appendT (i := 14) (c := law32_Op.c) (ρ := ρ479) (E := 32) (xs := ([] : List law32_Op) ++ (cut l_0 0 (gmin (l_0.length : Int) 25))) (ys := ([x_1] : List law32_Op)) h478 ((SlT.of_sl (i := 0) h472)).x Try.underlying22 Try.info32 rfl rfl rfl (by decide) (by decide) (by decide) hb.bd hk226 rfl rfl (by decide) ?_
   intro v483 ρ485 w486 h484 htr487
   replace h2 := h2.mv htr487.rd
   replace hB9 := hB9.mv (htr487.mv (i := 6) rfl)
   replace h4 := h4.mv htr487.rd
   replace hb := hb.trans htr487
   replace jt482 := (jt482.trans htr487).weak (J' := (fun t => ([14] : List Nat).contains t)) (by intro t h; simp [rng] at h ⊢ <;> omega) rfl rfl
   refine dj_next (l' := [(0, v1), (2, .int .i64 at_2), (4, .pointer (some ⟨g5, 0, none⟩)), (21, v483)]) rfl (.cons rfl (.cons rfl (.cons rfl (.cons rfl (.nil _))))) jt482 (by intro t h; simp [rng] at h ⊢ <;> omega) rfl rfl ?_
   refine dj_E 10 (by kernel_rfl) rfl ?_
   have jt488 : Tr ρ485 w486 (fun t => ([14] : List Nat).contains t) ρ485 w486 := (Tr.refl hb.bd).weak (fun _ _ => rfl) rfl rfl
   refine sr_call (vs := [v483]) rfl Try.call8 rfl (law32_light_ok _ (hg.fr hz hb) h484.asSl hy234) (by decide) ?_
   rintro _ w491 ⟨rfl, hbw492⟩
   have htr493 := Tr.of_below hbw492 hb.bd
   replace h2 := h2.mv htr493.rd
   replace hB9 := hB9.mv (htr493.mv (i := 6) rfl)
   replace h4 := h4.mv htr493.rd
   replace hb := hb.trans htr493
   replace jt488 := (jt488.trans htr493).weak (J' := (fun t => ([14] : List Nat).contains t)) (by intro t h; simp [rng] at h ⊢ <;> omega) rfl rfl
   refine dj_next (l' := [(0, v1), (2, .int .i64 at_2), (4, .pointer (some ⟨g5, 0, none⟩)), (22, .bool y233)]) rfl (.cons rfl (.cons rfl (.cons rfl (.cons rfl (.nil _))))) jt488 (by intro t h; simp [rng] at h ⊢ <;> omega) rfl rfl ?_
   refine dj_H 11 (v := .bool (!y233)) (by kernel_rfl) (by kernel_rfl) rfl (fun _ _ _ h => h) (sj_refl hb.bd rfl rfl) (fun w1 ρ1 hw1 => ev_not rfl) (by decide) ?_
   refine dj_done rfl (by kernel_rfl) ?_
   refine ke_weaken (l' := [(0, v1), (2, .int .i64 at_2), (4, .pointer (some ⟨g5, 0, none⟩)), (23, .bool (!y233))]) (.cons rfl (.cons rfl (.cons rfl (.cons rfl (.nil _))))) ?_
   have hK := law32_ConsentGranted_B1_ok hg hbd hz hS hb h2 h4 hB9
   exact ke_weaken (l' := [(0, v1), (2, .int .i64 at_2), (4, .pointer (some ⟨g5, 0, none⟩)), (23, .bool (!y233))]) (.cons rfl (.cons rfl (.cons rfl (.cons rfl (.nil _))))) hK
 ·refine ⟨_, rfl, ?_⟩
  have jt494 : Tr ρ6 w11 (fun t => ([14] : List Nat).contains t) ρ6 w11 := (Tr.refl hb.bd).weak (fun _ _ => rfl) rfl rfl
  refine sr_litT (c := law32_Op.c) (ρ := ρ6) (E := 32) (xs := [x_1]) (vs := #[(0, .agg #[.int .i64 x_1.Call, .int .i64 x_1.Until, .int .i64 x_1.Now, str x_1.User, str x_1.Client, v3])]) (cs := #[.int .i64 x_1.Call, .int .i64 x_1.Until, .int .i64 x_1.Now, str x_1.User, str x_1.Client, v3]) (css := [[.int .i64 x_1.Call, .int .i64 x_1.Until, .int .i64 x_1.Now, str x_1.User, str x_1.Client, v3]]) rfl (fun _ => by kernel_rfl) rfl ⟨⟨_, rfl, h4⟩, trivial⟩ rfl (by decide) hb.bd (by decide) ?_
  intro v495 w497 h496 hbw499
  have htr498 := Tr.of_below hbw499 hb.bd
  replace h2 := h2.mv htr498.rd
  replace h204 := h204.mv htr498.rd
  replace hB9 := hB9.mv (htr498.mv (i := 6) rfl)
  replace h4 := h4.mv htr498.rd
  replace hb := hb.trans htr498
  replace jt494 := (jt494.trans htr498).weak (J' := (fun t => ([14] : List Nat).contains t)) (by intro t h; simp [rng] at h ⊢ <;> omega) rfl rfl
  refine dj_next (l' := [(0, v1), (2, .int .i64 at_2), (4, .pointer (some ⟨g5, 0, none⟩)), (17, v203), (20, v495)]) rfl (.cons rfl (.cons rfl (.cons rfl (.cons rfl (.cons rfl (.nil _)))))) jt494 (by intro t h; simp [rng] at h ⊢ <;> omega) rfl rfl ?_
  refine dj_E 0 (by kernel_rfl) rfl ?_
  have jt500 : Tr ρ6 w497 (fun t => ([14] : List Nat).contains t) ρ6 w497 := (Tr.refl hb.bd).weak (fun _ _ => rfl) rfl rfl
  refine sr_litOwnT (i := 14) (c := law32_Op.c) (ρ := ρ6) (E := 32) (xs := []) (vs := #[]) (cs := #[]) (css := []) rfl (fun _ => by kernel_rfl) rfl trivial rfl (by decide) (by decide) hb.bd (by decide) ?_
  intro v501 ρ505 w503 h502 htr504
  replace h2 := h2.mv htr504.rd
  replace h204 := h204.mv htr504.rd
  replace h496 := h496.mv htr504.rd
  replace hB9 := hB9.mv (htr504.mv (i := 6) rfl)
  replace h4 := h4.mv htr504.rd
  replace hb := hb.trans htr504
  replace jt500 := (jt500.trans htr504).weak (J' := (fun t => ([14] : List Nat).contains t)) (by intro t h; simp [rng] at h ⊢ <;> omega) rfl rfl
  refine dj_next (l' := [(0, v1), (2, .int .i64 at_2), (4, .pointer (some ⟨g5, 0, none⟩)), (12, v501), (17, v203), (20, v495)]) rfl (.cons rfl (.cons rfl (.cons rfl (.cons rfl (.cons rfl (.cons rfl (.nil _))))))) jt500 (by intro t h; simp [rng] at h ⊢ <;> omega) rfl rfl ?_
  refine dj_E 6 (by kernel_rfl) rfl ?_
  have jt506 : Tr ρ505 w503 (fun t => ([14] : List Nat).contains t) ρ505 w503 := (Tr.refl hb.bd).weak (fun _ _ => rfl) rfl rfl
  refine sr_appendT (i := 14) (c := law32_Op.c) (ρ := ρ505) (E := 32) (xs := ([] : List law32_Op)) (ys := cut l_0 0 (gmin (l_0.length : Int) 25)) h502 ((SlT.of_sl (i := 0) h204)).x Try.underlying22 Try.info32 rfl rfl rfl (by decide) (by decide) (by decide) hb.bd hk213 rfl rfl (by decide) ?_
  intro v507 ρ509 w510 h508 htr511
  replace h2 := h2.mv htr511.rd
  replace h496 := h496.mv htr511.rd
  replace hB9 := hB9.mv (htr511.mv (i := 6) rfl)
  replace h4 := h4.mv htr511.rd
  replace hb := hb.trans htr511
  replace jt506 := (jt506.trans htr511).weak (J' := (fun t => ([14] : List Nat).contains t)) (by intro t h; simp [rng] at h ⊢ <;> omega) rfl rfl
  refine dj_next (l' := [(0, v1), (2, .int .i64 at_2), (4, .pointer (some ⟨g5, 0, none⟩)), (18, v507), (20, v495)]) rfl (.cons rfl (.cons rfl (.cons rfl (.cons rfl (.cons rfl (.nil _)))))) jt506 (by intro t h; simp [rng] at h ⊢ <;> omega) rfl rfl ?_
  refine dj_E 9 (by kernel_rfl) rfl ?_
  have jt512 : Tr ρ509 w510 (fun t => ([14] : List Nat).contains t) ρ509 w510 := (Tr.refl hb.bd).weak (fun _ _ => rfl) rfl rfl
  refine sr_appendT (i := 14) (c := law32_Op.c) (ρ := ρ509) (E := 32) (xs := ([] : List law32_Op) ++ (cut l_0 0 (gmin (l_0.length : Int) 25))) (ys := ([x_1] : List law32_Op)) h508 ((SlT.of_sl (i := 0) h496)).x Try.underlying22 Try.info32 rfl rfl rfl (by decide) (by decide) (by decide) hb.bd hk226 rfl rfl (by decide) ?_
  intro v513 ρ515 w516 h514 htr517
  replace h2 := h2.mv htr517.rd
  replace hB9 := hB9.mv (htr517.mv (i := 6) rfl)
  replace h4 := h4.mv htr517.rd
  replace hb := hb.trans htr517
  replace jt512 := (jt512.trans htr517).weak (J' := (fun t => ([14] : List Nat).contains t)) (by intro t h; simp [rng] at h ⊢ <;> omega) rfl rfl
  refine dj_next (l' := [(0, v1), (2, .int .i64 at_2), (4, .pointer (some ⟨g5, 0, none⟩)), (21, v513)]) rfl (.cons rfl (.cons rfl (.cons rfl (.cons rfl (.nil _))))) jt512 (by intro t h; simp [rng] at h ⊢ <;> omega) rfl rfl ?_
  refine dj_E 10 (by kernel_rfl) rfl ?_
  have jt518 : Tr ρ515 w516 (fun t => ([14] : List Nat).contains t) ρ515 w516 := (Tr.refl hb.bd).weak (fun _ _ => rfl) rfl rfl
  refine sr_call (vs := [v513]) rfl Try.call8 rfl (law32_light_ok _ (hg.fr hz hb) h514.asSl hy234) (by decide) ?_
  rintro _ w521 ⟨rfl, hbw522⟩
  have htr523 := Tr.of_below hbw522 hb.bd
  replace h2 := h2.mv htr523.rd
  replace hB9 := hB9.mv (htr523.mv (i := 6) rfl)
  replace h4 := h4.mv htr523.rd
  replace hb := hb.trans htr523
  replace jt518 := (jt518.trans htr523).weak (J' := (fun t => ([14] : List Nat).contains t)) (by intro t h; simp [rng] at h ⊢ <;> omega) rfl rfl
  refine dj_next (l' := [(0, v1), (2, .int .i64 at_2), (4, .pointer (some ⟨g5, 0, none⟩)), (22, .bool y233)]) rfl (.cons rfl (.cons rfl (.cons rfl (.cons rfl (.nil _))))) jt518 (by intro t h; simp [rng] at h ⊢ <;> omega) rfl rfl ?_
  refine dj_H 11 (v := .bool (!y233)) (by kernel_rfl) (by kernel_rfl) rfl (fun _ _ _ h => h) (sj_refl hb.bd rfl rfl) (fun w1 ρ1 hw1 => ev_not rfl) (by decide) ?_
  refine dj_done rfl (by kernel_rfl) ?_
  refine ke_weaken (l' := [(0, v1), (2, .int .i64 at_2), (4, .pointer (some ⟨g5, 0, none⟩)), (23, .bool (!y233))]) (.cons rfl (.cons rfl (.cons rfl (.cons rfl (.nil _))))) ?_
  have hK := law32_ConsentGranted_B1_ok hg hbd hz hS hb h2 h4 hB9
  exact ke_weaken (l' := [(0, v1), (2, .int .i64 at_2), (4, .pointer (some ⟨g5, 0, none⟩)), (23, .bool (!y233))]) (.cons rfl (.cons rfl (.cons rfl (.cons rfl (.nil _))))) hK
end Ytijiipelpgmhpaa
end Go.Proofs
