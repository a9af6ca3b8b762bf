/- Own work: a part of the proofs of this seat. -/
import Derived.Test.YtijiipelpgmhpaaProg
import Derived.Test.YtijiipelpgmhpaaShelf
import Derived.Test.YtijiipelpgmhpaaKwIS
import Derived.KernelRfl
import Derived.Test.YtijiipelpgmhpaaKwIConsentPlaysW1
set_option linter.unusedVariables false
set_option linter.unusedSimpArgs false
set_option linter.unusedSectionVars false
set_option maxHeartbeats 8000000
set_option maxRecDepth 8000
namespace Go.Proofs
namespace Ytijiipelpgmhpaa
open Go Go.KW Go.KW.S Go.RowKit
theorem consent_Consents_Revoke_ok (w0 : World) (hg : Gs w0) {ρA : Tags} (hbd : ∀ b, ρA b ≠ 0 → b < w0.heap.size) (hz : Gz ρA) {o : Nat} (ho2 : 2 ≤ o) {c_0 : consent_Consents} {user_1 : Str} {client_2 : Str} {gc_0 : Nat} {r : Bool × consent_Consents} (ho0 : consent_Consents.O (fun p => o + p) ρA w0 gc_0 c_0) (hS : consent_Consents_Revoke c_0 user_1 client_2 = some r) :
  Calls Try.prog 26 #[.pointer (some ⟨gc_0, 0, none⟩), str user_1, str client_2] w0 (Ret (fun v w' => ∃ ρ', v = .bool r.1 ∧ consent_Consents.O (fun p => o + p) ρ' w' gc_0 r.2 ∧ Tr ρA w0 (rng o 2) ρ' w')) := by
 unfold consent_Consents_Revoke at hS
 have hb := enter_fr (ρ := ρA) (w := w0) (n := 2) ho2 hbd
 have hz := hz.enter (n := 2) ho2
 obtain ⟨v1, hB3, h2⟩ := ho0
 replace hB3 := hB3.mv (enter_mv (p := 0) (n := 2) (by decide) ho2)
 replace h2 := h2.mv (enter_mv (p := 1) (n := 2) (by decide) ho2)
 replace hB3 : Blk (enter ρA o 2) 100 w0 gc_0 (.cells #[v1] 52 (0, 0)) := hB3
 replace h2 : MapT consent_pair.ek (mapC str (intC .i64) false) false (enter ρA o 2) 101 w0 v1 c_0.pairs := h2
 refine calls_of_ke Try.func26 rfl (n := 30) rfl rfl (l := [(0, .pointer (some ⟨gc_0, 0, none⟩)), (1, str user_1), (2, str client_2)]) rfl ?_
 refine ke_seq ?_
 refine ke_region ?_
 refine sr_ev (v := .bool false) (ev_assign rfl) (by decide) ?_
 refine sr_end (l' := [(0, .pointer (some ⟨gc_0, 0, none⟩)), (1, str user_1), (2, str client_2)]) (.cons rfl (.cons rfl (.cons rfl (.nil _)))) ?_
 refine ke_seq ?_
 refine ke_seq ?_
 refine ke_region ?_
 refine sr_ev (v := .pointer (some ⟨gc_0, 0, none⟩)) (ev_move rfl) (by decide) ?_
 refine sr_ev (v := .bool false) (ev_peqT_some Try.underlying25 rfl rfl) (by decide) ?_
 refine sr_end (l' := [(0, .pointer (some ⟨gc_0, 0, none⟩)), (1, str user_1), (2, str client_2), (11, .bool false)]) (.cons rfl (.cons rfl (.cons rfl (.cons rfl (.nil _))))) ?_
 refine ke_cond (t := false) rfl (fun h => by cases h) (fun _ => ?_)
 refine ke_skip ?_
 refine ke_seq ?_
 refine ke_region ?_
 refine sr_ev (v := str user_1) (ev_move rfl) (by decide) ?_
 refine sr_ev (v := str client_2) (ev_move rfl) (by decide) ?_
 refine sr_ev (v := .agg #[str user_1, str client_2]) (ev_build (vs := #[(0, str user_1), (1, str client_2)]) rfl (fun _ => by kernel_rfl)) (by decide) ?_
 refine sr_allocT 9 (by decide) hb.bd Try.zeroValue59 (by decide) ?_
 intro g4 ρ5 w6 hB8 htr7
 replace hB3 := hB3.mv (htr7.mv (i := 100) rfl)
 replace h2 := h2.mv (htr7.mv (i := 101) rfl)
 replace hb := hb.trans htr7
 replace hB8 : Blk ρ5 9 w6 g4 (.cells #[str ([]), str ([])] 59 (0, 0)) := hB8
 refine sr_storeT (v := .agg #[str user_1, str client_2]) (vs := [str user_1, str client_2]) (cs' := #[str user_1, str client_2]) hB8 (by decide) hb.bd rfl rfl rfl Try.sizeOf59 rfl rfl rfl ?_
 intro w9 hB81 htr10
 replace hB3 := hB3.mv (htr10.mv (i := 100) rfl)
 replace h2 := h2.mv (htr10.mv (i := 101) rfl)
 replace hb := hb.trans htr10
 replace hB8 : Blk ρ5 9 w9 g4 (.cells #[str user_1, str client_2] 59 (0, 0)) := hB81
 clear hB81
 refine sr_end (l' := [(0, .pointer (some ⟨gc_0, 0, none⟩)), (7, .pointer (some ⟨g4, 0, none⟩))]) (.cons rfl (.cons rfl (.nil _))) ?_
 refine ke_seq ?_
 refine ke_region_q Try.mixed (by kernel_rfl) ?_
 refine sq_ev (v := .pointer (some ⟨gc_0, 0, none⟩)) (fun w1 hw1 => ev_move rfl) (by decide) ?_
 refine sq_ev (v := .pointer (some ⟨gc_0, 0, none⟩)) (fun w1 hw1 => ev_nilCheck rfl) (by decide) ?_
 refine sq_ev (v := .pointer (some ⟨gc_0, 0, none⟩)) (fun w1 hw1 => ev_fieldAddr (i := 0) Try.underlying52 rfl Try.info50 rfl rfl) (by decide) ?_
 refine sq_ev (v := v1) (fun w1 hw1 => ev_load Try.isAgg50 rfl ((hB3.mv (Mv.of_below (i := 100) (ρ := ρ5) hw1)).cell rfl)) (by decide) ?_
 refine sq_ev (v := .agg #[str user_1, str client_2]) (fun w1 hw1 => ev_loads (cs := [str user_1, str client_2]) Try.isAgg59 Try.sizeOf59 rfl ((hB8.mv (Mv.of_below (i := 9) (ρ := ρ5) hw1)).cells (vs := [str user_1, str client_2]) rfl)) (by decide) ?_
 obtain ⟨y17, hy18, hS⟩ := bind_some' hS
 replace hy18 := Option.some.inj hy18
 obtain ⟨cs13, hrd14, hl15, hl16⟩ := h2.look (zcs := [(.map none)]) (z := (none : GMap Str Int)) Try.keyB59 Try.underlying50 Try.zeroValue71 ⟨_, rfl, MapRd.nil⟩ (consent_pair.mk user_1 client_2)
 rw [hy18] at hrd14
 obtain ⟨v19, hcshrd14, h20⟩ := hrd14
 obtain rfl : cs13 = [v19] := hcshrd14
 refine sq_ev (v := .tuple #[v19, .bool (mhas c_0.pairs (consent_pair.mk user_1 client_2))]) (fun w1 hw1 => hl16 w1 _ _ (Mv.of_below (i := 101) (ρ := ρ5) hw1) rfl rfl) (by decide) ?_
 refine sq_ev (v := .tuple #[v19, .bool (mhas c_0.pairs (consent_pair.mk user_1 client_2))]) (fun w1 hw1 => ev_move rfl) (by decide) ?_
 refine sq_ev (v := v19) (fun w1 hw1 => ev_extract rfl rfl) (by decide) ?_
 refine sq_ev (v := .bool (mhas c_0.pairs (consent_pair.mk user_1 client_2))) (fun w1 hw1 => ev_extract rfl rfl) (by decide) ?_
 refine sq_ev (v := v19) (fun w1 hw1 => ev_assign rfl) (by decide) ?_
 refine sq_ev (v := .bool (mhas c_0.pairs (consent_pair.mk user_1 client_2))) (fun w1 hw1 => ev_assign rfl) (by decide) ?_
 refine sq_end (l' := [(0, .pointer (some ⟨gc_0, 0, none⟩)), (7, .pointer (some ⟨g4, 0, none⟩)), (9, .bool (mhas c_0.pairs (consent_pair.mk user_1 client_2)))]) (.cons rfl (.cons rfl (.cons rfl (.nil _)))) (fun w12 hw11 => ?_)
 have htr21 := Tr.of_below hw11 hb.bd
 replace hB8 := hB8.mv (htr21.mv (i := 9) rfl)
 replace hB3 := hB3.mv (htr21.mv (i := 100) rfl)
 replace h2 := h2.mv (htr21.mv (i := 101) rfl)
 replace hb := hb.trans htr21
 refine ke_seq ?_
 refine ke_region_j (ρ := ρ5) (fun t => ([101] : List Nat).contains t) 6 Try.mixed (fun w23 hw22 => ?_)
 have htr24 := Tr.of_below hw22 hb.bd
 replace hB8 := hB8.mv (htr24.mv (i := 9) rfl)
 replace hB3 := hB3.mv (htr24.mv (i := 100) rfl)
 replace h2 := h2.mv (htr24.mv (i := 101) rfl)
 replace hb := hb.trans htr24
 refine dj_H 0 (v := .pointer (some ⟨gc_0, 0, none⟩)) (by kernel_rfl) (by kernel_rfl) rfl (fun _ _ _ h => h) (sj_refl hb.bd rfl rfl) (fun w1 ρ1 hw1 => ev_move rfl) (by decide) ?_
 refine dj_H 1 (v := .pointer (some ⟨gc_0, 0, none⟩)) (by kernel_rfl) (by kernel_rfl) rfl (fun _ _ _ h => h) (sj_refl hb.bd rfl rfl) (fun w1 ρ1 hw1 => ev_nilCheck rfl) (by decide) ?_
 refine dj_H 2 (v := .pointer (some ⟨gc_0, 0, none⟩)) (by kernel_rfl) (by kernel_rfl) rfl (fun _ _ _ h => h) (sj_refl hb.bd rfl rfl) (fun w1 ρ1 hw1 => ev_fieldAddr (i := 0) Try.underlying52 rfl Try.info50 rfl rfl) (by decide) ?_
 refine dj_H 3 (v := v1) (by kernel_rfl) (by kernel_rfl) rfl (fun _ _ _ h => h) (sj_refl hb.bd rfl rfl) (fun w1 ρ1 hw1 => ev_load Try.isAgg50 rfl ((hB3.mv (hw1.mv (i := 100) rfl)).cell rfl)) (by decide) ?_
 refine dj_H 4 (v := .agg #[str user_1, str client_2]) (by kernel_rfl) (by kernel_rfl) rfl (fun _ _ _ h => h) (sj_refl hb.bd rfl rfl) (fun w1 ρ1 hw1 => ev_loads (cs := [str user_1, str client_2]) Try.isAgg59 Try.sizeOf59 rfl ((hB8.mv (hw1.mv (i := 9) rfl)).cells (vs := [str user_1, str client_2]) rfl)) (by decide) ?_
 refine dj_E 5 (by kernel_rfl) rfl ?_
 have jt32 : Tr ρ5 w23 (fun t => ([101] : List Nat).contains t) ρ5 w23 := (Tr.refl hb.bd).weak (fun _ _ => rfl) rfl rfl
 refine sr_mapDel0 (k := (consent_pair.mk user_1 client_2)) h2 Try.keyB59 Try.underlying50 (by decide) hb.bd rfl rfl ?_
 intro w33 h21 htr34
 replace hB3 := hB3.mv (htr34.mv (i := 100) rfl)
 replace hb := hb.trans htr34
 replace jt32 := (jt32.trans htr34).weak (J' := (fun t => ([101] : List Nat).contains t)) (by intro t h; simp [rng] at h ⊢ <;> omega) rfl rfl
 replace h2 := h21
 clear h21
 refine dj_next (l' := [(9, .bool (mhas c_0.pairs (consent_pair.mk user_1 client_2)))]) rfl (.cons rfl (.nil _)) jt32 (by intro t h; simp [rng] at h ⊢ <;> omega) rfl rfl ?_
 refine dj_done rfl (by kernel_rfl) ?_
 refine ke_weaken (l' := [(9, .bool (mhas c_0.pairs (consent_pair.mk user_1 client_2)))]) (.cons rfl (.nil _)) ?_
 refine ke_seq ?_
 refine ke_region ?_
 refine sr_ev (v := .bool (mhas c_0.pairs (consent_pair.mk user_1 client_2))) (ev_move rfl) (by decide) ?_
 refine sr_ev (v := .bool (mhas c_0.pairs (consent_pair.mk user_1 client_2))) (ev_assign rfl) (by decide) ?_
 refine sr_end (l' := [(6, .bool (mhas c_0.pairs (consent_pair.mk user_1 client_2)))]) (.cons rfl (.nil _)) ?_
 cases hS
 exact ke_ret1 Try.func26 rfl rfl ⟨_, rfl, leave ρA w0 o 2 ρ5, rfl, ⟨_, (hB3.mv (leave_mv (p := 0) (by decide) hb)), (h2.mv (leave_mv (p := 1) (by decide) hb))⟩, (leave_tr ho2 hb)⟩
theorem consent_Consents_Grant__nil_ok (w0 : World) (hg : Gs w0) {ρA : Tags} (hbd : ∀ b, ρA b ≠ 0 → b < w0.heap.size) (hz : Gz ρA) {user_1 : Str} {client_2 : Str} {scopes_3 : List Str} {until_4 : Int} {now_5 : Int} {v1 : Value} {r : Int} (h2 : SlR strC (Wb ρA) w0 v1 scopes_3) (hS : consent_Consents_Grant__nil user_1 client_2 scopes_3 until_4 now_5 = some r) :
  Calls Try.prog 21 #[.pointer none, str user_1, str client_2, v1, .int .i64 until_4, .int .i64 now_5] w0 (Ret (fun v w' => v = .int .i64 r ∧ Below w0.heap.size w0 w')) := by
 unfold consent_Consents_Grant__nil at hS
 have hb := flat1_fr (ρ := ρA) (w := w0) hbd
 have hz := hz.flat1
 replace h2 := SlR.mv h2 flat1_rd
 refine calls_of_ke Try.func21 rfl (n := 115) rfl rfl (l := [(0, .pointer none), (1, str user_1), (2, str client_2), (3, v1), (4, .int .i64 until_4), (5, .int .i64 now_5)]) rfl ?_
 refine ke_seq ?_
 refine ke_region ?_
 refine sr_ev (v := .int .i64 0) (ev_assign rfl) (by decide) ?_
 refine sr_end (l' := [(0, .pointer none), (1, str user_1), (2, str client_2), (3, v1), (4, .int .i64 until_4), (5, .int .i64 now_5)]) (.cons rfl (.cons rfl (.cons rfl (.cons rfl (.cons rfl (.cons rfl (.nil _))))))) ?_
 refine ke_seq ?_
 refine ke_seq ?_
 refine ke_region ?_
 refine sr_ev (v := .pointer none) (ev_move rfl) (by decide) ?_
 refine sr_ev (v := .bool true) (ev_peqT_nil Try.underlying25 rfl rfl) (by decide) ?_
 refine sr_ev (v := .bool true) (ev_move rfl) (by decide) ?_
 refine sr_pass (e := 26) rfl rfl rfl (by decide) ?_
 refine sr_pass (e := 26) rfl rfl rfl (by decide) ?_
 refine sr_pass (e := 26) rfl rfl rfl (by decide) ?_
 refine sr_pass (e := 26) rfl rfl rfl (by decide) ?_
 refine sr_pass (e := 26) rfl rfl rfl (by decide) ?_
 refine sr_ev (v := .bool true) (ev_pick_t rfl rfl rfl) (by decide) ?_
 refine sr_end (l' := [(0, .pointer none), (1, str user_1), (2, str client_2), (3, v1), (4, .int .i64 until_4), (5, .int .i64 now_5), (32, .bool true)]) (.cons rfl (.cons rfl (.cons rfl (.cons rfl (.cons rfl (.cons rfl (.cons rfl (.nil _)))))))) ?_
 refine ke_cond (t := true) rfl (fun _ => ?_) (fun h => by cases h)
 refine ke_seq ?_
 refine ke_region ?_
 refine sr_ev (v := .int .i64 1) (ev_assign rfl) (by decide) ?_
 refine sr_end (l' := [(12, .int .i64 1)]) (.cons rfl (.nil _)) ?_
 cases hS
 exact ke_ret1 Try.func21 rfl rfl ⟨_, rfl, rfl, (hb.below (flat1_le _))⟩
theorem consent_Consents_Covers__nil_ok (w0 : World) (hg : Gs w0) {ρA : Tags} (hbd : ∀ b, ρA b ≠ 0 → b < w0.heap.size) (hz : Gz ρA) {user_1 : Str} {client_2 : Str} {scopes_3 : List Str} {now_4 : Int} {v1 : Value} {r : Bool} (h2 : SlR strC (Wb ρA) w0 v1 scopes_3) (hS : consent_Consents_Covers__nil user_1 client_2 scopes_3 now_4 = some r) :
  Calls Try.prog 25 #[.pointer none, str user_1, str client_2, v1, .int .i64 now_4] w0 (Ret (fun v w' => v = .bool r ∧ Below w0.heap.size w0 w')) := by
 unfold consent_Consents_Covers__nil at hS
 have hb := flat1_fr (ρ := ρA) (w := w0) hbd
 have hz := hz.flat1
 replace h2 := SlR.mv h2 flat1_rd
 refine calls_of_ke Try.func25 rfl (n := 29) rfl rfl (l := [(0, .pointer none), (1, str user_1), (2, str client_2), (3, v1), (4, .int .i64 now_4)]) rfl ?_
 refine ke_seq ?_
 refine ke_region ?_
 refine sr_ev (v := .bool false) (ev_assign rfl) (by decide) ?_
 refine sr_end (l' := [(0, .pointer none), (1, str user_1), (2, str client_2), (3, v1), (4, .int .i64 now_4)]) (.cons rfl (.cons rfl (.cons rfl (.cons rfl (.cons rfl (.nil _)))))) ?_
 refine ke_seq ?_
 refine ke_region ?_
 refine sr_ev (v := .pointer none) (ev_move rfl) (by decide) ?_
 refine sr_ev (v := .bool false) (ev_pneT_nil Try.underlying25 rfl rfl) (by decide) ?_
 refine sr_ev (v := .bool false) (ev_move rfl) (by decide) ?_
 refine sr_pass (e := 13) rfl rfl rfl (by decide) ?_
 refine sr_pass (e := 13) rfl rfl rfl (by decide) ?_
 refine sr_pass (e := 13) rfl rfl rfl (by decide) ?_
 refine sr_pass (e := 13) rfl rfl rfl (by decide) ?_
 refine sr_pass (e := 13) rfl rfl rfl (by decide) ?_
 refine sr_ev (v := .bool false) (ev_pick_f rfl rfl rfl) (by decide) ?_
 refine sr_ev (v := .bool false) (ev_move rfl) (by decide) ?_
 refine sr_pass (e := 20) rfl rfl rfl (by decide) ?_
 refine sr_pass (e := 20) rfl rfl rfl (by decide) ?_
 refine sr_pass (e := 20) rfl rfl rfl (by decide) ?_
 refine sr_pass (e := 20) rfl rfl rfl (by decide) ?_
 refine sr_pass (e := 20) rfl rfl rfl (by decide) ?_
 refine sr_pass (e := 20) rfl rfl rfl (by decide) ?_
 refine sr_pass (e := 20) rfl rfl rfl (by decide) ?_
 refine sr_ev (v := .bool false) (ev_pick_f rfl rfl rfl) (by decide) ?_
 refine sr_ev (v := .bool false) (ev_assign rfl) (by decide) ?_
 refine sr_end (l' := [(10, .bool false)]) (.cons rfl (.nil _)) ?_
 cases hS
 exact ke_ret1 Try.func25 rfl rfl ⟨_, rfl, rfl, (hb.below (flat1_le _))⟩
theorem law32_awake_ok (w0 : World) (hg : Gs w0) {ρA : Tags} (hbd : ∀ b, ρA b ≠ 0 → b < w0.heap.size) (hz : Gz ρA) {r : Bool} (hS : law32_awake = some r) :
  Calls Try.prog 9 #[] w0 (Ret (fun v w' => v = .bool r ∧ Below w0.heap.size w0 w')) := by
 unfold law32_awake at hS
 have hb := flat1_fr (ρ := ρA) (w := w0) hbd
 have hz := hz.flat1
 refine calls_of_ke Try.func9 rfl (n := 87) rfl rfl (l := []) rfl ?_
 refine ke_seq ?_
 refine ke_region ?_
 refine sr_ev (v := .bool false) (ev_assign rfl) (by decide) ?_
 refine sr_end (l' := []) (.nil _) ?_
 refine ke_seq ?_
 refine ke_region ?_
 obtain ⟨y1, hy2, hS⟩ := bind_some' hS
 refine sr_call (vs := []) rfl Try.call10 rfl (consent_New_ok _ (hg.fr hz hb) (ρA := (flat1 ρA)) hb.bd (hz.fr hg hb) (o := 100) (by decide) hy2) (by decide) ?_
 rintro _ w3 ⟨ρ10, g6, rfl, ⟨v7, hB9, h8⟩, htr5⟩
 replace hb := hb.trans htr5
 replace hB9 : Blk ρ10 100 w3 g6 (.cells #[v7] 52 (0, 0)) := hB9
 replace h8 : MapT consent_pair.ek (mapC str (intC .i64) false) false ρ10 101 w3 v7 y1.pairs := h8
 refine sr_ev (v := .pointer (some ⟨g6, 0, none⟩)) (ev_assign rfl) (by decide) ?_
 refine sr_end (l' := [(1, .pointer (some ⟨g6, 0, none⟩))]) (.cons rfl (.nil _)) ?_
 refine ke_seq ?_
 refine ke_seq ?_
 refine ke_region ?_
 refine sr_ev (v := .pointer (some ⟨g6, 0, none⟩)) (ev_move rfl) (by decide) ?_
 refine sr_ev (v := .bool false) (ev_peqT_some Try.underlying25 rfl rfl) (by decide) ?_
 refine sr_end (l' := [(1, .pointer (some ⟨g6, 0, none⟩)), (13, .bool false)]) (.cons rfl (.cons rfl (.nil _))) ?_
 refine ke_cond (t := false) rfl (fun h => by cases h) (fun _ => ?_)
 refine ke_skip ?_
 refine ke_seq ?_
 refine ke_region ?_
 refine sr_ev (v := .pointer (some ⟨g6, 0, none⟩)) (ev_move rfl) (by decide) ?_
 refine sr_litT (c := strC) (ρ := ρ10) (E := 9) (xs := [[109, 97, 105, 108]]) (vs := #[(0, str ([109, 97, 105, 108]))]) (cs := #[str ([109, 97, 105, 108])]) (css := [[str ([109, 97, 105, 108])]]) rfl (fun _ => by kernel_rfl) rfl ⟨rfl, trivial⟩ rfl (by decide) hb.bd (by decide) ?_
 intro v11 w13 h12 hbw15
 have htr14 := Tr.of_below hbw15 hb.bd
 replace hB9 := hB9.mv (htr14.mv (i := 100) rfl)
 replace h8 := h8.mv (htr14.mv (i := 101) rfl)
 replace hb := hb.trans htr14
 obtain ⟨y16, hy17, hS⟩ := bind_some' hS
 refine sr_call (vs := [.pointer (some ⟨g6, 0, none⟩), str ([97, 110, 110]), str ([119, 101, 98]), v11, .int .i64 10, .int .i64 0]) rfl Try.call21 rfl (consent_Consents_Grant_ok _ (hg.fr hz hb) (ρA := ρ10) hb.bd (hz.fr hg hb) (o := 100) (by decide) h12 (⟨_, hB9, h8⟩ : consent_Consents.O (fun p => 100 + p) ρ10 w13 g6 y1) hy17) (by decide) ?_
 rintro _ w18 ⟨ρ24, rfl, ⟨v21, hB23, h22⟩, htr20⟩
 replace hb := hb.trans htr20
 replace hB23 : Blk ρ24 100 w18 g6 (.cells #[v21] 52 (0, 0)) := hB23
 replace h22 : MapT consent_pair.ek (mapC str (intC .i64) false) false ρ24 101 w18 v21 y16.2.pairs := h22
 refine sr_ev (v := .int .i64 y16.1) (ev_assign rfl) (by decide) ?_
 refine sr_end (l' := [(1, .pointer (some ⟨g6, 0, none⟩)), (2, .int .i64 y16.1)]) (.cons rfl (.cons rfl (.nil _))) ?_
 refine ke_seq ?_
 refine ke_region ?_
 refine sr_ev (v := .pointer (some ⟨g6, 0, none⟩)) (ev_move rfl) (by decide) ?_
 refine sr_litT (c := strC) (ρ := ρ24) (E := 9) (xs := [[109, 97, 105, 108]]) (vs := #[(0, str ([109, 97, 105, 108]))]) (cs := #[str ([109, 97, 105, 108])]) (css := [[str ([109, 97, 105, 108])]]) rfl (fun _ => by kernel_rfl) rfl ⟨rfl, trivial⟩ rfl (by decide) hb.bd (by decide) ?_
 intro v25 w27 h26 hbw29
 have htr28 := Tr.of_below hbw29 hb.bd
 replace hB23 := hB23.mv (htr28.mv (i := 100) rfl)
 replace h22 := h22.mv (htr28.mv (i := 101) rfl)
 replace hb := hb.trans htr28
 obtain ⟨y30, hy31, hS⟩ := bind_some' hS
 refine sr_call (vs := [.pointer (some ⟨g6, 0, none⟩), str ([97, 110, 110]), str ([119, 101, 98]), v25, .int .i64 5, .int .i64 0]) rfl Try.call21 rfl (consent_Consents_Grant_ok _ (hg.fr hz hb) (ρA := ρ24) hb.bd (hz.fr hg hb) (o := 100) (by decide) h26 (⟨_, hB23, h22⟩ : consent_Consents.O (fun p => 100 + p) ρ24 w27 g6 y16.2) hy31) (by decide) ?_
 rintro _ w32 ⟨ρ38, rfl, ⟨v35, hB37, h36⟩, htr34⟩
 replace hb := hb.trans htr34
 replace hB37 : Blk ρ38 100 w32 g6 (.cells #[v35] 52 (0, 0)) := hB37
 replace h36 : MapT consent_pair.ek (mapC str (intC .i64) false) false ρ38 101 w32 v35 y30.2.pairs := h36
 refine sr_ev (v := .int .i64 y30.1) (ev_assign rfl) (by decide) ?_
 refine sr_end (l' := [(1, .pointer (some ⟨g6, 0, none⟩)), (2, .int .i64 y16.1), (3, .int .i64 y30.1)]) (.cons rfl (.cons rfl (.cons rfl (.nil _)))) ?_
 refine ke_seq ?_
 refine ke_region ?_
 refine sr_ev (v := .pointer (some ⟨g6, 0, none⟩)) (ev_move rfl) (by decide) ?_
 refine sr_litT (c := strC) (ρ := ρ38) (E := 9) (xs := [[97]]) (vs := #[(0, str ([97]))]) (cs := #[str ([97])]) (css := [[str ([97])]]) rfl (fun _ => by kernel_rfl) rfl ⟨rfl, trivial⟩ rfl (by decide) hb.bd (by decide) ?_
 intro v39 w41 h40 hbw43
 have htr42 := Tr.of_below hbw43 hb.bd
 replace hB37 := hB37.mv (htr42.mv (i := 100) rfl)
 replace h36 := h36.mv (htr42.mv (i := 101) rfl)
 replace hb := hb.trans htr42
 obtain ⟨y44, hy45, hS⟩ := bind_some' hS
 refine sr_call (vs := [.pointer (some ⟨g6, 0, none⟩), str ([97, 110, 110]), str ([97, 112, 112]), v39, .int .i64 3, .int .i64 3]) rfl Try.call21 rfl (consent_Consents_Grant_ok _ (hg.fr hz hb) (ρA := ρ38) hb.bd (hz.fr hg hb) (o := 100) (by decide) h40 (⟨_, hB37, h36⟩ : consent_Consents.O (fun p => 100 + p) ρ38 w41 g6 y30.2) hy45) (by decide) ?_
 rintro _ w46 ⟨ρ52, rfl, ⟨v49, hB51, h50⟩, htr48⟩
 replace hb := hb.trans htr48
 replace hB51 : Blk ρ52 100 w46 g6 (.cells #[v49] 52 (0, 0)) := hB51
 replace h50 : MapT consent_pair.ek (mapC str (intC .i64) false) false ρ52 101 w46 v49 y44.2.pairs := h50
 refine sr_ev (v := .int .i64 y44.1) (ev_assign rfl) (by decide) ?_
 refine sr_end (l' := [(1, .pointer (some ⟨g6, 0, none⟩)), (2, .int .i64 y16.1), (3, .int .i64 y30.1), (4, .int .i64 y44.1)]) (.cons rfl (.cons rfl (.cons rfl (.cons rfl (.nil _))))) ?_
 refine ke_seq ?_
 refine ke_region ?_
 refine sr_ev (v := .pointer (some ⟨g6, 0, none⟩)) (ev_move rfl) (by decide) ?_
 obtain ⟨y53, hy54, hS⟩ := bind_some' hS
 refine sr_call (vs := [.pointer (some ⟨g6, 0, none⟩), str ([97, 110, 110]), str ([119, 101, 98]), .int .i64 9]) rfl Try.call17 rfl (consent_Consents_Scopes_ok _ (hg.fr hz hb) (ρA := ρ52) hb.bd (hz.fr hg hb) (τ0 := (fun p => 100 + p)) (fun p => Nat.le_add_right_of_le (by decide)) (⟨_, hB51, h50⟩ : consent_Consents.O (fun p => 100 + p) ρ52 w46 g6 y44.2) hy54) (by decide) ?_
 rintro v58 w55 ⟨_, rfl, h59, hbw56⟩
 have htr57 := Tr.of_below hbw56 hb.bd
 replace hB51 := hB51.mv (htr57.mv (i := 100) rfl)
 replace h50 := h50.mv (htr57.mv (i := 101) rfl)
 replace hb := hb.trans htr57
 refine sr_ev (v := v58) (ev_assign rfl) (by decide) ?_
 refine sr_end (l' := [(1, .pointer (some ⟨g6, 0, none⟩)), (2, .int .i64 y16.1), (3, .int .i64 y30.1), (4, .int .i64 y44.1), (5, v58)]) (.cons rfl (.cons rfl (.cons rfl (.cons rfl (.cons rfl (.nil _)))))) ?_
 refine ke_seq ?_
 refine ke_region ?_
 refine sr_ev (v := .pointer (some ⟨g6, 0, none⟩)) (ev_move rfl) (by decide) ?_
 refine sr_litT (c := strC) (ρ := ρ52) (E := 9) (xs := [[109, 97, 105, 108, 46, 114, 101, 97, 100]]) (vs := #[(0, str ([109, 97, 105, 108, 46, 114, 101, 97, 100]))]) (cs := #[str ([109, 97, 105, 108, 46, 114, 101, 97, 100])]) (css := [[str ([109, 97, 105, 108, 46, 114, 101, 97, 100])]]) rfl (fun _ => by kernel_rfl) rfl ⟨rfl, trivial⟩ rfl (by decide) hb.bd (by decide) ?_
 intro v60 w62 h61 hbw64
 have htr63 := Tr.of_below hbw64 hb.bd
 replace h59 := h59.mv htr63.rd
 replace hB51 := hB51.mv (htr63.mv (i := 100) rfl)
 replace h50 := h50.mv (htr63.mv (i := 101) rfl)
 replace hb := hb.trans htr63
 obtain ⟨y65, hy66, hS⟩ := bind_some' hS
 refine sr_call (vs := [.pointer (some ⟨g6, 0, none⟩), str ([97, 110, 110]), str ([119, 101, 98]), v60, .int .i64 9]) rfl Try.call25 rfl (consent_Consents_Covers_ok _ (hg.fr hz hb) (ρA := ρ52) hb.bd (hz.fr hg hb) (τ0 := (fun p => 100 + p)) (fun p => Nat.le_add_right_of_le (by decide)) h61 (⟨_, hB51, h50⟩ : consent_Consents.O (fun p => 100 + p) ρ52 w62 g6 y44.2) hy66) (by decide) ?_
 rintro _ w67 ⟨rfl, hbw68⟩
 have htr69 := Tr.of_below hbw68 hb.bd
 replace h59 := h59.mv htr69.rd
 replace hB51 := hB51.mv (htr69.mv (i := 100) rfl)
 replace h50 := h50.mv (htr69.mv (i := 101) rfl)
 replace hb := hb.trans htr69
 refine sr_ev (v := .bool y65) (ev_assign rfl) (by decide) ?_
 refine sr_end (l' := [(1, .pointer (some ⟨g6, 0, none⟩)), (2, .int .i64 y16.1), (3, .int .i64 y30.1), (4, .int .i64 y44.1), (5, v58), (6, .bool y65)]) (.cons rfl (.cons rfl (.cons rfl (.cons rfl (.cons rfl (.cons rfl (.nil _))))))) ?_
 refine ke_seq ?_
 refine ke_region ?_
 refine sr_ev (v := .pointer (some ⟨g6, 0, none⟩)) (ev_move rfl) (by decide) ?_
 refine sr_litT (c := strC) (ρ := ρ52) (E := 9) (xs := [[109, 97, 105, 108, 46, 114, 101, 97, 100]]) (vs := #[(0, str ([109, 97, 105, 108, 46, 114, 101, 97, 100]))]) (cs := #[str ([109, 97, 105, 108, 46, 114, 101, 97, 100])]) (css := [[str ([109, 97, 105, 108, 46, 114, 101, 97, 100])]]) rfl (fun _ => by kernel_rfl) rfl ⟨rfl, trivial⟩ rfl (by decide) hb.bd (by decide) ?_
 intro v70 w72 h71 hbw74
 have htr73 := Tr.of_below hbw74 hb.bd
 replace h59 := h59.mv htr73.rd
 replace hB51 := hB51.mv (htr73.mv (i := 100) rfl)
 replace h50 := h50.mv (htr73.mv (i := 101) rfl)
 replace hb := hb.trans htr73
 obtain ⟨y75, hy76, hS⟩ := bind_some' hS
 refine sr_call (vs := [.pointer (some ⟨g6, 0, none⟩), str ([97, 110, 110]), str ([119, 101, 98]), v70, .int .i64 10]) rfl Try.call25 rfl (consent_Consents_Covers_ok _ (hg.fr hz hb) (ρA := ρ52) hb.bd (hz.fr hg hb) (τ0 := (fun p => 100 + p)) (fun p => Nat.le_add_right_of_le (by decide)) h71 (⟨_, hB51, h50⟩ : consent_Consents.O (fun p => 100 + p) ρ52 w72 g6 y44.2) hy76) (by decide) ?_
 rintro _ w77 ⟨rfl, hbw78⟩
 have htr79 := Tr.of_below hbw78 hb.bd
 replace h59 := h59.mv htr79.rd
 replace hB51 := hB51.mv (htr79.mv (i := 100) rfl)
 replace h50 := h50.mv (htr79.mv (i := 101) rfl)
 replace hb := hb.trans htr79
 refine sr_ev (v := .bool y75) (ev_assign rfl) (by decide) ?_
 refine sr_end (l' := [(1, .pointer (some ⟨g6, 0, none⟩)), (2, .int .i64 y16.1), (3, .int .i64 y30.1), (4, .int .i64 y44.1), (5, v58), (6, .bool y65), (7, .bool y75)]) (.cons rfl (.cons rfl (.cons rfl (.cons rfl (.cons rfl (.cons rfl (.cons rfl (.nil _)))))))) ?_
 refine ke_seq ?_
 refine ke_region ?_
 refine sr_ev (v := .pointer (some ⟨g6, 0, none⟩)) (ev_move rfl) (by decide) ?_
 obtain ⟨y80, hy81, hS⟩ := bind_some' hS
 refine sr_call (vs := [.pointer (some ⟨g6, 0, none⟩), str ([97, 110, 110]), .int .i64 9]) rfl Try.call19 rfl (consent_Consents_Clients_ok _ (hg.fr hz hb) (ρA := ρ52) hb.bd (hz.fr hg hb) (τ0 := (fun p => 100 + p)) (fun p => Nat.le_add_right_of_le (by decide)) (⟨_, hB51, h50⟩ : consent_Consents.O (fun p => 100 + p) ρ52 w77 g6 y44.2) hy81) (by decide) ?_
 rintro v85 w82 ⟨_, rfl, h86, hbw83⟩
 have htr84 := Tr.of_below hbw83 hb.bd
 replace h59 := h59.mv htr84.rd
 replace hB51 := hB51.mv (htr84.mv (i := 100) rfl)
 replace h50 := h50.mv (htr84.mv (i := 101) rfl)
 replace hb := hb.trans htr84
 refine sr_ev (v := v85) (ev_assign rfl) (by decide) ?_
 refine sr_end (l' := [(1, .pointer (some ⟨g6, 0, none⟩)), (2, .int .i64 y16.1), (3, .int .i64 y30.1), (4, .int .i64 y44.1), (5, v58), (6, .bool y65), (7, .bool y75), (8, v85)]) (.cons rfl (.cons rfl (.cons rfl (.cons rfl (.cons rfl (.cons rfl (.cons rfl (.cons rfl (.nil _))))))))) ?_
 refine ke_seq ?_
 refine ke_region ?_
 refine sr_ev (v := .pointer (some ⟨g6, 0, none⟩)) (ev_move rfl) (by decide) ?_
 obtain ⟨y87, hy88, hS⟩ := bind_some' hS
 refine sr_call (vs := [.pointer (some ⟨g6, 0, none⟩), str ([97, 110, 110])]) rfl Try.call27 rfl (consent_Consents_Drop_ok _ (hg.fr hz hb) (ρA := ρ52) hb.bd (hz.fr hg hb) (o := 100) (by decide) (⟨_, hB51, h50⟩ : consent_Consents.O (fun p => 100 + p) ρ52 w82 g6 y44.2) hy88) (by decide) ?_
 rintro _ w89 ⟨ρ95, rfl, ⟨v92, hB94, h93⟩, htr91⟩
 replace h59 := h59.mv htr91.rd
 replace h86 := h86.mv htr91.rd
 replace hb := hb.trans htr91
 replace hB94 : Blk ρ95 100 w89 g6 (.cells #[v92] 52 (0, 0)) := hB94
 replace h93 : MapT consent_pair.ek (mapC str (intC .i64) false) false ρ95 101 w89 v92 y87.2.pairs := h93
 refine sr_ev (v := .int .i64 y87.1) (ev_assign rfl) (by decide) ?_
 refine sr_end (l' := [(1, .pointer (some ⟨g6, 0, none⟩)), (2, .int .i64 y16.1), (3, .int .i64 y30.1), (4, .int .i64 y44.1), (5, v58), (6, .bool y65), (7, .bool y75), (8, v85), (9, .int .i64 y87.1)]) (.cons rfl (.cons rfl (.cons rfl (.cons rfl (.cons rfl (.cons rfl (.cons rfl (.cons rfl (.cons rfl (.nil _)))))))))) ?_
 refine ke_seq ?_
 refine ke_region ?_
 refine sr_ev (v := .pointer none) (ev_assign rfl) (by decide) ?_
 refine sr_end (l' := [(1, .pointer (some ⟨g6, 0, none⟩)), (2, .int .i64 y16.1), (3, .int .i64 y30.1), (4, .int .i64 y44.1), (5, v58), (6, .bool y65), (7, .bool y75), (8, v85), (9, .int .i64 y87.1), (10, .pointer none)]) (.cons rfl (.cons rfl (.cons rfl (.cons rfl (.cons rfl (.cons rfl (.cons rfl (.cons rfl (.cons rfl (.cons rfl (.nil _))))))))))) ?_
 refine ke_seq ?_
 refine ke_region ?_
 refine sr_ev (v := .int .i64 y16.1) (ev_move rfl) (by decide) ?_
 refine sr_ev (v := .bool (y16.1 == 0)) (ev_eq rfl rfl) (by decide) ?_
 refine sr_ev (v := .bool (y16.1 == 0)) (ev_move rfl) (by decide) ?_
 refine sr_join (m := 3) (C := fun (x : Bool) w1 => x = ((y16.1 == 0) && (y30.1 == 0)) ∧ w89 = w1) (l' := fun x => [(1, .pointer (some ⟨g6, 0, none⟩)), (4, .int .i64 y44.1), (5, v58), (6, .bool y65), (7, .bool y75), (8, v85), (9, .int .i64 y87.1), (10, .pointer none), (40, .bool x)]) ?_ ?_
 ·rintro _ _ ⟨rfl, rfl⟩
  refine sr_ev (v := .bool ((y16.1 == 0) && (y30.1 == 0))) (ev_move rfl) (by decide) ?_
  refine sr_join (m := 3) (C := fun (x : Bool) w1 => x = (((y16.1 == 0) && (y30.1 == 0)) && (y44.1 == 13)) ∧ w89 = w1) (l' := fun x => [(1, .pointer (some ⟨g6, 0, none⟩)), (5, v58), (6, .bool y65), (7, .bool y75), (8, v85), (9, .int .i64 y87.1), (10, .pointer none), (44, .bool x)]) ?_ ?_
  ·rintro _ _ ⟨rfl, rfl⟩
   refine sr_ev (v := .bool (((y16.1 == 0) && (y30.1 == 0)) && (y44.1 == 13))) (ev_move rfl) (by decide) ?_
   obtain ⟨z114, hz116, hS⟩ := bind_some' hS
   refine sr_join (m := 4) (C := fun (z : Bool) w1 => z114 = z ∧ ∃ ρ1, Tr ρ95 w89 (fun _ => false) ρ1 w1) (l' := fun z => [(1, .pointer (some ⟨g6, 0, none⟩)), (6, .bool y65), (7, .bool y75), (8, v85), (9, .int .i64 y87.1), (10, .pointer none), (49, .bool z)]) ?_ ?_
   ·rintro _ w117 ⟨rfl, ρ118, hj115⟩
    replace h86 := h86.mv hj115.rd
    replace hB94 := hB94.mv (hj115.mv (i := 100) rfl)
    replace h93 := h93.mv (hj115.mv (i := 101) rfl)
    replace hb := hb.trans hj115
    refine sr_ev (v := .bool z114) (ev_move rfl) (by decide) ?_
    refine sr_join (m := 2) (C := fun (x : Bool) w1 => x = (z114 && y65) ∧ w117 = w1) (l' := fun x => [(1, .pointer (some ⟨g6, 0, none⟩)), (7, .bool y75), (8, v85), (9, .int .i64 y87.1), (10, .pointer none), (52, .bool x)]) ?_ ?_
    ·rintro _ _ ⟨rfl, rfl⟩
     refine sr_ev (v := .bool (z114 && y65)) (ev_move rfl) (by decide) ?_
     refine sr_join (m := 3) (C := fun (x : Bool) w1 => x = ((z114 && y65) && (!y75)) ∧ w117 = w1) (l' := fun x => [(1, .pointer (some ⟨g6, 0, none⟩)), (8, v85), (9, .int .i64 y87.1), (10, .pointer none), (56, .bool x)]) ?_ ?_
     ·rintro _ _ ⟨rfl, rfl⟩
      refine sr_ev (v := .bool ((z114 && y65) && (!y75))) (ev_move rfl) (by decide) ?_
      obtain ⟨z148, hz150, hS⟩ := bind_some' hS
      refine sr_join (m := 4) (C := fun (z : Bool) w1 => z148 = z ∧ ∃ ρ1, Tr ρ118 w117 (fun _ => false) ρ1 w1) (l' := fun z => [(1, .pointer (some ⟨g6, 0, none⟩)), (9, .int .i64 y87.1), (10, .pointer none), (61, .bool z)]) ?_ ?_
      ·rintro _ w151 ⟨rfl, ρ152, hj149⟩
       replace hB94 := hB94.mv (hj149.mv (i := 100) rfl)
       replace h93 := h93.mv (hj149.mv (i := 101) rfl)
       replace hb := hb.trans hj149
       refine sr_ev (v := .bool z148) (ev_move rfl) (by decide) ?_
       refine sr_join (m := 3) (C := fun (x : Bool) w1 => x = (z148 && (y87.1 == 1)) ∧ w151 = w1) (l' := fun x => [(1, .pointer (some ⟨g6, 0, none⟩)), (10, .pointer none), (65, .bool x)]) ?_ ?_
       ·rintro _ _ ⟨rfl, rfl⟩
        refine sr_ev (v := .bool (z148 && (y87.1 == 1))) (ev_move rfl) (by decide) ?_
        obtain ⟨z174, hz176, hS⟩ := bind_some' hS
        refine sr_join (m := 4) (C := fun (z : Bool) w1 => z174 = z ∧ ∃ ρ1, Tr ρ152 w151 (fun _ => false) ρ1 w1) (l' := fun z => [(1, .pointer (some ⟨g6, 0, none⟩)), (10, .pointer none), (70, .bool z)]) ?_ ?_
        ·rintro _ w177 ⟨rfl, ρ178, hj175⟩
         replace hB94 := hB94.mv (hj175.mv (i := 100) rfl)
         replace h93 := h93.mv (hj175.mv (i := 101) rfl)
         replace hb := hb.trans hj175
         refine sr_ev (v := .bool z174) (ev_move rfl) (by decide) ?_
         obtain ⟨z187, hz189, hS⟩ := bind_some' hS
         refine sr_join (m := 4) (C := fun (z : Bool × consent_Consents) w1 => z187 = z ∧ ∃ ρ1, consent_Consents.O (fun p => 100 + p) ρ1 w1 g6 z.2 ∧ Tr ρ178 w177 (fun t => ([100, 101] : List Nat).contains t) ρ1 w1) (l' := fun z => [(10, .pointer none), (75, .bool z.1)]) ?_ ?_
         ·rintro _ w190 ⟨rfl, ρ191, ⟨v202, hB204, h203⟩, hj188⟩
          replace hb := hb.trans hj188
          replace hB204 : Blk ρ191 100 w190 g6 (.cells #[v202] 52 (0, 0)) := hB204
          replace h203 : MapT consent_pair.ek (mapC str (intC .i64) false) false ρ191 101 w190 v202 z187.2.pairs := h203
          refine sr_ev (v := .bool z187.1) (ev_move rfl) (by decide) ?_
          obtain ⟨z207, hz209, hS⟩ := bind_some' hS
          refine sr_join (m := 5) (C := fun (z : Bool) w1 => z207 = z ∧ ∃ ρ1, Tr ρ191 w190 (fun _ => false) ρ1 w1) (l' := fun z => [(10, .pointer none), (81, .bool z)]) ?_ ?_
          ·rintro _ w210 ⟨rfl, ρ211, hj208⟩
           replace hb := hb.trans hj208
           refine sr_ev (v := .bool z207) (ev_move rfl) (by decide) ?_
           obtain ⟨z225, hz227, hS⟩ := bind_some' hS
           refine sr_join (m := 4) (C := fun (z : Bool) w1 => z225 = z ∧ ∃ ρ1, Tr ρ211 w210 (fun _ => false) ρ1 w1) (l' := fun z => [(86, .bool z)]) ?_ ?_
           ·rintro _ w228 ⟨rfl, ρ229, hj226⟩
            replace hb := hb.trans hj226
            refine sr_ev (v := .bool z225) (ev_assign rfl) (by decide) ?_
            refine sr_end (l' := [(0, .bool z225)]) (.cons rfl (.nil _)) ?_
            cases hS
            exact ke_ret1 Try.func9 rfl rfl ⟨_, rfl, rfl, (hb.below (flat1_le _))⟩
           ·intro K224
            clear hS
            have hj226 : Tr ρ211 w210 (fun _ => false) ρ211 w210 := (Tr.refl hb.bd).weak (fun _ _ => rfl) rfl rfl
            rcases Bool.eq_false_or_eq_true z207 with hg223 | hg223
            ·have hS := ite_true' hz227 hg223
             refine sr_evg (b := true) (e := 82) rfl rfl hg223 (v := .pointer none) (ev_move rfl) (by decide) ?_
             obtain ⟨y231, hy232, hS⟩ := bind_some' hS
             obtain rfl : y231 = false := (Option.some.inj hy232).symm
             refine sr_callg (b := true) (e := 82) rfl rfl hg223 (vs := [.pointer none, str ([97, 110, 110]), str ([119, 101, 98]), (.slice none 0 0), .int .i64 0]) rfl Try.call25 rfl (consent_Consents_Covers__nil_ok _ (hg.fr hz hb) (ρA := ρ211) hb.bd (hz.fr hg hb) (SlR.nil (A := Wb ρ211)) hy232) (by decide) ?_
             rintro _ w233 ⟨rfl, hbw234⟩
             have htr235 := Tr.of_below hbw234 hb.bd
             replace hb := hb.trans htr235
             replace hj226 := (hj226.trans htr235).weak (J' := (fun _ => false)) (by intro t h; simp [rng] at h ⊢ <;> omega) rfl rfl
             refine sr_evg (b := true) (e := 82) rfl rfl hg223 (v := .bool true) (ev_notc rfl rfl) (by decide) ?_
             refine sr_ev (v := .bool true) (ev_pick_t rfl hg223 rfl) (by decide) ?_
             exact sr_weaken (l' := [(86, .bool true)]) (.cons rfl (.nil _)) (K224 true _ ⟨(Option.some.inj hS).symm, _, hj226⟩)
            ·have hS := ite_false' hz227 hg223
             refine sr_pass (e := 82) rfl rfl (by rw [hg223]; rfl) (by decide) ?_
             refine sr_pass (e := 82) rfl rfl (by rw [hg223]; rfl) (by decide) ?_
             refine sr_pass (e := 82) rfl rfl (by rw [hg223]; rfl) (by decide) ?_
             refine sr_ev (v := .bool false) (ev_pick_f rfl hg223 rfl) (by decide) ?_
             exact sr_weaken (l' := [(86, .bool false)]) (.cons rfl (.nil _)) (K224 false _ ⟨(Option.some.inj hS).symm, _, hj226⟩)
          ·intro K206
           clear hS
           have hj208 : Tr ρ191 w190 (fun _ => false) ρ191 w190 := (Tr.refl hb.bd).weak (fun _ _ => rfl) rfl rfl
           rcases Bool.eq_false_or_eq_true z187.1 with hg205 | hg205
           ·have hS := ite_true' hz209 hg205
            refine sr_evg (b := true) (e := 76) rfl rfl hg205 (v := .pointer none) (ev_move rfl) (by decide) ?_
            refine sr_unguard rfl rfl hg205 ?_
            refine sr_litT (c := strC) (ρ := ρ191) (E := 9) (xs := [[97]]) (vs := #[(0, str ([97]))]) (cs := #[str ([97])]) (css := [[str ([97])]]) rfl (fun _ => by kernel_rfl) rfl ⟨rfl, trivial⟩ rfl (by decide) hb.bd (by decide) ?_
            intro v213 w215 h214 hbw217
            have htr216 := Tr.of_below hbw217 hb.bd
            replace hb := hb.trans htr216
            replace hj208 := (hj208.trans htr216).weak (J' := (fun _ => false)) (by intro t h; simp [rng] at h ⊢ <;> omega) rfl rfl
            obtain ⟨y218, hy219, hS⟩ := bind_some' hS
            refine sr_callg (b := true) (e := 76) rfl rfl hg205 (vs := [.pointer none, str ([97, 110, 110]), str ([119, 101, 98]), v213, .int .i64 5, .int .i64 0]) rfl Try.call21 rfl (consent_Consents_Grant__nil_ok _ (hg.fr hz hb) (ρA := ρ191) hb.bd (hz.fr hg hb) h214 hy219) (by decide) ?_
            rintro _ w220 ⟨rfl, hbw221⟩
            have htr222 := Tr.of_below hbw221 hb.bd
            replace hb := hb.trans htr222
            replace hj208 := (hj208.trans htr222).weak (J' := (fun _ => false)) (by intro t h; simp [rng] at h ⊢ <;> omega) rfl rfl
            refine sr_evg (b := true) (e := 76) rfl rfl hg205 (v := .bool (y218 == 1)) (ev_eq rfl rfl) (by decide) ?_
            refine sr_ev (v := .bool (y218 == 1)) (ev_pick_t rfl hg205 rfl) (by decide) ?_
            exact sr_weaken (l' := [(10, .pointer none), (81, .bool (y218 == 1))]) (.cons rfl (.cons rfl (.nil _))) (K206 (y218 == 1) _ ⟨(Option.some.inj hS).symm, _, hj208⟩)
           ·have hS := ite_false' hz209 hg205
            refine sr_pass (e := 76) rfl rfl (by rw [hg205]; rfl) (by decide) ?_
            refine sr_pass (e := 76) rfl rfl (by rw [hg205]; rfl) (by decide) ?_
            refine sr_pass (e := 76) rfl rfl (by rw [hg205]; rfl) (by decide) ?_
            refine sr_pass (e := 76) rfl rfl (by rw [hg205]; rfl) (by decide) ?_
            refine sr_ev (v := .bool false) (ev_pick_f rfl hg205 rfl) (by decide) ?_
            exact sr_weaken (l' := [(10, .pointer none), (81, .bool false)]) (.cons rfl (.cons rfl (.nil _))) (K206 false _ ⟨(Option.some.inj hS).symm, _, hj208⟩)
         ·intro K186
          clear hS
          have hj188 : Tr ρ178 w177 (fun t => ([100, 101] : List Nat).contains t) ρ178 w177 := (Tr.refl hb.bd).weak (fun _ _ => rfl) rfl rfl
          rcases Bool.eq_false_or_eq_true z174 with hg185 | hg185
          ·have hS := ite_true' hz189 hg185
           refine sr_evg (b := true) (e := 71) rfl rfl hg185 (v := .pointer (some ⟨g6, 0, none⟩)) (ev_move rfl) (by decide) ?_
           obtain ⟨y193, hy194, hS⟩ := bind_some' hS
           refine sr_callg (b := true) (e := 71) rfl rfl hg185 (vs := [.pointer (some ⟨g6, 0, none⟩), str ([97, 110, 110]), str ([119, 101, 98])]) rfl Try.call26 rfl (consent_Consents_Revoke_ok _ (hg.fr hz hb) (ρA := ρ178) hb.bd (hz.fr hg hb) (o := 100) (by decide) (⟨_, hB94, h93⟩ : consent_Consents.O (fun p => 100 + p) ρ178 w177 g6 y87.2) hy194) (by decide) ?_
           rintro _ w195 ⟨ρ201, rfl, ⟨v198, hB200, h199⟩, htr197⟩
           replace hb := hb.trans htr197
           replace hj188 := (hj188.trans htr197).weak (J' := (fun t => ([100, 101] : List Nat).contains t)) (by intro t h; simp [rng] at h ⊢ <;> omega) rfl rfl
           replace hB200 : Blk ρ201 100 w195 g6 (.cells #[v198] 52 (0, 0)) := hB200
           replace h199 : MapT consent_pair.ek (mapC str (intC .i64) false) false ρ201 101 w195 v198 y193.2.pairs := h199
           refine sr_evg (b := true) (e := 71) rfl rfl hg185 (v := .bool (!y193.1)) (ev_not rfl) (by decide) ?_
           refine sr_ev (v := .bool (!y193.1)) (ev_pick_t rfl hg185 rfl) (by decide) ?_
           exact sr_weaken (l' := [(10, .pointer none), (75, .bool (!y193.1))]) (.cons rfl (.cons rfl (.nil _))) (K186 (!y193.1, y193.2) _ ⟨(Option.some.inj hS).symm, _, ⟨_, hB200, h199⟩, hj188⟩)
          ·have hS := ite_false' hz189 hg185
           refine sr_pass (e := 71) rfl rfl (by rw [hg185]; rfl) (by decide) ?_
           refine sr_pass (e := 71) rfl rfl (by rw [hg185]; rfl) (by decide) ?_
           refine sr_pass (e := 71) rfl rfl (by rw [hg185]; rfl) (by decide) ?_
           refine sr_ev (v := .bool false) (ev_pick_f rfl hg185 rfl) (by decide) ?_
           exact sr_weaken (l' := [(10, .pointer none), (75, .bool false)]) (.cons rfl (.cons rfl (.nil _))) (K186 (false, y87.2) _ ⟨(Option.some.inj hS).symm, _, ⟨_, hB94, h93⟩, hj188⟩)
        ·intro K173
         clear hS
         have hj175 : Tr ρ152 w151 (fun _ => false) ρ152 w151 := (Tr.refl hb.bd).weak (fun _ _ => rfl) rfl rfl
         rcases Bool.eq_false_or_eq_true (z148 && (y87.1 == 1)) with hg172 | hg172
         ·have hS := ite_true' hz176 hg172
          refine sr_evg (b := true) (e := 66) rfl rfl hg172 (v := .pointer (some ⟨g6, 0, none⟩)) (ev_move rfl) (by decide) ?_
          obtain ⟨y180, hy181, hS⟩ := bind_some' hS
          refine sr_callg (b := true) (e := 66) rfl rfl hg172 (vs := [.pointer (some ⟨g6, 0, none⟩)]) rfl Try.call14 rfl (consent_Consents_Len_ok _ (hg.fr hz hb) (ρA := ρ152) hb.bd (hz.fr hg hb) (τ0 := (fun p => 100 + p)) (fun p => Nat.le_add_right_of_le (by decide)) (⟨_, hB94, h93⟩ : consent_Consents.O (fun p => 100 + p) ρ152 w151 g6 y87.2) hy181) (by decide) ?_
          rintro _ w182 ⟨rfl, hbw183⟩
          have htr184 := Tr.of_below hbw183 hb.bd
          replace hB94 := hB94.mv (htr184.mv (i := 100) rfl)
          replace h93 := h93.mv (htr184.mv (i := 101) rfl)
          replace hb := hb.trans htr184
          replace hj175 := (hj175.trans htr184).weak (J' := (fun _ => false)) (by intro t h; simp [rng] at h ⊢ <;> omega) rfl rfl
          refine sr_evg (b := true) (e := 66) rfl rfl hg172 (v := .bool (y180 == 0)) (ev_eq rfl rfl) (by decide) ?_
          refine sr_ev (v := .bool (y180 == 0)) (ev_pick_t rfl hg172 rfl) (by decide) ?_
          exact sr_weaken (l' := [(1, .pointer (some ⟨g6, 0, none⟩)), (10, .pointer none), (70, .bool (y180 == 0))]) (.cons rfl (.cons rfl (.cons rfl (.nil _)))) (K173 (y180 == 0) _ ⟨(Option.some.inj hS).symm, _, hj175⟩)
         ·have hS := ite_false' hz176 hg172
          refine sr_pass (e := 66) rfl rfl (by rw [hg172]; rfl) (by decide) ?_
          refine sr_pass (e := 66) rfl rfl (by rw [hg172]; rfl) (by decide) ?_
          refine sr_pass (e := 66) rfl rfl (by rw [hg172]; rfl) (by decide) ?_
          refine sr_ev (v := .bool false) (ev_pick_f rfl hg172 rfl) (by decide) ?_
          exact sr_weaken (l' := [(1, .pointer (some ⟨g6, 0, none⟩)), (10, .pointer none), (70, .bool false)]) (.cons rfl (.cons rfl (.cons rfl (.nil _)))) (K173 false _ ⟨(Option.some.inj hS).symm, _, hj175⟩)
       ·intro K165
        rcases Bool.eq_false_or_eq_true z148 with hg164 | hg164
        all_goals try have hj167 : Tr ρ152 w151 (fun _ => false) ρ152 w151 := Tr.refl hb.bd
        ·refine sr_evg (b := true) (e := 62) rfl rfl hg164 (v := .int .i64 y87.1) (ev_move rfl) (by decide) ?_
         refine sr_evg (b := true) (e := 62) rfl rfl hg164 (v := .bool (y87.1 == 1)) (ev_eq rfl rfl) (by decide) ?_
         refine sr_ev (v := .bool (y87.1 == 1)) (ev_pick_t rfl hg164 rfl) (by decide) ?_
         exact sr_weaken (l' := [(1, .pointer (some ⟨g6, 0, none⟩)), (10, .pointer none), (65, .bool (y87.1 == 1))]) (.cons rfl (.cons rfl (.cons rfl (.nil _)))) (K165 (y87.1 == 1) _ ⟨by rw [hg164]; rfl, rfl⟩)
        ·refine sr_pass (e := 62) rfl rfl (by rw [hg164]; rfl) (by decide) ?_
         refine sr_pass (e := 62) rfl rfl (by rw [hg164]; rfl) (by decide) ?_
         refine sr_ev (v := .bool false) (ev_pick_f rfl hg164 rfl) (by decide) ?_
         exact sr_weaken (l' := [(1, .pointer (some ⟨g6, 0, none⟩)), (10, .pointer none), (65, .bool false)]) (.cons rfl (.cons rfl (.cons rfl (.nil _)))) (K165 false _ ⟨by rw [hg164]; rfl, rfl⟩)
      ·intro K147
       clear hS
       have hj149 : Tr ρ118 w117 (fun _ => false) ρ118 w117 := (Tr.refl hb.bd).weak (fun _ _ => rfl) rfl rfl
       rcases Bool.eq_false_or_eq_true ((z114 && y65) && (!y75)) with hg146 | hg146
       ·have hS := ite_true' hz150 hg146
        refine sr_evg (b := true) (e := 57) rfl rfl hg146 (v := v85) (ev_move rfl) (by decide) ?_
        refine sr_unguard rfl rfl hg146 ?_
        refine sr_litT (c := strC) (ρ := ρ118) (E := 9) (xs := [[119, 101, 98]]) (vs := #[(0, str ([119, 101, 98]))]) (cs := #[str ([119, 101, 98])]) (css := [[str ([119, 101, 98])]]) rfl (fun _ => by kernel_rfl) rfl ⟨rfl, trivial⟩ rfl (by decide) hb.bd (by decide) ?_
        intro v154 w156 h155 hbw158
        have htr157 := Tr.of_below hbw158 hb.bd
        replace h86 := h86.mv htr157.rd
        replace hB94 := hB94.mv (htr157.mv (i := 100) rfl)
        replace h93 := h93.mv (htr157.mv (i := 101) rfl)
        replace hb := hb.trans htr157
        replace hj149 := (hj149.trans htr157).weak (J' := (fun _ => false)) (by intro t h; simp [rng] at h ⊢ <;> omega) rfl rfl
        obtain ⟨y159, hy160, hS⟩ := bind_some' hS
        refine sr_callg (b := true) (e := 57) rfl rfl hg146 (vs := [v85, v154]) rfl Try.call16 rfl (ref03_Same_ok _ (hg.fr hz hb) h86.asSl h155.asSl hy160) (by decide) ?_
        rintro _ w161 ⟨rfl, hbw162⟩
        have htr163 := Tr.of_below hbw162 hb.bd
        replace hB94 := hB94.mv (htr163.mv (i := 100) rfl)
        replace h93 := h93.mv (htr163.mv (i := 101) rfl)
        replace hb := hb.trans htr163
        replace hj149 := (hj149.trans htr163).weak (J' := (fun _ => false)) (by intro t h; simp [rng] at h ⊢ <;> omega) rfl rfl
        refine sr_ev (v := .bool y159) (ev_pick_t rfl hg146 rfl) (by decide) ?_
        exact sr_weaken (l' := [(1, .pointer (some ⟨g6, 0, none⟩)), (9, .int .i64 y87.1), (10, .pointer none), (61, .bool y159)]) (.cons rfl (.cons rfl (.cons rfl (.cons rfl (.nil _))))) (K147 y159 _ ⟨(Option.some.inj hS).symm, _, hj149⟩)
       ·have hS := ite_false' hz150 hg146
        refine sr_pass (e := 57) rfl rfl (by rw [hg146]; rfl) (by decide) ?_
        refine sr_pass (e := 57) rfl rfl (by rw [hg146]; rfl) (by decide) ?_
        refine sr_pass (e := 57) rfl rfl (by rw [hg146]; rfl) (by decide) ?_
        refine sr_ev (v := .bool false) (ev_pick_f rfl hg146 rfl) (by decide) ?_
        exact sr_weaken (l' := [(1, .pointer (some ⟨g6, 0, none⟩)), (9, .int .i64 y87.1), (10, .pointer none), (61, .bool false)]) (.cons rfl (.cons rfl (.cons rfl (.cons rfl (.nil _))))) (K147 false _ ⟨(Option.some.inj hS).symm, _, hj149⟩)
     ·intro K139
      rcases Bool.eq_false_or_eq_true (z114 && y65) with hg138 | hg138
      all_goals try have hj141 : Tr ρ118 w117 (fun _ => false) ρ118 w117 := Tr.refl hb.bd
      ·refine sr_evg (b := true) (e := 53) rfl rfl hg138 (v := .bool y75) (ev_move rfl) (by decide) ?_
       refine sr_evg (b := true) (e := 53) rfl rfl hg138 (v := .bool (!y75)) (ev_not rfl) (by decide) ?_
       refine sr_ev (v := .bool (!y75)) (ev_pick_t rfl hg138 rfl) (by decide) ?_
       exact sr_weaken (l' := [(1, .pointer (some ⟨g6, 0, none⟩)), (8, v85), (9, .int .i64 y87.1), (10, .pointer none), (56, .bool (!y75))]) (.cons rfl (.cons rfl (.cons rfl (.cons rfl (.cons rfl (.nil _)))))) (K139 (!y75) _ ⟨by rw [hg138]; rfl, rfl⟩)
      ·refine sr_pass (e := 53) rfl rfl (by rw [hg138]; rfl) (by decide) ?_
       refine sr_pass (e := 53) rfl rfl (by rw [hg138]; rfl) (by decide) ?_
       refine sr_ev (v := .bool false) (ev_pick_f rfl hg138 rfl) (by decide) ?_
       exact sr_weaken (l' := [(1, .pointer (some ⟨g6, 0, none⟩)), (8, v85), (9, .int .i64 y87.1), (10, .pointer none), (56, .bool false)]) (.cons rfl (.cons rfl (.cons rfl (.cons rfl (.cons rfl (.nil _)))))) (K139 false _ ⟨by rw [hg138]; rfl, rfl⟩)
    ·intro K131
     rcases Bool.eq_false_or_eq_true z114 with hg130 | hg130
     all_goals try have hj133 : Tr ρ118 w117 (fun _ => false) ρ118 w117 := Tr.refl hb.bd
     ·refine sr_evg (b := true) (e := 50) rfl rfl hg130 (v := .bool y65) (ev_move rfl) (by decide) ?_
      refine sr_ev (v := .bool y65) (ev_pick_t rfl hg130 rfl) (by decide) ?_
      exact sr_weaken (l' := [(1, .pointer (some ⟨g6, 0, none⟩)), (7, .bool y75), (8, v85), (9, .int .i64 y87.1), (10, .pointer none), (52, .bool y65)]) (.cons rfl (.cons rfl (.cons rfl (.cons rfl (.cons rfl (.cons rfl (.nil _))))))) (K131 y65 _ ⟨by rw [hg130]; rfl, rfl⟩)
     ·refine sr_pass (e := 50) rfl rfl (by rw [hg130]; rfl) (by decide) ?_
      refine sr_ev (v := .bool false) (ev_pick_f rfl hg130 rfl) (by decide) ?_
      exact sr_weaken (l' := [(1, .pointer (some ⟨g6, 0, none⟩)), (7, .bool y75), (8, v85), (9, .int .i64 y87.1), (10, .pointer none), (52, .bool false)]) (.cons rfl (.cons rfl (.cons rfl (.cons rfl (.cons rfl (.cons rfl (.nil _))))))) (K131 false _ ⟨by rw [hg130]; rfl, rfl⟩)
   ·intro K113
    clear hS
    have hj115 : Tr ρ95 w89 (fun _ => false) ρ95 w89 := (Tr.refl hb.bd).weak (fun _ _ => rfl) rfl rfl
    rcases Bool.eq_false_or_eq_true (((y16.1 == 0) && (y30.1 == 0)) && (y44.1 == 13)) with hg112 | hg112
    ·have hS := ite_true' hz116 hg112
     refine sr_evg (b := true) (e := 45) rfl rfl hg112 (v := v58) (ev_move rfl) (by decide) ?_
     refine sr_unguard rfl rfl hg112 ?_
     refine sr_litT (c := strC) (ρ := ρ95) (E := 9) (xs := [[109, 97, 105, 108]]) (vs := #[(0, str ([109, 97, 105, 108]))]) (cs := #[str ([109, 97, 105, 108])]) (css := [[str ([109, 97, 105, 108])]]) rfl (fun _ => by kernel_rfl) rfl ⟨rfl, trivial⟩ rfl (by decide) hb.bd (by decide) ?_
     intro v120 w122 h121 hbw124
     have htr123 := Tr.of_below hbw124 hb.bd
     replace h86 := h86.mv htr123.rd
     replace h59 := h59.mv htr123.rd
     replace hB94 := hB94.mv (htr123.mv (i := 100) rfl)
     replace h93 := h93.mv (htr123.mv (i := 101) rfl)
     replace hb := hb.trans htr123
     replace hj115 := (hj115.trans htr123).weak (J' := (fun _ => false)) (by intro t h; simp [rng] at h ⊢ <;> omega) rfl rfl
     obtain ⟨y125, hy126, hS⟩ := bind_some' hS
     refine sr_callg (b := true) (e := 45) rfl rfl hg112 (vs := [v58, v120]) rfl Try.call16 rfl (ref03_Same_ok _ (hg.fr hz hb) h59.asSl h121.asSl hy126) (by decide) ?_
     rintro _ w127 ⟨rfl, hbw128⟩
     have htr129 := Tr.of_below hbw128 hb.bd
     replace h86 := h86.mv htr129.rd
     replace hB94 := hB94.mv (htr129.mv (i := 100) rfl)
     replace h93 := h93.mv (htr129.mv (i := 101) rfl)
     replace hb := hb.trans htr129
     replace hj115 := (hj115.trans htr129).weak (J' := (fun _ => false)) (by intro t h; simp [rng] at h ⊢ <;> omega) rfl rfl
     refine sr_ev (v := .bool y125) (ev_pick_t rfl hg112 rfl) (by decide) ?_
     exact sr_weaken (l' := [(1, .pointer (some ⟨g6, 0, none⟩)), (6, .bool y65), (7, .bool y75), (8, v85), (9, .int .i64 y87.1), (10, .pointer none), (49, .bool y125)]) (.cons rfl (.cons rfl (.cons rfl (.cons rfl (.cons rfl (.cons rfl (.cons rfl (.nil _)))))))) (K113 y125 _ ⟨(Option.some.inj hS).symm, _, hj115⟩)
    ·have hS := ite_false' hz116 hg112
     refine sr_pass (e := 45) rfl rfl (by rw [hg112]; rfl) (by decide) ?_
     refine sr_pass (e := 45) rfl rfl (by rw [hg112]; rfl) (by decide) ?_
     refine sr_pass (e := 45) rfl rfl (by rw [hg112]; rfl) (by decide) ?_
     refine sr_ev (v := .bool false) (ev_pick_f rfl hg112 rfl) (by decide) ?_
     exact sr_weaken (l' := [(1, .pointer (some ⟨g6, 0, none⟩)), (6, .bool y65), (7, .bool y75), (8, v85), (9, .int .i64 y87.1), (10, .pointer none), (49, .bool false)]) (.cons rfl (.cons rfl (.cons rfl (.cons rfl (.cons rfl (.cons rfl (.cons rfl (.nil _)))))))) (K113 false _ ⟨(Option.some.inj hS).symm, _, hj115⟩)
  ·intro K105
   rcases Bool.eq_false_or_eq_true ((y16.1 == 0) && (y30.1 == 0)) with hg104 | hg104
   all_goals try have hj107 : Tr ρ95 w89 (fun _ => false) ρ95 w89 := Tr.refl hb.bd
   ·refine sr_evg (b := true) (e := 41) rfl rfl hg104 (v := .int .i64 y44.1) (ev_move rfl) (by decide) ?_
    refine sr_evg (b := true) (e := 41) rfl rfl hg104 (v := .bool (y44.1 == 13)) (ev_eq rfl rfl) (by decide) ?_
    refine sr_ev (v := .bool (y44.1 == 13)) (ev_pick_t rfl hg104 rfl) (by decide) ?_
    exact sr_weaken (l' := [(1, .pointer (some ⟨g6, 0, none⟩)), (5, v58), (6, .bool y65), (7, .bool y75), (8, v85), (9, .int .i64 y87.1), (10, .pointer none), (44, .bool (y44.1 == 13))]) (.cons rfl (.cons rfl (.cons rfl (.cons rfl (.cons rfl (.cons rfl (.cons rfl (.cons rfl (.nil _))))))))) (K105 (y44.1 == 13) _ ⟨by rw [hg104]; rfl, rfl⟩)
   ·refine sr_pass (e := 41) rfl rfl (by rw [hg104]; rfl) (by decide) ?_
    refine sr_pass (e := 41) rfl rfl (by rw [hg104]; rfl) (by decide) ?_
    refine sr_ev (v := .bool false) (ev_pick_f rfl hg104 rfl) (by decide) ?_
    exact sr_weaken (l' := [(1, .pointer (some ⟨g6, 0, none⟩)), (5, v58), (6, .bool y65), (7, .bool y75), (8, v85), (9, .int .i64 y87.1), (10, .pointer none), (44, .bool false)]) (.cons rfl (.cons rfl (.cons rfl (.cons rfl (.cons rfl (.cons rfl (.cons rfl (.cons rfl (.nil _))))))))) (K105 false _ ⟨by rw [hg104]; rfl, rfl⟩)
 ·intro K97
  rcases Bool.eq_false_or_eq_true (y16.1 == 0) with hg96 | hg96
  all_goals try have hj99 : Tr ρ95 w89 (fun _ => false) ρ95 w89 := Tr.refl hb.bd
  ·refine sr_evg (b := true) (e := 37) rfl rfl hg96 (v := .int .i64 y30.1) (ev_move rfl) (by decide) ?_
   refine sr_evg (b := true) (e := 37) rfl rfl hg96 (v := .bool (y30.1 == 0)) (ev_eq rfl rfl) (by decide) ?_
   refine sr_ev (v := .bool (y30.1 == 0)) (ev_pick_t rfl hg96 rfl) (by decide) ?_
   exact sr_weaken (l' := [(1, .pointer (some ⟨g6, 0, none⟩)), (4, .int .i64 y44.1), (5, v58), (6, .bool y65), (7, .bool y75), (8, v85), (9, .int .i64 y87.1), (10, .pointer none), (40, .bool (y30.1 == 0))]) (.cons rfl (.cons rfl (.cons rfl (.cons rfl (.cons rfl (.cons rfl (.cons rfl (.cons rfl (.cons rfl (.nil _)))))))))) (K97 (y30.1 == 0) _ ⟨by rw [hg96]; rfl, rfl⟩)
  ·refine sr_pass (e := 37) rfl rfl (by rw [hg96]; rfl) (by decide) ?_
   refine sr_pass (e := 37) rfl rfl (by rw [hg96]; rfl) (by decide) ?_
   refine sr_ev (v := .bool false) (ev_pick_f rfl hg96 rfl) (by decide) ?_
   exact sr_weaken (l' := [(1, .pointer (some ⟨g6, 0, none⟩)), (4, .int .i64 y44.1), (5, v58), (6, .bool y65), (7, .bool y75), (8, v85), (9, .int .i64 y87.1), (10, .pointer none), (40, .bool false)]) (.cons rfl (.cons rfl (.cons rfl (.cons rfl (.cons rfl (.cons rfl (.cons rfl (.cons rfl (.cons rfl (.nil _)))))))))) (K97 false _ ⟨by rw [hg96]; rfl, rfl⟩)
theorem ref32_New_ok (w0 : World) (hg : Gs w0) {ρA : Tags} (hbd : ∀ b, ρA b ≠ 0 → b < w0.heap.size) (hz : Gz ρA) {o : Nat} (ho2 : 2 ≤ o) {r : ref32_Consents} (hS : ref32_New = some r) :
  Calls Try.prog 11 #[] w0 (Ret (fun v w' => ∃ ρ' zr0, v = .pointer (some ⟨zr0, 0, none⟩) ∧ ref32_Consents.O (fun p => o + p) ρ' w' zr0 r ∧ Tr ρA w0 (rng o 2) ρ' w')) := by
 unfold ref32_New at hS
 have hb := enter_fr (ρ := ρA) (w := w0) (n := 2) ho2 hbd
 have hz := hz.enter (n := 2) ho2
 refine calls_of_ke Try.func11 rfl (n := 3) rfl rfl (l := []) rfl ?_
 refine ke_seq ?_
 refine ke_region ?_
 refine sr_ev (v := .pointer none) (ev_assign rfl) (by decide) ?_
 refine sr_end (l' := []) (.nil _) ?_
 refine ke_seq ?_
 refine ke_region ?_
 refine sr_ev (v := .agg #[.bool true, (.slice none 0 0)]) (ev_build (vs := #[(0, .bool true)]) rfl (fun _ => by kernel_rfl)) (by decide) ?_
 refine sr_boxT 100 (by decide) hb.bd rfl (by decide) ?_
 intro g1 ρ2 w3 hB5 htr4
 replace hb := hb.trans htr4
 replace hB5 : Blk ρ2 100 w3 g1 (.cells #[.bool true, (.slice none 0 0)] 55 (0, 0)) := hB5
 refine sr_ev (v := .pointer (some ⟨g1, 0, none⟩)) (ev_assign rfl) (by decide) ?_
 refine sr_end (l' := [(0, .pointer (some ⟨g1, 0, none⟩))]) (.cons rfl (.nil _)) ?_
 cases hS
 exact ke_ret1 Try.func11 rfl rfl ⟨_, rfl, leave ρA w0 o 2 ρ2, _, rfl, ⟨_, (hB5.mv (leave_mv (p := 0) (by decide) hb)), OwnT.nil⟩, (leave_tr ho2 hb)⟩
theorem law32_yes_ok (w0 : World) (hg : Gs w0) {b_0 : Bool} {r : Int} (hS : law32_yes b_0 = some r) :
  Calls Try.prog 28 #[.bool b_0] w0 (Ret (fun v w' => v = .int .i64 r ∧ Below w0.heap.size w0 w')) := by
 unfold law32_yes at hS
 have hb := Below.refl w0.heap.size w0
 refine calls_of_ke Try.func28 rfl (n := 4) rfl rfl (l := [(0, .bool b_0)]) rfl ?_
 refine ke_seq ?_
 refine ke_region ?_
 refine sr_ev (v := .int .i64 0) (ev_assign rfl) (by decide) ?_
 refine sr_end (l' := [(0, .bool b_0)]) (.cons rfl (.nil _)) ?_
 refine ke_seq ?_
 refine ke_seq ?_
 refine ke_region ?_
 refine sr_ev (v := .bool b_0) (ev_move rfl) (by decide) ?_
 refine sr_end (l' := [(3, .bool b_0)]) (.cons rfl (.nil _)) ?_
 refine ke_cond (t := b_0) rfl (fun hc1 => ?_) (fun hc1 => ?_)
 ·replace hS := ite_true' hS hc1
  refine ke_seq ?_
  refine ke_region ?_
  refine sr_ev (v := .int .i64 1) (ev_assign rfl) (by decide) ?_
  refine sr_end (l' := [(2, .int .i64 1)]) (.cons rfl (.nil _)) ?_
  cases hS
  exact ke_ret1 Try.func28 rfl rfl ⟨_, rfl, rfl, hb⟩
 ·replace hS := ite_false' hS hc1
  refine ke_skip ?_
  refine ke_seq ?_
  refine ke_region ?_
  refine sr_ev (v := .int .i64 0) (ev_assign rfl) (by decide) ?_
  refine sr_end (l' := [(2, .int .i64 0)]) (.cons rfl (.nil _)) ?_
  cases hS
  exact ke_ret1 Try.func28 rfl rfl ⟨_, rfl, rfl, hb⟩
theorem law32_do_ok (w0 : World) (hg : Gs w0) {ρA : Tags} (hbd : ∀ b, ρA b ≠ 0 → b < w0.heap.size) (hz : Gz ρA) {o : Nat} (ho2 : 2 ≤ o) {c_0 : consent_Consents} {x_1 : law32_Op} {v4 : Value} {gc_0 : Nat} {r : Int × consent_Consents} (h5 : SlR strC (Wb ρA) w0 v4 x_1.Scopes) (ho0 : consent_Consents.O (fun p => o + p) ρA w0 gc_0 c_0) (hS : law32_do c_0 x_1 = some r) :
  Calls Try.prog 12 #[.pointer (some ⟨gc_0, 0, none⟩), .agg #[.int .i64 x_1.Call, .int .i64 x_1.Until, .int .i64 x_1.Now, str x_1.User, str x_1.Client, v4]] w0 (Ret (fun v w' => ∃ ρ', v = .int .i64 r.1 ∧ consent_Consents.O (fun p => o + p) ρ' w' gc_0 r.2 ∧ Tr ρA w0 (rng o 2) ρ' w')) := by
 unfold law32_do at hS
 have hb := enter_fr (ρ := ρA) (w := w0) (n := 2) ho2 hbd
 have hz := hz.enter (n := 2) ho2
 replace h5 := SlR.mv h5 (enter_rd (n := 2) ho2)
 obtain ⟨v1, hB3, h2⟩ := ho0
 replace hB3 := hB3.mv (enter_mv (p := 0) (n := 2) (by decide) ho2)
 replace h2 := h2.mv (enter_mv (p := 1) (n := 2) (by decide) ho2)
 replace hB3 : Blk (enter ρA o 2) 100 w0 gc_0 (.cells #[v1] 52 (0, 0)) := hB3
 replace h2 : MapT consent_pair.ek (mapC str (intC .i64) false) false (enter ρA o 2) 101 w0 v1 c_0.pairs := h2
 refine calls_of_ke Try.func12 rfl (n := 47) rfl rfl (l := [(0, .pointer (some ⟨gc_0, 0, none⟩)), (1, .agg #[.int .i64 x_1.Call, .int .i64 x_1.Until, .int .i64 x_1.Now, str x_1.User, str x_1.Client, v4])]) rfl ?_
 refine ke_seq ?_
 refine ke_region ?_
 refine sr_boxT 5 (by decide) hb.bd rfl (by decide) ?_
 intro g6 ρ7 w8 hB10 htr9
 replace h5 := h5.mv htr9.rd
 replace hB3 := hB3.mv (htr9.mv (i := 100) rfl)
 replace h2 := h2.mv (htr9.mv (i := 101) rfl)
 replace hb := hb.trans htr9
 replace hB10 : Blk ρ7 5 w8 g6 (.cells #[.int .i64 x_1.Call, .int .i64 x_1.Until, .int .i64 x_1.Now, str x_1.User, str x_1.Client, v4] 32 (0, 0)) := hB10
 refine sr_ev (v := .int .i64 0) (ev_assign rfl) (by decide) ?_
 refine sr_end (l' := [(0, .pointer (some ⟨gc_0, 0, none⟩)), (3, .pointer (some ⟨g6, 0, none⟩))]) (.cons rfl (.cons rfl (.nil _))) ?_
 refine ke_seq ?_
 refine ke_seq ?_
 refine ke_region ?_
 refine sr_ev (v := .pointer (some ⟨g6, 0, none⟩)) (ev_fieldAddr (i := 0) Try.underlying32 rfl Try.info3 rfl rfl) (by decide) ?_
 refine sr_ev (v := .int .i64 x_1.Call) (ev_load Try.isAgg3 rfl (hB10.cell rfl)) (by decide) ?_
 refine sr_end (l' := [(0, .pointer (some ⟨gc_0, 0, none⟩)), (3, .pointer (some ⟨g6, 0, none⟩)), (6, .int .i64 x_1.Call)]) (.cons rfl (.cons rfl (.cons rfl (.nil _)))) ?_
 refine ke_block ?_
 refine ke_seq ?_
 refine ke_region ?_
 refine sr_ev (v := .bool (x_1.Call == 0)) (ev_eq rfl rfl) (by decide) ?_
 refine sr_ev (v := .bool (x_1.Call == 0)) (ev_assign rfl) (by decide) ?_
 refine sr_end (l' := [(0, .pointer (some ⟨gc_0, 0, none⟩)), (3, .pointer (some ⟨g6, 0, none⟩)), (6, .int .i64 x_1.Call), (7, .bool (x_1.Call == 0))]) (.cons rfl (.cons rfl (.cons rfl (.cons rfl (.nil _))))) ?_
 refine ke_cond (t := x_1.Call == 0) rfl (fun hc11 => ?_) (fun hc11 => ?_)
 ·replace hS := ite_true' hS hc11
  refine ke_seq ?_
  refine ke_region ?_
  refine sr_ev (v := .pointer (some ⟨gc_0, 0, none⟩)) (ev_move rfl) (by decide) ?_
  refine sr_ev (v := .pointer (some ⟨g6, 3, none⟩)) (ev_fieldAddr (i := 3) Try.underlying32 rfl Try.info9 rfl rfl) (by decide) ?_
  refine sr_ev (v := str x_1.User) (ev_load Try.isAgg9 rfl (hB10.cell rfl)) (by decide) ?_
  refine sr_ev (v := .pointer (some ⟨g6, 4, none⟩)) (ev_fieldAddr (i := 4) Try.underlying32 rfl Try.info9 rfl rfl) (by decide) ?_
  refine sr_ev (v := str x_1.Client) (ev_load Try.isAgg9 rfl (hB10.cell rfl)) (by decide) ?_
  refine sr_ev (v := .pointer (some ⟨g6, 5, none⟩)) (ev_fieldAddr (i := 5) Try.underlying32 rfl Try.info30 rfl rfl) (by decide) ?_
  refine sr_ev (v := v4) (ev_load Try.isAgg30 rfl (hB10.cell rfl)) (by decide) ?_
  refine sr_ev (v := .pointer (some ⟨g6, 1, none⟩)) (ev_fieldAddr (i := 1) Try.underlying32 rfl Try.info3 rfl rfl) (by decide) ?_
  refine sr_ev (v := .int .i64 x_1.Until) (ev_load Try.isAgg3 rfl (hB10.cell rfl)) (by decide) ?_
  refine sr_ev (v := .pointer (some ⟨g6, 2, none⟩)) (ev_fieldAddr (i := 2) Try.underlying32 rfl Try.info3 rfl rfl) (by decide) ?_
  refine sr_ev (v := .int .i64 x_1.Now) (ev_load Try.isAgg3 rfl (hB10.cell rfl)) (by decide) ?_
  obtain ⟨y12, hy13, hS⟩ := bind_some' hS
  refine sr_call (vs := [.pointer (some ⟨gc_0, 0, none⟩), str x_1.User, str x_1.Client, v4, .int .i64 x_1.Until, .int .i64 x_1.Now]) rfl Try.call21 rfl (consent_Consents_Grant_ok _ (hg.fr hz hb) (ρA := ρ7) hb.bd (hz.fr hg hb) (o := 100) (by decide) h5 (⟨_, hB3, h2⟩ : consent_Consents.O (fun p => 100 + p) ρ7 w8 gc_0 c_0) hy13) (by decide) ?_
  rintro _ w14 ⟨ρ20, rfl, ⟨v17, hB19, h18⟩, htr16⟩
  replace hb := hb.trans htr16
  replace hB19 : Blk ρ20 100 w14 gc_0 (.cells #[v17] 52 (0, 0)) := hB19
  replace h18 : MapT consent_pair.ek (mapC str (intC .i64) false) false ρ20 101 w14 v17 y12.2.pairs := h18
  refine sr_ev (v := .int .i64 y12.1) (ev_assign rfl) (by decide) ?_
  refine sr_end (l' := [(4, .int .i64 y12.1)]) (.cons rfl (.nil _)) ?_
  cases hS
  exact ke_ret1 Try.func12 rfl rfl ⟨_, rfl, leave ρA w0 o 2 ρ20, rfl, ⟨_, (hB19.mv (leave_mv (p := 0) (by decide) hb)), (h18.mv (leave_mv (p := 1) (by decide) hb))⟩, (leave_tr ho2 hb)⟩
 ·replace hS := ite_false' hS hc11
  refine ke_seq ?_
  refine ke_region ?_
  refine sr_ev (v := .bool (x_1.Call == 1)) (ev_eq rfl rfl) (by decide) ?_
  refine sr_ev (v := .bool (x_1.Call == 1)) (ev_assign rfl) (by decide) ?_
  refine sr_end (l' := [(0, .pointer (some ⟨gc_0, 0, none⟩)), (3, .pointer (some ⟨g6, 0, none⟩)), (6, .int .i64 x_1.Call), (21, .bool (x_1.Call == 1))]) (.cons rfl (.cons rfl (.cons rfl (.cons rfl (.nil _))))) ?_
  refine ke_cond (t := x_1.Call == 1) rfl (fun hc21 => ?_) (fun hc21 => ?_)
  ·replace hS := ite_true' hS hc21
   refine ke_seq ?_
   refine ke_region ?_
   refine sr_ev (v := .pointer (some ⟨gc_0, 0, none⟩)) (ev_move rfl) (by decide) ?_
   refine sr_ev (v := .pointer (some ⟨g6, 3, none⟩)) (ev_fieldAddr (i := 3) Try.underlying32 rfl Try.info9 rfl rfl) (by decide) ?_
   refine sr_ev (v := str x_1.User) (ev_load Try.isAgg9 rfl (hB10.cell rfl)) (by decide) ?_
   refine sr_ev (v := .pointer (some ⟨g6, 4, none⟩)) (ev_fieldAddr (i := 4) Try.underlying32 rfl Try.info9 rfl rfl) (by decide) ?_
   refine sr_ev (v := str x_1.Client) (ev_load Try.isAgg9 rfl (hB10.cell rfl)) (by decide) ?_
   obtain ⟨y22, hy23, hS⟩ := bind_some' hS
   refine sr_call (vs := [.pointer (some ⟨gc_0, 0, none⟩), str x_1.User, str x_1.Client]) rfl Try.call26 rfl (consent_Consents_Revoke_ok _ (hg.fr hz hb) (ρA := ρ7) hb.bd (hz.fr hg hb) (o := 100) (by decide) (⟨_, hB3, h2⟩ : consent_Consents.O (fun p => 100 + p) ρ7 w8 gc_0 c_0) hy23) (by decide) ?_
   rintro _ w24 ⟨ρ30, rfl, ⟨v27, hB29, h28⟩, htr26⟩
   replace hb := hb.trans htr26
   replace hB29 : Blk ρ30 100 w24 gc_0 (.cells #[v27] 52 (0, 0)) := hB29
   replace h28 : MapT consent_pair.ek (mapC str (intC .i64) false) false ρ30 101 w24 v27 y22.2.pairs := h28
   obtain ⟨y31, hy32, hS⟩ := bind_some' hS
   refine sr_call (vs := [.bool y22.1]) rfl Try.call28 rfl (law32_yes_ok _ (hg.fr hz hb) hy32) (by decide) ?_
   rintro _ w33 ⟨rfl, hbw34⟩
   have htr35 := Tr.of_below hbw34 hb.bd
   replace hB29 := hB29.mv (htr35.mv (i := 100) rfl)
   replace h28 := h28.mv (htr35.mv (i := 101) rfl)
   replace hb := hb.trans htr35
   refine sr_ev (v := .int .i64 y31) (ev_assign rfl) (by decide) ?_
   refine sr_end (l' := [(4, .int .i64 y31)]) (.cons rfl (.nil _)) ?_
   cases hS
   exact ke_ret1 Try.func12 rfl rfl ⟨_, rfl, leave ρA w0 o 2 ρ30, rfl, ⟨_, (hB29.mv (leave_mv (p := 0) (by decide) hb)), (h28.mv (leave_mv (p := 1) (by decide) hb))⟩, (leave_tr ho2 hb)⟩
  ·replace hS := ite_false' hS hc21
   refine ke_seq ?_
   refine ke_region ?_
   refine sr_ev (v := .bool (x_1.Call == 2)) (ev_eq rfl rfl) (by decide) ?_
   refine sr_ev (v := .bool (x_1.Call == 2)) (ev_assign rfl) (by decide) ?_
   refine sr_end (l' := [(0, .pointer (some ⟨gc_0, 0, none⟩)), (3, .pointer (some ⟨g6, 0, none⟩)), (30, .bool (x_1.Call == 2))]) (.cons rfl (.cons rfl (.cons rfl (.nil _)))) ?_
   refine ke_cond (t := x_1.Call == 2) rfl (fun hc36 => ?_) (fun hc36 => ?_)
   ·replace hS := ite_true' hS hc36
    refine ke_seq ?_
    refine ke_region ?_
    refine sr_ev (v := .pointer (some ⟨gc_0, 0, none⟩)) (ev_move rfl) (by decide) ?_
    refine sr_ev (v := .pointer (some ⟨g6, 3, none⟩)) (ev_fieldAddr (i := 3) Try.underlying32 rfl Try.info9 rfl rfl) (by decide) ?_
    refine sr_ev (v := str x_1.User) (ev_load Try.isAgg9 rfl (hB10.cell rfl)) (by decide) ?_
    obtain ⟨y37, hy38, hS⟩ := bind_some' hS
    refine sr_call (vs := [.pointer (some ⟨gc_0, 0, none⟩), str x_1.User]) rfl Try.call27 rfl (consent_Consents_Drop_ok _ (hg.fr hz hb) (ρA := ρ7) hb.bd (hz.fr hg hb) (o := 100) (by decide) (⟨_, hB3, h2⟩ : consent_Consents.O (fun p => 100 + p) ρ7 w8 gc_0 c_0) hy38) (by decide) ?_
    rintro _ w39 ⟨ρ45, rfl, ⟨v42, hB44, h43⟩, htr41⟩
    replace hb := hb.trans htr41
    replace hB44 : Blk ρ45 100 w39 gc_0 (.cells #[v42] 52 (0, 0)) := hB44
    replace h43 : MapT consent_pair.ek (mapC str (intC .i64) false) false ρ45 101 w39 v42 y37.2.pairs := h43
    refine sr_ev (v := .int .i64 y37.1) (ev_assign rfl) (by decide) ?_
    refine sr_end (l' := [(4, .int .i64 y37.1)]) (.cons rfl (.nil _)) ?_
    cases hS
    exact ke_ret1 Try.func12 rfl rfl ⟨_, rfl, leave ρA w0 o 2 ρ45, rfl, ⟨_, (hB44.mv (leave_mv (p := 0) (by decide) hb)), (h43.mv (leave_mv (p := 1) (by decide) hb))⟩, (leave_tr ho2 hb)⟩
   ·replace hS := ite_false' hS hc36
    refine ke_skip ?_
    refine ke_inBlock ?_
    refine ke_seq ?_
    refine ke_region ?_
    refine sr_ev (v := .pointer (some ⟨gc_0, 0, none⟩)) (ev_move rfl) (by decide) ?_
    refine sr_ev (v := .pointer (some ⟨g6, 3, none⟩)) (ev_fieldAddr (i := 3) Try.underlying32 rfl Try.info9 rfl rfl) (by decide) ?_
    refine sr_ev (v := str x_1.User) (ev_load Try.isAgg9 rfl (hB10.cell rfl)) (by decide) ?_
    refine sr_ev (v := .pointer (some ⟨g6, 4, none⟩)) (ev_fieldAddr (i := 4) Try.underlying32 rfl Try.info9 rfl rfl) (by decide) ?_
    refine sr_ev (v := str x_1.Client) (ev_load Try.isAgg9 rfl (hB10.cell rfl)) (by decide) ?_
    refine sr_ev (v := .pointer (some ⟨g6, 5, none⟩)) (ev_fieldAddr (i := 5) Try.underlying32 rfl Try.info30 rfl rfl) (by decide) ?_
    refine sr_ev (v := v4) (ev_load Try.isAgg30 rfl (hB10.cell rfl)) (by decide) ?_
    refine sr_ev (v := .pointer (some ⟨g6, 2, none⟩)) (ev_fieldAddr (i := 2) Try.underlying32 rfl Try.info3 rfl rfl) (by decide) ?_
    refine sr_ev (v := .int .i64 x_1.Now) (ev_load Try.isAgg3 rfl (hB10.cell rfl)) (by decide) ?_
    obtain ⟨y46, hy47, hS⟩ := bind_some' hS
    refine sr_call (vs := [.pointer (some ⟨gc_0, 0, none⟩), str x_1.User, str x_1.Client, v4, .int .i64 x_1.Now]) rfl Try.call25 rfl (consent_Consents_Covers_ok _ (hg.fr hz hb) (ρA := ρ7) hb.bd (hz.fr hg hb) (τ0 := (fun p => 100 + p)) (fun p => Nat.le_add_right_of_le (by decide)) h5 (⟨_, hB3, h2⟩ : consent_Consents.O (fun p => 100 + p) ρ7 w8 gc_0 c_0) hy47) (by decide) ?_
    rintro _ w48 ⟨rfl, hbw49⟩
    have htr50 := Tr.of_below hbw49 hb.bd
    replace hB3 := hB3.mv (htr50.mv (i := 100) rfl)
    replace h2 := h2.mv (htr50.mv (i := 101) rfl)
    replace hb := hb.trans htr50
    obtain ⟨y51, hy52, hS⟩ := bind_some' hS
    refine sr_call (vs := [.bool y46]) rfl Try.call28 rfl (law32_yes_ok _ (hg.fr hz hb) hy52) (by decide) ?_
    rintro _ w53 ⟨rfl, hbw54⟩
    have htr55 := Tr.of_below hbw54 hb.bd
    replace hB3 := hB3.mv (htr55.mv (i := 100) rfl)
    replace h2 := h2.mv (htr55.mv (i := 101) rfl)
    replace hb := hb.trans htr55
    refine sr_ev (v := .int .i64 y51) (ev_assign rfl) (by decide) ?_
    refine sr_end (l' := [(4, .int .i64 y51)]) (.cons rfl (.nil _)) ?_
    cases hS
    exact ke_ret1 Try.func12 rfl rfl ⟨_, rfl, leave ρA w0 o 2 ρ7, rfl, ⟨_, (hB3.mv (leave_mv (p := 0) (by decide) hb)), (h2.mv (leave_mv (p := 1) (by decide) hb))⟩, (leave_tr ho2 hb)⟩
theorem ref32_Consents_Made_ok (w0 : World) (hg : Gs w0) {ρA : Tags} (hbd : ∀ b, ρA b ≠ 0 → b < w0.heap.size) (hz : Gz ρA) {τ0 : Nat → Nat} (hτ0 : ∀ p, 1 ≤ τ0 p) {c_0 : ref32_Consents} {gc_0 : Nat} {r : Bool} (ho0 : ref32_Consents.O τ0 ρA w0 gc_0 c_0) (hS : ref32_Consents_Made c_0 = some r) :
  Calls Try.prog 33 #[.pointer (some ⟨gc_0, 0, none⟩)] w0 (Ret (fun v w' => v = .bool r ∧ Below w0.heap.size w0 w')) := by
 unfold ref32_Consents_Made at hS
 have hb := flat1_fr (ρ := ρA) (w := w0) hbd
 have hz := hz.flat1
 obtain ⟨v1, hB3, h2⟩ := ho0
 replace hB3 := hB3.mv (flat1_mv (hτ0 0))
 replace h2 := h2.mv (flat1_mv (hτ0 1)) (by decide)
 replace hB3 : Blk (flat1 ρA) 1 w0 gc_0 (.cells #[.bool c_0.made, v1] 55 (0, 0)) := hB3
 replace h2 : OwnT ref32_pair.c 63 (flat1 ρA) 1 w0 v1 c_0.pairs := h2
 refine calls_of_ke Try.func33 rfl (n := 11) rfl rfl (l := [(0, .pointer (some ⟨gc_0, 0, none⟩))]) rfl ?_
 refine ke_seq ?_
 refine ke_region ?_
 refine sr_ev (v := .bool false) (ev_assign rfl) (by decide) ?_
 refine sr_end (l' := [(0, .pointer (some ⟨gc_0, 0, none⟩))]) (.cons rfl (.nil _)) ?_
 refine ke_seq ?_
 refine ke_region ?_
 refine sr_ev (v := .pointer (some ⟨gc_0, 0, none⟩)) (ev_move rfl) (by decide) ?_
 refine sr_ev (v := .bool true) (ev_pneT_some Try.underlying27 rfl rfl) (by decide) ?_
 refine sr_ev (v := .bool true) (ev_move rfl) (by decide) ?_
 refine sr_evg (b := true) (e := 5) rfl rfl rfl (v := .pointer (some ⟨gc_0, 0, none⟩)) (ev_move rfl) (by decide) ?_
 refine sr_evg (b := true) (e := 5) rfl rfl rfl (v := .pointer (some ⟨gc_0, 0, none⟩)) (ev_nilCheck rfl) (by decide) ?_
 refine sr_evg (b := true) (e := 5) rfl rfl rfl (v := .pointer (some ⟨gc_0, 0, none⟩)) (ev_fieldAddr (i := 0) Try.underlying55 rfl Try.info4 rfl rfl) (by decide) ?_
 refine sr_evg (b := true) (e := 5) rfl rfl rfl (v := .bool c_0.made) (ev_load Try.isAgg4 rfl (hB3.cell rfl)) (by decide) ?_
 refine sr_ev (v := .bool c_0.made) (ev_pick_t rfl rfl rfl) (by decide) ?_
 refine sr_ev (v := .bool c_0.made) (ev_assign rfl) (by decide) ?_
 refine sr_end (l' := [(2, .bool c_0.made)]) (.cons rfl (.nil _)) ?_
 cases hS
 exact ke_ret1 Try.func33 rfl rfl ⟨_, rfl, rfl, (hb.below (flat1_le _))⟩
theorem ref22_Limited_ok (w0 : World) (hg : Gs w0) {n_0 : Int} {r : Int} (hS : ref22_Limited n_0 = some r) :
  Calls Try.prog 35 #[.int .i64 n_0] w0 (Ret (fun v w' => v = .int .i64 r ∧ Below w0.heap.size w0 w')) := by
 unfold ref22_Limited at hS
 have hb := Below.refl w0.heap.size w0
 refine calls_of_ke Try.func35 rfl (n := 6) rfl rfl (l := [(0, .int .i64 n_0)]) rfl ?_
 refine ke_seq ?_
 refine ke_region ?_
 refine sr_ev (v := .int .i64 0) (ev_assign rfl) (by decide) ?_
 refine sr_end (l' := [(0, .int .i64 n_0)]) (.cons rfl (.nil _)) ?_
 refine ke_seq ?_
 refine ke_region ?_
 refine sr_ev (v := .int .i64 n_0) (ev_move rfl) (by decide) ?_
 refine sr_ev (v := .int .i64 (gmin n_0 1099511627776)) (ev_min rfl rfl) (by decide) ?_
 refine sr_ev (v := .int .i64 (gmax 0 (gmin n_0 1099511627776))) (ev_max rfl rfl) (by decide) ?_
 refine sr_ev (v := .int .i64 (gmax 0 (gmin n_0 1099511627776))) (ev_assign rfl) (by decide) ?_
 refine sr_end (l' := [(2, .int .i64 (gmax 0 (gmin n_0 1099511627776)))]) (.cons rfl (.nil _)) ?_
 cases hS
 exact ke_ret1 Try.func35 rfl rfl ⟨_, rfl, rfl, hb⟩
theorem ref01_letter_ok (w0 : World) (hg : Gs w0) {c_0 : Int} {r : Bool} (hS : ref01_letter c_0 = some r) :
  Calls Try.prog 66 #[.int .u8 c_0] w0 (Ret (fun v w' => v = .bool r ∧ Below w0.heap.size w0 w')) := by
 unfold ref01_letter at hS
 have hb := Below.refl w0.heap.size w0
 refine calls_of_ke Try.func66 rfl (n := 17) rfl rfl (l := [(0, .int .u8 c_0)]) rfl ?_
 refine ke_seq ?_
 refine ke_region ?_
 refine sr_ev (v := .bool false) (ev_assign rfl) (by decide) ?_
 refine sr_end (l' := [(0, .int .u8 c_0)]) (.cons rfl (.nil _)) ?_
 refine ke_seq ?_
 refine ke_region ?_
 refine sr_ev (v := .int .u8 c_0) (ev_move rfl) (by decide) ?_
 refine sr_ev (v := .bool (decide (c_0 ≥ 97))) (ev_ge rfl rfl) (by decide) ?_
 refine sr_ev (v := .bool (decide (c_0 ≥ 97))) (ev_move rfl) (by decide) ?_
 refine sr_join (m := 3) (C := fun (x : Bool) w1 => x = ((decide (c_0 ≥ 97)) && (decide (c_0 ≤ 122))) ∧ w0 = w1) (l' := fun x => [(0, .int .u8 c_0), (8, .bool x)]) ?_ ?_
 ·rintro _ _ ⟨rfl, rfl⟩
  refine sr_ev (v := .bool ((decide (c_0 ≥ 97)) && (decide (c_0 ≤ 122)))) (ev_move rfl) (by decide) ?_
  refine sr_join (m := 7) (C := fun (x : Bool) w1 => x = (((decide (c_0 ≥ 97)) && (decide (c_0 ≤ 122))) || ((decide (c_0 ≥ 65)) && (decide (c_0 ≤ 90)))) ∧ w0 = w1) (l' := fun x => [(16, .bool x)]) ?_ ?_
  ·rintro _ _ ⟨rfl, rfl⟩
   refine sr_ev (v := .bool (((decide (c_0 ≥ 97)) && (decide (c_0 ≤ 122))) || ((decide (c_0 ≥ 65)) && (decide (c_0 ≤ 90))))) (ev_assign rfl) (by decide) ?_
   refine sr_end (l' := [(2, .bool (((decide (c_0 ≥ 97)) && (decide (c_0 ≤ 122))) || ((decide (c_0 ≥ 65)) && (decide (c_0 ≤ 90)))))]) (.cons rfl (.nil _)) ?_
   cases hS
   exact ke_ret1 Try.func66 rfl rfl ⟨_, rfl, rfl, hb⟩
  ·intro K9
   rcases Bool.eq_false_or_eq_true ((decide (c_0 ≥ 97)) && (decide (c_0 ≤ 122))) with hg8 | hg8
   ·refine sr_pass (e := 9) rfl rfl (by rw [hg8]; rfl) (by decide) ?_
    refine sr_pass (e := 9) rfl rfl (by rw [hg8]; rfl) (by decide) ?_
    refine sr_pass (e := 9) rfl rfl (by rw [hg8]; rfl) (by decide) ?_
    refine sr_pass_undef (e := 12) rfl rfl (by decide) ?_
    refine sr_pass_undef (e := 12) rfl rfl (by decide) ?_
    refine sr_pass (e := 9) rfl rfl (by rw [hg8]; rfl) (by decide) ?_
    refine sr_ev (v := .bool true) (ev_pick_t rfl hg8 rfl) (by decide) ?_
    exact sr_weaken (l' := [(16, .bool true)]) (.cons rfl (.nil _)) (K9 true _ ⟨by rw [hg8]; rfl, rfl⟩)
   ·refine sr_evg (b := false) (e := 9) rfl rfl hg8 (v := .int .u8 c_0) (ev_move rfl) (by decide) ?_
    refine sr_evg (b := false) (e := 9) rfl rfl hg8 (v := .bool (decide (c_0 ≥ 65))) (ev_ge rfl rfl) (by decide) ?_
    refine sr_evg (b := false) (e := 9) rfl rfl hg8 (v := .bool (decide (c_0 ≥ 65))) (ev_move rfl) (by decide) ?_
    refine sr_join (m := 3) (C := fun (x : Bool) w1 => x = ((decide (c_0 ≥ 65)) && (decide (c_0 ≤ 90))) ∧ w0 = w1) (l' := fun x => [(9, .bool ((decide (c_0 ≥ 97)) && (decide (c_0 ≤ 122)))), (15, .bool x)]) ?_ ?_
    ·rintro _ _ ⟨rfl, rfl⟩
     refine sr_ev (v := .bool ((decide (c_0 ≥ 65)) && (decide (c_0 ≤ 90)))) (ev_pick_f rfl hg8 rfl) (by decide) ?_
     exact sr_weaken (l' := [(16, .bool ((decide (c_0 ≥ 65)) && (decide (c_0 ≤ 90))))]) (.cons rfl (.nil _)) (K9 ((decide (c_0 ≥ 65)) && (decide (c_0 ≤ 90))) _ ⟨by rw [hg8]; rfl, rfl⟩)
    ·intro K16
     rcases Bool.eq_false_or_eq_true (decide (c_0 ≥ 65)) with hg15 | hg15
     ·refine sr_evg (b := true) (e := 12) rfl rfl hg15 (v := .int .u8 c_0) (ev_move rfl) (by decide) ?_
      refine sr_evg (b := true) (e := 12) rfl rfl hg15 (v := .bool (decide (c_0 ≤ 90))) (ev_le rfl rfl) (by decide) ?_
      refine sr_evg (b := false) (e := 9) rfl rfl hg8 (v := .bool (decide (c_0 ≤ 90))) (ev_pick_t rfl hg15 rfl) (by decide) ?_
      exact sr_weaken (l' := [(9, .bool ((decide (c_0 ≥ 97)) && (decide (c_0 ≤ 122)))), (15, .bool (decide (c_0 ≤ 90)))]) (.cons rfl (.cons rfl (.nil _))) (K16 (decide (c_0 ≤ 90)) _ ⟨by rw [hg15]; rfl, rfl⟩)
     ·refine sr_pass (e := 12) rfl rfl (by rw [hg15]; rfl) (by decide) ?_
      refine sr_pass (e := 12) rfl rfl (by rw [hg15]; rfl) (by decide) ?_
      refine sr_evg (b := false) (e := 9) rfl rfl hg8 (v := .bool false) (ev_pick_f rfl hg15 rfl) (by decide) ?_
      exact sr_weaken (l' := [(9, .bool ((decide (c_0 ≥ 97)) && (decide (c_0 ≤ 122)))), (15, .bool false)]) (.cons rfl (.cons rfl (.nil _))) (K16 false _ ⟨by rw [hg15]; rfl, rfl⟩)
 ·intro K2
  rcases Bool.eq_false_or_eq_true (decide (c_0 ≥ 97)) with hg1 | hg1
  ·refine sr_evg (b := true) (e := 5) rfl rfl hg1 (v := .int .u8 c_0) (ev_move rfl) (by decide) ?_
   refine sr_evg (b := true) (e := 5) rfl rfl hg1 (v := .bool (decide (c_0 ≤ 122))) (ev_le rfl rfl) (by decide) ?_
   refine sr_ev (v := .bool (decide (c_0 ≤ 122))) (ev_pick_t rfl hg1 rfl) (by decide) ?_
   exact sr_weaken (l' := [(0, .int .u8 c_0), (8, .bool (decide (c_0 ≤ 122)))]) (.cons rfl (.cons rfl (.nil _))) (K2 (decide (c_0 ≤ 122)) _ ⟨by rw [hg1]; rfl, rfl⟩)
  ·refine sr_pass (e := 5) rfl rfl (by rw [hg1]; rfl) (by decide) ?_
   refine sr_pass (e := 5) rfl rfl (by rw [hg1]; rfl) (by decide) ?_
   refine sr_ev (v := .bool false) (ev_pick_f rfl hg1 rfl) (by decide) ?_
   exact sr_weaken (l' := [(0, .int .u8 c_0), (8, .bool false)]) (.cons rfl (.cons rfl (.nil _))) (K2 false _ ⟨by rw [hg1]; rfl, rfl⟩)
theorem ref01_digit_ok (w0 : World) (hg : Gs w0) {c_0 : Int} {r : Bool} (hS : ref01_digit c_0 = some r) :
  Calls Try.prog 67 #[.int .u8 c_0] w0 (Ret (fun v w' => v = .bool r ∧ Below w0.heap.size w0 w')) := by
 unfold ref01_digit at hS
 have hb := Below.refl w0.heap.size w0
 refine calls_of_ke Try.func67 rfl (n := 9) rfl rfl (l := [(0, .int .u8 c_0)]) rfl ?_
 refine ke_seq ?_
 refine ke_region ?_
 refine sr_ev (v := .bool false) (ev_assign rfl) (by decide) ?_
 refine sr_end (l' := [(0, .int .u8 c_0)]) (.cons rfl (.nil _)) ?_
 refine ke_seq ?_
 refine ke_region ?_
 refine sr_ev (v := .int .u8 c_0) (ev_move rfl) (by decide) ?_
 refine sr_ev (v := .bool (decide (c_0 ≥ 48))) (ev_ge rfl rfl) (by decide) ?_
 refine sr_ev (v := .bool (decide (c_0 ≥ 48))) (ev_move rfl) (by decide) ?_
 refine sr_join (m := 3) (C := fun (x : Bool) w1 => x = ((decide (c_0 ≥ 48)) && (decide (c_0 ≤ 57))) ∧ w0 = w1) (l' := fun x => [(8, .bool x)]) ?_ ?_
 ·rintro _ _ ⟨rfl, rfl⟩
  refine sr_ev (v := .bool ((decide (c_0 ≥ 48)) && (decide (c_0 ≤ 57)))) (ev_assign rfl) (by decide) ?_
  refine sr_end (l' := [(2, .bool ((decide (c_0 ≥ 48)) && (decide (c_0 ≤ 57))))]) (.cons rfl (.nil _)) ?_
  cases hS
  exact ke_ret1 Try.func67 rfl rfl ⟨_, rfl, rfl, hb⟩
 ·intro K2
  rcases Bool.eq_false_or_eq_true (decide (c_0 ≥ 48)) with hg1 | hg1
  ·refine sr_evg (b := true) (e := 5) rfl rfl hg1 (v := .int .u8 c_0) (ev_move rfl) (by decide) ?_
   refine sr_evg (b := true) (e := 5) rfl rfl hg1 (v := .bool (decide (c_0 ≤ 57))) (ev_le rfl rfl) (by decide) ?_
   refine sr_ev (v := .bool (decide (c_0 ≤ 57))) (ev_pick_t rfl hg1 rfl) (by decide) ?_
   exact sr_weaken (l' := [(8, .bool (decide (c_0 ≤ 57)))]) (.cons rfl (.nil _)) (K2 (decide (c_0 ≤ 57)) _ ⟨by rw [hg1]; rfl, rfl⟩)
  ·refine sr_pass (e := 5) rfl rfl (by rw [hg1]; rfl) (by decide) ?_
   refine sr_pass (e := 5) rfl rfl (by rw [hg1]; rfl) (by decide) ?_
   refine sr_ev (v := .bool false) (ev_pick_f rfl hg1 rfl) (by decide) ?_
   exact sr_weaken (l' := [(8, .bool false)]) (.cons rfl (.nil _)) (K2 false _ ⟨by rw [hg1]; rfl, rfl⟩)
theorem ref01_Word_L1_ok {w0 : World} (hg : Gs w0) : ∀ (n : Nat), ∀ {r : Bool} {s_0 : Str} {i_3 : Int}, ref01_Word_L1 n s_0 i_3 = some r → ∀ {w : World}, (Below w0.heap.size w0 w) → KE Try.prog 49 (Ret (fun v w' => v = .bool r ∧ Below w0.heap.size w0 w')) 54 [.code (sub (bodyOf Try.f49) [2, 1, 2, 2, 1]), .inLoop (sub (bodyOf Try.f49) [2, 1, 2, 2, 1]), .inBlock 0, .code (sub (bodyOf Try.f49) [2, 2])] [(0, str s_0), (3, .int .i64 i_3)] w := by
 intro n
 induction n with
 | zero => intro r s_0 i_3 hS; cases hS
 | succ n ih =>
  have hr0 : ∀ {r : Bool} {s_0 : Str} {i_3 : Int}, ref01_Word_L1 n s_0 i_3 = some r → ∀ {w : World}, (Below w0.heap.size w0 w) → KE Try.prog 49 (Ret (fun v w' => v = .bool r ∧ Below w0.heap.size w0 w')) 54 [.inLoop (sub (bodyOf Try.f49) [2, 1, 2, 2, 1]), .inBlock 0, .code (sub (bodyOf Try.f49) [2, 2])] [(0, str s_0), (3, .int .i64 i_3)] w := fun {r} {s_0} {i_3} hS {w} hb => ke_inLoop (ih hS hb)
  clear ih
  intro r s_0 i_3 hS w hb
  unfold ref01_Word_L1 at hS
  refine ke_seq ?_
  refine ke_seq ?_
  refine ke_region ?_
  refine sr_ev (v := .int .i64 i_3) (ev_move rfl) (by decide) ?_
  refine sr_ev (v := str s_0) (ev_move rfl) (by decide) ?_
  refine sr_ev (v := .int .i64 (s_0.length : Int)) (ev_slen Try.underlying9 rfl) (by decide) ?_
  refine sr_ev (v := .bool (decide (i_3 < (s_0.length : Int)))) (ev_lt rfl rfl) (by decide) ?_
  refine sr_end (l' := [(0, str s_0), (3, .int .i64 i_3), (7, .bool (decide (i_3 < (s_0.length : Int))))]) (.cons rfl (.cons rfl (.cons rfl (.nil _)))) ?_
  refine ke_cond (t := decide (i_3 < (s_0.length : Int))) rfl (fun hc1 => ?_) (fun hc1 => ?_)
  ·replace hS := ite_true' hS hc1
   refine ke_skip ?_
   refine ke_seq ?_
   refine ke_block ?_
   refine ke_seq ?_
   refine ke_region ?_
   refine sr_ev (v := str s_0) (ev_move rfl) (by decide) ?_
   refine sr_ev (v := .int .i64 i_3) (ev_move rfl) (by decide) ?_
   obtain ⟨hk2, hS⟩ := chk_some hS
   refine sr_ev (v := .int .u8 (byteAt s_0 i_3)) (ev_sindex Try.underlying9 rfl rfl hk2) (by decide) ?_
   obtain ⟨y3, hy4, hS⟩ := bind_some' hS
   refine sr_call (vs := [.int .u8 (byteAt s_0 i_3)]) rfl Try.call66 rfl (ref01_letter_ok _ (hg.below hb) hy4) (by decide) ?_
   rintro _ w5 ⟨rfl, hbw6⟩
   replace hb := hb.trans (hbw6.mono hb.size)
   refine sr_ev (v := .bool (!y3)) (ev_not rfl) (by decide) ?_
   refine sr_ev (v := .bool (!y3)) (ev_move rfl) (by decide) ?_
   obtain ⟨z9, hz11, hS⟩ := bind_some' hS
   refine sr_join (m := 6) (C := fun (x : Bool) w1 => z9 = x ∧ Below w5.heap.size w5 w1) (l' := fun x => [(0, str s_0), (3, .int .i64 i_3), (21, .bool x)]) ?_ ?_
   ·rintro _ w12 ⟨rfl, hbw13⟩
    replace hb := hb.trans (hbw13.mono hb.size)
    refine sr_ev (v := .bool z9) (ev_move rfl) (by decide) ?_
    obtain ⟨z21, hz23, hS⟩ := bind_some' hS
    refine sr_join (m := 5) (C := fun (x : Bool) w1 => z21 = x ∧ Below w12.heap.size w12 w1) (l' := fun x => [(0, str s_0), (3, .int .i64 i_3), (27, .bool x)]) ?_ ?_
    ·rintro _ w24 ⟨rfl, hbw25⟩
     replace hb := hb.trans (hbw25.mono hb.size)
     refine sr_ev (v := .bool z21) (ev_move rfl) (by decide) ?_
     obtain ⟨z29, hz31, hS⟩ := bind_some' hS
     refine sr_join (m := 5) (C := fun (x : Bool) w1 => z29 = x ∧ Below w24.heap.size w24 w1) (l' := fun x => [(0, str s_0), (3, .int .i64 i_3), (33, .bool x)]) ?_ ?_
     ·rintro _ w32 ⟨rfl, hbw33⟩
      replace hb := hb.trans (hbw33.mono hb.size)
      refine sr_ev (v := .bool z29) (ev_move rfl) (by decide) ?_
      obtain ⟨z37, hz39, hS⟩ := bind_some' hS
      refine sr_join (m := 5) (C := fun (x : Bool) w1 => z37 = x ∧ Below w32.heap.size w32 w1) (l' := fun x => [(0, str s_0), (3, .int .i64 i_3), (39, .bool x)]) ?_ ?_
      ·rintro _ w40 ⟨rfl, hbw41⟩
       replace hb := hb.trans (hbw41.mono hb.size)
       refine sr_ev (v := .bool z37) (ev_move rfl) (by decide) ?_
       obtain ⟨z45, hz47, hS⟩ := bind_some' hS
       refine sr_join (m := 5) (C := fun (x : Bool) w1 => z45 = x ∧ Below w40.heap.size w40 w1) (l' := fun x => [(0, str s_0), (3, .int .i64 i_3), (45, .bool x)]) ?_ ?_
       ·rintro _ w48 ⟨rfl, hbw49⟩
        replace hb := hb.trans (hbw49.mono hb.size)
        refine sr_end (l' := [(0, str s_0), (3, .int .i64 i_3), (45, .bool z45)]) (.cons rfl (.cons rfl (.cons rfl (.nil _)))) ?_
        refine ke_cond (t := z45) rfl (fun hc51 => ?_) (fun hc51 => ?_)
        ·replace hS := ite_true' hS hc51
         refine ke_seq ?_
         refine ke_region ?_
         refine sr_ev (v := .bool false) (ev_assign rfl) (by decide) ?_
         refine sr_end (l' := [(2, .bool false)]) (.cons rfl (.nil _)) ?_
         cases hS
         exact ke_ret1 Try.func49 rfl rfl ⟨_, rfl, rfl, hb⟩
        ·replace hS := ite_false' hS hc51
         refine ke_skip ?_
         refine ke_inBlock ?_
         refine ke_region ?_
         refine sr_ev (v := .int .i64 i_3) (ev_move rfl) (by decide) ?_
         refine sr_ev (v := .int .i64 (IntKind.i64.wrap (i_3 + 1))) (ev_add rfl rfl) (by decide) ?_
         refine sr_ev (v := .int .i64 (IntKind.i64.wrap (i_3 + 1))) (ev_assign rfl) (by decide) ?_
         refine sr_end (l' := [(0, str s_0), (3, .int .i64 (IntKind.i64.wrap (i_3 + 1)))]) (.cons rfl (.cons rfl (.nil _))) ?_
         have hK := hr0 hS hb
         exact ke_weaken (l' := [(0, str s_0), (3, .int .i64 (IntKind.i64.wrap (i_3 + 1)))]) (.cons rfl (.cons rfl (.nil _))) hK
       ·intro K44
        clear hS
        have hj46 := Below.refl w40.heap.size w40
        rcases Bool.eq_false_or_eq_true z37 with hg43 | hg43
        ·have hS := ite_true' hz47 hg43
         refine sr_evg (b := true) (e := 40) rfl rfl hg43 (v := str s_0) (ev_move rfl) (by decide) ?_
         refine sr_evg (b := true) (e := 40) rfl rfl hg43 (v := .int .i64 i_3) (ev_move rfl) (by decide) ?_
         obtain ⟨hk50, hS⟩ := chk_some hS
         refine sr_evg (b := true) (e := 40) rfl rfl hg43 (v := .int .u8 (byteAt s_0 i_3)) (ev_sindex Try.underlying9 rfl rfl hk50) (by decide) ?_
         refine sr_evg (b := true) (e := 40) rfl rfl hg43 (v := .bool ((byteAt s_0 i_3) != 58)) (ev_ne rfl rfl) (by decide) ?_
         refine sr_ev (v := .bool ((byteAt s_0 i_3) != 58)) (ev_pick_t rfl hg43 rfl) (by decide) ?_
         exact sr_weaken (l' := [(0, str s_0), (3, .int .i64 i_3), (45, .bool ((byteAt s_0 i_3) != 58))]) (.cons rfl (.cons rfl (.cons rfl (.nil _)))) (K44 ((byteAt s_0 i_3) != 58) _ ⟨(Option.some.inj hS).symm, hj46⟩)
        ·have hS := ite_false' hz47 hg43
         refine sr_pass (e := 40) rfl rfl (by rw [hg43]; rfl) (by decide) ?_
         refine sr_pass (e := 40) rfl rfl (by rw [hg43]; rfl) (by decide) ?_
         refine sr_pass (e := 40) rfl rfl (by rw [hg43]; rfl) (by decide) ?_
         refine sr_pass (e := 40) rfl rfl (by rw [hg43]; rfl) (by decide) ?_
         refine sr_ev (v := .bool false) (ev_pick_f rfl hg43 rfl) (by decide) ?_
         exact sr_weaken (l' := [(0, str s_0), (3, .int .i64 i_3), (45, .bool false)]) (.cons rfl (.cons rfl (.cons rfl (.nil _)))) (K44 false _ ⟨(Option.some.inj hS).symm, hj46⟩)
      ·intro K36
       clear hS
       have hj38 := Below.refl w32.heap.size w32
       rcases Bool.eq_false_or_eq_true z29 with hg35 | hg35
       ·have hS := ite_true' hz39 hg35
        refine sr_evg (b := true) (e := 34) rfl rfl hg35 (v := str s_0) (ev_move rfl) (by decide) ?_
        refine sr_evg (b := true) (e := 34) rfl rfl hg35 (v := .int .i64 i_3) (ev_move rfl) (by decide) ?_
        obtain ⟨hk42, hS⟩ := chk_some hS
        refine sr_evg (b := true) (e := 34) rfl rfl hg35 (v := .int .u8 (byteAt s_0 i_3)) (ev_sindex Try.underlying9 rfl rfl hk42) (by decide) ?_
        refine sr_evg (b := true) (e := 34) rfl rfl hg35 (v := .bool ((byteAt s_0 i_3) != 46)) (ev_ne rfl rfl) (by decide) ?_
        refine sr_ev (v := .bool ((byteAt s_0 i_3) != 46)) (ev_pick_t rfl hg35 rfl) (by decide) ?_
        exact sr_weaken (l' := [(0, str s_0), (3, .int .i64 i_3), (39, .bool ((byteAt s_0 i_3) != 46))]) (.cons rfl (.cons rfl (.cons rfl (.nil _)))) (K36 ((byteAt s_0 i_3) != 46) _ ⟨(Option.some.inj hS).symm, hj38⟩)
       ·have hS := ite_false' hz39 hg35
        refine sr_pass (e := 34) rfl rfl (by rw [hg35]; rfl) (by decide) ?_
        refine sr_pass (e := 34) rfl rfl (by rw [hg35]; rfl) (by decide) ?_
        refine sr_pass (e := 34) rfl rfl (by rw [hg35]; rfl) (by decide) ?_
        refine sr_pass (e := 34) rfl rfl (by rw [hg35]; rfl) (by decide) ?_
        refine sr_ev (v := .bool false) (ev_pick_f rfl hg35 rfl) (by decide) ?_
        exact sr_weaken (l' := [(0, str s_0), (3, .int .i64 i_3), (39, .bool false)]) (.cons rfl (.cons rfl (.cons rfl (.nil _)))) (K36 false _ ⟨(Option.some.inj hS).symm, hj38⟩)
     ·intro K28
      clear hS
      have hj30 := Below.refl w24.heap.size w24
      rcases Bool.eq_false_or_eq_true z21 with hg27 | hg27
      ·have hS := ite_true' hz31 hg27
       refine sr_evg (b := true) (e := 28) rfl rfl hg27 (v := str s_0) (ev_move rfl) (by decide) ?_
       refine sr_evg (b := true) (e := 28) rfl rfl hg27 (v := .int .i64 i_3) (ev_move rfl) (by decide) ?_
       obtain ⟨hk34, hS⟩ := chk_some hS
       refine sr_evg (b := true) (e := 28) rfl rfl hg27 (v := .int .u8 (byteAt s_0 i_3)) (ev_sindex Try.underlying9 rfl rfl hk34) (by decide) ?_
       refine sr_evg (b := true) (e := 28) rfl rfl hg27 (v := .bool ((byteAt s_0 i_3) != 95)) (ev_ne rfl rfl) (by decide) ?_
       refine sr_ev (v := .bool ((byteAt s_0 i_3) != 95)) (ev_pick_t rfl hg27 rfl) (by decide) ?_
       exact sr_weaken (l' := [(0, str s_0), (3, .int .i64 i_3), (33, .bool ((byteAt s_0 i_3) != 95))]) (.cons rfl (.cons rfl (.cons rfl (.nil _)))) (K28 ((byteAt s_0 i_3) != 95) _ ⟨(Option.some.inj hS).symm, hj30⟩)
      ·have hS := ite_false' hz31 hg27
       refine sr_pass (e := 28) rfl rfl (by rw [hg27]; rfl) (by decide) ?_
       refine sr_pass (e := 28) rfl rfl (by rw [hg27]; rfl) (by decide) ?_
       refine sr_pass (e := 28) rfl rfl (by rw [hg27]; rfl) (by decide) ?_
       refine sr_pass (e := 28) rfl rfl (by rw [hg27]; rfl) (by decide) ?_
       refine sr_ev (v := .bool false) (ev_pick_f rfl hg27 rfl) (by decide) ?_
       exact sr_weaken (l' := [(0, str s_0), (3, .int .i64 i_3), (33, .bool false)]) (.cons rfl (.cons rfl (.cons rfl (.nil _)))) (K28 false _ ⟨(Option.some.inj hS).symm, hj30⟩)
    ·intro K20
     clear hS
     have hj22 := Below.refl w12.heap.size w12
     rcases Bool.eq_false_or_eq_true z9 with hg19 | hg19
     ·have hS := ite_true' hz23 hg19
      refine sr_evg (b := true) (e := 22) rfl rfl hg19 (v := str s_0) (ev_move rfl) (by decide) ?_
      refine sr_evg (b := true) (e := 22) rfl rfl hg19 (v := .int .i64 i_3) (ev_move rfl) (by decide) ?_
      obtain ⟨hk26, hS⟩ := chk_some hS
      refine sr_evg (b := true) (e := 22) rfl rfl hg19 (v := .int .u8 (byteAt s_0 i_3)) (ev_sindex Try.underlying9 rfl rfl hk26) (by decide) ?_
      refine sr_evg (b := true) (e := 22) rfl rfl hg19 (v := .bool ((byteAt s_0 i_3) != 45)) (ev_ne rfl rfl) (by decide) ?_
      refine sr_ev (v := .bool ((byteAt s_0 i_3) != 45)) (ev_pick_t rfl hg19 rfl) (by decide) ?_
      exact sr_weaken (l' := [(0, str s_0), (3, .int .i64 i_3), (27, .bool ((byteAt s_0 i_3) != 45))]) (.cons rfl (.cons rfl (.cons rfl (.nil _)))) (K20 ((byteAt s_0 i_3) != 45) _ ⟨(Option.some.inj hS).symm, hj22⟩)
     ·have hS := ite_false' hz23 hg19
      refine sr_pass (e := 22) rfl rfl (by rw [hg19]; rfl) (by decide) ?_
      refine sr_pass (e := 22) rfl rfl (by rw [hg19]; rfl) (by decide) ?_
      refine sr_pass (e := 22) rfl rfl (by rw [hg19]; rfl) (by decide) ?_
      refine sr_pass (e := 22) rfl rfl (by rw [hg19]; rfl) (by decide) ?_
      refine sr_ev (v := .bool false) (ev_pick_f rfl hg19 rfl) (by decide) ?_
      exact sr_weaken (l' := [(0, str s_0), (3, .int .i64 i_3), (27, .bool false)]) (.cons rfl (.cons rfl (.cons rfl (.nil _)))) (K20 false _ ⟨(Option.some.inj hS).symm, hj22⟩)
   ·intro K8
    clear hS
    have hj10 := Below.refl w5.heap.size w5
    rcases Bool.eq_false_or_eq_true (!y3) with hg7 | hg7
    ·have hS := ite_true' hz11 hg7
     refine sr_evg (b := true) (e := 15) rfl rfl hg7 (v := str s_0) (ev_move rfl) (by decide) ?_
     refine sr_evg (b := true) (e := 15) rfl rfl hg7 (v := .int .i64 i_3) (ev_move rfl) (by decide) ?_
     obtain ⟨hk14, hS⟩ := chk_some hS
     refine sr_evg (b := true) (e := 15) rfl rfl hg7 (v := .int .u8 (byteAt s_0 i_3)) (ev_sindex Try.underlying9 rfl rfl hk14) (by decide) ?_
     obtain ⟨y15, hy16, hS⟩ := bind_some' hS
     refine sr_callg (b := true) (e := 15) rfl rfl hg7 (vs := [.int .u8 (byteAt s_0 i_3)]) rfl Try.call67 rfl (ref01_digit_ok _ (hg.below hb) hy16) (by decide) ?_
     rintro _ w17 ⟨rfl, hbw18⟩
     replace hb := hb.trans (hbw18.mono hb.size)
     replace hj10 := hj10.trans (hbw18.mono hj10.size)
     refine sr_evg (b := true) (e := 15) rfl rfl hg7 (v := .bool (!y15)) (ev_not rfl) (by decide) ?_
     refine sr_ev (v := .bool (!y15)) (ev_pick_t rfl hg7 rfl) (by decide) ?_
     exact sr_weaken (l' := [(0, str s_0), (3, .int .i64 i_3), (21, .bool (!y15))]) (.cons rfl (.cons rfl (.cons rfl (.nil _)))) (K8 (!y15) _ ⟨(Option.some.inj hS).symm, hj10⟩)
    ·have hS := ite_false' hz11 hg7
     refine sr_pass (e := 15) rfl rfl (by rw [hg7]; rfl) (by decide) ?_
     refine sr_pass (e := 15) rfl rfl (by rw [hg7]; rfl) (by decide) ?_
     refine sr_pass (e := 15) rfl rfl (by rw [hg7]; rfl) (by decide) ?_
     refine sr_pass (e := 15) rfl rfl (by rw [hg7]; rfl) (by decide) ?_
     refine sr_pass (e := 15) rfl rfl (by rw [hg7]; rfl) (by decide) ?_
     refine sr_ev (v := .bool false) (ev_pick_f rfl hg7 rfl) (by decide) ?_
     exact sr_weaken (l' := [(0, str s_0), (3, .int .i64 i_3), (21, .bool false)]) (.cons rfl (.cons rfl (.cons rfl (.nil _)))) (K8 false _ ⟨(Option.some.inj hS).symm, hj10⟩)
  ·replace hS := ite_false' hS hc1
   refine ke_exit (k' := _) rfl ?_
   refine ke_seq ?_
   refine ke_region ?_
   refine sr_ev (v := str s_0) (ev_move rfl) (by decide) ?_
   refine sr_ev (v := .int .i64 (s_0.length : Int)) (ev_slen Try.underlying9 rfl) (by decide) ?_
   refine sr_ev (v := .bool (decide ((s_0.length : Int) ≥ 1))) (ev_ge rfl rfl) (by decide) ?_
   refine sr_ev (v := .bool (decide ((s_0.length : Int) ≥ 1))) (ev_move rfl) (by decide) ?_
   refine sr_join (m := 4) (C := fun (x : Bool) w1 => x = ((decide ((s_0.length : Int) ≥ 1)) && (decide ((s_0.length : Int) ≤ 64))) ∧ w = w1) (l' := fun x => [(53, .bool x)]) ?_ ?_
   ·rintro _ _ ⟨rfl, rfl⟩
    refine sr_ev (v := .bool ((decide ((s_0.length : Int) ≥ 1)) && (decide ((s_0.length : Int) ≤ 64)))) (ev_assign rfl) (by decide) ?_
    refine sr_end (l' := [(2, .bool ((decide ((s_0.length : Int) ≥ 1)) && (decide ((s_0.length : Int) ≤ 64))))]) (.cons rfl (.nil _)) ?_
    cases hS
    exact ke_ret1 Try.func49 rfl rfl ⟨_, rfl, rfl, hb⟩
   ·intro K53
    rcases Bool.eq_false_or_eq_true (decide ((s_0.length : Int) ≥ 1)) with hg52 | hg52
    ·refine sr_evg (b := true) (e := 49) rfl rfl hg52 (v := str s_0) (ev_move rfl) (by decide) ?_
     refine sr_evg (b := true) (e := 49) rfl rfl hg52 (v := .int .i64 (s_0.length : Int)) (ev_slen Try.underlying9 rfl) (by decide) ?_
     refine sr_evg (b := true) (e := 49) rfl rfl hg52 (v := .bool (decide ((s_0.length : Int) ≤ 64))) (ev_le rfl rfl) (by decide) ?_
     refine sr_ev (v := .bool (decide ((s_0.length : Int) ≤ 64))) (ev_pick_t rfl hg52 rfl) (by decide) ?_
     exact sr_weaken (l' := [(53, .bool (decide ((s_0.length : Int) ≤ 64)))]) (.cons rfl (.nil _)) (K53 (decide ((s_0.length : Int) ≤ 64)) _ ⟨by rw [hg52]; rfl, rfl⟩)
    ·refine sr_pass (e := 49) rfl rfl (by rw [hg52]; rfl) (by decide) ?_
     refine sr_pass (e := 49) rfl rfl (by rw [hg52]; rfl) (by decide) ?_
     refine sr_pass (e := 49) rfl rfl (by rw [hg52]; rfl) (by decide) ?_
     refine sr_ev (v := .bool false) (ev_pick_f rfl hg52 rfl) (by decide) ?_
     exact sr_weaken (l' := [(53, .bool false)]) (.cons rfl (.nil _)) (K53 false _ ⟨by rw [hg52]; rfl, rfl⟩)
theorem ref01_Word_ok (w0 : World) (hg : Gs w0) {s_0 : Str} {r : Bool} (hS : ref01_Word s_0 = some r) :
  Calls Try.prog 49 #[str s_0] w0 (Ret (fun v w' => v = .bool r ∧ Below w0.heap.size w0 w')) := by
 unfold ref01_Word at hS
 have hb := Below.refl w0.heap.size w0
 refine calls_of_ke Try.func49 rfl (n := 54) rfl rfl (l := [(0, str s_0)]) rfl ?_
 refine ke_seq ?_
 refine ke_region ?_
 refine sr_ev (v := .bool false) (ev_assign rfl) (by decide) ?_
 refine sr_end (l' := [(0, str s_0)]) (.cons rfl (.nil _)) ?_
 refine ke_seq ?_
 refine ke_seq ?_
 refine ke_region ?_
 refine sr_ev (v := .int .i64 0) (ev_assign rfl) (by decide) ?_
 refine sr_end (l' := [(0, str s_0), (3, .int .i64 0)]) (.cons rfl (.cons rfl (.nil _))) ?_
 refine ke_block ?_
 have hK := ref01_Word_L1_ok hg _ hS hb
 exact ke_weaken (l' := [(0, str s_0), (3, .int .i64 0)]) (.cons rfl (.cons rfl (.nil _))) (ke_loop hK)
theorem ref29_Valid_L1_ok {w0 : World} (hg : Gs w0) : ∀ (n : Nat), ∀ {r : Bool} {s_0 : Str} {i_3 : Int}, ref29_Valid_L1 n s_0 i_3 = some r → ∀ {w : World}, (Below w0.heap.size w0 w) → KE Try.prog 53 (Ret (fun v w' => v = .bool r ∧ Below w0.heap.size w0 w')) 37 [.code (sub (bodyOf Try.f53) [2, 2, 1, 2, 2, 1]), .inLoop (sub (bodyOf Try.f53) [2, 2, 1, 2, 2, 1]), .inBlock 0, .code (sub (bodyOf Try.f53) [2, 2, 2])] [(0, str s_0), (3, .int .i64 i_3)] w := by
 intro n
 induction n with
 | zero => intro r s_0 i_3 hS; cases hS
 | succ n ih =>
  have hr0 : ∀ {r : Bool} {s_0 : Str} {i_3 : Int}, ref29_Valid_L1 n s_0 i_3 = some r → ∀ {w : World}, (Below w0.heap.size w0 w) → KE Try.prog 53 (Ret (fun v w' => v = .bool r ∧ Below w0.heap.size w0 w')) 37 [.inLoop (sub (bodyOf Try.f53) [2, 2, 1, 2, 2, 1]), .inBlock 0, .code (sub (bodyOf Try.f53) [2, 2, 2])] [(0, str s_0), (3, .int .i64 i_3)] w := fun {r} {s_0} {i_3} hS {w} hb => ke_inLoop (ih hS hb)
  clear ih
  intro r s_0 i_3 hS w hb
  unfold ref29_Valid_L1 at hS
  refine ke_seq ?_
  refine ke_seq ?_
  refine ke_region ?_
  refine sr_ev (v := .int .i64 i_3) (ev_move rfl) (by decide) ?_
  refine sr_ev (v := str s_0) (ev_move rfl) (by decide) ?_
  refine sr_ev (v := .int .i64 (s_0.length : Int)) (ev_slen Try.underlying9 rfl) (by decide) ?_
  refine sr_ev (v := .bool (decide (i_3 < (s_0.length : Int)))) (ev_lt rfl rfl) (by decide) ?_
  refine sr_end (l' := [(0, str s_0), (3, .int .i64 i_3), (23, .bool (decide (i_3 < (s_0.length : Int))))]) (.cons rfl (.cons rfl (.cons rfl (.nil _)))) ?_
  refine ke_cond (t := decide (i_3 < (s_0.length : Int))) rfl (fun hc22 => ?_) (fun hc22 => ?_)
  ·replace hS := ite_true' hS hc22
   refine ke_skip ?_
   refine ke_seq ?_
   refine ke_block ?_
   refine ke_seq ?_
   refine ke_region ?_
   refine sr_ev (v := str s_0) (ev_move rfl) (by decide) ?_
   refine sr_ev (v := .int .i64 i_3) (ev_move rfl) (by decide) ?_
   obtain ⟨hk23, hS⟩ := chk_some hS
   refine sr_ev (v := .int .u8 (byteAt s_0 i_3)) (ev_sindex Try.underlying9 rfl rfl hk23) (by decide) ?_
   refine sr_ev (v := .bool ((byteAt s_0 i_3) == 46)) (ev_eq rfl rfl) (by decide) ?_
   refine sr_ev (v := .bool ((byteAt s_0 i_3) == 46)) (ev_move rfl) (by decide) ?_
   obtain ⟨z26, hz28, hS⟩ := bind_some' hS
   refine sr_join (m := 6) (C := fun (x : Bool) w1 => z26 = x ∧ Below w.heap.size w w1) (l' := fun x => [(0, str s_0), (3, .int .i64 i_3), (36, .bool x)]) ?_ ?_
   ·rintro _ w29 ⟨rfl, hbw30⟩
    replace hb := hb.trans (hbw30.mono hb.size)
    refine sr_end (l' := [(0, str s_0), (3, .int .i64 i_3), (36, .bool z26)]) (.cons rfl (.cons rfl (.cons rfl (.nil _)))) ?_
    refine ke_cond (t := z26) rfl (fun hc32 => ?_) (fun hc32 => ?_)
    ·replace hS := ite_true' hS hc32
     refine ke_seq ?_
     refine ke_region ?_
     refine sr_ev (v := .bool false) (ev_assign rfl) (by decide) ?_
     refine sr_end (l' := [(2, .bool false)]) (.cons rfl (.nil _)) ?_
     cases hS
     exact ke_ret1 Try.func53 rfl rfl ⟨_, rfl, rfl, hb⟩
    ·replace hS := ite_false' hS hc32
     refine ke_skip ?_
     refine ke_inBlock ?_
     refine ke_region ?_
     refine sr_ev (v := .int .i64 i_3) (ev_move rfl) (by decide) ?_
     refine sr_ev (v := .int .i64 (IntKind.i64.wrap (i_3 + 1))) (ev_add rfl rfl) (by decide) ?_
     refine sr_ev (v := .int .i64 (IntKind.i64.wrap (i_3 + 1))) (ev_assign rfl) (by decide) ?_
     refine sr_end (l' := [(0, str s_0), (3, .int .i64 (IntKind.i64.wrap (i_3 + 1)))]) (.cons rfl (.cons rfl (.nil _))) ?_
     have hK := hr0 hS hb
     exact ke_weaken (l' := [(0, str s_0), (3, .int .i64 (IntKind.i64.wrap (i_3 + 1)))]) (.cons rfl (.cons rfl (.nil _))) hK
   ·intro K25
    clear hS
    have hj27 := Below.refl w.heap.size w
    rcases Bool.eq_false_or_eq_true ((byteAt s_0 i_3) == 46) with hg24 | hg24
    ·have hS := ite_true' hz28 hg24
     refine sr_evg (b := true) (e := 30) rfl rfl hg24 (v := str s_0) (ev_move rfl) (by decide) ?_
     refine sr_evg (b := true) (e := 30) rfl rfl hg24 (v := .int .i64 i_3) (ev_move rfl) (by decide) ?_
     refine sr_evg (b := true) (e := 30) rfl rfl hg24 (v := .int .i64 (IntKind.i64.wrap (i_3 - 1))) (ev_sub rfl rfl) (by decide) ?_
     obtain ⟨hk31, hS⟩ := chk_some hS
     refine sr_evg (b := true) (e := 30) rfl rfl hg24 (v := .int .u8 (byteAt s_0 (IntKind.i64.wrap (i_3 - 1)))) (ev_sindex Try.underlying9 rfl rfl hk31) (by decide) ?_
     refine sr_evg (b := true) (e := 30) rfl rfl hg24 (v := .bool ((byteAt s_0 (IntKind.i64.wrap (i_3 - 1))) == 46)) (ev_eq rfl rfl) (by decide) ?_
     refine sr_ev (v := .bool ((byteAt s_0 (IntKind.i64.wrap (i_3 - 1))) == 46)) (ev_pick_t rfl hg24 rfl) (by decide) ?_
     exact sr_weaken (l' := [(0, str s_0), (3, .int .i64 i_3), (36, .bool ((byteAt s_0 (IntKind.i64.wrap (i_3 - 1))) == 46))]) (.cons rfl (.cons rfl (.cons rfl (.nil _)))) (K25 ((byteAt s_0 (IntKind.i64.wrap (i_3 - 1))) == 46) _ ⟨(Option.some.inj hS).symm, hj27⟩)
    ·have hS := ite_false' hz28 hg24
     refine sr_pass (e := 30) rfl rfl (by rw [hg24]; rfl) (by decide) ?_
     refine sr_pass (e := 30) rfl rfl (by rw [hg24]; rfl) (by decide) ?_
     refine sr_pass (e := 30) rfl rfl (by rw [hg24]; rfl) (by decide) ?_
     refine sr_pass (e := 30) rfl rfl (by rw [hg24]; rfl) (by decide) ?_
     refine sr_pass (e := 30) rfl rfl (by rw [hg24]; rfl) (by decide) ?_
     refine sr_ev (v := .bool false) (ev_pick_f rfl hg24 rfl) (by decide) ?_
     exact sr_weaken (l' := [(0, str s_0), (3, .int .i64 i_3), (36, .bool false)]) (.cons rfl (.cons rfl (.cons rfl (.nil _)))) (K25 false _ ⟨(Option.some.inj hS).symm, hj27⟩)
  ·replace hS := ite_false' hS hc22
   refine ke_exit (k' := _) rfl ?_
   refine ke_seq ?_
   refine ke_region ?_
   refine sr_ev (v := .bool true) (ev_assign rfl) (by decide) ?_
   refine sr_end (l' := [(2, .bool true)]) (.cons rfl (.nil _)) ?_
   cases hS
   exact ke_ret1 Try.func53 rfl rfl ⟨_, rfl, rfl, hb⟩
theorem ref29_Valid_ok (w0 : World) (hg : Gs w0) {s_0 : Str} {r : Bool} (hS : ref29_Valid s_0 = some r) :
  Calls Try.prog 53 #[str s_0] w0 (Ret (fun v w' => v = .bool r ∧ Below w0.heap.size w0 w')) := by
 unfold ref29_Valid at hS
 have hb := Below.refl w0.heap.size w0
 refine calls_of_ke Try.func53 rfl (n := 37) rfl rfl (l := [(0, str s_0)]) rfl ?_
 refine ke_seq ?_
 refine ke_region ?_
 refine sr_ev (v := .bool false) (ev_assign rfl) (by decide) ?_
 refine sr_end (l' := [(0, str s_0)]) (.cons rfl (.nil _)) ?_
 refine ke_seq ?_
 refine ke_seq ?_
 refine ke_region ?_
 refine sr_ev (v := str s_0) (ev_move rfl) (by decide) ?_
 obtain ⟨y1, hy2, hS⟩ := bind_some' hS
 refine sr_call (vs := [str s_0]) rfl Try.call49 rfl (ref01_Word_ok _ (hg.below hb) hy2) (by decide) ?_
 rintro _ w3 ⟨rfl, hbw4⟩
 replace hb := hb.trans (hbw4.mono hb.size)
 refine sr_ev (v := .bool (!y1)) (ev_not rfl) (by decide) ?_
 refine sr_ev (v := .bool (!y1)) (ev_move rfl) (by decide) ?_
 obtain ⟨z7, hz9, hS⟩ := bind_some' hS
 refine sr_join (m := 4) (C := fun (x : Bool) w1 => z7 = x ∧ Below w3.heap.size w3 w1) (l' := fun x => [(0, str s_0), (11, .bool x)]) ?_ ?_
 ·rintro _ w10 ⟨rfl, hbw11⟩
  replace hb := hb.trans (hbw11.mono hb.size)
  refine sr_ev (v := .bool z7) (ev_move rfl) (by decide) ?_
  obtain ⟨z15, hz17, hS⟩ := bind_some' hS
  refine sr_join (m := 7) (C := fun (x : Bool) w1 => z15 = x ∧ Below w10.heap.size w10 w1) (l' := fun x => [(0, str s_0), (19, .bool x)]) ?_ ?_
  ·rintro _ w18 ⟨rfl, hbw19⟩
   replace hb := hb.trans (hbw19.mono hb.size)
   refine sr_end (l' := [(0, str s_0), (19, .bool z15)]) (.cons rfl (.cons rfl (.nil _))) ?_
   refine ke_cond (t := z15) rfl (fun hc21 => ?_) (fun hc21 => ?_)
   ·replace hS := ite_true' hS hc21
    refine ke_seq ?_
    refine ke_region ?_
    refine sr_ev (v := .bool false) (ev_assign rfl) (by decide) ?_
    refine sr_end (l' := [(2, .bool false)]) (.cons rfl (.nil _)) ?_
    cases hS
    exact ke_ret1 Try.func53 rfl rfl ⟨_, rfl, rfl, hb⟩
   ·replace hS := ite_false' hS hc21
    refine ke_skip ?_
    refine ke_seq ?_
    refine ke_seq ?_
    refine ke_region ?_
    refine sr_ev (v := .int .i64 1) (ev_assign rfl) (by decide) ?_
    refine sr_end (l' := [(0, str s_0), (3, .int .i64 1)]) (.cons rfl (.cons rfl (.nil _))) ?_
    refine ke_block ?_
    have hK := ref29_Valid_L1_ok hg _ hS hb
    exact ke_weaken (l' := [(0, str s_0), (3, .int .i64 1)]) (.cons rfl (.cons rfl (.nil _))) (ke_loop hK)
  ·intro K14
   clear hS
   have hj16 := Below.refl w10.heap.size w10
   rcases Bool.eq_false_or_eq_true z7 with hg13 | hg13
   ·have hS := ite_true' hz17 hg13
    refine sr_pass (e := 12) rfl rfl (by rw [hg13]; rfl) (by decide) ?_
    refine sr_pass (e := 12) rfl rfl (by rw [hg13]; rfl) (by decide) ?_
    refine sr_pass (e := 12) rfl rfl (by rw [hg13]; rfl) (by decide) ?_
    refine sr_pass (e := 12) rfl rfl (by rw [hg13]; rfl) (by decide) ?_
    refine sr_pass (e := 12) rfl rfl (by rw [hg13]; rfl) (by decide) ?_
    refine sr_pass (e := 12) rfl rfl (by rw [hg13]; rfl) (by decide) ?_
    refine sr_ev (v := .bool true) (ev_pick_t rfl hg13 rfl) (by decide) ?_
    exact sr_weaken (l' := [(0, str s_0), (19, .bool true)]) (.cons rfl (.cons rfl (.nil _))) (K14 true _ ⟨(Option.some.inj hS).symm, hj16⟩)
   ·have hS := ite_false' hz17 hg13
    refine sr_evg (b := false) (e := 12) rfl rfl hg13 (v := str s_0) (ev_move rfl) (by decide) ?_
    refine sr_evg (b := false) (e := 12) rfl rfl hg13 (v := str s_0) (ev_move rfl) (by decide) ?_
    refine sr_evg (b := false) (e := 12) rfl rfl hg13 (v := .int .i64 (s_0.length : Int)) (ev_slen Try.underlying9 rfl) (by decide) ?_
    refine sr_evg (b := false) (e := 12) rfl rfl hg13 (v := .int .i64 (IntKind.i64.wrap ((s_0.length : Int) - 1))) (ev_sub rfl rfl) (by decide) ?_
    obtain ⟨hk20, hS⟩ := chk_some hS
    refine sr_evg (b := false) (e := 12) rfl rfl hg13 (v := .int .u8 (byteAt s_0 (IntKind.i64.wrap ((s_0.length : Int) - 1)))) (ev_sindex Try.underlying9 rfl rfl hk20) (by decide) ?_
    refine sr_evg (b := false) (e := 12) rfl rfl hg13 (v := .bool ((byteAt s_0 (IntKind.i64.wrap ((s_0.length : Int) - 1))) == 46)) (ev_eq rfl rfl) (by decide) ?_
    refine sr_ev (v := .bool ((byteAt s_0 (IntKind.i64.wrap ((s_0.length : Int) - 1))) == 46)) (ev_pick_f rfl hg13 rfl) (by decide) ?_
    exact sr_weaken (l' := [(0, str s_0), (19, .bool ((byteAt s_0 (IntKind.i64.wrap ((s_0.length : Int) - 1))) == 46))]) (.cons rfl (.cons rfl (.nil _))) (K14 ((byteAt s_0 (IntKind.i64.wrap ((s_0.length : Int) - 1))) == 46) _ ⟨(Option.some.inj hS).symm, hj16⟩)
 ·intro K6
  clear hS
  have hj8 := Below.refl w3.heap.size w3
  rcases Bool.eq_false_or_eq_true (!y1) with hg5 | hg5
  ·have hS := ite_true' hz9 hg5
   refine sr_pass (e := 7) rfl rfl (by rw [hg5]; rfl) (by decide) ?_
   refine sr_pass (e := 7) rfl rfl (by rw [hg5]; rfl) (by decide) ?_
   refine sr_pass (e := 7) rfl rfl (by rw [hg5]; rfl) (by decide) ?_
   refine sr_ev (v := .bool true) (ev_pick_t rfl hg5 rfl) (by decide) ?_
   exact sr_weaken (l' := [(0, str s_0), (11, .bool true)]) (.cons rfl (.cons rfl (.nil _))) (K6 true _ ⟨(Option.some.inj hS).symm, hj8⟩)
  ·have hS := ite_false' hz9 hg5
   refine sr_evg (b := false) (e := 7) rfl rfl hg5 (v := str s_0) (ev_move rfl) (by decide) ?_
   obtain ⟨hk12, hS⟩ := chk_some hS
   refine sr_evg (b := false) (e := 7) rfl rfl hg5 (v := .int .u8 (byteAt s_0 0)) (ev_sindex Try.underlying9 rfl rfl hk12) (by decide) ?_
   refine sr_evg (b := false) (e := 7) rfl rfl hg5 (v := .bool ((byteAt s_0 0) == 46)) (ev_eq rfl rfl) (by decide) ?_
   refine sr_ev (v := .bool ((byteAt s_0 0) == 46)) (ev_pick_f rfl hg5 rfl) (by decide) ?_
   exact sr_weaken (l' := [(0, str s_0), (11, .bool ((byteAt s_0 0) == 46))]) (.cons rfl (.cons rfl (.nil _))) (K6 ((byteAt s_0 0) == 46) _ ⟨(Option.some.inj hS).symm, hj8⟩)
theorem ref29_Check_L2_ok {w0 : World} (hg : Gs w0) {A0 : Nat → Prop} (hA0 : ∀ b, A0 b → b < w0.heap.size) (r0 : List Str → Int → Option (Int))
  (hr0 : ∀ {r : Int} {l_0 : List Str} {i_3 : Int} {vl_0 : Value}, r0 l_0 i_3 = some r → ∀ {w : World} {A : Nat → Prop}, (Below w0.heap.size w0 w) → (∀ b, A b → b < w.heap.size) → (∀ b, A0 b → A b) → (Hp A w0.heap.size w []) → (SlR strC A w vl_0 l_0) → KE Try.prog 50 (Ret (fun v w' => v = .int .i64 r ∧ Below w0.heap.size w0 w')) 34 [.inLoop (sub (bodyOf Try.f50) [2, 2, 1, 2, 2, 1]), .inBlock 0, .code (sub (bodyOf Try.f50) [2, 2, 2])] [(0, vl_0), (3, .int .i64 i_3)] w) : ∀ (n : Nat), ∀ {r : Int} {l_0 : List Str} {i_3 : Int} {k_4 : Int} {vl_0 : Value}, ref29_Check_L2 r0 n l_0 i_3 k_4 = some r → ∀ {w : World} {A : Nat → Prop}, (Below w0.heap.size w0 w) → (∀ b, A b → b < w.heap.size) → (∀ b, A0 b → A b) → (Hp A w0.heap.size w []) → (SlR strC A w vl_0 l_0) → KE Try.prog 50 (Ret (fun v w' => v = .int .i64 r ∧ Below w0.heap.size w0 w')) 34 [.code (sub (bodyOf Try.f50) [2, 2, 1, 2, 2, 1, 2, 1, 2, 2, 2, 2, 1]), .inLoop (sub (bodyOf Try.f50) [2, 2, 1, 2, 2, 1, 2, 1, 2, 2, 2, 2, 1]), .inBlock 2, .inBlock 1, .code (sub (bodyOf Try.f50) [2, 2, 1, 2, 2, 1, 2, 2]), .inLoop (sub (bodyOf Try.f50) [2, 2, 1, 2, 2, 1]), .inBlock 0, .code (sub (bodyOf Try.f50) [2, 2, 2])] [(0, vl_0), (3, .int .i64 i_3), (4, .int .i64 k_4)] w := by
 intro n
 induction n with
 | zero => intro r l_0 i_3 k_4 vl_0 hS; cases hS
 | succ n ih =>
  have hr1 : ∀ {r : Int} {l_0 : List Str} {i_3 : Int} {k_4 : Int} {vl_0 : Value}, ref29_Check_L2 r0 n l_0 i_3 k_4 = some r → ∀ {w : World} {A : Nat → Prop}, (Below w0.heap.size w0 w) → (∀ b, A b → b < w.heap.size) → (∀ b, A0 b → A b) → (Hp A w0.heap.size w []) → (SlR strC A w vl_0 l_0) → KE Try.prog 50 (Ret (fun v w' => v = .int .i64 r ∧ Below w0.heap.size w0 w')) 34 [.inLoop (sub (bodyOf Try.f50) [2, 2, 1, 2, 2, 1, 2, 1, 2, 2, 2, 2, 1]), .inBlock 2, .inBlock 1, .code (sub (bodyOf Try.f50) [2, 2, 1, 2, 2, 1, 2, 2]), .inLoop (sub (bodyOf Try.f50) [2, 2, 1, 2, 2, 1]), .inBlock 0, .code (sub (bodyOf Try.f50) [2, 2, 2])] [(0, vl_0), (3, .int .i64 i_3), (4, .int .i64 k_4)] w := fun {r} {l_0} {i_3} {k_4} {vl_0} hS {w} {A} hb hA hi hH hl_0 => ke_inLoop (ih hS hb hA hi hH hl_0)
  clear ih
  intro r l_0 i_3 k_4 vl_0 hS w A hb hA hi hH hl_0
  unfold ref29_Check_L2 at hS
  refine ke_seq ?_
  refine ke_seq ?_
  refine ke_region ?_
  refine sr_ev (v := .int .i64 k_4) (ev_move rfl) (by decide) ?_
  refine sr_ev (v := .int .i64 i_3) (ev_move rfl) (by decide) ?_
  refine sr_ev (v := .bool (decide (k_4 < i_3))) (ev_lt rfl rfl) (by decide) ?_
  refine sr_end (l' := [(0, vl_0), (3, .int .i64 i_3), (4, .int .i64 k_4), (22, .bool (decide (k_4 < i_3)))]) (.cons rfl (.cons rfl (.cons rfl (.cons rfl (.nil _))))) ?_
  refine ke_cond (t := decide (k_4 < i_3)) rfl (fun hc16 => ?_) (fun hc16 => ?_)
  ·replace hS := ite_true' hS hc16
   refine ke_skip ?_
   refine ke_seq ?_
   refine ke_block ?_
   refine ke_seq ?_
   refine ke_region_q Try.mixed (by kernel_rfl) ?_
   refine sq_ev (v := vl_0) (fun w1 hw1 => ev_move rfl) (by decide) ?_
   refine sq_ev (v := .int .i64 k_4) (fun w1 hw1 => ev_move rfl) (by decide) ?_
   obtain ⟨y19, hy20, hS⟩ := bind_some' hS
   obtain ⟨b21, o22, cs24, he23, hixhe23⟩ := hl_0.elem Try.underlying30 Try.info9 rfl (P := Try.prog) hy20
   obtain rfl : cs24 = [str y19] := he23.rd
   refine sq_ev (v := .pointer (some ⟨b21, o22, none⟩)) (fun w1 hw1 => hixhe23 w1 hw1 rfl rfl) (by decide) ?_
   refine sq_ev (v := str y19) (fun w1 hw1 => ev_load Try.isAgg9 rfl ((he23.step (.of_below hw1) (Nat.succ_pos _)).cell 0 _ rfl)) (by decide) ?_
   refine sq_ev (v := vl_0) (fun w1 hw1 => ev_move rfl) (by decide) ?_
   refine sq_ev (v := .int .i64 i_3) (fun w1 hw1 => ev_move rfl) (by decide) ?_
   obtain ⟨y25, hy26, hS⟩ := bind_some' hS
   obtain ⟨b27, o28, cs30, he29, hixhe29⟩ := hl_0.elem Try.underlying30 Try.info9 rfl (P := Try.prog) hy26
   obtain rfl : cs30 = [str y25] := he29.rd
   refine sq_ev (v := .pointer (some ⟨b27, o28, none⟩)) (fun w1 hw1 => hixhe29 w1 hw1 rfl rfl) (by decide) ?_
   refine sq_ev (v := str y25) (fun w1 hw1 => ev_load Try.isAgg9 rfl ((he29.step (.of_below hw1) (Nat.succ_pos _)).cell 0 _ rfl)) (by decide) ?_
   refine sq_ev (v := .bool (y19 == y25)) (fun w1 hw1 => ev_seq rfl rfl) (by decide) ?_
   refine sq_end (l' := [(0, vl_0), (3, .int .i64 i_3), (4, .int .i64 k_4), (33, .bool (y19 == y25))]) (.cons rfl (.cons rfl (.cons rfl (.cons rfl (.nil _))))) (fun w18 hw17 => ?_)
   replace hb := hb.trans (hw17.mono hb.size)
   replace hA := lt_mono hA hw17.size
   replace hH := hH.below hw17
   replace hl_0 := hl_0.below hw17
   refine ke_cond (t := y19 == y25) rfl (fun hc31 => ?_) (fun hc31 => ?_)
   ·replace hS := ite_true' hS hc31
    refine ke_seq ?_
    refine ke_region ?_
    refine sr_ev (v := .int .i64 7) (ev_assign rfl) (by decide) ?_
    refine sr_end (l' := [(2, .int .i64 7)]) (.cons rfl (.nil _)) ?_
    cases hS
    exact ke_ret1 Try.func50 rfl rfl ⟨_, rfl, rfl, hb⟩
   ·replace hS := ite_false' hS hc31
    refine ke_skip ?_
    refine ke_inBlock ?_
    refine ke_region ?_
    refine sr_ev (v := .int .i64 k_4) (ev_move rfl) (by decide) ?_
    refine sr_ev (v := .int .i64 (IntKind.i64.wrap (k_4 + 1))) (ev_add rfl rfl) (by decide) ?_
    refine sr_ev (v := .int .i64 (IntKind.i64.wrap (k_4 + 1))) (ev_assign rfl) (by decide) ?_
    refine sr_end (l' := [(0, vl_0), (3, .int .i64 i_3), (4, .int .i64 (IntKind.i64.wrap (k_4 + 1)))]) (.cons rfl (.cons rfl (.cons rfl (.nil _)))) ?_
    have hK := hr1 hS hb hA hi hH hl_0
    exact ke_weaken (l' := [(0, vl_0), (3, .int .i64 i_3), (4, .int .i64 (IntKind.i64.wrap (k_4 + 1)))]) (.cons rfl (.cons rfl (.cons rfl (.nil _)))) hK
  ·replace hS := ite_false' hS hc16
   refine ke_exit (k' := _) rfl ?_
   refine ke_inBlock ?_
   refine ke_region ?_
   refine sr_ev (v := .int .i64 i_3) (ev_move rfl) (by decide) ?_
   refine sr_ev (v := .int .i64 (IntKind.i64.wrap (i_3 + 1))) (ev_add rfl rfl) (by decide) ?_
   refine sr_ev (v := .int .i64 (IntKind.i64.wrap (i_3 + 1))) (ev_assign rfl) (by decide) ?_
   refine sr_end (l' := [(0, vl_0), (3, .int .i64 (IntKind.i64.wrap (i_3 + 1)))]) (.cons rfl (.cons rfl (.nil _))) ?_
   have hK := hr0 hS hb hA hi hH hl_0
   exact ke_weaken (l' := [(0, vl_0), (3, .int .i64 (IntKind.i64.wrap (i_3 + 1)))]) (.cons rfl (.cons rfl (.nil _))) hK
theorem ref29_Check_L1_ok {w0 : World} (hg : Gs w0) {A0 : Nat → Prop} (hA0 : ∀ b, A0 b → b < w0.heap.size) : ∀ (n : Nat), ∀ {r : Int} {l_0 : List Str} {i_3 : Int} {vl_0 : Value}, ref29_Check_L1 n l_0 i_3 = some r → ∀ {w : World} {A : Nat → Prop}, (Below w0.heap.size w0 w) → (∀ b, A b → b < w.heap.size) → (∀ b, A0 b → A b) → (Hp A w0.heap.size w []) → (SlR strC A w vl_0 l_0) → KE Try.prog 50 (Ret (fun v w' => v = .int .i64 r ∧ Below w0.heap.size w0 w')) 34 [.code (sub (bodyOf Try.f50) [2, 2, 1, 2, 2, 1]), .inLoop (sub (bodyOf Try.f50) [2, 2, 1, 2, 2, 1]), .inBlock 0, .code (sub (bodyOf Try.f50) [2, 2, 2])] [(0, vl_0), (3, .int .i64 i_3)] w := by
 intro n
 induction n with
 | zero => intro r l_0 i_3 vl_0 hS; cases hS
 | succ n ih =>
  have hr0 : ∀ {r : Int} {l_0 : List Str} {i_3 : Int} {vl_0 : Value}, ref29_Check_L1 n l_0 i_3 = some r → ∀ {w : World} {A : Nat → Prop}, (Below w0.heap.size w0 w) → (∀ b, A b → b < w.heap.size) → (∀ b, A0 b → A b) → (Hp A w0.heap.size w []) → (SlR strC A w vl_0 l_0) → KE Try.prog 50 (Ret (fun v w' => v = .int .i64 r ∧ Below w0.heap.size w0 w')) 34 [.inLoop (sub (bodyOf Try.f50) [2, 2, 1, 2, 2, 1]), .inBlock 0, .code (sub (bodyOf Try.f50) [2, 2, 2])] [(0, vl_0), (3, .int .i64 i_3)] w := fun {r} {l_0} {i_3} {vl_0} hS {w} {A} hb hA hi hH hl_0 => ke_inLoop (ih hS hb hA hi hH hl_0)
  clear ih
  intro r l_0 i_3 vl_0 hS w A hb hA hi hH hl_0
  unfold ref29_Check_L1 at hS
  refine ke_seq ?_
  refine ke_seq ?_
  refine ke_region ?_
  refine sr_ev (v := .int .i64 i_3) (ev_move rfl) (by decide) ?_
  refine sr_ev (v := vl_0) (ev_move rfl) (by decide) ?_
  refine sr_ev (v := .int .i64 (l_0.length : Int)) (ev_sllen Try.underlying30 rfl hl_0) (by decide) ?_
  refine sr_ev (v := .bool (decide (i_3 < (l_0.length : Int)))) (ev_lt rfl rfl) (by decide) ?_
  refine sr_end (l' := [(0, vl_0), (3, .int .i64 i_3), (11, .bool (decide (i_3 < (l_0.length : Int))))]) (.cons rfl (.cons rfl (.cons rfl (.nil _)))) ?_
  refine ke_cond (t := decide (i_3 < (l_0.length : Int))) rfl (fun hc4 => ?_) (fun hc4 => ?_)
  ·replace hS := ite_true' hS hc4
   refine ke_skip ?_
   refine ke_seq ?_
   refine ke_block ?_
   refine ke_seq ?_
   refine ke_seq ?_
   refine ke_region ?_
   refine sr_ev (v := vl_0) (ev_move rfl) (by decide) ?_
   refine sr_ev (v := .int .i64 i_3) (ev_move rfl) (by decide) ?_
   obtain ⟨y5, hy6, hS⟩ := bind_some' hS
   refine sr_index hl_0 Try.underlying30 Try.info9 rfl rfl rfl hy6 (by decide) ?_
   intro b7 o8 cs10 he9
   obtain rfl : cs10 = [str y5] := he9.rd
   refine sr_ev (v := str y5) (ev_load Try.isAgg9 rfl (he9.cell 0 _ rfl)) (by decide) ?_
   obtain ⟨y11, hy12, hS⟩ := bind_some' hS
   refine sr_call (vs := [str y5]) rfl Try.call53 rfl (ref29_Valid_ok _ (hg.below hb) hy12) (by decide) ?_
   rintro _ w13 ⟨rfl, hbw14⟩
   replace hb := hb.trans (hbw14.mono hb.size)
   replace hA := lt_mono hA hbw14.size
   replace hH := hH.below hbw14
   replace hl_0 := hl_0.below hbw14
   refine sr_ev (v := .bool (!y11)) (ev_not rfl) (by decide) ?_
   refine sr_end (l' := [(0, vl_0), (3, .int .i64 i_3), (19, .bool (!y11))]) (.cons rfl (.cons rfl (.cons rfl (.nil _)))) ?_
   refine ke_cond (t := !y11) rfl (fun hc15 => ?_) (fun hc15 => ?_)
   ·replace hS := ite_true' hS hc15
    refine ke_seq ?_
    refine ke_region ?_
    refine sr_ev (v := .int .i64 5) (ev_assign rfl) (by decide) ?_
    refine sr_end (l' := [(2, .int .i64 5)]) (.cons rfl (.nil _)) ?_
    cases hS
    exact ke_ret1 Try.func50 rfl rfl ⟨_, rfl, rfl, hb⟩
   ·replace hS := ite_false' hS hc15
    refine ke_skip ?_
    refine ke_seq ?_
    refine ke_region ?_
    refine sr_ev (v := .int .i64 0) (ev_assign rfl) (by decide) ?_
    refine sr_end (l' := [(0, vl_0), (3, .int .i64 i_3), (4, .int .i64 0)]) (.cons rfl (.cons rfl (.cons rfl (.nil _)))) ?_
    refine ke_block ?_
    have hK := ref29_Check_L2_ok hg hA0 _ hr0 _ hS hb hA hi hH hl_0
    exact ke_weaken (l' := [(0, vl_0), (3, .int .i64 i_3), (4, .int .i64 0)]) (.cons rfl (.cons rfl (.cons rfl (.nil _)))) (ke_loop hK)
  ·replace hS := ite_false' hS hc4
   refine ke_exit (k' := _) rfl ?_
   refine ke_seq ?_
   refine ke_region ?_
   refine sr_ev (v := .int .i64 0) (ev_assign rfl) (by decide) ?_
   refine sr_end (l' := [(2, .int .i64 0)]) (.cons rfl (.nil _)) ?_
   cases hS
   exact ke_ret1 Try.func50 rfl rfl ⟨_, rfl, rfl, hb⟩
theorem ref29_Check_ok {A0 : Nat → Prop} (w0 : World) (hg : Gs w0) {l_0 : List Str} {v1 : Value} {r : Int} (h2 : SlR strC A0 w0 v1 l_0) (hS : ref29_Check l_0 = some r) :
  Calls Try.prog 50 #[v1] w0 (Ret (fun v w' => v = .int .i64 r ∧ Below w0.heap.size w0 w')) := by
 unfold ref29_Check at hS
 have hb := Below.refl w0.heap.size w0
 replace h2 := h2.weak (A' := fun _ => False) (fun _ h => h.elim)
 obtain ⟨A0, hA0, hAe⟩ : ∃ A0 : Nat → Prop, (∀ b, A0 b → b < w0.heap.size) ∧ A0 = fun _ => False := ⟨_, fun _ h => h.elim, rfl⟩
 rw [← hAe] at h2
 clear hAe
 have hA := hA0
 have hi : ∀ b, A0 b → A0 b := fun _ h => h
 have hH := Hp.nil A0 w0.heap.size w0
 refine calls_of_ke Try.func50 rfl (n := 34) rfl rfl (l := [(0, v1)]) rfl ?_
 refine ke_seq ?_
 refine ke_region ?_
 refine sr_ev (v := .int .i64 0) (ev_assign rfl) (by decide) ?_
 refine sr_end (l' := [(0, v1)]) (.cons rfl (.nil _)) ?_
 refine ke_seq ?_
 refine ke_seq ?_
 refine ke_region ?_
 refine sr_ev (v := v1) (ev_move rfl) (by decide) ?_
 refine sr_ev (v := .int .i64 (l_0.length : Int)) (ev_sllen Try.underlying30 rfl h2) (by decide) ?_
 refine sr_ev (v := .bool (decide ((l_0.length : Int) > 16))) (ev_gt rfl rfl) (by decide) ?_
 refine sr_end (l' := [(0, v1), (7, .bool (decide ((l_0.length : Int) > 16)))]) (.cons rfl (.cons rfl (.nil _))) ?_
 refine ke_cond (t := decide ((l_0.length : Int) > 16)) rfl (fun hc3 => ?_) (fun hc3 => ?_)
 ·replace hS := ite_true' hS hc3
  refine ke_seq ?_
  refine ke_region ?_
  refine sr_ev (v := .int .i64 3) (ev_assign rfl) (by decide) ?_
  refine sr_end (l' := [(2, .int .i64 3)]) (.cons rfl (.nil _)) ?_
  cases hS
  exact ke_ret1 Try.func50 rfl rfl ⟨_, rfl, rfl, hb⟩
 ·replace hS := ite_false' hS hc3
  refine ke_skip ?_
  refine ke_seq ?_
  refine ke_seq ?_
  refine ke_region ?_
  refine sr_ev (v := .int .i64 0) (ev_assign rfl) (by decide) ?_
  refine sr_end (l' := [(0, v1), (3, .int .i64 0)]) (.cons rfl (.cons rfl (.nil _))) ?_
  refine ke_block ?_
  have hK := ref29_Check_L1_ok hg hA0 _ hS hb hA hi hH h2
  exact ke_weaken (l' := [(0, v1), (3, .int .i64 0)]) (.cons rfl (.cons rfl (.nil _))) (ke_loop hK)
theorem ref32_Consents_find_L1_ok {w0 : World} (hg : Gs w0) {ρA : Tags} (hbd : ∀ b, ρA b ≠ 0 → b < w0.heap.size) (hz : Gz (flat1 ρA)) : ∀ (n : Nat), ∀ {r : Int} {oc_0 : ref32_Consents} {user_1 : Str} {client_2 : Str} {i_7 : Int} {gc_0 : Nat}, ref32_Consents_find_L1 n oc_0 user_1 client_2 i_7 = some r → ∀ {ρ : Tags} {w : World}, (Fr (flat1 ρA) w0 ρ w) → (ref32_Consents.O (fun _ => 1) ρ w gc_0 oc_0) → KE Try.prog 36 (Ret (fun v w' => v = .int .i64 r ∧ Below w0.heap.size w0 w')) 40 [.code (sub (bodyOf Try.f36) [2, 1, 2, 2, 1]), .inLoop (sub (bodyOf Try.f36) [2, 1, 2, 2, 1]), .inBlock 0, .code (sub (bodyOf Try.f36) [2, 2])] [(0, .pointer (some ⟨gc_0, 0, none⟩)), (1, str user_1), (2, str client_2), (7, .int .i64 i_7)] w := by
 intro n
 induction n with
 | zero => intro r oc_0 user_1 client_2 i_7 gc_0 hS; cases hS
 | succ n ih =>
  have hr0 : ∀ {r : Int} {oc_0 : ref32_Consents} {user_1 : Str} {client_2 : Str} {i_7 : Int} {gc_0 : Nat}, ref32_Consents_find_L1 n oc_0 user_1 client_2 i_7 = some r → ∀ {ρ : Tags} {w : World}, (Fr (flat1 ρA) w0 ρ w) → (ref32_Consents.O (fun _ => 1) ρ w gc_0 oc_0) → KE Try.prog 36 (Ret (fun v w' => v = .int .i64 r ∧ Below w0.heap.size w0 w')) 40 [.inLoop (sub (bodyOf Try.f36) [2, 1, 2, 2, 1]), .inBlock 0, .code (sub (bodyOf Try.f36) [2, 2])] [(0, .pointer (some ⟨gc_0, 0, none⟩)), (1, str user_1), (2, str client_2), (7, .int .i64 i_7)] w := fun {r} {oc_0} {user_1} {client_2} {i_7} {gc_0} hS {ρ} {w} hb hoc_0 => ke_inLoop (ih hS hb hoc_0)
  clear ih
  intro r oc_0 user_1 client_2 i_7 gc_0 hS ρ w hb hoc_0
  unfold ref32_Consents_find_L1 at hS
  obtain ⟨v4, hB6, h5⟩ := hoc_0
  replace hB6 : Blk ρ 1 w gc_0 (.cells #[.bool oc_0.made, v4] 55 (0, 0)) := hB6
  replace h5 : OwnT ref32_pair.c 63 ρ 1 w v4 oc_0.pairs := h5
  refine ke_seq ?_
  refine ke_seq ?_
  refine ke_region ?_
  refine sr_ev (v := .int .i64 i_7) (ev_move rfl) (by decide) ?_
  refine sr_ev (v := .pointer (some ⟨gc_0, 0, none⟩)) (ev_move rfl) (by decide) ?_
  refine sr_ev (v := .pointer (some ⟨gc_0, 0, none⟩)) (ev_nilCheck rfl) (by decide) ?_
  refine sr_ev (v := .pointer (some ⟨gc_0, 1, none⟩)) (ev_fieldAddr (i := 1) Try.underlying55 rfl Try.info53 rfl rfl) (by decide) ?_
  refine sr_ev (v := v4) (ev_load Try.isAgg53 rfl (hB6.cell rfl)) (by decide) ?_
  refine sr_ev (v := .int .i64 (oc_0.pairs.length : Int)) (ev_sllen Try.underlying53 rfl h5.asSl) (by decide) ?_
  refine sr_ev (v := .bool (decide (i_7 < (oc_0.pairs.length : Int)))) (ev_lt rfl rfl) (by decide) ?_
  refine sr_end (l' := [(0, .pointer (some ⟨gc_0, 0, none⟩)), (1, str user_1), (2, str client_2), (7, .int .i64 i_7), (14, .bool (decide (i_7 < (oc_0.pairs.length : Int))))]) (.cons rfl (.cons rfl (.cons rfl (.cons rfl (.cons rfl (.nil _)))))) ?_
  refine ke_cond (t := decide (i_7 < (oc_0.pairs.length : Int))) rfl (fun hc7 => ?_) (fun hc7 => ?_)
  ·replace hS := ite_true' hS hc7
   refine ke_skip ?_
   refine ke_seq ?_
   refine ke_block ?_
   refine ke_seq ?_
   refine ke_region ?_
   refine sr_ev (v := .pointer (some ⟨gc_0, 0, none⟩)) (ev_move rfl) (by decide) ?_
   refine sr_ev (v := .pointer (some ⟨gc_0, 0, none⟩)) (ev_nilCheck rfl) (by decide) ?_
   refine sr_ev (v := .pointer (some ⟨gc_0, 1, none⟩)) (ev_fieldAddr (i := 1) Try.underlying55 rfl Try.info53 rfl rfl) (by decide) ?_
   refine sr_ev (v := v4) (ev_load Try.isAgg53 rfl (hB6.cell rfl)) (by decide) ?_
   refine sr_ev (v := .int .i64 i_7) (ev_move rfl) (by decide) ?_
   obtain ⟨y8, hy9, hS⟩ := bind_some' hS
   obtain ⟨b10, o11, cs13, hq14, he12, hg17, ho18⟩ := h5.elemQ (P := Try.prog) Try.underlying53 Try.info63 rfl hy9
   obtain ⟨v15, hcshe12, h16⟩ := he12.rd
   obtain rfl : cs13 = [str y8.user, str y8.client, v15] := hcshe12
   refine sr_ev (v := .pointer (some ⟨b10, o11, none⟩)) (hq14 w rfl rfl) (by decide) ?_
   refine sr_ev (v := .pointer (some ⟨b10, o11 + 0, none⟩)) (ev_fieldAddr (i := 0) Try.underlying63 rfl Try.info9 rfl rfl) (by decide) ?_
   refine sr_ev (v := str y8.user) (ev_load Try.isAgg9 rfl (he12.cell 0 _ rfl)) (by decide) ?_
   refine sr_ev (v := str user_1) (ev_move rfl) (by decide) ?_
   refine sr_ev (v := .bool (y8.user == user_1)) (ev_seq rfl rfl) (by decide) ?_
   refine sr_ev (v := .bool (y8.user == user_1)) (ev_move rfl) (by decide) ?_
   obtain ⟨z21, hz23, hS⟩ := bind_some' hS
   refine sr_join (m := 11) (C := fun (z : Bool) w1 => z21 = z ∧ ∃ ρ1, Tr ρ w (fun _ => false) ρ1 w1) (l' := fun z => [(0, .pointer (some ⟨gc_0, 0, none⟩)), (1, str user_1), (2, str client_2), (7, .int .i64 i_7), (38, .bool z)]) ?_ ?_
   ·rintro _ w24 ⟨rfl, ρ25, hj22⟩
    replace hB6 := hB6.mv (hj22.mv (i := 1) rfl)
    replace h5 := h5.mv (hj22.mv (i := 1) rfl) (by decide)
    replace hb := hb.trans hj22
    refine sr_end (l' := [(0, .pointer (some ⟨gc_0, 0, none⟩)), (1, str user_1), (2, str client_2), (7, .int .i64 i_7), (38, .bool z21)]) (.cons rfl (.cons rfl (.cons rfl (.cons rfl (.cons rfl (.nil _)))))) ?_
    refine ke_cond (t := z21) rfl (fun hc38 => ?_) (fun hc38 => ?_)
    ·replace hS := ite_true' hS hc38
     refine ke_seq ?_
     refine ke_region ?_
     refine sr_ev (v := .int .i64 i_7) (ev_move rfl) (by decide) ?_
     refine sr_ev (v := .int .i64 i_7) (ev_assign rfl) (by decide) ?_
     refine sr_end (l' := [(6, .int .i64 i_7)]) (.cons rfl (.nil _)) ?_
     cases hS
     exact ke_ret1 Try.func36 rfl rfl ⟨_, rfl, rfl, (hb.below (flat1_le _))⟩
    ·replace hS := ite_false' hS hc38
     refine ke_skip ?_
     refine ke_inBlock ?_
     refine ke_region ?_
     refine sr_ev (v := .int .i64 i_7) (ev_move rfl) (by decide) ?_
     refine sr_ev (v := .int .i64 (IntKind.i64.wrap (i_7 + 1))) (ev_add rfl rfl) (by decide) ?_
     refine sr_ev (v := .int .i64 (IntKind.i64.wrap (i_7 + 1))) (ev_assign rfl) (by decide) ?_
     refine sr_end (l' := [(0, .pointer (some ⟨gc_0, 0, none⟩)), (1, str user_1), (2, str client_2), (7, .int .i64 (IntKind.i64.wrap (i_7 + 1)))]) (.cons rfl (.cons rfl (.cons rfl (.cons rfl (.nil _))))) ?_
     have hK := hr0 hS hb ⟨_, hB6, h5⟩
     exact ke_weaken (l' := [(0, .pointer (some ⟨gc_0, 0, none⟩)), (1, str user_1), (2, str client_2), (7, .int .i64 (IntKind.i64.wrap (i_7 + 1)))]) (.cons rfl (.cons rfl (.cons rfl (.cons rfl (.nil _))))) hK
   ·intro K20
    clear hS
    have hj22 : Tr ρ w (fun _ => false) ρ w := (Tr.refl hb.bd).weak (fun _ _ => rfl) rfl rfl
    rcases Bool.eq_false_or_eq_true (y8.user == user_1) with hg19 | hg19
    ·have hS := ite_true' hz23 hg19
     refine sr_evg (b := true) (e := 27) rfl rfl hg19 (v := .pointer (some ⟨gc_0, 0, none⟩)) (ev_move rfl) (by decide) ?_
     refine sr_evg (b := true) (e := 27) rfl rfl hg19 (v := .pointer (some ⟨gc_0, 0, none⟩)) (ev_nilCheck rfl) (by decide) ?_
     refine sr_evg (b := true) (e := 27) rfl rfl hg19 (v := .pointer (some ⟨gc_0, 1, none⟩)) (ev_fieldAddr (i := 1) Try.underlying55 rfl Try.info53 rfl rfl) (by decide) ?_
     refine sr_evg (b := true) (e := 27) rfl rfl hg19 (v := v4) (ev_load Try.isAgg53 rfl (hB6.cell rfl)) (by decide) ?_
     refine sr_evg (b := true) (e := 27) rfl rfl hg19 (v := .int .i64 i_7) (ev_move rfl) (by decide) ?_
     obtain ⟨y27, hy28, hS⟩ := bind_some' hS
     obtain ⟨b29, o30, cs32, hq33, he31, hg36, ho37⟩ := h5.elemQ (P := Try.prog) Try.underlying53 Try.info63 rfl hy28
     obtain ⟨v34, hcshe31, h35⟩ := he31.rd
     obtain rfl : cs32 = [str y27.user, str y27.client, v34] := hcshe31
     refine sr_evg (b := true) (e := 27) rfl rfl hg19 (v := .pointer (some ⟨b29, o30, none⟩)) (hq33 w rfl rfl) (by decide) ?_
     refine sr_evg (b := true) (e := 27) rfl rfl hg19 (v := .pointer (some ⟨b29, o30 + 1, none⟩)) (ev_fieldAddr (i := 1) Try.underlying63 rfl Try.info9 rfl rfl) (by decide) ?_
     refine sr_evg (b := true) (e := 27) rfl rfl hg19 (v := str y27.client) (ev_load Try.isAgg9 rfl (he31.cell 1 _ rfl)) (by decide) ?_
     refine sr_evg (b := true) (e := 27) rfl rfl hg19 (v := str client_2) (ev_move rfl) (by decide) ?_
     refine sr_evg (b := true) (e := 27) rfl rfl hg19 (v := .bool (y27.client == client_2)) (ev_seq rfl rfl) (by decide) ?_
     refine sr_ev (v := .bool (y27.client == client_2)) (ev_pick_t rfl hg19 rfl) (by decide) ?_
     exact sr_weaken (l' := [(0, .pointer (some ⟨gc_0, 0, none⟩)), (1, str user_1), (2, str client_2), (7, .int .i64 i_7), (38, .bool (y27.client == client_2))]) (.cons rfl (.cons rfl (.cons rfl (.cons rfl (.cons rfl (.nil _)))))) (K20 (y27.client == client_2) _ ⟨(Option.some.inj hS).symm, _, hj22⟩)
    ·have hS := ite_false' hz23 hg19
     refine sr_pass (e := 27) rfl rfl (by rw [hg19]; rfl) (by decide) ?_
     refine sr_pass (e := 27) rfl rfl (by rw [hg19]; rfl) (by decide) ?_
     refine sr_pass (e := 27) rfl rfl (by rw [hg19]; rfl) (by decide) ?_
     refine sr_pass (e := 27) rfl rfl (by rw [hg19]; rfl) (by decide) ?_
     refine sr_pass (e := 27) rfl rfl (by rw [hg19]; rfl) (by decide) ?_
     refine sr_pass (e := 27) rfl rfl (by rw [hg19]; rfl) (by decide) ?_
     refine sr_pass (e := 27) rfl rfl (by rw [hg19]; rfl) (by decide) ?_
     refine sr_pass (e := 27) rfl rfl (by rw [hg19]; rfl) (by decide) ?_
     refine sr_pass (e := 27) rfl rfl (by rw [hg19]; rfl) (by decide) ?_
     refine sr_pass (e := 27) rfl rfl (by rw [hg19]; rfl) (by decide) ?_
     refine sr_ev (v := .bool false) (ev_pick_f rfl hg19 rfl) (by decide) ?_
     exact sr_weaken (l' := [(0, .pointer (some ⟨gc_0, 0, none⟩)), (1, str user_1), (2, str client_2), (7, .int .i64 i_7), (38, .bool false)]) (.cons rfl (.cons rfl (.cons rfl (.cons rfl (.cons rfl (.nil _)))))) (K20 false _ ⟨(Option.some.inj hS).symm, _, hj22⟩)
  ·replace hS := ite_false' hS hc7
   refine ke_exit (k' := _) rfl ?_
   refine ke_seq ?_
   refine ke_region ?_
   refine sr_ev (v := .int .i64 (-1)) (ev_assign rfl) (by decide) ?_
   refine sr_end (l' := [(6, .int .i64 (-1))]) (.cons rfl (.nil _)) ?_
   cases hS
   exact ke_ret1 Try.func36 rfl rfl ⟨_, rfl, rfl, (hb.below (flat1_le _))⟩
theorem ref32_Consents_find_ok (w0 : World) (hg : Gs w0) {ρA : Tags} (hbd : ∀ b, ρA b ≠ 0 → b < w0.heap.size) (hz : Gz ρA) {τ0 : Nat → Nat} (hτ0 : ∀ p, 1 ≤ τ0 p) {c_0 : ref32_Consents} {user_1 : Str} {client_2 : Str} {gc_0 : Nat} {r : Int} (ho0 : ref32_Consents.O τ0 ρA w0 gc_0 c_0) (hS : ref32_Consents_find c_0 user_1 client_2 = some r) :
  Calls Try.prog 36 #[.pointer (some ⟨gc_0, 0, none⟩), str user_1, str client_2] w0 (Ret (fun v w' => v = .int .i64 r ∧ Below w0.heap.size w0 w')) := by
 unfold ref32_Consents_find at hS
 have hb := flat1_fr (ρ := ρA) (w := w0) hbd
 have hz := hz.flat1
 obtain ⟨v1, hB3, h2⟩ := ho0
 replace hB3 := hB3.mv (flat1_mv (hτ0 0))
 replace h2 := h2.mv (flat1_mv (hτ0 1)) (by decide)
 replace hB3 : Blk (flat1 ρA) 1 w0 gc_0 (.cells #[.bool c_0.made, v1] 55 (0, 0)) := hB3
 replace h2 : OwnT ref32_pair.c 63 (flat1 ρA) 1 w0 v1 c_0.pairs := h2
 refine calls_of_ke Try.func36 rfl (n := 40) rfl rfl (l := [(0, .pointer (some ⟨gc_0, 0, none⟩)), (1, str user_1), (2, str client_2)]) rfl ?_
 refine ke_seq ?_
 refine ke_region ?_
 refine sr_ev (v := .int .i64 0) (ev_assign rfl) (by decide) ?_
 refine sr_end (l' := [(0, .pointer (some ⟨gc_0, 0, none⟩)), (1, str user_1), (2, str client_2)]) (.cons rfl (.cons rfl (.cons rfl (.nil _)))) ?_
 refine ke_seq ?_
 refine ke_seq ?_
 refine ke_region ?_
 refine sr_ev (v := .int .i64 0) (ev_assign rfl) (by decide) ?_
 refine sr_end (l' := [(0, .pointer (some ⟨gc_0, 0, none⟩)), (1, str user_1), (2, str client_2), (7, .int .i64 0)]) (.cons rfl (.cons rfl (.cons rfl (.cons rfl (.nil _))))) ?_
 refine ke_block ?_
 have hK := ref32_Consents_find_L1_ok hg hbd hz _ hS hb ⟨_, hB3, h2⟩
 exact ke_weaken (l' := [(0, .pointer (some ⟨gc_0, 0, none⟩)), (1, str user_1), (2, str client_2), (7, .int .i64 0)]) (.cons rfl (.cons rfl (.cons rfl (.cons rfl (.nil _))))) (ke_loop hK)
theorem ref32_joined_B2_ok {w0 : World} (hg : Gs w0) {ρA : Tags} (hbd : ∀ b, ρA b ≠ 0 → b < w0.heap.size) (hz : Gz (flat1 ρA)) (r0 : List ref32_item → List Str → Int → Int → List ref32_item → Int → Option (List ref32_item))
  (hr0 : ∀ {r : List ref32_item} {l_0 : List ref32_item} {scopes_1 : List Str} {until_2 : Int} {now_3 : Int} {out_9 : List ref32_item} {i_10 : Int} {vl_0 : Value} {vscopes_1 : Value} {vout_9 : Value}, r0 l_0 scopes_1 until_2 now_3 out_9 i_10 = some r → ∀ {ρ : Tags} {w : World}, (Fr (flat1 ρA) w0 ρ w) → (SlR ref32_item.c (Wb ρ) w vl_0 l_0) → (SlR strC (Wb ρ) w vscopes_1 scopes_1) → (OwnT ref32_item.c 65 ρ 11 w vout_9 out_9) → KE Try.prog 51 (Ret (fun v w' => ∃ x1, v = x1 ∧ SlR ref32_item.c (Wb ρA) w' x1 r ∧ Below w0.heap.size w0 w')) 79 [.inLoop (sub (bodyOf Try.f51) [2, 2, 1, 2, 2, 1]), .inBlock 0, .code (sub (bodyOf Try.f51) [2, 2, 2])] [(0, vl_0), (1, vscopes_1), (2, .int .i64 until_2), (3, .int .i64 now_3), (9, vout_9), (10, .int .i64 i_10)] w) {r : List ref32_item} {l_0 : List ref32_item} {scopes_1 : List Str} {until_2 : Int} {now_3 : Int} {out_9 : List ref32_item} {i_10 : Int} {vl_0 : Value} {vscopes_1 : Value} {vout_9 : Value} (hS : ref32_joined_B2 r0 l_0 scopes_1 until_2 now_3 out_9 i_10 = some r) {ρ : Tags} {w : World} (hb : Fr (flat1 ρA) w0 ρ w) (hl_0 : SlR ref32_item.c (Wb ρ) w vl_0 l_0) (hscopes_1 : SlR strC (Wb ρ) w vscopes_1 scopes_1) (hout_9 : OwnT ref32_item.c 65 ρ 11 w vout_9 out_9) :
  KE Try.prog 51 (Ret (fun v w' => ∃ x1, v = x1 ∧ SlR ref32_item.c (Wb ρA) w' x1 r ∧ Below w0.heap.size w0 w')) 79 [.inBlock 1, .code (sub (bodyOf Try.f51) [2, 2, 1, 2, 2, 1, 2, 2]), .inLoop (sub (bodyOf Try.f51) [2, 2, 1, 2, 2, 1]), .inBlock 0, .code (sub (bodyOf Try.f51) [2, 2, 2])] [(0, vl_0), (1, vscopes_1), (2, .int .i64 until_2), (3, .int .i64 now_3), (9, vout_9), (10, .int .i64 i_10)] w := by
 unfold ref32_joined_B2 at hS
 refine ke_inBlock ?_
 refine ke_region ?_
 refine sr_ev (v := .int .i64 i_10) (ev_move rfl) (by decide) ?_
 refine sr_ev (v := .int .i64 (IntKind.i64.wrap (i_10 + 1))) (ev_add rfl rfl) (by decide) ?_
 refine sr_ev (v := .int .i64 (IntKind.i64.wrap (i_10 + 1))) (ev_assign rfl) (by decide) ?_
 refine sr_end (l' := [(0, vl_0), (1, vscopes_1), (2, .int .i64 until_2), (3, .int .i64 now_3), (9, vout_9), (10, .int .i64 (IntKind.i64.wrap (i_10 + 1)))]) (.cons rfl (.cons rfl (.cons rfl (.cons rfl (.cons rfl (.cons rfl (.nil _))))))) ?_
 have hK := hr0 hS hb hl_0 hscopes_1 hout_9
 exact ke_weaken (l' := [(0, vl_0), (1, vscopes_1), (2, .int .i64 until_2), (3, .int .i64 now_3), (9, vout_9), (10, .int .i64 (IntKind.i64.wrap (i_10 + 1)))]) (.cons rfl (.cons rfl (.cons rfl (.cons rfl (.cons rfl (.cons rfl (.nil _))))))) hK
theorem ref32_joined_B5_ok {w0 : World} (hg : Gs w0) {ρA : Tags} (hbd : ∀ b, ρA b ≠ 0 → b < w0.heap.size) (hz : Gz (flat1 ρA)) (r0 : List ref32_item → List Str → Int → Int → List ref32_item → Int → Option (List ref32_item)) (r1 : List Str → Int → List ref32_item → Int → Option (List ref32_item)) (r2 : List Str → Int → List ref32_item → Int → Bool → Int → Option (List ref32_item))
  (hr0 : ∀ {r : List ref32_item} {l_0 : List ref32_item} {scopes_1 : List Str} {until_2 : Int} {now_3 : Int} {out_9 : List ref32_item} {i_10 : Int} {vl_0 : Value} {vscopes_1 : Value} {vout_9 : Value}, r0 l_0 scopes_1 until_2 now_3 out_9 i_10 = some r → ∀ {ρ : Tags} {w : World}, (Fr (flat1 ρA) w0 ρ w) → (SlR ref32_item.c (Wb ρ) w vl_0 l_0) → (SlR strC (Wb ρ) w vscopes_1 scopes_1) → (OwnT ref32_item.c 65 ρ 11 w vout_9 out_9) → KE Try.prog 51 (Ret (fun v w' => ∃ x1, v = x1 ∧ SlR ref32_item.c (Wb ρA) w' x1 r ∧ Below w0.heap.size w0 w')) 79 [.inLoop (sub (bodyOf Try.f51) [2, 2, 1, 2, 2, 1]), .inBlock 0, .code (sub (bodyOf Try.f51) [2, 2, 2])] [(0, vl_0), (1, vscopes_1), (2, .int .i64 until_2), (3, .int .i64 now_3), (9, vout_9), (10, .int .i64 i_10)] w)
  (hr1 : ∀ {r : List ref32_item} {scopes_1 : List Str} {until_2 : Int} {out_9 : List ref32_item} {k_11 : Int} {vscopes_1 : Value} {vout_9 : Value}, r1 scopes_1 until_2 out_9 k_11 = some r → ∀ {ρ : Tags} {w : World}, (Fr (flat1 ρA) w0 ρ w) → (SlR strC (Wb ρ) w vscopes_1 scopes_1) → (OwnT ref32_item.c 65 ρ 11 w vout_9 out_9) → KE Try.prog 51 (Ret (fun v w' => ∃ x1, v = x1 ∧ SlR ref32_item.c (Wb ρA) w' x1 r ∧ Below w0.heap.size w0 w')) 79 [.inLoop (sub (bodyOf Try.f51) [2, 2, 2, 1, 2, 2, 1]), .inBlock 2, .code (sub (bodyOf Try.f51) [2, 2, 2, 2])] [(1, vscopes_1), (2, .int .i64 until_2), (9, vout_9), (11, .int .i64 k_11)] w)
  (hr2 : ∀ {r : List ref32_item} {scopes_1 : List Str} {until_2 : Int} {out_9 : List ref32_item} {k_11 : Int} {found_12 : Bool} {i_13 : Int} {vscopes_1 : Value} {vout_9 : Value}, r2 scopes_1 until_2 out_9 k_11 found_12 i_13 = some r → ∀ {ρ : Tags} {w : World}, (Fr (flat1 ρA) w0 ρ w) → (SlR strC (Wb ρ) w vscopes_1 scopes_1) → (OwnT ref32_item.c 65 ρ 11 w vout_9 out_9) → KE Try.prog 51 (Ret (fun v w' => ∃ x1, v = x1 ∧ SlR ref32_item.c (Wb ρA) w' x1 r ∧ Below w0.heap.size w0 w')) 79 [.inLoop (sub (bodyOf Try.f51) [2, 2, 2, 1, 2, 2, 1, 2, 1, 2, 2, 1, 2, 2, 1]), .inBlock 4, .code (sub (bodyOf Try.f51) [2, 2, 2, 1, 2, 2, 1, 2, 1, 2, 2, 2]), .inBlock 3, .code (sub (bodyOf Try.f51) [2, 2, 2, 1, 2, 2, 1, 2, 2]), .inLoop (sub (bodyOf Try.f51) [2, 2, 2, 1, 2, 2, 1]), .inBlock 2, .code (sub (bodyOf Try.f51) [2, 2, 2, 2])] [(1, vscopes_1), (2, .int .i64 until_2), (9, vout_9), (11, .int .i64 k_11), (12, .bool found_12), (13, .int .i64 i_13)] w) {r : List ref32_item} {scopes_1 : List Str} {until_2 : Int} {out_9 : List ref32_item} {k_11 : Int} {found_12 : Bool} {i_13 : Int} {vscopes_1 : Value} {vout_9 : Value} (hS : ref32_joined_B5 r0 r1 r2 scopes_1 until_2 out_9 k_11 found_12 i_13 = some r) {ρ : Tags} {w : World} (hb : Fr (flat1 ρA) w0 ρ w) (hscopes_1 : SlR strC (Wb ρ) w vscopes_1 scopes_1) (hout_9 : OwnT ref32_item.c 65 ρ 11 w vout_9 out_9) :
  KE Try.prog 51 (Ret (fun v w' => ∃ x1, v = x1 ∧ SlR ref32_item.c (Wb ρA) w' x1 r ∧ Below w0.heap.size w0 w')) 79 [.inBlock 5, .code (sub (bodyOf Try.f51) [2, 2, 2, 1, 2, 2, 1, 2, 1, 2, 2, 1, 2, 2, 1, 2, 2]), .inLoop (sub (bodyOf Try.f51) [2, 2, 2, 1, 2, 2, 1, 2, 1, 2, 2, 1, 2, 2, 1]), .inBlock 4, .code (sub (bodyOf Try.f51) [2, 2, 2, 1, 2, 2, 1, 2, 1, 2, 2, 2]), .inBlock 3, .code (sub (bodyOf Try.f51) [2, 2, 2, 1, 2, 2, 1, 2, 2]), .inLoop (sub (bodyOf Try.f51) [2, 2, 2, 1, 2, 2, 1]), .inBlock 2, .code (sub (bodyOf Try.f51) [2, 2, 2, 2])] [(1, vscopes_1), (2, .int .i64 until_2), (9, vout_9), (11, .int .i64 k_11), (12, .bool found_12), (13, .int .i64 i_13)] w := by
 unfold ref32_joined_B5 at hS
 refine ke_inBlock ?_
 refine ke_region ?_
 refine sr_ev (v := .int .i64 i_13) (ev_move rfl) (by decide) ?_
 refine sr_ev (v := .int .i64 (IntKind.i64.wrap (i_13 + 1))) (ev_add rfl rfl) (by decide) ?_
 refine sr_ev (v := .int .i64 (IntKind.i64.wrap (i_13 + 1))) (ev_assign rfl) (by decide) ?_
 refine sr_end (l' := [(1, vscopes_1), (2, .int .i64 until_2), (9, vout_9), (11, .int .i64 k_11), (12, .bool found_12), (13, .int .i64 (IntKind.i64.wrap (i_13 + 1)))]) (.cons rfl (.cons rfl (.cons rfl (.cons rfl (.cons rfl (.cons rfl (.nil _))))))) ?_
 have hK := hr2 hS hb hscopes_1 hout_9
 exact ke_weaken (l' := [(1, vscopes_1), (2, .int .i64 until_2), (9, vout_9), (11, .int .i64 k_11), (12, .bool found_12), (13, .int .i64 (IntKind.i64.wrap (i_13 + 1)))]) (.cons rfl (.cons rfl (.cons rfl (.cons rfl (.cons rfl (.cons rfl (.nil _))))))) hK
theorem ref32_joined_B6_ok {w0 : World} (hg : Gs w0) {ρA : Tags} (hbd : ∀ b, ρA b ≠ 0 → b < w0.heap.size) (hz : Gz (flat1 ρA)) (r0 : List ref32_item → List Str → Int → Int → List ref32_item → Int → Option (List ref32_item)) (r1 : List Str → Int → List ref32_item → Int → Option (List ref32_item)) (r2 : List Str → Int → List ref32_item → Int → Bool → Int → Option (List ref32_item))
  (hr0 : ∀ {r : List ref32_item} {l_0 : List ref32_item} {scopes_1 : List Str} {until_2 : Int} {now_3 : Int} {out_9 : List ref32_item} {i_10 : Int} {vl_0 : Value} {vscopes_1 : Value} {vout_9 : Value}, r0 l_0 scopes_1 until_2 now_3 out_9 i_10 = some r → ∀ {ρ : Tags} {w : World}, (Fr (flat1 ρA) w0 ρ w) → (SlR ref32_item.c (Wb ρ) w vl_0 l_0) → (SlR strC (Wb ρ) w vscopes_1 scopes_1) → (OwnT ref32_item.c 65 ρ 11 w vout_9 out_9) → KE Try.prog 51 (Ret (fun v w' => ∃ x1, v = x1 ∧ SlR ref32_item.c (Wb ρA) w' x1 r ∧ Below w0.heap.size w0 w')) 79 [.inLoop (sub (bodyOf Try.f51) [2, 2, 1, 2, 2, 1]), .inBlock 0, .code (sub (bodyOf Try.f51) [2, 2, 2])] [(0, vl_0), (1, vscopes_1), (2, .int .i64 until_2), (3, .int .i64 now_3), (9, vout_9), (10, .int .i64 i_10)] w)
  (hr1 : ∀ {r : List ref32_item} {scopes_1 : List Str} {until_2 : Int} {out_9 : List ref32_item} {k_11 : Int} {vscopes_1 : Value} {vout_9 : Value}, r1 scopes_1 until_2 out_9 k_11 = some r → ∀ {ρ : Tags} {w : World}, (Fr (flat1 ρA) w0 ρ w) → (SlR strC (Wb ρ) w vscopes_1 scopes_1) → (OwnT ref32_item.c 65 ρ 11 w vout_9 out_9) → KE Try.prog 51 (Ret (fun v w' => ∃ x1, v = x1 ∧ SlR ref32_item.c (Wb ρA) w' x1 r ∧ Below w0.heap.size w0 w')) 79 [.inLoop (sub (bodyOf Try.f51) [2, 2, 2, 1, 2, 2, 1]), .inBlock 2, .code (sub (bodyOf Try.f51) [2, 2, 2, 2])] [(1, vscopes_1), (2, .int .i64 until_2), (9, vout_9), (11, .int .i64 k_11)] w)
  (hr2 : ∀ {r : List ref32_item} {scopes_1 : List Str} {until_2 : Int} {out_9 : List ref32_item} {k_11 : Int} {found_12 : Bool} {i_13 : Int} {vscopes_1 : Value} {vout_9 : Value}, r2 scopes_1 until_2 out_9 k_11 found_12 i_13 = some r → ∀ {ρ : Tags} {w : World}, (Fr (flat1 ρA) w0 ρ w) → (SlR strC (Wb ρ) w vscopes_1 scopes_1) → (OwnT ref32_item.c 65 ρ 11 w vout_9 out_9) → KE Try.prog 51 (Ret (fun v w' => ∃ x1, v = x1 ∧ SlR ref32_item.c (Wb ρA) w' x1 r ∧ Below w0.heap.size w0 w')) 79 [.inLoop (sub (bodyOf Try.f51) [2, 2, 2, 1, 2, 2, 1, 2, 1, 2, 2, 1, 2, 2, 1]), .inBlock 4, .code (sub (bodyOf Try.f51) [2, 2, 2, 1, 2, 2, 1, 2, 1, 2, 2, 2]), .inBlock 3, .code (sub (bodyOf Try.f51) [2, 2, 2, 1, 2, 2, 1, 2, 2]), .inLoop (sub (bodyOf Try.f51) [2, 2, 2, 1, 2, 2, 1]), .inBlock 2, .code (sub (bodyOf Try.f51) [2, 2, 2, 2])] [(1, vscopes_1), (2, .int .i64 until_2), (9, vout_9), (11, .int .i64 k_11), (12, .bool found_12), (13, .int .i64 i_13)] w) {r : List ref32_item} {scopes_1 : List Str} {until_2 : Int} {out_9 : List ref32_item} {k_11 : Int} {vscopes_1 : Value} {vout_9 : Value} (hS : ref32_joined_B6 r0 r1 r2 scopes_1 until_2 out_9 k_11 = some r) {ρ : Tags} {w : World} (hb : Fr (flat1 ρA) w0 ρ w) (hscopes_1 : SlR strC (Wb ρ) w vscopes_1 scopes_1) (hout_9 : OwnT ref32_item.c 65 ρ 11 w vout_9 out_9) :
  KE Try.prog 51 (Ret (fun v w' => ∃ x1, v = x1 ∧ SlR ref32_item.c (Wb ρA) w' x1 r ∧ Below w0.heap.size w0 w')) 79 [.inBlock 3, .code (sub (bodyOf Try.f51) [2, 2, 2, 1, 2, 2, 1, 2, 2]), .inLoop (sub (bodyOf Try.f51) [2, 2, 2, 1, 2, 2, 1]), .inBlock 2, .code (sub (bodyOf Try.f51) [2, 2, 2, 2])] [(1, vscopes_1), (2, .int .i64 until_2), (9, vout_9), (11, .int .i64 k_11)] w := by
 unfold ref32_joined_B6 at hS
 refine ke_inBlock ?_
 refine ke_region ?_
 refine sr_ev (v := .int .i64 k_11) (ev_move rfl) (by decide) ?_
 refine sr_ev (v := .int .i64 (IntKind.i64.wrap (k_11 + 1))) (ev_add rfl rfl) (by decide) ?_
 refine sr_ev (v := .int .i64 (IntKind.i64.wrap (k_11 + 1))) (ev_assign rfl) (by decide) ?_
 refine sr_end (l' := [(1, vscopes_1), (2, .int .i64 until_2), (9, vout_9), (11, .int .i64 (IntKind.i64.wrap (k_11 + 1)))]) (.cons rfl (.cons rfl (.cons rfl (.cons rfl (.nil _))))) ?_
 have hK := hr1 hS hb hscopes_1 hout_9
 exact ke_weaken (l' := [(1, vscopes_1), (2, .int .i64 until_2), (9, vout_9), (11, .int .i64 (IntKind.i64.wrap (k_11 + 1)))]) (.cons rfl (.cons rfl (.cons rfl (.cons rfl (.nil _))))) hK
theorem ref32_joined_L4_ok {w0 : World} (hg : Gs w0) {ρA : Tags} (hbd : ∀ b, ρA b ≠ 0 → b < w0.heap.size) (hz : Gz (flat1 ρA)) (r0 : List ref32_item → List Str → Int → Int → List ref32_item → Int → Option (List ref32_item)) (r1 : List Str → Int → List ref32_item → Int → Option (List ref32_item))
  (hr0 : ∀ {r : List ref32_item} {l_0 : List ref32_item} {scopes_1 : List Str} {until_2 : Int} {now_3 : Int} {out_9 : List ref32_item} {i_10 : Int} {vl_0 : Value} {vscopes_1 : Value} {vout_9 : Value}, r0 l_0 scopes_1 until_2 now_3 out_9 i_10 = some r → ∀ {ρ : Tags} {w : World}, (Fr (flat1 ρA) w0 ρ w) → (SlR ref32_item.c (Wb ρ) w vl_0 l_0) → (SlR strC (Wb ρ) w vscopes_1 scopes_1) → (OwnT ref32_item.c 65 ρ 11 w vout_9 out_9) → KE Try.prog 51 (Ret (fun v w' => ∃ x1, v = x1 ∧ SlR ref32_item.c (Wb ρA) w' x1 r ∧ Below w0.heap.size w0 w')) 79 [.inLoop (sub (bodyOf Try.f51) [2, 2, 1, 2, 2, 1]), .inBlock 0, .code (sub (bodyOf Try.f51) [2, 2, 2])] [(0, vl_0), (1, vscopes_1), (2, .int .i64 until_2), (3, .int .i64 now_3), (9, vout_9), (10, .int .i64 i_10)] w)
  (hr1 : ∀ {r : List ref32_item} {scopes_1 : List Str} {until_2 : Int} {out_9 : List ref32_item} {k_11 : Int} {vscopes_1 : Value} {vout_9 : Value}, r1 scopes_1 until_2 out_9 k_11 = some r → ∀ {ρ : Tags} {w : World}, (Fr (flat1 ρA) w0 ρ w) → (SlR strC (Wb ρ) w vscopes_1 scopes_1) → (OwnT ref32_item.c 65 ρ 11 w vout_9 out_9) → KE Try.prog 51 (Ret (fun v w' => ∃ x1, v = x1 ∧ SlR ref32_item.c (Wb ρA) w' x1 r ∧ Below w0.heap.size w0 w')) 79 [.inLoop (sub (bodyOf Try.f51) [2, 2, 2, 1, 2, 2, 1]), .inBlock 2, .code (sub (bodyOf Try.f51) [2, 2, 2, 2])] [(1, vscopes_1), (2, .int .i64 until_2), (9, vout_9), (11, .int .i64 k_11)] w) : ∀ (n : Nat), ∀ {r : List ref32_item} {scopes_1 : List Str} {until_2 : Int} {out_9 : List ref32_item} {k_11 : Int} {found_12 : Bool} {i_13 : Int} {vscopes_1 : Value} {vout_9 : Value}, ref32_joined_L4 r0 r1 n scopes_1 until_2 out_9 k_11 found_12 i_13 = some r → ∀ {ρ : Tags} {w : World}, (Fr (flat1 ρA) w0 ρ w) → (SlR strC (Wb ρ) w vscopes_1 scopes_1) → (OwnT ref32_item.c 65 ρ 11 w vout_9 out_9) → KE Try.prog 51 (Ret (fun v w' => ∃ x1, v = x1 ∧ SlR ref32_item.c (Wb ρA) w' x1 r ∧ Below w0.heap.size w0 w')) 79 [.code (sub (bodyOf Try.f51) [2, 2, 2, 1, 2, 2, 1, 2, 1, 2, 2, 1, 2, 2, 1]), .inLoop (sub (bodyOf Try.f51) [2, 2, 2, 1, 2, 2, 1, 2, 1, 2, 2, 1, 2, 2, 1]), .inBlock 4, .code (sub (bodyOf Try.f51) [2, 2, 2, 1, 2, 2, 1, 2, 1, 2, 2, 2]), .inBlock 3, .code (sub (bodyOf Try.f51) [2, 2, 2, 1, 2, 2, 1, 2, 2]), .inLoop (sub (bodyOf Try.f51) [2, 2, 2, 1, 2, 2, 1]), .inBlock 2, .code (sub (bodyOf Try.f51) [2, 2, 2, 2])] [(1, vscopes_1), (2, .int .i64 until_2), (9, vout_9), (11, .int .i64 k_11), (12, .bool found_12), (13, .int .i64 i_13)] w := by
 intro n
 induction n with
 | zero => intro r scopes_1 until_2 out_9 k_11 found_12 i_13 vscopes_1 vout_9 hS; cases hS
 | succ n ih =>
  have hr2 : ∀ {r : List ref32_item} {scopes_1 : List Str} {until_2 : Int} {out_9 : List ref32_item} {k_11 : Int} {found_12 : Bool} {i_13 : Int} {vscopes_1 : Value} {vout_9 : Value}, ref32_joined_L4 r0 r1 n scopes_1 until_2 out_9 k_11 found_12 i_13 = some r → ∀ {ρ : Tags} {w : World}, (Fr (flat1 ρA) w0 ρ w) → (SlR strC (Wb ρ) w vscopes_1 scopes_1) → (OwnT ref32_item.c 65 ρ 11 w vout_9 out_9) → KE Try.prog 51 (Ret (fun v w' => ∃ x1, v = x1 ∧ SlR ref32_item.c (Wb ρA) w' x1 r ∧ Below w0.heap.size w0 w')) 79 [.inLoop (sub (bodyOf Try.f51) [2, 2, 2, 1, 2, 2, 1, 2, 1, 2, 2, 1, 2, 2, 1]), .inBlock 4, .code (sub (bodyOf Try.f51) [2, 2, 2, 1, 2, 2, 1, 2, 1, 2, 2, 2]), .inBlock 3, .code (sub (bodyOf Try.f51) [2, 2, 2, 1, 2, 2, 1, 2, 2]), .inLoop (sub (bodyOf Try.f51) [2, 2, 2, 1, 2, 2, 1]), .inBlock 2, .code (sub (bodyOf Try.f51) [2, 2, 2, 2])] [(1, vscopes_1), (2, .int .i64 until_2), (9, vout_9), (11, .int .i64 k_11), (12, .bool found_12), (13, .int .i64 i_13)] w := fun {r} {scopes_1} {until_2} {out_9} {k_11} {found_12} {i_13} {vscopes_1} {vout_9} hS {ρ} {w} hb hscopes_1 hout_9 => ke_inLoop (ih hS hb hscopes_1 hout_9)
  clear ih
  intro r scopes_1 until_2 out_9 k_11 found_12 i_13 vscopes_1 vout_9 hS ρ w hb hscopes_1 hout_9
  unfold ref32_joined_L4 at hS
  refine ke_seq ?_
  refine ke_seq ?_
  refine ke_region ?_
  refine sr_ev (v := .int .i64 i_13) (ev_move rfl) (by decide) ?_
  refine sr_ev (v := vout_9) (ev_move rfl) (by decide) ?_
  refine sr_ev (v := .int .i64 (out_9.length : Int)) (ev_sllen Try.underlying61 rfl hout_9.asSl) (by decide) ?_
  refine sr_ev (v := .bool (decide (i_13 < (out_9.length : Int)))) (ev_lt rfl rfl) (by decide) ?_
  refine sr_end (l' := [(1, vscopes_1), (2, .int .i64 until_2), (9, vout_9), (11, .int .i64 k_11), (12, .bool found_12), (13, .int .i64 i_13), (43, .bool (decide (i_13 < (out_9.length : Int))))]) (.cons rfl (.cons rfl (.cons rfl (.cons rfl (.cons rfl (.cons rfl (.cons rfl (.nil _)))))))) ?_
  refine ke_cond (t := decide (i_13 < (out_9.length : Int))) rfl (fun hc43 => ?_) (fun hc43 => ?_)
  ·replace hS := ite_true' hS hc43
   refine ke_skip ?_
   refine ke_seq ?_
   refine ke_block ?_
   refine ke_seq ?_
   refine ke_region_q Try.mixed (by kernel_rfl) ?_
   refine sq_ev (v := vout_9) (fun w1 hw1 => ev_move rfl) (by decide) ?_
   refine sq_ev (v := .int .i64 i_13) (fun w1 hw1 => ev_move rfl) (by decide) ?_
   obtain ⟨y46, hy47, hS⟩ := bind_some' hS
   obtain ⟨b48, o49, cs51, hq52, he50, hg53, ho54⟩ := hout_9.elemQ (P := Try.prog) Try.underlying61 Try.info65 rfl hy47
   obtain rfl : cs51 = [str y46.scope, .int .i64 y46.until_] := he50.rd
   refine sq_ev (v := .pointer (some ⟨b48, o49, none⟩)) (fun w1 hw1 => hq52 w1 rfl rfl) (by decide) ?_
   refine sq_ev (v := .pointer (some ⟨b48, o49 + 0, none⟩)) (fun w1 hw1 => ev_fieldAddr (i := 0) Try.underlying65 rfl Try.info9 rfl rfl) (by decide) ?_
   refine sq_ev (v := str y46.scope) (fun w1 hw1 => ev_load Try.isAgg9 rfl ((he50.mv (Mv.of_below (i := 11) (ρ := ρ) hw1) (Nat.succ_pos _)).cell 0 _ rfl)) (by decide) ?_
   refine sq_ev (v := vscopes_1) (fun w1 hw1 => ev_move rfl) (by decide) ?_
   refine sq_ev (v := .int .i64 k_11) (fun w1 hw1 => ev_move rfl) (by decide) ?_
   obtain ⟨y55, hy56, hS⟩ := bind_some' hS
   obtain ⟨b57, o58, cs60, hq61, he59⟩ := ((SlT.of_sl (i := 0) hscopes_1)).elem (P := Try.prog) Try.underlying30 Try.info9 rfl hy56
   obtain rfl : cs60 = [str y55] := he59.rd
   refine sq_ev (v := .pointer (some ⟨b57, o58, none⟩)) (fun w1 hw1 => hq61 w1 rfl rfl) (by decide) ?_
   refine sq_ev (v := str y55) (fun w1 hw1 => ev_load Try.isAgg9 rfl ((he59.mv (Mv.of_below (i := 0) (ρ := ρ) hw1) (Nat.succ_pos _)).cell 0 _ rfl)) (by decide) ?_
   refine sq_ev (v := .bool (y46.scope == y55)) (fun w1 hw1 => ev_seq rfl rfl) (by decide) ?_
   refine sq_end (l' := [(1, vscopes_1), (2, .int .i64 until_2), (9, vout_9), (11, .int .i64 k_11), (12, .bool found_12), (13, .int .i64 i_13), (55, .bool (y46.scope == y55))]) (.cons rfl (.cons rfl (.cons rfl (.cons rfl (.cons rfl (.cons rfl (.cons rfl (.nil _)))))))) (fun w45 hw44 => ?_)
   have htr62 := Tr.of_below hw44 hb.bd
   replace hscopes_1 := hscopes_1.mv htr62.rd
   replace hout_9 := hout_9.mv (htr62.mv (i := 11) rfl) (by decide)
   replace hb := hb.trans htr62
   refine ke_cond (t := y46.scope == y55) rfl (fun hc63 => ?_) (fun hc63 => ?_)
   ·replace hS := ite_true' hS hc63
    refine ke_seq ?_
    refine ke_region ?_
    refine sr_ev (v := vout_9) (ev_move rfl) (by decide) ?_
    refine sr_ev (v := .int .i64 i_13) (ev_move rfl) (by decide) ?_
    refine sr_ev (v := vout_9) (ev_move rfl) (by decide) ?_
    refine sr_ev (v := .int .i64 i_13) (ev_move rfl) (by decide) ?_
    obtain ⟨y64, hy65, hS⟩ := bind_some' hS
    obtain ⟨b66, o67, cs69, hq70, he68, hg71, ho72⟩ := hout_9.elemQ (P := Try.prog) Try.underlying61 Try.info65 rfl hy65
    obtain rfl : cs69 = [str y64.scope, .int .i64 y64.until_] := he68.rd
    refine sr_ev (v := .pointer (some ⟨b66, o67, none⟩)) (hq70 w45 rfl rfl) (by decide) ?_
    refine sr_ev (v := .pointer (some ⟨b66, o67 + 1, none⟩)) (ev_fieldAddr (i := 1) Try.underlying65 rfl Try.info3 rfl rfl) (by decide) ?_
    refine sr_ev (v := .int .i64 y64.until_) (ev_load Try.isAgg3 rfl (he68.cell 1 _ rfl)) (by decide) ?_
    refine sr_ev (v := .int .i64 until_2) (ev_move rfl) (by decide) ?_
    refine sr_ev (v := .int .i64 (gmax y64.until_ until_2)) (ev_max rfl rfl) (by decide) ?_
    obtain ⟨y73, hy74, hS⟩ := bind_some' hS
    obtain ⟨b75, o76, cs78, hq79, he77, hg80, ho81⟩ := hout_9.elemQ (P := Try.prog) Try.underlying61 Try.info65 rfl hy74
    obtain rfl : cs78 = [str y73.scope, .int .i64 y73.until_] := he77.rd
    refine sr_ev (v := .pointer (some ⟨b75, o76, none⟩)) (hq79 w45 rfl rfl) (by decide) ?_
    refine sr_ev (v := .pointer (some ⟨b75, o76 + 1, none⟩)) (ev_fieldAddr (i := 1) Try.underlying65 rfl Try.info3 rfl rfl) (by decide) ?_
    refine sr_storeEl (z' := (ref32_item.mk y73.scope (gmax y64.until_ until_2))) (u := .int .i64 (gmax y64.until_ until_2)) (vs := [.int .i64 (gmax y64.until_ until_2)]) (cs' := [str y73.scope, .int .i64 (gmax y64.until_ until_2)]) (off := 1) hout_9 hg80 ho81 hy74 he77 (by decide) hb.bd rfl rfl rfl Try.sizeOf3 rfl rfl rfl rfl ?_
    intro w82 hout_91 htr83
    replace hscopes_1 := hscopes_1.mv htr83.rd
    replace hb := hb.trans htr83
    replace hout_9 := hout_91
    clear hout_91
    refine sr_end (l' := [(1, vscopes_1), (2, .int .i64 until_2), (9, vout_9), (11, .int .i64 k_11), (13, .int .i64 i_13)]) (.cons rfl (.cons rfl (.cons rfl (.cons rfl (.cons rfl (.nil _)))))) ?_
    refine ke_region ?_
    refine sr_ev (v := .bool true) (ev_assign rfl) (by decide) ?_
    refine sr_end (l' := [(1, vscopes_1), (2, .int .i64 until_2), (9, vout_9), (11, .int .i64 k_11), (12, .bool true), (13, .int .i64 i_13)]) (.cons rfl (.cons rfl (.cons rfl (.cons rfl (.cons rfl (.cons rfl (.nil _))))))) ?_
    have hK := ref32_joined_B5_ok hg hbd hz _ _ _ hr0 hr1 hr2 hS hb hscopes_1 hout_9
    exact ke_weaken (l' := [(1, vscopes_1), (2, .int .i64 until_2), (9, vout_9), (11, .int .i64 k_11), (12, .bool true), (13, .int .i64 i_13)]) (.cons rfl (.cons rfl (.cons rfl (.cons rfl (.cons rfl (.cons rfl (.nil _))))))) hK
   ·replace hS := ite_false' hS hc63
    refine ke_skip ?_
    have hK := ref32_joined_B5_ok hg hbd hz _ _ _ hr0 hr1 hr2 hS hb hscopes_1 hout_9
    exact ke_weaken (l' := [(1, vscopes_1), (2, .int .i64 until_2), (9, vout_9), (11, .int .i64 k_11), (12, .bool found_12), (13, .int .i64 i_13)]) (.cons rfl (.cons rfl (.cons rfl (.cons rfl (.cons rfl (.cons rfl (.nil _))))))) hK
  ·replace hS := ite_false' hS hc43
   refine ke_exit (k' := _) rfl ?_
   refine ke_seq ?_
   refine ke_region ?_
   refine sr_ev (v := .bool found_12) (ev_move rfl) (by decide) ?_
   refine sr_ev (v := .bool (!found_12)) (ev_not rfl) (by decide) ?_
   refine sr_end (l' := [(1, vscopes_1), (2, .int .i64 until_2), (9, vout_9), (11, .int .i64 k_11), (68, .bool (!found_12))]) (.cons rfl (.cons rfl (.cons rfl (.cons rfl (.cons rfl (.nil _)))))) ?_
   refine ke_cond (t := !found_12) rfl (fun hc86 => ?_) (fun hc86 => ?_)
   ·replace hS := ite_true' hS hc86
    refine ke_region ?_
    refine sr_ev (v := vout_9) (ev_move rfl) (by decide) ?_
    refine sr_ev (v := vscopes_1) (ev_move rfl) (by decide) ?_
    refine sr_ev (v := .int .i64 k_11) (ev_move rfl) (by decide) ?_
    obtain ⟨y87, hy88, hS⟩ := bind_some' hS
    obtain ⟨b89, o90, cs92, hq93, he91⟩ := ((SlT.of_sl (i := 0) hscopes_1)).elem (P := Try.prog) Try.underlying30 Try.info9 rfl hy88
    obtain rfl : cs92 = [str y87] := he91.rd
    refine sr_ev (v := .pointer (some ⟨b89, o90, none⟩)) (hq93 w rfl rfl) (by decide) ?_
    refine sr_ev (v := str y87) (ev_load Try.isAgg9 rfl (he91.cell 0 _ rfl)) (by decide) ?_
    refine sr_ev (v := .int .i64 until_2) (ev_move rfl) (by decide) ?_
    refine sr_ev (v := .agg #[str y87, .int .i64 until_2]) (ev_build (vs := #[(0, str y87), (1, .int .i64 until_2)]) rfl (fun _ => by kernel_rfl)) (by decide) ?_
    refine sr_litT (c := ref32_item.c) (ρ := ρ) (E := 65) (xs := [(ref32_item.mk y87 until_2)]) (vs := #[(0, .agg #[str y87, .int .i64 until_2])]) (cs := #[str y87, .int .i64 until_2]) (css := [[str y87, .int .i64 until_2]]) rfl (fun _ => by kernel_rfl) rfl ⟨rfl, trivial⟩ rfl (by decide) hb.bd (by decide) ?_
    intro v94 w96 h95 hbw98
    have htr97 := Tr.of_below hbw98 hb.bd
    replace hscopes_1 := hscopes_1.mv htr97.rd
    replace hout_9 := hout_9.mv (htr97.mv (i := 11) rfl) (by decide)
    replace hb := hb.trans htr97
    obtain ⟨hk99, hS⟩ := chk_some hS
    refine sr_appendT (i := 11) (c := ref32_item.c) (ρ := ρ) (E := 65) (xs := out_9) (ys := ([(ref32_item.mk y87 until_2)] : List ref32_item)) hout_9 ((SlT.of_sl (i := 0) h95)).x Try.underlying61 Try.info65 rfl rfl rfl (by decide) (by decide) (by decide) hb.bd hk99 rfl rfl (by decide) ?_
    intro v100 ρ102 w103 h101 htr104
    replace hscopes_1 := hscopes_1.mv htr104.rd
    replace hb := hb.trans htr104
    refine sr_ev (v := v100) (ev_assign rfl) (by decide) ?_
    refine sr_end (l' := [(1, vscopes_1), (2, .int .i64 until_2), (9, v100), (11, .int .i64 k_11)]) (.cons rfl (.cons rfl (.cons rfl (.cons rfl (.nil _))))) ?_
    have hK := ref32_joined_B6_ok hg hbd hz _ _ _ hr0 hr1 hr2 hS hb hscopes_1 h101
    exact ke_weaken (l' := [(1, vscopes_1), (2, .int .i64 until_2), (9, v100), (11, .int .i64 k_11)]) (.cons rfl (.cons rfl (.cons rfl (.cons rfl (.nil _))))) hK
   ·replace hS := ite_false' hS hc86
    refine ke_skip ?_
    have hK := ref32_joined_B6_ok hg hbd hz _ _ _ hr0 hr1 hr2 hS hb hscopes_1 hout_9
    exact ke_weaken (l' := [(1, vscopes_1), (2, .int .i64 until_2), (9, vout_9), (11, .int .i64 k_11)]) (.cons rfl (.cons rfl (.cons rfl (.cons rfl (.nil _))))) hK
theorem ref32_joined_L3_ok {w0 : World} (hg : Gs w0) {ρA : Tags} (hbd : ∀ b, ρA b ≠ 0 → b < w0.heap.size) (hz : Gz (flat1 ρA)) (r0 : List ref32_item → List Str → Int → Int → List ref32_item → Int → Option (List ref32_item))
  (hr0 : ∀ {r : List ref32_item} {l_0 : List ref32_item} {scopes_1 : List Str} {until_2 : Int} {now_3 : Int} {out_9 : List ref32_item} {i_10 : Int} {vl_0 : Value} {vscopes_1 : Value} {vout_9 : Value}, r0 l_0 scopes_1 until_2 now_3 out_9 i_10 = some r → ∀ {ρ : Tags} {w : World}, (Fr (flat1 ρA) w0 ρ w) → (SlR ref32_item.c (Wb ρ) w vl_0 l_0) → (SlR strC (Wb ρ) w vscopes_1 scopes_1) → (OwnT ref32_item.c 65 ρ 11 w vout_9 out_9) → KE Try.prog 51 (Ret (fun v w' => ∃ x1, v = x1 ∧ SlR ref32_item.c (Wb ρA) w' x1 r ∧ Below w0.heap.size w0 w')) 79 [.inLoop (sub (bodyOf Try.f51) [2, 2, 1, 2, 2, 1]), .inBlock 0, .code (sub (bodyOf Try.f51) [2, 2, 2])] [(0, vl_0), (1, vscopes_1), (2, .int .i64 until_2), (3, .int .i64 now_3), (9, vout_9), (10, .int .i64 i_10)] w) : ∀ (n : Nat), ∀ {r : List ref32_item} {scopes_1 : List Str} {until_2 : Int} {out_9 : List ref32_item} {k_11 : Int} {vscopes_1 : Value} {vout_9 : Value}, ref32_joined_L3 r0 n scopes_1 until_2 out_9 k_11 = some r → ∀ {ρ : Tags} {w : World}, (Fr (flat1 ρA) w0 ρ w) → (SlR strC (Wb ρ) w vscopes_1 scopes_1) → (OwnT ref32_item.c 65 ρ 11 w vout_9 out_9) → KE Try.prog 51 (Ret (fun v w' => ∃ x1, v = x1 ∧ SlR ref32_item.c (Wb ρA) w' x1 r ∧ Below w0.heap.size w0 w')) 79 [.code (sub (bodyOf Try.f51) [2, 2, 2, 1, 2, 2, 1]), .inLoop (sub (bodyOf Try.f51) [2, 2, 2, 1, 2, 2, 1]), .inBlock 2, .code (sub (bodyOf Try.f51) [2, 2, 2, 2])] [(1, vscopes_1), (2, .int .i64 until_2), (9, vout_9), (11, .int .i64 k_11)] w := by
 intro n
 induction n with
 | zero => intro r scopes_1 until_2 out_9 k_11 vscopes_1 vout_9 hS; cases hS
 | succ n ih =>
  have hr1 : ∀ {r : List ref32_item} {scopes_1 : List Str} {until_2 : Int} {out_9 : List ref32_item} {k_11 : Int} {vscopes_1 : Value} {vout_9 : Value}, ref32_joined_L3 r0 n scopes_1 until_2 out_9 k_11 = some r → ∀ {ρ : Tags} {w : World}, (Fr (flat1 ρA) w0 ρ w) → (SlR strC (Wb ρ) w vscopes_1 scopes_1) → (OwnT ref32_item.c 65 ρ 11 w vout_9 out_9) → KE Try.prog 51 (Ret (fun v w' => ∃ x1, v = x1 ∧ SlR ref32_item.c (Wb ρA) w' x1 r ∧ Below w0.heap.size w0 w')) 79 [.inLoop (sub (bodyOf Try.f51) [2, 2, 2, 1, 2, 2, 1]), .inBlock 2, .code (sub (bodyOf Try.f51) [2, 2, 2, 2])] [(1, vscopes_1), (2, .int .i64 until_2), (9, vout_9), (11, .int .i64 k_11)] w := fun {r} {scopes_1} {until_2} {out_9} {k_11} {vscopes_1} {vout_9} hS {ρ} {w} hb hscopes_1 hout_9 => ke_inLoop (ih hS hb hscopes_1 hout_9)
  clear ih
  intro r scopes_1 until_2 out_9 k_11 vscopes_1 vout_9 hS ρ w hb hscopes_1 hout_9
  unfold ref32_joined_L3 at hS
  refine ke_seq ?_
  refine ke_seq ?_
  refine ke_region ?_
  refine sr_ev (v := .int .i64 k_11) (ev_move rfl) (by decide) ?_
  refine sr_ev (v := vscopes_1) (ev_move rfl) (by decide) ?_
  refine sr_ev (v := .int .i64 (scopes_1.length : Int)) (ev_sllen Try.underlying30 rfl hscopes_1.asSl) (by decide) ?_
  refine sr_ev (v := .bool (decide (k_11 < (scopes_1.length : Int)))) (ev_lt rfl rfl) (by decide) ?_
  refine sr_end (l' := [(1, vscopes_1), (2, .int .i64 until_2), (9, vout_9), (11, .int .i64 k_11), (37, .bool (decide (k_11 < (scopes_1.length : Int))))]) (.cons rfl (.cons rfl (.cons rfl (.cons rfl (.cons rfl (.nil _)))))) ?_
  refine ke_cond (t := decide (k_11 < (scopes_1.length : Int))) rfl (fun hc40 => ?_) (fun hc40 => ?_)
  ·replace hS := ite_true' hS hc40
   refine ke_skip ?_
   refine ke_seq ?_
   refine ke_block ?_
   refine ke_seq ?_
   refine ke_region ?_
   refine sr_ev (v := .bool false) (ev_assign rfl) (by decide) ?_
   refine sr_end (l' := [(1, vscopes_1), (2, .int .i64 until_2), (9, vout_9), (11, .int .i64 k_11), (12, .bool false)]) (.cons rfl (.cons rfl (.cons rfl (.cons rfl (.cons rfl (.nil _)))))) ?_
   refine ke_seq ?_
   refine ke_seq ?_
   refine ke_region ?_
   refine sr_ev (v := .int .i64 0) (ev_assign rfl) (by decide) ?_
   refine sr_end (l' := [(1, vscopes_1), (2, .int .i64 until_2), (9, vout_9), (11, .int .i64 k_11), (12, .bool false), (13, .int .i64 0)]) (.cons rfl (.cons rfl (.cons rfl (.cons rfl (.cons rfl (.cons rfl (.nil _))))))) ?_
   refine ke_block ?_
   have hK := ref32_joined_L4_ok hg hbd hz _ _ hr0 hr1 _ hS hb hscopes_1 hout_9
   exact ke_weaken (l' := [(1, vscopes_1), (2, .int .i64 until_2), (9, vout_9), (11, .int .i64 k_11), (12, .bool false), (13, .int .i64 0)]) (.cons rfl (.cons rfl (.cons rfl (.cons rfl (.cons rfl (.cons rfl (.nil _))))))) (ke_loop hK)
  ·replace hS := ite_false' hS hc40
   refine ke_exit (k' := _) rfl ?_
   refine ke_seq ?_
   refine ke_region ?_
   refine sr_ev (v := vout_9) (ev_move rfl) (by decide) ?_
   refine sr_ev (v := vout_9) (ev_assign rfl) (by decide) ?_
   refine sr_end (l' := [(8, vout_9)]) (.cons rfl (.nil _)) ?_
   have htr107 := frz_tr (ρ := ρ) (w := w) (i := 11) (by decide) hb.bd
   have h108 : SlR ref32_item.c (Wb (frz ρ 11)) w vout_9 out_9 := (SlT.mv hout_9.sl (frz_mv (ρ := ρ) (w := w) (i := 11))).sl
   replace hb := hb.trans htr107
   cases hS
   exact ke_ret1 Try.func51 rfl rfl ⟨_, rfl, _, rfl, (SlR.mv h108 (flat1_back hb hbd)), (hb.below (flat1_le _))⟩
theorem ref32_joined_L1_ok {w0 : World} (hg : Gs w0) {ρA : Tags} (hbd : ∀ b, ρA b ≠ 0 → b < w0.heap.size) (hz : Gz (flat1 ρA)) : ∀ (n : Nat), ∀ {r : List ref32_item} {l_0 : List ref32_item} {scopes_1 : List Str} {until_2 : Int} {now_3 : Int} {out_9 : List ref32_item} {i_10 : Int} {vl_0 : Value} {vscopes_1 : Value} {vout_9 : Value}, ref32_joined_L1 n l_0 scopes_1 until_2 now_3 out_9 i_10 = some r → ∀ {ρ : Tags} {w : World}, (Fr (flat1 ρA) w0 ρ w) → (SlR ref32_item.c (Wb ρ) w vl_0 l_0) → (SlR strC (Wb ρ) w vscopes_1 scopes_1) → (OwnT ref32_item.c 65 ρ 11 w vout_9 out_9) → KE Try.prog 51 (Ret (fun v w' => ∃ x1, v = x1 ∧ SlR ref32_item.c (Wb ρA) w' x1 r ∧ Below w0.heap.size w0 w')) 79 [.code (sub (bodyOf Try.f51) [2, 2, 1, 2, 2, 1]), .inLoop (sub (bodyOf Try.f51) [2, 2, 1, 2, 2, 1]), .inBlock 0, .code (sub (bodyOf Try.f51) [2, 2, 2])] [(0, vl_0), (1, vscopes_1), (2, .int .i64 until_2), (3, .int .i64 now_3), (9, vout_9), (10, .int .i64 i_10)] w := by
 intro n
 induction n with
 | zero => intro r l_0 scopes_1 until_2 now_3 out_9 i_10 vl_0 vscopes_1 vout_9 hS; cases hS
 | succ n ih =>
  have hr0 : ∀ {r : List ref32_item} {l_0 : List ref32_item} {scopes_1 : List Str} {until_2 : Int} {now_3 : Int} {out_9 : List ref32_item} {i_10 : Int} {vl_0 : Value} {vscopes_1 : Value} {vout_9 : Value}, ref32_joined_L1 n l_0 scopes_1 until_2 now_3 out_9 i_10 = some r → ∀ {ρ : Tags} {w : World}, (Fr (flat1 ρA) w0 ρ w) → (SlR ref32_item.c (Wb ρ) w vl_0 l_0) → (SlR strC (Wb ρ) w vscopes_1 scopes_1) → (OwnT ref32_item.c 65 ρ 11 w vout_9 out_9) → KE Try.prog 51 (Ret (fun v w' => ∃ x1, v = x1 ∧ SlR ref32_item.c (Wb ρA) w' x1 r ∧ Below w0.heap.size w0 w')) 79 [.inLoop (sub (bodyOf Try.f51) [2, 2, 1, 2, 2, 1]), .inBlock 0, .code (sub (bodyOf Try.f51) [2, 2, 2])] [(0, vl_0), (1, vscopes_1), (2, .int .i64 until_2), (3, .int .i64 now_3), (9, vout_9), (10, .int .i64 i_10)] w := fun {r} {l_0} {scopes_1} {until_2} {now_3} {out_9} {i_10} {vl_0} {vscopes_1} {vout_9} hS {ρ} {w} hb hl_0 hscopes_1 hout_9 => ke_inLoop (ih hS hb hl_0 hscopes_1 hout_9)
  clear ih
  intro r l_0 scopes_1 until_2 now_3 out_9 i_10 vl_0 vscopes_1 vout_9 hS ρ w hb hl_0 hscopes_1 hout_9
  unfold ref32_joined_L1 at hS
  refine ke_seq ?_
  refine ke_seq ?_
  refine ke_region ?_
  refine sr_ev (v := .int .i64 i_10) (ev_move rfl) (by decide) ?_
  refine sr_ev (v := vl_0) (ev_move rfl) (by decide) ?_
  refine sr_ev (v := .int .i64 (l_0.length : Int)) (ev_sllen Try.underlying61 rfl hl_0.asSl) (by decide) ?_
  refine sr_ev (v := .bool (decide (i_10 < (l_0.length : Int)))) (ev_lt rfl rfl) (by decide) ?_
  refine sr_end (l' := [(0, vl_0), (1, vscopes_1), (2, .int .i64 until_2), (3, .int .i64 now_3), (9, vout_9), (10, .int .i64 i_10), (17, .bool (decide (i_10 < (l_0.length : Int))))]) (.cons rfl (.cons rfl (.cons rfl (.cons rfl (.cons rfl (.cons rfl (.cons rfl (.nil _)))))))) ?_
  refine ke_cond (t := decide (i_10 < (l_0.length : Int))) rfl (fun hc9 => ?_) (fun hc9 => ?_)
  ·replace hS := ite_true' hS hc9
   refine ke_skip ?_
   refine ke_seq ?_
   refine ke_block ?_
   refine ke_seq ?_
   refine ke_region ?_
   refine sr_ev (v := vl_0) (ev_move rfl) (by decide) ?_
   refine sr_ev (v := .int .i64 i_10) (ev_move rfl) (by decide) ?_
   obtain ⟨y10, hy11, hS⟩ := bind_some' hS
   obtain ⟨b12, o13, cs15, hq16, he14⟩ := ((SlT.of_sl (i := 0) hl_0)).elem (P := Try.prog) Try.underlying61 Try.info65 rfl hy11
   obtain rfl : cs15 = [str y10.scope, .int .i64 y10.until_] := he14.rd
   refine sr_ev (v := .pointer (some ⟨b12, o13, none⟩)) (hq16 w rfl rfl) (by decide) ?_
   refine sr_ev (v := .pointer (some ⟨b12, o13 + 1, none⟩)) (ev_fieldAddr (i := 1) Try.underlying65 rfl Try.info3 rfl rfl) (by decide) ?_
   refine sr_ev (v := .int .i64 y10.until_) (ev_load Try.isAgg3 rfl (he14.cell 1 _ rfl)) (by decide) ?_
   refine sr_ev (v := .int .i64 now_3) (ev_move rfl) (by decide) ?_
   refine sr_ev (v := .bool (decide (y10.until_ > now_3))) (ev_gt rfl rfl) (by decide) ?_
   refine sr_end (l' := [(0, vl_0), (1, vscopes_1), (2, .int .i64 until_2), (3, .int .i64 now_3), (9, vout_9), (10, .int .i64 i_10), (26, .bool (decide (y10.until_ > now_3)))]) (.cons rfl (.cons rfl (.cons rfl (.cons rfl (.cons rfl (.cons rfl (.cons rfl (.nil _)))))))) ?_
   refine ke_cond (t := decide (y10.until_ > now_3)) rfl (fun hc17 => ?_) (fun hc17 => ?_)
   ·replace hS := ite_true' hS hc17
    refine ke_region ?_
    refine sr_ev (v := vout_9) (ev_move rfl) (by decide) ?_
    refine sr_ev (v := vl_0) (ev_move rfl) (by decide) ?_
    refine sr_ev (v := .int .i64 i_10) (ev_move rfl) (by decide) ?_
    obtain ⟨y18, hy19, hS⟩ := bind_some' hS
    obtain ⟨b20, o21, cs23, hq24, he22⟩ := ((SlT.of_sl (i := 0) hl_0)).elem (P := Try.prog) Try.underlying61 Try.info65 rfl hy19
    obtain rfl : cs23 = [str y18.scope, .int .i64 y18.until_] := he22.rd
    refine sr_ev (v := .pointer (some ⟨b20, o21, none⟩)) (hq24 w rfl rfl) (by decide) ?_
    refine sr_ev (v := .agg #[str y18.scope, .int .i64 y18.until_]) (ev_loads (cs := [str y18.scope, .int .i64 y18.until_]) Try.isAgg65 Try.sizeOf65 rfl he22.cell) (by decide) ?_
    refine sr_litT (c := ref32_item.c) (ρ := ρ) (E := 65) (xs := [y18]) (vs := #[(0, .agg #[str y18.scope, .int .i64 y18.until_])]) (cs := #[str y18.scope, .int .i64 y18.until_]) (css := [[str y18.scope, .int .i64 y18.until_]]) rfl (fun _ => by kernel_rfl) rfl ⟨rfl, trivial⟩ rfl (by decide) hb.bd (by decide) ?_
    intro v25 w27 h26 hbw29
    have htr28 := Tr.of_below hbw29 hb.bd
    replace hl_0 := hl_0.mv htr28.rd
    replace hscopes_1 := hscopes_1.mv htr28.rd
    replace hout_9 := hout_9.mv (htr28.mv (i := 11) rfl) (by decide)
    replace hb := hb.trans htr28
    obtain ⟨hk30, hS⟩ := chk_some hS
    refine sr_appendT (i := 11) (c := ref32_item.c) (ρ := ρ) (E := 65) (xs := out_9) (ys := ([y18] : List ref32_item)) hout_9 ((SlT.of_sl (i := 0) h26)).x Try.underlying61 Try.info65 rfl rfl rfl (by decide) (by decide) (by decide) hb.bd hk30 rfl rfl (by decide) ?_
    intro v31 ρ33 w34 h32 htr35
    replace hl_0 := hl_0.mv htr35.rd
    replace hscopes_1 := hscopes_1.mv htr35.rd
    replace hb := hb.trans htr35
    refine sr_ev (v := v31) (ev_assign rfl) (by decide) ?_
    refine sr_end (l' := [(0, vl_0), (1, vscopes_1), (2, .int .i64 until_2), (3, .int .i64 now_3), (9, v31), (10, .int .i64 i_10)]) (.cons rfl (.cons rfl (.cons rfl (.cons rfl (.cons rfl (.cons rfl (.nil _))))))) ?_
    have hK := ref32_joined_B2_ok hg hbd hz _ hr0 hS hb hl_0 hscopes_1 h32
    exact ke_weaken (l' := [(0, vl_0), (1, vscopes_1), (2, .int .i64 until_2), (3, .int .i64 now_3), (9, v31), (10, .int .i64 i_10)]) (.cons rfl (.cons rfl (.cons rfl (.cons rfl (.cons rfl (.cons rfl (.nil _))))))) hK
   ·replace hS := ite_false' hS hc17
    refine ke_skip ?_
    have hK := ref32_joined_B2_ok hg hbd hz _ hr0 hS hb hl_0 hscopes_1 hout_9
    exact ke_weaken (l' := [(0, vl_0), (1, vscopes_1), (2, .int .i64 until_2), (3, .int .i64 now_3), (9, vout_9), (10, .int .i64 i_10)]) (.cons rfl (.cons rfl (.cons rfl (.cons rfl (.cons rfl (.cons rfl (.nil _))))))) hK
  ·replace hS := ite_false' hS hc9
   refine ke_exit (k' := _) rfl ?_
   refine ke_seq ?_
   refine ke_seq ?_
   refine ke_region ?_
   refine sr_ev (v := .int .i64 0) (ev_assign rfl) (by decide) ?_
   refine sr_end (l' := [(1, vscopes_1), (2, .int .i64 until_2), (9, vout_9), (11, .int .i64 0)]) (.cons rfl (.cons rfl (.cons rfl (.cons rfl (.nil _))))) ?_
   refine ke_block ?_
   have hK := ref32_joined_L3_ok hg hbd hz _ hr0 _ hS hb hscopes_1 hout_9
   exact ke_weaken (l' := [(1, vscopes_1), (2, .int .i64 until_2), (9, vout_9), (11, .int .i64 0)]) (.cons rfl (.cons rfl (.cons rfl (.cons rfl (.nil _))))) (ke_loop hK)
theorem ref32_joined_ok (w0 : World) (hg : Gs w0) {ρA : Tags} (hbd : ∀ b, ρA b ≠ 0 → b < w0.heap.size) (hz : Gz ρA) {l_0 : List ref32_item} {scopes_1 : List Str} {until_2 : Int} {now_3 : Int} {v1 : Value} {v3 : Value} {r : List ref32_item} (h2 : SlR ref32_item.c (Wb ρA) w0 v1 l_0) (h4 : SlR strC (Wb ρA) w0 v3 scopes_1) (hS : ref32_joined l_0 scopes_1 until_2 now_3 = some r) :
  Calls Try.prog 51 #[v1, v3, .int .i64 until_2, .int .i64 now_3] w0 (Ret (fun v w' => ∃ x1, v = x1 ∧ SlR ref32_item.c (Wb ρA) w' x1 r ∧ Below w0.heap.size w0 w')) := by
 unfold ref32_joined at hS
 have hb := flat1_fr (ρ := ρA) (w := w0) hbd
 have hz := hz.flat1
 replace h2 := SlR.mv h2 flat1_rd
 replace h4 := SlR.mv h4 flat1_rd
 refine calls_of_ke Try.func51 rfl (n := 79) rfl rfl (l := [(0, v1), (1, v3), (2, .int .i64 until_2), (3, .int .i64 now_3)]) rfl ?_
 refine ke_seq ?_
 refine ke_region ?_
 refine sr_ev (v := .slice none 0 0) (ev_assign rfl) (by decide) ?_
 refine sr_end (l' := [(0, v1), (1, v3), (2, .int .i64 until_2), (3, .int .i64 now_3)]) (.cons rfl (.cons rfl (.cons rfl (.cons rfl (.nil _))))) ?_
 refine ke_seq ?_
 refine ke_region ?_
 refine sr_ev (v := .slice none 0 0) (ev_assign rfl) (by decide) ?_
 refine sr_end (l' := [(0, v1), (1, v3), (2, .int .i64 until_2), (3, .int .i64 now_3), (9, .slice none 0 0)]) (.cons rfl (.cons rfl (.cons rfl (.cons rfl (.cons rfl (.nil _)))))) ?_
 refine ke_seq ?_
 refine ke_seq ?_
 refine ke_region ?_
 refine sr_ev (v := .int .i64 0) (ev_assign rfl) (by decide) ?_
 refine sr_end (l' := [(0, v1), (1, v3), (2, .int .i64 until_2), (3, .int .i64 now_3), (9, .slice none 0 0), (10, .int .i64 0)]) (.cons rfl (.cons rfl (.cons rfl (.cons rfl (.cons rfl (.cons rfl (.nil _))))))) ?_
 refine ke_block ?_
 have hK := ref32_joined_L1_ok hg hbd hz _ hS hb h2 h4 OwnT.nil
 exact ke_weaken (l' := [(0, v1), (1, v3), (2, .int .i64 until_2), (3, .int .i64 now_3), (9, (.slice none 0 0)), (10, .int .i64 0)]) (.cons rfl (.cons rfl (.cons rfl (.cons rfl (.cons rfl (.cons rfl (.nil _))))))) (ke_loop hK)
theorem ref32_Consents_Grant_B2_ok {w0 : World} (hg : Gs w0) {ρA : Tags} (hbd : ∀ b, ρA b ≠ 0 → b < w0.heap.size) {o : Nat} (ho2 : 2 ≤ o) {gc_0 : Nat} (hz : Gz (enter ρA o 2)) {r : Int × ref32_Consents} {ogc_0 : ref32_Consents} (hS : ref32_Consents_Grant_B2 ogc_0 = some r) {ρ : Tags} {w : World} (hb : Fr (enter ρA o 2) w0 ρ w) (hogc_0 : ref32_Consents.O (fun p => 100 + p) ρ w gc_0 ogc_0) :
  KE Try.prog 29 (Ret (fun v w' => ∃ ρ', v = .int .i64 r.1 ∧ ref32_Consents.O (fun p => o + p) ρ' w' gc_0 r.2 ∧ Tr ρA w0 (rng o 2) ρ' w')) 98 [.code (sub (bodyOf Try.f29) [2, 2, 2, 2, 2, 2, 2, 2, 2, 2, 2, 2, 2, 2, 2])] [] w := by
 unfold ref32_Consents_Grant_B2 at hS
 obtain ⟨v144, hB146, h145⟩ := hogc_0
 replace hB146 : Blk ρ 100 w gc_0 (.cells #[.bool ogc_0.made, v144] 55 (0, 0)) := hB146
 replace h145 : OwnT ref32_pair.c 63 ρ 101 w v144 ogc_0.pairs := h145
 refine ke_seq ?_
 refine ke_region ?_
 refine sr_ev (v := .int .i64 0) (ev_assign rfl) (by decide) ?_
 refine sr_end (l' := [(12, .int .i64 0)]) (.cons rfl (.nil _)) ?_
 cases hS
 exact ke_ret1 Try.func29 rfl rfl ⟨_, rfl, leave ρA w0 o 2 ρ, rfl, ⟨_, (hB146.mv (leave_mv (p := 0) (by decide) hb)), (h145.mv (leave_mv (p := 1) (by decide) hb) (Nat.ne_of_gt (Nat.lt_of_lt_of_le (Nat.lt_of_lt_of_le Nat.zero_lt_two ho2) (Nat.le_add_right _ _))))⟩, (leave_tr ho2 hb)⟩
theorem ref32_Consents_Grant_B1_ok {w0 : World} (hg : Gs w0) {ρA : Tags} (hbd : ∀ b, ρA b ≠ 0 → b < w0.heap.size) {o : Nat} (ho2 : 2 ≤ o) {gc_0 : Nat} (hz : Gz (enter ρA o 2)) {r : Int × ref32_Consents} {oc_0 : ref32_Consents} {scopes_3 : List Str} {until_4 : Int} {now_5 : Int} {i_14 : Int} {p_15_0 : Str} {p_15_1 : Str} {p_15_2 : List ref32_item} {vscopes_3 : Value} {gp_15 : Nat} {vp_15_2 : Value} (hS : ref32_Consents_Grant_B1 oc_0 scopes_3 until_4 now_5 i_14 p_15_0 p_15_1 p_15_2 = some r) {ρ : Tags} {w : World} (hb : Fr (enter ρA o 2) w0 ρ w) (hoc_0 : ref32_Consents.O (fun p => 100 + p) ρ w gc_0 oc_0) (hscopes_3 : SlR strC (Wb ρ) w vscopes_3 scopes_3) (hp_15_2 : SlR ref32_item.c (Wb ρ) w vp_15_2 p_15_2) (hBp_15 : Blk ρ 17 w gp_15 (.cells #[str p_15_0, str p_15_1, vp_15_2] 63 (0, 0))) :
  KE Try.prog 29 (Ret (fun v w' => ∃ ρ', v = .int .i64 r.1 ∧ ref32_Consents.O (fun p => o + p) ρ' w' gc_0 r.2 ∧ Tr ρA w0 (rng o 2) ρ' w')) 98 [.code (sub (bodyOf Try.f29) [2, 2, 2, 2, 2, 2, 2, 2, 2, 2, 2, 2])] [(0, .pointer (some ⟨gc_0, 0, none⟩)), (3, vscopes_3), (4, .int .i64 until_4), (5, .int .i64 now_5), (14, .int .i64 i_14), (15, .pointer (some ⟨gp_15, 0, none⟩))] w := by
 unfold ref32_Consents_Grant_B1 at hS
 obtain ⟨v84, hB86, h85⟩ := hoc_0
 replace hB86 : Blk ρ 100 w gc_0 (.cells #[.bool oc_0.made, v84] 55 (0, 0)) := hB86
 replace h85 : OwnT ref32_pair.c 63 ρ 101 w v84 oc_0.pairs := h85
 refine ke_seq ?_
 refine ke_region ?_
 refine sr_ev (v := .pointer (some ⟨gp_15, 2, none⟩)) (ev_fieldAddr (i := 2) Try.underlying63 rfl Try.info61 rfl rfl) (by decide) ?_
 refine sr_ev (v := vp_15_2) (ev_load Try.isAgg61 rfl (hBp_15.cell rfl)) (by decide) ?_
 refine sr_ev (v := vscopes_3) (ev_move rfl) (by decide) ?_
 refine sr_ev (v := .int .i64 until_4) (ev_move rfl) (by decide) ?_
 refine sr_ev (v := .int .i64 now_5) (ev_move rfl) (by decide) ?_
 obtain ⟨y87, hy88, hS⟩ := bind_some' hS
 refine sr_call (vs := [vp_15_2, vscopes_3, .int .i64 until_4, .int .i64 now_5]) rfl Try.call51 rfl (ref32_joined_ok _ (hg.fr hz hb) (ρA := ρ) hb.bd (hz.fr hg hb) hp_15_2 hscopes_3 hy88) (by decide) ?_
 rintro v92 w89 ⟨_, rfl, h93, hbw90⟩
 have htr91 := Tr.of_below hbw90 hb.bd
 replace hB86 := hB86.mv (htr91.mv (i := 100) rfl)
 replace h85 := h85.mv (htr91.mv (i := 101) rfl) (by decide)
 replace hBp_15 := hBp_15.mv (htr91.mv (i := 17) rfl)
 replace hp_15_2 := hp_15_2.mv htr91.rd
 replace hb := hb.trans htr91
 refine sr_ev (v := .pointer (some ⟨gp_15, 2, none⟩)) (ev_fieldAddr (i := 2) Try.underlying63 rfl Try.info61 rfl rfl) (by decide) ?_
 refine sr_storeT (v := v92) (vs := [v92]) (cs' := #[str p_15_0, str p_15_1, v92]) hBp_15 (by decide) hb.bd rfl rfl (one_cells (SlR.oneCell h93)) Try.sizeOf61 rfl (by first | rfl | (simp only [List.all_cons, List.all_nil, SlR.oneCell h93]; done) | (simp only [List.all_cons, List.all_nil, SlR.oneCell h93]; rfl)) rfl ?_
 intro w94 hBp_151 htr95
 replace hB86 := hB86.mv (htr95.mv (i := 100) rfl)
 replace h85 := h85.mv (htr95.mv (i := 101) rfl) (by decide)
 replace h93 := h93.mv htr95.rd
 replace hb := hb.trans htr95
 replace hBp_15 : Blk ρ 17 w94 gp_15 (.cells #[str p_15_0, str p_15_1, v92] 63 (0, 0)) := hBp_151
 clear hBp_151
 refine sr_end (l' := [(0, .pointer (some ⟨gc_0, 0, none⟩)), (14, .int .i64 i_14), (15, .pointer (some ⟨gp_15, 0, none⟩))]) (.cons rfl (.cons rfl (.cons rfl (.nil _)))) ?_
 refine ke_seq ?_
 refine ke_seq ?_
 refine ke_region ?_
 refine sr_ev (v := .pointer (some ⟨gp_15, 2, none⟩)) (ev_fieldAddr (i := 2) Try.underlying63 rfl Try.info61 rfl rfl) (by decide) ?_
 refine sr_ev (v := v92) (ev_load Try.isAgg61 rfl (hBp_15.cell rfl)) (by decide) ?_
 refine sr_ev (v := .int .i64 (y87.length : Int)) (ev_sllen Try.underlying61 rfl h93.asSl) (by decide) ?_
 refine sr_ev (v := .bool (decide ((y87.length : Int) > 16))) (ev_gt rfl rfl) (by decide) ?_
 refine sr_end (l' := [(0, .pointer (some ⟨gc_0, 0, none⟩)), (14, .int .i64 i_14), (15, .pointer (some ⟨gp_15, 0, none⟩)), (78, .bool (decide ((y87.length : Int) > 16)))]) (.cons rfl (.cons rfl (.cons rfl (.cons rfl (.nil _))))) ?_
 refine ke_cond (t := decide ((y87.length : Int) > 16)) rfl (fun hc96 => ?_) (fun hc96 => ?_)
 ·replace hS := ite_true' hS hc96
  refine ke_seq ?_
  refine ke_region ?_
  refine sr_ev (v := .int .i64 3) (ev_assign rfl) (by decide) ?_
  refine sr_end (l' := [(12, .int .i64 3)]) (.cons rfl (.nil _)) ?_
  cases hS
  exact ke_ret1 Try.func29 rfl rfl ⟨_, rfl, leave ρA w0 o 2 ρ, rfl, ⟨_, (hB86.mv (leave_mv (p := 0) (by decide) hb)), (h85.mv (leave_mv (p := 1) (by decide) hb) (Nat.ne_of_gt (Nat.lt_of_lt_of_le (Nat.lt_of_lt_of_le Nat.zero_lt_two ho2) (Nat.le_add_right _ _))))⟩, (leave_tr ho2 hb)⟩
 ·replace hS := ite_false' hS hc96
  refine ke_skip ?_
  refine ke_seq ?_
  refine ke_seq ?_
  refine ke_region ?_
  refine sr_ev (v := .int .i64 i_14) (ev_move rfl) (by decide) ?_
  refine sr_ev (v := .bool (decide (i_14 ≥ 0))) (ev_ge rfl rfl) (by decide) ?_
  refine sr_end (l' := [(0, .pointer (some ⟨gc_0, 0, none⟩)), (14, .int .i64 i_14), (15, .pointer (some ⟨gp_15, 0, none⟩)), (80, .bool (decide (i_14 ≥ 0)))]) (.cons rfl (.cons rfl (.cons rfl (.cons rfl (.nil _))))) ?_
  refine ke_cond (t := decide (i_14 ≥ 0)) rfl (fun hc97 => ?_) (fun hc97 => ?_)
  ·replace hS := ite_true' hS hc97
   refine ke_region_j (ρ := ρ) (fun t => ([101] : List Nat).contains t) 8 Try.mixed (fun w99 hw98 => ?_)
   have htr100 := Tr.of_below hw98 hb.bd
   replace hB86 := hB86.mv (htr100.mv (i := 100) rfl)
   replace h85 := h85.mv (htr100.mv (i := 101) rfl) (by decide)
   replace hBp_15 := hBp_15.mv (htr100.mv (i := 17) rfl)
   replace h93 := h93.mv htr100.rd
   replace hb := hb.trans htr100
   refine dj_H 0 (v := .pointer (some ⟨gc_0, 0, none⟩)) (by kernel_rfl) (by kernel_rfl) rfl (fun _ _ _ h => h) (sj_refl hb.bd rfl rfl) (fun w1 ρ1 hw1 => ev_move rfl) (by decide) ?_
   refine dj_H 1 (v := .pointer (some ⟨gc_0, 0, none⟩)) (by kernel_rfl) (by kernel_rfl) rfl (fun _ _ _ h => h) (sj_refl hb.bd rfl rfl) (fun w1 ρ1 hw1 => ev_nilCheck rfl) (by decide) ?_
   refine dj_H 2 (v := .pointer (some ⟨gc_0, 1, none⟩)) (by kernel_rfl) (by kernel_rfl) rfl (fun _ _ _ h => h) (sj_refl hb.bd rfl rfl) (fun w1 ρ1 hw1 => ev_fieldAddr (i := 1) Try.underlying55 rfl Try.info53 rfl rfl) (by decide) ?_
   refine dj_H 3 (v := v84) (by kernel_rfl) (by kernel_rfl) rfl (fun _ _ _ h => h) (sj_refl hb.bd rfl rfl) (fun w1 ρ1 hw1 => ev_load Try.isAgg53 rfl ((hB86.mv (hw1.mv (i := 100) rfl)).cell rfl)) (by decide) ?_
   refine dj_H 4 (v := .int .i64 i_14) (by kernel_rfl) (by kernel_rfl) rfl (fun _ _ _ h => h) (sj_refl hb.bd rfl rfl) (fun w1 ρ1 hw1 => ev_move rfl) (by decide) ?_
   refine dj_H 5 (v := .agg #[str p_15_0, str p_15_1, v92]) (by kernel_rfl) (by kernel_rfl) rfl (fun _ _ _ h => h) (sj_refl hb.bd rfl rfl) (fun w1 ρ1 hw1 => ev_loads (cs := [str p_15_0, str p_15_1, v92]) Try.isAgg63 Try.sizeOf63 rfl ((hBp_15.mv (hw1.mv (i := 17) rfl)).cells (vs := [str p_15_0, str p_15_1, v92]) rfl)) (by decide) ?_
   obtain ⟨y130, hy131, hS⟩ := bind_some' hS
   obtain ⟨b132, o133, cs135, hq136, he134, hg139, ho140⟩ := h85.elemQ (P := Try.prog) Try.underlying53 Try.info63 rfl hy131
   obtain ⟨v137, hcshe134, h138⟩ := he134.rd
   obtain rfl : cs135 = [str y130.user, str y130.client, v137] := hcshe134
   refine dj_H 6 (v := .pointer (some ⟨b132, o133, none⟩)) (by kernel_rfl) (by kernel_rfl) rfl (fun _ _ _ h => h) (sj_refl hb.bd rfl rfl) (fun w1 ρ1 hw1 => hq136 w1 rfl rfl) (by decide) ?_
   refine dj_E 7 (by kernel_rfl) rfl ?_
   have jt141 : Tr ρ w99 (fun t => ([101] : List Nat).contains t) ρ w99 := (Tr.refl hb.bd).weak (fun _ _ => rfl) rfl rfl
   refine sr_storeEl (z' := (ref32_pair.mk p_15_0 p_15_1 y87)) (u := .agg #[str p_15_0, str p_15_1, v92]) (vs := [str p_15_0, str p_15_1, v92]) (cs' := [str p_15_0, str p_15_1, v92]) (off := 0) h85 hg139 ho140 hy131 he134 (by decide) hb.bd rfl rfl rfl Try.sizeOf63 (by first | rfl | (simp only [List.all_cons, List.all_nil, SlR.oneCell h93]; done) | (simp only [List.all_cons, List.all_nil, SlR.oneCell h93]; rfl)) rfl rfl ⟨_, rfl, h93⟩ ?_
   intro w142 h851 htr143
   replace hB86 := hB86.mv (htr143.mv (i := 100) rfl)
   replace hb := hb.trans htr143
   replace jt141 := (jt141.trans htr143).weak (J' := (fun t => ([101] : List Nat).contains t)) (by intro t h; simp [rng] at h ⊢ <;> omega) rfl rfl
   replace h85 := h851
   clear h851
   refine dj_next (l' := []) rfl (.nil _) jt141 (by intro t h; simp [rng] at h ⊢ <;> omega) rfl rfl ?_
   refine dj_done rfl (by kernel_rfl) ?_
   refine ke_weaken (l' := []) (.nil _) ?_
   have hK := ref32_Consents_Grant_B2_ok hg hbd ho2 hz hS hb ⟨_, hB86, h85⟩
   exact ke_weaken (l' := []) (.nil _) hK
  ·replace hS := ite_false' hS hc97
   refine ke_region_j (ρ := ρ) (fun t => ([100, 101] : List Nat).contains t) 11 Try.mixed (fun w148 hw147 => ?_)
   have htr149 := Tr.of_below hw147 hb.bd
   replace hB86 := hB86.mv (htr149.mv (i := 100) rfl)
   replace h85 := h85.mv (htr149.mv (i := 101) rfl) (by decide)
   replace hBp_15 := hBp_15.mv (htr149.mv (i := 17) rfl)
   replace h93 := h93.mv htr149.rd
   replace hb := hb.trans htr149
   refine dj_H 0 (v := .pointer (some ⟨gc_0, 0, none⟩)) (by kernel_rfl) (by kernel_rfl) rfl (fun _ _ _ h => h) (sj_refl hb.bd rfl rfl) (fun w1 ρ1 hw1 => ev_move rfl) (by decide) ?_
   refine dj_H 1 (v := .pointer (some ⟨gc_0, 0, none⟩)) (by kernel_rfl) (by kernel_rfl) rfl (fun _ _ _ h => h) (sj_refl hb.bd rfl rfl) (fun w1 ρ1 hw1 => ev_move rfl) (by decide) ?_
   refine dj_H 2 (v := .pointer (some ⟨gc_0, 0, none⟩)) (by kernel_rfl) (by kernel_rfl) rfl (fun _ _ _ h => h) (sj_refl hb.bd rfl rfl) (fun w1 ρ1 hw1 => ev_nilCheck rfl) (by decide) ?_
   refine dj_H 3 (v := .pointer (some ⟨gc_0, 1, none⟩)) (by kernel_rfl) (by kernel_rfl) rfl (fun _ _ _ h => h) (sj_refl hb.bd rfl rfl) (fun w1 ρ1 hw1 => ev_fieldAddr (i := 1) Try.underlying55 rfl Try.info53 rfl rfl) (by decide) ?_
   refine dj_H 5 (v := .agg #[str p_15_0, str p_15_1, v92]) (by kernel_rfl) (by kernel_rfl) rfl (fun _ _ _ h => h) (sj_refl hb.bd rfl rfl) (fun w1 ρ1 hw1 => ev_loads (cs := [str p_15_0, str p_15_1, v92]) Try.isAgg63 Try.sizeOf63 rfl ((hBp_15.mv (hw1.mv (i := 17) rfl)).cells (vs := [str p_15_0, str p_15_1, v92]) rfl)) (by decide) ?_
   obtain ⟨hk209, hS⟩ := chk_some hS
   refine dj_all [4, 6] (by kernel_rfl) (fun i hi => ?_)
   simp only [List.mem_cons, List.not_mem_nil, or_false] at hi
   rcases hi with rfl | rfl
   ·refine ⟨_, rfl, ?_⟩
    have jt218 : Tr ρ w148 (fun t => ([100, 101] : List Nat).contains t) ρ w148 := (Tr.refl hb.bd).weak (fun _ _ => rfl) rfl rfl
    refine sr_ev (v := v84) (ev_load Try.isAgg53 rfl (hB86.cell rfl)) (by decide) ?_
    refine dj_next (l' := [(88, .pointer (some ⟨gc_0, 0, none⟩)), (92, v84), (93, .agg #[str p_15_0, str p_15_1, v92])]) rfl (.cons rfl (.cons rfl (.cons rfl (.nil _)))) jt218 (by intro t h; simp [rng] at h ⊢ <;> omega) rfl rfl ?_
    refine dj_E 6 (by kernel_rfl) rfl ?_
    have jt219 : Tr ρ w148 (fun t => ([100, 101] : List Nat).contains t) ρ w148 := (Tr.refl hb.bd).weak (fun _ _ => rfl) rfl rfl
    refine sr_litT (c := ref32_pair.c) (ρ := ρ) (E := 63) (xs := [(ref32_pair.mk p_15_0 p_15_1 y87)]) (vs := #[(0, .agg #[str p_15_0, str p_15_1, v92])]) (cs := #[str p_15_0, str p_15_1, v92]) (css := [[str p_15_0, str p_15_1, v92]]) rfl (fun _ => by kernel_rfl) rfl ⟨⟨_, rfl, h93⟩, trivial⟩ rfl (by decide) hb.bd (by decide) ?_
    intro v220 w222 h221 hbw224
    have htr223 := Tr.of_below hbw224 hb.bd
    replace h85 := h85.mv (htr223.mv (i := 101) rfl) (by decide)
    replace hB86 := hB86.mv (htr223.mv (i := 100) rfl)
    replace hb := hb.trans htr223
    replace jt219 := (jt219.trans htr223).weak (J' := (fun t => ([100, 101] : List Nat).contains t)) (by intro t h; simp [rng] at h ⊢ <;> omega) rfl rfl
    refine dj_next (l' := [(88, .pointer (some ⟨gc_0, 0, none⟩)), (92, v84), (94, v220)]) rfl (.cons rfl (.cons rfl (.cons rfl (.nil _)))) jt219 (by intro t h; simp [rng] at h ⊢ <;> omega) rfl rfl ?_
    refine dj_E 7 (by kernel_rfl) rfl ?_
    have jt225 : Tr ρ w222 (fun t => ([100, 101] : List Nat).contains t) ρ w222 := (Tr.refl hb.bd).weak (fun _ _ => rfl) rfl rfl
    refine sr_appendT (i := 101) (c := ref32_pair.c) (ρ := ρ) (E := 63) (xs := oc_0.pairs) (ys := ([(ref32_pair.mk p_15_0 p_15_1 y87)] : List ref32_pair)) h85 ((SlT.of_sl (i := 0) h221)).x Try.underlying53 Try.info63 rfl rfl rfl (by decide) (by decide) (by decide) hb.bd hk209 rfl rfl (by decide) ?_
    intro v226 ρ228 w229 h227 htr230
    replace hB86 := hB86.mv (htr230.mv (i := 100) rfl)
    replace hb := hb.trans htr230
    replace jt225 := (jt225.trans htr230).weak (J' := (fun t => ([100, 101] : List Nat).contains t)) (by intro t h; simp [rng] at h ⊢ <;> omega) rfl rfl
    refine dj_next (l' := [(88, .pointer (some ⟨gc_0, 0, none⟩)), (95, v226)]) rfl (.cons rfl (.cons rfl (.nil _))) jt225 (by intro t h; simp [rng] at h ⊢ <;> omega) rfl rfl ?_
    refine dj_H 8 (v := .pointer (some ⟨gc_0, 0, none⟩)) (by kernel_rfl) (by kernel_rfl) rfl (fun _ _ _ h => h) (sj_refl hb.bd rfl rfl) (fun w1 ρ1 hw1 => ev_nilCheck rfl) (by decide) ?_
    refine dj_H 9 (v := .pointer (some ⟨gc_0, 1, none⟩)) (by kernel_rfl) (by kernel_rfl) rfl (fun _ _ _ h => h) (sj_refl hb.bd rfl rfl) (fun w1 ρ1 hw1 => ev_fieldAddr (i := 1) Try.underlying55 rfl Try.info53 rfl rfl) (by decide) ?_
    refine dj_E 10 (by kernel_rfl) rfl ?_
    have jt231 : Tr ρ228 w229 (fun t => ([100, 101] : List Nat).contains t) ρ228 w229 := (Tr.refl hb.bd).weak (fun _ _ => rfl) rfl rfl
    refine sr_storeT (v := v226) (vs := [v226]) (cs' := #[.bool oc_0.made, v226]) hB86 (by decide) hb.bd rfl rfl (one_cells (OwnT.oneCell h227)) Try.sizeOf53 rfl (by first | rfl | (simp only [List.all_cons, List.all_nil, OwnT.oneCell h227]; done) | (simp only [List.all_cons, List.all_nil, OwnT.oneCell h227]; rfl)) rfl ?_
    intro w232 hB861 htr233
    replace h227 := h227.mv (htr233.mv (i := 101) rfl) (by decide)
    replace hb := hb.trans htr233
    replace jt231 := (jt231.trans htr233).weak (J' := (fun t => ([100, 101] : List Nat).contains t)) (by intro t h; simp [rng] at h ⊢ <;> omega) rfl rfl
    replace hB86 : Blk ρ228 100 w232 gc_0 (.cells #[.bool oc_0.made, v226] 55 (0, 0)) := hB861
    clear hB861
    refine dj_next (l' := []) rfl (.nil _) jt231 (by intro t h; simp [rng] at h ⊢ <;> omega) rfl rfl ?_
    refine dj_done rfl (by kernel_rfl) ?_
    refine ke_weaken (l' := []) (.nil _) ?_
    have hK := ref32_Consents_Grant_B2_ok hg hbd ho2 hz hS hb ⟨_, hB86, h227⟩
    exact ke_weaken (l' := []) (.nil _) hK
   ·refine ⟨_, rfl, ?_⟩
    have jt234 : Tr ρ w148 (fun t => ([100, 101] : List Nat).contains t) ρ w148 := (Tr.refl hb.bd).weak (fun _ _ => rfl) rfl rfl
    refine sr_litT (c := ref32_pair.c) (ρ := ρ) (E := 63) (xs := [(ref32_pair.mk p_15_0 p_15_1 y87)]) (vs := #[(0, .agg #[str p_15_0, str p_15_1, v92])]) (cs := #[str p_15_0, str p_15_1, v92]) (css := [[str p_15_0, str p_15_1, v92]]) rfl (fun _ => by kernel_rfl) rfl ⟨⟨_, rfl, h93⟩, trivial⟩ rfl (by decide) hb.bd (by decide) ?_
    intro v235 w237 h236 hbw239
    have htr238 := Tr.of_below hbw239 hb.bd
    replace hB86 := hB86.mv (htr238.mv (i := 100) rfl)
    replace h85 := h85.mv (htr238.mv (i := 101) rfl) (by decide)
    replace hb := hb.trans htr238
    replace jt234 := (jt234.trans htr238).weak (J' := (fun t => ([100, 101] : List Nat).contains t)) (by intro t h; simp [rng] at h ⊢ <;> omega) rfl rfl
    refine dj_next (l' := [(88, .pointer (some ⟨gc_0, 0, none⟩)), (91, .pointer (some ⟨gc_0, 1, none⟩)), (94, v235)]) rfl (.cons rfl (.cons rfl (.cons rfl (.nil _)))) jt234 (by intro t h; simp [rng] at h ⊢ <;> omega) rfl rfl ?_
    refine dj_E 4 (by kernel_rfl) rfl ?_
    have jt240 : Tr ρ w237 (fun t => ([100, 101] : List Nat).contains t) ρ w237 := (Tr.refl hb.bd).weak (fun _ _ => rfl) rfl rfl
    refine sr_ev (v := v84) (ev_load Try.isAgg53 rfl (hB86.cell rfl)) (by decide) ?_
    refine dj_next (l' := [(88, .pointer (some ⟨gc_0, 0, none⟩)), (92, v84), (94, v235)]) rfl (.cons rfl (.cons rfl (.cons rfl (.nil _)))) jt240 (by intro t h; simp [rng] at h ⊢ <;> omega) rfl rfl ?_
    refine dj_E 7 (by kernel_rfl) rfl ?_
    have jt241 : Tr ρ w237 (fun t => ([100, 101] : List Nat).contains t) ρ w237 := (Tr.refl hb.bd).weak (fun _ _ => rfl) rfl rfl
    refine sr_appendT (i := 101) (c := ref32_pair.c) (ρ := ρ) (E := 63) (xs := oc_0.pairs) (ys := ([(ref32_pair.mk p_15_0 p_15_1 y87)] : List ref32_pair)) h85 ((SlT.of_sl (i := 0) h236)).x Try.underlying53 Try.info63 rfl rfl rfl (by decide) (by decide) (by decide) hb.bd hk209 rfl rfl (by decide) ?_
    intro v242 ρ244 w245 h243 htr246
    replace hB86 := hB86.mv (htr246.mv (i := 100) rfl)
    replace hb := hb.trans htr246
    replace jt241 := (jt241.trans htr246).weak (J' := (fun t => ([100, 101] : List Nat).contains t)) (by intro t h; simp [rng] at h ⊢ <;> omega) rfl rfl
    refine dj_next (l' := [(88, .pointer (some ⟨gc_0, 0, none⟩)), (95, v242)]) rfl (.cons rfl (.cons rfl (.nil _))) jt241 (by intro t h; simp [rng] at h ⊢ <;> omega) rfl rfl ?_
    refine dj_H 8 (v := .pointer (some ⟨gc_0, 0, none⟩)) (by kernel_rfl) (by kernel_rfl) rfl (fun _ _ _ h => h) (sj_refl hb.bd rfl rfl) (fun w1 ρ1 hw1 => ev_nilCheck rfl) (by decide) ?_
    refine dj_H 9 (v := .pointer (some ⟨gc_0, 1, none⟩)) (by kernel_rfl) (by kernel_rfl) rfl (fun _ _ _ h => h) (sj_refl hb.bd rfl rfl) (fun w1 ρ1 hw1 => ev_fieldAddr (i := 1) Try.underlying55 rfl Try.info53 rfl rfl) (by decide) ?_
    refine dj_E 10 (by kernel_rfl) rfl ?_
    have jt247 : Tr ρ244 w245 (fun t => ([100, 101] : List Nat).contains t) ρ244 w245 := (Tr.refl hb.bd).weak (fun _ _ => rfl) rfl rfl
    refine sr_storeT (v := v242) (vs := [v242]) (cs' := #[.bool oc_0.made, v242]) hB86 (by decide) hb.bd rfl rfl (one_cells (OwnT.oneCell h243)) Try.sizeOf53 rfl (by first | rfl | (simp only [List.all_cons, List.all_nil, OwnT.oneCell h243]; done) | (simp only [List.all_cons, List.all_nil, OwnT.oneCell h243]; rfl)) rfl ?_
    intro w248 hB861 htr249
    replace h243 := h243.mv (htr249.mv (i := 101) rfl) (by decide)
    replace hb := hb.trans htr249
    replace jt247 := (jt247.trans htr249).weak (J' := (fun t => ([100, 101] : List Nat).contains t)) (by intro t h; simp [rng] at h ⊢ <;> omega) rfl rfl
    replace hB86 : Blk ρ244 100 w248 gc_0 (.cells #[.bool oc_0.made, v242] 55 (0, 0)) := hB861
    clear hB861
    refine dj_next (l' := []) rfl (.nil _) jt247 (by intro t h; simp [rng] at h ⊢ <;> omega) rfl rfl ?_
    refine dj_done rfl (by kernel_rfl) ?_
    refine ke_weaken (l' := []) (.nil _) ?_
    have hK := ref32_Consents_Grant_B2_ok hg hbd ho2 hz hS hb ⟨_, hB86, h243⟩
    exact ke_weaken (l' := []) (.nil _) hK
theorem ref32_Consents_Grant_ok (w0 : World) (hg : Gs w0) {ρA : Tags} (hbd : ∀ b, ρA b ≠ 0 → b < w0.heap.size) (hz : Gz ρA) {o : Nat} (ho2 : 2 ≤ o) {c_0 : ref32_Consents} {user_1 : Str} {client_2 : Str} {scopes_3 : List Str} {until_4 : Int} {now_5 : Int} {v4 : Value} {gc_0 : Nat} {r : Int × ref32_Consents} (h5 : SlR strC (Wb ρA) w0 v4 scopes_3) (ho0 : ref32_Consents.O (fun p => o + p) ρA w0 gc_0 c_0) (hS : ref32_Consents_Grant c_0 user_1 client_2 scopes_3 until_4 now_5 = some r) :
  Calls Try.prog 29 #[.pointer (some ⟨gc_0, 0, none⟩), str user_1, str client_2, v4, .int .i64 until_4, .int .i64 now_5] w0 (Ret (fun v w' => ∃ ρ', v = .int .i64 r.1 ∧ ref32_Consents.O (fun p => o + p) ρ' w' gc_0 r.2 ∧ Tr ρA w0 (rng o 2) ρ' w')) := by
 unfold ref32_Consents_Grant at hS
 have hb := enter_fr (ρ := ρA) (w := w0) (n := 2) ho2 hbd
 have hz := hz.enter (n := 2) ho2
 replace h5 := SlR.mv h5 (enter_rd (n := 2) ho2)
 obtain ⟨v1, hB3, h2⟩ := ho0
 replace hB3 := hB3.mv (enter_mv (p := 0) (n := 2) (by decide) ho2)
 replace h2 := h2.mv (enter_mv (p := 1) (n := 2) (by decide) ho2) (by decide)
 replace hB3 : Blk (enter ρA o 2) 100 w0 gc_0 (.cells #[.bool c_0.made, v1] 55 (0, 0)) := hB3
 replace h2 : OwnT ref32_pair.c 63 (enter ρA o 2) 101 w0 v1 c_0.pairs := h2
 refine calls_of_ke Try.func29 rfl (n := 98) rfl rfl (l := [(0, .pointer (some ⟨gc_0, 0, none⟩)), (1, str user_1), (2, str client_2), (3, v4), (4, .int .i64 until_4), (5, .int .i64 now_5)]) rfl ?_
 refine ke_seq ?_
 refine ke_region ?_
 refine sr_ev (v := .int .i64 0) (ev_assign rfl) (by decide) ?_
 refine sr_end (l' := [(0, .pointer (some ⟨gc_0, 0, none⟩)), (1, str user_1), (2, str client_2), (3, v4), (4, .int .i64 until_4), (5, .int .i64 now_5)]) (.cons rfl (.cons rfl (.cons rfl (.cons rfl (.cons rfl (.cons rfl (.nil _))))))) ?_
 refine ke_seq ?_
 refine ke_seq ?_
 refine ke_region ?_
 refine sr_ev (v := .pointer (some ⟨gc_0, 0, none⟩)) (ev_move rfl) (by decide) ?_
 obtain ⟨y6, hy7, hS⟩ := bind_some' hS
 refine sr_call (vs := [.pointer (some ⟨gc_0, 0, none⟩)]) rfl Try.call33 rfl (ref32_Consents_Made_ok _ (hg.fr hz hb) (ρA := (enter ρA o 2)) hb.bd (hz.fr hg hb) (τ0 := (fun p => 100 + p)) (fun p => Nat.le_add_right_of_le (by decide)) (⟨_, hB3, h2⟩ : ref32_Consents.O (fun p => 100 + p) (enter ρA o 2) w0 gc_0 c_0) hy7) (by decide) ?_
 rintro _ w8 ⟨rfl, hbw9⟩
 have htr10 := Tr.of_below hbw9 hb.bd
 replace h5 := h5.mv htr10.rd
 replace hB3 := hB3.mv (htr10.mv (i := 100) rfl)
 replace h2 := h2.mv (htr10.mv (i := 101) rfl) (by decide)
 replace hb := hb.trans htr10
 refine sr_ev (v := .bool (!y6)) (ev_not rfl) (by decide) ?_
 refine sr_end (l' := [(0, .pointer (some ⟨gc_0, 0, none⟩)), (1, str user_1), (2, str client_2), (3, v4), (4, .int .i64 until_4), (5, .int .i64 now_5), (18, .bool (!y6))]) (.cons rfl (.cons rfl (.cons rfl (.cons rfl (.cons rfl (.cons rfl (.cons rfl (.nil _)))))))) ?_
 refine ke_cond (t := !y6) rfl (fun hc11 => ?_) (fun hc11 => ?_)
 ·replace hS := ite_true' hS hc11
  refine ke_seq ?_
  refine ke_region ?_
  refine sr_ev (v := .int .i64 1) (ev_assign rfl) (by decide) ?_
  refine sr_end (l' := [(12, .int .i64 1)]) (.cons rfl (.nil _)) ?_
  cases hS
  exact ke_ret1 Try.func29 rfl rfl ⟨_, rfl, leave ρA w0 o 2 (enter ρA o 2), rfl, ⟨_, (hB3.mv (leave_mv (p := 0) (by decide) hb)), (h2.mv (leave_mv (p := 1) (by decide) hb) (Nat.ne_of_gt (Nat.lt_of_lt_of_le (Nat.lt_of_lt_of_le Nat.zero_lt_two ho2) (Nat.le_add_right _ _))))⟩, (leave_tr ho2 hb)⟩
 ·replace hS := ite_false' hS hc11
  refine ke_skip ?_
  refine ke_seq ?_
  refine ke_region ?_
  refine sr_ev (v := .int .i64 until_4) (ev_move rfl) (by decide) ?_
  obtain ⟨y12, hy13, hS⟩ := bind_some' hS
  refine sr_call (vs := [.int .i64 until_4]) rfl Try.call35 rfl (ref22_Limited_ok _ (hg.fr hz hb) hy13) (by decide) ?_
  rintro _ w14 ⟨rfl, hbw15⟩
  have htr16 := Tr.of_below hbw15 hb.bd
  replace h5 := h5.mv htr16.rd
  replace hB3 := hB3.mv (htr16.mv (i := 100) rfl)
  replace h2 := h2.mv (htr16.mv (i := 101) rfl) (by decide)
  replace hb := hb.trans htr16
  refine sr_ev (v := .int .i64 y12) (ev_assign rfl) (by decide) ?_
  refine sr_end (l' := [(0, .pointer (some ⟨gc_0, 0, none⟩)), (1, str user_1), (2, str client_2), (3, v4), (4, .int .i64 y12), (5, .int .i64 now_5)]) (.cons rfl (.cons rfl (.cons rfl (.cons rfl (.cons rfl (.cons rfl (.nil _))))))) ?_
  refine ke_seq ?_
  refine ke_region ?_
  refine sr_ev (v := .int .i64 now_5) (ev_move rfl) (by decide) ?_
  obtain ⟨y17, hy18, hS⟩ := bind_some' hS
  refine sr_call (vs := [.int .i64 now_5]) rfl Try.call35 rfl (ref22_Limited_ok _ (hg.fr hz hb) hy18) (by decide) ?_
  rintro _ w19 ⟨rfl, hbw20⟩
  have htr21 := Tr.of_below hbw20 hb.bd
  replace h5 := h5.mv htr21.rd
  replace hB3 := hB3.mv (htr21.mv (i := 100) rfl)
  replace h2 := h2.mv (htr21.mv (i := 101) rfl) (by decide)
  replace hb := hb.trans htr21
  refine sr_ev (v := .int .i64 y17) (ev_assign rfl) (by decide) ?_
  refine sr_end (l' := [(0, .pointer (some ⟨gc_0, 0, none⟩)), (1, str user_1), (2, str client_2), (3, v4), (4, .int .i64 y12), (5, .int .i64 y17)]) (.cons rfl (.cons rfl (.cons rfl (.cons rfl (.cons rfl (.cons rfl (.nil _))))))) ?_
  refine ke_seq ?_
  refine ke_seq ?_
  refine ke_region ?_
  refine sr_ev (v := str user_1) (ev_move rfl) (by decide) ?_
  obtain ⟨y22, hy23, hS⟩ := bind_some' hS
  refine sr_call (vs := [str user_1]) rfl Try.call49 rfl (ref01_Word_ok _ (hg.fr hz hb) hy23) (by decide) ?_
  rintro _ w24 ⟨rfl, hbw25⟩
  have htr26 := Tr.of_below hbw25 hb.bd
  replace h5 := h5.mv htr26.rd
  replace hB3 := hB3.mv (htr26.mv (i := 100) rfl)
  replace h2 := h2.mv (htr26.mv (i := 101) rfl) (by decide)
  replace hb := hb.trans htr26
  refine sr_ev (v := .bool (!y22)) (ev_not rfl) (by decide) ?_
  refine sr_ev (v := .bool (!y22)) (ev_move rfl) (by decide) ?_
  obtain ⟨z29, hz31, hS⟩ := bind_some' hS
  refine sr_join (m := 4) (C := fun (z : Bool) w1 => z29 = z ∧ ∃ ρ1, Tr (enter ρA o 2) w24 (fun _ => false) ρ1 w1) (l' := fun z => [(0, .pointer (some ⟨gc_0, 0, none⟩)), (1, str user_1), (2, str client_2), (3, v4), (4, .int .i64 y12), (5, .int .i64 y17), (30, .bool z)]) ?_ ?_
  ·rintro _ w32 ⟨rfl, ρ33, hj30⟩
   replace h5 := h5.mv hj30.rd
   replace hB3 := hB3.mv (hj30.mv (i := 100) rfl)
   replace h2 := h2.mv (hj30.mv (i := 101) rfl) (by decide)
   replace hb := hb.trans hj30
   refine sr_end (l' := [(0, .pointer (some ⟨gc_0, 0, none⟩)), (1, str user_1), (2, str client_2), (3, v4), (4, .int .i64 y12), (5, .int .i64 y17), (30, .bool z29)]) (.cons rfl (.cons rfl (.cons rfl (.cons rfl (.cons rfl (.cons rfl (.cons rfl (.nil _)))))))) ?_
   refine ke_cond (t := z29) rfl (fun hc40 => ?_) (fun hc40 => ?_)
   ·replace hS := ite_true' hS hc40
    refine ke_seq ?_
    refine ke_region ?_
    refine sr_ev (v := .int .i64 5) (ev_assign rfl) (by decide) ?_
    refine sr_end (l' := [(12, .int .i64 5)]) (.cons rfl (.nil _)) ?_
    cases hS
    exact ke_ret1 Try.func29 rfl rfl ⟨_, rfl, leave ρA w0 o 2 ρ33, rfl, ⟨_, (hB3.mv (leave_mv (p := 0) (by decide) hb)), (h2.mv (leave_mv (p := 1) (by decide) hb) (Nat.ne_of_gt (Nat.lt_of_lt_of_le (Nat.lt_of_lt_of_le Nat.zero_lt_two ho2) (Nat.le_add_right _ _))))⟩, (leave_tr ho2 hb)⟩
   ·replace hS := ite_false' hS hc40
    refine ke_skip ?_
    refine ke_seq ?_
    refine ke_seq ?_
    refine ke_region ?_
    refine sr_ev (v := v4) (ev_move rfl) (by decide) ?_
    obtain ⟨y41, hy42, hS⟩ := bind_some' hS
    refine sr_call (vs := [v4]) rfl Try.call50 rfl (ref29_Check_ok _ (hg.fr hz hb) h5.asSl hy42) (by decide) ?_
    rintro _ w43 ⟨rfl, hbw44⟩
    have htr45 := Tr.of_below hbw44 hb.bd
    replace h5 := h5.mv htr45.rd
    replace hB3 := hB3.mv (htr45.mv (i := 100) rfl)
    replace h2 := h2.mv (htr45.mv (i := 101) rfl) (by decide)
    replace hb := hb.trans htr45
    refine sr_ev (v := .int .i64 y41) (ev_assign rfl) (by decide) ?_
    refine sr_end (l' := [(0, .pointer (some ⟨gc_0, 0, none⟩)), (1, str user_1), (2, str client_2), (3, v4), (4, .int .i64 y12), (5, .int .i64 y17), (13, .int .i64 y41)]) (.cons rfl (.cons rfl (.cons rfl (.cons rfl (.cons rfl (.cons rfl (.cons rfl (.nil _)))))))) ?_
    refine ke_seq ?_
    refine ke_region ?_
    refine sr_ev (v := .int .i64 y41) (ev_move rfl) (by decide) ?_
    refine sr_ev (v := .bool (y41 != 0)) (ev_ne rfl rfl) (by decide) ?_
    refine sr_end (l' := [(0, .pointer (some ⟨gc_0, 0, none⟩)), (1, str user_1), (2, str client_2), (3, v4), (4, .int .i64 y12), (5, .int .i64 y17), (13, .int .i64 y41), (34, .bool (y41 != 0))]) (.cons rfl (.cons rfl (.cons rfl (.cons rfl (.cons rfl (.cons rfl (.cons rfl (.cons rfl (.nil _))))))))) ?_
    refine ke_cond (t := y41 != 0) rfl (fun hc46 => ?_) (fun hc46 => ?_)
    ·replace hS := ite_true' hS hc46
     refine ke_seq ?_
     refine ke_region ?_
     refine sr_ev (v := .int .i64 y41) (ev_move rfl) (by decide) ?_
     refine sr_ev (v := .int .i64 y41) (ev_assign rfl) (by decide) ?_
     refine sr_end (l' := [(12, .int .i64 y41)]) (.cons rfl (.nil _)) ?_
     cases hS
     exact ke_ret1 Try.func29 rfl rfl ⟨_, rfl, leave ρA w0 o 2 ρ33, rfl, ⟨_, (hB3.mv (leave_mv (p := 0) (by decide) hb)), (h2.mv (leave_mv (p := 1) (by decide) hb) (Nat.ne_of_gt (Nat.lt_of_lt_of_le (Nat.lt_of_lt_of_le Nat.zero_lt_two ho2) (Nat.le_add_right _ _))))⟩, (leave_tr ho2 hb)⟩
    ·replace hS := ite_false' hS hc46
     refine ke_skip ?_
     refine ke_seq ?_
     refine ke_seq ?_
     refine ke_region ?_
     refine sr_ev (v := v4) (ev_move rfl) (by decide) ?_
     refine sr_ev (v := .int .i64 (scopes_3.length : Int)) (ev_sllen Try.underlying30 rfl h5.asSl) (by decide) ?_
     refine sr_ev (v := .bool ((scopes_3.length : Int) == 0)) (ev_eq rfl rfl) (by decide) ?_
     refine sr_end (l' := [(0, .pointer (some ⟨gc_0, 0, none⟩)), (1, str user_1), (2, str client_2), (3, v4), (4, .int .i64 y12), (5, .int .i64 y17), (38, .bool ((scopes_3.length : Int) == 0))]) (.cons rfl (.cons rfl (.cons rfl (.cons rfl (.cons rfl (.cons rfl (.cons rfl (.nil _)))))))) ?_
     refine ke_cond (t := (scopes_3.length : Int) == 0) rfl (fun hc47 => ?_) (fun hc47 => ?_)
     ·replace hS := ite_true' hS hc47
      refine ke_seq ?_
      refine ke_region ?_
      refine sr_ev (v := .int .i64 6) (ev_assign rfl) (by decide) ?_
      refine sr_end (l' := [(12, .int .i64 6)]) (.cons rfl (.nil _)) ?_
      cases hS
      exact ke_ret1 Try.func29 rfl rfl ⟨_, rfl, leave ρA w0 o 2 ρ33, rfl, ⟨_, (hB3.mv (leave_mv (p := 0) (by decide) hb)), (h2.mv (leave_mv (p := 1) (by decide) hb) (Nat.ne_of_gt (Nat.lt_of_lt_of_le (Nat.lt_of_lt_of_le Nat.zero_lt_two ho2) (Nat.le_add_right _ _))))⟩, (leave_tr ho2 hb)⟩
     ·replace hS := ite_false' hS hc47
      refine ke_skip ?_
      refine ke_seq ?_
      refine ke_seq ?_
      refine ke_region ?_
      refine sr_ev (v := .int .i64 y12) (ev_move rfl) (by decide) ?_
      refine sr_ev (v := .int .i64 y17) (ev_move rfl) (by decide) ?_
      refine sr_ev (v := .bool (decide (y12 ≤ y17))) (ev_le rfl rfl) (by decide) ?_
      refine sr_end (l' := [(0, .pointer (some ⟨gc_0, 0, none⟩)), (1, str user_1), (2, str client_2), (3, v4), (4, .int .i64 y12), (5, .int .i64 y17), (41, .bool (decide (y12 ≤ y17)))]) (.cons rfl (.cons rfl (.cons rfl (.cons rfl (.cons rfl (.cons rfl (.cons rfl (.nil _)))))))) ?_
      refine ke_cond (t := decide (y12 ≤ y17)) rfl (fun hc48 => ?_) (fun hc48 => ?_)
      ·replace hS := ite_true' hS hc48
       refine ke_seq ?_
       refine ke_region ?_
       refine sr_ev (v := .int .i64 13) (ev_assign rfl) (by decide) ?_
       refine sr_end (l' := [(12, .int .i64 13)]) (.cons rfl (.nil _)) ?_
       cases hS
       exact ke_ret1 Try.func29 rfl rfl ⟨_, rfl, leave ρA w0 o 2 ρ33, rfl, ⟨_, (hB3.mv (leave_mv (p := 0) (by decide) hb)), (h2.mv (leave_mv (p := 1) (by decide) hb) (Nat.ne_of_gt (Nat.lt_of_lt_of_le (Nat.lt_of_lt_of_le Nat.zero_lt_two ho2) (Nat.le_add_right _ _))))⟩, (leave_tr ho2 hb)⟩
      ·replace hS := ite_false' hS hc48
       refine ke_skip ?_
       refine ke_seq ?_
       refine ke_region ?_
       refine sr_ev (v := .pointer (some ⟨gc_0, 0, none⟩)) (ev_move rfl) (by decide) ?_
       refine sr_ev (v := str user_1) (ev_move rfl) (by decide) ?_
       refine sr_ev (v := str client_2) (ev_move rfl) (by decide) ?_
       obtain ⟨y49, hy50, hS⟩ := bind_some' hS
       refine sr_call (vs := [.pointer (some ⟨gc_0, 0, none⟩), str user_1, str client_2]) rfl Try.call36 rfl (ref32_Consents_find_ok _ (hg.fr hz hb) (ρA := ρ33) hb.bd (hz.fr hg hb) (τ0 := (fun p => 100 + p)) (fun p => Nat.le_add_right_of_le (by decide)) (⟨_, hB3, h2⟩ : ref32_Consents.O (fun p => 100 + p) ρ33 w43 gc_0 c_0) hy50) (by decide) ?_
       rintro _ w51 ⟨rfl, hbw52⟩
       have htr53 := Tr.of_below hbw52 hb.bd
       replace h5 := h5.mv htr53.rd
       replace hB3 := hB3.mv (htr53.mv (i := 100) rfl)
       replace h2 := h2.mv (htr53.mv (i := 101) rfl) (by decide)
       replace hb := hb.trans htr53
       refine sr_ev (v := .int .i64 y49) (ev_assign rfl) (by decide) ?_
       refine sr_end (l' := [(0, .pointer (some ⟨gc_0, 0, none⟩)), (1, str user_1), (2, str client_2), (3, v4), (4, .int .i64 y12), (5, .int .i64 y17), (14, .int .i64 y49)]) (.cons rfl (.cons rfl (.cons rfl (.cons rfl (.cons rfl (.cons rfl (.cons rfl (.nil _)))))))) ?_
       refine ke_seq ?_
       refine ke_seq ?_
       refine ke_region ?_
       refine sr_ev (v := .int .i64 y49) (ev_move rfl) (by decide) ?_
       refine sr_ev (v := .bool (decide (y49 < 0))) (ev_lt rfl rfl) (by decide) ?_
       refine sr_ev (v := .bool (decide (y49 < 0))) (ev_move rfl) (by decide) ?_
       refine sr_join (m := 7) (C := fun (x : Bool) w1 => x = ((decide (y49 < 0)) && (decide ((c_0.pairs.length : Int) ≥ 256))) ∧ w51 = w1) (l' := fun x => [(0, .pointer (some ⟨gc_0, 0, none⟩)), (1, str user_1), (2, str client_2), (3, v4), (4, .int .i64 y12), (5, .int .i64 y17), (14, .int .i64 y49), (55, .bool x)]) ?_ ?_
       ·rintro _ _ ⟨rfl, rfl⟩
        refine sr_end (l' := [(0, .pointer (some ⟨gc_0, 0, none⟩)), (1, str user_1), (2, str client_2), (3, v4), (4, .int .i64 y12), (5, .int .i64 y17), (14, .int .i64 y49), (55, .bool ((decide (y49 < 0)) && (decide ((c_0.pairs.length : Int) ≥ 256))))]) (.cons rfl (.cons rfl (.cons rfl (.cons rfl (.cons rfl (.cons rfl (.cons rfl (.cons rfl (.nil _))))))))) ?_
        refine ke_cond (t := (decide (y49 < 0)) && (decide ((c_0.pairs.length : Int) ≥ 256))) rfl (fun hc62 => ?_) (fun hc62 => ?_)
        ·replace hS := ite_true' hS hc62
         refine ke_seq ?_
         refine ke_region ?_
         refine sr_ev (v := .int .i64 3) (ev_assign rfl) (by decide) ?_
         refine sr_end (l' := [(12, .int .i64 3)]) (.cons rfl (.nil _)) ?_
         cases hS
         exact ke_ret1 Try.func29 rfl rfl ⟨_, rfl, leave ρA w0 o 2 ρ33, rfl, ⟨_, (hB3.mv (leave_mv (p := 0) (by decide) hb)), (h2.mv (leave_mv (p := 1) (by decide) hb) (Nat.ne_of_gt (Nat.lt_of_lt_of_le (Nat.lt_of_lt_of_le Nat.zero_lt_two ho2) (Nat.le_add_right _ _))))⟩, (leave_tr ho2 hb)⟩
        ·replace hS := ite_false' hS hc62
         refine ke_skip ?_
         refine ke_seq ?_
         refine ke_region ?_
         refine sr_ev (v := str user_1) (ev_move rfl) (by decide) ?_
         refine sr_ev (v := str client_2) (ev_move rfl) (by decide) ?_
         refine sr_ev (v := .agg #[str user_1, str client_2, (.slice none 0 0)]) (ev_build (vs := #[(0, str user_1), (1, str client_2)]) rfl (fun _ => by kernel_rfl)) (by decide) ?_
         refine sr_allocT 17 (by decide) hb.bd Try.zeroValue63 (by decide) ?_
         intro g63 ρ64 w65 hB67 htr66
         replace h5 := h5.mv htr66.rd
         replace hB3 := hB3.mv (htr66.mv (i := 100) rfl)
         replace h2 := h2.mv (htr66.mv (i := 101) rfl) (by decide)
         replace hb := hb.trans htr66
         replace hB67 : Blk ρ64 17 w65 g63 (.cells #[str ([]), str ([]), (.slice none 0 0)] 63 (0, 0)) := hB67
         refine sr_storeT (v := .agg #[str user_1, str client_2, (.slice none 0 0)]) (vs := [str user_1, str client_2, (.slice none 0 0)]) (cs' := #[str user_1, str client_2, (.slice none 0 0)]) hB67 (by decide) hb.bd rfl rfl rfl Try.sizeOf63 rfl rfl rfl ?_
         intro w68 hB671 htr69
         replace h5 := h5.mv htr69.rd
         replace hB3 := hB3.mv (htr69.mv (i := 100) rfl)
         replace h2 := h2.mv (htr69.mv (i := 101) rfl) (by decide)
         replace hb := hb.trans htr69
         replace hB67 : Blk ρ64 17 w68 g63 (.cells #[str user_1, str client_2, (.slice none 0 0)] 63 (0, 0)) := hB671
         clear hB671
         refine sr_end (l' := [(0, .pointer (some ⟨gc_0, 0, none⟩)), (3, v4), (4, .int .i64 y12), (5, .int .i64 y17), (14, .int .i64 y49), (15, .pointer (some ⟨g63, 0, none⟩))]) (.cons rfl (.cons rfl (.cons rfl (.cons rfl (.cons rfl (.cons rfl (.nil _))))))) ?_
         refine ke_seq ?_
         refine ke_seq ?_
         refine ke_region ?_
         refine sr_ev (v := .int .i64 y49) (ev_move rfl) (by decide) ?_
         refine sr_ev (v := .bool (decide (y49 ≥ 0))) (ev_ge rfl rfl) (by decide) ?_
         refine sr_end (l' := [(0, .pointer (some ⟨gc_0, 0, none⟩)), (3, v4), (4, .int .i64 y12), (5, .int .i64 y17), (14, .int .i64 y49), (15, .pointer (some ⟨g63, 0, none⟩)), (60, .bool (decide (y49 ≥ 0)))]) (.cons rfl (.cons rfl (.cons rfl (.cons rfl (.cons rfl (.cons rfl (.cons rfl (.nil _)))))))) ?_
         refine ke_cond (t := decide (y49 ≥ 0)) rfl (fun hc70 => ?_) (fun hc70 => ?_)
         ·replace hS := ite_true' hS hc70
          refine ke_region ?_
          refine sr_ev (v := .pointer (some ⟨gc_0, 0, none⟩)) (ev_move rfl) (by decide) ?_
          refine sr_ev (v := .pointer (some ⟨gc_0, 0, none⟩)) (ev_nilCheck rfl) (by decide) ?_
          refine sr_ev (v := .pointer (some ⟨gc_0, 1, none⟩)) (ev_fieldAddr (i := 1) Try.underlying55 rfl Try.info53 rfl rfl) (by decide) ?_
          refine sr_ev (v := v1) (ev_load Try.isAgg53 rfl (hB3.cell rfl)) (by decide) ?_
          refine sr_ev (v := .int .i64 y49) (ev_move rfl) (by decide) ?_
          obtain ⟨y71, hy72, hS⟩ := bind_some' hS
          obtain ⟨b73, o74, cs76, hq77, he75, hg80, ho81⟩ := h2.elemQ (P := Try.prog) Try.underlying53 Try.info63 rfl hy72
          obtain ⟨v78, hcshe75, h79⟩ := he75.rd
          obtain rfl : cs76 = [str y71.user, str y71.client, v78] := hcshe75
          refine sr_ev (v := .pointer (some ⟨b73, o74, none⟩)) (hq77 w68 rfl rfl) (by decide) ?_
          refine sr_ev (v := .agg #[str y71.user, str y71.client, v78]) (ev_loads (cs := [str y71.user, str y71.client, v78]) Try.isAgg63 Try.sizeOf63 rfl he75.cell) (by decide) ?_
          refine sr_storeT (v := .agg #[str y71.user, str y71.client, v78]) (vs := [str y71.user, str y71.client, v78]) (cs' := #[str y71.user, str y71.client, v78]) hB67 (by decide) hb.bd rfl rfl rfl Try.sizeOf63 rfl (by first | rfl | (simp only [List.all_cons, List.all_nil, SlR.oneCell h79]; done) | (simp only [List.all_cons, List.all_nil, SlR.oneCell h79]; rfl)) rfl ?_
          intro w82 hB671 htr83
          replace h5 := h5.mv htr83.rd
          replace h79 := h79.mv htr83.rd
          replace hB3 := hB3.mv (htr83.mv (i := 100) rfl)
          replace h2 := h2.mv (htr83.mv (i := 101) rfl) (by decide)
          replace hb := hb.trans htr83
          replace hB67 : Blk ρ64 17 w82 g63 (.cells #[str y71.user, str y71.client, v78] 63 (0, 0)) := hB671
          clear hB671
          refine sr_end (l' := [(0, .pointer (some ⟨gc_0, 0, none⟩)), (3, v4), (4, .int .i64 y12), (5, .int .i64 y17), (14, .int .i64 y49), (15, .pointer (some ⟨g63, 0, none⟩))]) (.cons rfl (.cons rfl (.cons rfl (.cons rfl (.cons rfl (.cons rfl (.nil _))))))) ?_
          have hK := ref32_Consents_Grant_B1_ok hg hbd ho2 hz hS hb ⟨_, hB3, h2⟩ h5 h79 hB67
          exact ke_weaken (l' := [(0, .pointer (some ⟨gc_0, 0, none⟩)), (3, v4), (4, .int .i64 y12), (5, .int .i64 y17), (14, .int .i64 y49), (15, .pointer (some ⟨g63, 0, none⟩))]) (.cons rfl (.cons rfl (.cons rfl (.cons rfl (.cons rfl (.cons rfl (.nil _))))))) hK
         ·replace hS := ite_false' hS hc70
          refine ke_skip ?_
          have hK := ref32_Consents_Grant_B1_ok hg hbd ho2 hz hS hb ⟨_, hB3, h2⟩ h5 SlR.nil hB67
          exact ke_weaken (l' := [(0, .pointer (some ⟨gc_0, 0, none⟩)), (3, v4), (4, .int .i64 y12), (5, .int .i64 y17), (14, .int .i64 y49), (15, .pointer (some ⟨g63, 0, none⟩))]) (.cons rfl (.cons rfl (.cons rfl (.cons rfl (.cons rfl (.cons rfl (.nil _))))))) hK
       ·intro K55
        rcases Bool.eq_false_or_eq_true (decide (y49 < 0)) with hg54 | hg54
        all_goals try have hj57 : Tr ρ33 w51 (fun _ => false) ρ33 w51 := Tr.refl hb.bd
        ·refine sr_evg (b := true) (e := 48) rfl rfl hg54 (v := .pointer (some ⟨gc_0, 0, none⟩)) (ev_move rfl) (by decide) ?_
         refine sr_evg (b := true) (e := 48) rfl rfl hg54 (v := .pointer (some ⟨gc_0, 0, none⟩)) (ev_nilCheck rfl) (by decide) ?_
         refine sr_evg (b := true) (e := 48) rfl rfl hg54 (v := .pointer (some ⟨gc_0, 1, none⟩)) (ev_fieldAddr (i := 1) Try.underlying55 rfl Try.info53 rfl rfl) (by decide) ?_
         refine sr_evg (b := true) (e := 48) rfl rfl hg54 (v := v1) (ev_load Try.isAgg53 rfl (hB3.cell rfl)) (by decide) ?_
         refine sr_evg (b := true) (e := 48) rfl rfl hg54 (v := .int .i64 (c_0.pairs.length : Int)) (ev_sllen Try.underlying53 rfl h2.asSl) (by decide) ?_
         refine sr_evg (b := true) (e := 48) rfl rfl hg54 (v := .bool (decide ((c_0.pairs.length : Int) ≥ 256))) (ev_ge rfl rfl) (by decide) ?_
         refine sr_ev (v := .bool (decide ((c_0.pairs.length : Int) ≥ 256))) (ev_pick_t rfl hg54 rfl) (by decide) ?_
         exact sr_weaken (l' := [(0, .pointer (some ⟨gc_0, 0, none⟩)), (1, str user_1), (2, str client_2), (3, v4), (4, .int .i64 y12), (5, .int .i64 y17), (14, .int .i64 y49), (55, .bool (decide ((c_0.pairs.length : Int) ≥ 256)))]) (.cons rfl (.cons rfl (.cons rfl (.cons rfl (.cons rfl (.cons rfl (.cons rfl (.cons rfl (.nil _))))))))) (K55 (decide ((c_0.pairs.length : Int) ≥ 256)) _ ⟨by rw [hg54]; rfl, rfl⟩)
        ·refine sr_pass (e := 48) rfl rfl (by rw [hg54]; rfl) (by decide) ?_
         refine sr_pass (e := 48) rfl rfl (by rw [hg54]; rfl) (by decide) ?_
         refine sr_pass (e := 48) rfl rfl (by rw [hg54]; rfl) (by decide) ?_
         refine sr_pass (e := 48) rfl rfl (by rw [hg54]; rfl) (by decide) ?_
         refine sr_pass (e := 48) rfl rfl (by rw [hg54]; rfl) (by decide) ?_
         refine sr_pass (e := 48) rfl rfl (by rw [hg54]; rfl) (by decide) ?_
         refine sr_ev (v := .bool false) (ev_pick_f rfl hg54 rfl) (by decide) ?_
         exact sr_weaken (l' := [(0, .pointer (some ⟨gc_0, 0, none⟩)), (1, str user_1), (2, str client_2), (3, v4), (4, .int .i64 y12), (5, .int .i64 y17), (14, .int .i64 y49), (55, .bool false)]) (.cons rfl (.cons rfl (.cons rfl (.cons rfl (.cons rfl (.cons rfl (.cons rfl (.cons rfl (.nil _))))))))) (K55 false _ ⟨by rw [hg54]; rfl, rfl⟩)
  ·intro K28
   clear hS
   have hj30 : Tr (enter ρA o 2) w24 (fun _ => false) (enter ρA o 2) w24 := (Tr.refl hb.bd).weak (fun _ _ => rfl) rfl rfl
   rcases Bool.eq_false_or_eq_true (!y22) with hg27 | hg27
   ·have hS := ite_true' hz31 hg27
    refine sr_pass (e := 26) rfl rfl (by rw [hg27]; rfl) (by decide) ?_
    refine sr_pass (e := 26) rfl rfl (by rw [hg27]; rfl) (by decide) ?_
    refine sr_pass (e := 26) rfl rfl (by rw [hg27]; rfl) (by decide) ?_
    refine sr_ev (v := .bool true) (ev_pick_t rfl hg27 rfl) (by decide) ?_
    exact sr_weaken (l' := [(0, .pointer (some ⟨gc_0, 0, none⟩)), (1, str user_1), (2, str client_2), (3, v4), (4, .int .i64 y12), (5, .int .i64 y17), (30, .bool true)]) (.cons rfl (.cons rfl (.cons rfl (.cons rfl (.cons rfl (.cons rfl (.cons rfl (.nil _)))))))) (K28 true _ ⟨(Option.some.inj hS).symm, _, hj30⟩)
   ·have hS := ite_false' hz31 hg27
    refine sr_evg (b := false) (e := 26) rfl rfl hg27 (v := str client_2) (ev_move rfl) (by decide) ?_
    obtain ⟨y35, hy36, hS⟩ := bind_some' hS
    refine sr_callg (b := false) (e := 26) rfl rfl hg27 (vs := [str client_2]) rfl Try.call49 rfl (ref01_Word_ok _ (hg.fr hz hb) hy36) (by decide) ?_
    rintro _ w37 ⟨rfl, hbw38⟩
    have htr39 := Tr.of_below hbw38 hb.bd
    replace h5 := h5.mv htr39.rd
    replace hB3 := hB3.mv (htr39.mv (i := 100) rfl)
    replace h2 := h2.mv (htr39.mv (i := 101) rfl) (by decide)
    replace hb := hb.trans htr39
    replace hj30 := (hj30.trans htr39).weak (J' := (fun _ => false)) (by intro t h; simp [rng] at h ⊢ <;> omega) rfl rfl
    refine sr_evg (b := false) (e := 26) rfl rfl hg27 (v := .bool (!y35)) (ev_not rfl) (by decide) ?_
    refine sr_ev (v := .bool (!y35)) (ev_pick_f rfl hg27 rfl) (by decide) ?_
    exact sr_weaken (l' := [(0, .pointer (some ⟨gc_0, 0, none⟩)), (1, str user_1), (2, str client_2), (3, v4), (4, .int .i64 y12), (5, .int .i64 y17), (30, .bool (!y35))]) (.cons rfl (.cons rfl (.cons rfl (.cons rfl (.cons rfl (.cons rfl (.cons rfl (.nil _)))))))) (K28 (!y35) _ ⟨(Option.some.inj hS).symm, _, hj30⟩)
theorem ref32_Consents_Revoke_B1_ok {w0 : World} (hg : Gs w0) {ρA : Tags} (hbd : ∀ b, ρA b ≠ 0 → b < w0.heap.size) {o : Nat} (ho2 : 2 ≤ o) {gc_0 : Nat} (hz : Gz (enter ρA o 2)) {r : Bool × ref32_Consents} {gc_0_0 : Bool} {gc_0_1 : List ref32_pair} {vgc_0_1 : Value} (hS : ref32_Consents_Revoke_B1 gc_0_0 gc_0_1 = some r) {ρ : Tags} {w : World} (hb : Fr (enter ρA o 2) w0 ρ w) (hgc_0_1 : OwnT ref32_pair.c 63 ρ 20 w vgc_0_1 gc_0_1) (hBgc_0 : Blk ρ 100 w gc_0 (.cells #[.bool gc_0_0, vgc_0_1] 55 (0, 0))) :
  KE Try.prog 30 (Ret (fun v w' => ∃ ρ', v = .bool r.1 ∧ ref32_Consents.O (fun p => o + p) ρ' w' gc_0 r.2 ∧ Tr ρA w0 (rng o 2) ρ' w')) 36 [.code (sub (bodyOf Try.f30) [2, 2, 2, 2, 2])] [] w := by
 unfold ref32_Consents_Revoke_B1 at hS
 refine ke_seq ?_
 refine ke_region ?_
 refine sr_ev (v := .bool true) (ev_assign rfl) (by decide) ?_
 refine sr_end (l' := [(6, .bool true)]) (.cons rfl (.nil _)) ?_
 have htr339 := rtg_tr (ρ := ρ) (w := w) (i := 20) 101 (by decide) hb.bd
 have hmv340 : Mv ρ w 20 (rtg ρ 20 101) w 101 := rtg_mv (by decide)
 replace hBgc_0 := hBgc_0.mv (htr339.mv (i := 100) rfl)
 replace hb := hb.trans htr339
 replace hgc_0_1 := hgc_0_1.mv hmv340 (by decide)
 cases hS
 exact ke_ret1 Try.func30 rfl rfl ⟨_, rfl, leave ρA w0 o 2 (rtg ρ 20 101), rfl, ⟨_, (hBgc_0.mv (leave_mv (p := 0) (by decide) hb)), (hgc_0_1.mv (leave_mv (p := 1) (by decide) hb) (Nat.ne_of_gt (Nat.lt_of_lt_of_le (Nat.lt_of_lt_of_le Nat.zero_lt_two ho2) (Nat.le_add_right _ _))))⟩, (leave_tr ho2 hb)⟩

end Ytijiipelpgmhpaa
end Go.Proofs
