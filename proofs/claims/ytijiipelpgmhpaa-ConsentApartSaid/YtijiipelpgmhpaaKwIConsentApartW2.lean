/- Own work: a part of the proofs of this seat. -/
import Derived.Test.YtijiipelpgmhpaaProg
import Derived.Test.YtijiipelpgmhpaaShelf
import Derived.Test.YtijiipelpgmhpaaKwIS
import Derived.KernelRfl
import Derived.Test.YtijiipelpgmhpaaKwIConsentApartW1
set_option linter.unusedVariables false
set_option linter.unusedSimpArgs false
set_option linter.unusedSectionVars false
set_option maxHeartbeats 8000000
set_option maxRecDepth 8000
namespace Go.Proofs
namespace Ytijiipelpgmhpaa
open Go Go.KW Go.KW.S Go.RowKit
theorem consent_Consents_Revoke_ok (w0 : World) (hg : Gs w0) {ρA : Tags} (hbd : ∀ b, ρA b ≠ 0 → b < w0.heap.size) (hz : Gz ρA) {o : Nat} (ho2 : 2 ≤ o) {c_0 : consent_Consents} {user_1 : Str} {client_2 : Str} {gc_0 : Nat} {r : Bool × consent_Consents} (ho0 : consent_Consents.O (fun p => o + p) ρA w0 gc_0 c_0) (hS : consent_Consents_Revoke c_0 user_1 client_2 = some r) :
  Calls Try.prog 26 #[.pointer (some ⟨gc_0, 0, none⟩), str user_1, str client_2] w0 (Ret (fun v w' => ∃ ρ', v = .bool r.1 ∧ consent_Consents.O (fun p => o + p) ρ' w' gc_0 r.2 ∧ Tr ρA w0 (rng o 2) ρ' w')) := by
 unfold consent_Consents_Revoke at hS
 have hb := enter_fr (ρ := ρA) (w := w0) (n := 2) ho2 hbd
 have hz := hz.enter (n := 2) ho2
 obtain ⟨v1, hB3, h2⟩ := ho0
 replace hB3 := hB3.mv (enter_mv (p := 0) (n := 2) (by decide) ho2)
 replace h2 := h2.mv (enter_mv (p := 1) (n := 2) (by decide) ho2)
 replace hB3 : Blk (enter ρA o 2) 100 w0 gc_0 (.cells #[v1] 52 (0, 0)) := hB3
 replace h2 : MapT consent_pair.ek (mapC str (intC .i64) false) false (enter ρA o 2) 101 w0 v1 c_0.pairs := h2
 refine calls_of_ke Try.func26 rfl (n := 30) rfl rfl (l := [(0, .pointer (some ⟨gc_0, 0, none⟩)), (1, str user_1), (2, str client_2)]) rfl ?_
 refine ke_seq ?_
 refine ke_region ?_
 refine sr_ev (v := .bool false) (ev_assign rfl) (by decide) ?_
 refine sr_end (l' := [(0, .pointer (some ⟨gc_0, 0, none⟩)), (1, str user_1), (2, str client_2)]) (.cons rfl (.cons rfl (.cons rfl (.nil _)))) ?_
 refine ke_seq ?_
 refine ke_seq ?_
 refine ke_region ?_
 refine sr_ev (v := .pointer (some ⟨gc_0, 0, none⟩)) (ev_move rfl) (by decide) ?_
 refine sr_ev (v := .bool false) (ev_peqT_some Try.underlying25 rfl rfl) (by decide) ?_
 refine sr_end (l' := [(0, .pointer (some ⟨gc_0, 0, none⟩)), (1, str user_1), (2, str client_2), (11, .bool false)]) (.cons rfl (.cons rfl (.cons rfl (.cons rfl (.nil _))))) ?_
 refine ke_cond (t := false) rfl (fun h => by cases h) (fun _ => ?_)
 refine ke_skip ?_
 refine ke_seq ?_
 refine ke_region ?_
 refine sr_ev (v := str user_1) (ev_move rfl) (by decide) ?_
 refine sr_ev (v := str client_2) (ev_move rfl) (by decide) ?_
 refine sr_ev (v := .agg #[str user_1, str client_2]) (ev_build (vs := #[(0, str user_1), (1, str client_2)]) rfl (fun _ => by kernel_rfl)) (by decide) ?_
 refine sr_allocT 9 (by decide) hb.bd Try.zeroValue59 (by decide) ?_
 intro g4 ρ5 w6 hB8 htr7
 replace hB3 := hB3.mv (htr7.mv (i := 100) rfl)
 replace h2 := h2.mv (htr7.mv (i := 101) rfl)
 replace hb := hb.trans htr7
 replace hB8 : Blk ρ5 9 w6 g4 (.cells #[str ([]), str ([])] 59 (0, 0)) := hB8
 refine sr_storeT (v := .agg #[str user_1, str client_2]) (vs := [str user_1, str client_2]) (cs' := #[str user_1, str client_2]) hB8 (by decide) hb.bd rfl rfl rfl Try.sizeOf59 rfl rfl rfl ?_
 intro w9 hB81 htr10
 replace hB3 := hB3.mv (htr10.mv (i := 100) rfl)
 replace h2 := h2.mv (htr10.mv (i := 101) rfl)
 replace hb := hb.trans htr10
 replace hB8 : Blk ρ5 9 w9 g4 (.cells #[str user_1, str client_2] 59 (0, 0)) := hB81
 clear hB81
 refine sr_end (l' := [(0, .pointer (some ⟨gc_0, 0, none⟩)), (7, .pointer (some ⟨g4, 0, none⟩))]) (.cons rfl (.cons rfl (.nil _))) ?_
 refine ke_seq ?_
 refine ke_region_q Try.mixed (by kernel_rfl) ?_
 refine sq_ev (v := .pointer (some ⟨gc_0, 0, none⟩)) (fun w1 hw1 => ev_move rfl) (by decide) ?_
 refine sq_ev (v := .pointer (some ⟨gc_0, 0, none⟩)) (fun w1 hw1 => ev_nilCheck rfl) (by decide) ?_
 refine sq_ev (v := .pointer (some ⟨gc_0, 0, none⟩)) (fun w1 hw1 => ev_fieldAddr (i := 0) Try.underlying52 rfl Try.info50 rfl rfl) (by decide) ?_
 refine sq_ev (v := v1) (fun w1 hw1 => ev_load Try.isAgg50 rfl ((hB3.mv (Mv.of_below (i := 100) (ρ := ρ5) hw1)).cell rfl)) (by decide) ?_
 refine sq_ev (v := .agg #[str user_1, str client_2]) (fun w1 hw1 => ev_loads (cs := [str user_1, str client_2]) Try.isAgg59 Try.sizeOf59 rfl ((hB8.mv (Mv.of_below (i := 9) (ρ := ρ5) hw1)).cells (vs := [str user_1, str client_2]) rfl)) (by decide) ?_
 obtain ⟨y17, hy18, hS⟩ := bind_some' hS
 replace hy18 := Option.some.inj hy18
 obtain ⟨cs13, hrd14, hl15, hl16⟩ := h2.look (zcs := [(.map none)]) (z := (none : GMap Str Int)) Try.keyB59 Try.underlying50 Try.zeroValue71 ⟨_, rfl, MapRd.nil⟩ (consent_pair.mk user_1 client_2)
 rw [hy18] at hrd14
 obtain ⟨v19, hcshrd14, h20⟩ := hrd14
 obtain rfl : cs13 = [v19] := hcshrd14
 refine sq_ev (v := .tuple #[v19, .bool (mhas c_0.pairs (consent_pair.mk user_1 client_2))]) (fun w1 hw1 => hl16 w1 _ _ (Mv.of_below (i := 101) (ρ := ρ5) hw1) rfl rfl) (by decide) ?_
 refine sq_ev (v := .tuple #[v19, .bool (mhas c_0.pairs (consent_pair.mk user_1 client_2))]) (fun w1 hw1 => ev_move rfl) (by decide) ?_
 refine sq_ev (v := v19) (fun w1 hw1 => ev_extract rfl rfl) (by decide) ?_
 refine sq_ev (v := .bool (mhas c_0.pairs (consent_pair.mk user_1 client_2))) (fun w1 hw1 => ev_extract rfl rfl) (by decide) ?_
 refine sq_ev (v := v19) (fun w1 hw1 => ev_assign rfl) (by decide) ?_
 refine sq_ev (v := .bool (mhas c_0.pairs (consent_pair.mk user_1 client_2))) (fun w1 hw1 => ev_assign rfl) (by decide) ?_
 refine sq_end (l' := [(0, .pointer (some ⟨gc_0, 0, none⟩)), (7, .pointer (some ⟨g4, 0, none⟩)), (9, .bool (mhas c_0.pairs (consent_pair.mk user_1 client_2)))]) (.cons rfl (.cons rfl (.cons rfl (.nil _)))) (fun w12 hw11 => ?_)
 have htr21 := Tr.of_below hw11 hb.bd
 replace hB8 := hB8.mv (htr21.mv (i := 9) rfl)
 replace hB3 := hB3.mv (htr21.mv (i := 100) rfl)
 replace h2 := h2.mv (htr21.mv (i := 101) rfl)
 replace hb := hb.trans htr21
 refine ke_seq ?_
 refine ke_region_j (ρ := ρ5) (fun t => ([101] : List Nat).contains t) 6 Try.mixed (fun w23 hw22 => ?_)
 have htr24 := Tr.of_below hw22 hb.bd
 replace hB8 := hB8.mv (htr24.mv (i := 9) rfl)
 replace hB3 := hB3.mv (htr24.mv (i := 100) rfl)
 replace h2 := h2.mv (htr24.mv (i := 101) rfl)
 replace hb := hb.trans htr24
 refine dj_H 0 (v := .pointer (some ⟨gc_0, 0, none⟩)) (by kernel_rfl) (by kernel_rfl) rfl (fun _ _ _ h => h) (sj_refl hb.bd rfl rfl) (fun w1 ρ1 hw1 => ev_move rfl) (by decide) ?_
 refine dj_H 1 (v := .pointer (some ⟨gc_0, 0, none⟩)) (by kernel_rfl) (by kernel_rfl) rfl (fun _ _ _ h => h) (sj_refl hb.bd rfl rfl) (fun w1 ρ1 hw1 => ev_nilCheck rfl) (by decide) ?_
 refine dj_H 2 (v := .pointer (some ⟨gc_0, 0, none⟩)) (by kernel_rfl) (by kernel_rfl) rfl (fun _ _ _ h => h) (sj_refl hb.bd rfl rfl) (fun w1 ρ1 hw1 => ev_fieldAddr (i := 0) Try.underlying52 rfl Try.info50 rfl rfl) (by decide) ?_
 refine dj_H 3 (v := v1) (by kernel_rfl) (by kernel_rfl) rfl (fun _ _ _ h => h) (sj_refl hb.bd rfl rfl) (fun w1 ρ1 hw1 => ev_load Try.isAgg50 rfl ((hB3.mv (hw1.mv (i := 100) rfl)).cell rfl)) (by decide) ?_
 refine dj_H 4 (v := .agg #[str user_1, str client_2]) (by kernel_rfl) (by kernel_rfl) rfl (fun _ _ _ h => h) (sj_refl hb.bd rfl rfl) (fun w1 ρ1 hw1 => ev_loads (cs := [str user_1, str client_2]) Try.isAgg59 Try.sizeOf59 rfl ((hB8.mv (hw1.mv (i := 9) rfl)).cells (vs := [str user_1, str client_2]) rfl)) (by decide) ?_
 refine dj_E 5 (by kernel_rfl) rfl ?_
 have jt32 : Tr ρ5 w23 (fun t => ([101] : List Nat).contains t) ρ5 w23 := (Tr.refl hb.bd).weak (fun _ _ => rfl) rfl rfl
 refine sr_mapDel0 (k := (consent_pair.mk user_1 client_2)) h2 Try.keyB59 Try.underlying50 (by decide) hb.bd rfl rfl ?_
 intro w33 h21 htr34
 replace hB3 := hB3.mv (htr34.mv (i := 100) rfl)
 replace hb := hb.trans htr34
 replace jt32 := (jt32.trans htr34).weak (J' := (fun t => ([101] : List Nat).contains t)) (by intro t h; simp [rng] at h ⊢ <;> omega) rfl rfl
 replace h2 := h21
 clear h21
 refine dj_next (l' := [(9, .bool (mhas c_0.pairs (consent_pair.mk user_1 client_2)))]) rfl (.cons rfl (.nil _)) jt32 (by intro t h; simp [rng] at h ⊢ <;> omega) rfl rfl ?_
 refine dj_done rfl (by kernel_rfl) ?_
 refine ke_weaken (l' := [(9, .bool (mhas c_0.pairs (consent_pair.mk user_1 client_2)))]) (.cons rfl (.nil _)) ?_
 refine ke_seq ?_
 refine ke_region ?_
 refine sr_ev (v := .bool (mhas c_0.pairs (consent_pair.mk user_1 client_2))) (ev_move rfl) (by decide) ?_
 refine sr_ev (v := .bool (mhas c_0.pairs (consent_pair.mk user_1 client_2))) (ev_assign rfl) (by decide) ?_
 refine sr_end (l' := [(6, .bool (mhas c_0.pairs (consent_pair.mk user_1 client_2)))]) (.cons rfl (.nil _)) ?_
 cases hS
 exact ke_ret1 Try.func26 rfl rfl ⟨_, rfl, leave ρA w0 o 2 ρ5, rfl, ⟨_, (hB3.mv (leave_mv (p := 0) (by decide) hb)), (h2.mv (leave_mv (p := 1) (by decide) hb))⟩, (leave_tr ho2 hb)⟩
theorem consent_Consents_Grant__nil_ok (w0 : World) (hg : Gs w0) {ρA : Tags} (hbd : ∀ b, ρA b ≠ 0 → b < w0.heap.size) (hz : Gz ρA) {user_1 : Str} {client_2 : Str} {scopes_3 : List Str} {until_4 : Int} {now_5 : Int} {v1 : Value} {r : Int} (h2 : SlR strC (Wb ρA) w0 v1 scopes_3) (hS : consent_Consents_Grant__nil user_1 client_2 scopes_3 until_4 now_5 = some r) :
  Calls Try.prog 21 #[.pointer none, str user_1, str client_2, v1, .int .i64 until_4, .int .i64 now_5] w0 (Ret (fun v w' => v = .int .i64 r ∧ Below w0.heap.size w0 w')) := by
 unfold consent_Consents_Grant__nil at hS
 have hb := flat1_fr (ρ := ρA) (w := w0) hbd
 have hz := hz.flat1
 replace h2 := SlR.mv h2 flat1_rd
 refine calls_of_ke Try.func21 rfl (n := 115) rfl rfl (l := [(0, .pointer none), (1, str user_1), (2, str client_2), (3, v1), (4, .int .i64 until_4), (5, .int .i64 now_5)]) rfl ?_
 refine ke_seq ?_
 refine ke_region ?_
 refine sr_ev (v := .int .i64 0) (ev_assign rfl) (by decide) ?_
 refine sr_end (l' := [(0, .pointer none), (1, str user_1), (2, str client_2), (3, v1), (4, .int .i64 until_4), (5, .int .i64 now_5)]) (.cons rfl (.cons rfl (.cons rfl (.cons rfl (.cons rfl (.cons rfl (.nil _))))))) ?_
 refine ke_seq ?_
 refine ke_seq ?_
 refine ke_region ?_
 refine sr_ev (v := .pointer none) (ev_move rfl) (by decide) ?_
 refine sr_ev (v := .bool true) (ev_peqT_nil Try.underlying25 rfl rfl) (by decide) ?_
 refine sr_ev (v := .bool true) (ev_move rfl) (by decide) ?_
 refine sr_pass (e := 26) rfl rfl rfl (by decide) ?_
 refine sr_pass (e := 26) rfl rfl rfl (by decide) ?_
 refine sr_pass (e := 26) rfl rfl rfl (by decide) ?_
 refine sr_pass (e := 26) rfl rfl rfl (by decide) ?_
 refine sr_pass (e := 26) rfl rfl rfl (by decide) ?_
 refine sr_ev (v := .bool true) (ev_pick_t rfl rfl rfl) (by decide) ?_
 refine sr_end (l' := [(0, .pointer none), (1, str user_1), (2, str client_2), (3, v1), (4, .int .i64 until_4), (5, .int .i64 now_5), (32, .bool true)]) (.cons rfl (.cons rfl (.cons rfl (.cons rfl (.cons rfl (.cons rfl (.cons rfl (.nil _)))))))) ?_
 refine ke_cond (t := true) rfl (fun _ => ?_) (fun h => by cases h)
 refine ke_seq ?_
 refine ke_region ?_
 refine sr_ev (v := .int .i64 1) (ev_assign rfl) (by decide) ?_
 refine sr_end (l' := [(12, .int .i64 1)]) (.cons rfl (.nil _)) ?_
 cases hS
 exact ke_ret1 Try.func21 rfl rfl ⟨_, rfl, rfl, (hb.below (flat1_le _))⟩
theorem consent_Consents_Covers__nil_ok (w0 : World) (hg : Gs w0) {ρA : Tags} (hbd : ∀ b, ρA b ≠ 0 → b < w0.heap.size) (hz : Gz ρA) {user_1 : Str} {client_2 : Str} {scopes_3 : List Str} {now_4 : Int} {v1 : Value} {r : Bool} (h2 : SlR strC (Wb ρA) w0 v1 scopes_3) (hS : consent_Consents_Covers__nil user_1 client_2 scopes_3 now_4 = some r) :
  Calls Try.prog 25 #[.pointer none, str user_1, str client_2, v1, .int .i64 now_4] w0 (Ret (fun v w' => v = .bool r ∧ Below w0.heap.size w0 w')) := by
 unfold consent_Consents_Covers__nil at hS
 have hb := flat1_fr (ρ := ρA) (w := w0) hbd
 have hz := hz.flat1
 replace h2 := SlR.mv h2 flat1_rd
 refine calls_of_ke Try.func25 rfl (n := 29) rfl rfl (l := [(0, .pointer none), (1, str user_1), (2, str client_2), (3, v1), (4, .int .i64 now_4)]) rfl ?_
 refine ke_seq ?_
 refine ke_region ?_
 refine sr_ev (v := .bool false) (ev_assign rfl) (by decide) ?_
 refine sr_end (l' := [(0, .pointer none), (1, str user_1), (2, str client_2), (3, v1), (4, .int .i64 now_4)]) (.cons rfl (.cons rfl (.cons rfl (.cons rfl (.cons rfl (.nil _)))))) ?_
 refine ke_seq ?_
 refine ke_region ?_
 refine sr_ev (v := .pointer none) (ev_move rfl) (by decide) ?_
 refine sr_ev (v := .bool false) (ev_pneT_nil Try.underlying25 rfl rfl) (by decide) ?_
 refine sr_ev (v := .bool false) (ev_move rfl) (by decide) ?_
 refine sr_pass (e := 13) rfl rfl rfl (by decide) ?_
 refine sr_pass (e := 13) rfl rfl rfl (by decide) ?_
 refine sr_pass (e := 13) rfl rfl rfl (by decide) ?_
 refine sr_pass (e := 13) rfl rfl rfl (by decide) ?_
 refine sr_pass (e := 13) rfl rfl rfl (by decide) ?_
 refine sr_ev (v := .bool false) (ev_pick_f rfl rfl rfl) (by decide) ?_
 refine sr_ev (v := .bool false) (ev_move rfl) (by decide) ?_
 refine sr_pass (e := 20) rfl rfl rfl (by decide) ?_
 refine sr_pass (e := 20) rfl rfl rfl (by decide) ?_
 refine sr_pass (e := 20) rfl rfl rfl (by decide) ?_
 refine sr_pass (e := 20) rfl rfl rfl (by decide) ?_
 refine sr_pass (e := 20) rfl rfl rfl (by decide) ?_
 refine sr_pass (e := 20) rfl rfl rfl (by decide) ?_
 refine sr_pass (e := 20) rfl rfl rfl (by decide) ?_
 refine sr_ev (v := .bool false) (ev_pick_f rfl rfl rfl) (by decide) ?_
 refine sr_ev (v := .bool false) (ev_assign rfl) (by decide) ?_
 refine sr_end (l' := [(10, .bool false)]) (.cons rfl (.nil _)) ?_
 cases hS
 exact ke_ret1 Try.func25 rfl rfl ⟨_, rfl, rfl, (hb.below (flat1_le _))⟩
theorem law32_awake_ok (w0 : World) (hg : Gs w0) {ρA : Tags} (hbd : ∀ b, ρA b ≠ 0 → b < w0.heap.size) (hz : Gz ρA) {r : Bool} (hS : law32_awake = some r) :
  Calls Try.prog 9 #[] w0 (Ret (fun v w' => v = .bool r ∧ Below w0.heap.size w0 w')) := by
 unfold law32_awake at hS
 have hb := flat1_fr (ρ := ρA) (w := w0) hbd
 have hz := hz.flat1
 refine calls_of_ke Try.func9 rfl (n := 87) rfl rfl (l := []) rfl ?_
 refine ke_seq ?_
 refine ke_region ?_
 refine sr_ev (v := .bool false) (ev_assign rfl) (by decide) ?_
 refine sr_end (l' := []) (.nil _) ?_
 refine ke_seq ?_
 refine ke_region ?_
 obtain ⟨y1, hy2, hS⟩ := bind_some' hS
 refine sr_call (vs := []) rfl Try.call10 rfl (consent_New_ok _ (hg.fr hz hb) (ρA := (flat1 ρA)) hb.bd (hz.fr hg hb) (o := 100) (by decide) hy2) (by decide) ?_
 rintro _ w3 ⟨ρ10, g6, rfl, ⟨v7, hB9, h8⟩, htr5⟩
 replace hb := hb.trans htr5
 replace hB9 : Blk ρ10 100 w3 g6 (.cells #[v7] 52 (0, 0)) := hB9
 replace h8 : MapT consent_pair.ek (mapC str (intC .i64) false) false ρ10 101 w3 v7 y1.pairs := h8
 refine sr_ev (v := .pointer (some ⟨g6, 0, none⟩)) (ev_assign rfl) (by decide) ?_
 refine sr_end (l' := [(1, .pointer (some ⟨g6, 0, none⟩))]) (.cons rfl (.nil _)) ?_
 refine ke_seq ?_
 refine ke_seq ?_
 refine ke_region ?_
 refine sr_ev (v := .pointer (some ⟨g6, 0, none⟩)) (ev_move rfl) (by decide) ?_
 refine sr_ev (v := .bool false) (ev_peqT_some Try.underlying25 rfl rfl) (by decide) ?_
 refine sr_end (l' := [(1, .pointer (some ⟨g6, 0, none⟩)), (13, .bool false)]) (.cons rfl (.cons rfl (.nil _))) ?_
 refine ke_cond (t := false) rfl (fun h => by cases h) (fun _ => ?_)
 refine ke_skip ?_
 refine ke_seq ?_
 refine ke_region ?_
 refine sr_ev (v := .pointer (some ⟨g6, 0, none⟩)) (ev_move rfl) (by decide) ?_
 refine sr_litT (c := strC) (ρ := ρ10) (E := 9) (xs := [[109, 97, 105, 108]]) (vs := #[(0, str ([109, 97, 105, 108]))]) (cs := #[str ([109, 97, 105, 108])]) (css := [[str ([109, 97, 105, 108])]]) rfl (fun _ => by kernel_rfl) rfl ⟨rfl, trivial⟩ rfl (by decide) hb.bd (by decide) ?_
 intro v11 w13 h12 hbw15
 have htr14 := Tr.of_below hbw15 hb.bd
 replace hB9 := hB9.mv (htr14.mv (i := 100) rfl)
 replace h8 := h8.mv (htr14.mv (i := 101) rfl)
 replace hb := hb.trans htr14
 obtain ⟨y16, hy17, hS⟩ := bind_some' hS
 refine sr_call (vs := [.pointer (some ⟨g6, 0, none⟩), str ([97, 110, 110]), str ([119, 101, 98]), v11, .int .i64 10, .int .i64 0]) rfl Try.call21 rfl (consent_Consents_Grant_ok _ (hg.fr hz hb) (ρA := ρ10) hb.bd (hz.fr hg hb) (o := 100) (by decide) h12 (⟨_, hB9, h8⟩ : consent_Consents.O (fun p => 100 + p) ρ10 w13 g6 y1) hy17) (by decide) ?_
 rintro _ w18 ⟨ρ24, rfl, ⟨v21, hB23, h22⟩, htr20⟩
 replace hb := hb.trans htr20
 replace hB23 : Blk ρ24 100 w18 g6 (.cells #[v21] 52 (0, 0)) := hB23
 replace h22 : MapT consent_pair.ek (mapC str (intC .i64) false) false ρ24 101 w18 v21 y16.2.pairs := h22
 refine sr_ev (v := .int .i64 y16.1) (ev_assign rfl) (by decide) ?_
 refine sr_end (l' := [(1, .pointer (some ⟨g6, 0, none⟩)), (2, .int .i64 y16.1)]) (.cons rfl (.cons rfl (.nil _))) ?_
 refine ke_seq ?_
 refine ke_region ?_
 refine sr_ev (v := .pointer (some ⟨g6, 0, none⟩)) (ev_move rfl) (by decide) ?_
 refine sr_litT (c := strC) (ρ := ρ24) (E := 9) (xs := [[109, 97, 105, 108]]) (vs := #[(0, str ([109, 97, 105, 108]))]) (cs := #[str ([109, 97, 105, 108])]) (css := [[str ([109, 97, 105, 108])]]) rfl (fun _ => by kernel_rfl) rfl ⟨rfl, trivial⟩ rfl (by decide) hb.bd (by decide) ?_
 intro v25 w27 h26 hbw29
 have htr28 := Tr.of_below hbw29 hb.bd
 replace hB23 := hB23.mv (htr28.mv (i := 100) rfl)
 replace h22 := h22.mv (htr28.mv (i := 101) rfl)
 replace hb := hb.trans htr28
 obtain ⟨y30, hy31, hS⟩ := bind_some' hS
 refine sr_call (vs := [.pointer (some ⟨g6, 0, none⟩), str ([97, 110, 110]), str ([119, 101, 98]), v25, .int .i64 5, .int .i64 0]) rfl Try.call21 rfl (consent_Consents_Grant_ok _ (hg.fr hz hb) (ρA := ρ24) hb.bd (hz.fr hg hb) (o := 100) (by decide) h26 (⟨_, hB23, h22⟩ : consent_Consents.O (fun p => 100 + p) ρ24 w27 g6 y16.2) hy31) (by decide) ?_
 rintro _ w32 ⟨ρ38, rfl, ⟨v35, hB37, h36⟩, htr34⟩
 replace hb := hb.trans htr34
 replace hB37 : Blk ρ38 100 w32 g6 (.cells #[v35] 52 (0, 0)) := hB37
 replace h36 : MapT consent_pair.ek (mapC str (intC .i64) false) false ρ38 101 w32 v35 y30.2.pairs := h36
 refine sr_ev (v := .int .i64 y30.1) (ev_assign rfl) (by decide) ?_
 refine sr_end (l' := [(1, .pointer (some ⟨g6, 0, none⟩)), (2, .int .i64 y16.1), (3, .int .i64 y30.1)]) (.cons rfl (.cons rfl (.cons rfl (.nil _)))) ?_
 refine ke_seq ?_
 refine ke_region ?_
 refine sr_ev (v := .pointer (some ⟨g6, 0, none⟩)) (ev_move rfl) (by decide) ?_
 refine sr_litT (c := strC) (ρ := ρ38) (E := 9) (xs := [[97]]) (vs := #[(0, str ([97]))]) (cs := #[str ([97])]) (css := [[str ([97])]]) rfl (fun _ => by kernel_rfl) rfl ⟨rfl, trivial⟩ rfl (by decide) hb.bd (by decide) ?_
 intro v39 w41 h40 hbw43
 have htr42 := Tr.of_below hbw43 hb.bd
 replace hB37 := hB37.mv (htr42.mv (i := 100) rfl)
 replace h36 := h36.mv (htr42.mv (i := 101) rfl)
 replace hb := hb.trans htr42
 obtain ⟨y44, hy45, hS⟩ := bind_some' hS
 refine sr_call (vs := [.pointer (some ⟨g6, 0, none⟩), str ([97, 110, 110]), str ([97, 112, 112]), v39, .int .i64 3, .int .i64 3]) rfl Try.call21 rfl (consent_Consents_Grant_ok _ (hg.fr hz hb) (ρA := ρ38) hb.bd (hz.fr hg hb) (o := 100) (by decide) h40 (⟨_, hB37, h36⟩ : consent_Consents.O (fun p => 100 + p) ρ38 w41 g6 y30.2) hy45) (by decide) ?_
 rintro _ w46 ⟨ρ52, rfl, ⟨v49, hB51, h50⟩, htr48⟩
 replace hb := hb.trans htr48
 replace hB51 : Blk ρ52 100 w46 g6 (.cells #[v49] 52 (0, 0)) := hB51
 replace h50 : MapT consent_pair.ek (mapC str (intC .i64) false) false ρ52 101 w46 v49 y44.2.pairs := h50
 refine sr_ev (v := .int .i64 y44.1) (ev_assign rfl) (by decide) ?_
 refine sr_end (l' := [(1, .pointer (some ⟨g6, 0, none⟩)), (2, .int .i64 y16.1), (3, .int .i64 y30.1), (4, .int .i64 y44.1)]) (.cons rfl (.cons rfl (.cons rfl (.cons rfl (.nil _))))) ?_
 refine ke_seq ?_
 refine ke_region ?_
 refine sr_ev (v := .pointer (some ⟨g6, 0, none⟩)) (ev_move rfl) (by decide) ?_
 obtain ⟨y53, hy54, hS⟩ := bind_some' hS
 refine sr_call (vs := [.pointer (some ⟨g6, 0, none⟩), str ([97, 110, 110]), str ([119, 101, 98]), .int .i64 9]) rfl Try.call17 rfl (consent_Consents_Scopes_ok _ (hg.fr hz hb) (ρA := ρ52) hb.bd (hz.fr hg hb) (τ0 := (fun p => 100 + p)) (fun p => Nat.le_add_right_of_le (by decide)) (⟨_, hB51, h50⟩ : consent_Consents.O (fun p => 100 + p) ρ52 w46 g6 y44.2) hy54) (by decide) ?_
 rintro v58 w55 ⟨_, rfl, h59, hbw56⟩
 have htr57 := Tr.of_below hbw56 hb.bd
 replace hB51 := hB51.mv (htr57.mv (i := 100) rfl)
 replace h50 := h50.mv (htr57.mv (i := 101) rfl)
 replace hb := hb.trans htr57
 refine sr_ev (v := v58) (ev_assign rfl) (by decide) ?_
 refine sr_end (l' := [(1, .pointer (some ⟨g6, 0, none⟩)), (2, .int .i64 y16.1), (3, .int .i64 y30.1), (4, .int .i64 y44.1), (5, v58)]) (.cons rfl (.cons rfl (.cons rfl (.cons rfl (.cons rfl (.nil _)))))) ?_
 refine ke_seq ?_
 refine ke_region ?_
 refine sr_ev (v := .pointer (some ⟨g6, 0, none⟩)) (ev_move rfl) (by decide) ?_
 refine sr_litT (c := strC) (ρ := ρ52) (E := 9) (xs := [[109, 97, 105, 108, 46, 114, 101, 97, 100]]) (vs := #[(0, str ([109, 97, 105, 108, 46, 114, 101, 97, 100]))]) (cs := #[str ([109, 97, 105, 108, 46, 114, 101, 97, 100])]) (css := [[str ([109, 97, 105, 108, 46, 114, 101, 97, 100])]]) rfl (fun _ => by kernel_rfl) rfl ⟨rfl, trivial⟩ rfl (by decide) hb.bd (by decide) ?_
 intro v60 w62 h61 hbw64
 have htr63 := Tr.of_below hbw64 hb.bd
 replace h59 := h59.mv htr63.rd
 replace hB51 := hB51.mv (htr63.mv (i := 100) rfl)
 replace h50 := h50.mv (htr63.mv (i := 101) rfl)
 replace hb := hb.trans htr63
 obtain ⟨y65, hy66, hS⟩ := bind_some' hS
 refine sr_call (vs := [.pointer (some ⟨g6, 0, none⟩), str ([97, 110, 110]), str ([119, 101, 98]), v60, .int .i64 9]) rfl Try.call25 rfl (consent_Consents_Covers_ok _ (hg.fr hz hb) (ρA := ρ52) hb.bd (hz.fr hg hb) (τ0 := (fun p => 100 + p)) (fun p => Nat.le_add_right_of_le (by decide)) h61 (⟨_, hB51, h50⟩ : consent_Consents.O (fun p => 100 + p) ρ52 w62 g6 y44.2) hy66) (by decide) ?_
 rintro _ w67 ⟨rfl, hbw68⟩
 have htr69 := Tr.of_below hbw68 hb.bd
 replace h59 := h59.mv htr69.rd
 replace hB51 := hB51.mv (htr69.mv (i := 100) rfl)
 replace h50 := h50.mv (htr69.mv (i := 101) rfl)
 replace hb := hb.trans htr69
 refine sr_ev (v := .bool y65) (ev_assign rfl) (by decide) ?_
 refine sr_end (l' := [(1, .pointer (some ⟨g6, 0, none⟩)), (2, .int .i64 y16.1), (3, .int .i64 y30.1), (4, .int .i64 y44.1), (5, v58), (6, .bool y65)]) (.cons rfl (.cons rfl (.cons rfl (.cons rfl (.cons rfl (.cons rfl (.nil _))))))) ?_
 refine ke_seq ?_
 refine ke_region ?_
 refine sr_ev (v := .pointer (some ⟨g6, 0, none⟩)) (ev_move rfl) (by decide) ?_
 refine sr_litT (c := strC) (ρ := ρ52) (E := 9) (xs := [[109, 97, 105, 108, 46, 114, 101, 97, 100]]) (vs := #[(0, str ([109, 97, 105, 108, 46, 114, 101, 97, 100]))]) (cs := #[str ([109, 97, 105, 108, 46, 114, 101, 97, 100])]) (css := [[str ([109, 97, 105, 108, 46, 114, 101, 97, 100])]]) rfl (fun _ => by kernel_rfl) rfl ⟨rfl, trivial⟩ rfl (by decide) hb.bd (by decide) ?_
 intro v70 w72 h71 hbw74
 have htr73 := Tr.of_below hbw74 hb.bd
 replace h59 := h59.mv htr73.rd
 replace hB51 := hB51.mv (htr73.mv (i := 100) rfl)
 replace h50 := h50.mv (htr73.mv (i := 101) rfl)
 replace hb := hb.trans htr73
 obtain ⟨y75, hy76, hS⟩ := bind_some' hS
 refine sr_call (vs := [.pointer (some ⟨g6, 0, none⟩), str ([97, 110, 110]), str ([119, 101, 98]), v70, .int .i64 10]) rfl Try.call25 rfl (consent_Consents_Covers_ok _ (hg.fr hz hb) (ρA := ρ52) hb.bd (hz.fr hg hb) (τ0 := (fun p => 100 + p)) (fun p => Nat.le_add_right_of_le (by decide)) h71 (⟨_, hB51, h50⟩ : consent_Consents.O (fun p => 100 + p) ρ52 w72 g6 y44.2) hy76) (by decide) ?_
 rintro _ w77 ⟨rfl, hbw78⟩
 have htr79 := Tr.of_below hbw78 hb.bd
 replace h59 := h59.mv htr79.rd
 replace hB51 := hB51.mv (htr79.mv (i := 100) rfl)
 replace h50 := h50.mv (htr79.mv (i := 101) rfl)
 replace hb := hb.trans htr79
 refine sr_ev (v := .bool y75) (ev_assign rfl) (by decide) ?_
 refine sr_end (l' := [(1, .pointer (some ⟨g6, 0, none⟩)), (2, .int .i64 y16.1), (3, .int .i64 y30.1), (4, .int .i64 y44.1), (5, v58), (6, .bool y65), (7, .bool y75)]) (.cons rfl (.cons rfl (.cons rfl (.cons rfl (.cons rfl (.cons rfl (.cons rfl (.nil _)))))))) ?_
 refine ke_seq ?_
 refine ke_region ?_
 refine sr_ev (v := .pointer (some ⟨g6, 0, none⟩)) (ev_move rfl) (by decide) ?_
 obtain ⟨y80, hy81, hS⟩ := bind_some' hS
 refine sr_call (vs := [.pointer (some ⟨g6, 0, none⟩), str ([97, 110, 110]), .int .i64 9]) rfl Try.call19 rfl (consent_Consents_Clients_ok _ (hg.fr hz hb) (ρA := ρ52) hb.bd (hz.fr hg hb) (τ0 := (fun p => 100 + p)) (fun p => Nat.le_add_right_of_le (by decide)) (⟨_, hB51, h50⟩ : consent_Consents.O (fun p => 100 + p) ρ52 w77 g6 y44.2) hy81) (by decide) ?_
 rintro v85 w82 ⟨_, rfl, h86, hbw83⟩
 have htr84 := Tr.of_below hbw83 hb.bd
 replace h59 := h59.mv htr84.rd
 replace hB51 := hB51.mv (htr84.mv (i := 100) rfl)
 replace h50 := h50.mv (htr84.mv (i := 101) rfl)
 replace hb := hb.trans htr84
 refine sr_ev (v := v85) (ev_assign rfl) (by decide) ?_
 refine sr_end (l' := [(1, .pointer (some ⟨g6, 0, none⟩)), (2, .int .i64 y16.1), (3, .int .i64 y30.1), (4, .int .i64 y44.1), (5, v58), (6, .bool y65), (7, .bool y75), (8, v85)]) (.cons rfl (.cons rfl (.cons rfl (.cons rfl (.cons rfl (.cons rfl (.cons rfl (.cons rfl (.nil _))))))))) ?_
 refine ke_seq ?_
 refine ke_region ?_
 refine sr_ev (v := .pointer (some ⟨g6, 0, none⟩)) (ev_move rfl) (by decide) ?_
 obtain ⟨y87, hy88, hS⟩ := bind_some' hS
 refine sr_call (vs := [.pointer (some ⟨g6, 0, none⟩), str ([97, 110, 110])]) rfl Try.call27 rfl (consent_Consents_Drop_ok _ (hg.fr hz hb) (ρA := ρ52) hb.bd (hz.fr hg hb) (o := 100) (by decide) (⟨_, hB51, h50⟩ : consent_Consents.O (fun p => 100 + p) ρ52 w82 g6 y44.2) hy88) (by decide) ?_
 rintro _ w89 ⟨ρ95, rfl, ⟨v92, hB94, h93⟩, htr91⟩
 replace h59 := h59.mv htr91.rd
 replace h86 := h86.mv htr91.rd
 replace hb := hb.trans htr91
 replace hB94 : Blk ρ95 100 w89 g6 (.cells #[v92] 52 (0, 0)) := hB94
 replace h93 : MapT consent_pair.ek (mapC str (intC .i64) false) false ρ95 101 w89 v92 y87.2.pairs := h93
 refine sr_ev (v := .int .i64 y87.1) (ev_assign rfl) (by decide) ?_
 refine sr_end (l' := [(1, .pointer (some ⟨g6, 0, none⟩)), (2, .int .i64 y16.1), (3, .int .i64 y30.1), (4, .int .i64 y44.1), (5, v58), (6, .bool y65), (7, .bool y75), (8, v85), (9, .int .i64 y87.1)]) (.cons rfl (.cons rfl (.cons rfl (.cons rfl (.cons rfl (.cons rfl (.cons rfl (.cons rfl (.cons rfl (.nil _)))))))))) ?_
 refine ke_seq ?_
 refine ke_region ?_
 refine sr_ev (v := .pointer none) (ev_assign rfl) (by decide) ?_
 refine sr_end (l' := [(1, .pointer (some ⟨g6, 0, none⟩)), (2, .int .i64 y16.1), (3, .int .i64 y30.1), (4, .int .i64 y44.1), (5, v58), (6, .bool y65), (7, .bool y75), (8, v85), (9, .int .i64 y87.1), (10, .pointer none)]) (.cons rfl (.cons rfl (.cons rfl (.cons rfl (.cons rfl (.cons rfl (.cons rfl (.cons rfl (.cons rfl (.cons rfl (.nil _))))))))))) ?_
 refine ke_seq ?_
 refine ke_region ?_
 refine sr_ev (v := .int .i64 y16.1) (ev_move rfl) (by decide) ?_
 refine sr_ev (v := .bool (y16.1 == 0)) (ev_eq rfl rfl) (by decide) ?_
 refine sr_ev (v := .bool (y16.1 == 0)) (ev_move rfl) (by decide) ?_
 refine sr_join (m := 3) (C := fun (x : Bool) w1 => x = ((y16.1 == 0) && (y30.1 == 0)) ∧ w89 = w1) (l' := fun x => [(1, .pointer (some ⟨g6, 0, none⟩)), (4, .int .i64 y44.1), (5, v58), (6, .bool y65), (7, .bool y75), (8, v85), (9, .int .i64 y87.1), (10, .pointer none), (40, .bool x)]) ?_ ?_
 ·rintro _ _ ⟨rfl, rfl⟩
  refine sr_ev (v := .bool ((y16.1 == 0) && (y30.1 == 0))) (ev_move rfl) (by decide) ?_
  refine sr_join (m := 3) (C := fun (x : Bool) w1 => x = (((y16.1 == 0) && (y30.1 == 0)) && (y44.1 == 13)) ∧ w89 = w1) (l' := fun x => [(1, .pointer (some ⟨g6, 0, none⟩)), (5, v58), (6, .bool y65), (7, .bool y75), (8, v85), (9, .int .i64 y87.1), (10, .pointer none), (44, .bool x)]) ?_ ?_
  ·rintro _ _ ⟨rfl, rfl⟩
   refine sr_ev (v := .bool (((y16.1 == 0) && (y30.1 == 0)) && (y44.1 == 13))) (ev_move rfl) (by decide) ?_
   obtain ⟨z114, hz116, hS⟩ := bind_some' hS
   refine sr_join (m := 4) (C := fun (z : Bool) w1 => z114 = z ∧ ∃ ρ1, Tr ρ95 w89 (fun _ => false) ρ1 w1) (l' := fun z => [(1, .pointer (some ⟨g6, 0, none⟩)), (6, .bool y65), (7, .bool y75), (8, v85), (9, .int .i64 y87.1), (10, .pointer none), (49, .bool z)]) ?_ ?_
   ·rintro _ w117 ⟨rfl, ρ118, hj115⟩
    replace h86 := h86.mv hj115.rd
    replace hB94 := hB94.mv (hj115.mv (i := 100) rfl)
    replace h93 := h93.mv (hj115.mv (i := 101) rfl)
    replace hb := hb.trans hj115
    refine sr_ev (v := .bool z114) (ev_move rfl) (by decide) ?_
    refine sr_join (m := 2) (C := fun (x : Bool) w1 => x = (z114 && y65) ∧ w117 = w1) (l' := fun x => [(1, .pointer (some ⟨g6, 0, none⟩)), (7, .bool y75), (8, v85), (9, .int .i64 y87.1), (10, .pointer none), (52, .bool x)]) ?_ ?_
    ·rintro _ _ ⟨rfl, rfl⟩
     refine sr_ev (v := .bool (z114 && y65)) (ev_move rfl) (by decide) ?_
     refine sr_join (m := 3) (C := fun (x : Bool) w1 => x = ((z114 && y65) && (!y75)) ∧ w117 = w1) (l' := fun x => [(1, .pointer (some ⟨g6, 0, none⟩)), (8, v85), (9, .int .i64 y87.1), (10, .pointer none), (56, .bool x)]) ?_ ?_
     ·rintro _ _ ⟨rfl, rfl⟩
      refine sr_ev (v := .bool ((z114 && y65) && (!y75))) (ev_move rfl) (by decide) ?_
      obtain ⟨z148, hz150, hS⟩ := bind_some' hS
      refine sr_join (m := 4) (C := fun (z : Bool) w1 => z148 = z ∧ ∃ ρ1, Tr ρ118 w117 (fun _ => false) ρ1 w1) (l' := fun z => [(1, .pointer (some ⟨g6, 0, none⟩)), (9, .int .i64 y87.1), (10, .pointer none), (61, .bool z)]) ?_ ?_
      ·rintro _ w151 ⟨rfl, ρ152, hj149⟩
       replace hB94 := hB94.mv (hj149.mv (i := 100) rfl)
       replace h93 := h93.mv (hj149.mv (i := 101) rfl)
       replace hb := hb.trans hj149
       refine sr_ev (v := .bool z148) (ev_move rfl) (by decide) ?_
       refine sr_join (m := 3) (C := fun (x : Bool) w1 => x = (z148 && (y87.1 == 1)) ∧ w151 = w1) (l' := fun x => [(1, .pointer (some ⟨g6, 0, none⟩)), (10, .pointer none), (65, .bool x)]) ?_ ?_
       ·rintro _ _ ⟨rfl, rfl⟩
        refine sr_ev (v := .bool (z148 && (y87.1 == 1))) (ev_move rfl) (by decide) ?_
        obtain ⟨z174, hz176, hS⟩ := bind_some' hS
        refine sr_join (m := 4) (C := fun (z : Bool) w1 => z174 = z ∧ ∃ ρ1, Tr ρ152 w151 (fun _ => false) ρ1 w1) (l' := fun z => [(1, .pointer (some ⟨g6, 0, none⟩)), (10, .pointer none), (70, .bool z)]) ?_ ?_
        ·rintro _ w177 ⟨rfl, ρ178, hj175⟩
         replace hB94 := hB94.mv (hj175.mv (i := 100) rfl)
         replace h93 := h93.mv (hj175.mv (i := 101) rfl)
         replace hb := hb.trans hj175
         refine sr_ev (v := .bool z174) (ev_move rfl) (by decide) ?_
         obtain ⟨z187, hz189, hS⟩ := bind_some' hS
         refine sr_join (m := 4) (C := fun (z : Bool × consent_Consents) w1 => z187 = z ∧ ∃ ρ1, consent_Consents.O (fun p => 100 + p) ρ1 w1 g6 z.2 ∧ Tr ρ178 w177 (fun t => ([100, 101] : List Nat).contains t) ρ1 w1) (l' := fun z => [(10, .pointer none), (75, .bool z.1)]) ?_ ?_
         ·rintro _ w190 ⟨rfl, ρ191, ⟨v202, hB204, h203⟩, hj188⟩
          replace hb := hb.trans hj188
          replace hB204 : Blk ρ191 100 w190 g6 (.cells #[v202] 52 (0, 0)) := hB204
          replace h203 : MapT consent_pair.ek (mapC str (intC .i64) false) false ρ191 101 w190 v202 z187.2.pairs := h203
          refine sr_ev (v := .bool z187.1) (ev_move rfl) (by decide) ?_
          obtain ⟨z207, hz209, hS⟩ := bind_some' hS
          refine sr_join (m := 5) (C := fun (z : Bool) w1 => z207 = z ∧ ∃ ρ1, Tr ρ191 w190 (fun _ => false) ρ1 w1) (l' := fun z => [(10, .pointer none), (81, .bool z)]) ?_ ?_
          ·rintro _ w210 ⟨rfl, ρ211, hj208⟩
           replace hb := hb.trans hj208
           refine sr_ev (v := .bool z207) (ev_move rfl) (by decide) ?_
           obtain ⟨z225, hz227, hS⟩ := bind_some' hS
           refine sr_join (m := 4) (C := fun (z : Bool) w1 => z225 = z ∧ ∃ ρ1, Tr ρ211 w210 (fun _ => false) ρ1 w1) (l' := fun z => [(86, .bool z)]) ?_ ?_
           ·rintro _ w228 ⟨rfl, ρ229, hj226⟩
            replace hb := hb.trans hj226
            refine sr_ev (v := .bool z225) (ev_assign rfl) (by decide) ?_
            refine sr_end (l' := [(0, .bool z225)]) (.cons rfl (.nil _)) ?_
            cases hS
            exact ke_ret1 Try.func9 rfl rfl ⟨_, rfl, rfl, (hb.below (flat1_le _))⟩
           ·intro K224
            clear hS
            have hj226 : Tr ρ211 w210 (fun _ => false) ρ211 w210 := (Tr.refl hb.bd).weak (fun _ _ => rfl) rfl rfl
            rcases Bool.eq_false_or_eq_true z207 with hg223 | hg223
            ·have hS := ite_true' hz227 hg223
             refine sr_evg (b := true) (e := 82) rfl rfl hg223 (v := .pointer none) (ev_move rfl) (by decide) ?_
             obtain ⟨y231, hy232, hS⟩ := bind_some' hS
             obtain rfl : y231 = false := (Option.some.inj hy232).symm
             refine sr_callg (b := true) (e := 82) rfl rfl hg223 (vs := [.pointer none, str ([97, 110, 110]), str ([119, 101, 98]), (.slice none 0 0), .int .i64 0]) rfl Try.call25 rfl (consent_Consents_Covers__nil_ok _ (hg.fr hz hb) (ρA := ρ211) hb.bd (hz.fr hg hb) (SlR.nil (A := Wb ρ211)) hy232) (by decide) ?_
             rintro _ w233 ⟨rfl, hbw234⟩
             have htr235 := Tr.of_below hbw234 hb.bd
             replace hb := hb.trans htr235
             replace hj226 := (hj226.trans htr235).weak (J' := (fun _ => false)) (by intro t h; simp [rng] at h ⊢ <;> omega) rfl rfl
             refine sr_evg (b := true) (e := 82) rfl rfl hg223 (v := .bool true) (ev_notc rfl rfl) (by decide) ?_
             refine sr_ev (v := .bool true) (ev_pick_t rfl hg223 rfl) (by decide) ?_
             exact sr_weaken (l' := [(86, .bool true)]) (.cons rfl (.nil _)) (K224 true _ ⟨(Option.some.inj hS).symm, _, hj226⟩)
            ·have hS := ite_false' hz227 hg223
             refine sr_pass (e := 82) rfl rfl (by rw [hg223]; rfl) (by decide) ?_
             refine sr_pass (e := 82) rfl rfl (by rw [hg223]; rfl) (by decide) ?_
             refine sr_pass (e := 82) rfl rfl (by rw [hg223]; rfl) (by decide) ?_
             refine sr_ev (v := .bool false) (ev_pick_f rfl hg223 rfl) (by decide) ?_
             exact sr_weaken (l' := [(86, .bool false)]) (.cons rfl (.nil _)) (K224 false _ ⟨(Option.some.inj hS).symm, _, hj226⟩)
          ·intro K206
           clear hS
           have hj208 : Tr ρ191 w190 (fun _ => false) ρ191 w190 := (Tr.refl hb.bd).weak (fun _ _ => rfl) rfl rfl
           rcases Bool.eq_false_or_eq_true z187.1 with hg205 | hg205
           ·have hS := ite_true' hz209 hg205
            refine sr_evg (b := true) (e := 76) rfl rfl hg205 (v := .pointer none) (ev_move rfl) (by decide) ?_
            refine sr_unguard rfl rfl hg205 ?_
            refine sr_litT (c := strC) (ρ := ρ191) (E := 9) (xs := [[97]]) (vs := #[(0, str ([97]))]) (cs := #[str ([97])]) (css := [[str ([97])]]) rfl (fun _ => by kernel_rfl) rfl ⟨rfl, trivial⟩ rfl (by decide) hb.bd (by decide) ?_
            intro v213 w215 h214 hbw217
            have htr216 := Tr.of_below hbw217 hb.bd
            replace hb := hb.trans htr216
            replace hj208 := (hj208.trans htr216).weak (J' := (fun _ => false)) (by intro t h; simp [rng] at h ⊢ <;> omega) rfl rfl
            obtain ⟨y218, hy219, hS⟩ := bind_some' hS
            refine sr_callg (b := true) (e := 76) rfl rfl hg205 (vs := [.pointer none, str ([97, 110, 110]), str ([119, 101, 98]), v213, .int .i64 5, .int .i64 0]) rfl Try.call21 rfl (consent_Consents_Grant__nil_ok _ (hg.fr hz hb) (ρA := ρ191) hb.bd (hz.fr hg hb) h214 hy219) (by decide) ?_
            rintro _ w220 ⟨rfl, hbw221⟩
            have htr222 := Tr.of_below hbw221 hb.bd
            replace hb := hb.trans htr222
            replace hj208 := (hj208.trans htr222).weak (J' := (fun _ => false)) (by intro t h; simp [rng] at h ⊢ <;> omega) rfl rfl
            refine sr_evg (b := true) (e := 76) rfl rfl hg205 (v := .bool (y218 == 1)) (ev_eq rfl rfl) (by decide) ?_
            refine sr_ev (v := .bool (y218 == 1)) (ev_pick_t rfl hg205 rfl) (by decide) ?_
            exact sr_weaken (l' := [(10, .pointer none), (81, .bool (y218 == 1))]) (.cons rfl (.cons rfl (.nil _))) (K206 (y218 == 1) _ ⟨(Option.some.inj hS).symm, _, hj208⟩)
           ·have hS := ite_false' hz209 hg205
            refine sr_pass (e := 76) rfl rfl (by rw [hg205]; rfl) (by decide) ?_
            refine sr_pass (e := 76) rfl rfl (by rw [hg205]; rfl) (by decide) ?_
            refine sr_pass (e := 76) rfl rfl (by rw [hg205]; rfl) (by decide) ?_
            refine sr_pass (e := 76) rfl rfl (by rw [hg205]; rfl) (by decide) ?_
            refine sr_ev (v := .bool false) (ev_pick_f rfl hg205 rfl) (by decide) ?_
            exact sr_weaken (l' := [(10, .pointer none), (81, .bool false)]) (.cons rfl (.cons rfl (.nil _))) (K206 false _ ⟨(Option.some.inj hS).symm, _, hj208⟩)
         ·intro K186
          clear hS
          have hj188 : Tr ρ178 w177 (fun t => ([100, 101] : List Nat).contains t) ρ178 w177 := (Tr.refl hb.bd).weak (fun _ _ => rfl) rfl rfl
          rcases Bool.eq_false_or_eq_true z174 with hg185 | hg185
          ·have hS := ite_true' hz189 hg185
           refine sr_evg (b := true) (e := 71) rfl rfl hg185 (v := .pointer (some ⟨g6, 0, none⟩)) (ev_move rfl) (by decide) ?_
           obtain ⟨y193, hy194, hS⟩ := bind_some' hS
           refine sr_callg (b := true) (e := 71) rfl rfl hg185 (vs := [.pointer (some ⟨g6, 0, none⟩), str ([97, 110, 110]), str ([119, 101, 98])]) rfl Try.call26 rfl (consent_Consents_Revoke_ok _ (hg.fr hz hb) (ρA := ρ178) hb.bd (hz.fr hg hb) (o := 100) (by decide) (⟨_, hB94, h93⟩ : consent_Consents.O (fun p => 100 + p) ρ178 w177 g6 y87.2) hy194) (by decide) ?_
           rintro _ w195 ⟨ρ201, rfl, ⟨v198, hB200, h199⟩, htr197⟩
           replace hb := hb.trans htr197
           replace hj188 := (hj188.trans htr197).weak (J' := (fun t => ([100, 101] : List Nat).contains t)) (by intro t h; simp [rng] at h ⊢ <;> omega) rfl rfl
           replace hB200 : Blk ρ201 100 w195 g6 (.cells #[v198] 52 (0, 0)) := hB200
           replace h199 : MapT consent_pair.ek (mapC str (intC .i64) false) false ρ201 101 w195 v198 y193.2.pairs := h199
           refine sr_evg (b := true) (e := 71) rfl rfl hg185 (v := .bool (!y193.1)) (ev_not rfl) (by decide) ?_
           refine sr_ev (v := .bool (!y193.1)) (ev_pick_t rfl hg185 rfl) (by decide) ?_
           exact sr_weaken (l' := [(10, .pointer none), (75, .bool (!y193.1))]) (.cons rfl (.cons rfl (.nil _))) (K186 (!y193.1, y193.2) _ ⟨(Option.some.inj hS).symm, _, ⟨_, hB200, h199⟩, hj188⟩)
          ·have hS := ite_false' hz189 hg185
           refine sr_pass (e := 71) rfl rfl (by rw [hg185]; rfl) (by decide) ?_
           refine sr_pass (e := 71) rfl rfl (by rw [hg185]; rfl) (by decide) ?_
           refine sr_pass (e := 71) rfl rfl (by rw [hg185]; rfl) (by decide) ?_
           refine sr_ev (v := .bool false) (ev_pick_f rfl hg185 rfl) (by decide) ?_
           exact sr_weaken (l' := [(10, .pointer none), (75, .bool false)]) (.cons rfl (.cons rfl (.nil _))) (K186 (false, y87.2) _ ⟨(Option.some.inj hS).symm, _, ⟨_, hB94, h93⟩, hj188⟩)
        ·intro K173
         clear hS
         have hj175 : Tr ρ152 w151 (fun _ => false) ρ152 w151 := (Tr.refl hb.bd).weak (fun _ _ => rfl) rfl rfl
         rcases Bool.eq_false_or_eq_true (z148 && (y87.1 == 1)) with hg172 | hg172
         ·have hS := ite_true' hz176 hg172
          refine sr_evg (b := true) (e := 66) rfl rfl hg172 (v := .pointer (some ⟨g6, 0, none⟩)) (ev_move rfl) (by decide) ?_
          obtain ⟨y180, hy181, hS⟩ := bind_some' hS
          refine sr_callg (b := true) (e := 66) rfl rfl hg172 (vs := [.pointer (some ⟨g6, 0, none⟩)]) rfl Try.call14 rfl (consent_Consents_Len_ok _ (hg.fr hz hb) (ρA := ρ152) hb.bd (hz.fr hg hb) (τ0 := (fun p => 100 + p)) (fun p => Nat.le_add_right_of_le (by decide)) (⟨_, hB94, h93⟩ : consent_Consents.O (fun p => 100 + p) ρ152 w151 g6 y87.2) hy181) (by decide) ?_
          rintro _ w182 ⟨rfl, hbw183⟩
          have htr184 := Tr.of_below hbw183 hb.bd
          replace hB94 := hB94.mv (htr184.mv (i := 100) rfl)
          replace h93 := h93.mv (htr184.mv (i := 101) rfl)
          replace hb := hb.trans htr184
          replace hj175 := (hj175.trans htr184).weak (J' := (fun _ => false)) (by intro t h; simp [rng] at h ⊢ <;> omega) rfl rfl
          refine sr_evg (b := true) (e := 66) rfl rfl hg172 (v := .bool (y180 == 0)) (ev_eq rfl rfl) (by decide) ?_
          refine sr_ev (v := .bool (y180 == 0)) (ev_pick_t rfl hg172 rfl) (by decide) ?_
          exact sr_weaken (l' := [(1, .pointer (some ⟨g6, 0, none⟩)), (10, .pointer none), (70, .bool (y180 == 0))]) (.cons rfl (.cons rfl (.cons rfl (.nil _)))) (K173 (y180 == 0) _ ⟨(Option.some.inj hS).symm, _, hj175⟩)
         ·have hS := ite_false' hz176 hg172
          refine sr_pass (e := 66) rfl rfl (by rw [hg172]; rfl) (by decide) ?_
          refine sr_pass (e := 66) rfl rfl (by rw [hg172]; rfl) (by decide) ?_
          refine sr_pass (e := 66) rfl rfl (by rw [hg172]; rfl) (by decide) ?_
          refine sr_ev (v := .bool false) (ev_pick_f rfl hg172 rfl) (by decide) ?_
          exact sr_weaken (l' := [(1, .pointer (some ⟨g6, 0, none⟩)), (10, .pointer none), (70, .bool false)]) (.cons rfl (.cons rfl (.cons rfl (.nil _)))) (K173 false _ ⟨(Option.some.inj hS).symm, _, hj175⟩)
       ·intro K165
        rcases Bool.eq_false_or_eq_true z148 with hg164 | hg164
        all_goals try have hj167 : Tr ρ152 w151 (fun _ => false) ρ152 w151 := Tr.refl hb.bd
        ·refine sr_evg (b := true) (e := 62) rfl rfl hg164 (v := .int .i64 y87.1) (ev_move rfl) (by decide) ?_
         refine sr_evg (b := true) (e := 62) rfl rfl hg164 (v := .bool (y87.1 == 1)) (ev_eq rfl rfl) (by decide) ?_
         refine sr_ev (v := .bool (y87.1 == 1)) (ev_pick_t rfl hg164 rfl) (by decide) ?_
         exact sr_weaken (l' := [(1, .pointer (some ⟨g6, 0, none⟩)), (10, .pointer none), (65, .bool (y87.1 == 1))]) (.cons rfl (.cons rfl (.cons rfl (.nil _)))) (K165 (y87.1 == 1) _ ⟨by rw [hg164]; rfl, rfl⟩)
        ·refine sr_pass (e := 62) rfl rfl (by rw [hg164]; rfl) (by decide) ?_
         refine sr_pass (e := 62) rfl rfl (by rw [hg164]; rfl) (by decide) ?_
         refine sr_ev (v := .bool false) (ev_pick_f rfl hg164 rfl) (by decide) ?_
         exact sr_weaken (l' := [(1, .pointer (some ⟨g6, 0, none⟩)), (10, .pointer none), (65, .bool false)]) (.cons rfl (.cons rfl (.cons rfl (.nil _)))) (K165 false _ ⟨by rw [hg164]; rfl, rfl⟩)
      ·intro K147
       clear hS
       have hj149 : Tr ρ118 w117 (fun _ => false) ρ118 w117 := (Tr.refl hb.bd).weak (fun _ _ => rfl) rfl rfl
       rcases Bool.eq_false_or_eq_true ((z114 && y65) && (!y75)) with hg146 | hg146
       ·have hS := ite_true' hz150 hg146
        refine sr_evg (b := true) (e := 57) rfl rfl hg146 (v := v85) (ev_move rfl) (by decide) ?_
        refine sr_unguard rfl rfl hg146 ?_
        refine sr_litT (c := strC) (ρ := ρ118) (E := 9) (xs := [[119, 101, 98]]) (vs := #[(0, str ([119, 101, 98]))]) (cs := #[str ([119, 101, 98])]) (css := [[str ([119, 101, 98])]]) rfl (fun _ => by kernel_rfl) rfl ⟨rfl, trivial⟩ rfl (by decide) hb.bd (by decide) ?_
        intro v154 w156 h155 hbw158
        have htr157 := Tr.of_below hbw158 hb.bd
        replace h86 := h86.mv htr157.rd
        replace hB94 := hB94.mv (htr157.mv (i := 100) rfl)
        replace h93 := h93.mv (htr157.mv (i := 101) rfl)
        replace hb := hb.trans htr157
        replace hj149 := (hj149.trans htr157).weak (J' := (fun _ => false)) (by intro t h; simp [rng] at h ⊢ <;> omega) rfl rfl
        obtain ⟨y159, hy160, hS⟩ := bind_some' hS
        refine sr_callg (b := true) (e := 57) rfl rfl hg146 (vs := [v85, v154]) rfl Try.call16 rfl (ref03_Same_ok _ (hg.fr hz hb) h86.asSl h155.asSl hy160) (by decide) ?_
        rintro _ w161 ⟨rfl, hbw162⟩
        have htr163 := Tr.of_below hbw162 hb.bd
        replace hB94 := hB94.mv (htr163.mv (i := 100) rfl)
        replace h93 := h93.mv (htr163.mv (i := 101) rfl)
        replace hb := hb.trans htr163
        replace hj149 := (hj149.trans htr163).weak (J' := (fun _ => false)) (by intro t h; simp [rng] at h ⊢ <;> omega) rfl rfl
        refine sr_ev (v := .bool y159) (ev_pick_t rfl hg146 rfl) (by decide) ?_
        exact sr_weaken (l' := [(1, .pointer (some ⟨g6, 0, none⟩)), (9, .int .i64 y87.1), (10, .pointer none), (61, .bool y159)]) (.cons rfl (.cons rfl (.cons rfl (.cons rfl (.nil _))))) (K147 y159 _ ⟨(Option.some.inj hS).symm, _, hj149⟩)
       ·have hS := ite_false' hz150 hg146
        refine sr_pass (e := 57) rfl rfl (by rw [hg146]; rfl) (by decide) ?_
        refine sr_pass (e := 57) rfl rfl (by rw [hg146]; rfl) (by decide) ?_
        refine sr_pass (e := 57) rfl rfl (by rw [hg146]; rfl) (by decide) ?_
        refine sr_ev (v := .bool false) (ev_pick_f rfl hg146 rfl) (by decide) ?_
        exact sr_weaken (l' := [(1, .pointer (some ⟨g6, 0, none⟩)), (9, .int .i64 y87.1), (10, .pointer none), (61, .bool false)]) (.cons rfl (.cons rfl (.cons rfl (.cons rfl (.nil _))))) (K147 false _ ⟨(Option.some.inj hS).symm, _, hj149⟩)
     ·intro K139
      rcases Bool.eq_false_or_eq_true (z114 && y65) with hg138 | hg138
      all_goals try have hj141 : Tr ρ118 w117 (fun _ => false) ρ118 w117 := Tr.refl hb.bd
      ·refine sr_evg (b := true) (e := 53) rfl rfl hg138 (v := .bool y75) (ev_move rfl) (by decide) ?_
       refine sr_evg (b := true) (e := 53) rfl rfl hg138 (v := .bool (!y75)) (ev_not rfl) (by decide) ?_
       refine sr_ev (v := .bool (!y75)) (ev_pick_t rfl hg138 rfl) (by decide) ?_
       exact sr_weaken (l' := [(1, .pointer (some ⟨g6, 0, none⟩)), (8, v85), (9, .int .i64 y87.1), (10, .pointer none), (56, .bool (!y75))]) (.cons rfl (.cons rfl (.cons rfl (.cons rfl (.cons rfl (.nil _)))))) (K139 (!y75) _ ⟨by rw [hg138]; rfl, rfl⟩)
      ·refine sr_pass (e := 53) rfl rfl (by rw [hg138]; rfl) (by decide) ?_
       refine sr_pass (e := 53) rfl rfl (by rw [hg138]; rfl) (by decide) ?_
       refine sr_ev (v := .bool false) (ev_pick_f rfl hg138 rfl) (by decide) ?_
       exact sr_weaken (l' := [(1, .pointer (some ⟨g6, 0, none⟩)), (8, v85), (9, .int .i64 y87.1), (10, .pointer none), (56, .bool false)]) (.cons rfl (.cons rfl (.cons rfl (.cons rfl (.cons rfl (.nil _)))))) (K139 false _ ⟨by rw [hg138]; rfl, rfl⟩)
    ·intro K131
     rcases Bool.eq_false_or_eq_true z114 with hg130 | hg130
     all_goals try have hj133 : Tr ρ118 w117 (fun _ => false) ρ118 w117 := Tr.refl hb.bd
     ·refine sr_evg (b := true) (e := 50) rfl rfl hg130 (v := .bool y65) (ev_move rfl) (by decide) ?_
      refine sr_ev (v := .bool y65) (ev_pick_t rfl hg130 rfl) (by decide) ?_
      exact sr_weaken (l' := [(1, .pointer (some ⟨g6, 0, none⟩)), (7, .bool y75), (8, v85), (9, .int .i64 y87.1), (10, .pointer none), (52, .bool y65)]) (.cons rfl (.cons rfl (.cons rfl (.cons rfl (.cons rfl (.cons rfl (.nil _))))))) (K131 y65 _ ⟨by rw [hg130]; rfl, rfl⟩)
     ·refine sr_pass (e := 50) rfl rfl (by rw [hg130]; rfl) (by decide) ?_
      refine sr_ev (v := .bool false) (ev_pick_f rfl hg130 rfl) (by decide) ?_
      exact sr_weaken (l' := [(1, .pointer (some ⟨g6, 0, none⟩)), (7, .bool y75), (8, v85), (9, .int .i64 y87.1), (10, .pointer none), (52, .bool false)]) (.cons rfl (.cons rfl (.cons rfl (.cons rfl (.cons rfl (.cons rfl (.nil _))))))) (K131 false _ ⟨by rw [hg130]; rfl, rfl⟩)
   ·intro K113
    clear hS
    have hj115 : Tr ρ95 w89 (fun _ => false) ρ95 w89 := (Tr.refl hb.bd).weak (fun _ _ => rfl) rfl rfl
    rcases Bool.eq_false_or_eq_true (((y16.1 == 0) && (y30.1 == 0)) && (y44.1 == 13)) with hg112 | hg112
    ·have hS := ite_true' hz116 hg112
     refine sr_evg (b := true) (e := 45) rfl rfl hg112 (v := v58) (ev_move rfl) (by decide) ?_
     refine sr_unguard rfl rfl hg112 ?_
     refine sr_litT (c := strC) (ρ := ρ95) (E := 9) (xs := [[109, 97, 105, 108]]) (vs := #[(0, str ([109, 97, 105, 108]))]) (cs := #[str ([109, 97, 105, 108])]) (css := [[str ([109, 97, 105, 108])]]) rfl (fun _ => by kernel_rfl) rfl ⟨rfl, trivial⟩ rfl (by decide) hb.bd (by decide) ?_
     intro v120 w122 h121 hbw124
     have htr123 := Tr.of_below hbw124 hb.bd
     replace h86 := h86.mv htr123.rd
     replace h59 := h59.mv htr123.rd
     replace hB94 := hB94.mv (htr123.mv (i := 100) rfl)
     replace h93 := h93.mv (htr123.mv (i := 101) rfl)
     replace hb := hb.trans htr123
     replace hj115 := (hj115.trans htr123).weak (J' := (fun _ => false)) (by intro t h; simp [rng] at h ⊢ <;> omega) rfl rfl
     obtain ⟨y125, hy126, hS⟩ := bind_some' hS
     refine sr_callg (b := true) (e := 45) rfl rfl hg112 (vs := [v58, v120]) rfl Try.call16 rfl (ref03_Same_ok _ (hg.fr hz hb) h59.asSl h121.asSl hy126) (by decide) ?_
     rintro _ w127 ⟨rfl, hbw128⟩
     have htr129 := Tr.of_below hbw128 hb.bd
     replace h86 := h86.mv htr129.rd
     replace hB94 := hB94.mv (htr129.mv (i := 100) rfl)
     replace h93 := h93.mv (htr129.mv (i := 101) rfl)
     replace hb := hb.trans htr129
     replace hj115 := (hj115.trans htr129).weak (J' := (fun _ => false)) (by intro t h; simp [rng] at h ⊢ <;> omega) rfl rfl
     refine sr_ev (v := .bool y125) (ev_pick_t rfl hg112 rfl) (by decide) ?_
     exact sr_weaken (l' := [(1, .pointer (some ⟨g6, 0, none⟩)), (6, .bool y65), (7, .bool y75), (8, v85), (9, .int .i64 y87.1), (10, .pointer none), (49, .bool y125)]) (.cons rfl (.cons rfl (.cons rfl (.cons rfl (.cons rfl (.cons rfl (.cons rfl (.nil _)))))))) (K113 y125 _ ⟨(Option.some.inj hS).symm, _, hj115⟩)
    ·have hS := ite_false' hz116 hg112
     refine sr_pass (e := 45) rfl rfl (by rw [hg112]; rfl) (by decide) ?_
     refine sr_pass (e := 45) rfl rfl (by rw [hg112]; rfl) (by decide) ?_
     refine sr_pass (e := 45) rfl rfl (by rw [hg112]; rfl) (by decide) ?_
     refine sr_ev (v := .bool false) (ev_pick_f rfl hg112 rfl) (by decide) ?_
     exact sr_weaken (l' := [(1, .pointer (some ⟨g6, 0, none⟩)), (6, .bool y65), (7, .bool y75), (8, v85), (9, .int .i64 y87.1), (10, .pointer none), (49, .bool false)]) (.cons rfl (.cons rfl (.cons rfl (.cons rfl (.cons rfl (.cons rfl (.cons rfl (.nil _)))))))) (K113 false _ ⟨(Option.some.inj hS).symm, _, hj115⟩)
  ·intro K105
   rcases Bool.eq_false_or_eq_true ((y16.1 == 0) && (y30.1 == 0)) with hg104 | hg104
   all_goals try have hj107 : Tr ρ95 w89 (fun _ => false) ρ95 w89 := Tr.refl hb.bd
   ·refine sr_evg (b := true) (e := 41) rfl rfl hg104 (v := .int .i64 y44.1) (ev_move rfl) (by decide) ?_
    refine sr_evg (b := true) (e := 41) rfl rfl hg104 (v := .bool (y44.1 == 13)) (ev_eq rfl rfl) (by decide) ?_
    refine sr_ev (v := .bool (y44.1 == 13)) (ev_pick_t rfl hg104 rfl) (by decide) ?_
    exact sr_weaken (l' := [(1, .pointer (some ⟨g6, 0, none⟩)), (5, v58), (6, .bool y65), (7, .bool y75), (8, v85), (9, .int .i64 y87.1), (10, .pointer none), (44, .bool (y44.1 == 13))]) (.cons rfl (.cons rfl (.cons rfl (.cons rfl (.cons rfl (.cons rfl (.cons rfl (.cons rfl (.nil _))))))))) (K105 (y44.1 == 13) _ ⟨by rw [hg104]; rfl, rfl⟩)
   ·refine sr_pass (e := 41) rfl rfl (by rw [hg104]; rfl) (by decide) ?_
    refine sr_pass (e := 41) rfl rfl (by rw [hg104]; rfl) (by decide) ?_
    refine sr_ev (v := .bool false) (ev_pick_f rfl hg104 rfl) (by decide) ?_
    exact sr_weaken (l' := [(1, .pointer (some ⟨g6, 0, none⟩)), (5, v58), (6, .bool y65), (7, .bool y75), (8, v85), (9, .int .i64 y87.1), (10, .pointer none), (44, .bool false)]) (.cons rfl (.cons rfl (.cons rfl (.cons rfl (.cons rfl (.cons rfl (.cons rfl (.cons rfl (.nil _))))))))) (K105 false _ ⟨by rw [hg104]; rfl, rfl⟩)
 ·intro K97
  rcases Bool.eq_false_or_eq_true (y16.1 == 0) with hg96 | hg96
  all_goals try have hj99 : Tr ρ95 w89 (fun _ => false) ρ95 w89 := Tr.refl hb.bd
  ·refine sr_evg (b := true) (e := 37) rfl rfl hg96 (v := .int .i64 y30.1) (ev_move rfl) (by decide) ?_
   refine sr_evg (b := true) (e := 37) rfl rfl hg96 (v := .bool (y30.1 == 0)) (ev_eq rfl rfl) (by decide) ?_
   refine sr_ev (v := .bool (y30.1 == 0)) (ev_pick_t rfl hg96 rfl) (by decide) ?_
   exact sr_weaken (l' := [(1, .pointer (some ⟨g6, 0, none⟩)), (4, .int .i64 y44.1), (5, v58), (6, .bool y65), (7, .bool y75), (8, v85), (9, .int .i64 y87.1), (10, .pointer none), (40, .bool (y30.1 == 0))]) (.cons rfl (.cons rfl (.cons rfl (.cons rfl (.cons rfl (.cons rfl (.cons rfl (.cons rfl (.cons rfl (.nil _)))))))))) (K97 (y30.1 == 0) _ ⟨by rw [hg96]; rfl, rfl⟩)
  ·refine sr_pass (e := 37) rfl rfl (by rw [hg96]; rfl) (by decide) ?_
   refine sr_pass (e := 37) rfl rfl (by rw [hg96]; rfl) (by decide) ?_
   refine sr_ev (v := .bool false) (ev_pick_f rfl hg96 rfl) (by decide) ?_
   exact sr_weaken (l' := [(1, .pointer (some ⟨g6, 0, none⟩)), (4, .int .i64 y44.1), (5, v58), (6, .bool y65), (7, .bool y75), (8, v85), (9, .int .i64 y87.1), (10, .pointer none), (40, .bool false)]) (.cons rfl (.cons rfl (.cons rfl (.cons rfl (.cons rfl (.cons rfl (.cons rfl (.cons rfl (.cons rfl (.nil _)))))))))) (K97 false _ ⟨by rw [hg96]; rfl, rfl⟩)
theorem law32_yes_ok (w0 : World) (hg : Gs w0) {b_0 : Bool} {r : Int} (hS : law32_yes b_0 = some r) :
  Calls Try.prog 28 #[.bool b_0] w0 (Ret (fun v w' => v = .int .i64 r ∧ Below w0.heap.size w0 w')) := by
 unfold law32_yes at hS
 have hb := Below.refl w0.heap.size w0
 refine calls_of_ke Try.func28 rfl (n := 4) rfl rfl (l := [(0, .bool b_0)]) rfl ?_
 refine ke_seq ?_
 refine ke_region ?_
 refine sr_ev (v := .int .i64 0) (ev_assign rfl) (by decide) ?_
 refine sr_end (l' := [(0, .bool b_0)]) (.cons rfl (.nil _)) ?_
 refine ke_seq ?_
 refine ke_seq ?_
 refine ke_region ?_
 refine sr_ev (v := .bool b_0) (ev_move rfl) (by decide) ?_
 refine sr_end (l' := [(3, .bool b_0)]) (.cons rfl (.nil _)) ?_
 refine ke_cond (t := b_0) rfl (fun hc1 => ?_) (fun hc1 => ?_)
 ·replace hS := ite_true' hS hc1
  refine ke_seq ?_
  refine ke_region ?_
  refine sr_ev (v := .int .i64 1) (ev_assign rfl) (by decide) ?_
  refine sr_end (l' := [(2, .int .i64 1)]) (.cons rfl (.nil _)) ?_
  cases hS
  exact ke_ret1 Try.func28 rfl rfl ⟨_, rfl, rfl, hb⟩
 ·replace hS := ite_false' hS hc1
  refine ke_skip ?_
  refine ke_seq ?_
  refine ke_region ?_
  refine sr_ev (v := .int .i64 0) (ev_assign rfl) (by decide) ?_
  refine sr_end (l' := [(2, .int .i64 0)]) (.cons rfl (.nil _)) ?_
  cases hS
  exact ke_ret1 Try.func28 rfl rfl ⟨_, rfl, rfl, hb⟩
theorem law32_do_ok (w0 : World) (hg : Gs w0) {ρA : Tags} (hbd : ∀ b, ρA b ≠ 0 → b < w0.heap.size) (hz : Gz ρA) {o : Nat} (ho2 : 2 ≤ o) {c_0 : consent_Consents} {x_1 : law32_Op} {v4 : Value} {gc_0 : Nat} {r : Int × consent_Consents} (h5 : SlR strC (Wb ρA) w0 v4 x_1.Scopes) (ho0 : consent_Consents.O (fun p => o + p) ρA w0 gc_0 c_0) (hS : law32_do c_0 x_1 = some r) :
  Calls Try.prog 12 #[.pointer (some ⟨gc_0, 0, none⟩), .agg #[.int .i64 x_1.Call, .int .i64 x_1.Until, .int .i64 x_1.Now, str x_1.User, str x_1.Client, v4]] w0 (Ret (fun v w' => ∃ ρ', v = .int .i64 r.1 ∧ consent_Consents.O (fun p => o + p) ρ' w' gc_0 r.2 ∧ Tr ρA w0 (rng o 2) ρ' w')) := by
 unfold law32_do at hS
 have hb := enter_fr (ρ := ρA) (w := w0) (n := 2) ho2 hbd
 have hz := hz.enter (n := 2) ho2
 replace h5 := SlR.mv h5 (enter_rd (n := 2) ho2)
 obtain ⟨v1, hB3, h2⟩ := ho0
 replace hB3 := hB3.mv (enter_mv (p := 0) (n := 2) (by decide) ho2)
 replace h2 := h2.mv (enter_mv (p := 1) (n := 2) (by decide) ho2)
 replace hB3 : Blk (enter ρA o 2) 100 w0 gc_0 (.cells #[v1] 52 (0, 0)) := hB3
 replace h2 : MapT consent_pair.ek (mapC str (intC .i64) false) false (enter ρA o 2) 101 w0 v1 c_0.pairs := h2
 refine calls_of_ke Try.func12 rfl (n := 47) rfl rfl (l := [(0, .pointer (some ⟨gc_0, 0, none⟩)), (1, .agg #[.int .i64 x_1.Call, .int .i64 x_1.Until, .int .i64 x_1.Now, str x_1.User, str x_1.Client, v4])]) rfl ?_
 refine ke_seq ?_
 refine ke_region ?_
 refine sr_boxT 5 (by decide) hb.bd rfl (by decide) ?_
 intro g6 ρ7 w8 hB10 htr9
 replace h5 := h5.mv htr9.rd
 replace hB3 := hB3.mv (htr9.mv (i := 100) rfl)
 replace h2 := h2.mv (htr9.mv (i := 101) rfl)
 replace hb := hb.trans htr9
 replace hB10 : Blk ρ7 5 w8 g6 (.cells #[.int .i64 x_1.Call, .int .i64 x_1.Until, .int .i64 x_1.Now, str x_1.User, str x_1.Client, v4] 32 (0, 0)) := hB10
 refine sr_ev (v := .int .i64 0) (ev_assign rfl) (by decide) ?_
 refine sr_end (l' := [(0, .pointer (some ⟨gc_0, 0, none⟩)), (3, .pointer (some ⟨g6, 0, none⟩))]) (.cons rfl (.cons rfl (.nil _))) ?_
 refine ke_seq ?_
 refine ke_seq ?_
 refine ke_region ?_
 refine sr_ev (v := .pointer (some ⟨g6, 0, none⟩)) (ev_fieldAddr (i := 0) Try.underlying32 rfl Try.info3 rfl rfl) (by decide) ?_
 refine sr_ev (v := .int .i64 x_1.Call) (ev_load Try.isAgg3 rfl (hB10.cell rfl)) (by decide) ?_
 refine sr_end (l' := [(0, .pointer (some ⟨gc_0, 0, none⟩)), (3, .pointer (some ⟨g6, 0, none⟩)), (6, .int .i64 x_1.Call)]) (.cons rfl (.cons rfl (.cons rfl (.nil _)))) ?_
 refine ke_block ?_
 refine ke_seq ?_
 refine ke_region ?_
 refine sr_ev (v := .bool (x_1.Call == 0)) (ev_eq rfl rfl) (by decide) ?_
 refine sr_ev (v := .bool (x_1.Call == 0)) (ev_assign rfl) (by decide) ?_
 refine sr_end (l' := [(0, .pointer (some ⟨gc_0, 0, none⟩)), (3, .pointer (some ⟨g6, 0, none⟩)), (6, .int .i64 x_1.Call), (7, .bool (x_1.Call == 0))]) (.cons rfl (.cons rfl (.cons rfl (.cons rfl (.nil _))))) ?_
 refine ke_cond (t := x_1.Call == 0) rfl (fun hc11 => ?_) (fun hc11 => ?_)
 ·replace hS := ite_true' hS hc11
  refine ke_seq ?_
  refine ke_region ?_
  refine sr_ev (v := .pointer (some ⟨gc_0, 0, none⟩)) (ev_move rfl) (by decide) ?_
  refine sr_ev (v := .pointer (some ⟨g6, 3, none⟩)) (ev_fieldAddr (i := 3) Try.underlying32 rfl Try.info9 rfl rfl) (by decide) ?_
  refine sr_ev (v := str x_1.User) (ev_load Try.isAgg9 rfl (hB10.cell rfl)) (by decide) ?_
  refine sr_ev (v := .pointer (some ⟨g6, 4, none⟩)) (ev_fieldAddr (i := 4) Try.underlying32 rfl Try.info9 rfl rfl) (by decide) ?_
  refine sr_ev (v := str x_1.Client) (ev_load Try.isAgg9 rfl (hB10.cell rfl)) (by decide) ?_
  refine sr_ev (v := .pointer (some ⟨g6, 5, none⟩)) (ev_fieldAddr (i := 5) Try.underlying32 rfl Try.info30 rfl rfl) (by decide) ?_
  refine sr_ev (v := v4) (ev_load Try.isAgg30 rfl (hB10.cell rfl)) (by decide) ?_
  refine sr_ev (v := .pointer (some ⟨g6, 1, none⟩)) (ev_fieldAddr (i := 1) Try.underlying32 rfl Try.info3 rfl rfl) (by decide) ?_
  refine sr_ev (v := .int .i64 x_1.Until) (ev_load Try.isAgg3 rfl (hB10.cell rfl)) (by decide) ?_
  refine sr_ev (v := .pointer (some ⟨g6, 2, none⟩)) (ev_fieldAddr (i := 2) Try.underlying32 rfl Try.info3 rfl rfl) (by decide) ?_
  refine sr_ev (v := .int .i64 x_1.Now) (ev_load Try.isAgg3 rfl (hB10.cell rfl)) (by decide) ?_
  obtain ⟨y12, hy13, hS⟩ := bind_some' hS
  refine sr_call (vs := [.pointer (some ⟨gc_0, 0, none⟩), str x_1.User, str x_1.Client, v4, .int .i64 x_1.Until, .int .i64 x_1.Now]) rfl Try.call21 rfl (consent_Consents_Grant_ok _ (hg.fr hz hb) (ρA := ρ7) hb.bd (hz.fr hg hb) (o := 100) (by decide) h5 (⟨_, hB3, h2⟩ : consent_Consents.O (fun p => 100 + p) ρ7 w8 gc_0 c_0) hy13) (by decide) ?_
  rintro _ w14 ⟨ρ20, rfl, ⟨v17, hB19, h18⟩, htr16⟩
  replace hb := hb.trans htr16
  replace hB19 : Blk ρ20 100 w14 gc_0 (.cells #[v17] 52 (0, 0)) := hB19
  replace h18 : MapT consent_pair.ek (mapC str (intC .i64) false) false ρ20 101 w14 v17 y12.2.pairs := h18
  refine sr_ev (v := .int .i64 y12.1) (ev_assign rfl) (by decide) ?_
  refine sr_end (l' := [(4, .int .i64 y12.1)]) (.cons rfl (.nil _)) ?_
  cases hS
  exact ke_ret1 Try.func12 rfl rfl ⟨_, rfl, leave ρA w0 o 2 ρ20, rfl, ⟨_, (hB19.mv (leave_mv (p := 0) (by decide) hb)), (h18.mv (leave_mv (p := 1) (by decide) hb))⟩, (leave_tr ho2 hb)⟩
 ·replace hS := ite_false' hS hc11
  refine ke_seq ?_
  refine ke_region ?_
  refine sr_ev (v := .bool (x_1.Call == 1)) (ev_eq rfl rfl) (by decide) ?_
  refine sr_ev (v := .bool (x_1.Call == 1)) (ev_assign rfl) (by decide) ?_
  refine sr_end (l' := [(0, .pointer (some ⟨gc_0, 0, none⟩)), (3, .pointer (some ⟨g6, 0, none⟩)), (6, .int .i64 x_1.Call), (21, .bool (x_1.Call == 1))]) (.cons rfl (.cons rfl (.cons rfl (.cons rfl (.nil _))))) ?_
  refine ke_cond (t := x_1.Call == 1) rfl (fun hc21 => ?_) (fun hc21 => ?_)
  ·replace hS := ite_true' hS hc21
   refine ke_seq ?_
   refine ke_region ?_
   refine sr_ev (v := .pointer (some ⟨gc_0, 0, none⟩)) (ev_move rfl) (by decide) ?_
   refine sr_ev (v := .pointer (some ⟨g6, 3, none⟩)) (ev_fieldAddr (i := 3) Try.underlying32 rfl Try.info9 rfl rfl) (by decide) ?_
   refine sr_ev (v := str x_1.User) (ev_load Try.isAgg9 rfl (hB10.cell rfl)) (by decide) ?_
   refine sr_ev (v := .pointer (some ⟨g6, 4, none⟩)) (ev_fieldAddr (i := 4) Try.underlying32 rfl Try.info9 rfl rfl) (by decide) ?_
   refine sr_ev (v := str x_1.Client) (ev_load Try.isAgg9 rfl (hB10.cell rfl)) (by decide) ?_
   obtain ⟨y22, hy23, hS⟩ := bind_some' hS
   refine sr_call (vs := [.pointer (some ⟨gc_0, 0, none⟩), str x_1.User, str x_1.Client]) rfl Try.call26 rfl (consent_Consents_Revoke_ok _ (hg.fr hz hb) (ρA := ρ7) hb.bd (hz.fr hg hb) (o := 100) (by decide) (⟨_, hB3, h2⟩ : consent_Consents.O (fun p => 100 + p) ρ7 w8 gc_0 c_0) hy23) (by decide) ?_
   rintro _ w24 ⟨ρ30, rfl, ⟨v27, hB29, h28⟩, htr26⟩
   replace hb := hb.trans htr26
   replace hB29 : Blk ρ30 100 w24 gc_0 (.cells #[v27] 52 (0, 0)) := hB29
   replace h28 : MapT consent_pair.ek (mapC str (intC .i64) false) false ρ30 101 w24 v27 y22.2.pairs := h28
   obtain ⟨y31, hy32, hS⟩ := bind_some' hS
   refine sr_call (vs := [.bool y22.1]) rfl Try.call28 rfl (law32_yes_ok _ (hg.fr hz hb) hy32) (by decide) ?_
   rintro _ w33 ⟨rfl, hbw34⟩
   have htr35 := Tr.of_below hbw34 hb.bd
   replace hB29 := hB29.mv (htr35.mv (i := 100) rfl)
   replace h28 := h28.mv (htr35.mv (i := 101) rfl)
   replace hb := hb.trans htr35
   refine sr_ev (v := .int .i64 y31) (ev_assign rfl) (by decide) ?_
   refine sr_end (l' := [(4, .int .i64 y31)]) (.cons rfl (.nil _)) ?_
   cases hS
   exact ke_ret1 Try.func12 rfl rfl ⟨_, rfl, leave ρA w0 o 2 ρ30, rfl, ⟨_, (hB29.mv (leave_mv (p := 0) (by decide) hb)), (h28.mv (leave_mv (p := 1) (by decide) hb))⟩, (leave_tr ho2 hb)⟩
  ·replace hS := ite_false' hS hc21
   refine ke_seq ?_
   refine ke_region ?_
   refine sr_ev (v := .bool (x_1.Call == 2)) (ev_eq rfl rfl) (by decide) ?_
   refine sr_ev (v := .bool (x_1.Call == 2)) (ev_assign rfl) (by decide) ?_
   refine sr_end (l' := [(0, .pointer (some ⟨gc_0, 0, none⟩)), (3, .pointer (some ⟨g6, 0, none⟩)), (30, .bool (x_1.Call == 2))]) (.cons rfl (.cons rfl (.cons rfl (.nil _)))) ?_
   refine ke_cond (t := x_1.Call == 2) rfl (fun hc36 => ?_) (fun hc36 => ?_)
   ·replace hS := ite_true' hS hc36
    refine ke_seq ?_
    refine ke_region ?_
    refine sr_ev (v := .pointer (some ⟨gc_0, 0, none⟩)) (ev_move rfl) (by decide) ?_
    refine sr_ev (v := .pointer (some ⟨g6, 3, none⟩)) (ev_fieldAddr (i := 3) Try.underlying32 rfl Try.info9 rfl rfl) (by decide) ?_
    refine sr_ev (v := str x_1.User) (ev_load Try.isAgg9 rfl (hB10.cell rfl)) (by decide) ?_
    obtain ⟨y37, hy38, hS⟩ := bind_some' hS
    refine sr_call (vs := [.pointer (some ⟨gc_0, 0, none⟩), str x_1.User]) rfl Try.call27 rfl (consent_Consents_Drop_ok _ (hg.fr hz hb) (ρA := ρ7) hb.bd (hz.fr hg hb) (o := 100) (by decide) (⟨_, hB3, h2⟩ : consent_Consents.O (fun p => 100 + p) ρ7 w8 gc_0 c_0) hy38) (by decide) ?_
    rintro _ w39 ⟨ρ45, rfl, ⟨v42, hB44, h43⟩, htr41⟩
    replace hb := hb.trans htr41
    replace hB44 : Blk ρ45 100 w39 gc_0 (.cells #[v42] 52 (0, 0)) := hB44
    replace h43 : MapT consent_pair.ek (mapC str (intC .i64) false) false ρ45 101 w39 v42 y37.2.pairs := h43
    refine sr_ev (v := .int .i64 y37.1) (ev_assign rfl) (by decide) ?_
    refine sr_end (l' := [(4, .int .i64 y37.1)]) (.cons rfl (.nil _)) ?_
    cases hS
    exact ke_ret1 Try.func12 rfl rfl ⟨_, rfl, leave ρA w0 o 2 ρ45, rfl, ⟨_, (hB44.mv (leave_mv (p := 0) (by decide) hb)), (h43.mv (leave_mv (p := 1) (by decide) hb))⟩, (leave_tr ho2 hb)⟩
   ·replace hS := ite_false' hS hc36
    refine ke_skip ?_
    refine ke_inBlock ?_
    refine ke_seq ?_
    refine ke_region ?_
    refine sr_ev (v := .pointer (some ⟨gc_0, 0, none⟩)) (ev_move rfl) (by decide) ?_
    refine sr_ev (v := .pointer (some ⟨g6, 3, none⟩)) (ev_fieldAddr (i := 3) Try.underlying32 rfl Try.info9 rfl rfl) (by decide) ?_
    refine sr_ev (v := str x_1.User) (ev_load Try.isAgg9 rfl (hB10.cell rfl)) (by decide) ?_
    refine sr_ev (v := .pointer (some ⟨g6, 4, none⟩)) (ev_fieldAddr (i := 4) Try.underlying32 rfl Try.info9 rfl rfl) (by decide) ?_
    refine sr_ev (v := str x_1.Client) (ev_load Try.isAgg9 rfl (hB10.cell rfl)) (by decide) ?_
    refine sr_ev (v := .pointer (some ⟨g6, 5, none⟩)) (ev_fieldAddr (i := 5) Try.underlying32 rfl Try.info30 rfl rfl) (by decide) ?_
    refine sr_ev (v := v4) (ev_load Try.isAgg30 rfl (hB10.cell rfl)) (by decide) ?_
    refine sr_ev (v := .pointer (some ⟨g6, 2, none⟩)) (ev_fieldAddr (i := 2) Try.underlying32 rfl Try.info3 rfl rfl) (by decide) ?_
    refine sr_ev (v := .int .i64 x_1.Now) (ev_load Try.isAgg3 rfl (hB10.cell rfl)) (by decide) ?_
    obtain ⟨y46, hy47, hS⟩ := bind_some' hS
    refine sr_call (vs := [.pointer (some ⟨gc_0, 0, none⟩), str x_1.User, str x_1.Client, v4, .int .i64 x_1.Now]) rfl Try.call25 rfl (consent_Consents_Covers_ok _ (hg.fr hz hb) (ρA := ρ7) hb.bd (hz.fr hg hb) (τ0 := (fun p => 100 + p)) (fun p => Nat.le_add_right_of_le (by decide)) h5 (⟨_, hB3, h2⟩ : consent_Consents.O (fun p => 100 + p) ρ7 w8 gc_0 c_0) hy47) (by decide) ?_
    rintro _ w48 ⟨rfl, hbw49⟩
    have htr50 := Tr.of_below hbw49 hb.bd
    replace hB3 := hB3.mv (htr50.mv (i := 100) rfl)
    replace h2 := h2.mv (htr50.mv (i := 101) rfl)
    replace hb := hb.trans htr50
    obtain ⟨y51, hy52, hS⟩ := bind_some' hS
    refine sr_call (vs := [.bool y46]) rfl Try.call28 rfl (law32_yes_ok _ (hg.fr hz hb) hy52) (by decide) ?_
    rintro _ w53 ⟨rfl, hbw54⟩
    have htr55 := Tr.of_below hbw54 hb.bd
    replace hB3 := hB3.mv (htr55.mv (i := 100) rfl)
    replace h2 := h2.mv (htr55.mv (i := 101) rfl)
    replace hb := hb.trans htr55
    refine sr_ev (v := .int .i64 y51) (ev_assign rfl) (by decide) ?_
    refine sr_end (l' := [(4, .int .i64 y51)]) (.cons rfl (.nil _)) ?_
    cases hS
    exact ke_ret1 Try.func12 rfl rfl ⟨_, rfl, leave ρA w0 o 2 ρ7, rfl, ⟨_, (hB3.mv (leave_mv (p := 0) (by decide) hb)), (h2.mv (leave_mv (p := 1) (by decide) hb))⟩, (leave_tr ho2 hb)⟩
theorem law32_ConsentApart_B2_ok {w0 : World} (hg : Gs w0) {ρA : Tags} (hbd : ∀ b, ρA b ≠ 0 → b < w0.heap.size) (hz : Gz (flat1 ρA)) (r0 : List law32_Op → Str → Str → Int → consent_Consents → consent_Consents → Int → Option (Bool))
  (hr0 : ∀ {r : Bool} {l_0 : List law32_Op} {user_1 : Str} {client_2 : Str} {at_3 : Int} {oc_9 : consent_Consents} {od_10 : consent_Consents} {i_11 : Int} {vl_0 : Value} {gc_9 : Nat} {gd_10 : Nat}, r0 l_0 user_1 client_2 at_3 oc_9 od_10 i_11 = some r → ∀ {ρ : Tags} {w : World}, (Fr (flat1 ρA) w0 ρ w) → (SlR law32_Op.c (Wb ρ) w vl_0 l_0) → (consent_Consents.O (fun p => 100 + p) ρ w gc_9 oc_9) → (consent_Consents.O (fun p => 200 + p) ρ w gd_10 od_10) → KE Try.prog 7 (Ret (fun v w' => v = .bool r ∧ Below w0.heap.size w0 w')) 90 [.inLoop (sub (bodyOf Try.f7) [2, 2, 2, 2, 1, 2, 2, 1]), .inBlock 0, .code (sub (bodyOf Try.f7) [2, 2, 2, 2, 2])] [(0, vl_0), (1, str user_1), (2, str client_2), (3, .int .i64 at_3), (9, .pointer (some ⟨gc_9, 0, none⟩)), (10, .pointer (some ⟨gd_10, 0, none⟩)), (11, .int .i64 i_11)] w) {r : Bool} {l_0 : List law32_Op} {user_1 : Str} {client_2 : Str} {at_3 : Int} {oc_9 : consent_Consents} {od_10 : consent_Consents} {i_11 : Int} {vl_0 : Value} {gc_9 : Nat} {gd_10 : Nat} (hS : law32_ConsentApart_B2 r0 l_0 user_1 client_2 at_3 oc_9 od_10 i_11 = some r) {ρ : Tags} {w : World} (hb : Fr (flat1 ρA) w0 ρ w) (hl_0 : SlR law32_Op.c (Wb ρ) w vl_0 l_0) (hoc_9 : consent_Consents.O (fun p => 100 + p) ρ w gc_9 oc_9) (hod_10 : consent_Consents.O (fun p => 200 + p) ρ w gd_10 od_10) :
  KE Try.prog 7 (Ret (fun v w' => v = .bool r ∧ Below w0.heap.size w0 w')) 90 [.inBlock 1, .code (sub (bodyOf Try.f7) [2, 2, 2, 2, 1, 2, 2, 1, 2, 2]), .inLoop (sub (bodyOf Try.f7) [2, 2, 2, 2, 1, 2, 2, 1]), .inBlock 0, .code (sub (bodyOf Try.f7) [2, 2, 2, 2, 2])] [(0, vl_0), (1, str user_1), (2, str client_2), (3, .int .i64 at_3), (9, .pointer (some ⟨gc_9, 0, none⟩)), (10, .pointer (some ⟨gd_10, 0, none⟩)), (11, .int .i64 i_11)] w := by
 unfold law32_ConsentApart_B2 at hS
 obtain ⟨v137, hB139, h138⟩ := hoc_9
 replace hB139 : Blk ρ 100 w gc_9 (.cells #[v137] 52 (0, 0)) := hB139
 replace h138 : MapT consent_pair.ek (mapC str (intC .i64) false) false ρ 101 w v137 oc_9.pairs := h138
 obtain ⟨v140, hB142, h141⟩ := hod_10
 replace hB142 : Blk ρ 200 w gd_10 (.cells #[v140] 52 (0, 0)) := hB142
 replace h141 : MapT consent_pair.ek (mapC str (intC .i64) false) false ρ 201 w v140 od_10.pairs := h141
 refine ke_inBlock ?_
 refine ke_region ?_
 refine sr_ev (v := .int .i64 i_11) (ev_move rfl) (by decide) ?_
 refine sr_ev (v := .int .i64 (IntKind.i64.wrap (i_11 + 1))) (ev_add rfl rfl) (by decide) ?_
 refine sr_ev (v := .int .i64 (IntKind.i64.wrap (i_11 + 1))) (ev_assign rfl) (by decide) ?_
 refine sr_end (l' := [(0, vl_0), (1, str user_1), (2, str client_2), (3, .int .i64 at_3), (9, .pointer (some ⟨gc_9, 0, none⟩)), (10, .pointer (some ⟨gd_10, 0, none⟩)), (11, .int .i64 (IntKind.i64.wrap (i_11 + 1)))]) (.cons rfl (.cons rfl (.cons rfl (.cons rfl (.cons rfl (.cons rfl (.cons rfl (.nil _)))))))) ?_
 have hK := hr0 hS hb hl_0 ⟨_, hB139, h138⟩ ⟨_, hB142, h141⟩
 exact ke_weaken (l' := [(0, vl_0), (1, str user_1), (2, str client_2), (3, .int .i64 at_3), (9, .pointer (some ⟨gc_9, 0, none⟩)), (10, .pointer (some ⟨gd_10, 0, none⟩)), (11, .int .i64 (IntKind.i64.wrap (i_11 + 1)))]) (.cons rfl (.cons rfl (.cons rfl (.cons rfl (.cons rfl (.cons rfl (.cons rfl (.nil _)))))))) hK
theorem law32_ConsentApart_L1_ok {w0 : World} (hg : Gs w0) {ρA : Tags} (hbd : ∀ b, ρA b ≠ 0 → b < w0.heap.size) (hz : Gz (flat1 ρA)) : ∀ (n : Nat), ∀ {r : Bool} {l_0 : List law32_Op} {user_1 : Str} {client_2 : Str} {at_3 : Int} {oc_9 : consent_Consents} {od_10 : consent_Consents} {i_11 : Int} {vl_0 : Value} {gc_9 : Nat} {gd_10 : Nat}, law32_ConsentApart_L1 n l_0 user_1 client_2 at_3 oc_9 od_10 i_11 = some r → ∀ {ρ : Tags} {w : World}, (Fr (flat1 ρA) w0 ρ w) → (SlR law32_Op.c (Wb ρ) w vl_0 l_0) → (consent_Consents.O (fun p => 100 + p) ρ w gc_9 oc_9) → (consent_Consents.O (fun p => 200 + p) ρ w gd_10 od_10) → KE Try.prog 7 (Ret (fun v w' => v = .bool r ∧ Below w0.heap.size w0 w')) 90 [.code (sub (bodyOf Try.f7) [2, 2, 2, 2, 1, 2, 2, 1]), .inLoop (sub (bodyOf Try.f7) [2, 2, 2, 2, 1, 2, 2, 1]), .inBlock 0, .code (sub (bodyOf Try.f7) [2, 2, 2, 2, 2])] [(0, vl_0), (1, str user_1), (2, str client_2), (3, .int .i64 at_3), (9, .pointer (some ⟨gc_9, 0, none⟩)), (10, .pointer (some ⟨gd_10, 0, none⟩)), (11, .int .i64 i_11)] w := by
 intro n
 induction n with
 | zero => intro r l_0 user_1 client_2 at_3 oc_9 od_10 i_11 vl_0 gc_9 gd_10 hS; cases hS
 | succ n ih =>
  have hr0 : ∀ {r : Bool} {l_0 : List law32_Op} {user_1 : Str} {client_2 : Str} {at_3 : Int} {oc_9 : consent_Consents} {od_10 : consent_Consents} {i_11 : Int} {vl_0 : Value} {gc_9 : Nat} {gd_10 : Nat}, law32_ConsentApart_L1 n l_0 user_1 client_2 at_3 oc_9 od_10 i_11 = some r → ∀ {ρ : Tags} {w : World}, (Fr (flat1 ρA) w0 ρ w) → (SlR law32_Op.c (Wb ρ) w vl_0 l_0) → (consent_Consents.O (fun p => 100 + p) ρ w gc_9 oc_9) → (consent_Consents.O (fun p => 200 + p) ρ w gd_10 od_10) → KE Try.prog 7 (Ret (fun v w' => v = .bool r ∧ Below w0.heap.size w0 w')) 90 [.inLoop (sub (bodyOf Try.f7) [2, 2, 2, 2, 1, 2, 2, 1]), .inBlock 0, .code (sub (bodyOf Try.f7) [2, 2, 2, 2, 2])] [(0, vl_0), (1, str user_1), (2, str client_2), (3, .int .i64 at_3), (9, .pointer (some ⟨gc_9, 0, none⟩)), (10, .pointer (some ⟨gd_10, 0, none⟩)), (11, .int .i64 i_11)] w := fun {r} {l_0} {user_1} {client_2} {at_3} {oc_9} {od_10} {i_11} {vl_0} {gc_9} {gd_10} hS {ρ} {w} hb hl_0 hoc_9 hod_10 => ke_inLoop (ih hS hb hl_0 hoc_9 hod_10)
  clear ih
  intro r l_0 user_1 client_2 at_3 oc_9 od_10 i_11 vl_0 gc_9 gd_10 hS ρ w hb hl_0 hoc_9 hod_10
  unfold law32_ConsentApart_L1 at hS
  obtain ⟨v50, hB52, h51⟩ := hoc_9
  replace hB52 : Blk ρ 100 w gc_9 (.cells #[v50] 52 (0, 0)) := hB52
  replace h51 : MapT consent_pair.ek (mapC str (intC .i64) false) false ρ 101 w v50 oc_9.pairs := h51
  obtain ⟨v53, hB55, h54⟩ := hod_10
  replace hB55 : Blk ρ 200 w gd_10 (.cells #[v53] 52 (0, 0)) := hB55
  replace h54 : MapT consent_pair.ek (mapC str (intC .i64) false) false ρ 201 w v53 od_10.pairs := h54
  refine ke_seq ?_
  refine ke_seq ?_
  refine ke_region ?_
  refine sr_ev (v := .int .i64 i_11) (ev_move rfl) (by decide) ?_
  refine sr_ev (v := vl_0) (ev_move rfl) (by decide) ?_
  refine sr_ev (v := .int .i64 (l_0.length : Int)) (ev_sllen Try.underlying22 rfl hl_0.asSl) (by decide) ?_
  refine sr_ev (v := .bool (decide (i_11 < (l_0.length : Int)))) (ev_lt rfl rfl) (by decide) ?_
  refine sr_end (l' := [(0, vl_0), (1, str user_1), (2, str client_2), (3, .int .i64 at_3), (9, .pointer (some ⟨gc_9, 0, none⟩)), (10, .pointer (some ⟨gd_10, 0, none⟩)), (11, .int .i64 i_11), (37, .bool (decide (i_11 < (l_0.length : Int))))]) (.cons rfl (.cons rfl (.cons rfl (.cons rfl (.cons rfl (.cons rfl (.cons rfl (.cons rfl (.nil _))))))))) ?_
  refine ke_cond (t := decide (i_11 < (l_0.length : Int))) rfl (fun hc56 => ?_) (fun hc56 => ?_)
  ·replace hS := ite_true' hS hc56
   refine ke_skip ?_
   refine ke_seq ?_
   refine ke_block ?_
   refine ke_seq ?_
   refine ke_region ?_
   refine sr_ev (v := .pointer (some ⟨gc_9, 0, none⟩)) (ev_move rfl) (by decide) ?_
   refine sr_ev (v := vl_0) (ev_move rfl) (by decide) ?_
   refine sr_ev (v := .int .i64 i_11) (ev_move rfl) (by decide) ?_
   obtain ⟨y57, hy58, hS⟩ := bind_some' hS
   obtain ⟨b59, o60, cs62, hq63, he61⟩ := ((SlT.of_sl (i := 0) hl_0)).elem (P := Try.prog) Try.underlying22 Try.info32 rfl hy58
   obtain ⟨v64, hcshe61, h65⟩ := he61.rd
   obtain rfl : cs62 = [.int .i64 y57.Call, .int .i64 y57.Until, .int .i64 y57.Now, str y57.User, str y57.Client, v64] := hcshe61
   refine sr_ev (v := .pointer (some ⟨b59, o60, none⟩)) (hq63 w rfl rfl) (by decide) ?_
   refine sr_ev (v := .agg #[.int .i64 y57.Call, .int .i64 y57.Until, .int .i64 y57.Now, str y57.User, str y57.Client, v64]) (ev_loads (cs := [.int .i64 y57.Call, .int .i64 y57.Until, .int .i64 y57.Now, str y57.User, str y57.Client, v64]) Try.isAgg32 Try.sizeOf32 rfl he61.cell) (by decide) ?_
   obtain ⟨y66, hy67, hS⟩ := bind_some' hS
   refine sr_call (vs := [.pointer (some ⟨gc_9, 0, none⟩), .agg #[.int .i64 y57.Call, .int .i64 y57.Until, .int .i64 y57.Now, str y57.User, str y57.Client, v64]]) rfl Try.call12 rfl (law32_do_ok _ (hg.fr hz hb) (ρA := ρ) hb.bd (hz.fr hg hb) (o := 100) (by decide) h65 (⟨_, hB52, h51⟩ : consent_Consents.O (fun p => 100 + p) ρ w gc_9 oc_9) hy67) (by decide) ?_
   rintro _ w68 ⟨ρ74, rfl, ⟨v71, hB73, h72⟩, htr70⟩
   replace hl_0 := hl_0.mv htr70.rd
   replace hB55 := hB55.mv (htr70.mv (i := 200) rfl)
   replace h54 := h54.mv (htr70.mv (i := 201) rfl)
   replace hb := hb.trans htr70
   replace hB73 : Blk ρ74 100 w68 gc_9 (.cells #[v71] 52 (0, 0)) := hB73
   replace h72 : MapT consent_pair.ek (mapC str (intC .i64) false) false ρ74 101 w68 v71 y66.2.pairs := h72
   refine sr_end (l' := [(0, vl_0), (1, str user_1), (2, str client_2), (3, .int .i64 at_3), (9, .pointer (some ⟨gc_9, 0, none⟩)), (10, .pointer (some ⟨gd_10, 0, none⟩)), (11, .int .i64 i_11)]) (.cons rfl (.cons rfl (.cons rfl (.cons rfl (.cons rfl (.cons rfl (.cons rfl (.nil _)))))))) ?_
   refine ke_seq ?_
   refine ke_region ?_
   refine sr_ev (v := vl_0) (ev_move rfl) (by decide) ?_
   refine sr_ev (v := .int .i64 i_11) (ev_move rfl) (by decide) ?_
   obtain ⟨y75, hy76, hS⟩ := bind_some' hS
   obtain ⟨b77, o78, cs80, hq81, he79⟩ := ((SlT.of_sl (i := 0) hl_0)).elem (P := Try.prog) Try.underlying22 Try.info32 rfl hy76
   obtain ⟨v82, hcshe79, h83⟩ := he79.rd
   obtain rfl : cs80 = [.int .i64 y75.Call, .int .i64 y75.Until, .int .i64 y75.Now, str y75.User, str y75.Client, v82] := hcshe79
   refine sr_ev (v := .pointer (some ⟨b77, o78, none⟩)) (hq81 w68 rfl rfl) (by decide) ?_
   refine sr_ev (v := .pointer (some ⟨b77, o78 + 3, none⟩)) (ev_fieldAddr (i := 3) Try.underlying32 rfl Try.info9 rfl rfl) (by decide) ?_
   refine sr_ev (v := str y75.User) (ev_load Try.isAgg9 rfl (he79.cell 3 _ rfl)) (by decide) ?_
   refine sr_ev (v := str user_1) (ev_move rfl) (by decide) ?_
   refine sr_ev (v := .bool (y75.User == user_1)) (ev_seq rfl rfl) (by decide) ?_
   refine sr_ev (v := .bool (y75.User == user_1)) (ev_move rfl) (by decide) ?_
   obtain ⟨z86, hz88, hS⟩ := bind_some' hS
   refine sr_join (m := 16) (C := fun (z : Bool) w1 => z86 = z ∧ ∃ ρ1, Tr ρ74 w68 (fun _ => false) ρ1 w1) (l' := fun z => [(0, vl_0), (1, str user_1), (2, str client_2), (3, .int .i64 at_3), (9, .pointer (some ⟨gc_9, 0, none⟩)), (10, .pointer (some ⟨gd_10, 0, none⟩)), (11, .int .i64 i_11), (69, .bool z)]) ?_ ?_
   ·rintro _ w89 ⟨rfl, ρ90, hj87⟩
    replace hl_0 := hl_0.mv hj87.rd
    replace hB73 := hB73.mv (hj87.mv (i := 100) rfl)
    replace h72 := h72.mv (hj87.mv (i := 101) rfl)
    replace hB55 := hB55.mv (hj87.mv (i := 200) rfl)
    replace h54 := h54.mv (hj87.mv (i := 201) rfl)
    replace hb := hb.trans hj87
    refine sr_end (l' := [(0, vl_0), (1, str user_1), (2, str client_2), (3, .int .i64 at_3), (9, .pointer (some ⟨gc_9, 0, none⟩)), (10, .pointer (some ⟨gd_10, 0, none⟩)), (11, .int .i64 i_11), (69, .bool z86)]) (.cons rfl (.cons rfl (.cons rfl (.cons rfl (.cons rfl (.cons rfl (.cons rfl (.cons rfl (.nil _))))))))) ?_
    refine ke_cond (t := z86) rfl (fun hc118 => ?_) (fun hc118 => ?_)
    ·replace hS := ite_true' hS hc118
     refine ke_region ?_
     refine sr_ev (v := .pointer (some ⟨gd_10, 0, none⟩)) (ev_move rfl) (by decide) ?_
     refine sr_ev (v := vl_0) (ev_move rfl) (by decide) ?_
     refine sr_ev (v := .int .i64 i_11) (ev_move rfl) (by decide) ?_
     obtain ⟨y119, hy120, hS⟩ := bind_some' hS
     obtain ⟨b121, o122, cs124, hq125, he123⟩ := ((SlT.of_sl (i := 0) hl_0)).elem (P := Try.prog) Try.underlying22 Try.info32 rfl hy120
     obtain ⟨v126, hcshe123, h127⟩ := he123.rd
     obtain rfl : cs124 = [.int .i64 y119.Call, .int .i64 y119.Until, .int .i64 y119.Now, str y119.User, str y119.Client, v126] := hcshe123
     refine sr_ev (v := .pointer (some ⟨b121, o122, none⟩)) (hq125 w89 rfl rfl) (by decide) ?_
     refine sr_ev (v := .agg #[.int .i64 y119.Call, .int .i64 y119.Until, .int .i64 y119.Now, str y119.User, str y119.Client, v126]) (ev_loads (cs := [.int .i64 y119.Call, .int .i64 y119.Until, .int .i64 y119.Now, str y119.User, str y119.Client, v126]) Try.isAgg32 Try.sizeOf32 rfl he123.cell) (by decide) ?_
     obtain ⟨y128, hy129, hS⟩ := bind_some' hS
     refine sr_call (vs := [.pointer (some ⟨gd_10, 0, none⟩), .agg #[.int .i64 y119.Call, .int .i64 y119.Until, .int .i64 y119.Now, str y119.User, str y119.Client, v126]]) rfl Try.call12 rfl (law32_do_ok _ (hg.fr hz hb) (ρA := ρ90) hb.bd (hz.fr hg hb) (o := 200) (by decide) h127 (⟨_, hB55, h54⟩ : consent_Consents.O (fun p => 200 + p) ρ90 w89 gd_10 od_10) hy129) (by decide) ?_
     rintro _ w130 ⟨ρ136, rfl, ⟨v133, hB135, h134⟩, htr132⟩
     replace hl_0 := hl_0.mv htr132.rd
     replace hB73 := hB73.mv (htr132.mv (i := 100) rfl)
     replace h72 := h72.mv (htr132.mv (i := 101) rfl)
     replace hb := hb.trans htr132
     replace hB135 : Blk ρ136 200 w130 gd_10 (.cells #[v133] 52 (0, 0)) := hB135
     replace h134 : MapT consent_pair.ek (mapC str (intC .i64) false) false ρ136 201 w130 v133 y128.2.pairs := h134
     refine sr_end (l' := [(0, vl_0), (1, str user_1), (2, str client_2), (3, .int .i64 at_3), (9, .pointer (some ⟨gc_9, 0, none⟩)), (10, .pointer (some ⟨gd_10, 0, none⟩)), (11, .int .i64 i_11)]) (.cons rfl (.cons rfl (.cons rfl (.cons rfl (.cons rfl (.cons rfl (.cons rfl (.nil _)))))))) ?_
     have hK := law32_ConsentApart_B2_ok hg hbd hz _ hr0 hS hb hl_0 ⟨_, hB73, h72⟩ ⟨_, hB135, h134⟩
     exact ke_weaken (l' := [(0, vl_0), (1, str user_1), (2, str client_2), (3, .int .i64 at_3), (9, .pointer (some ⟨gc_9, 0, none⟩)), (10, .pointer (some ⟨gd_10, 0, none⟩)), (11, .int .i64 i_11)]) (.cons rfl (.cons rfl (.cons rfl (.cons rfl (.cons rfl (.cons rfl (.cons rfl (.nil _)))))))) hK
    ·replace hS := ite_false' hS hc118
     refine ke_skip ?_
     have hK := law32_ConsentApart_B2_ok hg hbd hz _ hr0 hS hb hl_0 ⟨_, hB73, h72⟩ ⟨_, hB55, h54⟩
     exact ke_weaken (l' := [(0, vl_0), (1, str user_1), (2, str client_2), (3, .int .i64 at_3), (9, .pointer (some ⟨gc_9, 0, none⟩)), (10, .pointer (some ⟨gd_10, 0, none⟩)), (11, .int .i64 i_11)]) (.cons rfl (.cons rfl (.cons rfl (.cons rfl (.cons rfl (.cons rfl (.cons rfl (.nil _)))))))) hK
   ·intro K85
    clear hS
    have hj87 : Tr ρ74 w68 (fun _ => false) ρ74 w68 := (Tr.refl hb.bd).weak (fun _ _ => rfl) rfl rfl
    rcases Bool.eq_false_or_eq_true (y75.User == user_1) with hg84 | hg84
    ·have hS := ite_true' hz88 hg84
     refine sr_evg (b := true) (e := 53) rfl rfl hg84 (v := vl_0) (ev_move rfl) (by decide) ?_
     refine sr_evg (b := true) (e := 53) rfl rfl hg84 (v := .int .i64 i_11) (ev_move rfl) (by decide) ?_
     obtain ⟨y92, hy93, hS⟩ := bind_some' hS
     obtain ⟨b94, o95, cs97, hq98, he96⟩ := ((SlT.of_sl (i := 0) hl_0)).elem (P := Try.prog) Try.underlying22 Try.info32 rfl hy93
     obtain ⟨v99, hcshe96, h100⟩ := he96.rd
     obtain rfl : cs97 = [.int .i64 y92.Call, .int .i64 y92.Until, .int .i64 y92.Now, str y92.User, str y92.Client, v99] := hcshe96
     refine sr_evg (b := true) (e := 53) rfl rfl hg84 (v := .pointer (some ⟨b94, o95, none⟩)) (hq98 w68 rfl rfl) (by decide) ?_
     refine sr_evg (b := true) (e := 53) rfl rfl hg84 (v := .pointer (some ⟨b94, o95 + 4, none⟩)) (ev_fieldAddr (i := 4) Try.underlying32 rfl Try.info9 rfl rfl) (by decide) ?_
     refine sr_evg (b := true) (e := 53) rfl rfl hg84 (v := str y92.Client) (ev_load Try.isAgg9 rfl (he96.cell 4 _ rfl)) (by decide) ?_
     refine sr_evg (b := true) (e := 53) rfl rfl hg84 (v := str client_2) (ev_move rfl) (by decide) ?_
     refine sr_evg (b := true) (e := 53) rfl rfl hg84 (v := .bool (y92.Client == client_2)) (ev_seq rfl rfl) (by decide) ?_
     refine sr_evg (b := true) (e := 53) rfl rfl hg84 (v := .bool (y92.Client == client_2)) (ev_move rfl) (by decide) ?_
     obtain ⟨z103, hz105, hS⟩ := bind_some' hS
     refine sr_join (m := 7) (C := fun (z : Bool) w1 => z103 = z ∧ ∃ ρ1, Tr ρ74 w68 (fun _ => false) ρ1 w1) (l' := fun z => [(0, vl_0), (1, str user_1), (2, str client_2), (3, .int .i64 at_3), (9, .pointer (some ⟨gc_9, 0, none⟩)), (10, .pointer (some ⟨gd_10, 0, none⟩)), (11, .int .i64 i_11), (53, .bool (y75.User == user_1)), (68, .bool z)]) ?_ ?_
     ·rintro _ w106 ⟨rfl, ρ107, hj104⟩
      replace hl_0 := hl_0.mv hj104.rd
      replace hB73 := hB73.mv (hj104.mv (i := 100) rfl)
      replace h72 := h72.mv (hj104.mv (i := 101) rfl)
      replace hB55 := hB55.mv (hj104.mv (i := 200) rfl)
      replace h54 := h54.mv (hj104.mv (i := 201) rfl)
      replace hb := hb.trans hj104
      replace hj87 := (hj87.trans hj104).weak (J' := (fun _ => false)) (by intro t h; simp [rng] at h ⊢ <;> omega) rfl rfl
      refine sr_ev (v := .bool z103) (ev_pick_t rfl hg84 rfl) (by decide) ?_
      exact sr_weaken (l' := [(0, vl_0), (1, str user_1), (2, str client_2), (3, .int .i64 at_3), (9, .pointer (some ⟨gc_9, 0, none⟩)), (10, .pointer (some ⟨gd_10, 0, none⟩)), (11, .int .i64 i_11), (69, .bool z103)]) (.cons rfl (.cons rfl (.cons rfl (.cons rfl (.cons rfl (.cons rfl (.cons rfl (.cons rfl (.nil _))))))))) (K85 z103 _ ⟨(Option.some.inj hS).symm, _, hj87⟩)
     ·intro K102
      clear hS
      have hj104 : Tr ρ74 w68 (fun _ => false) ρ74 w68 := (Tr.refl hb.bd).weak (fun _ _ => rfl) rfl rfl
      rcases Bool.eq_false_or_eq_true (y92.Client == client_2) with hg101 | hg101
      ·have hS := ite_true' hz105 hg101
       refine sr_pass (e := 61) rfl rfl (by rw [hg101]; rfl) (by decide) ?_
       refine sr_pass (e := 61) rfl rfl (by rw [hg101]; rfl) (by decide) ?_
       refine sr_pass (e := 61) rfl rfl (by rw [hg101]; rfl) (by decide) ?_
       refine sr_pass (e := 61) rfl rfl (by rw [hg101]; rfl) (by decide) ?_
       refine sr_pass (e := 61) rfl rfl (by rw [hg101]; rfl) (by decide) ?_
       refine sr_pass (e := 61) rfl rfl (by rw [hg101]; rfl) (by decide) ?_
       refine sr_evg (b := true) (e := 53) rfl rfl hg84 (v := .bool true) (ev_pick_t rfl hg101 rfl) (by decide) ?_
       exact sr_weaken (l' := [(0, vl_0), (1, str user_1), (2, str client_2), (3, .int .i64 at_3), (9, .pointer (some ⟨gc_9, 0, none⟩)), (10, .pointer (some ⟨gd_10, 0, none⟩)), (11, .int .i64 i_11), (53, .bool (y75.User == user_1)), (68, .bool true)]) (.cons rfl (.cons rfl (.cons rfl (.cons rfl (.cons rfl (.cons rfl (.cons rfl (.cons rfl (.cons rfl (.nil _)))))))))) (K102 true _ ⟨(Option.some.inj hS).symm, _, hj104⟩)
      ·have hS := ite_false' hz105 hg101
       refine sr_evg (b := false) (e := 61) rfl rfl hg101 (v := vl_0) (ev_move rfl) (by decide) ?_
       refine sr_evg (b := false) (e := 61) rfl rfl hg101 (v := .int .i64 i_11) (ev_move rfl) (by decide) ?_
       obtain ⟨y109, hy110, hS⟩ := bind_some' hS
       obtain ⟨b111, o112, cs114, hq115, he113⟩ := ((SlT.of_sl (i := 0) hl_0)).elem (P := Try.prog) Try.underlying22 Try.info32 rfl hy110
       obtain ⟨v116, hcshe113, h117⟩ := he113.rd
       obtain rfl : cs114 = [.int .i64 y109.Call, .int .i64 y109.Until, .int .i64 y109.Now, str y109.User, str y109.Client, v116] := hcshe113
       refine sr_evg (b := false) (e := 61) rfl rfl hg101 (v := .pointer (some ⟨b111, o112, none⟩)) (hq115 w68 rfl rfl) (by decide) ?_
       refine sr_evg (b := false) (e := 61) rfl rfl hg101 (v := .pointer (some ⟨b111, o112 + 0, none⟩)) (ev_fieldAddr (i := 0) Try.underlying32 rfl Try.info3 rfl rfl) (by decide) ?_
       refine sr_evg (b := false) (e := 61) rfl rfl hg101 (v := .int .i64 y109.Call) (ev_load Try.isAgg3 rfl (he113.cell 0 _ rfl)) (by decide) ?_
       refine sr_evg (b := false) (e := 61) rfl rfl hg101 (v := .bool (y109.Call == 2)) (ev_eq rfl rfl) (by decide) ?_
       refine sr_evg (b := true) (e := 53) rfl rfl hg84 (v := .bool (y109.Call == 2)) (ev_pick_f rfl hg101 rfl) (by decide) ?_
       exact sr_weaken (l' := [(0, vl_0), (1, str user_1), (2, str client_2), (3, .int .i64 at_3), (9, .pointer (some ⟨gc_9, 0, none⟩)), (10, .pointer (some ⟨gd_10, 0, none⟩)), (11, .int .i64 i_11), (53, .bool (y75.User == user_1)), (68, .bool (y109.Call == 2))]) (.cons rfl (.cons rfl (.cons rfl (.cons rfl (.cons rfl (.cons rfl (.cons rfl (.cons rfl (.cons rfl (.nil _)))))))))) (K102 (y109.Call == 2) _ ⟨(Option.some.inj hS).symm, _, hj104⟩)
    ·have hS := ite_false' hz88 hg84
     refine sr_pass (e := 53) rfl rfl (by rw [hg84]; rfl) (by decide) ?_
     refine sr_pass (e := 53) rfl rfl (by rw [hg84]; rfl) (by decide) ?_
     refine sr_pass (e := 53) rfl rfl (by rw [hg84]; rfl) (by decide) ?_
     refine sr_pass (e := 53) rfl rfl (by rw [hg84]; rfl) (by decide) ?_
     refine sr_pass (e := 53) rfl rfl (by rw [hg84]; rfl) (by decide) ?_
     refine sr_pass (e := 53) rfl rfl (by rw [hg84]; rfl) (by decide) ?_
     refine sr_pass (e := 53) rfl rfl (by rw [hg84]; rfl) (by decide) ?_
     refine sr_pass (e := 53) rfl rfl (by rw [hg84]; rfl) (by decide) ?_
     refine sr_pass_undef (e := 61) rfl rfl (by decide) ?_
     refine sr_pass_undef (e := 61) rfl rfl (by decide) ?_
     refine sr_pass_undef (e := 61) rfl rfl (by decide) ?_
     refine sr_pass_undef (e := 61) rfl rfl (by decide) ?_
     refine sr_pass_undef (e := 61) rfl rfl (by decide) ?_
     refine sr_pass_undef (e := 61) rfl rfl (by decide) ?_
     refine sr_pass (e := 53) rfl rfl (by rw [hg84]; rfl) (by decide) ?_
     refine sr_ev (v := .bool false) (ev_pick_f rfl hg84 rfl) (by decide) ?_
     exact sr_weaken (l' := [(0, vl_0), (1, str user_1), (2, str client_2), (3, .int .i64 at_3), (9, .pointer (some ⟨gc_9, 0, none⟩)), (10, .pointer (some ⟨gd_10, 0, none⟩)), (11, .int .i64 i_11), (69, .bool false)]) (.cons rfl (.cons rfl (.cons rfl (.cons rfl (.cons rfl (.cons rfl (.cons rfl (.cons rfl (.nil _))))))))) (K85 false _ ⟨(Option.some.inj hS).symm, _, hj87⟩)
  ·replace hS := ite_false' hS hc56
   refine ke_exit (k' := _) rfl ?_
   refine ke_seq ?_
   refine ke_region ?_
   refine sr_ev (v := .pointer (some ⟨gc_9, 0, none⟩)) (ev_move rfl) (by decide) ?_
   refine sr_ev (v := str user_1) (ev_move rfl) (by decide) ?_
   refine sr_ev (v := str client_2) (ev_move rfl) (by decide) ?_
   refine sr_ev (v := .int .i64 at_3) (ev_move rfl) (by decide) ?_
   obtain ⟨y143, hy144, hS⟩ := bind_some' hS
   refine sr_call (vs := [.pointer (some ⟨gc_9, 0, none⟩), str user_1, str client_2, .int .i64 at_3]) rfl Try.call17 rfl (consent_Consents_Scopes_ok _ (hg.fr hz hb) (ρA := ρ) hb.bd (hz.fr hg hb) (τ0 := (fun p => 100 + p)) (fun p => Nat.le_add_right_of_le (by decide)) (⟨_, hB52, h51⟩ : consent_Consents.O (fun p => 100 + p) ρ w gc_9 oc_9) hy144) (by decide) ?_
   rintro v148 w145 ⟨_, rfl, h149, hbw146⟩
   have htr147 := Tr.of_below hbw146 hb.bd
   replace hB55 := hB55.mv (htr147.mv (i := 200) rfl)
   replace h54 := h54.mv (htr147.mv (i := 201) rfl)
   replace hb := hb.trans htr147
   refine sr_ev (v := .pointer (some ⟨gd_10, 0, none⟩)) (ev_move rfl) (by decide) ?_
   refine sr_ev (v := str user_1) (ev_move rfl) (by decide) ?_
   refine sr_ev (v := str client_2) (ev_move rfl) (by decide) ?_
   refine sr_ev (v := .int .i64 at_3) (ev_move rfl) (by decide) ?_
   obtain ⟨y150, hy151, hS⟩ := bind_some' hS
   refine sr_call (vs := [.pointer (some ⟨gd_10, 0, none⟩), str user_1, str client_2, .int .i64 at_3]) rfl Try.call17 rfl (consent_Consents_Scopes_ok _ (hg.fr hz hb) (ρA := ρ) hb.bd (hz.fr hg hb) (τ0 := (fun p => 200 + p)) (fun p => Nat.le_add_right_of_le (by decide)) (⟨_, hB55, h54⟩ : consent_Consents.O (fun p => 200 + p) ρ w145 gd_10 od_10) hy151) (by decide) ?_
   rintro v155 w152 ⟨_, rfl, h156, hbw153⟩
   have htr154 := Tr.of_below hbw153 hb.bd
   replace h149 := h149.mv htr154.rd
   replace hb := hb.trans htr154
   obtain ⟨y157, hy158, hS⟩ := bind_some' hS
   refine sr_call (vs := [v148, v155]) rfl Try.call16 rfl (ref03_Same_ok _ (hg.fr hz hb) h149.asSl h156.asSl hy158) (by decide) ?_
   rintro _ w159 ⟨rfl, hbw160⟩
   have htr161 := Tr.of_below hbw160 hb.bd
   replace hb := hb.trans htr161
   refine sr_ev (v := .bool y157) (ev_move rfl) (by decide) ?_
   obtain ⟨z164, hz166, hS⟩ := bind_some' hS
   refine sr_join (m := 2) (C := fun (z : Bool) w1 => z164 = z ∧ ∃ ρ1, Tr ρ w159 (fun _ => false) ρ1 w1) (l' := fun z => [(89, .bool z)]) ?_ ?_
   ·rintro _ w167 ⟨rfl, ρ168, hj165⟩
    replace hb := hb.trans hj165
    refine sr_ev (v := .bool z164) (ev_assign rfl) (by decide) ?_
    refine sr_end (l' := [(8, .bool z164)]) (.cons rfl (.nil _)) ?_
    cases hS
    exact ke_ret1 Try.func7 rfl rfl ⟨_, rfl, rfl, (hb.below (flat1_le _))⟩
   ·intro K163
    clear hS
    have hj165 : Tr ρ w159 (fun _ => false) ρ w159 := (Tr.refl hb.bd).weak (fun _ _ => rfl) rfl rfl
    rcases Bool.eq_false_or_eq_true y157 with hg162 | hg162
    ·have hS := ite_true' hz166 hg162
     obtain ⟨y170, hy171, hS⟩ := bind_some' hS
     refine sr_callg (b := true) (e := 87) rfl rfl hg162 (vs := []) rfl Try.call9 rfl (law32_awake_ok _ (hg.fr hz hb) (ρA := ρ) hb.bd (hz.fr hg hb) hy171) (by decide) ?_
     rintro _ w172 ⟨rfl, hbw173⟩
     have htr174 := Tr.of_below hbw173 hb.bd
     replace hb := hb.trans htr174
     replace hj165 := (hj165.trans htr174).weak (J' := (fun _ => false)) (by intro t h; simp [rng] at h ⊢ <;> omega) rfl rfl
     refine sr_ev (v := .bool y170) (ev_pick_t rfl hg162 rfl) (by decide) ?_
     exact sr_weaken (l' := [(89, .bool y170)]) (.cons rfl (.nil _)) (K163 y170 _ ⟨(Option.some.inj hS).symm, _, hj165⟩)
    ·have hS := ite_false' hz166 hg162
     refine sr_pass (e := 87) rfl rfl (by rw [hg162]; rfl) (by decide) ?_
     refine sr_ev (v := .bool false) (ev_pick_f rfl hg162 rfl) (by decide) ?_
     exact sr_weaken (l' := [(89, .bool false)]) (.cons rfl (.nil _)) (K163 false _ ⟨(Option.some.inj hS).symm, _, hj165⟩)
theorem law32_ConsentApart_ok (w0 : World) (hg : Gs w0) {ρA : Tags} (hbd : ∀ b, ρA b ≠ 0 → b < w0.heap.size) (hz : Gz ρA) {l_0 : List law32_Op} {user_1 : Str} {client_2 : Str} {at_3 : Int} {v1 : Value} {r : Bool} (h2 : SlR law32_Op.c (Wb ρA) w0 v1 l_0) (hS : law32_ConsentApart l_0 user_1 client_2 at_3 = some r) :
  Calls Try.prog 7 #[v1, str user_1, str client_2, .int .i64 at_3] w0 (Ret (fun v w' => v = .bool r ∧ Below w0.heap.size w0 w')) := by
 unfold law32_ConsentApart at hS
 have hb := flat1_fr (ρ := ρA) (w := w0) hbd
 have hz := hz.flat1
 replace h2 := SlR.mv h2 flat1_rd
 refine calls_of_ke Try.func7 rfl (n := 90) rfl rfl (l := [(0, v1), (1, str user_1), (2, str client_2), (3, .int .i64 at_3)]) rfl ?_
 refine ke_seq ?_
 refine ke_region ?_
 refine sr_ev (v := .bool false) (ev_assign rfl) (by decide) ?_
 refine sr_end (l' := [(0, v1), (1, str user_1), (2, str client_2), (3, .int .i64 at_3)]) (.cons rfl (.cons rfl (.cons rfl (.cons rfl (.nil _))))) ?_
 refine ke_seq ?_
 refine ke_seq ?_
 refine ke_region ?_
 refine sr_ev (v := v1) (ev_move rfl) (by decide) ?_
 obtain ⟨y3, hy4, hS⟩ := bind_some' hS
 refine sr_call (vs := [v1]) rfl Try.call8 rfl (law32_light_ok _ (hg.fr hz hb) h2.asSl hy4) (by decide) ?_
 rintro _ w5 ⟨rfl, hbw6⟩
 have htr7 := Tr.of_below hbw6 hb.bd
 replace h2 := h2.mv htr7.rd
 replace hb := hb.trans htr7
 refine sr_ev (v := .bool (!y3)) (ev_not rfl) (by decide) ?_
 refine sr_ev (v := .bool (!y3)) (ev_move rfl) (by decide) ?_
 refine sr_join (m := 4) (C := fun (x : Bool) w1 => x = ((!y3) || (decide ((user_1.length : Int) > 200))) ∧ w5 = w1) (l' := fun x => [(0, v1), (1, str user_1), (2, str client_2), (3, .int .i64 at_3), (19, .bool x)]) ?_ ?_
 ·rintro _ _ ⟨rfl, rfl⟩
  refine sr_ev (v := .bool ((!y3) || (decide ((user_1.length : Int) > 200)))) (ev_move rfl) (by decide) ?_
  refine sr_join (m := 4) (C := fun (x : Bool) w1 => x = (((!y3) || (decide ((user_1.length : Int) > 200))) || (decide ((client_2.length : Int) > 200))) ∧ w5 = w1) (l' := fun x => [(0, v1), (1, str user_1), (2, str client_2), (3, .int .i64 at_3), (24, .bool x)]) ?_ ?_
  ·rintro _ _ ⟨rfl, rfl⟩
   refine sr_end (l' := [(0, v1), (1, str user_1), (2, str client_2), (3, .int .i64 at_3), (24, .bool (((!y3) || (decide ((user_1.length : Int) > 200))) || (decide ((client_2.length : Int) > 200))))]) (.cons rfl (.cons rfl (.cons rfl (.cons rfl (.cons rfl (.nil _)))))) ?_
   refine ke_cond (t := ((!y3) || (decide ((user_1.length : Int) > 200))) || (decide ((client_2.length : Int) > 200))) rfl (fun hc24 => ?_) (fun hc24 => ?_)
   ·replace hS := ite_true' hS hc24
    refine ke_seq ?_
    refine ke_region ?_
    obtain ⟨y25, hy26, hS⟩ := bind_some' hS
    refine sr_call (vs := []) rfl Try.call9 rfl (law32_awake_ok _ (hg.fr hz hb) (ρA := (flat1 ρA)) hb.bd (hz.fr hg hb) hy26) (by decide) ?_
    rintro _ w27 ⟨rfl, hbw28⟩
    have htr29 := Tr.of_below hbw28 hb.bd
    replace hb := hb.trans htr29
    refine sr_ev (v := .bool y25) (ev_assign rfl) (by decide) ?_
    refine sr_end (l' := [(8, .bool y25)]) (.cons rfl (.nil _)) ?_
    cases hS
    exact ke_ret1 Try.func7 rfl rfl ⟨_, rfl, rfl, (hb.below (flat1_le _))⟩
   ·replace hS := ite_false' hS hc24
    refine ke_skip ?_
    refine ke_seq ?_
    refine ke_region ?_
    obtain ⟨y30, hy31, hS⟩ := bind_some' hS
    refine sr_call (vs := []) rfl Try.call10 rfl (consent_New_ok _ (hg.fr hz hb) (ρA := (flat1 ρA)) hb.bd (hz.fr hg hb) (o := 100) (by decide) hy31) (by decide) ?_
    rintro _ w32 ⟨ρ39, g35, rfl, ⟨v36, hB38, h37⟩, htr34⟩
    replace h2 := h2.mv htr34.rd
    replace hb := hb.trans htr34
    replace hB38 : Blk ρ39 100 w32 g35 (.cells #[v36] 52 (0, 0)) := hB38
    replace h37 : MapT consent_pair.ek (mapC str (intC .i64) false) false ρ39 101 w32 v36 y30.pairs := h37
    obtain ⟨y40, hy41, hS⟩ := bind_some' hS
    refine sr_call (vs := []) rfl Try.call10 rfl (consent_New_ok _ (hg.fr hz hb) (ρA := ρ39) hb.bd (hz.fr hg hb) (o := 200) (by decide) hy41) (by decide) ?_
    rintro _ w42 ⟨ρ49, g45, rfl, ⟨v46, hB48, h47⟩, htr44⟩
    replace h2 := h2.mv htr44.rd
    replace hB38 := hB38.mv (htr44.mv (i := 100) rfl)
    replace h37 := h37.mv (htr44.mv (i := 101) rfl)
    replace hb := hb.trans htr44
    replace hB48 : Blk ρ49 200 w42 g45 (.cells #[v46] 52 (0, 0)) := hB48
    replace h47 : MapT consent_pair.ek (mapC str (intC .i64) false) false ρ49 201 w42 v46 y40.pairs := h47
    refine sr_ev (v := .pointer (some ⟨g35, 0, none⟩)) (ev_assign rfl) (by decide) ?_
    refine sr_ev (v := .pointer (some ⟨g45, 0, none⟩)) (ev_assign rfl) (by decide) ?_
    refine sr_end (l' := [(0, v1), (1, str user_1), (2, str client_2), (3, .int .i64 at_3), (9, .pointer (some ⟨g35, 0, none⟩)), (10, .pointer (some ⟨g45, 0, none⟩))]) (.cons rfl (.cons rfl (.cons rfl (.cons rfl (.cons rfl (.cons rfl (.nil _))))))) ?_
    refine ke_seq ?_
    refine ke_seq ?_
    refine ke_region ?_
    refine sr_ev (v := .pointer (some ⟨g35, 0, none⟩)) (ev_move rfl) (by decide) ?_
    refine sr_ev (v := .bool false) (ev_peqT_some Try.underlying25 rfl rfl) (by decide) ?_
    refine sr_ev (v := .bool false) (ev_move rfl) (by decide) ?_
    refine sr_evg (b := false) (e := 30) rfl rfl rfl (v := .pointer (some ⟨g45, 0, none⟩)) (ev_move rfl) (by decide) ?_
    refine sr_evg (b := false) (e := 30) rfl rfl rfl (v := .bool false) (ev_peqT_some Try.underlying25 rfl rfl) (by decide) ?_
    refine sr_ev (v := .bool false) (ev_pick_f rfl rfl rfl) (by decide) ?_
    refine sr_end (l' := [(0, v1), (1, str user_1), (2, str client_2), (3, .int .i64 at_3), (9, .pointer (some ⟨g35, 0, none⟩)), (10, .pointer (some ⟨g45, 0, none⟩)), (33, .bool false)]) (.cons rfl (.cons rfl (.cons rfl (.cons rfl (.cons rfl (.cons rfl (.cons rfl (.nil _)))))))) ?_
    refine ke_cond (t := false) rfl (fun h => by cases h) (fun _ => ?_)
    refine ke_skip ?_
    refine ke_seq ?_
    refine ke_seq ?_
    refine ke_region ?_
    refine sr_ev (v := .int .i64 0) (ev_assign rfl) (by decide) ?_
    refine sr_end (l' := [(0, v1), (1, str user_1), (2, str client_2), (3, .int .i64 at_3), (9, .pointer (some ⟨g35, 0, none⟩)), (10, .pointer (some ⟨g45, 0, none⟩)), (11, .int .i64 0)]) (.cons rfl (.cons rfl (.cons rfl (.cons rfl (.cons rfl (.cons rfl (.cons rfl (.nil _)))))))) ?_
    refine ke_block ?_
    have hK := law32_ConsentApart_L1_ok hg hbd hz _ hS hb h2 ⟨_, hB38, h37⟩ ⟨_, hB48, h47⟩
    exact ke_weaken (l' := [(0, v1), (1, str user_1), (2, str client_2), (3, .int .i64 at_3), (9, .pointer (some ⟨g35, 0, none⟩)), (10, .pointer (some ⟨g45, 0, none⟩)), (11, .int .i64 0)]) (.cons rfl (.cons rfl (.cons rfl (.cons rfl (.cons rfl (.cons rfl (.cons rfl (.nil _)))))))) (ke_loop hK)
  ·intro K17
   rcases Bool.eq_false_or_eq_true ((!y3) || (decide ((user_1.length : Int) > 200))) with hg16 | hg16
   all_goals try have hj19 : Tr (flat1 ρA) w5 (fun _ => false) (flat1 ρA) w5 := Tr.refl hb.bd
   ·refine sr_pass (e := 20) rfl rfl (by rw [hg16]; rfl) (by decide) ?_
    refine sr_pass (e := 20) rfl rfl (by rw [hg16]; rfl) (by decide) ?_
    refine sr_pass (e := 20) rfl rfl (by rw [hg16]; rfl) (by decide) ?_
    refine sr_ev (v := .bool true) (ev_pick_t rfl hg16 rfl) (by decide) ?_
    exact sr_weaken (l' := [(0, v1), (1, str user_1), (2, str client_2), (3, .int .i64 at_3), (24, .bool true)]) (.cons rfl (.cons rfl (.cons rfl (.cons rfl (.cons rfl (.nil _)))))) (K17 true _ ⟨by rw [hg16]; rfl, rfl⟩)
   ·refine sr_evg (b := false) (e := 20) rfl rfl hg16 (v := str client_2) (ev_move rfl) (by decide) ?_
    refine sr_evg (b := false) (e := 20) rfl rfl hg16 (v := .int .i64 (client_2.length : Int)) (ev_slen Try.underlying9 rfl) (by decide) ?_
    refine sr_evg (b := false) (e := 20) rfl rfl hg16 (v := .bool (decide ((client_2.length : Int) > 200))) (ev_gt rfl rfl) (by decide) ?_
    refine sr_ev (v := .bool (decide ((client_2.length : Int) > 200))) (ev_pick_f rfl hg16 rfl) (by decide) ?_
    exact sr_weaken (l' := [(0, v1), (1, str user_1), (2, str client_2), (3, .int .i64 at_3), (24, .bool (decide ((client_2.length : Int) > 200)))]) (.cons rfl (.cons rfl (.cons rfl (.cons rfl (.cons rfl (.nil _)))))) (K17 (decide ((client_2.length : Int) > 200)) _ ⟨by rw [hg16]; rfl, rfl⟩)
 ·intro K9
  rcases Bool.eq_false_or_eq_true (!y3) with hg8 | hg8
  all_goals try have hj11 : Tr (flat1 ρA) w5 (fun _ => false) (flat1 ρA) w5 := Tr.refl hb.bd
  ·refine sr_pass (e := 15) rfl rfl (by rw [hg8]; rfl) (by decide) ?_
   refine sr_pass (e := 15) rfl rfl (by rw [hg8]; rfl) (by decide) ?_
   refine sr_pass (e := 15) rfl rfl (by rw [hg8]; rfl) (by decide) ?_
   refine sr_ev (v := .bool true) (ev_pick_t rfl hg8 rfl) (by decide) ?_
   exact sr_weaken (l' := [(0, v1), (1, str user_1), (2, str client_2), (3, .int .i64 at_3), (19, .bool true)]) (.cons rfl (.cons rfl (.cons rfl (.cons rfl (.cons rfl (.nil _)))))) (K9 true _ ⟨by rw [hg8]; rfl, rfl⟩)
  ·refine sr_evg (b := false) (e := 15) rfl rfl hg8 (v := str user_1) (ev_move rfl) (by decide) ?_
   refine sr_evg (b := false) (e := 15) rfl rfl hg8 (v := .int .i64 (user_1.length : Int)) (ev_slen Try.underlying9 rfl) (by decide) ?_
   refine sr_evg (b := false) (e := 15) rfl rfl hg8 (v := .bool (decide ((user_1.length : Int) > 200))) (ev_gt rfl rfl) (by decide) ?_
   refine sr_ev (v := .bool (decide ((user_1.length : Int) > 200))) (ev_pick_f rfl hg8 rfl) (by decide) ?_
   exact sr_weaken (l' := [(0, v1), (1, str user_1), (2, str client_2), (3, .int .i64 at_3), (19, .bool (decide ((user_1.length : Int) > 200)))]) (.cons rfl (.cons rfl (.cons rfl (.cons rfl (.cons rfl (.nil _)))))) (K9 (decide ((user_1.length : Int) > 200)) _ ⟨by rw [hg8]; rfl, rfl⟩)
end Ytijiipelpgmhpaa
end Go.Proofs
