/- Own work: a part of the proofs of this seat. -/
import Derived.Test.YtijiipelpgmhpaaProg
import Derived.Test.YtijiipelpgmhpaaShelf
import Derived.Test.YtijiipelpgmhpaaKwIS
import Derived.KernelRfl
import Derived.Test.YtijiipelpgmhpaaKwIConsentPlaysW3
set_option linter.unusedVariables false
set_option linter.unusedSimpArgs false
set_option linter.unusedSectionVars false
set_option maxHeartbeats 8000000
set_option maxRecDepth 8000
namespace Go.Proofs
namespace Ytijiipelpgmhpaa
open Go Go.KW Go.KW.S Go.RowKit
theorem law32_ConsentPlays_L1_ok {w0 : World} (hg : Gs w0) {ρA : Tags} (hbd : ∀ b, ρA b ≠ 0 → b < w0.heap.size) (hz : Gz (flat1 ρA)) : ∀ (n : Nat), ∀ {r : Bool} {l_0 : List law32_Op} {at_1 : Int} {oc_5 : consent_Consents} {od_6 : ref32_Consents} {i_7 : Int} {vl_0 : Value} {gc_5 : Nat} {gd_6 : Nat}, law32_ConsentPlays_L1 n l_0 at_1 oc_5 od_6 i_7 = some r → ∀ {ρ : Tags} {w : World}, (Fr (flat1 ρA) w0 ρ w) → (SlR law32_Op.c (Wb ρ) w vl_0 l_0) → (consent_Consents.O (fun p => 100 + p) ρ w gc_5 oc_5) → (ref32_Consents.O (fun p => 200 + p) ρ w gd_6 od_6) → KE Try.prog 3 (Ret (fun v w' => v = .bool r ∧ Below w0.heap.size w0 w')) 131 [.code (sub (bodyOf Try.f3) [2, 2, 2, 2, 1, 2, 2, 1]), .inLoop (sub (bodyOf Try.f3) [2, 2, 2, 2, 1, 2, 2, 1]), .inBlock 0, .code (sub (bodyOf Try.f3) [2, 2, 2, 2, 2])] [(0, vl_0), (1, .int .i64 at_1), (5, .pointer (some ⟨gc_5, 0, none⟩)), (6, .pointer (some ⟨gd_6, 0, none⟩)), (7, .int .i64 i_7)] w := by
 intro n
 induction n with
 | zero => intro r l_0 at_1 oc_5 od_6 i_7 vl_0 gc_5 gd_6 hS; cases hS
 | succ n ih =>
  have hr0 : ∀ {r : Bool} {l_0 : List law32_Op} {at_1 : Int} {oc_5 : consent_Consents} {od_6 : ref32_Consents} {i_7 : Int} {vl_0 : Value} {gc_5 : Nat} {gd_6 : Nat}, law32_ConsentPlays_L1 n l_0 at_1 oc_5 od_6 i_7 = some r → ∀ {ρ : Tags} {w : World}, (Fr (flat1 ρA) w0 ρ w) → (SlR law32_Op.c (Wb ρ) w vl_0 l_0) → (consent_Consents.O (fun p => 100 + p) ρ w gc_5 oc_5) → (ref32_Consents.O (fun p => 200 + p) ρ w gd_6 od_6) → KE Try.prog 3 (Ret (fun v w' => v = .bool r ∧ Below w0.heap.size w0 w')) 131 [.inLoop (sub (bodyOf Try.f3) [2, 2, 2, 2, 1, 2, 2, 1]), .inBlock 0, .code (sub (bodyOf Try.f3) [2, 2, 2, 2, 2])] [(0, vl_0), (1, .int .i64 at_1), (5, .pointer (some ⟨gc_5, 0, none⟩)), (6, .pointer (some ⟨gd_6, 0, none⟩)), (7, .int .i64 i_7)] w := fun {r} {l_0} {at_1} {oc_5} {od_6} {i_7} {vl_0} {gc_5} {gd_6} hS {ρ} {w} hb hl_0 hoc_5 hod_6 => ke_inLoop (ih hS hb hl_0 hoc_5 hod_6)
  clear ih
  intro r l_0 at_1 oc_5 od_6 i_7 vl_0 gc_5 gd_6 hS ρ w hb hl_0 hoc_5 hod_6
  unfold law32_ConsentPlays_L1 at hS
  obtain ⟨v34, hB36, h35⟩ := hoc_5
  replace hB36 : Blk ρ 100 w gc_5 (.cells #[v34] 52 (0, 0)) := hB36
  replace h35 : MapT consent_pair.ek (mapC str (intC .i64) false) false ρ 101 w v34 oc_5.pairs := h35
  obtain ⟨v37, hB39, h38⟩ := hod_6
  replace hB39 : Blk ρ 200 w gd_6 (.cells #[.bool od_6.made, v37] 55 (0, 0)) := hB39
  replace h38 : OwnT ref32_pair.c 63 ρ 201 w v37 od_6.pairs := h38
  refine ke_seq ?_
  refine ke_seq ?_
  refine ke_region ?_
  refine sr_ev (v := .int .i64 i_7) (ev_move rfl) (by decide) ?_
  refine sr_ev (v := vl_0) (ev_move rfl) (by decide) ?_
  refine sr_ev (v := .int .i64 (l_0.length : Int)) (ev_sllen Try.underlying22 rfl hl_0.asSl) (by decide) ?_
  refine sr_ev (v := .bool (decide (i_7 < (l_0.length : Int)))) (ev_lt rfl rfl) (by decide) ?_
  refine sr_end (l' := [(0, vl_0), (1, .int .i64 at_1), (5, .pointer (some ⟨gc_5, 0, none⟩)), (6, .pointer (some ⟨gd_6, 0, none⟩)), (7, .int .i64 i_7), (19, .bool (decide (i_7 < (l_0.length : Int))))]) (.cons rfl (.cons rfl (.cons rfl (.cons rfl (.cons rfl (.cons rfl (.nil _))))))) ?_
  refine ke_cond (t := decide (i_7 < (l_0.length : Int))) rfl (fun hc40 => ?_) (fun hc40 => ?_)
  ·replace hS := ite_true' hS hc40
   refine ke_skip ?_
   refine ke_seq ?_
   refine ke_block ?_
   refine ke_seq ?_
   refine ke_region_j (ρ := ρ) (fun t => ([100, 101, 200, 201] : List Nat).contains t) 108 Try.mixed (fun w42 hw41 => ?_)
   have htr43 := Tr.of_below hw41 hb.bd
   replace hl_0 := hl_0.mv htr43.rd
   replace hB36 := hB36.mv (htr43.mv (i := 100) rfl)
   replace h35 := h35.mv (htr43.mv (i := 101) rfl)
   replace hB39 := hB39.mv (htr43.mv (i := 200) rfl)
   replace h38 := h38.mv (htr43.mv (i := 201) rfl) (by decide)
   replace hb := hb.trans htr43
   refine dj_H 0 (v := .pointer (some ⟨gc_5, 0, none⟩)) (by as_aux_lemma => kernel_rfl) (by as_aux_lemma => kernel_rfl) rfl (fun _ _ _ h => h) (sj_refl hb.bd rfl rfl) (fun w1 ρ1 hw1 => ev_move rfl) (by decide) ?_
   refine dj_H 1 (v := vl_0) (by as_aux_lemma => kernel_rfl) (by as_aux_lemma => kernel_rfl) rfl (fun _ _ _ h => h) (sj_refl hb.bd rfl rfl) (fun w1 ρ1 hw1 => ev_move rfl) (by decide) ?_
   refine dj_H 2 (v := .int .i64 i_7) (by as_aux_lemma => kernel_rfl) (by as_aux_lemma => kernel_rfl) rfl (fun _ _ _ h => h) (sj_refl hb.bd rfl rfl) (fun w1 ρ1 hw1 => ev_move rfl) (by decide) ?_
   obtain ⟨y501, hy502, hS⟩ := bind_some' hS
   obtain ⟨b503, o504, cs506, hq507, he505⟩ := ((SlT.of_sl (i := 0) hl_0)).elem (P := Try.prog) Try.underlying22 Try.info32 rfl hy502
   obtain ⟨v508, hcshe505, h509⟩ := he505.rd
   obtain rfl : cs506 = [.int .i64 y501.Call, .int .i64 y501.Until, .int .i64 y501.Now, str y501.User, str y501.Client, v508] := hcshe505
   refine dj_H 3 (v := .pointer (some ⟨b503, o504, none⟩)) (by as_aux_lemma => kernel_rfl) (by as_aux_lemma => kernel_rfl) rfl (fun _ _ _ h => h) (sj_refl hb.bd rfl rfl) (fun w1 ρ1 hw1 => hq507 w1 rfl rfl) (by decide) ?_
   refine dj_H 4 (v := .agg #[.int .i64 y501.Call, .int .i64 y501.Until, .int .i64 y501.Now, str y501.User, str y501.Client, v508]) (by as_aux_lemma => kernel_rfl) (by as_aux_lemma => kernel_rfl) rfl (fun _ _ _ h => h) (sj_refl hb.bd rfl rfl) (fun w1 ρ1 hw1 => ev_loads (cs := [.int .i64 y501.Call, .int .i64 y501.Until, .int .i64 y501.Now, str y501.User, str y501.Client, v508]) Try.isAgg32 Try.sizeOf32 rfl (he505.mv (hw1.mv (i := 0) rfl) (Nat.succ_pos _)).cell) (by decide) ?_
   refine dj_H 6 (v := .pointer (some ⟨gd_6, 0, none⟩)) (by as_aux_lemma => kernel_rfl) (by as_aux_lemma => kernel_rfl) rfl (fun _ _ _ h => h) (sj_refl hb.bd rfl rfl) (fun w1 ρ1 hw1 => ev_move rfl) (by decide) ?_
   refine dj_H 7 (v := vl_0) (by as_aux_lemma => kernel_rfl) (by as_aux_lemma => kernel_rfl) rfl (fun _ _ _ h => h) (sj_refl hb.bd rfl rfl) (fun w1 ρ1 hw1 => ev_move rfl) (by decide) ?_
   refine dj_H 8 (v := .int .i64 i_7) (by as_aux_lemma => kernel_rfl) (by as_aux_lemma => kernel_rfl) rfl (fun _ _ _ h => h) (sj_refl hb.bd rfl rfl) (fun w1 ρ1 hw1 => ev_move rfl) (by decide) ?_
   obtain ⟨y510, hy511, hS⟩ := bind_some' hS
   obtain ⟨b512, o513, cs515, hq516, he514⟩ := ((SlT.of_sl (i := 0) hl_0)).elem (P := Try.prog) Try.underlying22 Try.info32 rfl hy511
   obtain ⟨v517, hcshe514, h518⟩ := he514.rd
   obtain rfl : cs515 = [.int .i64 y510.Call, .int .i64 y510.Until, .int .i64 y510.Now, str y510.User, str y510.Client, v517] := hcshe514
   refine dj_H 9 (v := .pointer (some ⟨b512, o513, none⟩)) (by as_aux_lemma => kernel_rfl) (by as_aux_lemma => kernel_rfl) rfl (fun _ _ _ h => h) (sj_refl hb.bd rfl rfl) (fun w1 ρ1 hw1 => hq516 w1 rfl rfl) (by decide) ?_
   refine dj_H 10 (v := .agg #[.int .i64 y510.Call, .int .i64 y510.Until, .int .i64 y510.Now, str y510.User, str y510.Client, v517]) (by as_aux_lemma => kernel_rfl) (by as_aux_lemma => kernel_rfl) rfl (fun _ _ _ h => h) (sj_refl hb.bd rfl rfl) (fun w1 ρ1 hw1 => ev_loads (cs := [.int .i64 y510.Call, .int .i64 y510.Until, .int .i64 y510.Now, str y510.User, str y510.Client, v517]) Try.isAgg32 Try.sizeOf32 rfl (he514.mv (hw1.mv (i := 0) rfl) (Nat.succ_pos _)).cell) (by decide) ?_
   refine dj_E 5 (by as_aux_lemma => kernel_rfl) rfl ?_
   have jt519 : Tr ρ w42 (fun t => ([100, 101, 200, 201] : List Nat).contains t) ρ w42 := (Tr.refl hb.bd).weak (fun _ _ => rfl) rfl rfl
   obtain ⟨y520, hy521, hS⟩ := bind_some' hS
   refine sr_call (vs := [.pointer (some ⟨gc_5, 0, none⟩), .agg #[.int .i64 y501.Call, .int .i64 y501.Until, .int .i64 y501.Now, str y501.User, str y501.Client, v508]]) rfl Try.call12 rfl (law32_do_ok _ (hg.fr hz hb) (ρA := ρ) hb.bd (hz.fr hg hb) (o := 100) (by decide) h509 (⟨_, hB36, h35⟩ : consent_Consents.O (fun p => 100 + p) ρ w42 gc_5 oc_5) hy521) (by decide) ?_
   rintro _ w522 ⟨ρ528, rfl, ⟨v525, hB527, h526⟩, htr524⟩
   replace hl_0 := hl_0.mv htr524.rd
   replace h518 := h518.mv htr524.rd
   replace hB39 := hB39.mv (htr524.mv (i := 200) rfl)
   replace h38 := h38.mv (htr524.mv (i := 201) rfl) (by decide)
   replace hb := hb.trans htr524
   replace jt519 := (jt519.trans htr524).weak (J' := (fun t => ([100, 101, 200, 201] : List Nat).contains t)) (by intro t h; simp [rng] at h ⊢ <;> omega) rfl rfl
   replace hB527 : Blk ρ528 100 w522 gc_5 (.cells #[v525] 52 (0, 0)) := hB527
   replace h526 : MapT consent_pair.ek (mapC str (intC .i64) false) false ρ528 101 w522 v525 y520.2.pairs := h526
   refine dj_next (l' := [(0, vl_0), (1, .int .i64 at_1), (5, .pointer (some ⟨gc_5, 0, none⟩)), (6, .pointer (some ⟨gd_6, 0, none⟩)), (7, .int .i64 i_7), (27, .int .i64 y520.1), (28, .pointer (some ⟨gd_6, 0, none⟩)), (32, .agg #[.int .i64 y510.Call, .int .i64 y510.Until, .int .i64 y510.Now, str y510.User, str y510.Client, v517])]) rfl (.cons rfl (.cons rfl (.cons rfl (.cons rfl (.cons rfl (.cons rfl (.cons rfl (.cons rfl (.nil _))))))))) jt519 (by intro t h; simp [rng] at h ⊢ <;> omega) rfl rfl ?_
   refine dj_E 11 (by as_aux_lemma => kernel_rfl) rfl ?_
   have jt529 : Tr ρ528 w522 (fun t => ([100, 101, 200, 201] : List Nat).contains t) ρ528 w522 := (Tr.refl hb.bd).weak (fun _ _ => rfl) rfl rfl
   obtain ⟨y530, hy531, hS⟩ := bind_some' hS
   refine sr_call (vs := [.pointer (some ⟨gd_6, 0, none⟩), .agg #[.int .i64 y510.Call, .int .i64 y510.Until, .int .i64 y510.Now, str y510.User, str y510.Client, v517]]) rfl Try.call13 rfl (law32_done_ok _ (hg.fr hz hb) (ρA := ρ528) hb.bd (hz.fr hg hb) (o := 200) (by decide) h518 (⟨_, hB39, h38⟩ : ref32_Consents.O (fun p => 200 + p) ρ528 w522 gd_6 od_6) hy531) (by decide) ?_
   rintro _ w532 ⟨ρ538, rfl, ⟨v535, hB537, h536⟩, htr534⟩
   replace hl_0 := hl_0.mv htr534.rd
   replace hB527 := hB527.mv (htr534.mv (i := 100) rfl)
   replace h526 := h526.mv (htr534.mv (i := 101) rfl)
   replace hb := hb.trans htr534
   replace jt529 := (jt529.trans htr534).weak (J' := (fun t => ([100, 101, 200, 201] : List Nat).contains t)) (by intro t h; simp [rng] at h ⊢ <;> omega) rfl rfl
   replace hB537 : Blk ρ538 200 w532 gd_6 (.cells #[.bool y530.2.made, v535] 55 (0, 0)) := hB537
   replace h536 : OwnT ref32_pair.c 63 ρ538 201 w532 v535 y530.2.pairs := h536
   refine dj_next (l' := [(0, vl_0), (1, .int .i64 at_1), (5, .pointer (some ⟨gc_5, 0, none⟩)), (6, .pointer (some ⟨gd_6, 0, none⟩)), (7, .int .i64 i_7), (27, .int .i64 y520.1), (33, .int .i64 y530.1)]) rfl (.cons rfl (.cons rfl (.cons rfl (.cons rfl (.cons rfl (.cons rfl (.cons rfl (.nil _)))))))) jt529 (by intro t h; simp [rng] at h ⊢ <;> omega) rfl rfl ?_
   refine dj_H 12 (v := .bool (y520.1 != y530.1)) (by as_aux_lemma => kernel_rfl) (by as_aux_lemma => kernel_rfl) rfl (fun _ _ _ h => h) (sj_refl hb.bd rfl rfl) (fun w1 ρ1 hw1 => ev_ne rfl rfl) (by decide) ?_
   refine dj_H 13 (v := .bool (y520.1 != y530.1)) (by as_aux_lemma => kernel_rfl) (by as_aux_lemma => kernel_rfl) rfl (fun _ _ _ h => h) (sj_refl hb.bd rfl rfl) (fun w1 ρ1 hw1 => ev_move rfl) (by decide) ?_
   rcases Bool.eq_false_or_eq_true (y520.1 != y530.1) with hg539 | hg539
   ·replace hS := ite_true' hS hg539
    refine dj_pass 14 (e := 35) (by as_aux_lemma => kernel_rfl) (by as_aux_lemma => kernel_rfl) rfl rfl rfl rfl rfl (by rw [hg539]; rfl) (fun _ _ _ h => h) (sj_refl hb.bd rfl rfl) (by decide) ?_
    refine dj_pass 15 (e := 35) (by as_aux_lemma => kernel_rfl) (by as_aux_lemma => kernel_rfl) rfl rfl rfl rfl rfl (by rw [hg539]; rfl) (fun _ _ _ h => h) (sj_refl hb.bd rfl rfl) (by decide) ?_
    refine dj_pass 16 (e := 35) (by as_aux_lemma => kernel_rfl) (by as_aux_lemma => kernel_rfl) rfl rfl rfl rfl rfl (by rw [hg539]; rfl) (fun _ _ _ h => h) (sj_refl hb.bd rfl rfl) (by decide) ?_
    refine dj_pass 17 (e := 35) (by as_aux_lemma => kernel_rfl) (by as_aux_lemma => kernel_rfl) rfl rfl rfl rfl rfl (by rw [hg539]; rfl) (fun _ _ _ h => h) (sj_refl hb.bd rfl rfl) (by decide) ?_
    refine dj_pass 18 (e := 35) (by as_aux_lemma => kernel_rfl) (by as_aux_lemma => kernel_rfl) rfl rfl rfl rfl rfl (by rw [hg539]; rfl) (fun _ _ _ h => h) (sj_refl hb.bd rfl rfl) (by decide) ?_
    refine dj_H 19 (v := .bool true) (by as_aux_lemma => kernel_rfl) (by as_aux_lemma => kernel_rfl) rfl (fun _ _ _ h => h) (sj_refl hb.bd rfl rfl) (fun w1 ρ1 hw1 => ev_pick_t rfl hg539 rfl) (by decide) ?_
    refine dj_H 20 (v := .bool true) (by as_aux_lemma => kernel_rfl) (by as_aux_lemma => kernel_rfl) rfl (fun _ _ _ h => h) (sj_refl hb.bd rfl rfl) (fun w1 ρ1 hw1 => ev_move rfl) (by decide) ?_
    refine dj_pass 21 (e := 42) (by as_aux_lemma => kernel_rfl) (by as_aux_lemma => kernel_rfl) rfl rfl rfl rfl rfl rfl (fun _ _ _ h => h) (sj_refl hb.bd rfl rfl) (by decide) ?_
    refine dj_pass 22 (e := 42) (by as_aux_lemma => kernel_rfl) (by as_aux_lemma => kernel_rfl) rfl rfl rfl rfl rfl rfl (fun _ _ _ h => h) (sj_refl hb.bd rfl rfl) (by decide) ?_
    refine dj_pass 23 (e := 42) (by as_aux_lemma => kernel_rfl) (by as_aux_lemma => kernel_rfl) rfl rfl rfl rfl rfl rfl (fun _ _ _ h => h) (sj_refl hb.bd rfl rfl) (by decide) ?_
    refine dj_pass 24 (e := 42) (by as_aux_lemma => kernel_rfl) (by as_aux_lemma => kernel_rfl) rfl rfl rfl rfl rfl rfl (fun _ _ _ h => h) (sj_refl hb.bd rfl rfl) (by decide) ?_
    refine dj_pass 25 (e := 42) (by as_aux_lemma => kernel_rfl) (by as_aux_lemma => kernel_rfl) rfl rfl rfl rfl rfl rfl (fun _ _ _ h => h) (sj_refl hb.bd rfl rfl) (by decide) ?_
    refine dj_pass 26 (e := 42) (by as_aux_lemma => kernel_rfl) (by as_aux_lemma => kernel_rfl) rfl rfl rfl rfl rfl rfl (fun _ _ _ h => h) (sj_refl hb.bd rfl rfl) (by decide) ?_
    refine dj_pass 27 (e := 42) (by as_aux_lemma => kernel_rfl) (by as_aux_lemma => kernel_rfl) rfl rfl rfl rfl rfl rfl (fun _ _ _ h => h) (sj_refl hb.bd rfl rfl) (by decide) ?_
    refine dj_pass 28 (e := 42) (by as_aux_lemma => kernel_rfl) (by as_aux_lemma => kernel_rfl) rfl rfl rfl rfl rfl rfl (fun _ _ _ h => h) (sj_refl hb.bd rfl rfl) (by decide) ?_
    refine dj_pass 29 (e := 42) (by as_aux_lemma => kernel_rfl) (by as_aux_lemma => kernel_rfl) rfl rfl rfl rfl rfl rfl (fun _ _ _ h => h) (sj_refl hb.bd rfl rfl) (by decide) ?_
    refine dj_pass 30 (e := 42) (by as_aux_lemma => kernel_rfl) (by as_aux_lemma => kernel_rfl) rfl rfl rfl rfl rfl rfl (fun _ _ _ h => h) (sj_refl hb.bd rfl rfl) (by decide) ?_
    refine dj_pass 31 (e := 42) (by as_aux_lemma => kernel_rfl) (by as_aux_lemma => kernel_rfl) rfl rfl rfl rfl rfl rfl (fun _ _ _ h => h) (sj_refl hb.bd rfl rfl) (by decide) ?_
    refine dj_pass 32 (e := 42) (by as_aux_lemma => kernel_rfl) (by as_aux_lemma => kernel_rfl) rfl rfl rfl rfl rfl rfl (fun _ _ _ h => h) (sj_refl hb.bd rfl rfl) (by decide) ?_
    refine dj_pass 33 (e := 42) (by as_aux_lemma => kernel_rfl) (by as_aux_lemma => kernel_rfl) rfl rfl rfl rfl rfl rfl (fun _ _ _ h => h) (sj_refl hb.bd rfl rfl) (by decide) ?_
    refine dj_pass 34 (e := 42) (by as_aux_lemma => kernel_rfl) (by as_aux_lemma => kernel_rfl) rfl rfl rfl rfl rfl rfl (fun _ _ _ h => h) (sj_refl hb.bd rfl rfl) (by decide) ?_
    refine dj_pass 35 (e := 42) (by as_aux_lemma => kernel_rfl) (by as_aux_lemma => kernel_rfl) rfl rfl rfl rfl rfl rfl (fun _ _ _ h => h) (sj_refl hb.bd rfl rfl) (by decide) ?_
    refine dj_pass 36 (e := 42) (by as_aux_lemma => kernel_rfl) (by as_aux_lemma => kernel_rfl) rfl rfl rfl rfl rfl rfl (fun _ _ _ h => h) (sj_refl hb.bd rfl rfl) (by decide) ?_
    refine dj_pass 37 (e := 42) (by as_aux_lemma => kernel_rfl) (by as_aux_lemma => kernel_rfl) rfl rfl rfl rfl rfl rfl (fun _ _ _ h => h) (sj_refl hb.bd rfl rfl) (by decide) ?_
    refine dj_pass 38 (e := 42) (by as_aux_lemma => kernel_rfl) (by as_aux_lemma => kernel_rfl) rfl rfl rfl rfl rfl rfl (fun _ _ _ h => h) (sj_refl hb.bd rfl rfl) (by decide) ?_
    refine dj_pass 39 (e := 42) (by as_aux_lemma => kernel_rfl) (by as_aux_lemma => kernel_rfl) rfl rfl rfl rfl rfl rfl (fun _ _ _ h => h) (sj_refl hb.bd rfl rfl) (by decide) ?_
    refine dj_pass 40 (e := 42) (by as_aux_lemma => kernel_rfl) (by as_aux_lemma => kernel_rfl) rfl rfl rfl rfl rfl rfl (fun _ _ _ h => h) (sj_refl hb.bd rfl rfl) (by decide) ?_
    refine dj_pass 41 (e := 42) (by as_aux_lemma => kernel_rfl) (by as_aux_lemma => kernel_rfl) rfl rfl rfl rfl rfl rfl (fun _ _ _ h => h) (sj_refl hb.bd rfl rfl) (by decide) ?_
    refine dj_pass 42 (e := 42) (by as_aux_lemma => kernel_rfl) (by as_aux_lemma => kernel_rfl) rfl rfl rfl rfl rfl rfl (fun _ _ _ h => h) (sj_refl hb.bd rfl rfl) (by decide) ?_
    refine dj_pass 43 (e := 42) (by as_aux_lemma => kernel_rfl) (by as_aux_lemma => kernel_rfl) rfl rfl rfl rfl rfl rfl (fun _ _ _ h => h) (sj_refl hb.bd rfl rfl) (by decide) ?_
    refine dj_pass 44 (e := 42) (by as_aux_lemma => kernel_rfl) (by as_aux_lemma => kernel_rfl) rfl rfl rfl rfl rfl rfl (fun _ _ _ h => h) (sj_refl hb.bd rfl rfl) (by decide) ?_
    refine dj_pass 45 (e := 42) (by as_aux_lemma => kernel_rfl) (by as_aux_lemma => kernel_rfl) rfl rfl rfl rfl rfl rfl (fun _ _ _ h => h) (sj_refl hb.bd rfl rfl) (by decide) ?_
    refine dj_pass 46 (e := 42) (by as_aux_lemma => kernel_rfl) (by as_aux_lemma => kernel_rfl) rfl rfl rfl rfl rfl rfl (fun _ _ _ h => h) (sj_refl hb.bd rfl rfl) (by decide) ?_
    refine dj_pass 47 (e := 42) (by as_aux_lemma => kernel_rfl) (by as_aux_lemma => kernel_rfl) rfl rfl rfl rfl rfl rfl (fun _ _ _ h => h) (sj_refl hb.bd rfl rfl) (by decide) ?_
    refine dj_pass 48 (e := 42) (by as_aux_lemma => kernel_rfl) (by as_aux_lemma => kernel_rfl) rfl rfl rfl rfl rfl rfl (fun _ _ _ h => h) (sj_refl hb.bd rfl rfl) (by decide) ?_
    refine dj_H 49 (v := .bool true) (by as_aux_lemma => kernel_rfl) (by as_aux_lemma => kernel_rfl) rfl (fun _ _ _ h => h) (sj_refl hb.bd rfl rfl) (fun w1 ρ1 hw1 => ev_pick_t rfl rfl rfl) (by decide) ?_
    refine dj_H 50 (v := .bool true) (by as_aux_lemma => kernel_rfl) (by as_aux_lemma => kernel_rfl) rfl (fun _ _ _ h => h) (sj_refl hb.bd rfl rfl) (fun w1 ρ1 hw1 => ev_move rfl) (by decide) ?_
    refine dj_pass 51 (e := 72) (by as_aux_lemma => kernel_rfl) (by as_aux_lemma => kernel_rfl) rfl rfl rfl rfl rfl rfl (fun _ _ _ h => h) (sj_refl hb.bd rfl rfl) (by decide) ?_
    refine dj_pass 52 (e := 72) (by as_aux_lemma => kernel_rfl) (by as_aux_lemma => kernel_rfl) rfl rfl rfl rfl rfl rfl (fun _ _ _ h => h) (sj_refl hb.bd rfl rfl) (by decide) ?_
    refine dj_pass 53 (e := 72) (by as_aux_lemma => kernel_rfl) (by as_aux_lemma => kernel_rfl) rfl rfl rfl rfl rfl rfl (fun _ _ _ h => h) (sj_refl hb.bd rfl rfl) (by decide) ?_
    refine dj_pass 54 (e := 72) (by as_aux_lemma => kernel_rfl) (by as_aux_lemma => kernel_rfl) rfl rfl rfl rfl rfl rfl (fun _ _ _ h => h) (sj_refl hb.bd rfl rfl) (by decide) ?_
    refine dj_pass 55 (e := 72) (by as_aux_lemma => kernel_rfl) (by as_aux_lemma => kernel_rfl) rfl rfl rfl rfl rfl rfl (fun _ _ _ h => h) (sj_refl hb.bd rfl rfl) (by decide) ?_
    refine dj_pass 56 (e := 72) (by as_aux_lemma => kernel_rfl) (by as_aux_lemma => kernel_rfl) rfl rfl rfl rfl rfl rfl (fun _ _ _ h => h) (sj_refl hb.bd rfl rfl) (by decide) ?_
    refine dj_pass 57 (e := 72) (by as_aux_lemma => kernel_rfl) (by as_aux_lemma => kernel_rfl) rfl rfl rfl rfl rfl rfl (fun _ _ _ h => h) (sj_refl hb.bd rfl rfl) (by decide) ?_
    refine dj_pass 58 (e := 72) (by as_aux_lemma => kernel_rfl) (by as_aux_lemma => kernel_rfl) rfl rfl rfl rfl rfl rfl (fun _ _ _ h => h) (sj_refl hb.bd rfl rfl) (by decide) ?_
    refine dj_pass 59 (e := 72) (by as_aux_lemma => kernel_rfl) (by as_aux_lemma => kernel_rfl) rfl rfl rfl rfl rfl rfl (fun _ _ _ h => h) (sj_refl hb.bd rfl rfl) (by decide) ?_
    refine dj_pass 60 (e := 72) (by as_aux_lemma => kernel_rfl) (by as_aux_lemma => kernel_rfl) rfl rfl rfl rfl rfl rfl (fun _ _ _ h => h) (sj_refl hb.bd rfl rfl) (by decide) ?_
    refine dj_pass 61 (e := 72) (by as_aux_lemma => kernel_rfl) (by as_aux_lemma => kernel_rfl) rfl rfl rfl rfl rfl rfl (fun _ _ _ h => h) (sj_refl hb.bd rfl rfl) (by decide) ?_
    refine dj_pass 62 (e := 72) (by as_aux_lemma => kernel_rfl) (by as_aux_lemma => kernel_rfl) rfl rfl rfl rfl rfl rfl (fun _ _ _ h => h) (sj_refl hb.bd rfl rfl) (by decide) ?_
    refine dj_pass 63 (e := 72) (by as_aux_lemma => kernel_rfl) (by as_aux_lemma => kernel_rfl) rfl rfl rfl rfl rfl rfl (fun _ _ _ h => h) (sj_refl hb.bd rfl rfl) (by decide) ?_
    refine dj_pass 64 (e := 72) (by as_aux_lemma => kernel_rfl) (by as_aux_lemma => kernel_rfl) rfl rfl rfl rfl rfl rfl (fun _ _ _ h => h) (sj_refl hb.bd rfl rfl) (by decide) ?_
    refine dj_pass 65 (e := 72) (by as_aux_lemma => kernel_rfl) (by as_aux_lemma => kernel_rfl) rfl rfl rfl rfl rfl rfl (fun _ _ _ h => h) (sj_refl hb.bd rfl rfl) (by decide) ?_
    refine dj_pass 66 (e := 72) (by as_aux_lemma => kernel_rfl) (by as_aux_lemma => kernel_rfl) rfl rfl rfl rfl rfl rfl (fun _ _ _ h => h) (sj_refl hb.bd rfl rfl) (by decide) ?_
    refine dj_pass 67 (e := 72) (by as_aux_lemma => kernel_rfl) (by as_aux_lemma => kernel_rfl) rfl rfl rfl rfl rfl rfl (fun _ _ _ h => h) (sj_refl hb.bd rfl rfl) (by decide) ?_
    refine dj_pass 68 (e := 72) (by as_aux_lemma => kernel_rfl) (by as_aux_lemma => kernel_rfl) rfl rfl rfl rfl rfl rfl (fun _ _ _ h => h) (sj_refl hb.bd rfl rfl) (by decide) ?_
    refine dj_pass 69 (e := 72) (by as_aux_lemma => kernel_rfl) (by as_aux_lemma => kernel_rfl) rfl rfl rfl rfl rfl rfl (fun _ _ _ h => h) (sj_refl hb.bd rfl rfl) (by decide) ?_
    refine dj_pass 70 (e := 72) (by as_aux_lemma => kernel_rfl) (by as_aux_lemma => kernel_rfl) rfl rfl rfl rfl rfl rfl (fun _ _ _ h => h) (sj_refl hb.bd rfl rfl) (by decide) ?_
    refine dj_pass 71 (e := 72) (by as_aux_lemma => kernel_rfl) (by as_aux_lemma => kernel_rfl) rfl rfl rfl rfl rfl rfl (fun _ _ _ h => h) (sj_refl hb.bd rfl rfl) (by decide) ?_
    refine dj_pass 72 (e := 72) (by as_aux_lemma => kernel_rfl) (by as_aux_lemma => kernel_rfl) rfl rfl rfl rfl rfl rfl (fun _ _ _ h => h) (sj_refl hb.bd rfl rfl) (by decide) ?_
    refine dj_pass 73 (e := 72) (by as_aux_lemma => kernel_rfl) (by as_aux_lemma => kernel_rfl) rfl rfl rfl rfl rfl rfl (fun _ _ _ h => h) (sj_refl hb.bd rfl rfl) (by decide) ?_
    refine dj_pass 74 (e := 72) (by as_aux_lemma => kernel_rfl) (by as_aux_lemma => kernel_rfl) rfl rfl rfl rfl rfl rfl (fun _ _ _ h => h) (sj_refl hb.bd rfl rfl) (by decide) ?_
    refine dj_pass 75 (e := 72) (by as_aux_lemma => kernel_rfl) (by as_aux_lemma => kernel_rfl) rfl rfl rfl rfl rfl rfl (fun _ _ _ h => h) (sj_refl hb.bd rfl rfl) (by decide) ?_
    refine dj_pass 76 (e := 72) (by as_aux_lemma => kernel_rfl) (by as_aux_lemma => kernel_rfl) rfl rfl rfl rfl rfl rfl (fun _ _ _ h => h) (sj_refl hb.bd rfl rfl) (by decide) ?_
    refine dj_pass 77 (e := 72) (by as_aux_lemma => kernel_rfl) (by as_aux_lemma => kernel_rfl) rfl rfl rfl rfl rfl rfl (fun _ _ _ h => h) (sj_refl hb.bd rfl rfl) (by decide) ?_
    refine dj_pass 78 (e := 72) (by as_aux_lemma => kernel_rfl) (by as_aux_lemma => kernel_rfl) rfl rfl rfl rfl rfl rfl (fun _ _ _ h => h) (sj_refl hb.bd rfl rfl) (by decide) ?_
    refine dj_pass 79 (e := 72) (by as_aux_lemma => kernel_rfl) (by as_aux_lemma => kernel_rfl) rfl rfl rfl rfl rfl rfl (fun _ _ _ h => h) (sj_refl hb.bd rfl rfl) (by decide) ?_
    refine dj_pass 80 (e := 72) (by as_aux_lemma => kernel_rfl) (by as_aux_lemma => kernel_rfl) rfl rfl rfl rfl rfl rfl (fun _ _ _ h => h) (sj_refl hb.bd rfl rfl) (by decide) ?_
    refine dj_pass 81 (e := 72) (by as_aux_lemma => kernel_rfl) (by as_aux_lemma => kernel_rfl) rfl rfl rfl rfl rfl rfl (fun _ _ _ h => h) (sj_refl hb.bd rfl rfl) (by decide) ?_
    refine dj_pass 82 (e := 72) (by as_aux_lemma => kernel_rfl) (by as_aux_lemma => kernel_rfl) rfl rfl rfl rfl rfl rfl (fun _ _ _ h => h) (sj_refl hb.bd rfl rfl) (by decide) ?_
    refine dj_pass 83 (e := 72) (by as_aux_lemma => kernel_rfl) (by as_aux_lemma => kernel_rfl) rfl rfl rfl rfl rfl rfl (fun _ _ _ h => h) (sj_refl hb.bd rfl rfl) (by decide) ?_
    refine dj_pass 84 (e := 72) (by as_aux_lemma => kernel_rfl) (by as_aux_lemma => kernel_rfl) rfl rfl rfl rfl rfl rfl (fun _ _ _ h => h) (sj_refl hb.bd rfl rfl) (by decide) ?_
    refine dj_pass 85 (e := 72) (by as_aux_lemma => kernel_rfl) (by as_aux_lemma => kernel_rfl) rfl rfl rfl rfl rfl rfl (fun _ _ _ h => h) (sj_refl hb.bd rfl rfl) (by decide) ?_
    refine dj_pass 86 (e := 72) (by as_aux_lemma => kernel_rfl) (by as_aux_lemma => kernel_rfl) rfl rfl rfl rfl rfl rfl (fun _ _ _ h => h) (sj_refl hb.bd rfl rfl) (by decide) ?_
    refine dj_H 87 (v := .bool true) (by as_aux_lemma => kernel_rfl) (by as_aux_lemma => kernel_rfl) rfl (fun _ _ _ h => h) (sj_refl hb.bd rfl rfl) (fun w1 ρ1 hw1 => ev_pick_t rfl rfl rfl) (by decide) ?_
    refine dj_H 88 (v := .bool true) (by as_aux_lemma => kernel_rfl) (by as_aux_lemma => kernel_rfl) rfl (fun _ _ _ h => h) (sj_refl hb.bd rfl rfl) (fun w1 ρ1 hw1 => ev_move rfl) (by decide) ?_
    refine dj_pass 89 (e := 110) (by as_aux_lemma => kernel_rfl) (by as_aux_lemma => kernel_rfl) rfl rfl rfl rfl rfl rfl (fun _ _ _ h => h) (sj_refl hb.bd rfl rfl) (by decide) ?_
    refine dj_pass 90 (e := 110) (by as_aux_lemma => kernel_rfl) (by as_aux_lemma => kernel_rfl) rfl rfl rfl rfl rfl rfl (fun _ _ _ h => h) (sj_refl hb.bd rfl rfl) (by decide) ?_
    refine dj_pass 91 (e := 110) (by as_aux_lemma => kernel_rfl) (by as_aux_lemma => kernel_rfl) rfl rfl rfl rfl rfl rfl (fun _ _ _ h => h) (sj_refl hb.bd rfl rfl) (by decide) ?_
    refine dj_pass 92 (e := 110) (by as_aux_lemma => kernel_rfl) (by as_aux_lemma => kernel_rfl) rfl rfl rfl rfl rfl rfl (fun _ _ _ h => h) (sj_refl hb.bd rfl rfl) (by decide) ?_
    refine dj_pass 93 (e := 110) (by as_aux_lemma => kernel_rfl) (by as_aux_lemma => kernel_rfl) rfl rfl rfl rfl rfl rfl (fun _ _ _ h => h) (sj_refl hb.bd rfl rfl) (by decide) ?_
    refine dj_pass 94 (e := 110) (by as_aux_lemma => kernel_rfl) (by as_aux_lemma => kernel_rfl) rfl rfl rfl rfl rfl rfl (fun _ _ _ h => h) (sj_refl hb.bd rfl rfl) (by decide) ?_
    refine dj_pass 95 (e := 110) (by as_aux_lemma => kernel_rfl) (by as_aux_lemma => kernel_rfl) rfl rfl rfl rfl rfl rfl (fun _ _ _ h => h) (sj_refl hb.bd rfl rfl) (by decide) ?_
    refine dj_pass 96 (e := 110) (by as_aux_lemma => kernel_rfl) (by as_aux_lemma => kernel_rfl) rfl rfl rfl rfl rfl rfl (fun _ _ _ h => h) (sj_refl hb.bd rfl rfl) (by decide) ?_
    refine dj_pass 97 (e := 110) (by as_aux_lemma => kernel_rfl) (by as_aux_lemma => kernel_rfl) rfl rfl rfl rfl rfl rfl (fun _ _ _ h => h) (sj_refl hb.bd rfl rfl) (by decide) ?_
    refine dj_pass 98 (e := 110) (by as_aux_lemma => kernel_rfl) (by as_aux_lemma => kernel_rfl) rfl rfl rfl rfl rfl rfl (fun _ _ _ h => h) (sj_refl hb.bd rfl rfl) (by decide) ?_
    refine dj_pass 99 (e := 110) (by as_aux_lemma => kernel_rfl) (by as_aux_lemma => kernel_rfl) rfl rfl rfl rfl rfl rfl (fun _ _ _ h => h) (sj_refl hb.bd rfl rfl) (by decide) ?_
    refine dj_pass 100 (e := 110) (by as_aux_lemma => kernel_rfl) (by as_aux_lemma => kernel_rfl) rfl rfl rfl rfl rfl rfl (fun _ _ _ h => h) (sj_refl hb.bd rfl rfl) (by decide) ?_
    refine dj_pass 101 (e := 110) (by as_aux_lemma => kernel_rfl) (by as_aux_lemma => kernel_rfl) rfl rfl rfl rfl rfl rfl (fun _ _ _ h => h) (sj_refl hb.bd rfl rfl) (by decide) ?_
    refine dj_pass 102 (e := 110) (by as_aux_lemma => kernel_rfl) (by as_aux_lemma => kernel_rfl) rfl rfl rfl rfl rfl rfl (fun _ _ _ h => h) (sj_refl hb.bd rfl rfl) (by decide) ?_
    refine dj_pass 103 (e := 110) (by as_aux_lemma => kernel_rfl) (by as_aux_lemma => kernel_rfl) rfl rfl rfl rfl rfl rfl (fun _ _ _ h => h) (sj_refl hb.bd rfl rfl) (by decide) ?_
    refine dj_pass 104 (e := 110) (by as_aux_lemma => kernel_rfl) (by as_aux_lemma => kernel_rfl) rfl rfl rfl rfl rfl rfl (fun _ _ _ h => h) (sj_refl hb.bd rfl rfl) (by decide) ?_
    refine dj_pass 105 (e := 110) (by as_aux_lemma => kernel_rfl) (by as_aux_lemma => kernel_rfl) rfl rfl rfl rfl rfl rfl (fun _ _ _ h => h) (sj_refl hb.bd rfl rfl) (by decide) ?_
    refine dj_pass 106 (e := 110) (by as_aux_lemma => kernel_rfl) (by as_aux_lemma => kernel_rfl) rfl rfl rfl rfl rfl rfl (fun _ _ _ h => h) (sj_refl hb.bd rfl rfl) (by decide) ?_
    refine dj_H 107 (v := .bool true) (by as_aux_lemma => kernel_rfl) (by as_aux_lemma => kernel_rfl) rfl (fun _ _ _ h => h) (sj_refl hb.bd rfl rfl) (fun w1 ρ1 hw1 => ev_pick_t rfl rfl rfl) (by decide) ?_
    refine dj_done rfl (by as_aux_lemma => kernel_rfl) ?_
    refine ke_weaken (l' := [(0, vl_0), (1, .int .i64 at_1), (5, .pointer (some ⟨gc_5, 0, none⟩)), (6, .pointer (some ⟨gd_6, 0, none⟩)), (7, .int .i64 i_7), (129, .bool true)]) (.cons rfl (.cons rfl (.cons rfl (.cons rfl (.cons rfl (.cons rfl (.nil _))))))) ?_
    have hK := law32_ConsentPlays_B2_ok hg hbd hz _ hr0 hS hb hl_0 ⟨_, hB527, h526⟩ ⟨_, hB537, h536⟩
    exact ke_weaken (l' := [(0, vl_0), (1, .int .i64 at_1), (5, .pointer (some ⟨gc_5, 0, none⟩)), (6, .pointer (some ⟨gd_6, 0, none⟩)), (7, .int .i64 i_7), (129, .bool true)]) (.cons rfl (.cons rfl (.cons rfl (.cons rfl (.cons rfl (.cons rfl (.nil _))))))) hK
   ·replace hS := ite_false' hS hg539
    refine dj_Hg 14 (v := .pointer (some ⟨gc_5, 0, none⟩)) (by as_aux_lemma => kernel_rfl) (by as_aux_lemma => kernel_rfl) rfl rfl rfl hg539 (fun _ _ _ h => h) (sj_refl hb.bd rfl rfl) (fun w1 ρ1 hw1 => ev_move rfl) (by decide) ?_
    refine dj_Hg 16 (v := .pointer (some ⟨gd_6, 0, none⟩)) (by as_aux_lemma => kernel_rfl) (by as_aux_lemma => kernel_rfl) rfl rfl rfl hg539 (fun _ _ _ h => h) (sj_refl hb.bd rfl rfl) (fun w1 ρ1 hw1 => ev_move rfl) (by decide) ?_
    refine dj_E 15 (by as_aux_lemma => kernel_rfl) rfl ?_
    have jt547 : Tr ρ538 w532 (fun t => ([100, 101, 200, 201] : List Nat).contains t) ρ538 w532 := (Tr.refl hb.bd).weak (fun _ _ => rfl) rfl rfl
    obtain ⟨y548, hy549, hS⟩ := bind_some' hS
    refine sr_callg (b := false) (e := 35) rfl rfl hg539 (vs := [.pointer (some ⟨gc_5, 0, none⟩)]) rfl Try.call14 rfl (consent_Consents_Len_ok _ (hg.fr hz hb) (ρA := ρ538) hb.bd (hz.fr hg hb) (τ0 := (fun p => 100 + p)) (fun p => Nat.le_add_right_of_le (by decide)) (⟨_, hB527, h526⟩ : consent_Consents.O (fun p => 100 + p) ρ538 w532 gc_5 y520.2) hy549) (by decide) ?_
    rintro _ w550 ⟨rfl, hbw551⟩
    have htr552 := Tr.of_below hbw551 hb.bd
    replace hl_0 := hl_0.mv htr552.rd
    replace hB527 := hB527.mv (htr552.mv (i := 100) rfl)
    replace h526 := h526.mv (htr552.mv (i := 101) rfl)
    replace hB537 := hB537.mv (htr552.mv (i := 200) rfl)
    replace h536 := h536.mv (htr552.mv (i := 201) rfl) (by decide)
    replace hb := hb.trans htr552
    replace jt547 := (jt547.trans htr552).weak (J' := (fun t => ([100, 101, 200, 201] : List Nat).contains t)) (by intro t h; simp [rng] at h ⊢ <;> omega) rfl rfl
    refine dj_next (l' := [(0, vl_0), (1, .int .i64 at_1), (5, .pointer (some ⟨gc_5, 0, none⟩)), (6, .pointer (some ⟨gd_6, 0, none⟩)), (7, .int .i64 i_7), (35, .bool (y520.1 != y530.1)), (37, .int .i64 y548), (38, .pointer (some ⟨gd_6, 0, none⟩))]) rfl (.cons rfl (.cons rfl (.cons rfl (.cons rfl (.cons rfl (.cons rfl (.cons rfl (.cons rfl (.nil _))))))))) jt547 (by intro t h; simp [rng] at h ⊢ <;> omega) rfl rfl ?_
    refine dj_E 17 (by as_aux_lemma => kernel_rfl) rfl ?_
    have jt553 : Tr ρ538 w550 (fun t => ([100, 101, 200, 201] : List Nat).contains t) ρ538 w550 := (Tr.refl hb.bd).weak (fun _ _ => rfl) rfl rfl
    obtain ⟨y554, hy555, hS⟩ := bind_some' hS
    refine sr_callg (b := false) (e := 35) rfl rfl hg539 (vs := [.pointer (some ⟨gd_6, 0, none⟩)]) rfl Try.call15 rfl (ref32_Consents_Len_ok _ (hg.fr hz hb) (ρA := ρ538) hb.bd (hz.fr hg hb) (τ0 := (fun p => 200 + p)) (fun p => Nat.le_add_right_of_le (by decide)) (⟨_, hB537, h536⟩ : ref32_Consents.O (fun p => 200 + p) ρ538 w550 gd_6 y530.2) hy555) (by decide) ?_
    rintro _ w556 ⟨rfl, hbw557⟩
    have htr558 := Tr.of_below hbw557 hb.bd
    replace hl_0 := hl_0.mv htr558.rd
    replace hB527 := hB527.mv (htr558.mv (i := 100) rfl)
    replace h526 := h526.mv (htr558.mv (i := 101) rfl)
    replace hB537 := hB537.mv (htr558.mv (i := 200) rfl)
    replace h536 := h536.mv (htr558.mv (i := 201) rfl) (by decide)
    replace hb := hb.trans htr558
    replace jt553 := (jt553.trans htr558).weak (J' := (fun t => ([100, 101, 200, 201] : List Nat).contains t)) (by intro t h; simp [rng] at h ⊢ <;> omega) rfl rfl
    refine dj_next (l' := [(0, vl_0), (1, .int .i64 at_1), (5, .pointer (some ⟨gc_5, 0, none⟩)), (6, .pointer (some ⟨gd_6, 0, none⟩)), (7, .int .i64 i_7), (35, .bool (y520.1 != y530.1)), (37, .int .i64 y548), (39, .int .i64 y554)]) rfl (.cons rfl (.cons rfl (.cons rfl (.cons rfl (.cons rfl (.cons rfl (.cons rfl (.cons rfl (.nil _))))))))) jt553 (by intro t h; simp [rng] at h ⊢ <;> omega) rfl rfl ?_
    refine dj_Hg 18 (v := .bool (y548 != y554)) (by as_aux_lemma => kernel_rfl) (by as_aux_lemma => kernel_rfl) rfl rfl rfl hg539 (fun _ _ _ h => h) (sj_refl hb.bd rfl rfl) (fun w1 ρ1 hw1 => ev_ne rfl rfl) (by decide) ?_
    refine dj_H 19 (v := .bool (y548 != y554)) (by as_aux_lemma => kernel_rfl) (by as_aux_lemma => kernel_rfl) rfl (fun _ _ _ h => h) (sj_refl hb.bd rfl rfl) (fun w1 ρ1 hw1 => ev_pick_f rfl hg539 rfl) (by decide) ?_
    refine dj_H 20 (v := .bool (y548 != y554)) (by as_aux_lemma => kernel_rfl) (by as_aux_lemma => kernel_rfl) rfl (fun _ _ _ h => h) (sj_refl hb.bd rfl rfl) (fun w1 ρ1 hw1 => ev_move rfl) (by decide) ?_
    rcases Bool.eq_false_or_eq_true (y548 != y554) with hg559 | hg559
    ·replace hS := ite_true' hS hg559
     refine dj_pass 21 (e := 42) (by as_aux_lemma => kernel_rfl) (by as_aux_lemma => kernel_rfl) rfl rfl rfl rfl rfl (by rw [hg559]; rfl) (fun _ _ _ h => h) (sj_refl hb.bd rfl rfl) (by decide) ?_
     refine dj_pass 22 (e := 42) (by as_aux_lemma => kernel_rfl) (by as_aux_lemma => kernel_rfl) rfl rfl rfl rfl rfl (by rw [hg559]; rfl) (fun _ _ _ h => h) (sj_refl hb.bd rfl rfl) (by decide) ?_
     refine dj_pass 23 (e := 42) (by as_aux_lemma => kernel_rfl) (by as_aux_lemma => kernel_rfl) rfl rfl rfl rfl rfl (by rw [hg559]; rfl) (fun _ _ _ h => h) (sj_refl hb.bd rfl rfl) (by decide) ?_
     refine dj_pass 24 (e := 42) (by as_aux_lemma => kernel_rfl) (by as_aux_lemma => kernel_rfl) rfl rfl rfl rfl rfl (by rw [hg559]; rfl) (fun _ _ _ h => h) (sj_refl hb.bd rfl rfl) (by decide) ?_
     refine dj_pass 25 (e := 42) (by as_aux_lemma => kernel_rfl) (by as_aux_lemma => kernel_rfl) rfl rfl rfl rfl rfl (by rw [hg559]; rfl) (fun _ _ _ h => h) (sj_refl hb.bd rfl rfl) (by decide) ?_
     refine dj_pass 26 (e := 42) (by as_aux_lemma => kernel_rfl) (by as_aux_lemma => kernel_rfl) rfl rfl rfl rfl rfl (by rw [hg559]; rfl) (fun _ _ _ h => h) (sj_refl hb.bd rfl rfl) (by decide) ?_
     refine dj_pass 27 (e := 42) (by as_aux_lemma => kernel_rfl) (by as_aux_lemma => kernel_rfl) rfl rfl rfl rfl rfl (by rw [hg559]; rfl) (fun _ _ _ h => h) (sj_refl hb.bd rfl rfl) (by decide) ?_
     refine dj_pass 28 (e := 42) (by as_aux_lemma => kernel_rfl) (by as_aux_lemma => kernel_rfl) rfl rfl rfl rfl rfl (by rw [hg559]; rfl) (fun _ _ _ h => h) (sj_refl hb.bd rfl rfl) (by decide) ?_
     refine dj_pass 29 (e := 42) (by as_aux_lemma => kernel_rfl) (by as_aux_lemma => kernel_rfl) rfl rfl rfl rfl rfl (by rw [hg559]; rfl) (fun _ _ _ h => h) (sj_refl hb.bd rfl rfl) (by decide) ?_
     refine dj_pass 30 (e := 42) (by as_aux_lemma => kernel_rfl) (by as_aux_lemma => kernel_rfl) rfl rfl rfl rfl rfl (by rw [hg559]; rfl) (fun _ _ _ h => h) (sj_refl hb.bd rfl rfl) (by decide) ?_
     refine dj_pass 31 (e := 42) (by as_aux_lemma => kernel_rfl) (by as_aux_lemma => kernel_rfl) rfl rfl rfl rfl rfl (by rw [hg559]; rfl) (fun _ _ _ h => h) (sj_refl hb.bd rfl rfl) (by decide) ?_
     refine dj_pass 32 (e := 42) (by as_aux_lemma => kernel_rfl) (by as_aux_lemma => kernel_rfl) rfl rfl rfl rfl rfl (by rw [hg559]; rfl) (fun _ _ _ h => h) (sj_refl hb.bd rfl rfl) (by decide) ?_
     refine dj_pass 33 (e := 42) (by as_aux_lemma => kernel_rfl) (by as_aux_lemma => kernel_rfl) rfl rfl rfl rfl rfl (by rw [hg559]; rfl) (fun _ _ _ h => h) (sj_refl hb.bd rfl rfl) (by decide) ?_
     refine dj_pass 34 (e := 42) (by as_aux_lemma => kernel_rfl) (by as_aux_lemma => kernel_rfl) rfl rfl rfl rfl rfl (by rw [hg559]; rfl) (fun _ _ _ h => h) (sj_refl hb.bd rfl rfl) (by decide) ?_
     refine dj_pass 35 (e := 42) (by as_aux_lemma => kernel_rfl) (by as_aux_lemma => kernel_rfl) rfl rfl rfl rfl rfl (by rw [hg559]; rfl) (fun _ _ _ h => h) (sj_refl hb.bd rfl rfl) (by decide) ?_
     refine dj_pass 36 (e := 42) (by as_aux_lemma => kernel_rfl) (by as_aux_lemma => kernel_rfl) rfl rfl rfl rfl rfl (by rw [hg559]; rfl) (fun _ _ _ h => h) (sj_refl hb.bd rfl rfl) (by decide) ?_
     refine dj_pass 37 (e := 42) (by as_aux_lemma => kernel_rfl) (by as_aux_lemma => kernel_rfl) rfl rfl rfl rfl rfl (by rw [hg559]; rfl) (fun _ _ _ h => h) (sj_refl hb.bd rfl rfl) (by decide) ?_
     refine dj_pass 38 (e := 42) (by as_aux_lemma => kernel_rfl) (by as_aux_lemma => kernel_rfl) rfl rfl rfl rfl rfl (by rw [hg559]; rfl) (fun _ _ _ h => h) (sj_refl hb.bd rfl rfl) (by decide) ?_
     refine dj_pass 39 (e := 42) (by as_aux_lemma => kernel_rfl) (by as_aux_lemma => kernel_rfl) rfl rfl rfl rfl rfl (by rw [hg559]; rfl) (fun _ _ _ h => h) (sj_refl hb.bd rfl rfl) (by decide) ?_
     refine dj_pass 40 (e := 42) (by as_aux_lemma => kernel_rfl) (by as_aux_lemma => kernel_rfl) rfl rfl rfl rfl rfl (by rw [hg559]; rfl) (fun _ _ _ h => h) (sj_refl hb.bd rfl rfl) (by decide) ?_
     refine dj_pass 41 (e := 42) (by as_aux_lemma => kernel_rfl) (by as_aux_lemma => kernel_rfl) rfl rfl rfl rfl rfl (by rw [hg559]; rfl) (fun _ _ _ h => h) (sj_refl hb.bd rfl rfl) (by decide) ?_
     refine dj_pass 42 (e := 42) (by as_aux_lemma => kernel_rfl) (by as_aux_lemma => kernel_rfl) rfl rfl rfl rfl rfl (by rw [hg559]; rfl) (fun _ _ _ h => h) (sj_refl hb.bd rfl rfl) (by decide) ?_
     refine dj_pass 43 (e := 42) (by as_aux_lemma => kernel_rfl) (by as_aux_lemma => kernel_rfl) rfl rfl rfl rfl rfl (by rw [hg559]; rfl) (fun _ _ _ h => h) (sj_refl hb.bd rfl rfl) (by decide) ?_
     refine dj_pass 44 (e := 42) (by as_aux_lemma => kernel_rfl) (by as_aux_lemma => kernel_rfl) rfl rfl rfl rfl rfl (by rw [hg559]; rfl) (fun _ _ _ h => h) (sj_refl hb.bd rfl rfl) (by decide) ?_
     refine dj_pass 45 (e := 42) (by as_aux_lemma => kernel_rfl) (by as_aux_lemma => kernel_rfl) rfl rfl rfl rfl rfl (by rw [hg559]; rfl) (fun _ _ _ h => h) (sj_refl hb.bd rfl rfl) (by decide) ?_
     refine dj_pass 46 (e := 42) (by as_aux_lemma => kernel_rfl) (by as_aux_lemma => kernel_rfl) rfl rfl rfl rfl rfl (by rw [hg559]; rfl) (fun _ _ _ h => h) (sj_refl hb.bd rfl rfl) (by decide) ?_
     refine dj_pass 47 (e := 42) (by as_aux_lemma => kernel_rfl) (by as_aux_lemma => kernel_rfl) rfl rfl rfl rfl rfl (by rw [hg559]; rfl) (fun _ _ _ h => h) (sj_refl hb.bd rfl rfl) (by decide) ?_
     refine dj_pass 48 (e := 42) (by as_aux_lemma => kernel_rfl) (by as_aux_lemma => kernel_rfl) rfl rfl rfl rfl rfl (by rw [hg559]; rfl) (fun _ _ _ h => h) (sj_refl hb.bd rfl rfl) (by decide) ?_
     refine dj_H 49 (v := .bool true) (by as_aux_lemma => kernel_rfl) (by as_aux_lemma => kernel_rfl) rfl (fun _ _ _ h => h) (sj_refl hb.bd rfl rfl) (fun w1 ρ1 hw1 => ev_pick_t rfl hg559 rfl) (by decide) ?_
     refine dj_H 50 (v := .bool true) (by as_aux_lemma => kernel_rfl) (by as_aux_lemma => kernel_rfl) rfl (fun _ _ _ h => h) (sj_refl hb.bd rfl rfl) (fun w1 ρ1 hw1 => ev_move rfl) (by decide) ?_
     refine dj_pass 51 (e := 72) (by as_aux_lemma => kernel_rfl) (by as_aux_lemma => kernel_rfl) rfl rfl rfl rfl rfl rfl (fun _ _ _ h => h) (sj_refl hb.bd rfl rfl) (by decide) ?_
     refine dj_pass 52 (e := 72) (by as_aux_lemma => kernel_rfl) (by as_aux_lemma => kernel_rfl) rfl rfl rfl rfl rfl rfl (fun _ _ _ h => h) (sj_refl hb.bd rfl rfl) (by decide) ?_
     refine dj_pass 53 (e := 72) (by as_aux_lemma => kernel_rfl) (by as_aux_lemma => kernel_rfl) rfl rfl rfl rfl rfl rfl (fun _ _ _ h => h) (sj_refl hb.bd rfl rfl) (by decide) ?_
     refine dj_pass 54 (e := 72) (by as_aux_lemma => kernel_rfl) (by as_aux_lemma => kernel_rfl) rfl rfl rfl rfl rfl rfl (fun _ _ _ h => h) (sj_refl hb.bd rfl rfl) (by decide) ?_
     refine dj_pass 55 (e := 72) (by as_aux_lemma => kernel_rfl) (by as_aux_lemma => kernel_rfl) rfl rfl rfl rfl rfl rfl (fun _ _ _ h => h) (sj_refl hb.bd rfl rfl) (by decide) ?_
     refine dj_pass 56 (e := 72) (by as_aux_lemma => kernel_rfl) (by as_aux_lemma => kernel_rfl) rfl rfl rfl rfl rfl rfl (fun _ _ _ h => h) (sj_refl hb.bd rfl rfl) (by decide) ?_
     refine dj_pass 57 (e := 72) (by as_aux_lemma => kernel_rfl) (by as_aux_lemma => kernel_rfl) rfl rfl rfl rfl rfl rfl (fun _ _ _ h => h) (sj_refl hb.bd rfl rfl) (by decide) ?_
     refine dj_pass 58 (e := 72) (by as_aux_lemma => kernel_rfl) (by as_aux_lemma => kernel_rfl) rfl rfl rfl rfl rfl rfl (fun _ _ _ h => h) (sj_refl hb.bd rfl rfl) (by decide) ?_
     refine dj_pass 59 (e := 72) (by as_aux_lemma => kernel_rfl) (by as_aux_lemma => kernel_rfl) rfl rfl rfl rfl rfl rfl (fun _ _ _ h => h) (sj_refl hb.bd rfl rfl) (by decide) ?_
     refine dj_pass 60 (e := 72) (by as_aux_lemma => kernel_rfl) (by as_aux_lemma => kernel_rfl) rfl rfl rfl rfl rfl rfl (fun _ _ _ h => h) (sj_refl hb.bd rfl rfl) (by decide) ?_
     refine dj_pass 61 (e := 72) (by as_aux_lemma => kernel_rfl) (by as_aux_lemma => kernel_rfl) rfl rfl rfl rfl rfl rfl (fun _ _ _ h => h) (sj_refl hb.bd rfl rfl) (by decide) ?_
     refine dj_pass 62 (e := 72) (by as_aux_lemma => kernel_rfl) (by as_aux_lemma => kernel_rfl) rfl rfl rfl rfl rfl rfl (fun _ _ _ h => h) (sj_refl hb.bd rfl rfl) (by decide) ?_
     refine dj_pass 63 (e := 72) (by as_aux_lemma => kernel_rfl) (by as_aux_lemma => kernel_rfl) rfl rfl rfl rfl rfl rfl (fun _ _ _ h => h) (sj_refl hb.bd rfl rfl) (by decide) ?_
     refine dj_pass 64 (e := 72) (by as_aux_lemma => kernel_rfl) (by as_aux_lemma => kernel_rfl) rfl rfl rfl rfl rfl rfl (fun _ _ _ h => h) (sj_refl hb.bd rfl rfl) (by decide) ?_
     refine dj_pass 65 (e := 72) (by as_aux_lemma => kernel_rfl) (by as_aux_lemma => kernel_rfl) rfl rfl rfl rfl rfl rfl (fun _ _ _ h => h) (sj_refl hb.bd rfl rfl) (by decide) ?_
     refine dj_pass 66 (e := 72) (by as_aux_lemma => kernel_rfl) (by as_aux_lemma => kernel_rfl) rfl rfl rfl rfl rfl rfl (fun _ _ _ h => h) (sj_refl hb.bd rfl rfl) (by decide) ?_
     refine dj_pass 67 (e := 72) (by as_aux_lemma => kernel_rfl) (by as_aux_lemma => kernel_rfl) rfl rfl rfl rfl rfl rfl (fun _ _ _ h => h) (sj_refl hb.bd rfl rfl) (by decide) ?_
     refine dj_pass 68 (e := 72) (by as_aux_lemma => kernel_rfl) (by as_aux_lemma => kernel_rfl) rfl rfl rfl rfl rfl rfl (fun _ _ _ h => h) (sj_refl hb.bd rfl rfl) (by decide) ?_
     refine dj_pass 69 (e := 72) (by as_aux_lemma => kernel_rfl) (by as_aux_lemma => kernel_rfl) rfl rfl rfl rfl rfl rfl (fun _ _ _ h => h) (sj_refl hb.bd rfl rfl) (by decide) ?_
     refine dj_pass 70 (e := 72) (by as_aux_lemma => kernel_rfl) (by as_aux_lemma => kernel_rfl) rfl rfl rfl rfl rfl rfl (fun _ _ _ h => h) (sj_refl hb.bd rfl rfl) (by decide) ?_
     refine dj_pass 71 (e := 72) (by as_aux_lemma => kernel_rfl) (by as_aux_lemma => kernel_rfl) rfl rfl rfl rfl rfl rfl (fun _ _ _ h => h) (sj_refl hb.bd rfl rfl) (by decide) ?_
     refine dj_pass 72 (e := 72) (by as_aux_lemma => kernel_rfl) (by as_aux_lemma => kernel_rfl) rfl rfl rfl rfl rfl rfl (fun _ _ _ h => h) (sj_refl hb.bd rfl rfl) (by decide) ?_
     refine dj_pass 73 (e := 72) (by as_aux_lemma => kernel_rfl) (by as_aux_lemma => kernel_rfl) rfl rfl rfl rfl rfl rfl (fun _ _ _ h => h) (sj_refl hb.bd rfl rfl) (by decide) ?_
     refine dj_pass 74 (e := 72) (by as_aux_lemma => kernel_rfl) (by as_aux_lemma => kernel_rfl) rfl rfl rfl rfl rfl rfl (fun _ _ _ h => h) (sj_refl hb.bd rfl rfl) (by decide) ?_
     refine dj_pass 75 (e := 72) (by as_aux_lemma => kernel_rfl) (by as_aux_lemma => kernel_rfl) rfl rfl rfl rfl rfl rfl (fun _ _ _ h => h) (sj_refl hb.bd rfl rfl) (by decide) ?_
     refine dj_pass 76 (e := 72) (by as_aux_lemma => kernel_rfl) (by as_aux_lemma => kernel_rfl) rfl rfl rfl rfl rfl rfl (fun _ _ _ h => h) (sj_refl hb.bd rfl rfl) (by decide) ?_
     refine dj_pass 77 (e := 72) (by as_aux_lemma => kernel_rfl) (by as_aux_lemma => kernel_rfl) rfl rfl rfl rfl rfl rfl (fun _ _ _ h => h) (sj_refl hb.bd rfl rfl) (by decide) ?_
     refine dj_pass 78 (e := 72) (by as_aux_lemma => kernel_rfl) (by as_aux_lemma => kernel_rfl) rfl rfl rfl rfl rfl rfl (fun _ _ _ h => h) (sj_refl hb.bd rfl rfl) (by decide) ?_
     refine dj_pass 79 (e := 72) (by as_aux_lemma => kernel_rfl) (by as_aux_lemma => kernel_rfl) rfl rfl rfl rfl rfl rfl (fun _ _ _ h => h) (sj_refl hb.bd rfl rfl) (by decide) ?_
     refine dj_pass 80 (e := 72) (by as_aux_lemma => kernel_rfl) (by as_aux_lemma => kernel_rfl) rfl rfl rfl rfl rfl rfl (fun _ _ _ h => h) (sj_refl hb.bd rfl rfl) (by decide) ?_
     refine dj_pass 81 (e := 72) (by as_aux_lemma => kernel_rfl) (by as_aux_lemma => kernel_rfl) rfl rfl rfl rfl rfl rfl (fun _ _ _ h => h) (sj_refl hb.bd rfl rfl) (by decide) ?_
     refine dj_pass 82 (e := 72) (by as_aux_lemma => kernel_rfl) (by as_aux_lemma => kernel_rfl) rfl rfl rfl rfl rfl rfl (fun _ _ _ h => h) (sj_refl hb.bd rfl rfl) (by decide) ?_
     refine dj_pass 83 (e := 72) (by as_aux_lemma => kernel_rfl) (by as_aux_lemma => kernel_rfl) rfl rfl rfl rfl rfl rfl (fun _ _ _ h => h) (sj_refl hb.bd rfl rfl) (by decide) ?_
     refine dj_pass 84 (e := 72) (by as_aux_lemma => kernel_rfl) (by as_aux_lemma => kernel_rfl) rfl rfl rfl rfl rfl rfl (fun _ _ _ h => h) (sj_refl hb.bd rfl rfl) (by decide) ?_
     refine dj_pass 85 (e := 72) (by as_aux_lemma => kernel_rfl) (by as_aux_lemma => kernel_rfl) rfl rfl rfl rfl rfl rfl (fun _ _ _ h => h) (sj_refl hb.bd rfl rfl) (by decide) ?_
     refine dj_pass 86 (e := 72) (by as_aux_lemma => kernel_rfl) (by as_aux_lemma => kernel_rfl) rfl rfl rfl rfl rfl rfl (fun _ _ _ h => h) (sj_refl hb.bd rfl rfl) (by decide) ?_
     refine dj_H 87 (v := .bool true) (by as_aux_lemma => kernel_rfl) (by as_aux_lemma => kernel_rfl) rfl (fun _ _ _ h => h) (sj_refl hb.bd rfl rfl) (fun w1 ρ1 hw1 => ev_pick_t rfl rfl rfl) (by decide) ?_
     refine dj_H 88 (v := .bool true) (by as_aux_lemma => kernel_rfl) (by as_aux_lemma => kernel_rfl) rfl (fun _ _ _ h => h) (sj_refl hb.bd rfl rfl) (fun w1 ρ1 hw1 => ev_move rfl) (by decide) ?_
     refine dj_pass 89 (e := 110) (by as_aux_lemma => kernel_rfl) (by as_aux_lemma => kernel_rfl) rfl rfl rfl rfl rfl rfl (fun _ _ _ h => h) (sj_refl hb.bd rfl rfl) (by decide) ?_
     refine dj_pass 90 (e := 110) (by as_aux_lemma => kernel_rfl) (by as_aux_lemma => kernel_rfl) rfl rfl rfl rfl rfl rfl (fun _ _ _ h => h) (sj_refl hb.bd rfl rfl) (by decide) ?_
     refine dj_pass 91 (e := 110) (by as_aux_lemma => kernel_rfl) (by as_aux_lemma => kernel_rfl) rfl rfl rfl rfl rfl rfl (fun _ _ _ h => h) (sj_refl hb.bd rfl rfl) (by decide) ?_
     refine dj_pass 92 (e := 110) (by as_aux_lemma => kernel_rfl) (by as_aux_lemma => kernel_rfl) rfl rfl rfl rfl rfl rfl (fun _ _ _ h => h) (sj_refl hb.bd rfl rfl) (by decide) ?_
     refine dj_pass 93 (e := 110) (by as_aux_lemma => kernel_rfl) (by as_aux_lemma => kernel_rfl) rfl rfl rfl rfl rfl rfl (fun _ _ _ h => h) (sj_refl hb.bd rfl rfl) (by decide) ?_
     refine dj_pass 94 (e := 110) (by as_aux_lemma => kernel_rfl) (by as_aux_lemma => kernel_rfl) rfl rfl rfl rfl rfl rfl (fun _ _ _ h => h) (sj_refl hb.bd rfl rfl) (by decide) ?_
     refine dj_pass 95 (e := 110) (by as_aux_lemma => kernel_rfl) (by as_aux_lemma => kernel_rfl) rfl rfl rfl rfl rfl rfl (fun _ _ _ h => h) (sj_refl hb.bd rfl rfl) (by decide) ?_
     refine dj_pass 96 (e := 110) (by as_aux_lemma => kernel_rfl) (by as_aux_lemma => kernel_rfl) rfl rfl rfl rfl rfl rfl (fun _ _ _ h => h) (sj_refl hb.bd rfl rfl) (by decide) ?_
     refine dj_pass 97 (e := 110) (by as_aux_lemma => kernel_rfl) (by as_aux_lemma => kernel_rfl) rfl rfl rfl rfl rfl rfl (fun _ _ _ h => h) (sj_refl hb.bd rfl rfl) (by decide) ?_
     refine dj_pass 98 (e := 110) (by as_aux_lemma => kernel_rfl) (by as_aux_lemma => kernel_rfl) rfl rfl rfl rfl rfl rfl (fun _ _ _ h => h) (sj_refl hb.bd rfl rfl) (by decide) ?_
     refine dj_pass 99 (e := 110) (by as_aux_lemma => kernel_rfl) (by as_aux_lemma => kernel_rfl) rfl rfl rfl rfl rfl rfl (fun _ _ _ h => h) (sj_refl hb.bd rfl rfl) (by decide) ?_
     refine dj_pass 100 (e := 110) (by as_aux_lemma => kernel_rfl) (by as_aux_lemma => kernel_rfl) rfl rfl rfl rfl rfl rfl (fun _ _ _ h => h) (sj_refl hb.bd rfl rfl) (by decide) ?_
     refine dj_pass 101 (e := 110) (by as_aux_lemma => kernel_rfl) (by as_aux_lemma => kernel_rfl) rfl rfl rfl rfl rfl rfl (fun _ _ _ h => h) (sj_refl hb.bd rfl rfl) (by decide) ?_
     refine dj_pass 102 (e := 110) (by as_aux_lemma => kernel_rfl) (by as_aux_lemma => kernel_rfl) rfl rfl rfl rfl rfl rfl (fun _ _ _ h => h) (sj_refl hb.bd rfl rfl) (by decide) ?_
     refine dj_pass 103 (e := 110) (by as_aux_lemma => kernel_rfl) (by as_aux_lemma => kernel_rfl) rfl rfl rfl rfl rfl rfl (fun _ _ _ h => h) (sj_refl hb.bd rfl rfl) (by decide) ?_
     refine dj_pass 104 (e := 110) (by as_aux_lemma => kernel_rfl) (by as_aux_lemma => kernel_rfl) rfl rfl rfl rfl rfl rfl (fun _ _ _ h => h) (sj_refl hb.bd rfl rfl) (by decide) ?_
     refine dj_pass 105 (e := 110) (by as_aux_lemma => kernel_rfl) (by as_aux_lemma => kernel_rfl) rfl rfl rfl rfl rfl rfl (fun _ _ _ h => h) (sj_refl hb.bd rfl rfl) (by decide) ?_
     refine dj_pass 106 (e := 110) (by as_aux_lemma => kernel_rfl) (by as_aux_lemma => kernel_rfl) rfl rfl rfl rfl rfl rfl (fun _ _ _ h => h) (sj_refl hb.bd rfl rfl) (by decide) ?_
     refine dj_H 107 (v := .bool true) (by as_aux_lemma => kernel_rfl) (by as_aux_lemma => kernel_rfl) rfl (fun _ _ _ h => h) (sj_refl hb.bd rfl rfl) (fun w1 ρ1 hw1 => ev_pick_t rfl rfl rfl) (by decide) ?_
     refine dj_done rfl (by as_aux_lemma => kernel_rfl) ?_
     refine ke_weaken (l' := [(0, vl_0), (1, .int .i64 at_1), (5, .pointer (some ⟨gc_5, 0, none⟩)), (6, .pointer (some ⟨gd_6, 0, none⟩)), (7, .int .i64 i_7), (129, .bool true)]) (.cons rfl (.cons rfl (.cons rfl (.cons rfl (.cons rfl (.cons rfl (.nil _))))))) ?_
     have hK := law32_ConsentPlays_B2_ok hg hbd hz _ hr0 hS hb hl_0 ⟨_, hB527, h526⟩ ⟨_, hB537, h536⟩
     exact ke_weaken (l' := [(0, vl_0), (1, .int .i64 at_1), (5, .pointer (some ⟨gc_5, 0, none⟩)), (6, .pointer (some ⟨gd_6, 0, none⟩)), (7, .int .i64 i_7), (129, .bool true)]) (.cons rfl (.cons rfl (.cons rfl (.cons rfl (.cons rfl (.cons rfl (.nil _))))))) hK
    ·replace hS := ite_false' hS hg559
     refine dj_Hg 21 (v := .pointer (some ⟨gc_5, 0, none⟩)) (by as_aux_lemma => kernel_rfl) (by as_aux_lemma => kernel_rfl) rfl rfl rfl hg559 (fun _ _ _ h => h) (sj_refl hb.bd rfl rfl) (fun w1 ρ1 hw1 => ev_move rfl) (by decide) ?_
     refine dj_Hg 22 (v := vl_0) (by as_aux_lemma => kernel_rfl) (by as_aux_lemma => kernel_rfl) rfl rfl rfl hg559 (fun _ _ _ h => h) (sj_refl hb.bd rfl rfl) (fun w1 ρ1 hw1 => ev_move rfl) (by decide) ?_
     refine dj_Hg 23 (v := .int .i64 i_7) (by as_aux_lemma => kernel_rfl) (by as_aux_lemma => kernel_rfl) rfl rfl rfl hg559 (fun _ _ _ h => h) (sj_refl hb.bd rfl rfl) (fun w1 ρ1 hw1 => ev_move rfl) (by decide) ?_
     obtain ⟨y560, hy561, hS⟩ := bind_some' hS
     obtain ⟨b562, o563, cs565, hq566, he564⟩ := ((SlT.of_sl (i := 0) hl_0)).elem (P := Try.prog) Try.underlying22 Try.info32 rfl hy561
     obtain ⟨v567, hcshe564, h568⟩ := he564.rd
     obtain rfl : cs565 = [.int .i64 y560.Call, .int .i64 y560.Until, .int .i64 y560.Now, str y560.User, str y560.Client, v567] := hcshe564
     refine dj_Hg 24 (v := .pointer (some ⟨b562, o563, none⟩)) (by as_aux_lemma => kernel_rfl) (by as_aux_lemma => kernel_rfl) rfl rfl rfl hg559 (fun _ _ _ h => h) (sj_refl hb.bd rfl rfl) (fun w1 ρ1 hw1 => hq566 w1 rfl rfl) (by decide) ?_
     refine dj_Hg 25 (v := .pointer (some ⟨b562, o563 + 3, none⟩)) (by as_aux_lemma => kernel_rfl) (by as_aux_lemma => kernel_rfl) rfl rfl rfl hg559 (fun _ _ _ h => h) (sj_refl hb.bd rfl rfl) (fun w1 ρ1 hw1 => ev_fieldAddr (i := 3) Try.underlying32 rfl Try.info9 rfl rfl) (by decide) ?_
     refine dj_Hg 26 (v := str y560.User) (by as_aux_lemma => kernel_rfl) (by as_aux_lemma => kernel_rfl) rfl rfl rfl hg559 (fun _ _ _ h => h) (sj_refl hb.bd rfl rfl) (fun w1 ρ1 hw1 => ev_load Try.isAgg9 rfl ((he564.mv (hw1.mv (i := 0) rfl) (Nat.succ_pos _)).cell 3 _ rfl)) (by decide) ?_
     refine dj_Hg 27 (v := vl_0) (by as_aux_lemma => kernel_rfl) (by as_aux_lemma => kernel_rfl) rfl rfl rfl hg559 (fun _ _ _ h => h) (sj_refl hb.bd rfl rfl) (fun w1 ρ1 hw1 => ev_move rfl) (by decide) ?_
     refine dj_Hg 28 (v := .int .i64 i_7) (by as_aux_lemma => kernel_rfl) (by as_aux_lemma => kernel_rfl) rfl rfl rfl hg559 (fun _ _ _ h => h) (sj_refl hb.bd rfl rfl) (fun w1 ρ1 hw1 => ev_move rfl) (by decide) ?_
     obtain ⟨y569, hy570, hS⟩ := bind_some' hS
     obtain ⟨b571, o572, cs574, hq575, he573⟩ := ((SlT.of_sl (i := 0) hl_0)).elem (P := Try.prog) Try.underlying22 Try.info32 rfl hy570
     obtain ⟨v576, hcshe573, h577⟩ := he573.rd
     obtain rfl : cs574 = [.int .i64 y569.Call, .int .i64 y569.Until, .int .i64 y569.Now, str y569.User, str y569.Client, v576] := hcshe573
     refine dj_Hg 29 (v := .pointer (some ⟨b571, o572, none⟩)) (by as_aux_lemma => kernel_rfl) (by as_aux_lemma => kernel_rfl) rfl rfl rfl hg559 (fun _ _ _ h => h) (sj_refl hb.bd rfl rfl) (fun w1 ρ1 hw1 => hq575 w1 rfl rfl) (by decide) ?_
     refine dj_Hg 30 (v := .pointer (some ⟨b571, o572 + 4, none⟩)) (by as_aux_lemma => kernel_rfl) (by as_aux_lemma => kernel_rfl) rfl rfl rfl hg559 (fun _ _ _ h => h) (sj_refl hb.bd rfl rfl) (fun w1 ρ1 hw1 => ev_fieldAddr (i := 4) Try.underlying32 rfl Try.info9 rfl rfl) (by decide) ?_
     refine dj_Hg 31 (v := str y569.Client) (by as_aux_lemma => kernel_rfl) (by as_aux_lemma => kernel_rfl) rfl rfl rfl hg559 (fun _ _ _ h => h) (sj_refl hb.bd rfl rfl) (fun w1 ρ1 hw1 => ev_load Try.isAgg9 rfl ((he573.mv (hw1.mv (i := 0) rfl) (Nat.succ_pos _)).cell 4 _ rfl)) (by decide) ?_
     refine dj_Hg 32 (v := .int .i64 at_1) (by as_aux_lemma => kernel_rfl) (by as_aux_lemma => kernel_rfl) rfl rfl rfl hg559 (fun _ _ _ h => h) (sj_refl hb.bd rfl rfl) (fun w1 ρ1 hw1 => ev_move rfl) (by decide) ?_
     refine dj_Hg 34 (v := .pointer (some ⟨gd_6, 0, none⟩)) (by as_aux_lemma => kernel_rfl) (by as_aux_lemma => kernel_rfl) rfl rfl rfl hg559 (fun _ _ _ h => h) (sj_refl hb.bd rfl rfl) (fun w1 ρ1 hw1 => ev_move rfl) (by decide) ?_
     refine dj_Hg 35 (v := vl_0) (by as_aux_lemma => kernel_rfl) (by as_aux_lemma => kernel_rfl) rfl rfl rfl hg559 (fun _ _ _ h => h) (sj_refl hb.bd rfl rfl) (fun w1 ρ1 hw1 => ev_move rfl) (by decide) ?_
     refine dj_Hg 36 (v := .int .i64 i_7) (by as_aux_lemma => kernel_rfl) (by as_aux_lemma => kernel_rfl) rfl rfl rfl hg559 (fun _ _ _ h => h) (sj_refl hb.bd rfl rfl) (fun w1 ρ1 hw1 => ev_move rfl) (by decide) ?_
     obtain ⟨y578, hy579, hS⟩ := bind_some' hS
     obtain ⟨b580, o581, cs583, hq584, he582⟩ := ((SlT.of_sl (i := 0) hl_0)).elem (P := Try.prog) Try.underlying22 Try.info32 rfl hy579
     obtain ⟨v585, hcshe582, h586⟩ := he582.rd
     obtain rfl : cs583 = [.int .i64 y578.Call, .int .i64 y578.Until, .int .i64 y578.Now, str y578.User, str y578.Client, v585] := hcshe582
     refine dj_Hg 37 (v := .pointer (some ⟨b580, o581, none⟩)) (by as_aux_lemma => kernel_rfl) (by as_aux_lemma => kernel_rfl) rfl rfl rfl hg559 (fun _ _ _ h => h) (sj_refl hb.bd rfl rfl) (fun w1 ρ1 hw1 => hq584 w1 rfl rfl) (by decide) ?_
     refine dj_Hg 38 (v := .pointer (some ⟨b580, o581 + 3, none⟩)) (by as_aux_lemma => kernel_rfl) (by as_aux_lemma => kernel_rfl) rfl rfl rfl hg559 (fun _ _ _ h => h) (sj_refl hb.bd rfl rfl) (fun w1 ρ1 hw1 => ev_fieldAddr (i := 3) Try.underlying32 rfl Try.info9 rfl rfl) (by decide) ?_
     refine dj_Hg 39 (v := str y578.User) (by as_aux_lemma => kernel_rfl) (by as_aux_lemma => kernel_rfl) rfl rfl rfl hg559 (fun _ _ _ h => h) (sj_refl hb.bd rfl rfl) (fun w1 ρ1 hw1 => ev_load Try.isAgg9 rfl ((he582.mv (hw1.mv (i := 0) rfl) (Nat.succ_pos _)).cell 3 _ rfl)) (by decide) ?_
     refine dj_Hg 40 (v := vl_0) (by as_aux_lemma => kernel_rfl) (by as_aux_lemma => kernel_rfl) rfl rfl rfl hg559 (fun _ _ _ h => h) (sj_refl hb.bd rfl rfl) (fun w1 ρ1 hw1 => ev_move rfl) (by decide) ?_
     refine dj_Hg 41 (v := .int .i64 i_7) (by as_aux_lemma => kernel_rfl) (by as_aux_lemma => kernel_rfl) rfl rfl rfl hg559 (fun _ _ _ h => h) (sj_refl hb.bd rfl rfl) (fun w1 ρ1 hw1 => ev_move rfl) (by decide) ?_
     obtain ⟨y587, hy588, hS⟩ := bind_some' hS
     obtain ⟨b589, o590, cs592, hq593, he591⟩ := ((SlT.of_sl (i := 0) hl_0)).elem (P := Try.prog) Try.underlying22 Try.info32 rfl hy588
     obtain ⟨v594, hcshe591, h595⟩ := he591.rd
     obtain rfl : cs592 = [.int .i64 y587.Call, .int .i64 y587.Until, .int .i64 y587.Now, str y587.User, str y587.Client, v594] := hcshe591
     refine dj_Hg 42 (v := .pointer (some ⟨b589, o590, none⟩)) (by as_aux_lemma => kernel_rfl) (by as_aux_lemma => kernel_rfl) rfl rfl rfl hg559 (fun _ _ _ h => h) (sj_refl hb.bd rfl rfl) (fun w1 ρ1 hw1 => hq593 w1 rfl rfl) (by decide) ?_
     refine dj_Hg 43 (v := .pointer (some ⟨b589, o590 + 4, none⟩)) (by as_aux_lemma => kernel_rfl) (by as_aux_lemma => kernel_rfl) rfl rfl rfl hg559 (fun _ _ _ h => h) (sj_refl hb.bd rfl rfl) (fun w1 ρ1 hw1 => ev_fieldAddr (i := 4) Try.underlying32 rfl Try.info9 rfl rfl) (by decide) ?_
     refine dj_Hg 44 (v := str y587.Client) (by as_aux_lemma => kernel_rfl) (by as_aux_lemma => kernel_rfl) rfl rfl rfl hg559 (fun _ _ _ h => h) (sj_refl hb.bd rfl rfl) (fun w1 ρ1 hw1 => ev_load Try.isAgg9 rfl ((he591.mv (hw1.mv (i := 0) rfl) (Nat.succ_pos _)).cell 4 _ rfl)) (by decide) ?_
     refine dj_Hg 45 (v := .int .i64 at_1) (by as_aux_lemma => kernel_rfl) (by as_aux_lemma => kernel_rfl) rfl rfl rfl hg559 (fun _ _ _ h => h) (sj_refl hb.bd rfl rfl) (fun w1 ρ1 hw1 => ev_move rfl) (by decide) ?_
     refine dj_E 33 (by as_aux_lemma => kernel_rfl) rfl ?_
     have jt596 : Tr ρ538 w556 (fun t => ([100, 101, 200, 201] : List Nat).contains t) ρ538 w556 := (Tr.refl hb.bd).weak (fun _ _ => rfl) rfl rfl
     obtain ⟨y597, hy598, hS⟩ := bind_some' hS
     refine sr_callg (b := false) (e := 42) rfl rfl hg559 (vs := [.pointer (some ⟨gc_5, 0, none⟩), str y560.User, str y569.Client, .int .i64 at_1]) rfl Try.call17 rfl (consent_Consents_Scopes_ok _ (hg.fr hz hb) (ρA := ρ538) hb.bd (hz.fr hg hb) (τ0 := (fun p => 100 + p)) (fun p => Nat.le_add_right_of_le (by decide)) (⟨_, hB527, h526⟩ : consent_Consents.O (fun p => 100 + p) ρ538 w556 gc_5 y520.2) hy598) (by decide) ?_
     rintro v602 w599 ⟨_, rfl, h603, hbw600⟩
     have htr601 := Tr.of_below hbw600 hb.bd
     replace hl_0 := hl_0.mv htr601.rd
     replace hB527 := hB527.mv (htr601.mv (i := 100) rfl)
     replace h526 := h526.mv (htr601.mv (i := 101) rfl)
     replace hB537 := hB537.mv (htr601.mv (i := 200) rfl)
     replace h536 := h536.mv (htr601.mv (i := 201) rfl) (by decide)
     replace hb := hb.trans htr601
     replace jt596 := (jt596.trans htr601).weak (J' := (fun t => ([100, 101, 200, 201] : List Nat).contains t)) (by intro t h; simp [rng] at h ⊢ <;> omega) rfl rfl
     refine dj_next (l' := [(0, vl_0), (1, .int .i64 at_1), (5, .pointer (some ⟨gc_5, 0, none⟩)), (6, .pointer (some ⟨gd_6, 0, none⟩)), (7, .int .i64 i_7), (42, .bool (y548 != y554)), (55, v602), (56, .pointer (some ⟨gd_6, 0, none⟩)), (61, str y578.User), (66, str y587.Client), (67, .int .i64 at_1)]) rfl (.cons rfl (.cons rfl (.cons rfl (.cons rfl (.cons rfl (.cons rfl (.cons rfl (.cons rfl (.cons rfl (.cons rfl (.cons rfl (.nil _)))))))))))) jt596 (by intro t h; simp [rng] at h ⊢ <;> omega) rfl rfl ?_
     refine dj_E 46 (by as_aux_lemma => kernel_rfl) rfl ?_
     have jt604 : Tr ρ538 w599 (fun t => ([100, 101, 200, 201] : List Nat).contains t) ρ538 w599 := (Tr.refl hb.bd).weak (fun _ _ => rfl) rfl rfl
     obtain ⟨y605, hy606, hS⟩ := bind_some' hS
     refine sr_callg (b := false) (e := 42) rfl rfl hg559 (vs := [.pointer (some ⟨gd_6, 0, none⟩), str y578.User, str y587.Client, .int .i64 at_1]) rfl Try.call18 rfl (ref32_Consents_Scopes_ok _ (hg.fr hz hb) (ρA := ρ538) hb.bd (hz.fr hg hb) (τ0 := (fun p => 200 + p)) (fun p => Nat.le_add_right_of_le (by decide)) (⟨_, hB537, h536⟩ : ref32_Consents.O (fun p => 200 + p) ρ538 w599 gd_6 y530.2) hy606) (by decide) ?_
     rintro v610 w607 ⟨_, rfl, h611, hbw608⟩
     have htr609 := Tr.of_below hbw608 hb.bd
     replace hl_0 := hl_0.mv htr609.rd
     replace h603 := h603.mv htr609.rd
     replace hB527 := hB527.mv (htr609.mv (i := 100) rfl)
     replace h526 := h526.mv (htr609.mv (i := 101) rfl)
     replace hB537 := hB537.mv (htr609.mv (i := 200) rfl)
     replace h536 := h536.mv (htr609.mv (i := 201) rfl) (by decide)
     replace hb := hb.trans htr609
     replace jt604 := (jt604.trans htr609).weak (J' := (fun t => ([100, 101, 200, 201] : List Nat).contains t)) (by intro t h; simp [rng] at h ⊢ <;> omega) rfl rfl
     refine dj_next (l' := [(0, vl_0), (1, .int .i64 at_1), (5, .pointer (some ⟨gc_5, 0, none⟩)), (6, .pointer (some ⟨gd_6, 0, none⟩)), (7, .int .i64 i_7), (42, .bool (y548 != y554)), (55, v602), (68, v610)]) rfl (.cons rfl (.cons rfl (.cons rfl (.cons rfl (.cons rfl (.cons rfl (.cons rfl (.cons rfl (.nil _))))))))) jt604 (by intro t h; simp [rng] at h ⊢ <;> omega) rfl rfl ?_
     refine dj_E 47 (by as_aux_lemma => kernel_rfl) rfl ?_
     have jt612 : Tr ρ538 w607 (fun t => ([100, 101, 200, 201] : List Nat).contains t) ρ538 w607 := (Tr.refl hb.bd).weak (fun _ _ => rfl) rfl rfl
     obtain ⟨y613, hy614, hS⟩ := bind_some' hS
     refine sr_callg (b := false) (e := 42) rfl rfl hg559 (vs := [v602, v610]) rfl Try.call16 rfl (ref03_Same_ok _ (hg.fr hz hb) h603.asSl h611.asSl hy614) (by decide) ?_
     rintro _ w615 ⟨rfl, hbw616⟩
     have htr617 := Tr.of_below hbw616 hb.bd
     replace hl_0 := hl_0.mv htr617.rd
     replace hB527 := hB527.mv (htr617.mv (i := 100) rfl)
     replace h526 := h526.mv (htr617.mv (i := 101) rfl)
     replace hB537 := hB537.mv (htr617.mv (i := 200) rfl)
     replace h536 := h536.mv (htr617.mv (i := 201) rfl) (by decide)
     replace hb := hb.trans htr617
     replace jt612 := (jt612.trans htr617).weak (J' := (fun t => ([100, 101, 200, 201] : List Nat).contains t)) (by intro t h; simp [rng] at h ⊢ <;> omega) rfl rfl
     refine dj_next (l' := [(0, vl_0), (1, .int .i64 at_1), (5, .pointer (some ⟨gc_5, 0, none⟩)), (6, .pointer (some ⟨gd_6, 0, none⟩)), (7, .int .i64 i_7), (42, .bool (y548 != y554)), (69, .bool y613)]) rfl (.cons rfl (.cons rfl (.cons rfl (.cons rfl (.cons rfl (.cons rfl (.cons rfl (.nil _)))))))) jt612 (by intro t h; simp [rng] at h ⊢ <;> omega) rfl rfl ?_
     refine dj_Hg 48 (v := .bool (!y613)) (by as_aux_lemma => kernel_rfl) (by as_aux_lemma => kernel_rfl) rfl rfl rfl hg559 (fun _ _ _ h => h) (sj_refl hb.bd rfl rfl) (fun w1 ρ1 hw1 => ev_not rfl) (by decide) ?_
     refine dj_H 49 (v := .bool (!y613)) (by as_aux_lemma => kernel_rfl) (by as_aux_lemma => kernel_rfl) rfl (fun _ _ _ h => h) (sj_refl hb.bd rfl rfl) (fun w1 ρ1 hw1 => ev_pick_f rfl hg559 rfl) (by decide) ?_
     refine dj_H 50 (v := .bool (!y613)) (by as_aux_lemma => kernel_rfl) (by as_aux_lemma => kernel_rfl) rfl (fun _ _ _ h => h) (sj_refl hb.bd rfl rfl) (fun w1 ρ1 hw1 => ev_move rfl) (by decide) ?_
     rcases Bool.eq_false_or_eq_true (!y613) with hg618 | hg618
     ·replace hS := ite_true' hS hg618
      refine dj_pass 51 (e := 72) (by as_aux_lemma => kernel_rfl) (by as_aux_lemma => kernel_rfl) rfl rfl rfl rfl rfl (by rw [hg618]; rfl) (fun _ _ _ h => h) (sj_refl hb.bd rfl rfl) (by decide) ?_
      refine dj_pass 52 (e := 72) (by as_aux_lemma => kernel_rfl) (by as_aux_lemma => kernel_rfl) rfl rfl rfl rfl rfl (by rw [hg618]; rfl) (fun _ _ _ h => h) (sj_refl hb.bd rfl rfl) (by decide) ?_
      refine dj_pass 53 (e := 72) (by as_aux_lemma => kernel_rfl) (by as_aux_lemma => kernel_rfl) rfl rfl rfl rfl rfl (by rw [hg618]; rfl) (fun _ _ _ h => h) (sj_refl hb.bd rfl rfl) (by decide) ?_
      refine dj_pass 54 (e := 72) (by as_aux_lemma => kernel_rfl) (by as_aux_lemma => kernel_rfl) rfl rfl rfl rfl rfl (by rw [hg618]; rfl) (fun _ _ _ h => h) (sj_refl hb.bd rfl rfl) (by decide) ?_
      refine dj_pass 55 (e := 72) (by as_aux_lemma => kernel_rfl) (by as_aux_lemma => kernel_rfl) rfl rfl rfl rfl rfl (by rw [hg618]; rfl) (fun _ _ _ h => h) (sj_refl hb.bd rfl rfl) (by decide) ?_
      refine dj_pass 56 (e := 72) (by as_aux_lemma => kernel_rfl) (by as_aux_lemma => kernel_rfl) rfl rfl rfl rfl rfl (by rw [hg618]; rfl) (fun _ _ _ h => h) (sj_refl hb.bd rfl rfl) (by decide) ?_
      refine dj_pass 57 (e := 72) (by as_aux_lemma => kernel_rfl) (by as_aux_lemma => kernel_rfl) rfl rfl rfl rfl rfl (by rw [hg618]; rfl) (fun _ _ _ h => h) (sj_refl hb.bd rfl rfl) (by decide) ?_
      refine dj_pass 58 (e := 72) (by as_aux_lemma => kernel_rfl) (by as_aux_lemma => kernel_rfl) rfl rfl rfl rfl rfl (by rw [hg618]; rfl) (fun _ _ _ h => h) (sj_refl hb.bd rfl rfl) (by decide) ?_
      refine dj_pass 59 (e := 72) (by as_aux_lemma => kernel_rfl) (by as_aux_lemma => kernel_rfl) rfl rfl rfl rfl rfl (by rw [hg618]; rfl) (fun _ _ _ h => h) (sj_refl hb.bd rfl rfl) (by decide) ?_
      refine dj_pass 60 (e := 72) (by as_aux_lemma => kernel_rfl) (by as_aux_lemma => kernel_rfl) rfl rfl rfl rfl rfl (by rw [hg618]; rfl) (fun _ _ _ h => h) (sj_refl hb.bd rfl rfl) (by decide) ?_
      refine dj_pass 61 (e := 72) (by as_aux_lemma => kernel_rfl) (by as_aux_lemma => kernel_rfl) rfl rfl rfl rfl rfl (by rw [hg618]; rfl) (fun _ _ _ h => h) (sj_refl hb.bd rfl rfl) (by decide) ?_
      refine dj_pass 62 (e := 72) (by as_aux_lemma => kernel_rfl) (by as_aux_lemma => kernel_rfl) rfl rfl rfl rfl rfl (by rw [hg618]; rfl) (fun _ _ _ h => h) (sj_refl hb.bd rfl rfl) (by decide) ?_
      refine dj_pass 63 (e := 72) (by as_aux_lemma => kernel_rfl) (by as_aux_lemma => kernel_rfl) rfl rfl rfl rfl rfl (by rw [hg618]; rfl) (fun _ _ _ h => h) (sj_refl hb.bd rfl rfl) (by decide) ?_
      refine dj_pass 64 (e := 72) (by as_aux_lemma => kernel_rfl) (by as_aux_lemma => kernel_rfl) rfl rfl rfl rfl rfl (by rw [hg618]; rfl) (fun _ _ _ h => h) (sj_refl hb.bd rfl rfl) (by decide) ?_
      refine dj_pass 65 (e := 72) (by as_aux_lemma => kernel_rfl) (by as_aux_lemma => kernel_rfl) rfl rfl rfl rfl rfl (by rw [hg618]; rfl) (fun _ _ _ h => h) (sj_refl hb.bd rfl rfl) (by decide) ?_
      refine dj_pass 66 (e := 72) (by as_aux_lemma => kernel_rfl) (by as_aux_lemma => kernel_rfl) rfl rfl rfl rfl rfl (by rw [hg618]; rfl) (fun _ _ _ h => h) (sj_refl hb.bd rfl rfl) (by decide) ?_
      refine dj_pass 67 (e := 72) (by as_aux_lemma => kernel_rfl) (by as_aux_lemma => kernel_rfl) rfl rfl rfl rfl rfl (by rw [hg618]; rfl) (fun _ _ _ h => h) (sj_refl hb.bd rfl rfl) (by decide) ?_
      refine dj_pass 68 (e := 72) (by as_aux_lemma => kernel_rfl) (by as_aux_lemma => kernel_rfl) rfl rfl rfl rfl rfl (by rw [hg618]; rfl) (fun _ _ _ h => h) (sj_refl hb.bd rfl rfl) (by decide) ?_
      refine dj_pass 69 (e := 72) (by as_aux_lemma => kernel_rfl) (by as_aux_lemma => kernel_rfl) rfl rfl rfl rfl rfl (by rw [hg618]; rfl) (fun _ _ _ h => h) (sj_refl hb.bd rfl rfl) (by decide) ?_
      refine dj_pass 70 (e := 72) (by as_aux_lemma => kernel_rfl) (by as_aux_lemma => kernel_rfl) rfl rfl rfl rfl rfl (by rw [hg618]; rfl) (fun _ _ _ h => h) (sj_refl hb.bd rfl rfl) (by decide) ?_
      refine dj_pass 71 (e := 72) (by as_aux_lemma => kernel_rfl) (by as_aux_lemma => kernel_rfl) rfl rfl rfl rfl rfl (by rw [hg618]; rfl) (fun _ _ _ h => h) (sj_refl hb.bd rfl rfl) (by decide) ?_
      refine dj_pass 72 (e := 72) (by as_aux_lemma => kernel_rfl) (by as_aux_lemma => kernel_rfl) rfl rfl rfl rfl rfl (by rw [hg618]; rfl) (fun _ _ _ h => h) (sj_refl hb.bd rfl rfl) (by decide) ?_
      refine dj_pass 73 (e := 72) (by as_aux_lemma => kernel_rfl) (by as_aux_lemma => kernel_rfl) rfl rfl rfl rfl rfl (by rw [hg618]; rfl) (fun _ _ _ h => h) (sj_refl hb.bd rfl rfl) (by decide) ?_
      refine dj_pass 74 (e := 72) (by as_aux_lemma => kernel_rfl) (by as_aux_lemma => kernel_rfl) rfl rfl rfl rfl rfl (by rw [hg618]; rfl) (fun _ _ _ h => h) (sj_refl hb.bd rfl rfl) (by decide) ?_
      refine dj_pass 75 (e := 72) (by as_aux_lemma => kernel_rfl) (by as_aux_lemma => kernel_rfl) rfl rfl rfl rfl rfl (by rw [hg618]; rfl) (fun _ _ _ h => h) (sj_refl hb.bd rfl rfl) (by decide) ?_
      refine dj_pass 76 (e := 72) (by as_aux_lemma => kernel_rfl) (by as_aux_lemma => kernel_rfl) rfl rfl rfl rfl rfl (by rw [hg618]; rfl) (fun _ _ _ h => h) (sj_refl hb.bd rfl rfl) (by decide) ?_
      refine dj_pass 77 (e := 72) (by as_aux_lemma => kernel_rfl) (by as_aux_lemma => kernel_rfl) rfl rfl rfl rfl rfl (by rw [hg618]; rfl) (fun _ _ _ h => h) (sj_refl hb.bd rfl rfl) (by decide) ?_
      refine dj_pass 78 (e := 72) (by as_aux_lemma => kernel_rfl) (by as_aux_lemma => kernel_rfl) rfl rfl rfl rfl rfl (by rw [hg618]; rfl) (fun _ _ _ h => h) (sj_refl hb.bd rfl rfl) (by decide) ?_
      refine dj_pass 79 (e := 72) (by as_aux_lemma => kernel_rfl) (by as_aux_lemma => kernel_rfl) rfl rfl rfl rfl rfl (by rw [hg618]; rfl) (fun _ _ _ h => h) (sj_refl hb.bd rfl rfl) (by decide) ?_
      refine dj_pass 80 (e := 72) (by as_aux_lemma => kernel_rfl) (by as_aux_lemma => kernel_rfl) rfl rfl rfl rfl rfl (by rw [hg618]; rfl) (fun _ _ _ h => h) (sj_refl hb.bd rfl rfl) (by decide) ?_
      refine dj_pass 81 (e := 72) (by as_aux_lemma => kernel_rfl) (by as_aux_lemma => kernel_rfl) rfl rfl rfl rfl rfl (by rw [hg618]; rfl) (fun _ _ _ h => h) (sj_refl hb.bd rfl rfl) (by decide) ?_
      refine dj_pass 82 (e := 72) (by as_aux_lemma => kernel_rfl) (by as_aux_lemma => kernel_rfl) rfl rfl rfl rfl rfl (by rw [hg618]; rfl) (fun _ _ _ h => h) (sj_refl hb.bd rfl rfl) (by decide) ?_
      refine dj_pass 83 (e := 72) (by as_aux_lemma => kernel_rfl) (by as_aux_lemma => kernel_rfl) rfl rfl rfl rfl rfl (by rw [hg618]; rfl) (fun _ _ _ h => h) (sj_refl hb.bd rfl rfl) (by decide) ?_
      refine dj_pass 84 (e := 72) (by as_aux_lemma => kernel_rfl) (by as_aux_lemma => kernel_rfl) rfl rfl rfl rfl rfl (by rw [hg618]; rfl) (fun _ _ _ h => h) (sj_refl hb.bd rfl rfl) (by decide) ?_
      refine dj_pass 85 (e := 72) (by as_aux_lemma => kernel_rfl) (by as_aux_lemma => kernel_rfl) rfl rfl rfl rfl rfl (by rw [hg618]; rfl) (fun _ _ _ h => h) (sj_refl hb.bd rfl rfl) (by decide) ?_
      refine dj_pass 86 (e := 72) (by as_aux_lemma => kernel_rfl) (by as_aux_lemma => kernel_rfl) rfl rfl rfl rfl rfl (by rw [hg618]; rfl) (fun _ _ _ h => h) (sj_refl hb.bd rfl rfl) (by decide) ?_
      refine dj_H 87 (v := .bool true) (by as_aux_lemma => kernel_rfl) (by as_aux_lemma => kernel_rfl) rfl (fun _ _ _ h => h) (sj_refl hb.bd rfl rfl) (fun w1 ρ1 hw1 => ev_pick_t rfl hg618 rfl) (by decide) ?_
      refine dj_H 88 (v := .bool true) (by as_aux_lemma => kernel_rfl) (by as_aux_lemma => kernel_rfl) rfl (fun _ _ _ h => h) (sj_refl hb.bd rfl rfl) (fun w1 ρ1 hw1 => ev_move rfl) (by decide) ?_
      refine dj_pass 89 (e := 110) (by as_aux_lemma => kernel_rfl) (by as_aux_lemma => kernel_rfl) rfl rfl rfl rfl rfl rfl (fun _ _ _ h => h) (sj_refl hb.bd rfl rfl) (by decide) ?_
      refine dj_pass 90 (e := 110) (by as_aux_lemma => kernel_rfl) (by as_aux_lemma => kernel_rfl) rfl rfl rfl rfl rfl rfl (fun _ _ _ h => h) (sj_refl hb.bd rfl rfl) (by decide) ?_
      refine dj_pass 91 (e := 110) (by as_aux_lemma => kernel_rfl) (by as_aux_lemma => kernel_rfl) rfl rfl rfl rfl rfl rfl (fun _ _ _ h => h) (sj_refl hb.bd rfl rfl) (by decide) ?_
      refine dj_pass 92 (e := 110) (by as_aux_lemma => kernel_rfl) (by as_aux_lemma => kernel_rfl) rfl rfl rfl rfl rfl rfl (fun _ _ _ h => h) (sj_refl hb.bd rfl rfl) (by decide) ?_
      refine dj_pass 93 (e := 110) (by as_aux_lemma => kernel_rfl) (by as_aux_lemma => kernel_rfl) rfl rfl rfl rfl rfl rfl (fun _ _ _ h => h) (sj_refl hb.bd rfl rfl) (by decide) ?_
      refine dj_pass 94 (e := 110) (by as_aux_lemma => kernel_rfl) (by as_aux_lemma => kernel_rfl) rfl rfl rfl rfl rfl rfl (fun _ _ _ h => h) (sj_refl hb.bd rfl rfl) (by decide) ?_
      refine dj_pass 95 (e := 110) (by as_aux_lemma => kernel_rfl) (by as_aux_lemma => kernel_rfl) rfl rfl rfl rfl rfl rfl (fun _ _ _ h => h) (sj_refl hb.bd rfl rfl) (by decide) ?_
      refine dj_pass 96 (e := 110) (by as_aux_lemma => kernel_rfl) (by as_aux_lemma => kernel_rfl) rfl rfl rfl rfl rfl rfl (fun _ _ _ h => h) (sj_refl hb.bd rfl rfl) (by decide) ?_
      refine dj_pass 97 (e := 110) (by as_aux_lemma => kernel_rfl) (by as_aux_lemma => kernel_rfl) rfl rfl rfl rfl rfl rfl (fun _ _ _ h => h) (sj_refl hb.bd rfl rfl) (by decide) ?_
      refine dj_pass 98 (e := 110) (by as_aux_lemma => kernel_rfl) (by as_aux_lemma => kernel_rfl) rfl rfl rfl rfl rfl rfl (fun _ _ _ h => h) (sj_refl hb.bd rfl rfl) (by decide) ?_
      refine dj_pass 99 (e := 110) (by as_aux_lemma => kernel_rfl) (by as_aux_lemma => kernel_rfl) rfl rfl rfl rfl rfl rfl (fun _ _ _ h => h) (sj_refl hb.bd rfl rfl) (by decide) ?_
      refine dj_pass 100 (e := 110) (by as_aux_lemma => kernel_rfl) (by as_aux_lemma => kernel_rfl) rfl rfl rfl rfl rfl rfl (fun _ _ _ h => h) (sj_refl hb.bd rfl rfl) (by decide) ?_
      refine dj_pass 101 (e := 110) (by as_aux_lemma => kernel_rfl) (by as_aux_lemma => kernel_rfl) rfl rfl rfl rfl rfl rfl (fun _ _ _ h => h) (sj_refl hb.bd rfl rfl) (by decide) ?_
      refine dj_pass 102 (e := 110) (by as_aux_lemma => kernel_rfl) (by as_aux_lemma => kernel_rfl) rfl rfl rfl rfl rfl rfl (fun _ _ _ h => h) (sj_refl hb.bd rfl rfl) (by decide) ?_
      refine dj_pass 103 (e := 110) (by as_aux_lemma => kernel_rfl) (by as_aux_lemma => kernel_rfl) rfl rfl rfl rfl rfl rfl (fun _ _ _ h => h) (sj_refl hb.bd rfl rfl) (by decide) ?_
      refine dj_pass 104 (e := 110) (by as_aux_lemma => kernel_rfl) (by as_aux_lemma => kernel_rfl) rfl rfl rfl rfl rfl rfl (fun _ _ _ h => h) (sj_refl hb.bd rfl rfl) (by decide) ?_
      refine dj_pass 105 (e := 110) (by as_aux_lemma => kernel_rfl) (by as_aux_lemma => kernel_rfl) rfl rfl rfl rfl rfl rfl (fun _ _ _ h => h) (sj_refl hb.bd rfl rfl) (by decide) ?_
      refine dj_pass 106 (e := 110) (by as_aux_lemma => kernel_rfl) (by as_aux_lemma => kernel_rfl) rfl rfl rfl rfl rfl rfl (fun _ _ _ h => h) (sj_refl hb.bd rfl rfl) (by decide) ?_
      refine dj_H 107 (v := .bool true) (by as_aux_lemma => kernel_rfl) (by as_aux_lemma => kernel_rfl) rfl (fun _ _ _ h => h) (sj_refl hb.bd rfl rfl) (fun w1 ρ1 hw1 => ev_pick_t rfl rfl rfl) (by decide) ?_
      refine dj_done rfl (by as_aux_lemma => kernel_rfl) ?_
      refine ke_weaken (l' := [(0, vl_0), (1, .int .i64 at_1), (5, .pointer (some ⟨gc_5, 0, none⟩)), (6, .pointer (some ⟨gd_6, 0, none⟩)), (7, .int .i64 i_7), (129, .bool true)]) (.cons rfl (.cons rfl (.cons rfl (.cons rfl (.cons rfl (.cons rfl (.nil _))))))) ?_
      have hK := law32_ConsentPlays_B2_ok hg hbd hz _ hr0 hS hb hl_0 ⟨_, hB527, h526⟩ ⟨_, hB537, h536⟩
      exact ke_weaken (l' := [(0, vl_0), (1, .int .i64 at_1), (5, .pointer (some ⟨gc_5, 0, none⟩)), (6, .pointer (some ⟨gd_6, 0, none⟩)), (7, .int .i64 i_7), (129, .bool true)]) (.cons rfl (.cons rfl (.cons rfl (.cons rfl (.cons rfl (.cons rfl (.nil _))))))) hK
     ·replace hS := ite_false' hS hg618
      refine dj_Hg 51 (v := .pointer (some ⟨gc_5, 0, none⟩)) (by as_aux_lemma => kernel_rfl) (by as_aux_lemma => kernel_rfl) rfl rfl rfl hg618 (fun _ _ _ h => h) (sj_refl hb.bd rfl rfl) (fun w1 ρ1 hw1 => ev_move rfl) (by decide) ?_
      refine dj_Hg 52 (v := vl_0) (by as_aux_lemma => kernel_rfl) (by as_aux_lemma => kernel_rfl) rfl rfl rfl hg618 (fun _ _ _ h => h) (sj_refl hb.bd rfl rfl) (fun w1 ρ1 hw1 => ev_move rfl) (by decide) ?_
      refine dj_Hg 53 (v := .int .i64 i_7) (by as_aux_lemma => kernel_rfl) (by as_aux_lemma => kernel_rfl) rfl rfl rfl hg618 (fun _ _ _ h => h) (sj_refl hb.bd rfl rfl) (fun w1 ρ1 hw1 => ev_move rfl) (by decide) ?_
      obtain ⟨y619, hy620, hS⟩ := bind_some' hS
      obtain ⟨b621, o622, cs624, hq625, he623⟩ := ((SlT.of_sl (i := 0) hl_0)).elem (P := Try.prog) Try.underlying22 Try.info32 rfl hy620
      obtain ⟨v626, hcshe623, h627⟩ := he623.rd
      obtain rfl : cs624 = [.int .i64 y619.Call, .int .i64 y619.Until, .int .i64 y619.Now, str y619.User, str y619.Client, v626] := hcshe623
      refine dj_Hg 54 (v := .pointer (some ⟨b621, o622, none⟩)) (by as_aux_lemma => kernel_rfl) (by as_aux_lemma => kernel_rfl) rfl rfl rfl hg618 (fun _ _ _ h => h) (sj_refl hb.bd rfl rfl) (fun w1 ρ1 hw1 => hq625 w1 rfl rfl) (by decide) ?_
      refine dj_Hg 55 (v := .pointer (some ⟨b621, o622 + 3, none⟩)) (by as_aux_lemma => kernel_rfl) (by as_aux_lemma => kernel_rfl) rfl rfl rfl hg618 (fun _ _ _ h => h) (sj_refl hb.bd rfl rfl) (fun w1 ρ1 hw1 => ev_fieldAddr (i := 3) Try.underlying32 rfl Try.info9 rfl rfl) (by decide) ?_
      refine dj_Hg 56 (v := str y619.User) (by as_aux_lemma => kernel_rfl) (by as_aux_lemma => kernel_rfl) rfl rfl rfl hg618 (fun _ _ _ h => h) (sj_refl hb.bd rfl rfl) (fun w1 ρ1 hw1 => ev_load Try.isAgg9 rfl ((he623.mv (hw1.mv (i := 0) rfl) (Nat.succ_pos _)).cell 3 _ rfl)) (by decide) ?_
      refine dj_Hg 57 (v := vl_0) (by as_aux_lemma => kernel_rfl) (by as_aux_lemma => kernel_rfl) rfl rfl rfl hg618 (fun _ _ _ h => h) (sj_refl hb.bd rfl rfl) (fun w1 ρ1 hw1 => ev_move rfl) (by decide) ?_
      refine dj_Hg 58 (v := .int .i64 i_7) (by as_aux_lemma => kernel_rfl) (by as_aux_lemma => kernel_rfl) rfl rfl rfl hg618 (fun _ _ _ h => h) (sj_refl hb.bd rfl rfl) (fun w1 ρ1 hw1 => ev_move rfl) (by decide) ?_
      obtain ⟨y628, hy629, hS⟩ := bind_some' hS
      obtain ⟨b630, o631, cs633, hq634, he632⟩ := ((SlT.of_sl (i := 0) hl_0)).elem (P := Try.prog) Try.underlying22 Try.info32 rfl hy629
      obtain ⟨v635, hcshe632, h636⟩ := he632.rd
      obtain rfl : cs633 = [.int .i64 y628.Call, .int .i64 y628.Until, .int .i64 y628.Now, str y628.User, str y628.Client, v635] := hcshe632
      refine dj_Hg 59 (v := .pointer (some ⟨b630, o631, none⟩)) (by as_aux_lemma => kernel_rfl) (by as_aux_lemma => kernel_rfl) rfl rfl rfl hg618 (fun _ _ _ h => h) (sj_refl hb.bd rfl rfl) (fun w1 ρ1 hw1 => hq634 w1 rfl rfl) (by decide) ?_
      refine dj_Hg 60 (v := .pointer (some ⟨b630, o631 + 4, none⟩)) (by as_aux_lemma => kernel_rfl) (by as_aux_lemma => kernel_rfl) rfl rfl rfl hg618 (fun _ _ _ h => h) (sj_refl hb.bd rfl rfl) (fun w1 ρ1 hw1 => ev_fieldAddr (i := 4) Try.underlying32 rfl Try.info9 rfl rfl) (by decide) ?_
      refine dj_Hg 61 (v := str y628.Client) (by as_aux_lemma => kernel_rfl) (by as_aux_lemma => kernel_rfl) rfl rfl rfl hg618 (fun _ _ _ h => h) (sj_refl hb.bd rfl rfl) (fun w1 ρ1 hw1 => ev_load Try.isAgg9 rfl ((he632.mv (hw1.mv (i := 0) rfl) (Nat.succ_pos _)).cell 4 _ rfl)) (by decide) ?_
      refine dj_Hg 62 (v := vl_0) (by as_aux_lemma => kernel_rfl) (by as_aux_lemma => kernel_rfl) rfl rfl rfl hg618 (fun _ _ _ h => h) (sj_refl hb.bd rfl rfl) (fun w1 ρ1 hw1 => ev_move rfl) (by decide) ?_
      refine dj_Hg 63 (v := .int .i64 i_7) (by as_aux_lemma => kernel_rfl) (by as_aux_lemma => kernel_rfl) rfl rfl rfl hg618 (fun _ _ _ h => h) (sj_refl hb.bd rfl rfl) (fun w1 ρ1 hw1 => ev_move rfl) (by decide) ?_
      obtain ⟨y637, hy638, hS⟩ := bind_some' hS
      obtain ⟨b639, o640, cs642, hq643, he641⟩ := ((SlT.of_sl (i := 0) hl_0)).elem (P := Try.prog) Try.underlying22 Try.info32 rfl hy638
      obtain ⟨v644, hcshe641, h645⟩ := he641.rd
      obtain rfl : cs642 = [.int .i64 y637.Call, .int .i64 y637.Until, .int .i64 y637.Now, str y637.User, str y637.Client, v644] := hcshe641
      refine dj_Hg 64 (v := .pointer (some ⟨b639, o640, none⟩)) (by as_aux_lemma => kernel_rfl) (by as_aux_lemma => kernel_rfl) rfl rfl rfl hg618 (fun _ _ _ h => h) (sj_refl hb.bd rfl rfl) (fun w1 ρ1 hw1 => hq643 w1 rfl rfl) (by decide) ?_
      refine dj_Hg 65 (v := .pointer (some ⟨b639, o640 + 2, none⟩)) (by as_aux_lemma => kernel_rfl) (by as_aux_lemma => kernel_rfl) rfl rfl rfl hg618 (fun _ _ _ h => h) (sj_refl hb.bd rfl rfl) (fun w1 ρ1 hw1 => ev_fieldAddr (i := 2) Try.underlying32 rfl Try.info3 rfl rfl) (by decide) ?_
      refine dj_Hg 66 (v := .int .i64 y637.Now) (by as_aux_lemma => kernel_rfl) (by as_aux_lemma => kernel_rfl) rfl rfl rfl hg618 (fun _ _ _ h => h) (sj_refl hb.bd rfl rfl) (fun w1 ρ1 hw1 => ev_load Try.isAgg3 rfl ((he641.mv (hw1.mv (i := 0) rfl) (Nat.succ_pos _)).cell 2 _ rfl)) (by decide) ?_
      refine dj_Hg 68 (v := .pointer (some ⟨gd_6, 0, none⟩)) (by as_aux_lemma => kernel_rfl) (by as_aux_lemma => kernel_rfl) rfl rfl rfl hg618 (fun _ _ _ h => h) (sj_refl hb.bd rfl rfl) (fun w1 ρ1 hw1 => ev_move rfl) (by decide) ?_
      refine dj_Hg 69 (v := vl_0) (by as_aux_lemma => kernel_rfl) (by as_aux_lemma => kernel_rfl) rfl rfl rfl hg618 (fun _ _ _ h => h) (sj_refl hb.bd rfl rfl) (fun w1 ρ1 hw1 => ev_move rfl) (by decide) ?_
      refine dj_Hg 70 (v := .int .i64 i_7) (by as_aux_lemma => kernel_rfl) (by as_aux_lemma => kernel_rfl) rfl rfl rfl hg618 (fun _ _ _ h => h) (sj_refl hb.bd rfl rfl) (fun w1 ρ1 hw1 => ev_move rfl) (by decide) ?_
      obtain ⟨y646, hy647, hS⟩ := bind_some' hS
      obtain ⟨b648, o649, cs651, hq652, he650⟩ := ((SlT.of_sl (i := 0) hl_0)).elem (P := Try.prog) Try.underlying22 Try.info32 rfl hy647
      obtain ⟨v653, hcshe650, h654⟩ := he650.rd
      obtain rfl : cs651 = [.int .i64 y646.Call, .int .i64 y646.Until, .int .i64 y646.Now, str y646.User, str y646.Client, v653] := hcshe650
      refine dj_Hg 71 (v := .pointer (some ⟨b648, o649, none⟩)) (by as_aux_lemma => kernel_rfl) (by as_aux_lemma => kernel_rfl) rfl rfl rfl hg618 (fun _ _ _ h => h) (sj_refl hb.bd rfl rfl) (fun w1 ρ1 hw1 => hq652 w1 rfl rfl) (by decide) ?_
      refine dj_Hg 72 (v := .pointer (some ⟨b648, o649 + 3, none⟩)) (by as_aux_lemma => kernel_rfl) (by as_aux_lemma => kernel_rfl) rfl rfl rfl hg618 (fun _ _ _ h => h) (sj_refl hb.bd rfl rfl) (fun w1 ρ1 hw1 => ev_fieldAddr (i := 3) Try.underlying32 rfl Try.info9 rfl rfl) (by decide) ?_
      refine dj_Hg 73 (v := str y646.User) (by as_aux_lemma => kernel_rfl) (by as_aux_lemma => kernel_rfl) rfl rfl rfl hg618 (fun _ _ _ h => h) (sj_refl hb.bd rfl rfl) (fun w1 ρ1 hw1 => ev_load Try.isAgg9 rfl ((he650.mv (hw1.mv (i := 0) rfl) (Nat.succ_pos _)).cell 3 _ rfl)) (by decide) ?_
      refine dj_Hg 74 (v := vl_0) (by as_aux_lemma => kernel_rfl) (by as_aux_lemma => kernel_rfl) rfl rfl rfl hg618 (fun _ _ _ h => h) (sj_refl hb.bd rfl rfl) (fun w1 ρ1 hw1 => ev_move rfl) (by decide) ?_
      refine dj_Hg 75 (v := .int .i64 i_7) (by as_aux_lemma => kernel_rfl) (by as_aux_lemma => kernel_rfl) rfl rfl rfl hg618 (fun _ _ _ h => h) (sj_refl hb.bd rfl rfl) (fun w1 ρ1 hw1 => ev_move rfl) (by decide) ?_
      obtain ⟨y655, hy656, hS⟩ := bind_some' hS
      obtain ⟨b657, o658, cs660, hq661, he659⟩ := ((SlT.of_sl (i := 0) hl_0)).elem (P := Try.prog) Try.underlying22 Try.info32 rfl hy656
      obtain ⟨v662, hcshe659, h663⟩ := he659.rd
      obtain rfl : cs660 = [.int .i64 y655.Call, .int .i64 y655.Until, .int .i64 y655.Now, str y655.User, str y655.Client, v662] := hcshe659
      refine dj_Hg 76 (v := .pointer (some ⟨b657, o658, none⟩)) (by as_aux_lemma => kernel_rfl) (by as_aux_lemma => kernel_rfl) rfl rfl rfl hg618 (fun _ _ _ h => h) (sj_refl hb.bd rfl rfl) (fun w1 ρ1 hw1 => hq661 w1 rfl rfl) (by decide) ?_
      refine dj_Hg 77 (v := .pointer (some ⟨b657, o658 + 4, none⟩)) (by as_aux_lemma => kernel_rfl) (by as_aux_lemma => kernel_rfl) rfl rfl rfl hg618 (fun _ _ _ h => h) (sj_refl hb.bd rfl rfl) (fun w1 ρ1 hw1 => ev_fieldAddr (i := 4) Try.underlying32 rfl Try.info9 rfl rfl) (by decide) ?_
      refine dj_Hg 78 (v := str y655.Client) (by as_aux_lemma => kernel_rfl) (by as_aux_lemma => kernel_rfl) rfl rfl rfl hg618 (fun _ _ _ h => h) (sj_refl hb.bd rfl rfl) (fun w1 ρ1 hw1 => ev_load Try.isAgg9 rfl ((he659.mv (hw1.mv (i := 0) rfl) (Nat.succ_pos _)).cell 4 _ rfl)) (by decide) ?_
      refine dj_Hg 79 (v := vl_0) (by as_aux_lemma => kernel_rfl) (by as_aux_lemma => kernel_rfl) rfl rfl rfl hg618 (fun _ _ _ h => h) (sj_refl hb.bd rfl rfl) (fun w1 ρ1 hw1 => ev_move rfl) (by decide) ?_
      refine dj_Hg 80 (v := .int .i64 i_7) (by as_aux_lemma => kernel_rfl) (by as_aux_lemma => kernel_rfl) rfl rfl rfl hg618 (fun _ _ _ h => h) (sj_refl hb.bd rfl rfl) (fun w1 ρ1 hw1 => ev_move rfl) (by decide) ?_
      obtain ⟨y664, hy665, hS⟩ := bind_some' hS
      obtain ⟨b666, o667, cs669, hq670, he668⟩ := ((SlT.of_sl (i := 0) hl_0)).elem (P := Try.prog) Try.underlying22 Try.info32 rfl hy665
      obtain ⟨v671, hcshe668, h672⟩ := he668.rd
      obtain rfl : cs669 = [.int .i64 y664.Call, .int .i64 y664.Until, .int .i64 y664.Now, str y664.User, str y664.Client, v671] := hcshe668
      refine dj_Hg 81 (v := .pointer (some ⟨b666, o667, none⟩)) (by as_aux_lemma => kernel_rfl) (by as_aux_lemma => kernel_rfl) rfl rfl rfl hg618 (fun _ _ _ h => h) (sj_refl hb.bd rfl rfl) (fun w1 ρ1 hw1 => hq670 w1 rfl rfl) (by decide) ?_
      refine dj_Hg 82 (v := .pointer (some ⟨b666, o667 + 2, none⟩)) (by as_aux_lemma => kernel_rfl) (by as_aux_lemma => kernel_rfl) rfl rfl rfl hg618 (fun _ _ _ h => h) (sj_refl hb.bd rfl rfl) (fun w1 ρ1 hw1 => ev_fieldAddr (i := 2) Try.underlying32 rfl Try.info3 rfl rfl) (by decide) ?_
      refine dj_Hg 83 (v := .int .i64 y664.Now) (by as_aux_lemma => kernel_rfl) (by as_aux_lemma => kernel_rfl) rfl rfl rfl hg618 (fun _ _ _ h => h) (sj_refl hb.bd rfl rfl) (fun w1 ρ1 hw1 => ev_load Try.isAgg3 rfl ((he668.mv (hw1.mv (i := 0) rfl) (Nat.succ_pos _)).cell 2 _ rfl)) (by decide) ?_
      refine dj_E 67 (by as_aux_lemma => kernel_rfl) rfl ?_
      have jt673 : Tr ρ538 w615 (fun t => ([100, 101, 200, 201] : List Nat).contains t) ρ538 w615 := (Tr.refl hb.bd).weak (fun _ _ => rfl) rfl rfl
      obtain ⟨y674, hy675, hS⟩ := bind_some' hS
      refine sr_callg (b := false) (e := 72) rfl rfl hg618 (vs := [.pointer (some ⟨gc_5, 0, none⟩), str y619.User, str y628.Client, .int .i64 y637.Now]) rfl Try.call17 rfl (consent_Consents_Scopes_ok _ (hg.fr hz hb) (ρA := ρ538) hb.bd (hz.fr hg hb) (τ0 := (fun p => 100 + p)) (fun p => Nat.le_add_right_of_le (by decide)) (⟨_, hB527, h526⟩ : consent_Consents.O (fun p => 100 + p) ρ538 w615 gc_5 y520.2) hy675) (by decide) ?_
      rintro v679 w676 ⟨_, rfl, h680, hbw677⟩
      have htr678 := Tr.of_below hbw677 hb.bd
      replace hl_0 := hl_0.mv htr678.rd
      replace hB527 := hB527.mv (htr678.mv (i := 100) rfl)
      replace h526 := h526.mv (htr678.mv (i := 101) rfl)
      replace hB537 := hB537.mv (htr678.mv (i := 200) rfl)
      replace h536 := h536.mv (htr678.mv (i := 201) rfl) (by decide)
      replace hb := hb.trans htr678
      replace jt673 := (jt673.trans htr678).weak (J' := (fun t => ([100, 101, 200, 201] : List Nat).contains t)) (by intro t h; simp [rng] at h ⊢ <;> omega) rfl rfl
      refine dj_next (l' := [(0, vl_0), (1, .int .i64 at_1), (5, .pointer (some ⟨gc_5, 0, none⟩)), (6, .pointer (some ⟨gd_6, 0, none⟩)), (7, .int .i64 i_7), (72, .bool (!y613)), (89, v679), (90, .pointer (some ⟨gd_6, 0, none⟩)), (95, str y646.User), (100, str y655.Client), (105, .int .i64 y664.Now)]) rfl (.cons rfl (.cons rfl (.cons rfl (.cons rfl (.cons rfl (.cons rfl (.cons rfl (.cons rfl (.cons rfl (.cons rfl (.cons rfl (.nil _)))))))))))) jt673 (by intro t h; simp [rng] at h ⊢ <;> omega) rfl rfl ?_
      refine dj_E 84 (by as_aux_lemma => kernel_rfl) rfl ?_
      have jt681 : Tr ρ538 w676 (fun t => ([100, 101, 200, 201] : List Nat).contains t) ρ538 w676 := (Tr.refl hb.bd).weak (fun _ _ => rfl) rfl rfl
      obtain ⟨y682, hy683, hS⟩ := bind_some' hS
      refine sr_callg (b := false) (e := 72) rfl rfl hg618 (vs := [.pointer (some ⟨gd_6, 0, none⟩), str y646.User, str y655.Client, .int .i64 y664.Now]) rfl Try.call18 rfl (ref32_Consents_Scopes_ok _ (hg.fr hz hb) (ρA := ρ538) hb.bd (hz.fr hg hb) (τ0 := (fun p => 200 + p)) (fun p => Nat.le_add_right_of_le (by decide)) (⟨_, hB537, h536⟩ : ref32_Consents.O (fun p => 200 + p) ρ538 w676 gd_6 y530.2) hy683) (by decide) ?_
      rintro v687 w684 ⟨_, rfl, h688, hbw685⟩
      have htr686 := Tr.of_below hbw685 hb.bd
      replace hl_0 := hl_0.mv htr686.rd
      replace h680 := h680.mv htr686.rd
      replace hB527 := hB527.mv (htr686.mv (i := 100) rfl)
      replace h526 := h526.mv (htr686.mv (i := 101) rfl)
      replace hB537 := hB537.mv (htr686.mv (i := 200) rfl)
      replace h536 := h536.mv (htr686.mv (i := 201) rfl) (by decide)
      replace hb := hb.trans htr686
      replace jt681 := (jt681.trans htr686).weak (J' := (fun t => ([100, 101, 200, 201] : List Nat).contains t)) (by intro t h; simp [rng] at h ⊢ <;> omega) rfl rfl
      refine dj_next (l' := [(0, vl_0), (1, .int .i64 at_1), (5, .pointer (some ⟨gc_5, 0, none⟩)), (6, .pointer (some ⟨gd_6, 0, none⟩)), (7, .int .i64 i_7), (72, .bool (!y613)), (89, v679), (106, v687)]) rfl (.cons rfl (.cons rfl (.cons rfl (.cons rfl (.cons rfl (.cons rfl (.cons rfl (.cons rfl (.nil _))))))))) jt681 (by intro t h; simp [rng] at h ⊢ <;> omega) rfl rfl ?_
      refine dj_E 85 (by as_aux_lemma => kernel_rfl) rfl ?_
      have jt689 : Tr ρ538 w684 (fun t => ([100, 101, 200, 201] : List Nat).contains t) ρ538 w684 := (Tr.refl hb.bd).weak (fun _ _ => rfl) rfl rfl
      obtain ⟨y690, hy691, hS⟩ := bind_some' hS
      refine sr_callg (b := false) (e := 72) rfl rfl hg618 (vs := [v679, v687]) rfl Try.call16 rfl (ref03_Same_ok _ (hg.fr hz hb) h680.asSl h688.asSl hy691) (by decide) ?_
      rintro _ w692 ⟨rfl, hbw693⟩
      have htr694 := Tr.of_below hbw693 hb.bd
      replace hl_0 := hl_0.mv htr694.rd
      replace hB527 := hB527.mv (htr694.mv (i := 100) rfl)
      replace h526 := h526.mv (htr694.mv (i := 101) rfl)
      replace hB537 := hB537.mv (htr694.mv (i := 200) rfl)
      replace h536 := h536.mv (htr694.mv (i := 201) rfl) (by decide)
      replace hb := hb.trans htr694
      replace jt689 := (jt689.trans htr694).weak (J' := (fun t => ([100, 101, 200, 201] : List Nat).contains t)) (by intro t h; simp [rng] at h ⊢ <;> omega) rfl rfl
      refine dj_next (l' := [(0, vl_0), (1, .int .i64 at_1), (5, .pointer (some ⟨gc_5, 0, none⟩)), (6, .pointer (some ⟨gd_6, 0, none⟩)), (7, .int .i64 i_7), (72, .bool (!y613)), (107, .bool y690)]) rfl (.cons rfl (.cons rfl (.cons rfl (.cons rfl (.cons rfl (.cons rfl (.cons rfl (.nil _)))))))) jt689 (by intro t h; simp [rng] at h ⊢ <;> omega) rfl rfl ?_
      refine dj_Hg 86 (v := .bool (!y690)) (by as_aux_lemma => kernel_rfl) (by as_aux_lemma => kernel_rfl) rfl rfl rfl hg618 (fun _ _ _ h => h) (sj_refl hb.bd rfl rfl) (fun w1 ρ1 hw1 => ev_not rfl) (by decide) ?_
      refine dj_H 87 (v := .bool (!y690)) (by as_aux_lemma => kernel_rfl) (by as_aux_lemma => kernel_rfl) rfl (fun _ _ _ h => h) (sj_refl hb.bd rfl rfl) (fun w1 ρ1 hw1 => ev_pick_f rfl hg618 rfl) (by decide) ?_
      refine dj_H 88 (v := .bool (!y690)) (by as_aux_lemma => kernel_rfl) (by as_aux_lemma => kernel_rfl) rfl (fun _ _ _ h => h) (sj_refl hb.bd rfl rfl) (fun w1 ρ1 hw1 => ev_move rfl) (by decide) ?_
      rcases Bool.eq_false_or_eq_true (!y690) with hg695 | hg695
      ·replace hS := ite_true' hS hg695
       refine dj_pass 89 (e := 110) (by as_aux_lemma => kernel_rfl) (by as_aux_lemma => kernel_rfl) rfl rfl rfl rfl rfl (by rw [hg695]; rfl) (fun _ _ _ h => h) (sj_refl hb.bd rfl rfl) (by decide) ?_
       refine dj_pass 90 (e := 110) (by as_aux_lemma => kernel_rfl) (by as_aux_lemma => kernel_rfl) rfl rfl rfl rfl rfl (by rw [hg695]; rfl) (fun _ _ _ h => h) (sj_refl hb.bd rfl rfl) (by decide) ?_
       refine dj_pass 91 (e := 110) (by as_aux_lemma => kernel_rfl) (by as_aux_lemma => kernel_rfl) rfl rfl rfl rfl rfl (by rw [hg695]; rfl) (fun _ _ _ h => h) (sj_refl hb.bd rfl rfl) (by decide) ?_
       refine dj_pass 92 (e := 110) (by as_aux_lemma => kernel_rfl) (by as_aux_lemma => kernel_rfl) rfl rfl rfl rfl rfl (by rw [hg695]; rfl) (fun _ _ _ h => h) (sj_refl hb.bd rfl rfl) (by decide) ?_
       refine dj_pass 93 (e := 110) (by as_aux_lemma => kernel_rfl) (by as_aux_lemma => kernel_rfl) rfl rfl rfl rfl rfl (by rw [hg695]; rfl) (fun _ _ _ h => h) (sj_refl hb.bd rfl rfl) (by decide) ?_
       refine dj_pass 94 (e := 110) (by as_aux_lemma => kernel_rfl) (by as_aux_lemma => kernel_rfl) rfl rfl rfl rfl rfl (by rw [hg695]; rfl) (fun _ _ _ h => h) (sj_refl hb.bd rfl rfl) (by decide) ?_
       refine dj_pass 95 (e := 110) (by as_aux_lemma => kernel_rfl) (by as_aux_lemma => kernel_rfl) rfl rfl rfl rfl rfl (by rw [hg695]; rfl) (fun _ _ _ h => h) (sj_refl hb.bd rfl rfl) (by decide) ?_
       refine dj_pass 96 (e := 110) (by as_aux_lemma => kernel_rfl) (by as_aux_lemma => kernel_rfl) rfl rfl rfl rfl rfl (by rw [hg695]; rfl) (fun _ _ _ h => h) (sj_refl hb.bd rfl rfl) (by decide) ?_
       refine dj_pass 97 (e := 110) (by as_aux_lemma => kernel_rfl) (by as_aux_lemma => kernel_rfl) rfl rfl rfl rfl rfl (by rw [hg695]; rfl) (fun _ _ _ h => h) (sj_refl hb.bd rfl rfl) (by decide) ?_
       refine dj_pass 98 (e := 110) (by as_aux_lemma => kernel_rfl) (by as_aux_lemma => kernel_rfl) rfl rfl rfl rfl rfl (by rw [hg695]; rfl) (fun _ _ _ h => h) (sj_refl hb.bd rfl rfl) (by decide) ?_
       refine dj_pass 99 (e := 110) (by as_aux_lemma => kernel_rfl) (by as_aux_lemma => kernel_rfl) rfl rfl rfl rfl rfl (by rw [hg695]; rfl) (fun _ _ _ h => h) (sj_refl hb.bd rfl rfl) (by decide) ?_
       refine dj_pass 100 (e := 110) (by as_aux_lemma => kernel_rfl) (by as_aux_lemma => kernel_rfl) rfl rfl rfl rfl rfl (by rw [hg695]; rfl) (fun _ _ _ h => h) (sj_refl hb.bd rfl rfl) (by decide) ?_
       refine dj_pass 101 (e := 110) (by as_aux_lemma => kernel_rfl) (by as_aux_lemma => kernel_rfl) rfl rfl rfl rfl rfl (by rw [hg695]; rfl) (fun _ _ _ h => h) (sj_refl hb.bd rfl rfl) (by decide) ?_
       refine dj_pass 102 (e := 110) (by as_aux_lemma => kernel_rfl) (by as_aux_lemma => kernel_rfl) rfl rfl rfl rfl rfl (by rw [hg695]; rfl) (fun _ _ _ h => h) (sj_refl hb.bd rfl rfl) (by decide) ?_
       refine dj_pass 103 (e := 110) (by as_aux_lemma => kernel_rfl) (by as_aux_lemma => kernel_rfl) rfl rfl rfl rfl rfl (by rw [hg695]; rfl) (fun _ _ _ h => h) (sj_refl hb.bd rfl rfl) (by decide) ?_
       refine dj_pass 104 (e := 110) (by as_aux_lemma => kernel_rfl) (by as_aux_lemma => kernel_rfl) rfl rfl rfl rfl rfl (by rw [hg695]; rfl) (fun _ _ _ h => h) (sj_refl hb.bd rfl rfl) (by decide) ?_
       refine dj_pass 105 (e := 110) (by as_aux_lemma => kernel_rfl) (by as_aux_lemma => kernel_rfl) rfl rfl rfl rfl rfl (by rw [hg695]; rfl) (fun _ _ _ h => h) (sj_refl hb.bd rfl rfl) (by decide) ?_
       refine dj_pass 106 (e := 110) (by as_aux_lemma => kernel_rfl) (by as_aux_lemma => kernel_rfl) rfl rfl rfl rfl rfl (by rw [hg695]; rfl) (fun _ _ _ h => h) (sj_refl hb.bd rfl rfl) (by decide) ?_
       refine dj_H 107 (v := .bool true) (by as_aux_lemma => kernel_rfl) (by as_aux_lemma => kernel_rfl) rfl (fun _ _ _ h => h) (sj_refl hb.bd rfl rfl) (fun w1 ρ1 hw1 => ev_pick_t rfl hg695 rfl) (by decide) ?_
       refine dj_done rfl (by as_aux_lemma => kernel_rfl) ?_
       refine ke_weaken (l' := [(0, vl_0), (1, .int .i64 at_1), (5, .pointer (some ⟨gc_5, 0, none⟩)), (6, .pointer (some ⟨gd_6, 0, none⟩)), (7, .int .i64 i_7), (129, .bool true)]) (.cons rfl (.cons rfl (.cons rfl (.cons rfl (.cons rfl (.cons rfl (.nil _))))))) ?_
       have hK := law32_ConsentPlays_B2_ok hg hbd hz _ hr0 hS hb hl_0 ⟨_, hB527, h526⟩ ⟨_, hB537, h536⟩
       exact ke_weaken (l' := [(0, vl_0), (1, .int .i64 at_1), (5, .pointer (some ⟨gc_5, 0, none⟩)), (6, .pointer (some ⟨gd_6, 0, none⟩)), (7, .int .i64 i_7), (129, .bool true)]) (.cons rfl (.cons rfl (.cons rfl (.cons rfl (.cons rfl (.cons rfl (.nil _))))))) hK
      ·replace hS := ite_false' hS hg695
       refine dj_Hg 89 (v := .pointer (some ⟨gc_5, 0, none⟩)) (by as_aux_lemma => kernel_rfl) (by as_aux_lemma => kernel_rfl) rfl rfl rfl hg695 (fun _ _ _ h => h) (sj_refl hb.bd rfl rfl) (fun w1 ρ1 hw1 => ev_move rfl) (by decide) ?_
       refine dj_Hg 90 (v := vl_0) (by as_aux_lemma => kernel_rfl) (by as_aux_lemma => kernel_rfl) rfl rfl rfl hg695 (fun _ _ _ h => h) (sj_refl hb.bd rfl rfl) (fun w1 ρ1 hw1 => ev_move rfl) (by decide) ?_
       refine dj_Hg 91 (v := .int .i64 i_7) (by as_aux_lemma => kernel_rfl) (by as_aux_lemma => kernel_rfl) rfl rfl rfl hg695 (fun _ _ _ h => h) (sj_refl hb.bd rfl rfl) (fun w1 ρ1 hw1 => ev_move rfl) (by decide) ?_
       obtain ⟨y696, hy697, hS⟩ := bind_some' hS
       obtain ⟨b698, o699, cs701, hq702, he700⟩ := ((SlT.of_sl (i := 0) hl_0)).elem (P := Try.prog) Try.underlying22 Try.info32 rfl hy697
       obtain ⟨v703, hcshe700, h704⟩ := he700.rd
       obtain rfl : cs701 = [.int .i64 y696.Call, .int .i64 y696.Until, .int .i64 y696.Now, str y696.User, str y696.Client, v703] := hcshe700
       refine dj_Hg 92 (v := .pointer (some ⟨b698, o699, none⟩)) (by as_aux_lemma => kernel_rfl) (by as_aux_lemma => kernel_rfl) rfl rfl rfl hg695 (fun _ _ _ h => h) (sj_refl hb.bd rfl rfl) (fun w1 ρ1 hw1 => hq702 w1 rfl rfl) (by decide) ?_
       refine dj_Hg 93 (v := .pointer (some ⟨b698, o699 + 3, none⟩)) (by as_aux_lemma => kernel_rfl) (by as_aux_lemma => kernel_rfl) rfl rfl rfl hg695 (fun _ _ _ h => h) (sj_refl hb.bd rfl rfl) (fun w1 ρ1 hw1 => ev_fieldAddr (i := 3) Try.underlying32 rfl Try.info9 rfl rfl) (by decide) ?_
       refine dj_Hg 94 (v := str y696.User) (by as_aux_lemma => kernel_rfl) (by as_aux_lemma => kernel_rfl) rfl rfl rfl hg695 (fun _ _ _ h => h) (sj_refl hb.bd rfl rfl) (fun w1 ρ1 hw1 => ev_load Try.isAgg9 rfl ((he700.mv (hw1.mv (i := 0) rfl) (Nat.succ_pos _)).cell 3 _ rfl)) (by decide) ?_
       refine dj_Hg 95 (v := .int .i64 at_1) (by as_aux_lemma => kernel_rfl) (by as_aux_lemma => kernel_rfl) rfl rfl rfl hg695 (fun _ _ _ h => h) (sj_refl hb.bd rfl rfl) (fun w1 ρ1 hw1 => ev_move rfl) (by decide) ?_
       refine dj_Hg 97 (v := .pointer (some ⟨gd_6, 0, none⟩)) (by as_aux_lemma => kernel_rfl) (by as_aux_lemma => kernel_rfl) rfl rfl rfl hg695 (fun _ _ _ h => h) (sj_refl hb.bd rfl rfl) (fun w1 ρ1 hw1 => ev_move rfl) (by decide) ?_
       refine dj_Hg 98 (v := vl_0) (by as_aux_lemma => kernel_rfl) (by as_aux_lemma => kernel_rfl) rfl rfl rfl hg695 (fun _ _ _ h => h) (sj_refl hb.bd rfl rfl) (fun w1 ρ1 hw1 => ev_move rfl) (by decide) ?_
       refine dj_Hg 99 (v := .int .i64 i_7) (by as_aux_lemma => kernel_rfl) (by as_aux_lemma => kernel_rfl) rfl rfl rfl hg695 (fun _ _ _ h => h) (sj_refl hb.bd rfl rfl) (fun w1 ρ1 hw1 => ev_move rfl) (by decide) ?_
       obtain ⟨y705, hy706, hS⟩ := bind_some' hS
       obtain ⟨b707, o708, cs710, hq711, he709⟩ := ((SlT.of_sl (i := 0) hl_0)).elem (P := Try.prog) Try.underlying22 Try.info32 rfl hy706
       obtain ⟨v712, hcshe709, h713⟩ := he709.rd
       obtain rfl : cs710 = [.int .i64 y705.Call, .int .i64 y705.Until, .int .i64 y705.Now, str y705.User, str y705.Client, v712] := hcshe709
       refine dj_Hg 100 (v := .pointer (some ⟨b707, o708, none⟩)) (by as_aux_lemma => kernel_rfl) (by as_aux_lemma => kernel_rfl) rfl rfl rfl hg695 (fun _ _ _ h => h) (sj_refl hb.bd rfl rfl) (fun w1 ρ1 hw1 => hq711 w1 rfl rfl) (by decide) ?_
       refine dj_Hg 101 (v := .pointer (some ⟨b707, o708 + 3, none⟩)) (by as_aux_lemma => kernel_rfl) (by as_aux_lemma => kernel_rfl) rfl rfl rfl hg695 (fun _ _ _ h => h) (sj_refl hb.bd rfl rfl) (fun w1 ρ1 hw1 => ev_fieldAddr (i := 3) Try.underlying32 rfl Try.info9 rfl rfl) (by decide) ?_
       refine dj_Hg 102 (v := str y705.User) (by as_aux_lemma => kernel_rfl) (by as_aux_lemma => kernel_rfl) rfl rfl rfl hg695 (fun _ _ _ h => h) (sj_refl hb.bd rfl rfl) (fun w1 ρ1 hw1 => ev_load Try.isAgg9 rfl ((he709.mv (hw1.mv (i := 0) rfl) (Nat.succ_pos _)).cell 3 _ rfl)) (by decide) ?_
       refine dj_Hg 103 (v := .int .i64 at_1) (by as_aux_lemma => kernel_rfl) (by as_aux_lemma => kernel_rfl) rfl rfl rfl hg695 (fun _ _ _ h => h) (sj_refl hb.bd rfl rfl) (fun w1 ρ1 hw1 => ev_move rfl) (by decide) ?_
       refine dj_E 96 (by as_aux_lemma => kernel_rfl) rfl ?_
       have jt714 : Tr ρ538 w692 (fun t => ([100, 101, 200, 201] : List Nat).contains t) ρ538 w692 := (Tr.refl hb.bd).weak (fun _ _ => rfl) rfl rfl
       obtain ⟨y715, hy716, hS⟩ := bind_some' hS
       refine sr_callg (b := false) (e := 110) rfl rfl hg695 (vs := [.pointer (some ⟨gc_5, 0, none⟩), str y696.User, .int .i64 at_1]) rfl Try.call19 rfl (consent_Consents_Clients_ok _ (hg.fr hz hb) (ρA := ρ538) hb.bd (hz.fr hg hb) (τ0 := (fun p => 100 + p)) (fun p => Nat.le_add_right_of_le (by decide)) (⟨_, hB527, h526⟩ : consent_Consents.O (fun p => 100 + p) ρ538 w692 gc_5 y520.2) hy716) (by decide) ?_
       rintro v720 w717 ⟨_, rfl, h721, hbw718⟩
       have htr719 := Tr.of_below hbw718 hb.bd
       replace hl_0 := hl_0.mv htr719.rd
       replace hB527 := hB527.mv (htr719.mv (i := 100) rfl)
       replace h526 := h526.mv (htr719.mv (i := 101) rfl)
       replace hB537 := hB537.mv (htr719.mv (i := 200) rfl)
       replace h536 := h536.mv (htr719.mv (i := 201) rfl) (by decide)
       replace hb := hb.trans htr719
       replace jt714 := (jt714.trans htr719).weak (J' := (fun t => ([100, 101, 200, 201] : List Nat).contains t)) (by intro t h; simp [rng] at h ⊢ <;> omega) rfl rfl
       refine dj_next (l' := [(0, vl_0), (1, .int .i64 at_1), (5, .pointer (some ⟨gc_5, 0, none⟩)), (6, .pointer (some ⟨gd_6, 0, none⟩)), (7, .int .i64 i_7), (110, .bool (!y690)), (118, v720), (119, .pointer (some ⟨gd_6, 0, none⟩)), (124, str y705.User), (125, .int .i64 at_1)]) rfl (.cons rfl (.cons rfl (.cons rfl (.cons rfl (.cons rfl (.cons rfl (.cons rfl (.cons rfl (.cons rfl (.cons rfl (.nil _))))))))))) jt714 (by intro t h; simp [rng] at h ⊢ <;> omega) rfl rfl ?_
       refine dj_E 104 (by as_aux_lemma => kernel_rfl) rfl ?_
       have jt722 : Tr ρ538 w717 (fun t => ([100, 101, 200, 201] : List Nat).contains t) ρ538 w717 := (Tr.refl hb.bd).weak (fun _ _ => rfl) rfl rfl
       obtain ⟨y723, hy724, hS⟩ := bind_some' hS
       refine sr_callg (b := false) (e := 110) rfl rfl hg695 (vs := [.pointer (some ⟨gd_6, 0, none⟩), str y705.User, .int .i64 at_1]) rfl Try.call20 rfl (ref32_Consents_Clients_ok _ (hg.fr hz hb) (ρA := ρ538) hb.bd (hz.fr hg hb) (τ0 := (fun p => 200 + p)) (fun p => Nat.le_add_right_of_le (by decide)) (⟨_, hB537, h536⟩ : ref32_Consents.O (fun p => 200 + p) ρ538 w717 gd_6 y530.2) hy724) (by decide) ?_
       rintro v728 w725 ⟨_, rfl, h729, hbw726⟩
       have htr727 := Tr.of_below hbw726 hb.bd
       replace hl_0 := hl_0.mv htr727.rd
       replace h721 := h721.mv htr727.rd
       replace hB527 := hB527.mv (htr727.mv (i := 100) rfl)
       replace h526 := h526.mv (htr727.mv (i := 101) rfl)
       replace hB537 := hB537.mv (htr727.mv (i := 200) rfl)
       replace h536 := h536.mv (htr727.mv (i := 201) rfl) (by decide)
       replace hb := hb.trans htr727
       replace jt722 := (jt722.trans htr727).weak (J' := (fun t => ([100, 101, 200, 201] : List Nat).contains t)) (by intro t h; simp [rng] at h ⊢ <;> omega) rfl rfl
       refine dj_next (l' := [(0, vl_0), (1, .int .i64 at_1), (5, .pointer (some ⟨gc_5, 0, none⟩)), (6, .pointer (some ⟨gd_6, 0, none⟩)), (7, .int .i64 i_7), (110, .bool (!y690)), (118, v720), (126, v728)]) rfl (.cons rfl (.cons rfl (.cons rfl (.cons rfl (.cons rfl (.cons rfl (.cons rfl (.cons rfl (.nil _))))))))) jt722 (by intro t h; simp [rng] at h ⊢ <;> omega) rfl rfl ?_
       refine dj_E 105 (by as_aux_lemma => kernel_rfl) rfl ?_
       have jt730 : Tr ρ538 w725 (fun t => ([100, 101, 200, 201] : List Nat).contains t) ρ538 w725 := (Tr.refl hb.bd).weak (fun _ _ => rfl) rfl rfl
       obtain ⟨y731, hy732, hS⟩ := bind_some' hS
       refine sr_callg (b := false) (e := 110) rfl rfl hg695 (vs := [v720, v728]) rfl Try.call16 rfl (ref03_Same_ok _ (hg.fr hz hb) h721.asSl h729.asSl hy732) (by decide) ?_
       rintro _ w733 ⟨rfl, hbw734⟩
       have htr735 := Tr.of_below hbw734 hb.bd
       replace hl_0 := hl_0.mv htr735.rd
       replace hB527 := hB527.mv (htr735.mv (i := 100) rfl)
       replace h526 := h526.mv (htr735.mv (i := 101) rfl)
       replace hB537 := hB537.mv (htr735.mv (i := 200) rfl)
       replace h536 := h536.mv (htr735.mv (i := 201) rfl) (by decide)
       replace hb := hb.trans htr735
       replace jt730 := (jt730.trans htr735).weak (J' := (fun t => ([100, 101, 200, 201] : List Nat).contains t)) (by intro t h; simp [rng] at h ⊢ <;> omega) rfl rfl
       refine dj_next (l' := [(0, vl_0), (1, .int .i64 at_1), (5, .pointer (some ⟨gc_5, 0, none⟩)), (6, .pointer (some ⟨gd_6, 0, none⟩)), (7, .int .i64 i_7), (110, .bool (!y690)), (127, .bool y731)]) rfl (.cons rfl (.cons rfl (.cons rfl (.cons rfl (.cons rfl (.cons rfl (.cons rfl (.nil _)))))))) jt730 (by intro t h; simp [rng] at h ⊢ <;> omega) rfl rfl ?_
       refine dj_Hg 106 (v := .bool (!y731)) (by as_aux_lemma => kernel_rfl) (by as_aux_lemma => kernel_rfl) rfl rfl rfl hg695 (fun _ _ _ h => h) (sj_refl hb.bd rfl rfl) (fun w1 ρ1 hw1 => ev_not rfl) (by decide) ?_
       refine dj_H 107 (v := .bool (!y731)) (by as_aux_lemma => kernel_rfl) (by as_aux_lemma => kernel_rfl) rfl (fun _ _ _ h => h) (sj_refl hb.bd rfl rfl) (fun w1 ρ1 hw1 => ev_pick_f rfl hg695 rfl) (by decide) ?_
       refine dj_done rfl (by as_aux_lemma => kernel_rfl) ?_
       refine ke_weaken (l' := [(0, vl_0), (1, .int .i64 at_1), (5, .pointer (some ⟨gc_5, 0, none⟩)), (6, .pointer (some ⟨gd_6, 0, none⟩)), (7, .int .i64 i_7), (129, .bool (!y731))]) (.cons rfl (.cons rfl (.cons rfl (.cons rfl (.cons rfl (.cons rfl (.nil _))))))) ?_
       have hK := law32_ConsentPlays_B2_ok hg hbd hz _ hr0 hS hb hl_0 ⟨_, hB527, h526⟩ ⟨_, hB537, h536⟩
       exact ke_weaken (l' := [(0, vl_0), (1, .int .i64 at_1), (5, .pointer (some ⟨gc_5, 0, none⟩)), (6, .pointer (some ⟨gd_6, 0, none⟩)), (7, .int .i64 i_7), (129, .bool (!y731))]) (.cons rfl (.cons rfl (.cons rfl (.cons rfl (.cons rfl (.cons rfl (.nil _))))))) hK
  ·replace hS := ite_false' hS hc40
   refine ke_exit (k' := _) rfl ?_
   refine ke_seq ?_
   refine ke_region ?_
   obtain ⟨y736, hy737, hS⟩ := bind_some' hS
   refine sr_call (vs := []) rfl Try.call9 rfl (law32_awake_ok _ (hg.fr hz hb) (ρA := ρ) hb.bd (hz.fr hg hb) hy737) (by decide) ?_
   rintro _ w738 ⟨rfl, hbw739⟩
   have htr740 := Tr.of_below hbw739 hb.bd
   replace hb := hb.trans htr740
   refine sr_ev (v := .bool y736) (ev_assign rfl) (by decide) ?_
   refine sr_end (l' := [(4, .bool y736)]) (.cons rfl (.nil _)) ?_
   cases hS
   exact ke_ret1 Try.func3 rfl rfl ⟨_, rfl, rfl, (hb.below (flat1_le _))⟩
theorem law32_ConsentPlays_ok (w0 : World) (hg : Gs w0) {ρA : Tags} (hbd : ∀ b, ρA b ≠ 0 → b < w0.heap.size) (hz : Gz ρA) {l_0 : List law32_Op} {at_1 : Int} {v1 : Value} {r : Bool} (h2 : SlR law32_Op.c (Wb ρA) w0 v1 l_0) (hS : law32_ConsentPlays l_0 at_1 = some r) :
  Calls Try.prog 3 #[v1, .int .i64 at_1] w0 (Ret (fun v w' => v = .bool r ∧ Below w0.heap.size w0 w')) := by
 unfold law32_ConsentPlays at hS
 have hb := flat1_fr (ρ := ρA) (w := w0) hbd
 have hz := hz.flat1
 replace h2 := SlR.mv h2 flat1_rd
 refine calls_of_ke Try.func3 rfl (n := 131) rfl rfl (l := [(0, v1), (1, .int .i64 at_1)]) rfl ?_
 refine ke_seq ?_
 refine ke_region ?_
 refine sr_ev (v := .bool false) (ev_assign rfl) (by decide) ?_
 refine sr_end (l' := [(0, v1), (1, .int .i64 at_1)]) (.cons rfl (.cons rfl (.nil _))) ?_
 refine ke_seq ?_
 refine ke_seq ?_
 refine ke_region ?_
 refine sr_ev (v := v1) (ev_move rfl) (by decide) ?_
 obtain ⟨y3, hy4, hS⟩ := bind_some' hS
 refine sr_call (vs := [v1]) rfl Try.call8 rfl (law32_light_ok _ (hg.fr hz hb) h2.asSl hy4) (by decide) ?_
 rintro _ w5 ⟨rfl, hbw6⟩
 have htr7 := Tr.of_below hbw6 hb.bd
 replace h2 := h2.mv htr7.rd
 replace hb := hb.trans htr7
 refine sr_ev (v := .bool (!y3)) (ev_not rfl) (by decide) ?_
 refine sr_end (l' := [(0, v1), (1, .int .i64 at_1), (10, .bool (!y3))]) (.cons rfl (.cons rfl (.cons rfl (.nil _)))) ?_
 refine ke_cond (t := !y3) rfl (fun hc8 => ?_) (fun hc8 => ?_)
 ·replace hS := ite_true' hS hc8
  refine ke_seq ?_
  refine ke_region ?_
  obtain ⟨y9, hy10, hS⟩ := bind_some' hS
  refine sr_call (vs := []) rfl Try.call9 rfl (law32_awake_ok _ (hg.fr hz hb) (ρA := (flat1 ρA)) hb.bd (hz.fr hg hb) hy10) (by decide) ?_
  rintro _ w11 ⟨rfl, hbw12⟩
  have htr13 := Tr.of_below hbw12 hb.bd
  replace hb := hb.trans htr13
  refine sr_ev (v := .bool y9) (ev_assign rfl) (by decide) ?_
  refine sr_end (l' := [(4, .bool y9)]) (.cons rfl (.nil _)) ?_
  cases hS
  exact ke_ret1 Try.func3 rfl rfl ⟨_, rfl, rfl, (hb.below (flat1_le _))⟩
 ·replace hS := ite_false' hS hc8
  refine ke_skip ?_
  refine ke_seq ?_
  refine ke_region ?_
  obtain ⟨y14, hy15, hS⟩ := bind_some' hS
  refine sr_call (vs := []) rfl Try.call10 rfl (consent_New_ok _ (hg.fr hz hb) (ρA := (flat1 ρA)) hb.bd (hz.fr hg hb) (o := 100) (by decide) hy15) (by decide) ?_
  rintro _ w16 ⟨ρ23, g19, rfl, ⟨v20, hB22, h21⟩, htr18⟩
  replace h2 := h2.mv htr18.rd
  replace hb := hb.trans htr18
  replace hB22 : Blk ρ23 100 w16 g19 (.cells #[v20] 52 (0, 0)) := hB22
  replace h21 : MapT consent_pair.ek (mapC str (intC .i64) false) false ρ23 101 w16 v20 y14.pairs := h21
  obtain ⟨y24, hy25, hS⟩ := bind_some' hS
  refine sr_call (vs := []) rfl Try.call11 rfl (ref32_New_ok _ (hg.fr hz hb) (ρA := ρ23) hb.bd (hz.fr hg hb) (o := 200) (by decide) hy25) (by decide) ?_
  rintro _ w26 ⟨ρ33, g29, rfl, ⟨v30, hB32, h31⟩, htr28⟩
  replace h2 := h2.mv htr28.rd
  replace hB22 := hB22.mv (htr28.mv (i := 100) rfl)
  replace h21 := h21.mv (htr28.mv (i := 101) rfl)
  replace hb := hb.trans htr28
  replace hB32 : Blk ρ33 200 w26 g29 (.cells #[.bool y24.made, v30] 55 (0, 0)) := hB32
  replace h31 : OwnT ref32_pair.c 63 ρ33 201 w26 v30 y24.pairs := h31
  refine sr_ev (v := .pointer (some ⟨g19, 0, none⟩)) (ev_assign rfl) (by decide) ?_
  refine sr_ev (v := .pointer (some ⟨g29, 0, none⟩)) (ev_assign rfl) (by decide) ?_
  refine sr_end (l' := [(0, v1), (1, .int .i64 at_1), (5, .pointer (some ⟨g19, 0, none⟩)), (6, .pointer (some ⟨g29, 0, none⟩))]) (.cons rfl (.cons rfl (.cons rfl (.cons rfl (.nil _))))) ?_
  refine ke_seq ?_
  refine ke_seq ?_
  refine ke_region ?_
  refine sr_ev (v := .pointer (some ⟨g19, 0, none⟩)) (ev_move rfl) (by decide) ?_
  refine sr_ev (v := .bool false) (ev_peqT_some Try.underlying25 rfl rfl) (by decide) ?_
  refine sr_end (l' := [(0, v1), (1, .int .i64 at_1), (5, .pointer (some ⟨g19, 0, none⟩)), (6, .pointer (some ⟨g29, 0, none⟩)), (15, .bool false)]) (.cons rfl (.cons rfl (.cons rfl (.cons rfl (.cons rfl (.nil _)))))) ?_
  refine ke_cond (t := false) rfl (fun h => by cases h) (fun _ => ?_)
  refine ke_skip ?_
  refine ke_seq ?_
  refine ke_seq ?_
  refine ke_region ?_
  refine sr_ev (v := .int .i64 0) (ev_assign rfl) (by decide) ?_
  refine sr_end (l' := [(0, v1), (1, .int .i64 at_1), (5, .pointer (some ⟨g19, 0, none⟩)), (6, .pointer (some ⟨g29, 0, none⟩)), (7, .int .i64 0)]) (.cons rfl (.cons rfl (.cons rfl (.cons rfl (.cons rfl (.nil _)))))) ?_
  refine ke_block ?_
  have hK := law32_ConsentPlays_L1_ok hg hbd hz _ hS hb h2 ⟨_, hB22, h21⟩ ⟨_, hB32, h31⟩
  exact ke_weaken (l' := [(0, v1), (1, .int .i64 at_1), (5, .pointer (some ⟨g19, 0, none⟩)), (6, .pointer (some ⟨g29, 0, none⟩)), (7, .int .i64 0)]) (.cons rfl (.cons rfl (.cons rfl (.cons rfl (.cons rfl (.nil _)))))) (ke_loop hK)
end Ytijiipelpgmhpaa
end Go.Proofs
