/- Own work: a part of the proofs of this seat. -/
import Derived.Test.YtangcaaneobhnaaGreatDoorProg
import Derived.Test.YtangcaaneobhnaaGreatDoorShelf
import Derived.Test.YtangcaaneobhnaaGreatDoorKwGZS
import Derived.KernelRfl
import Derived.Test.YtangcaaneobhnaaGreatDoorKwGZW3
set_option linter.unusedVariables false
set_option linter.unusedSimpArgs false
set_option linter.unusedSectionVars false
set_option maxHeartbeats 8000000
set_option maxRecDepth 8000
namespace Go.Proofs
namespace YtangcaaneobhnaaGreatDoor
open Go Go.KW Go.KW.S Go.RowKit
theorem law37_DeviceDoes_L1_ok {w0 : World} (hg : Gs w0) {ρA : Tags} (hbd : ∀ b, ρA b ≠ 0 → b < w0.heap.size) (hz : Gz (flat1 ρA)) : ∀ (n : Nat), ∀ {r : Bool} {ops_0 : List law37_Op} {od_3 : device_Devices} {om_4 : ref37_Devices} {last_5 : Str} {t_19 : Int} {t_20 : Int} {vops_0 : Value} {gd_3 : Nat} {gm_4 : Nat}, law37_DeviceDoes_L1 n ops_0 od_3 om_4 last_5 t_19 t_20 = some r → ∀ {ρ : Tags} {w : World}, (Fr (flat1 ρA) w0 ρ w) → (SlR law37_Op.c (Wb ρ) w vops_0 ops_0) → (device_Devices.O (fun p => 100 + p) ρ w gd_3 od_3) → (ref37_Devices.O (fun p => 200 + p) ρ w gm_4 om_4) → KE Tryz.prog 3 (Ret (fun v w' => v = .bool r ∧ Below w0.heap.size w0 w')) 78 [.code (sub (bodyOf Tryz.f3) [2, 2, 2, 2, 2, 1, 2, 2, 1]), .inLoop (sub (bodyOf Tryz.f3) [2, 2, 2, 2, 2, 1, 2, 2, 1]), .inBlock 0, .code (sub (bodyOf Tryz.f3) [2, 2, 2, 2, 2, 2])] [(0, vops_0), (3, .pointer (some ⟨gd_3, 0, none⟩)), (4, .pointer (some ⟨gm_4, 0, none⟩)), (5, str last_5), (19, .int .i64 t_19), (20, .int .i64 t_20)] w := by
 intro n
 induction n with
 | zero => intro r ops_0 od_3 om_4 last_5 t_19 t_20 vops_0 gd_3 gm_4 hS; cases hS
 | succ n ih =>
  have hr0 : ∀ {r : Bool} {ops_0 : List law37_Op} {od_3 : device_Devices} {om_4 : ref37_Devices} {last_5 : Str} {t_19 : Int} {t_20 : Int} {vops_0 : Value} {gd_3 : Nat} {gm_4 : Nat}, law37_DeviceDoes_L1 n ops_0 od_3 om_4 last_5 t_19 t_20 = some r → ∀ {ρ : Tags} {w : World}, (Fr (flat1 ρA) w0 ρ w) → (SlR law37_Op.c (Wb ρ) w vops_0 ops_0) → (device_Devices.O (fun p => 100 + p) ρ w gd_3 od_3) → (ref37_Devices.O (fun p => 200 + p) ρ w gm_4 om_4) → KE Tryz.prog 3 (Ret (fun v w' => v = .bool r ∧ Below w0.heap.size w0 w')) 78 [.inLoop (sub (bodyOf Tryz.f3) [2, 2, 2, 2, 2, 1, 2, 2, 1]), .inBlock 0, .code (sub (bodyOf Tryz.f3) [2, 2, 2, 2, 2, 2])] [(0, vops_0), (3, .pointer (some ⟨gd_3, 0, none⟩)), (4, .pointer (some ⟨gm_4, 0, none⟩)), (5, str last_5), (19, .int .i64 t_19), (20, .int .i64 t_20)] w := fun {r} {ops_0} {od_3} {om_4} {last_5} {t_19} {t_20} {vops_0} {gd_3} {gm_4} hS {ρ} {w} hb hops_0 hod_3 hom_4 => ke_inLoop (ih hS hb hops_0 hod_3 hom_4)
  clear ih
  intro r ops_0 od_3 om_4 last_5 t_19 t_20 vops_0 gd_3 gm_4 hS ρ w hb hops_0 hod_3 hom_4
  unfold law37_DeviceDoes_L1 at hS
  obtain ⟨v42, hB44, h43⟩ := hod_3
  replace hB44 : Blk ρ 100 w gd_3 (.cells #[v42, .int .i64 od_3.given] 41 (0, 0)) := hB44
  replace h43 : MapT device_key.ek device_record.c true ρ 101 w v42 od_3.records := h43
  obtain ⟨v45, hB47, h46⟩ := hom_4
  replace hB47 : Blk ρ 200 w gm_4 (.cells #[v45, .int .i64 om_4.N] 55 (0, 0)) := hB47
  replace h46 : OwnT ref37_Device.c 70 ρ 201 w v45 om_4.L := h46
  refine ke_seq ?_
  refine ke_region ?_
  refine sr_ev (v := .bool (decide (t_20 < t_19))) (ev_lt rfl rfl) (by decide) ?_
  refine sr_end (l' := [(0, vops_0), (3, .pointer (some ⟨gd_3, 0, none⟩)), (4, .pointer (some ⟨gm_4, 0, none⟩)), (5, str last_5), (19, .int .i64 t_19), (20, .int .i64 t_20), (21, .bool (decide (t_20 < t_19)))]) (.cons rfl (.cons rfl (.cons rfl (.cons rfl (.cons rfl (.cons rfl (.cons rfl (.nil _)))))))) ?_
  refine ke_seq ?_
  refine ke_cond (t := decide (t_20 < t_19)) rfl (fun hc48 => ?_) (fun hc48 => ?_)
  ·replace hS := ite_true' hS hc48
   refine ke_skip ?_
   refine ke_seq ?_
   refine ke_block ?_
   refine ke_seq ?_
   refine ke_region ?_
   refine sr_ev (v := .int .i64 t_20) (ev_move rfl) (by decide) ?_
   refine sr_ev (v := .int .i64 t_20) (ev_assign rfl) (by decide) ?_
   refine sr_end (l' := [(0, vops_0), (3, .pointer (some ⟨gd_3, 0, none⟩)), (4, .pointer (some ⟨gm_4, 0, none⟩)), (5, str last_5), (6, .int .i64 t_20), (19, .int .i64 t_19), (20, .int .i64 t_20)]) (.cons rfl (.cons rfl (.cons rfl (.cons rfl (.cons rfl (.cons rfl (.cons rfl (.nil _)))))))) ?_
   refine ke_seq ?_
   refine ke_region_j (ρ := ρ) (fun t => ([9, 10, 100, 101, 200, 201] : List Nat).contains t) 18 Tryz.mixed (fun w50 hw49 => ?_)
   have htr51 := Tr.of_below hw49 hb.bd
   replace hops_0 := hops_0.mv htr51.rd
   replace hB44 := hB44.mv (htr51.mv (i := 100) rfl)
   replace h43 := h43.mv (htr51.mv (i := 101) rfl)
   replace hB47 := hB47.mv (htr51.mv (i := 200) rfl)
   replace h46 := h46.mv (htr51.mv (i := 201) rfl) (by decide)
   replace hb := hb.trans htr51
   refine dj_H 0 (v := .pointer (some ⟨gd_3, 0, none⟩)) (by kernel_rfl) (by kernel_rfl) rfl (fun _ _ _ h => h) (sj_refl hb.bd rfl rfl) (fun w1 ρ1 hw1 => ev_move rfl) (by decide) ?_
   refine dj_H 1 (v := vops_0) (by kernel_rfl) (by kernel_rfl) rfl (fun _ _ _ h => h) (sj_refl hb.bd rfl rfl) (fun w1 ρ1 hw1 => ev_move rfl) (by decide) ?_
   refine dj_H 2 (v := .int .i64 t_20) (by kernel_rfl) (by kernel_rfl) rfl (fun _ _ _ h => h) (sj_refl hb.bd rfl rfl) (fun w1 ρ1 hw1 => ev_move rfl) (by decide) ?_
   obtain ⟨y825, hy826, hS⟩ := bind_some' hS
   obtain ⟨b827, o828, cs830, hq831, he829⟩ := ((SlT.of_sl (i := 0) hops_0)).elem (P := Tryz.prog) Tryz.underlying22 Tryz.info35 rfl hy826
   obtain rfl : cs830 = [.int .i64 y825.Kind, str y825.User, str y825.ID, str y825.Secret, .int .i64 y825.Until, .int .i64 y825.Now] := he829.rd
   refine dj_H 3 (v := .pointer (some ⟨b827, o828, none⟩)) (by kernel_rfl) (by kernel_rfl) rfl (fun _ _ _ h => h) (sj_refl hb.bd rfl rfl) (fun w1 ρ1 hw1 => hq831 w1 rfl rfl) (by decide) ?_
   refine dj_H 4 (v := .agg #[.int .i64 y825.Kind, str y825.User, str y825.ID, str y825.Secret, .int .i64 y825.Until, .int .i64 y825.Now]) (by kernel_rfl) (by kernel_rfl) rfl (fun _ _ _ h => h) (sj_refl hb.bd rfl rfl) (fun w1 ρ1 hw1 => ev_loads (cs := [.int .i64 y825.Kind, str y825.User, str y825.ID, str y825.Secret, .int .i64 y825.Until, .int .i64 y825.Now]) Tryz.isAgg35 Tryz.sizeOf35 rfl (he829.mv (hw1.mv (i := 0) rfl) (Nat.succ_pos _)).cell) (by decide) ?_
   refine dj_H 5 (v := str last_5) (by kernel_rfl) (by kernel_rfl) rfl (fun _ _ _ h => h) (sj_refl hb.bd rfl rfl) (fun w1 ρ1 hw1 => ev_move rfl) (by decide) ?_
   refine dj_H 7 (v := .pointer (some ⟨gm_4, 0, none⟩)) (by kernel_rfl) (by kernel_rfl) rfl (fun _ _ _ h => h) (sj_refl hb.bd rfl rfl) (fun w1 ρ1 hw1 => ev_move rfl) (by decide) ?_
   refine dj_H 8 (v := vops_0) (by kernel_rfl) (by kernel_rfl) rfl (fun _ _ _ h => h) (sj_refl hb.bd rfl rfl) (fun w1 ρ1 hw1 => ev_move rfl) (by decide) ?_
   refine dj_H 9 (v := .int .i64 t_20) (by kernel_rfl) (by kernel_rfl) rfl (fun _ _ _ h => h) (sj_refl hb.bd rfl rfl) (fun w1 ρ1 hw1 => ev_move rfl) (by decide) ?_
   obtain ⟨y832, hy833, hS⟩ := bind_some' hS
   obtain ⟨b834, o835, cs837, hq838, he836⟩ := ((SlT.of_sl (i := 0) hops_0)).elem (P := Tryz.prog) Tryz.underlying22 Tryz.info35 rfl hy833
   obtain rfl : cs837 = [.int .i64 y832.Kind, str y832.User, str y832.ID, str y832.Secret, .int .i64 y832.Until, .int .i64 y832.Now] := he836.rd
   refine dj_H 10 (v := .pointer (some ⟨b834, o835, none⟩)) (by kernel_rfl) (by kernel_rfl) rfl (fun _ _ _ h => h) (sj_refl hb.bd rfl rfl) (fun w1 ρ1 hw1 => hq838 w1 rfl rfl) (by decide) ?_
   refine dj_H 11 (v := .agg #[.int .i64 y832.Kind, str y832.User, str y832.ID, str y832.Secret, .int .i64 y832.Until, .int .i64 y832.Now]) (by kernel_rfl) (by kernel_rfl) rfl (fun _ _ _ h => h) (sj_refl hb.bd rfl rfl) (fun w1 ρ1 hw1 => ev_loads (cs := [.int .i64 y832.Kind, str y832.User, str y832.ID, str y832.Secret, .int .i64 y832.Until, .int .i64 y832.Now]) Tryz.isAgg35 Tryz.sizeOf35 rfl (he836.mv (hw1.mv (i := 0) rfl) (Nat.succ_pos _)).cell) (by decide) ?_
   refine dj_H 12 (v := str last_5) (by kernel_rfl) (by kernel_rfl) rfl (fun _ _ _ h => h) (sj_refl hb.bd rfl rfl) (fun w1 ρ1 hw1 => ev_move rfl) (by decide) ?_
   obtain ⟨y840, hy841, hS⟩ := bind_some' hS
   obtain ⟨y852, hy853, hS⟩ := bind_some' hS
   refine dj_all [6, 14, 15] (by kernel_rfl) (fun i hi => ?_)
   simp only [List.mem_cons, List.not_mem_nil, or_false] at hi
   rcases hi with rfl | rfl | rfl
   ·refine ⟨_, rfl, ?_⟩
    have jt881 : Tr ρ w50 (fun t => ([9, 10, 100, 101, 200, 201] : List Nat).contains t) ρ w50 := (Tr.refl hb.bd).weak (fun _ _ => rfl) rfl rfl
    refine sr_call (vs := [.pointer (some ⟨gd_3, 0, none⟩), .agg #[.int .i64 y825.Kind, str y825.User, str y825.ID, str y825.Secret, .int .i64 y825.Until, .int .i64 y825.Now], str last_5]) rfl Tryz.call8 rfl (law37_do_ok _ (hg.fr hz hb) (ρA := ρ) hb.bd (hz.fr hg hb) (o := 100) (by decide) (⟨_, hB44, h43⟩ : device_Devices.O (fun p => 100 + p) ρ w50 gd_3 od_3) hy841) (by decide) ?_
    rintro _ w884 ⟨ρ892, v887, rfl, h888, ⟨v889, hB891, h890⟩, htr886⟩
    replace hops_0 := hops_0.mv htr886.rd
    replace hB47 := hB47.mv (htr886.mv (i := 200) rfl)
    replace h46 := h46.mv (htr886.mv (i := 201) rfl) (by decide)
    replace hb := hb.trans htr886
    replace jt881 := (jt881.trans htr886).weak (J' := (fun t => ([9, 10, 100, 101, 200, 201] : List Nat).contains t)) (by intro t h; simp [rng] at h ⊢ <;> omega) rfl rfl
    replace hB891 : Blk ρ892 100 w884 gd_3 (.cells #[v889, .int .i64 y840.2.given] 41 (0, 0)) := hB891
    replace h890 : MapT device_key.ek device_record.c true ρ892 101 w884 v889 y840.2.records := h890
    refine dj_next (l' := [(0, vops_0), (3, .pointer (some ⟨gd_3, 0, none⟩)), (4, .pointer (some ⟨gm_4, 0, none⟩)), (5, str last_5), (19, .int .i64 t_19), (20, .int .i64 t_20), (29, .agg #[str y840.1.text, v887, .int .i64 y840.1.n, .bool y840.1.is_, .int .i64 y840.1.e]), (30, .pointer (some ⟨gm_4, 0, none⟩)), (34, .agg #[.int .i64 y832.Kind, str y832.User, str y832.ID, str y832.Secret, .int .i64 y832.Until, .int .i64 y832.Now]), (35, str last_5)]) rfl (.cons rfl (.cons rfl (.cons rfl (.cons rfl (.cons rfl (.cons rfl (.cons rfl (.cons rfl (.cons rfl (.cons rfl (.nil _))))))))))) jt881 (by intro t h; simp [rng] at h ⊢ <;> omega) rfl rfl ?_
    refine dj_all [13, 14, 15] (by kernel_rfl) (fun i hi => ?_)
    simp only [List.mem_cons, List.not_mem_nil, or_false] at hi
    rcases hi with rfl | rfl | rfl
    ·refine ⟨_, rfl, ?_⟩
     have jt893 : Tr ρ892 w884 (fun t => ([9, 10, 100, 101, 200, 201] : List Nat).contains t) ρ892 w884 := (Tr.refl hb.bd).weak (fun _ _ => rfl) rfl rfl
     refine sr_call (vs := [.pointer (some ⟨gm_4, 0, none⟩), .agg #[.int .i64 y832.Kind, str y832.User, str y832.ID, str y832.Secret, .int .i64 y832.Until, .int .i64 y832.Now], str last_5]) rfl Tryz.call9 rfl (law37_model_ok _ (hg.fr hz hb) (ρA := ρ892) hb.bd (hz.fr hg hb) (o := 200) (by decide) (⟨_, hB47, h46⟩ : ref37_Devices.O (fun p => 200 + p) ρ892 w884 gm_4 om_4) hy853) (by decide) ?_
     rintro _ w896 ⟨ρ904, v899, rfl, h900, ⟨v901, hB903, h902⟩, htr898⟩
     replace hops_0 := hops_0.mv htr898.rd
     replace h888 := h888.mv htr898.rd
     replace hB891 := hB891.mv (htr898.mv (i := 100) rfl)
     replace h890 := h890.mv (htr898.mv (i := 101) rfl)
     replace hb := hb.trans htr898
     replace jt893 := (jt893.trans htr898).weak (J' := (fun t => ([9, 10, 100, 101, 200, 201] : List Nat).contains t)) (by intro t h; simp [rng] at h ⊢ <;> omega) rfl rfl
     replace hB903 : Blk ρ904 200 w896 gm_4 (.cells #[v901, .int .i64 y852.2.N] 55 (0, 0)) := hB903
     replace h902 : OwnT ref37_Device.c 70 ρ904 201 w896 v901 y852.2.L := h902
     refine dj_next (l' := [(0, vops_0), (3, .pointer (some ⟨gd_3, 0, none⟩)), (4, .pointer (some ⟨gm_4, 0, none⟩)), (5, str last_5), (19, .int .i64 t_19), (20, .int .i64 t_20), (29, .agg #[str y840.1.text, v887, .int .i64 y840.1.n, .bool y840.1.is_, .int .i64 y840.1.e]), (36, .agg #[str y852.1.text, v899, .int .i64 y852.1.n, .bool y852.1.is_, .int .i64 y852.1.e])]) rfl (.cons rfl (.cons rfl (.cons rfl (.cons rfl (.cons rfl (.cons rfl (.cons rfl (.cons rfl (.nil _))))))))) jt893 (by intro t h; simp [rng] at h ⊢ <;> omega) rfl rfl ?_
     refine dj_all [14, 15] (by kernel_rfl) (fun i hi => ?_)
     simp only [List.mem_cons, List.not_mem_nil, or_false] at hi
     rcases hi with rfl | rfl
     ·refine ⟨_, rfl, ?_⟩
      have jt905 : Tr ρ904 w896 (fun t => ([9, 10, 100, 101, 200, 201] : List Nat).contains t) ρ904 w896 := (Tr.refl hb.bd).weak (fun _ _ => rfl) rfl rfl
      refine sr_allocT 9 (by decide) hb.bd Tryz.zeroValue32 (by decide) ?_
      intro g906 ρ907 w908 hB910 htr909
      replace hops_0 := hops_0.mv htr909.rd
      replace h888 := h888.mv htr909.rd
      replace h900 := h900.mv htr909.rd
      replace hB891 := hB891.mv (htr909.mv (i := 100) rfl)
      replace h890 := h890.mv (htr909.mv (i := 101) rfl)
      replace hB903 := hB903.mv (htr909.mv (i := 200) rfl)
      replace h902 := h902.mv (htr909.mv (i := 201) rfl) (by decide)
      replace hb := hb.trans htr909
      replace jt905 := (jt905.trans htr909).weak (J' := (fun t => ([9, 10, 100, 101, 200, 201] : List Nat).contains t)) (by intro t h; simp [rng] at h ⊢ <;> omega) rfl rfl
      replace hB910 : Blk ρ907 9 w908 g906 (.cells #[str ([]), (.slice none 0 0), .int .i64 0, .bool false, .int .i64 0] 32 (0, 0)) := hB910
      refine dj_next (l' := [(0, vops_0), (3, .pointer (some ⟨gd_3, 0, none⟩)), (4, .pointer (some ⟨gm_4, 0, none⟩)), (5, str last_5), (7, .pointer (some ⟨g906, 0, none⟩)), (19, .int .i64 t_19), (20, .int .i64 t_20), (29, .agg #[str y840.1.text, v887, .int .i64 y840.1.n, .bool y840.1.is_, .int .i64 y840.1.e]), (36, .agg #[str y852.1.text, v899, .int .i64 y852.1.n, .bool y852.1.is_, .int .i64 y852.1.e])]) rfl (.cons rfl (.cons rfl (.cons rfl (.cons rfl (.cons rfl (.cons rfl (.cons rfl (.cons rfl (.cons rfl (.nil _)))))))))) jt905 (by intro t h; simp [rng] at h ⊢ <;> omega) rfl rfl ?_
      refine dj_E 15 (by kernel_rfl) rfl ?_
      have jt911 : Tr ρ907 w908 (fun t => ([9, 10, 100, 101, 200, 201] : List Nat).contains t) ρ907 w908 := (Tr.refl hb.bd).weak (fun _ _ => rfl) rfl rfl
      refine sr_allocT 10 (by decide) hb.bd Tryz.zeroValue32 (by decide) ?_
      intro g912 ρ913 w914 hB916 htr915
      replace hops_0 := hops_0.mv htr915.rd
      replace h888 := h888.mv htr915.rd
      replace h900 := h900.mv htr915.rd
      replace hB910 := hB910.mv (htr915.mv (i := 9) rfl)
      replace hB891 := hB891.mv (htr915.mv (i := 100) rfl)
      replace h890 := h890.mv (htr915.mv (i := 101) rfl)
      replace hB903 := hB903.mv (htr915.mv (i := 200) rfl)
      replace h902 := h902.mv (htr915.mv (i := 201) rfl) (by decide)
      replace hb := hb.trans htr915
      replace jt911 := (jt911.trans htr915).weak (J' := (fun t => ([9, 10, 100, 101, 200, 201] : List Nat).contains t)) (by intro t h; simp [rng] at h ⊢ <;> omega) rfl rfl
      replace hB916 : Blk ρ913 10 w914 g912 (.cells #[str ([]), (.slice none 0 0), .int .i64 0, .bool false, .int .i64 0] 32 (0, 0)) := hB916
      refine dj_next (l' := [(0, vops_0), (3, .pointer (some ⟨gd_3, 0, none⟩)), (4, .pointer (some ⟨gm_4, 0, none⟩)), (5, str last_5), (7, .pointer (some ⟨g906, 0, none⟩)), (8, .pointer (some ⟨g912, 0, none⟩)), (19, .int .i64 t_19), (20, .int .i64 t_20), (29, .agg #[str y840.1.text, v887, .int .i64 y840.1.n, .bool y840.1.is_, .int .i64 y840.1.e]), (36, .agg #[str y852.1.text, v899, .int .i64 y852.1.n, .bool y852.1.is_, .int .i64 y852.1.e])]) rfl (.cons rfl (.cons rfl (.cons rfl (.cons rfl (.cons rfl (.cons rfl (.cons rfl (.cons rfl (.cons rfl (.cons rfl (.nil _))))))))))) jt911 (by intro t h; simp [rng] at h ⊢ <;> omega) rfl rfl ?_
      refine dj_E 16 (by kernel_rfl) rfl ?_
      have jt917 : Tr ρ913 w914 (fun t => ([9, 10, 100, 101, 200, 201] : List Nat).contains t) ρ913 w914 := (Tr.refl hb.bd).weak (fun _ _ => rfl) rfl rfl
      refine sr_storeT (v := .agg #[str y840.1.text, v887, .int .i64 y840.1.n, .bool y840.1.is_, .int .i64 y840.1.e]) (vs := [str y840.1.text, v887, .int .i64 y840.1.n, .bool y840.1.is_, .int .i64 y840.1.e]) (cs' := #[str y840.1.text, v887, .int .i64 y840.1.n, .bool y840.1.is_, .int .i64 y840.1.e]) hB910 (by decide) hb.bd rfl rfl rfl Tryz.sizeOf32 rfl (by first | rfl | (simp only [List.all_cons, List.all_nil, SlR.oneCell h888]; done) | (simp only [List.all_cons, List.all_nil, SlR.oneCell h888]; rfl)) rfl ?_
      intro w918 hB9101 htr919
      replace hops_0 := hops_0.mv htr919.rd
      replace h900 := h900.mv htr919.rd
      replace hB916 := hB916.mv (htr919.mv (i := 10) rfl)
      replace h888 := h888.mv htr919.rd
      replace hB891 := hB891.mv (htr919.mv (i := 100) rfl)
      replace h890 := h890.mv (htr919.mv (i := 101) rfl)
      replace hB903 := hB903.mv (htr919.mv (i := 200) rfl)
      replace h902 := h902.mv (htr919.mv (i := 201) rfl) (by decide)
      replace hb := hb.trans htr919
      replace jt917 := (jt917.trans htr919).weak (J' := (fun t => ([9, 10, 100, 101, 200, 201] : List Nat).contains t)) (by intro t h; simp [rng] at h ⊢ <;> omega) rfl rfl
      replace hB910 : Blk ρ913 9 w918 g906 (.cells #[str y840.1.text, v887, .int .i64 y840.1.n, .bool y840.1.is_, .int .i64 y840.1.e] 32 (0, 0)) := hB9101
      clear hB9101
      refine dj_next (l' := [(0, vops_0), (3, .pointer (some ⟨gd_3, 0, none⟩)), (4, .pointer (some ⟨gm_4, 0, none⟩)), (5, str last_5), (7, .pointer (some ⟨g906, 0, none⟩)), (8, .pointer (some ⟨g912, 0, none⟩)), (19, .int .i64 t_19), (20, .int .i64 t_20), (36, .agg #[str y852.1.text, v899, .int .i64 y852.1.n, .bool y852.1.is_, .int .i64 y852.1.e])]) rfl (.cons rfl (.cons rfl (.cons rfl (.cons rfl (.cons rfl (.cons rfl (.cons rfl (.cons rfl (.cons rfl (.nil _)))))))))) jt917 (by intro t h; simp [rng] at h ⊢ <;> omega) rfl rfl ?_
      refine dj_E 17 (by kernel_rfl) rfl ?_
      have jt920 : Tr ρ913 w918 (fun t => ([9, 10, 100, 101, 200, 201] : List Nat).contains t) ρ913 w918 := (Tr.refl hb.bd).weak (fun _ _ => rfl) rfl rfl
      refine sr_storeT (v := .agg #[str y852.1.text, v899, .int .i64 y852.1.n, .bool y852.1.is_, .int .i64 y852.1.e]) (vs := [str y852.1.text, v899, .int .i64 y852.1.n, .bool y852.1.is_, .int .i64 y852.1.e]) (cs' := #[str y852.1.text, v899, .int .i64 y852.1.n, .bool y852.1.is_, .int .i64 y852.1.e]) hB916 (by decide) hb.bd rfl rfl rfl Tryz.sizeOf32 rfl (by first | rfl | (simp only [List.all_cons, List.all_nil, SlR.oneCell h900]; done) | (simp only [List.all_cons, List.all_nil, SlR.oneCell h900]; rfl)) rfl ?_
      intro w921 hB9161 htr922
      replace hops_0 := hops_0.mv htr922.rd
      replace h900 := h900.mv htr922.rd
      replace hB910 := hB910.mv (htr922.mv (i := 9) rfl)
      replace h888 := h888.mv htr922.rd
      replace hB891 := hB891.mv (htr922.mv (i := 100) rfl)
      replace h890 := h890.mv (htr922.mv (i := 101) rfl)
      replace hB903 := hB903.mv (htr922.mv (i := 200) rfl)
      replace h902 := h902.mv (htr922.mv (i := 201) rfl) (by decide)
      replace hb := hb.trans htr922
      replace jt920 := (jt920.trans htr922).weak (J' := (fun t => ([9, 10, 100, 101, 200, 201] : List Nat).contains t)) (by intro t h; simp [rng] at h ⊢ <;> omega) rfl rfl
      replace hB916 : Blk ρ913 10 w921 g912 (.cells #[str y852.1.text, v899, .int .i64 y852.1.n, .bool y852.1.is_, .int .i64 y852.1.e] 32 (0, 0)) := hB9161
      clear hB9161
      refine dj_next (l' := [(0, vops_0), (3, .pointer (some ⟨gd_3, 0, none⟩)), (4, .pointer (some ⟨gm_4, 0, none⟩)), (5, str last_5), (7, .pointer (some ⟨g906, 0, none⟩)), (8, .pointer (some ⟨g912, 0, none⟩)), (19, .int .i64 t_19), (20, .int .i64 t_20)]) rfl (.cons rfl (.cons rfl (.cons rfl (.cons rfl (.cons rfl (.cons rfl (.cons rfl (.cons rfl (.nil _))))))))) jt920 (by intro t h; simp [rng] at h ⊢ <;> omega) rfl rfl ?_
      refine dj_done rfl (by kernel_rfl) ?_
      refine ke_weaken (l' := [(0, vops_0), (3, .pointer (some ⟨gd_3, 0, none⟩)), (4, .pointer (some ⟨gm_4, 0, none⟩)), (5, str last_5), (7, .pointer (some ⟨g906, 0, none⟩)), (8, .pointer (some ⟨g912, 0, none⟩)), (19, .int .i64 t_19), (20, .int .i64 t_20)]) (.cons rfl (.cons rfl (.cons rfl (.cons rfl (.cons rfl (.cons rfl (.cons rfl (.cons rfl (.nil _))))))))) ?_
      have hK := law37_DeviceDoes_B2_ok hg hbd hz _ hr0 hS hb hops_0 ⟨_, hB891, h890⟩ ⟨_, hB903, h902⟩ h888 hB910 h900 hB916
      exact ke_weaken (l' := [(0, vops_0), (3, .pointer (some ⟨gd_3, 0, none⟩)), (4, .pointer (some ⟨gm_4, 0, none⟩)), (5, str last_5), (7, .pointer (some ⟨g906, 0, none⟩)), (8, .pointer (some ⟨g912, 0, none⟩)), (19, .int .i64 t_19), (20, .int .i64 t_20)]) (.cons rfl (.cons rfl (.cons rfl (.cons rfl (.cons rfl (.cons rfl (.cons rfl (.cons rfl (.nil _))))))))) hK
     ·refine ⟨_, rfl, ?_⟩
      have jt974 : Tr ρ904 w896 (fun t => ([9, 10, 100, 101, 200, 201] : List Nat).contains t) ρ904 w896 := (Tr.refl hb.bd).weak (fun _ _ => rfl) rfl rfl
      refine sr_allocT 10 (by decide) hb.bd Tryz.zeroValue32 (by decide) ?_
      intro g975 ρ976 w977 hB979 htr978
      replace hops_0 := hops_0.mv htr978.rd
      replace h888 := h888.mv htr978.rd
      replace h900 := h900.mv htr978.rd
      replace hB891 := hB891.mv (htr978.mv (i := 100) rfl)
      replace h890 := h890.mv (htr978.mv (i := 101) rfl)
      replace hB903 := hB903.mv (htr978.mv (i := 200) rfl)
      replace h902 := h902.mv (htr978.mv (i := 201) rfl) (by decide)
      replace hb := hb.trans htr978
      replace jt974 := (jt974.trans htr978).weak (J' := (fun t => ([9, 10, 100, 101, 200, 201] : List Nat).contains t)) (by intro t h; simp [rng] at h ⊢ <;> omega) rfl rfl
      replace hB979 : Blk ρ976 10 w977 g975 (.cells #[str ([]), (.slice none 0 0), .int .i64 0, .bool false, .int .i64 0] 32 (0, 0)) := hB979
      refine dj_next (l' := [(0, vops_0), (3, .pointer (some ⟨gd_3, 0, none⟩)), (4, .pointer (some ⟨gm_4, 0, none⟩)), (5, str last_5), (8, .pointer (some ⟨g975, 0, none⟩)), (19, .int .i64 t_19), (20, .int .i64 t_20), (29, .agg #[str y840.1.text, v887, .int .i64 y840.1.n, .bool y840.1.is_, .int .i64 y840.1.e]), (36, .agg #[str y852.1.text, v899, .int .i64 y852.1.n, .bool y852.1.is_, .int .i64 y852.1.e])]) rfl (.cons rfl (.cons rfl (.cons rfl (.cons rfl (.cons rfl (.cons rfl (.cons rfl (.cons rfl (.cons rfl (.nil _)))))))))) jt974 (by intro t h; simp [rng] at h ⊢ <;> omega) rfl rfl ?_
      refine dj_E 14 (by kernel_rfl) rfl ?_
      have jt980 : Tr ρ976 w977 (fun t => ([9, 10, 100, 101, 200, 201] : List Nat).contains t) ρ976 w977 := (Tr.refl hb.bd).weak (fun _ _ => rfl) rfl rfl
      refine sr_allocT 9 (by decide) hb.bd Tryz.zeroValue32 (by decide) ?_
      intro g981 ρ982 w983 hB985 htr984
      replace hops_0 := hops_0.mv htr984.rd
      replace h888 := h888.mv htr984.rd
      replace h900 := h900.mv htr984.rd
      replace hB979 := hB979.mv (htr984.mv (i := 10) rfl)
      replace hB891 := hB891.mv (htr984.mv (i := 100) rfl)
      replace h890 := h890.mv (htr984.mv (i := 101) rfl)
      replace hB903 := hB903.mv (htr984.mv (i := 200) rfl)
      replace h902 := h902.mv (htr984.mv (i := 201) rfl) (by decide)
      replace hb := hb.trans htr984
      replace jt980 := (jt980.trans htr984).weak (J' := (fun t => ([9, 10, 100, 101, 200, 201] : List Nat).contains t)) (by intro t h; simp [rng] at h ⊢ <;> omega) rfl rfl
      replace hB985 : Blk ρ982 9 w983 g981 (.cells #[str ([]), (.slice none 0 0), .int .i64 0, .bool false, .int .i64 0] 32 (0, 0)) := hB985
      refine dj_next (l' := [(0, vops_0), (3, .pointer (some ⟨gd_3, 0, none⟩)), (4, .pointer (some ⟨gm_4, 0, none⟩)), (5, str last_5), (7, .pointer (some ⟨g981, 0, none⟩)), (8, .pointer (some ⟨g975, 0, none⟩)), (19, .int .i64 t_19), (20, .int .i64 t_20), (29, .agg #[str y840.1.text, v887, .int .i64 y840.1.n, .bool y840.1.is_, .int .i64 y840.1.e]), (36, .agg #[str y852.1.text, v899, .int .i64 y852.1.n, .bool y852.1.is_, .int .i64 y852.1.e])]) rfl (.cons rfl (.cons rfl (.cons rfl (.cons rfl (.cons rfl (.cons rfl (.cons rfl (.cons rfl (.cons rfl (.cons rfl (.nil _))))))))))) jt980 (by intro t h; simp [rng] at h ⊢ <;> omega) rfl rfl ?_
      refine dj_E 16 (by kernel_rfl) rfl ?_
      have jt986 : Tr ρ982 w983 (fun t => ([9, 10, 100, 101, 200, 201] : List Nat).contains t) ρ982 w983 := (Tr.refl hb.bd).weak (fun _ _ => rfl) rfl rfl
      refine sr_storeT (v := .agg #[str y840.1.text, v887, .int .i64 y840.1.n, .bool y840.1.is_, .int .i64 y840.1.e]) (vs := [str y840.1.text, v887, .int .i64 y840.1.n, .bool y840.1.is_, .int .i64 y840.1.e]) (cs' := #[str y840.1.text, v887, .int .i64 y840.1.n, .bool y840.1.is_, .int .i64 y840.1.e]) hB985 (by decide) hb.bd rfl rfl rfl Tryz.sizeOf32 rfl (by first | rfl | (simp only [List.all_cons, List.all_nil, SlR.oneCell h888]; done) | (simp only [List.all_cons, List.all_nil, SlR.oneCell h888]; rfl)) rfl ?_
      intro w987 hB9851 htr988
      replace hops_0 := hops_0.mv htr988.rd
      replace h900 := h900.mv htr988.rd
      replace h888 := h888.mv htr988.rd
      replace hB979 := hB979.mv (htr988.mv (i := 10) rfl)
      replace hB891 := hB891.mv (htr988.mv (i := 100) rfl)
      replace h890 := h890.mv (htr988.mv (i := 101) rfl)
      replace hB903 := hB903.mv (htr988.mv (i := 200) rfl)
      replace h902 := h902.mv (htr988.mv (i := 201) rfl) (by decide)
      replace hb := hb.trans htr988
      replace jt986 := (jt986.trans htr988).weak (J' := (fun t => ([9, 10, 100, 101, 200, 201] : List Nat).contains t)) (by intro t h; simp [rng] at h ⊢ <;> omega) rfl rfl
      replace hB985 : Blk ρ982 9 w987 g981 (.cells #[str y840.1.text, v887, .int .i64 y840.1.n, .bool y840.1.is_, .int .i64 y840.1.e] 32 (0, 0)) := hB9851
      clear hB9851
      refine dj_next (l' := [(0, vops_0), (3, .pointer (some ⟨gd_3, 0, none⟩)), (4, .pointer (some ⟨gm_4, 0, none⟩)), (5, str last_5), (7, .pointer (some ⟨g981, 0, none⟩)), (8, .pointer (some ⟨g975, 0, none⟩)), (19, .int .i64 t_19), (20, .int .i64 t_20), (36, .agg #[str y852.1.text, v899, .int .i64 y852.1.n, .bool y852.1.is_, .int .i64 y852.1.e])]) rfl (.cons rfl (.cons rfl (.cons rfl (.cons rfl (.cons rfl (.cons rfl (.cons rfl (.cons rfl (.cons rfl (.nil _)))))))))) jt986 (by intro t h; simp [rng] at h ⊢ <;> omega) rfl rfl ?_
      refine dj_E 17 (by kernel_rfl) rfl ?_
      have jt989 : Tr ρ982 w987 (fun t => ([9, 10, 100, 101, 200, 201] : List Nat).contains t) ρ982 w987 := (Tr.refl hb.bd).weak (fun _ _ => rfl) rfl rfl
      refine sr_storeT (v := .agg #[str y852.1.text, v899, .int .i64 y852.1.n, .bool y852.1.is_, .int .i64 y852.1.e]) (vs := [str y852.1.text, v899, .int .i64 y852.1.n, .bool y852.1.is_, .int .i64 y852.1.e]) (cs' := #[str y852.1.text, v899, .int .i64 y852.1.n, .bool y852.1.is_, .int .i64 y852.1.e]) hB979 (by decide) hb.bd rfl rfl rfl Tryz.sizeOf32 rfl (by first | rfl | (simp only [List.all_cons, List.all_nil, SlR.oneCell h900]; done) | (simp only [List.all_cons, List.all_nil, SlR.oneCell h900]; rfl)) rfl ?_
      intro w990 hB9791 htr991
      replace hops_0 := hops_0.mv htr991.rd
      replace hB985 := hB985.mv (htr991.mv (i := 9) rfl)
      replace h888 := h888.mv htr991.rd
      replace h900 := h900.mv htr991.rd
      replace hB891 := hB891.mv (htr991.mv (i := 100) rfl)
      replace h890 := h890.mv (htr991.mv (i := 101) rfl)
      replace hB903 := hB903.mv (htr991.mv (i := 200) rfl)
      replace h902 := h902.mv (htr991.mv (i := 201) rfl) (by decide)
      replace hb := hb.trans htr991
      replace jt989 := (jt989.trans htr991).weak (J' := (fun t => ([9, 10, 100, 101, 200, 201] : List Nat).contains t)) (by intro t h; simp [rng] at h ⊢ <;> omega) rfl rfl
      replace hB979 : Blk ρ982 10 w990 g975 (.cells #[str y852.1.text, v899, .int .i64 y852.1.n, .bool y852.1.is_, .int .i64 y852.1.e] 32 (0, 0)) := hB9791
      clear hB9791
      refine dj_next (l' := [(0, vops_0), (3, .pointer (some ⟨gd_3, 0, none⟩)), (4, .pointer (some ⟨gm_4, 0, none⟩)), (5, str last_5), (7, .pointer (some ⟨g981, 0, none⟩)), (8, .pointer (some ⟨g975, 0, none⟩)), (19, .int .i64 t_19), (20, .int .i64 t_20)]) rfl (.cons rfl (.cons rfl (.cons rfl (.cons rfl (.cons rfl (.cons rfl (.cons rfl (.cons rfl (.nil _))))))))) jt989 (by intro t h; simp [rng] at h ⊢ <;> omega) rfl rfl ?_
      refine dj_done rfl (by kernel_rfl) ?_
      refine ke_weaken (l' := [(0, vops_0), (3, .pointer (some ⟨gd_3, 0, none⟩)), (4, .pointer (some ⟨gm_4, 0, none⟩)), (5, str last_5), (7, .pointer (some ⟨g981, 0, none⟩)), (8, .pointer (some ⟨g975, 0, none⟩)), (19, .int .i64 t_19), (20, .int .i64 t_20)]) (.cons rfl (.cons rfl (.cons rfl (.cons rfl (.cons rfl (.cons rfl (.cons rfl (.cons rfl (.nil _))))))))) ?_
      have hK := law37_DeviceDoes_B2_ok hg hbd hz _ hr0 hS hb hops_0 ⟨_, hB891, h890⟩ ⟨_, hB903, h902⟩ h888 hB985 h900 hB979
      exact ke_weaken (l' := [(0, vops_0), (3, .pointer (some ⟨gd_3, 0, none⟩)), (4, .pointer (some ⟨gm_4, 0, none⟩)), (5, str last_5), (7, .pointer (some ⟨g981, 0, none⟩)), (8, .pointer (some ⟨g975, 0, none⟩)), (19, .int .i64 t_19), (20, .int .i64 t_20)]) (.cons rfl (.cons rfl (.cons rfl (.cons rfl (.cons rfl (.cons rfl (.cons rfl (.cons rfl (.nil _))))))))) hK
    ·refine ⟨_, rfl, ?_⟩
     have jt992 : Tr ρ892 w884 (fun t => ([9, 10, 100, 101, 200, 201] : List Nat).contains t) ρ892 w884 := (Tr.refl hb.bd).weak (fun _ _ => rfl) rfl rfl
     refine sr_allocT 9 (by decide) hb.bd Tryz.zeroValue32 (by decide) ?_
     intro g993 ρ994 w995 hB997 htr996
     replace hops_0 := hops_0.mv htr996.rd
     replace h888 := h888.mv htr996.rd
     replace hB891 := hB891.mv (htr996.mv (i := 100) rfl)
     replace h890 := h890.mv (htr996.mv (i := 101) rfl)
     replace hB47 := hB47.mv (htr996.mv (i := 200) rfl)
     replace h46 := h46.mv (htr996.mv (i := 201) rfl) (by decide)
     replace hb := hb.trans htr996
     replace jt992 := (jt992.trans htr996).weak (J' := (fun t => ([9, 10, 100, 101, 200, 201] : List Nat).contains t)) (by intro t h; simp [rng] at h ⊢ <;> omega) rfl rfl
     replace hB997 : Blk ρ994 9 w995 g993 (.cells #[str ([]), (.slice none 0 0), .int .i64 0, .bool false, .int .i64 0] 32 (0, 0)) := hB997
     refine dj_next (l' := [(0, vops_0), (3, .pointer (some ⟨gd_3, 0, none⟩)), (4, .pointer (some ⟨gm_4, 0, none⟩)), (5, str last_5), (7, .pointer (some ⟨g993, 0, none⟩)), (19, .int .i64 t_19), (20, .int .i64 t_20), (29, .agg #[str y840.1.text, v887, .int .i64 y840.1.n, .bool y840.1.is_, .int .i64 y840.1.e]), (30, .pointer (some ⟨gm_4, 0, none⟩)), (34, .agg #[.int .i64 y832.Kind, str y832.User, str y832.ID, str y832.Secret, .int .i64 y832.Until, .int .i64 y832.Now]), (35, str last_5)]) rfl (.cons rfl (.cons rfl (.cons rfl (.cons rfl (.cons rfl (.cons rfl (.cons rfl (.cons rfl (.cons rfl (.cons rfl (.cons rfl (.nil _)))))))))))) jt992 (by intro t h; simp [rng] at h ⊢ <;> omega) rfl rfl ?_
     refine dj_all [13, 15] (by kernel_rfl) (fun i hi => ?_)
     simp only [List.mem_cons, List.not_mem_nil, or_false] at hi
     rcases hi with rfl | rfl
     ·refine ⟨_, rfl, ?_⟩
      have jt998 : Tr ρ994 w995 (fun t => ([9, 10, 100, 101, 200, 201] : List Nat).contains t) ρ994 w995 := (Tr.refl hb.bd).weak (fun _ _ => rfl) rfl rfl
      refine sr_call (vs := [.pointer (some ⟨gm_4, 0, none⟩), .agg #[.int .i64 y832.Kind, str y832.User, str y832.ID, str y832.Secret, .int .i64 y832.Until, .int .i64 y832.Now], str last_5]) rfl Tryz.call9 rfl (law37_model_ok _ (hg.fr hz hb) (ρA := ρ994) hb.bd (hz.fr hg hb) (o := 200) (by decide) (⟨_, hB47, h46⟩ : ref37_Devices.O (fun p => 200 + p) ρ994 w995 gm_4 om_4) hy853) (by decide) ?_
      rintro _ w1001 ⟨ρ1009, v1004, rfl, h1005, ⟨v1006, hB1008, h1007⟩, htr1003⟩
      replace hops_0 := hops_0.mv htr1003.rd
      replace h888 := h888.mv htr1003.rd
      replace hB997 := hB997.mv (htr1003.mv (i := 9) rfl)
      replace hB891 := hB891.mv (htr1003.mv (i := 100) rfl)
      replace h890 := h890.mv (htr1003.mv (i := 101) rfl)
      replace hb := hb.trans htr1003
      replace jt998 := (jt998.trans htr1003).weak (J' := (fun t => ([9, 10, 100, 101, 200, 201] : List Nat).contains t)) (by intro t h; simp [rng] at h ⊢ <;> omega) rfl rfl
      replace hB1008 : Blk ρ1009 200 w1001 gm_4 (.cells #[v1006, .int .i64 y852.2.N] 55 (0, 0)) := hB1008
      replace h1007 : OwnT ref37_Device.c 70 ρ1009 201 w1001 v1006 y852.2.L := h1007
      refine dj_next (l' := [(0, vops_0), (3, .pointer (some ⟨gd_3, 0, none⟩)), (4, .pointer (some ⟨gm_4, 0, none⟩)), (5, str last_5), (7, .pointer (some ⟨g993, 0, none⟩)), (19, .int .i64 t_19), (20, .int .i64 t_20), (29, .agg #[str y840.1.text, v887, .int .i64 y840.1.n, .bool y840.1.is_, .int .i64 y840.1.e]), (36, .agg #[str y852.1.text, v1004, .int .i64 y852.1.n, .bool y852.1.is_, .int .i64 y852.1.e])]) rfl (.cons rfl (.cons rfl (.cons rfl (.cons rfl (.cons rfl (.cons rfl (.cons rfl (.cons rfl (.cons rfl (.nil _)))))))))) jt998 (by intro t h; simp [rng] at h ⊢ <;> omega) rfl rfl ?_
      refine dj_E 15 (by kernel_rfl) rfl ?_
      have jt1010 : Tr ρ1009 w1001 (fun t => ([9, 10, 100, 101, 200, 201] : List Nat).contains t) ρ1009 w1001 := (Tr.refl hb.bd).weak (fun _ _ => rfl) rfl rfl
      refine sr_allocT 10 (by decide) hb.bd Tryz.zeroValue32 (by decide) ?_
      intro g1011 ρ1012 w1013 hB1015 htr1014
      replace hops_0 := hops_0.mv htr1014.rd
      replace h888 := h888.mv htr1014.rd
      replace h1005 := h1005.mv htr1014.rd
      replace hB997 := hB997.mv (htr1014.mv (i := 9) rfl)
      replace hB891 := hB891.mv (htr1014.mv (i := 100) rfl)
      replace h890 := h890.mv (htr1014.mv (i := 101) rfl)
      replace hB1008 := hB1008.mv (htr1014.mv (i := 200) rfl)
      replace h1007 := h1007.mv (htr1014.mv (i := 201) rfl) (by decide)
      replace hb := hb.trans htr1014
      replace jt1010 := (jt1010.trans htr1014).weak (J' := (fun t => ([9, 10, 100, 101, 200, 201] : List Nat).contains t)) (by intro t h; simp [rng] at h ⊢ <;> omega) rfl rfl
      replace hB1015 : Blk ρ1012 10 w1013 g1011 (.cells #[str ([]), (.slice none 0 0), .int .i64 0, .bool false, .int .i64 0] 32 (0, 0)) := hB1015
      refine dj_next (l' := [(0, vops_0), (3, .pointer (some ⟨gd_3, 0, none⟩)), (4, .pointer (some ⟨gm_4, 0, none⟩)), (5, str last_5), (7, .pointer (some ⟨g993, 0, none⟩)), (8, .pointer (some ⟨g1011, 0, none⟩)), (19, .int .i64 t_19), (20, .int .i64 t_20), (29, .agg #[str y840.1.text, v887, .int .i64 y840.1.n, .bool y840.1.is_, .int .i64 y840.1.e]), (36, .agg #[str y852.1.text, v1004, .int .i64 y852.1.n, .bool y852.1.is_, .int .i64 y852.1.e])]) rfl (.cons rfl (.cons rfl (.cons rfl (.cons rfl (.cons rfl (.cons rfl (.cons rfl (.cons rfl (.cons rfl (.cons rfl (.nil _))))))))))) jt1010 (by intro t h; simp [rng] at h ⊢ <;> omega) rfl rfl ?_
      refine dj_E 16 (by kernel_rfl) rfl ?_
      have jt1016 : Tr ρ1012 w1013 (fun t => ([9, 10, 100, 101, 200, 201] : List Nat).contains t) ρ1012 w1013 := (Tr.refl hb.bd).weak (fun _ _ => rfl) rfl rfl
      refine sr_storeT (v := .agg #[str y840.1.text, v887, .int .i64 y840.1.n, .bool y840.1.is_, .int .i64 y840.1.e]) (vs := [str y840.1.text, v887, .int .i64 y840.1.n, .bool y840.1.is_, .int .i64 y840.1.e]) (cs' := #[str y840.1.text, v887, .int .i64 y840.1.n, .bool y840.1.is_, .int .i64 y840.1.e]) hB997 (by decide) hb.bd rfl rfl rfl Tryz.sizeOf32 rfl (by first | rfl | (simp only [List.all_cons, List.all_nil, SlR.oneCell h888]; done) | (simp only [List.all_cons, List.all_nil, SlR.oneCell h888]; rfl)) rfl ?_
      intro w1017 hB9971 htr1018
      replace hops_0 := hops_0.mv htr1018.rd
      replace h1005 := h1005.mv htr1018.rd
      replace hB1015 := hB1015.mv (htr1018.mv (i := 10) rfl)
      replace h888 := h888.mv htr1018.rd
      replace hB891 := hB891.mv (htr1018.mv (i := 100) rfl)
      replace h890 := h890.mv (htr1018.mv (i := 101) rfl)
      replace hB1008 := hB1008.mv (htr1018.mv (i := 200) rfl)
      replace h1007 := h1007.mv (htr1018.mv (i := 201) rfl) (by decide)
      replace hb := hb.trans htr1018
      replace jt1016 := (jt1016.trans htr1018).weak (J' := (fun t => ([9, 10, 100, 101, 200, 201] : List Nat).contains t)) (by intro t h; simp [rng] at h ⊢ <;> omega) rfl rfl
      replace hB997 : Blk ρ1012 9 w1017 g993 (.cells #[str y840.1.text, v887, .int .i64 y840.1.n, .bool y840.1.is_, .int .i64 y840.1.e] 32 (0, 0)) := hB9971
      clear hB9971
      refine dj_next (l' := [(0, vops_0), (3, .pointer (some ⟨gd_3, 0, none⟩)), (4, .pointer (some ⟨gm_4, 0, none⟩)), (5, str last_5), (7, .pointer (some ⟨g993, 0, none⟩)), (8, .pointer (some ⟨g1011, 0, none⟩)), (19, .int .i64 t_19), (20, .int .i64 t_20), (36, .agg #[str y852.1.text, v1004, .int .i64 y852.1.n, .bool y852.1.is_, .int .i64 y852.1.e])]) rfl (.cons rfl (.cons rfl (.cons rfl (.cons rfl (.cons rfl (.cons rfl (.cons rfl (.cons rfl (.cons rfl (.nil _)))))))))) jt1016 (by intro t h; simp [rng] at h ⊢ <;> omega) rfl rfl ?_
      refine dj_E 17 (by kernel_rfl) rfl ?_
      have jt1019 : Tr ρ1012 w1017 (fun t => ([9, 10, 100, 101, 200, 201] : List Nat).contains t) ρ1012 w1017 := (Tr.refl hb.bd).weak (fun _ _ => rfl) rfl rfl
      refine sr_storeT (v := .agg #[str y852.1.text, v1004, .int .i64 y852.1.n, .bool y852.1.is_, .int .i64 y852.1.e]) (vs := [str y852.1.text, v1004, .int .i64 y852.1.n, .bool y852.1.is_, .int .i64 y852.1.e]) (cs' := #[str y852.1.text, v1004, .int .i64 y852.1.n, .bool y852.1.is_, .int .i64 y852.1.e]) hB1015 (by decide) hb.bd rfl rfl rfl Tryz.sizeOf32 rfl (by first | rfl | (simp only [List.all_cons, List.all_nil, SlR.oneCell h1005]; done) | (simp only [List.all_cons, List.all_nil, SlR.oneCell h1005]; rfl)) rfl ?_
      intro w1020 hB10151 htr1021
      replace hops_0 := hops_0.mv htr1021.rd
      replace h1005 := h1005.mv htr1021.rd
      replace hB997 := hB997.mv (htr1021.mv (i := 9) rfl)
      replace h888 := h888.mv htr1021.rd
      replace hB891 := hB891.mv (htr1021.mv (i := 100) rfl)
      replace h890 := h890.mv (htr1021.mv (i := 101) rfl)
      replace hB1008 := hB1008.mv (htr1021.mv (i := 200) rfl)
      replace h1007 := h1007.mv (htr1021.mv (i := 201) rfl) (by decide)
      replace hb := hb.trans htr1021
      replace jt1019 := (jt1019.trans htr1021).weak (J' := (fun t => ([9, 10, 100, 101, 200, 201] : List Nat).contains t)) (by intro t h; simp [rng] at h ⊢ <;> omega) rfl rfl
      replace hB1015 : Blk ρ1012 10 w1020 g1011 (.cells #[str y852.1.text, v1004, .int .i64 y852.1.n, .bool y852.1.is_, .int .i64 y852.1.e] 32 (0, 0)) := hB10151
      clear hB10151
      refine dj_next (l' := [(0, vops_0), (3, .pointer (some ⟨gd_3, 0, none⟩)), (4, .pointer (some ⟨gm_4, 0, none⟩)), (5, str last_5), (7, .pointer (some ⟨g993, 0, none⟩)), (8, .pointer (some ⟨g1011, 0, none⟩)), (19, .int .i64 t_19), (20, .int .i64 t_20)]) rfl (.cons rfl (.cons rfl (.cons rfl (.cons rfl (.cons rfl (.cons rfl (.cons rfl (.cons rfl (.nil _))))))))) jt1019 (by intro t h; simp [rng] at h ⊢ <;> omega) rfl rfl ?_
      refine dj_done rfl (by kernel_rfl) ?_
      refine ke_weaken (l' := [(0, vops_0), (3, .pointer (some ⟨gd_3, 0, none⟩)), (4, .pointer (some ⟨gm_4, 0, none⟩)), (5, str last_5), (7, .pointer (some ⟨g993, 0, none⟩)), (8, .pointer (some ⟨g1011, 0, none⟩)), (19, .int .i64 t_19), (20, .int .i64 t_20)]) (.cons rfl (.cons rfl (.cons rfl (.cons rfl (.cons rfl (.cons rfl (.cons rfl (.cons rfl (.nil _))))))))) ?_
      have hK := law37_DeviceDoes_B2_ok hg hbd hz _ hr0 hS hb hops_0 ⟨_, hB891, h890⟩ ⟨_, hB1008, h1007⟩ h888 hB997 h1005 hB1015
      exact ke_weaken (l' := [(0, vops_0), (3, .pointer (some ⟨gd_3, 0, none⟩)), (4, .pointer (some ⟨gm_4, 0, none⟩)), (5, str last_5), (7, .pointer (some ⟨g993, 0, none⟩)), (8, .pointer (some ⟨g1011, 0, none⟩)), (19, .int .i64 t_19), (20, .int .i64 t_20)]) (.cons rfl (.cons rfl (.cons rfl (.cons rfl (.cons rfl (.cons rfl (.cons rfl (.cons rfl (.nil _))))))))) hK
     ·refine ⟨_, rfl, ?_⟩
      have jt1022 : Tr ρ994 w995 (fun t => ([9, 10, 100, 101, 200, 201] : List Nat).contains t) ρ994 w995 := (Tr.refl hb.bd).weak (fun _ _ => rfl) rfl rfl
      refine sr_allocT 10 (by decide) hb.bd Tryz.zeroValue32 (by decide) ?_
      intro g1023 ρ1024 w1025 hB1027 htr1026
      replace hops_0 := hops_0.mv htr1026.rd
      replace h888 := h888.mv htr1026.rd
      replace hB997 := hB997.mv (htr1026.mv (i := 9) rfl)
      replace hB891 := hB891.mv (htr1026.mv (i := 100) rfl)
      replace h890 := h890.mv (htr1026.mv (i := 101) rfl)
      replace hB47 := hB47.mv (htr1026.mv (i := 200) rfl)
      replace h46 := h46.mv (htr1026.mv (i := 201) rfl) (by decide)
      replace hb := hb.trans htr1026
      replace jt1022 := (jt1022.trans htr1026).weak (J' := (fun t => ([9, 10, 100, 101, 200, 201] : List Nat).contains t)) (by intro t h; simp [rng] at h ⊢ <;> omega) rfl rfl
      replace hB1027 : Blk ρ1024 10 w1025 g1023 (.cells #[str ([]), (.slice none 0 0), .int .i64 0, .bool false, .int .i64 0] 32 (0, 0)) := hB1027
      refine dj_next (l' := [(0, vops_0), (3, .pointer (some ⟨gd_3, 0, none⟩)), (4, .pointer (some ⟨gm_4, 0, none⟩)), (5, str last_5), (7, .pointer (some ⟨g993, 0, none⟩)), (8, .pointer (some ⟨g1023, 0, none⟩)), (19, .int .i64 t_19), (20, .int .i64 t_20), (29, .agg #[str y840.1.text, v887, .int .i64 y840.1.n, .bool y840.1.is_, .int .i64 y840.1.e]), (30, .pointer (some ⟨gm_4, 0, none⟩)), (34, .agg #[.int .i64 y832.Kind, str y832.User, str y832.ID, str y832.Secret, .int .i64 y832.Until, .int .i64 y832.Now]), (35, str last_5)]) rfl (.cons rfl (.cons rfl (.cons rfl (.cons rfl (.cons rfl (.cons rfl (.cons rfl (.cons rfl (.cons rfl (.cons rfl (.cons rfl (.cons rfl (.nil _))))))))))))) jt1022 (by intro t h; simp [rng] at h ⊢ <;> omega) rfl rfl ?_
      refine dj_E 13 (by kernel_rfl) rfl ?_
      have jt1028 : Tr ρ1024 w1025 (fun t => ([9, 10, 100, 101, 200, 201] : List Nat).contains t) ρ1024 w1025 := (Tr.refl hb.bd).weak (fun _ _ => rfl) rfl rfl
      refine sr_call (vs := [.pointer (some ⟨gm_4, 0, none⟩), .agg #[.int .i64 y832.Kind, str y832.User, str y832.ID, str y832.Secret, .int .i64 y832.Until, .int .i64 y832.Now], str last_5]) rfl Tryz.call9 rfl (law37_model_ok _ (hg.fr hz hb) (ρA := ρ1024) hb.bd (hz.fr hg hb) (o := 200) (by decide) (⟨_, hB47, h46⟩ : ref37_Devices.O (fun p => 200 + p) ρ1024 w1025 gm_4 om_4) hy853) (by decide) ?_
      rintro _ w1031 ⟨ρ1039, v1034, rfl, h1035, ⟨v1036, hB1038, h1037⟩, htr1033⟩
      replace hops_0 := hops_0.mv htr1033.rd
      replace h888 := h888.mv htr1033.rd
      replace hB1027 := hB1027.mv (htr1033.mv (i := 10) rfl)
      replace hB997 := hB997.mv (htr1033.mv (i := 9) rfl)
      replace hB891 := hB891.mv (htr1033.mv (i := 100) rfl)
      replace h890 := h890.mv (htr1033.mv (i := 101) rfl)
      replace hb := hb.trans htr1033
      replace jt1028 := (jt1028.trans htr1033).weak (J' := (fun t => ([9, 10, 100, 101, 200, 201] : List Nat).contains t)) (by intro t h; simp [rng] at h ⊢ <;> omega) rfl rfl
      replace hB1038 : Blk ρ1039 200 w1031 gm_4 (.cells #[v1036, .int .i64 y852.2.N] 55 (0, 0)) := hB1038
      replace h1037 : OwnT ref37_Device.c 70 ρ1039 201 w1031 v1036 y852.2.L := h1037
      refine dj_next (l' := [(0, vops_0), (3, .pointer (some ⟨gd_3, 0, none⟩)), (4, .pointer (some ⟨gm_4, 0, none⟩)), (5, str last_5), (7, .pointer (some ⟨g993, 0, none⟩)), (8, .pointer (some ⟨g1023, 0, none⟩)), (19, .int .i64 t_19), (20, .int .i64 t_20), (29, .agg #[str y840.1.text, v887, .int .i64 y840.1.n, .bool y840.1.is_, .int .i64 y840.1.e]), (36, .agg #[str y852.1.text, v1034, .int .i64 y852.1.n, .bool y852.1.is_, .int .i64 y852.1.e])]) rfl (.cons rfl (.cons rfl (.cons rfl (.cons rfl (.cons rfl (.cons rfl (.cons rfl (.cons rfl (.cons rfl (.cons rfl (.nil _))))))))))) jt1028 (by intro t h; simp [rng] at h ⊢ <;> omega) rfl rfl ?_
      refine dj_E 16 (by kernel_rfl) rfl ?_
      have jt1040 : Tr ρ1039 w1031 (fun t => ([9, 10, 100, 101, 200, 201] : List Nat).contains t) ρ1039 w1031 := (Tr.refl hb.bd).weak (fun _ _ => rfl) rfl rfl
      refine sr_storeT (v := .agg #[str y840.1.text, v887, .int .i64 y840.1.n, .bool y840.1.is_, .int .i64 y840.1.e]) (vs := [str y840.1.text, v887, .int .i64 y840.1.n, .bool y840.1.is_, .int .i64 y840.1.e]) (cs' := #[str y840.1.text, v887, .int .i64 y840.1.n, .bool y840.1.is_, .int .i64 y840.1.e]) hB997 (by decide) hb.bd rfl rfl rfl Tryz.sizeOf32 rfl (by first | rfl | (simp only [List.all_cons, List.all_nil, SlR.oneCell h888]; done) | (simp only [List.all_cons, List.all_nil, SlR.oneCell h888]; rfl)) rfl ?_
      intro w1041 hB9971 htr1042
      replace hops_0 := hops_0.mv htr1042.rd
      replace h1035 := h1035.mv htr1042.rd
      replace hB1027 := hB1027.mv (htr1042.mv (i := 10) rfl)
      replace h888 := h888.mv htr1042.rd
      replace hB891 := hB891.mv (htr1042.mv (i := 100) rfl)
      replace h890 := h890.mv (htr1042.mv (i := 101) rfl)
      replace hB1038 := hB1038.mv (htr1042.mv (i := 200) rfl)
      replace h1037 := h1037.mv (htr1042.mv (i := 201) rfl) (by decide)
      replace hb := hb.trans htr1042
      replace jt1040 := (jt1040.trans htr1042).weak (J' := (fun t => ([9, 10, 100, 101, 200, 201] : List Nat).contains t)) (by intro t h; simp [rng] at h ⊢ <;> omega) rfl rfl
      replace hB997 : Blk ρ1039 9 w1041 g993 (.cells #[str y840.1.text, v887, .int .i64 y840.1.n, .bool y840.1.is_, .int .i64 y840.1.e] 32 (0, 0)) := hB9971
      clear hB9971
      refine dj_next (l' := [(0, vops_0), (3, .pointer (some ⟨gd_3, 0, none⟩)), (4, .pointer (some ⟨gm_4, 0, none⟩)), (5, str last_5), (7, .pointer (some ⟨g993, 0, none⟩)), (8, .pointer (some ⟨g1023, 0, none⟩)), (19, .int .i64 t_19), (20, .int .i64 t_20), (36, .agg #[str y852.1.text, v1034, .int .i64 y852.1.n, .bool y852.1.is_, .int .i64 y852.1.e])]) rfl (.cons rfl (.cons rfl (.cons rfl (.cons rfl (.cons rfl (.cons rfl (.cons rfl (.cons rfl (.cons rfl (.nil _)))))))))) jt1040 (by intro t h; simp [rng] at h ⊢ <;> omega) rfl rfl ?_
      refine dj_E 17 (by kernel_rfl) rfl ?_
      have jt1043 : Tr ρ1039 w1041 (fun t => ([9, 10, 100, 101, 200, 201] : List Nat).contains t) ρ1039 w1041 := (Tr.refl hb.bd).weak (fun _ _ => rfl) rfl rfl
      refine sr_storeT (v := .agg #[str y852.1.text, v1034, .int .i64 y852.1.n, .bool y852.1.is_, .int .i64 y852.1.e]) (vs := [str y852.1.text, v1034, .int .i64 y852.1.n, .bool y852.1.is_, .int .i64 y852.1.e]) (cs' := #[str y852.1.text, v1034, .int .i64 y852.1.n, .bool y852.1.is_, .int .i64 y852.1.e]) hB1027 (by decide) hb.bd rfl rfl rfl Tryz.sizeOf32 rfl (by first | rfl | (simp only [List.all_cons, List.all_nil, SlR.oneCell h1035]; done) | (simp only [List.all_cons, List.all_nil, SlR.oneCell h1035]; rfl)) rfl ?_
      intro w1044 hB10271 htr1045
      replace hops_0 := hops_0.mv htr1045.rd
      replace h1035 := h1035.mv htr1045.rd
      replace hB997 := hB997.mv (htr1045.mv (i := 9) rfl)
      replace h888 := h888.mv htr1045.rd
      replace hB891 := hB891.mv (htr1045.mv (i := 100) rfl)
      replace h890 := h890.mv (htr1045.mv (i := 101) rfl)
      replace hB1038 := hB1038.mv (htr1045.mv (i := 200) rfl)
      replace h1037 := h1037.mv (htr1045.mv (i := 201) rfl) (by decide)
      replace hb := hb.trans htr1045
      replace jt1043 := (jt1043.trans htr1045).weak (J' := (fun t => ([9, 10, 100, 101, 200, 201] : List Nat).contains t)) (by intro t h; simp [rng] at h ⊢ <;> omega) rfl rfl
      replace hB1027 : Blk ρ1039 10 w1044 g1023 (.cells #[str y852.1.text, v1034, .int .i64 y852.1.n, .bool y852.1.is_, .int .i64 y852.1.e] 32 (0, 0)) := hB10271
      clear hB10271
      refine dj_next (l' := [(0, vops_0), (3, .pointer (some ⟨gd_3, 0, none⟩)), (4, .pointer (some ⟨gm_4, 0, none⟩)), (5, str last_5), (7, .pointer (some ⟨g993, 0, none⟩)), (8, .pointer (some ⟨g1023, 0, none⟩)), (19, .int .i64 t_19), (20, .int .i64 t_20)]) rfl (.cons rfl (.cons rfl (.cons rfl (.cons rfl (.cons rfl (.cons rfl (.cons rfl (.cons rfl (.nil _))))))))) jt1043 (by intro t h; simp [rng] at h ⊢ <;> omega) rfl rfl ?_
      refine dj_done rfl (by kernel_rfl) ?_
      refine ke_weaken (l' := [(0, vops_0), (3, .pointer (some ⟨gd_3, 0, none⟩)), (4, .pointer (some ⟨gm_4, 0, none⟩)), (5, str last_5), (7, .pointer (some ⟨g993, 0, none⟩)), (8, .pointer (some ⟨g1023, 0, none⟩)), (19, .int .i64 t_19), (20, .int .i64 t_20)]) (.cons rfl (.cons rfl (.cons rfl (.cons rfl (.cons rfl (.cons rfl (.cons rfl (.cons rfl (.nil _))))))))) ?_
      have hK := law37_DeviceDoes_B2_ok hg hbd hz _ hr0 hS hb hops_0 ⟨_, hB891, h890⟩ ⟨_, hB1038, h1037⟩ h888 hB997 h1035 hB1027
      exact ke_weaken (l' := [(0, vops_0), (3, .pointer (some ⟨gd_3, 0, none⟩)), (4, .pointer (some ⟨gm_4, 0, none⟩)), (5, str last_5), (7, .pointer (some ⟨g993, 0, none⟩)), (8, .pointer (some ⟨g1023, 0, none⟩)), (19, .int .i64 t_19), (20, .int .i64 t_20)]) (.cons rfl (.cons rfl (.cons rfl (.cons rfl (.cons rfl (.cons rfl (.cons rfl (.cons rfl (.nil _))))))))) hK
    ·refine ⟨_, rfl, ?_⟩
     have jt1046 : Tr ρ892 w884 (fun t => ([9, 10, 100, 101, 200, 201] : List Nat).contains t) ρ892 w884 := (Tr.refl hb.bd).weak (fun _ _ => rfl) rfl rfl
     refine sr_allocT 10 (by decide) hb.bd Tryz.zeroValue32 (by decide) ?_
     intro g1047 ρ1048 w1049 hB1051 htr1050
     replace hops_0 := hops_0.mv htr1050.rd
     replace h888 := h888.mv htr1050.rd
     replace hB891 := hB891.mv (htr1050.mv (i := 100) rfl)
     replace h890 := h890.mv (htr1050.mv (i := 101) rfl)
     replace hB47 := hB47.mv (htr1050.mv (i := 200) rfl)
     replace h46 := h46.mv (htr1050.mv (i := 201) rfl) (by decide)
     replace hb := hb.trans htr1050
     replace jt1046 := (jt1046.trans htr1050).weak (J' := (fun t => ([9, 10, 100, 101, 200, 201] : List Nat).contains t)) (by intro t h; simp [rng] at h ⊢ <;> omega) rfl rfl
     replace hB1051 : Blk ρ1048 10 w1049 g1047 (.cells #[str ([]), (.slice none 0 0), .int .i64 0, .bool false, .int .i64 0] 32 (0, 0)) := hB1051
     refine dj_next (l' := [(0, vops_0), (3, .pointer (some ⟨gd_3, 0, none⟩)), (4, .pointer (some ⟨gm_4, 0, none⟩)), (5, str last_5), (8, .pointer (some ⟨g1047, 0, none⟩)), (19, .int .i64 t_19), (20, .int .i64 t_20), (29, .agg #[str y840.1.text, v887, .int .i64 y840.1.n, .bool y840.1.is_, .int .i64 y840.1.e]), (30, .pointer (some ⟨gm_4, 0, none⟩)), (34, .agg #[.int .i64 y832.Kind, str y832.User, str y832.ID, str y832.Secret, .int .i64 y832.Until, .int .i64 y832.Now]), (35, str last_5)]) rfl (.cons rfl (.cons rfl (.cons rfl (.cons rfl (.cons rfl (.cons rfl (.cons rfl (.cons rfl (.cons rfl (.cons rfl (.cons rfl (.nil _)))))))))))) jt1046 (by intro t h; simp [rng] at h ⊢ <;> omega) rfl rfl ?_
     refine dj_all [13, 14] (by kernel_rfl) (fun i hi => ?_)
     simp only [List.mem_cons, List.not_mem_nil, or_false] at hi
     rcases hi with rfl | rfl
     ·refine ⟨_, rfl, ?_⟩
      have jt1052 : Tr ρ1048 w1049 (fun t => ([9, 10, 100, 101, 200, 201] : List Nat).contains t) ρ1048 w1049 := (Tr.refl hb.bd).weak (fun _ _ => rfl) rfl rfl
      refine sr_call (vs := [.pointer (some ⟨gm_4, 0, none⟩), .agg #[.int .i64 y832.Kind, str y832.User, str y832.ID, str y832.Secret, .int .i64 y832.Until, .int .i64 y832.Now], str last_5]) rfl Tryz.call9 rfl (law37_model_ok _ (hg.fr hz hb) (ρA := ρ1048) hb.bd (hz.fr hg hb) (o := 200) (by decide) (⟨_, hB47, h46⟩ : ref37_Devices.O (fun p => 200 + p) ρ1048 w1049 gm_4 om_4) hy853) (by decide) ?_
      rintro _ w1055 ⟨ρ1063, v1058, rfl, h1059, ⟨v1060, hB1062, h1061⟩, htr1057⟩
      replace hops_0 := hops_0.mv htr1057.rd
      replace h888 := h888.mv htr1057.rd
      replace hB1051 := hB1051.mv (htr1057.mv (i := 10) rfl)
      replace hB891 := hB891.mv (htr1057.mv (i := 100) rfl)
      replace h890 := h890.mv (htr1057.mv (i := 101) rfl)
      replace hb := hb.trans htr1057
      replace jt1052 := (jt1052.trans htr1057).weak (J' := (fun t => ([9, 10, 100, 101, 200, 201] : List Nat).contains t)) (by intro t h; simp [rng] at h ⊢ <;> omega) rfl rfl
      replace hB1062 : Blk ρ1063 200 w1055 gm_4 (.cells #[v1060, .int .i64 y852.2.N] 55 (0, 0)) := hB1062
      replace h1061 : OwnT ref37_Device.c 70 ρ1063 201 w1055 v1060 y852.2.L := h1061
      refine dj_next (l' := [(0, vops_0), (3, .pointer (some ⟨gd_3, 0, none⟩)), (4, .pointer (some ⟨gm_4, 0, none⟩)), (5, str last_5), (8, .pointer (some ⟨g1047, 0, none⟩)), (19, .int .i64 t_19), (20, .int .i64 t_20), (29, .agg #[str y840.1.text, v887, .int .i64 y840.1.n, .bool y840.1.is_, .int .i64 y840.1.e]), (36, .agg #[str y852.1.text, v1058, .int .i64 y852.1.n, .bool y852.1.is_, .int .i64 y852.1.e])]) rfl (.cons rfl (.cons rfl (.cons rfl (.cons rfl (.cons rfl (.cons rfl (.cons rfl (.cons rfl (.cons rfl (.nil _)))))))))) jt1052 (by intro t h; simp [rng] at h ⊢ <;> omega) rfl rfl ?_
      refine dj_E 14 (by kernel_rfl) rfl ?_
      have jt1064 : Tr ρ1063 w1055 (fun t => ([9, 10, 100, 101, 200, 201] : List Nat).contains t) ρ1063 w1055 := (Tr.refl hb.bd).weak (fun _ _ => rfl) rfl rfl
      refine sr_allocT 9 (by decide) hb.bd Tryz.zeroValue32 (by decide) ?_
      intro g1065 ρ1066 w1067 hB1069 htr1068
      replace hops_0 := hops_0.mv htr1068.rd
      replace h888 := h888.mv htr1068.rd
      replace h1059 := h1059.mv htr1068.rd
      replace hB1051 := hB1051.mv (htr1068.mv (i := 10) rfl)
      replace hB891 := hB891.mv (htr1068.mv (i := 100) rfl)
      replace h890 := h890.mv (htr1068.mv (i := 101) rfl)
      replace hB1062 := hB1062.mv (htr1068.mv (i := 200) rfl)
      replace h1061 := h1061.mv (htr1068.mv (i := 201) rfl) (by decide)
      replace hb := hb.trans htr1068
      replace jt1064 := (jt1064.trans htr1068).weak (J' := (fun t => ([9, 10, 100, 101, 200, 201] : List Nat).contains t)) (by intro t h; simp [rng] at h ⊢ <;> omega) rfl rfl
      replace hB1069 : Blk ρ1066 9 w1067 g1065 (.cells #[str ([]), (.slice none 0 0), .int .i64 0, .bool false, .int .i64 0] 32 (0, 0)) := hB1069
      refine dj_next (l' := [(0, vops_0), (3, .pointer (some ⟨gd_3, 0, none⟩)), (4, .pointer (some ⟨gm_4, 0, none⟩)), (5, str last_5), (7, .pointer (some ⟨g1065, 0, none⟩)), (8, .pointer (some ⟨g1047, 0, none⟩)), (19, .int .i64 t_19), (20, .int .i64 t_20), (29, .agg #[str y840.1.text, v887, .int .i64 y840.1.n, .bool y840.1.is_, .int .i64 y840.1.e]), (36, .agg #[str y852.1.text, v1058, .int .i64 y852.1.n, .bool y852.1.is_, .int .i64 y852.1.e])]) rfl (.cons rfl (.cons rfl (.cons rfl (.cons rfl (.cons rfl (.cons rfl (.cons rfl (.cons rfl (.cons rfl (.cons rfl (.nil _))))))))))) jt1064 (by intro t h; simp [rng] at h ⊢ <;> omega) rfl rfl ?_
      refine dj_E 16 (by kernel_rfl) rfl ?_
      have jt1070 : Tr ρ1066 w1067 (fun t => ([9, 10, 100, 101, 200, 201] : List Nat).contains t) ρ1066 w1067 := (Tr.refl hb.bd).weak (fun _ _ => rfl) rfl rfl
      refine sr_storeT (v := .agg #[str y840.1.text, v887, .int .i64 y840.1.n, .bool y840.1.is_, .int .i64 y840.1.e]) (vs := [str y840.1.text, v887, .int .i64 y840.1.n, .bool y840.1.is_, .int .i64 y840.1.e]) (cs' := #[str y840.1.text, v887, .int .i64 y840.1.n, .bool y840.1.is_, .int .i64 y840.1.e]) hB1069 (by decide) hb.bd rfl rfl rfl Tryz.sizeOf32 rfl (by first | rfl | (simp only [List.all_cons, List.all_nil, SlR.oneCell h888]; done) | (simp only [List.all_cons, List.all_nil, SlR.oneCell h888]; rfl)) rfl ?_
      intro w1071 hB10691 htr1072
      replace hops_0 := hops_0.mv htr1072.rd
      replace h1059 := h1059.mv htr1072.rd
      replace h888 := h888.mv htr1072.rd
      replace hB1051 := hB1051.mv (htr1072.mv (i := 10) rfl)
      replace hB891 := hB891.mv (htr1072.mv (i := 100) rfl)
      replace h890 := h890.mv (htr1072.mv (i := 101) rfl)
      replace hB1062 := hB1062.mv (htr1072.mv (i := 200) rfl)
      replace h1061 := h1061.mv (htr1072.mv (i := 201) rfl) (by decide)
      replace hb := hb.trans htr1072
      replace jt1070 := (jt1070.trans htr1072).weak (J' := (fun t => ([9, 10, 100, 101, 200, 201] : List Nat).contains t)) (by intro t h; simp [rng] at h ⊢ <;> omega) rfl rfl
      replace hB1069 : Blk ρ1066 9 w1071 g1065 (.cells #[str y840.1.text, v887, .int .i64 y840.1.n, .bool y840.1.is_, .int .i64 y840.1.e] 32 (0, 0)) := hB10691
      clear hB10691
      refine dj_next (l' := [(0, vops_0), (3, .pointer (some ⟨gd_3, 0, none⟩)), (4, .pointer (some ⟨gm_4, 0, none⟩)), (5, str last_5), (7, .pointer (some ⟨g1065, 0, none⟩)), (8, .pointer (some ⟨g1047, 0, none⟩)), (19, .int .i64 t_19), (20, .int .i64 t_20), (36, .agg #[str y852.1.text, v1058, .int .i64 y852.1.n, .bool y852.1.is_, .int .i64 y852.1.e])]) rfl (.cons rfl (.cons rfl (.cons rfl (.cons rfl (.cons rfl (.cons rfl (.cons rfl (.cons rfl (.cons rfl (.nil _)))))))))) jt1070 (by intro t h; simp [rng] at h ⊢ <;> omega) rfl rfl ?_
      refine dj_E 17 (by kernel_rfl) rfl ?_
      have jt1073 : Tr ρ1066 w1071 (fun t => ([9, 10, 100, 101, 200, 201] : List Nat).contains t) ρ1066 w1071 := (Tr.refl hb.bd).weak (fun _ _ => rfl) rfl rfl
      refine sr_storeT (v := .agg #[str y852.1.text, v1058, .int .i64 y852.1.n, .bool y852.1.is_, .int .i64 y852.1.e]) (vs := [str y852.1.text, v1058, .int .i64 y852.1.n, .bool y852.1.is_, .int .i64 y852.1.e]) (cs' := #[str y852.1.text, v1058, .int .i64 y852.1.n, .bool y852.1.is_, .int .i64 y852.1.e]) hB1051 (by decide) hb.bd rfl rfl rfl Tryz.sizeOf32 rfl (by first | rfl | (simp only [List.all_cons, List.all_nil, SlR.oneCell h1059]; done) | (simp only [List.all_cons, List.all_nil, SlR.oneCell h1059]; rfl)) rfl ?_
      intro w1074 hB10511 htr1075
      replace hops_0 := hops_0.mv htr1075.rd
      replace hB1069 := hB1069.mv (htr1075.mv (i := 9) rfl)
      replace h888 := h888.mv htr1075.rd
      replace h1059 := h1059.mv htr1075.rd
      replace hB891 := hB891.mv (htr1075.mv (i := 100) rfl)
      replace h890 := h890.mv (htr1075.mv (i := 101) rfl)
      replace hB1062 := hB1062.mv (htr1075.mv (i := 200) rfl)
      replace h1061 := h1061.mv (htr1075.mv (i := 201) rfl) (by decide)
      replace hb := hb.trans htr1075
      replace jt1073 := (jt1073.trans htr1075).weak (J' := (fun t => ([9, 10, 100, 101, 200, 201] : List Nat).contains t)) (by intro t h; simp [rng] at h ⊢ <;> omega) rfl rfl
      replace hB1051 : Blk ρ1066 10 w1074 g1047 (.cells #[str y852.1.text, v1058, .int .i64 y852.1.n, .bool y852.1.is_, .int .i64 y852.1.e] 32 (0, 0)) := hB10511
      clear hB10511
      refine dj_next (l' := [(0, vops_0), (3, .pointer (some ⟨gd_3, 0, none⟩)), (4, .pointer (some ⟨gm_4, 0, none⟩)), (5, str last_5), (7, .pointer (some ⟨g1065, 0, none⟩)), (8, .pointer (some ⟨g1047, 0, none⟩)), (19, .int .i64 t_19), (20, .int .i64 t_20)]) rfl (.cons rfl (.cons rfl (.cons rfl (.cons rfl (.cons rfl (.cons rfl (.cons rfl (.cons rfl (.nil _))))))))) jt1073 (by intro t h; simp [rng] at h ⊢ <;> omega) rfl rfl ?_
      refine dj_done rfl (by kernel_rfl) ?_
      refine ke_weaken (l' := [(0, vops_0), (3, .pointer (some ⟨gd_3, 0, none⟩)), (4, .pointer (some ⟨gm_4, 0, none⟩)), (5, str last_5), (7, .pointer (some ⟨g1065, 0, none⟩)), (8, .pointer (some ⟨g1047, 0, none⟩)), (19, .int .i64 t_19), (20, .int .i64 t_20)]) (.cons rfl (.cons rfl (.cons rfl (.cons rfl (.cons rfl (.cons rfl (.cons rfl (.cons rfl (.nil _))))))))) ?_
      have hK := law37_DeviceDoes_B2_ok hg hbd hz _ hr0 hS hb hops_0 ⟨_, hB891, h890⟩ ⟨_, hB1062, h1061⟩ h888 hB1069 h1059 hB1051
      exact ke_weaken (l' := [(0, vops_0), (3, .pointer (some ⟨gd_3, 0, none⟩)), (4, .pointer (some ⟨gm_4, 0, none⟩)), (5, str last_5), (7, .pointer (some ⟨g1065, 0, none⟩)), (8, .pointer (some ⟨g1047, 0, none⟩)), (19, .int .i64 t_19), (20, .int .i64 t_20)]) (.cons rfl (.cons rfl (.cons rfl (.cons rfl (.cons rfl (.cons rfl (.cons rfl (.cons rfl (.nil _))))))))) hK
     ·refine ⟨_, rfl, ?_⟩
      have jt1076 : Tr ρ1048 w1049 (fun t => ([9, 10, 100, 101, 200, 201] : List Nat).contains t) ρ1048 w1049 := (Tr.refl hb.bd).weak (fun _ _ => rfl) rfl rfl
      refine sr_allocT 9 (by decide) hb.bd Tryz.zeroValue32 (by decide) ?_
      intro g1077 ρ1078 w1079 hB1081 htr1080
      replace hops_0 := hops_0.mv htr1080.rd
      replace h888 := h888.mv htr1080.rd
      replace hB1051 := hB1051.mv (htr1080.mv (i := 10) rfl)
      replace hB891 := hB891.mv (htr1080.mv (i := 100) rfl)
      replace h890 := h890.mv (htr1080.mv (i := 101) rfl)
      replace hB47 := hB47.mv (htr1080.mv (i := 200) rfl)
      replace h46 := h46.mv (htr1080.mv (i := 201) rfl) (by decide)
      replace hb := hb.trans htr1080
      replace jt1076 := (jt1076.trans htr1080).weak (J' := (fun t => ([9, 10, 100, 101, 200, 201] : List Nat).contains t)) (by intro t h; simp [rng] at h ⊢ <;> omega) rfl rfl
      replace hB1081 : Blk ρ1078 9 w1079 g1077 (.cells #[str ([]), (.slice none 0 0), .int .i64 0, .bool false, .int .i64 0] 32 (0, 0)) := hB1081
      refine dj_next (l' := [(0, vops_0), (3, .pointer (some ⟨gd_3, 0, none⟩)), (4, .pointer (some ⟨gm_4, 0, none⟩)), (5, str last_5), (7, .pointer (some ⟨g1077, 0, none⟩)), (8, .pointer (some ⟨g1047, 0, none⟩)), (19, .int .i64 t_19), (20, .int .i64 t_20), (29, .agg #[str y840.1.text, v887, .int .i64 y840.1.n, .bool y840.1.is_, .int .i64 y840.1.e]), (30, .pointer (some ⟨gm_4, 0, none⟩)), (34, .agg #[.int .i64 y832.Kind, str y832.User, str y832.ID, str y832.Secret, .int .i64 y832.Until, .int .i64 y832.Now]), (35, str last_5)]) rfl (.cons rfl (.cons rfl (.cons rfl (.cons rfl (.cons rfl (.cons rfl (.cons rfl (.cons rfl (.cons rfl (.cons rfl (.cons rfl (.cons rfl (.nil _))))))))))))) jt1076 (by intro t h; simp [rng] at h ⊢ <;> omega) rfl rfl ?_
      refine dj_E 13 (by kernel_rfl) rfl ?_
      have jt1082 : Tr ρ1078 w1079 (fun t => ([9, 10, 100, 101, 200, 201] : List Nat).contains t) ρ1078 w1079 := (Tr.refl hb.bd).weak (fun _ _ => rfl) rfl rfl
      refine sr_call (vs := [.pointer (some ⟨gm_4, 0, none⟩), .agg #[.int .i64 y832.Kind, str y832.User, str y832.ID, str y832.Secret, .int .i64 y832.Until, .int .i64 y832.Now], str last_5]) rfl Tryz.call9 rfl (law37_model_ok _ (hg.fr hz hb) (ρA := ρ1078) hb.bd (hz.fr hg hb) (o := 200) (by decide) (⟨_, hB47, h46⟩ : ref37_Devices.O (fun p => 200 + p) ρ1078 w1079 gm_4 om_4) hy853) (by decide) ?_
      rintro _ w1085 ⟨ρ1093, v1088, rfl, h1089, ⟨v1090, hB1092, h1091⟩, htr1087⟩
      replace hops_0 := hops_0.mv htr1087.rd
      replace h888 := h888.mv htr1087.rd
      replace hB1081 := hB1081.mv (htr1087.mv (i := 9) rfl)
      replace hB1051 := hB1051.mv (htr1087.mv (i := 10) rfl)
      replace hB891 := hB891.mv (htr1087.mv (i := 100) rfl)
      replace h890 := h890.mv (htr1087.mv (i := 101) rfl)
      replace hb := hb.trans htr1087
      replace jt1082 := (jt1082.trans htr1087).weak (J' := (fun t => ([9, 10, 100, 101, 200, 201] : List Nat).contains t)) (by intro t h; simp [rng] at h ⊢ <;> omega) rfl rfl
      replace hB1092 : Blk ρ1093 200 w1085 gm_4 (.cells #[v1090, .int .i64 y852.2.N] 55 (0, 0)) := hB1092
      replace h1091 : OwnT ref37_Device.c 70 ρ1093 201 w1085 v1090 y852.2.L := h1091
      refine dj_next (l' := [(0, vops_0), (3, .pointer (some ⟨gd_3, 0, none⟩)), (4, .pointer (some ⟨gm_4, 0, none⟩)), (5, str last_5), (7, .pointer (some ⟨g1077, 0, none⟩)), (8, .pointer (some ⟨g1047, 0, none⟩)), (19, .int .i64 t_19), (20, .int .i64 t_20), (29, .agg #[str y840.1.text, v887, .int .i64 y840.1.n, .bool y840.1.is_, .int .i64 y840.1.e]), (36, .agg #[str y852.1.text, v1088, .int .i64 y852.1.n, .bool y852.1.is_, .int .i64 y852.1.e])]) rfl (.cons rfl (.cons rfl (.cons rfl (.cons rfl (.cons rfl (.cons rfl (.cons rfl (.cons rfl (.cons rfl (.cons rfl (.nil _))))))))))) jt1082 (by intro t h; simp [rng] at h ⊢ <;> omega) rfl rfl ?_
      refine dj_E 16 (by kernel_rfl) rfl ?_
      have jt1094 : Tr ρ1093 w1085 (fun t => ([9, 10, 100, 101, 200, 201] : List Nat).contains t) ρ1093 w1085 := (Tr.refl hb.bd).weak (fun _ _ => rfl) rfl rfl
      refine sr_storeT (v := .agg #[str y840.1.text, v887, .int .i64 y840.1.n, .bool y840.1.is_, .int .i64 y840.1.e]) (vs := [str y840.1.text, v887, .int .i64 y840.1.n, .bool y840.1.is_, .int .i64 y840.1.e]) (cs' := #[str y840.1.text, v887, .int .i64 y840.1.n, .bool y840.1.is_, .int .i64 y840.1.e]) hB1081 (by decide) hb.bd rfl rfl rfl Tryz.sizeOf32 rfl (by first | rfl | (simp only [List.all_cons, List.all_nil, SlR.oneCell h888]; done) | (simp only [List.all_cons, List.all_nil, SlR.oneCell h888]; rfl)) rfl ?_
      intro w1095 hB10811 htr1096
      replace hops_0 := hops_0.mv htr1096.rd
      replace h1089 := h1089.mv htr1096.rd
      replace h888 := h888.mv htr1096.rd
      replace hB1051 := hB1051.mv (htr1096.mv (i := 10) rfl)
      replace hB891 := hB891.mv (htr1096.mv (i := 100) rfl)
      replace h890 := h890.mv (htr1096.mv (i := 101) rfl)
      replace hB1092 := hB1092.mv (htr1096.mv (i := 200) rfl)
      replace h1091 := h1091.mv (htr1096.mv (i := 201) rfl) (by decide)
      replace hb := hb.trans htr1096
      replace jt1094 := (jt1094.trans htr1096).weak (J' := (fun t => ([9, 10, 100, 101, 200, 201] : List Nat).contains t)) (by intro t h; simp [rng] at h ⊢ <;> omega) rfl rfl
      replace hB1081 : Blk ρ1093 9 w1095 g1077 (.cells #[str y840.1.text, v887, .int .i64 y840.1.n, .bool y840.1.is_, .int .i64 y840.1.e] 32 (0, 0)) := hB10811
      clear hB10811
      refine dj_next (l' := [(0, vops_0), (3, .pointer (some ⟨gd_3, 0, none⟩)), (4, .pointer (some ⟨gm_4, 0, none⟩)), (5, str last_5), (7, .pointer (some ⟨g1077, 0, none⟩)), (8, .pointer (some ⟨g1047, 0, none⟩)), (19, .int .i64 t_19), (20, .int .i64 t_20), (36, .agg #[str y852.1.text, v1088, .int .i64 y852.1.n, .bool y852.1.is_, .int .i64 y852.1.e])]) rfl (.cons rfl (.cons rfl (.cons rfl (.cons rfl (.cons rfl (.cons rfl (.cons rfl (.cons rfl (.cons rfl (.nil _)))))))))) jt1094 (by intro t h; simp [rng] at h ⊢ <;> omega) rfl rfl ?_
      refine dj_E 17 (by kernel_rfl) rfl ?_
      have jt1097 : Tr ρ1093 w1095 (fun t => ([9, 10, 100, 101, 200, 201] : List Nat).contains t) ρ1093 w1095 := (Tr.refl hb.bd).weak (fun _ _ => rfl) rfl rfl
      refine sr_storeT (v := .agg #[str y852.1.text, v1088, .int .i64 y852.1.n, .bool y852.1.is_, .int .i64 y852.1.e]) (vs := [str y852.1.text, v1088, .int .i64 y852.1.n, .bool y852.1.is_, .int .i64 y852.1.e]) (cs' := #[str y852.1.text, v1088, .int .i64 y852.1.n, .bool y852.1.is_, .int .i64 y852.1.e]) hB1051 (by decide) hb.bd rfl rfl rfl Tryz.sizeOf32 rfl (by first | rfl | (simp only [List.all_cons, List.all_nil, SlR.oneCell h1089]; done) | (simp only [List.all_cons, List.all_nil, SlR.oneCell h1089]; rfl)) rfl ?_
      intro w1098 hB10511 htr1099
      replace hops_0 := hops_0.mv htr1099.rd
      replace hB1081 := hB1081.mv (htr1099.mv (i := 9) rfl)
      replace h888 := h888.mv htr1099.rd
      replace h1089 := h1089.mv htr1099.rd
      replace hB891 := hB891.mv (htr1099.mv (i := 100) rfl)
      replace h890 := h890.mv (htr1099.mv (i := 101) rfl)
      replace hB1092 := hB1092.mv (htr1099.mv (i := 200) rfl)
      replace h1091 := h1091.mv (htr1099.mv (i := 201) rfl) (by decide)
      replace hb := hb.trans htr1099
      replace jt1097 := (jt1097.trans htr1099).weak (J' := (fun t => ([9, 10, 100, 101, 200, 201] : List Nat).contains t)) (by intro t h; simp [rng] at h ⊢ <;> omega) rfl rfl
      replace hB1051 : Blk ρ1093 10 w1098 g1047 (.cells #[str y852.1.text, v1088, .int .i64 y852.1.n, .bool y852.1.is_, .int .i64 y852.1.e] 32 (0, 0)) := hB10511
      clear hB10511
      refine dj_next (l' := [(0, vops_0), (3, .pointer (some ⟨gd_3, 0, none⟩)), (4, .pointer (some ⟨gm_4, 0, none⟩)), (5, str last_5), (7, .pointer (some ⟨g1077, 0, none⟩)), (8, .pointer (some ⟨g1047, 0, none⟩)), (19, .int .i64 t_19), (20, .int .i64 t_20)]) rfl (.cons rfl (.cons rfl (.cons rfl (.cons rfl (.cons rfl (.cons rfl (.cons rfl (.cons rfl (.nil _))))))))) jt1097 (by intro t h; simp [rng] at h ⊢ <;> omega) rfl rfl ?_
      refine dj_done rfl (by kernel_rfl) ?_
      refine ke_weaken (l' := [(0, vops_0), (3, .pointer (some ⟨gd_3, 0, none⟩)), (4, .pointer (some ⟨gm_4, 0, none⟩)), (5, str last_5), (7, .pointer (some ⟨g1077, 0, none⟩)), (8, .pointer (some ⟨g1047, 0, none⟩)), (19, .int .i64 t_19), (20, .int .i64 t_20)]) (.cons rfl (.cons rfl (.cons rfl (.cons rfl (.cons rfl (.cons rfl (.cons rfl (.cons rfl (.nil _))))))))) ?_
      have hK := law37_DeviceDoes_B2_ok hg hbd hz _ hr0 hS hb hops_0 ⟨_, hB891, h890⟩ ⟨_, hB1092, h1091⟩ h888 hB1081 h1089 hB1051
      exact ke_weaken (l' := [(0, vops_0), (3, .pointer (some ⟨gd_3, 0, none⟩)), (4, .pointer (some ⟨gm_4, 0, none⟩)), (5, str last_5), (7, .pointer (some ⟨g1077, 0, none⟩)), (8, .pointer (some ⟨g1047, 0, none⟩)), (19, .int .i64 t_19), (20, .int .i64 t_20)]) (.cons rfl (.cons rfl (.cons rfl (.cons rfl (.cons rfl (.cons rfl (.cons rfl (.cons rfl (.nil _))))))))) hK
   ·refine ⟨_, rfl, ?_⟩
    have jt1100 : Tr ρ w50 (fun t => ([9, 10, 100, 101, 200, 201] : List Nat).contains t) ρ w50 := (Tr.refl hb.bd).weak (fun _ _ => rfl) rfl rfl
    refine sr_allocT 9 (by decide) hb.bd Tryz.zeroValue32 (by decide) ?_
    intro g1101 ρ1102 w1103 hB1105 htr1104
    replace hops_0 := hops_0.mv htr1104.rd
    replace hB44 := hB44.mv (htr1104.mv (i := 100) rfl)
    replace h43 := h43.mv (htr1104.mv (i := 101) rfl)
    replace hB47 := hB47.mv (htr1104.mv (i := 200) rfl)
    replace h46 := h46.mv (htr1104.mv (i := 201) rfl) (by decide)
    replace hb := hb.trans htr1104
    replace jt1100 := (jt1100.trans htr1104).weak (J' := (fun t => ([9, 10, 100, 101, 200, 201] : List Nat).contains t)) (by intro t h; simp [rng] at h ⊢ <;> omega) rfl rfl
    replace hB1105 : Blk ρ1102 9 w1103 g1101 (.cells #[str ([]), (.slice none 0 0), .int .i64 0, .bool false, .int .i64 0] 32 (0, 0)) := hB1105
    refine dj_next (l' := [(0, vops_0), (3, .pointer (some ⟨gd_3, 0, none⟩)), (4, .pointer (some ⟨gm_4, 0, none⟩)), (5, str last_5), (7, .pointer (some ⟨g1101, 0, none⟩)), (19, .int .i64 t_19), (20, .int .i64 t_20), (23, .pointer (some ⟨gd_3, 0, none⟩)), (27, .agg #[.int .i64 y825.Kind, str y825.User, str y825.ID, str y825.Secret, .int .i64 y825.Until, .int .i64 y825.Now]), (28, str last_5), (30, .pointer (some ⟨gm_4, 0, none⟩)), (34, .agg #[.int .i64 y832.Kind, str y832.User, str y832.ID, str y832.Secret, .int .i64 y832.Until, .int .i64 y832.Now]), (35, str last_5)]) rfl (.cons rfl (.cons rfl (.cons rfl (.cons rfl (.cons rfl (.cons rfl (.cons rfl (.cons rfl (.cons rfl (.cons rfl (.cons rfl (.cons rfl (.cons rfl (.nil _)))))))))))))) jt1100 (by intro t h; simp [rng] at h ⊢ <;> omega) rfl rfl ?_
    refine dj_all [6, 15] (by kernel_rfl) (fun i hi => ?_)
    simp only [List.mem_cons, List.not_mem_nil, or_false] at hi
    rcases hi with rfl | rfl
    ·refine ⟨_, rfl, ?_⟩
     have jt1106 : Tr ρ1102 w1103 (fun t => ([9, 10, 100, 101, 200, 201] : List Nat).contains t) ρ1102 w1103 := (Tr.refl hb.bd).weak (fun _ _ => rfl) rfl rfl
     refine sr_call (vs := [.pointer (some ⟨gd_3, 0, none⟩), .agg #[.int .i64 y825.Kind, str y825.User, str y825.ID, str y825.Secret, .int .i64 y825.Until, .int .i64 y825.Now], str last_5]) rfl Tryz.call8 rfl (law37_do_ok _ (hg.fr hz hb) (ρA := ρ1102) hb.bd (hz.fr hg hb) (o := 100) (by decide) (⟨_, hB44, h43⟩ : device_Devices.O (fun p => 100 + p) ρ1102 w1103 gd_3 od_3) hy841) (by decide) ?_
     rintro _ w1109 ⟨ρ1117, v1112, rfl, h1113, ⟨v1114, hB1116, h1115⟩, htr1111⟩
     replace hops_0 := hops_0.mv htr1111.rd
     replace hB1105 := hB1105.mv (htr1111.mv (i := 9) rfl)
     replace hB47 := hB47.mv (htr1111.mv (i := 200) rfl)
     replace h46 := h46.mv (htr1111.mv (i := 201) rfl) (by decide)
     replace hb := hb.trans htr1111
     replace jt1106 := (jt1106.trans htr1111).weak (J' := (fun t => ([9, 10, 100, 101, 200, 201] : List Nat).contains t)) (by intro t h; simp [rng] at h ⊢ <;> omega) rfl rfl
     replace hB1116 : Blk ρ1117 100 w1109 gd_3 (.cells #[v1114, .int .i64 y840.2.given] 41 (0, 0)) := hB1116
     replace h1115 : MapT device_key.ek device_record.c true ρ1117 101 w1109 v1114 y840.2.records := h1115
     refine dj_next (l' := [(0, vops_0), (3, .pointer (some ⟨gd_3, 0, none⟩)), (4, .pointer (some ⟨gm_4, 0, none⟩)), (5, str last_5), (7, .pointer (some ⟨g1101, 0, none⟩)), (19, .int .i64 t_19), (20, .int .i64 t_20), (29, .agg #[str y840.1.text, v1112, .int .i64 y840.1.n, .bool y840.1.is_, .int .i64 y840.1.e]), (30, .pointer (some ⟨gm_4, 0, none⟩)), (34, .agg #[.int .i64 y832.Kind, str y832.User, str y832.ID, str y832.Secret, .int .i64 y832.Until, .int .i64 y832.Now]), (35, str last_5)]) rfl (.cons rfl (.cons rfl (.cons rfl (.cons rfl (.cons rfl (.cons rfl (.cons rfl (.cons rfl (.cons rfl (.cons rfl (.cons rfl (.nil _)))))))))))) jt1106 (by intro t h; simp [rng] at h ⊢ <;> omega) rfl rfl ?_
     refine dj_all [13, 15] (by kernel_rfl) (fun i hi => ?_)
     simp only [List.mem_cons, List.not_mem_nil, or_false] at hi
     rcases hi with rfl | rfl
     ·refine ⟨_, rfl, ?_⟩
      have jt1118 : Tr ρ1117 w1109 (fun t => ([9, 10, 100, 101, 200, 201] : List Nat).contains t) ρ1117 w1109 := (Tr.refl hb.bd).weak (fun _ _ => rfl) rfl rfl
      refine sr_call (vs := [.pointer (some ⟨gm_4, 0, none⟩), .agg #[.int .i64 y832.Kind, str y832.User, str y832.ID, str y832.Secret, .int .i64 y832.Until, .int .i64 y832.Now], str last_5]) rfl Tryz.call9 rfl (law37_model_ok _ (hg.fr hz hb) (ρA := ρ1117) hb.bd (hz.fr hg hb) (o := 200) (by decide) (⟨_, hB47, h46⟩ : ref37_Devices.O (fun p => 200 + p) ρ1117 w1109 gm_4 om_4) hy853) (by decide) ?_
      rintro _ w1121 ⟨ρ1129, v1124, rfl, h1125, ⟨v1126, hB1128, h1127⟩, htr1123⟩
      replace hops_0 := hops_0.mv htr1123.rd
      replace h1113 := h1113.mv htr1123.rd
      replace hB1105 := hB1105.mv (htr1123.mv (i := 9) rfl)
      replace hB1116 := hB1116.mv (htr1123.mv (i := 100) rfl)
      replace h1115 := h1115.mv (htr1123.mv (i := 101) rfl)
      replace hb := hb.trans htr1123
      replace jt1118 := (jt1118.trans htr1123).weak (J' := (fun t => ([9, 10, 100, 101, 200, 201] : List Nat).contains t)) (by intro t h; simp [rng] at h ⊢ <;> omega) rfl rfl
      replace hB1128 : Blk ρ1129 200 w1121 gm_4 (.cells #[v1126, .int .i64 y852.2.N] 55 (0, 0)) := hB1128
      replace h1127 : OwnT ref37_Device.c 70 ρ1129 201 w1121 v1126 y852.2.L := h1127
      refine dj_next (l' := [(0, vops_0), (3, .pointer (some ⟨gd_3, 0, none⟩)), (4, .pointer (some ⟨gm_4, 0, none⟩)), (5, str last_5), (7, .pointer (some ⟨g1101, 0, none⟩)), (19, .int .i64 t_19), (20, .int .i64 t_20), (29, .agg #[str y840.1.text, v1112, .int .i64 y840.1.n, .bool y840.1.is_, .int .i64 y840.1.e]), (36, .agg #[str y852.1.text, v1124, .int .i64 y852.1.n, .bool y852.1.is_, .int .i64 y852.1.e])]) rfl (.cons rfl (.cons rfl (.cons rfl (.cons rfl (.cons rfl (.cons rfl (.cons rfl (.cons rfl (.cons rfl (.nil _)))))))))) jt1118 (by intro t h; simp [rng] at h ⊢ <;> omega) rfl rfl ?_
      refine dj_E 15 (by kernel_rfl) rfl ?_
      have jt1130 : Tr ρ1129 w1121 (fun t => ([9, 10, 100, 101, 200, 201] : List Nat).contains t) ρ1129 w1121 := (Tr.refl hb.bd).weak (fun _ _ => rfl) rfl rfl
      refine sr_allocT 10 (by decide) hb.bd Tryz.zeroValue32 (by decide) ?_
      intro g1131 ρ1132 w1133 hB1135 htr1134
      replace hops_0 := hops_0.mv htr1134.rd
      replace h1113 := h1113.mv htr1134.rd
      replace h1125 := h1125.mv htr1134.rd
      replace hB1105 := hB1105.mv (htr1134.mv (i := 9) rfl)
      replace hB1116 := hB1116.mv (htr1134.mv (i := 100) rfl)
      replace h1115 := h1115.mv (htr1134.mv (i := 101) rfl)
      replace hB1128 := hB1128.mv (htr1134.mv (i := 200) rfl)
      replace h1127 := h1127.mv (htr1134.mv (i := 201) rfl) (by decide)
      replace hb := hb.trans htr1134
      replace jt1130 := (jt1130.trans htr1134).weak (J' := (fun t => ([9, 10, 100, 101, 200, 201] : List Nat).contains t)) (by intro t h; simp [rng] at h ⊢ <;> omega) rfl rfl
      replace hB1135 : Blk ρ1132 10 w1133 g1131 (.cells #[str ([]), (.slice none 0 0), .int .i64 0, .bool false, .int .i64 0] 32 (0, 0)) := hB1135
      refine dj_next (l' := [(0, vops_0), (3, .pointer (some ⟨gd_3, 0, none⟩)), (4, .pointer (some ⟨gm_4, 0, none⟩)), (5, str last_5), (7, .pointer (some ⟨g1101, 0, none⟩)), (8, .pointer (some ⟨g1131, 0, none⟩)), (19, .int .i64 t_19), (20, .int .i64 t_20), (29, .agg #[str y840.1.text, v1112, .int .i64 y840.1.n, .bool y840.1.is_, .int .i64 y840.1.e]), (36, .agg #[str y852.1.text, v1124, .int .i64 y852.1.n, .bool y852.1.is_, .int .i64 y852.1.e])]) rfl (.cons rfl (.cons rfl (.cons rfl (.cons rfl (.cons rfl (.cons rfl (.cons rfl (.cons rfl (.cons rfl (.cons rfl (.nil _))))))))))) jt1130 (by intro t h; simp [rng] at h ⊢ <;> omega) rfl rfl ?_
      refine dj_E 16 (by kernel_rfl) rfl ?_
      have jt1136 : Tr ρ1132 w1133 (fun t => ([9, 10, 100, 101, 200, 201] : List Nat).contains t) ρ1132 w1133 := (Tr.refl hb.bd).weak (fun _ _ => rfl) rfl rfl
      refine sr_storeT (v := .agg #[str y840.1.text, v1112, .int .i64 y840.1.n, .bool y840.1.is_, .int .i64 y840.1.e]) (vs := [str y840.1.text, v1112, .int .i64 y840.1.n, .bool y840.1.is_, .int .i64 y840.1.e]) (cs' := #[str y840.1.text, v1112, .int .i64 y840.1.n, .bool y840.1.is_, .int .i64 y840.1.e]) hB1105 (by decide) hb.bd rfl rfl rfl Tryz.sizeOf32 rfl (by first | rfl | (simp only [List.all_cons, List.all_nil, SlR.oneCell h1113]; done) | (simp only [List.all_cons, List.all_nil, SlR.oneCell h1113]; rfl)) rfl ?_
      intro w1137 hB11051 htr1138
      replace hops_0 := hops_0.mv htr1138.rd
      replace h1125 := h1125.mv htr1138.rd
      replace hB1135 := hB1135.mv (htr1138.mv (i := 10) rfl)
      replace h1113 := h1113.mv htr1138.rd
      replace hB1116 := hB1116.mv (htr1138.mv (i := 100) rfl)
      replace h1115 := h1115.mv (htr1138.mv (i := 101) rfl)
      replace hB1128 := hB1128.mv (htr1138.mv (i := 200) rfl)
      replace h1127 := h1127.mv (htr1138.mv (i := 201) rfl) (by decide)
      replace hb := hb.trans htr1138
      replace jt1136 := (jt1136.trans htr1138).weak (J' := (fun t => ([9, 10, 100, 101, 200, 201] : List Nat).contains t)) (by intro t h; simp [rng] at h ⊢ <;> omega) rfl rfl
      replace hB1105 : Blk ρ1132 9 w1137 g1101 (.cells #[str y840.1.text, v1112, .int .i64 y840.1.n, .bool y840.1.is_, .int .i64 y840.1.e] 32 (0, 0)) := hB11051
      clear hB11051
      refine dj_next (l' := [(0, vops_0), (3, .pointer (some ⟨gd_3, 0, none⟩)), (4, .pointer (some ⟨gm_4, 0, none⟩)), (5, str last_5), (7, .pointer (some ⟨g1101, 0, none⟩)), (8, .pointer (some ⟨g1131, 0, none⟩)), (19, .int .i64 t_19), (20, .int .i64 t_20), (36, .agg #[str y852.1.text, v1124, .int .i64 y852.1.n, .bool y852.1.is_, .int .i64 y852.1.e])]) rfl (.cons rfl (.cons rfl (.cons rfl (.cons rfl (.cons rfl (.cons rfl (.cons rfl (.cons rfl (.cons rfl (.nil _)))))))))) jt1136 (by intro t h; simp [rng] at h ⊢ <;> omega) rfl rfl ?_
      refine dj_E 17 (by kernel_rfl) rfl ?_
      have jt1139 : Tr ρ1132 w1137 (fun t => ([9, 10, 100, 101, 200, 201] : List Nat).contains t) ρ1132 w1137 := (Tr.refl hb.bd).weak (fun _ _ => rfl) rfl rfl
      refine sr_storeT (v := .agg #[str y852.1.text, v1124, .int .i64 y852.1.n, .bool y852.1.is_, .int .i64 y852.1.e]) (vs := [str y852.1.text, v1124, .int .i64 y852.1.n, .bool y852.1.is_, .int .i64 y852.1.e]) (cs' := #[str y852.1.text, v1124, .int .i64 y852.1.n, .bool y852.1.is_, .int .i64 y852.1.e]) hB1135 (by decide) hb.bd rfl rfl rfl Tryz.sizeOf32 rfl (by first | rfl | (simp only [List.all_cons, List.all_nil, SlR.oneCell h1125]; done) | (simp only [List.all_cons, List.all_nil, SlR.oneCell h1125]; rfl)) rfl ?_
      intro w1140 hB11351 htr1141
      replace hops_0 := hops_0.mv htr1141.rd
      replace h1125 := h1125.mv htr1141.rd
      replace hB1105 := hB1105.mv (htr1141.mv (i := 9) rfl)
      replace h1113 := h1113.mv htr1141.rd
      replace hB1116 := hB1116.mv (htr1141.mv (i := 100) rfl)
      replace h1115 := h1115.mv (htr1141.mv (i := 101) rfl)
      replace hB1128 := hB1128.mv (htr1141.mv (i := 200) rfl)
      replace h1127 := h1127.mv (htr1141.mv (i := 201) rfl) (by decide)
      replace hb := hb.trans htr1141
      replace jt1139 := (jt1139.trans htr1141).weak (J' := (fun t => ([9, 10, 100, 101, 200, 201] : List Nat).contains t)) (by intro t h; simp [rng] at h ⊢ <;> omega) rfl rfl
      replace hB1135 : Blk ρ1132 10 w1140 g1131 (.cells #[str y852.1.text, v1124, .int .i64 y852.1.n, .bool y852.1.is_, .int .i64 y852.1.e] 32 (0, 0)) := hB11351
      clear hB11351
      refine dj_next (l' := [(0, vops_0), (3, .pointer (some ⟨gd_3, 0, none⟩)), (4, .pointer (some ⟨gm_4, 0, none⟩)), (5, str last_5), (7, .pointer (some ⟨g1101, 0, none⟩)), (8, .pointer (some ⟨g1131, 0, none⟩)), (19, .int .i64 t_19), (20, .int .i64 t_20)]) rfl (.cons rfl (.cons rfl (.cons rfl (.cons rfl (.cons rfl (.cons rfl (.cons rfl (.cons rfl (.nil _))))))))) jt1139 (by intro t h; simp [rng] at h ⊢ <;> omega) rfl rfl ?_
      refine dj_done rfl (by kernel_rfl) ?_
      refine ke_weaken (l' := [(0, vops_0), (3, .pointer (some ⟨gd_3, 0, none⟩)), (4, .pointer (some ⟨gm_4, 0, none⟩)), (5, str last_5), (7, .pointer (some ⟨g1101, 0, none⟩)), (8, .pointer (some ⟨g1131, 0, none⟩)), (19, .int .i64 t_19), (20, .int .i64 t_20)]) (.cons rfl (.cons rfl (.cons rfl (.cons rfl (.cons rfl (.cons rfl (.cons rfl (.cons rfl (.nil _))))))))) ?_
      have hK := law37_DeviceDoes_B2_ok hg hbd hz _ hr0 hS hb hops_0 ⟨_, hB1116, h1115⟩ ⟨_, hB1128, h1127⟩ h1113 hB1105 h1125 hB1135
      exact ke_weaken (l' := [(0, vops_0), (3, .pointer (some ⟨gd_3, 0, none⟩)), (4, .pointer (some ⟨gm_4, 0, none⟩)), (5, str last_5), (7, .pointer (some ⟨g1101, 0, none⟩)), (8, .pointer (some ⟨g1131, 0, none⟩)), (19, .int .i64 t_19), (20, .int .i64 t_20)]) (.cons rfl (.cons rfl (.cons rfl (.cons rfl (.cons rfl (.cons rfl (.cons rfl (.cons rfl (.nil _))))))))) hK
     ·refine ⟨_, rfl, ?_⟩
      have jt1142 : Tr ρ1117 w1109 (fun t => ([9, 10, 100, 101, 200, 201] : List Nat).contains t) ρ1117 w1109 := (Tr.refl hb.bd).weak (fun _ _ => rfl) rfl rfl
      refine sr_allocT 10 (by decide) hb.bd Tryz.zeroValue32 (by decide) ?_
      intro g1143 ρ1144 w1145 hB1147 htr1146
      replace hops_0 := hops_0.mv htr1146.rd
      replace h1113 := h1113.mv htr1146.rd
      replace hB1105 := hB1105.mv (htr1146.mv (i := 9) rfl)
      replace hB1116 := hB1116.mv (htr1146.mv (i := 100) rfl)
      replace h1115 := h1115.mv (htr1146.mv (i := 101) rfl)
      replace hB47 := hB47.mv (htr1146.mv (i := 200) rfl)
      replace h46 := h46.mv (htr1146.mv (i := 201) rfl) (by decide)
      replace hb := hb.trans htr1146
      replace jt1142 := (jt1142.trans htr1146).weak (J' := (fun t => ([9, 10, 100, 101, 200, 201] : List Nat).contains t)) (by intro t h; simp [rng] at h ⊢ <;> omega) rfl rfl
      replace hB1147 : Blk ρ1144 10 w1145 g1143 (.cells #[str ([]), (.slice none 0 0), .int .i64 0, .bool false, .int .i64 0] 32 (0, 0)) := hB1147
      refine dj_next (l' := [(0, vops_0), (3, .pointer (some ⟨gd_3, 0, none⟩)), (4, .pointer (some ⟨gm_4, 0, none⟩)), (5, str last_5), (7, .pointer (some ⟨g1101, 0, none⟩)), (8, .pointer (some ⟨g1143, 0, none⟩)), (19, .int .i64 t_19), (20, .int .i64 t_20), (29, .agg #[str y840.1.text, v1112, .int .i64 y840.1.n, .bool y840.1.is_, .int .i64 y840.1.e]), (30, .pointer (some ⟨gm_4, 0, none⟩)), (34, .agg #[.int .i64 y832.Kind, str y832.User, str y832.ID, str y832.Secret, .int .i64 y832.Until, .int .i64 y832.Now]), (35, str last_5)]) rfl (.cons rfl (.cons rfl (.cons rfl (.cons rfl (.cons rfl (.cons rfl (.cons rfl (.cons rfl (.cons rfl (.cons rfl (.cons rfl (.cons rfl (.nil _))))))))))))) jt1142 (by intro t h; simp [rng] at h ⊢ <;> omega) rfl rfl ?_
      refine dj_E 13 (by kernel_rfl) rfl ?_
      have jt1148 : Tr ρ1144 w1145 (fun t => ([9, 10, 100, 101, 200, 201] : List Nat).contains t) ρ1144 w1145 := (Tr.refl hb.bd).weak (fun _ _ => rfl) rfl rfl
      refine sr_call (vs := [.pointer (some ⟨gm_4, 0, none⟩), .agg #[.int .i64 y832.Kind, str y832.User, str y832.ID, str y832.Secret, .int .i64 y832.Until, .int .i64 y832.Now], str last_5]) rfl Tryz.call9 rfl (law37_model_ok _ (hg.fr hz hb) (ρA := ρ1144) hb.bd (hz.fr hg hb) (o := 200) (by decide) (⟨_, hB47, h46⟩ : ref37_Devices.O (fun p => 200 + p) ρ1144 w1145 gm_4 om_4) hy853) (by decide) ?_
      rintro _ w1151 ⟨ρ1159, v1154, rfl, h1155, ⟨v1156, hB1158, h1157⟩, htr1153⟩
      replace hops_0 := hops_0.mv htr1153.rd
      replace h1113 := h1113.mv htr1153.rd
      replace hB1147 := hB1147.mv (htr1153.mv (i := 10) rfl)
      replace hB1105 := hB1105.mv (htr1153.mv (i := 9) rfl)
      replace hB1116 := hB1116.mv (htr1153.mv (i := 100) rfl)
      replace h1115 := h1115.mv (htr1153.mv (i := 101) rfl)
      replace hb := hb.trans htr1153
      replace jt1148 := (jt1148.trans htr1153).weak (J' := (fun t => ([9, 10, 100, 101, 200, 201] : List Nat).contains t)) (by intro t h; simp [rng] at h ⊢ <;> omega) rfl rfl
      replace hB1158 : Blk ρ1159 200 w1151 gm_4 (.cells #[v1156, .int .i64 y852.2.N] 55 (0, 0)) := hB1158
      replace h1157 : OwnT ref37_Device.c 70 ρ1159 201 w1151 v1156 y852.2.L := h1157
      refine dj_next (l' := [(0, vops_0), (3, .pointer (some ⟨gd_3, 0, none⟩)), (4, .pointer (some ⟨gm_4, 0, none⟩)), (5, str last_5), (7, .pointer (some ⟨g1101, 0, none⟩)), (8, .pointer (some ⟨g1143, 0, none⟩)), (19, .int .i64 t_19), (20, .int .i64 t_20), (29, .agg #[str y840.1.text, v1112, .int .i64 y840.1.n, .bool y840.1.is_, .int .i64 y840.1.e]), (36, .agg #[str y852.1.text, v1154, .int .i64 y852.1.n, .bool y852.1.is_, .int .i64 y852.1.e])]) rfl (.cons rfl (.cons rfl (.cons rfl (.cons rfl (.cons rfl (.cons rfl (.cons rfl (.cons rfl (.cons rfl (.cons rfl (.nil _))))))))))) jt1148 (by intro t h; simp [rng] at h ⊢ <;> omega) rfl rfl ?_
      refine dj_E 16 (by kernel_rfl) rfl ?_
      have jt1160 : Tr ρ1159 w1151 (fun t => ([9, 10, 100, 101, 200, 201] : List Nat).contains t) ρ1159 w1151 := (Tr.refl hb.bd).weak (fun _ _ => rfl) rfl rfl
      refine sr_storeT (v := .agg #[str y840.1.text, v1112, .int .i64 y840.1.n, .bool y840.1.is_, .int .i64 y840.1.e]) (vs := [str y840.1.text, v1112, .int .i64 y840.1.n, .bool y840.1.is_, .int .i64 y840.1.e]) (cs' := #[str y840.1.text, v1112, .int .i64 y840.1.n, .bool y840.1.is_, .int .i64 y840.1.e]) hB1105 (by decide) hb.bd rfl rfl rfl Tryz.sizeOf32 rfl (by first | rfl | (simp only [List.all_cons, List.all_nil, SlR.oneCell h1113]; done) | (simp only [List.all_cons, List.all_nil, SlR.oneCell h1113]; rfl)) rfl ?_
      intro w1161 hB11051 htr1162
      replace hops_0 := hops_0.mv htr1162.rd
      replace h1155 := h1155.mv htr1162.rd
      replace hB1147 := hB1147.mv (htr1162.mv (i := 10) rfl)
      replace h1113 := h1113.mv htr1162.rd
      replace hB1116 := hB1116.mv (htr1162.mv (i := 100) rfl)
      replace h1115 := h1115.mv (htr1162.mv (i := 101) rfl)
      replace hB1158 := hB1158.mv (htr1162.mv (i := 200) rfl)
      replace h1157 := h1157.mv (htr1162.mv (i := 201) rfl) (by decide)
      replace hb := hb.trans htr1162
      replace jt1160 := (jt1160.trans htr1162).weak (J' := (fun t => ([9, 10, 100, 101, 200, 201] : List Nat).contains t)) (by intro t h; simp [rng] at h ⊢ <;> omega) rfl rfl
      replace hB1105 : Blk ρ1159 9 w1161 g1101 (.cells #[str y840.1.text, v1112, .int .i64 y840.1.n, .bool y840.1.is_, .int .i64 y840.1.e] 32 (0, 0)) := hB11051
      clear hB11051
      refine dj_next (l' := [(0, vops_0), (3, .pointer (some ⟨gd_3, 0, none⟩)), (4, .pointer (some ⟨gm_4, 0, none⟩)), (5, str last_5), (7, .pointer (some ⟨g1101, 0, none⟩)), (8, .pointer (some ⟨g1143, 0, none⟩)), (19, .int .i64 t_19), (20, .int .i64 t_20), (36, .agg #[str y852.1.text, v1154, .int .i64 y852.1.n, .bool y852.1.is_, .int .i64 y852.1.e])]) rfl (.cons rfl (.cons rfl (.cons rfl (.cons rfl (.cons rfl (.cons rfl (.cons rfl (.cons rfl (.cons rfl (.nil _)))))))))) jt1160 (by intro t h; simp [rng] at h ⊢ <;> omega) rfl rfl ?_
      refine dj_E 17 (by kernel_rfl) rfl ?_
      have jt1163 : Tr ρ1159 w1161 (fun t => ([9, 10, 100, 101, 200, 201] : List Nat).contains t) ρ1159 w1161 := (Tr.refl hb.bd).weak (fun _ _ => rfl) rfl rfl
      refine sr_storeT (v := .agg #[str y852.1.text, v1154, .int .i64 y852.1.n, .bool y852.1.is_, .int .i64 y852.1.e]) (vs := [str y852.1.text, v1154, .int .i64 y852.1.n, .bool y852.1.is_, .int .i64 y852.1.e]) (cs' := #[str y852.1.text, v1154, .int .i64 y852.1.n, .bool y852.1.is_, .int .i64 y852.1.e]) hB1147 (by decide) hb.bd rfl rfl rfl Tryz.sizeOf32 rfl (by first | rfl | (simp only [List.all_cons, List.all_nil, SlR.oneCell h1155]; done) | (simp only [List.all_cons, List.all_nil, SlR.oneCell h1155]; rfl)) rfl ?_
      intro w1164 hB11471 htr1165
      replace hops_0 := hops_0.mv htr1165.rd
      replace h1155 := h1155.mv htr1165.rd
      replace hB1105 := hB1105.mv (htr1165.mv (i := 9) rfl)
      replace h1113 := h1113.mv htr1165.rd
      replace hB1116 := hB1116.mv (htr1165.mv (i := 100) rfl)
      replace h1115 := h1115.mv (htr1165.mv (i := 101) rfl)
      replace hB1158 := hB1158.mv (htr1165.mv (i := 200) rfl)
      replace h1157 := h1157.mv (htr1165.mv (i := 201) rfl) (by decide)
      replace hb := hb.trans htr1165
      replace jt1163 := (jt1163.trans htr1165).weak (J' := (fun t => ([9, 10, 100, 101, 200, 201] : List Nat).contains t)) (by intro t h; simp [rng] at h ⊢ <;> omega) rfl rfl
      replace hB1147 : Blk ρ1159 10 w1164 g1143 (.cells #[str y852.1.text, v1154, .int .i64 y852.1.n, .bool y852.1.is_, .int .i64 y852.1.e] 32 (0, 0)) := hB11471
      clear hB11471
      refine dj_next (l' := [(0, vops_0), (3, .pointer (some ⟨gd_3, 0, none⟩)), (4, .pointer (some ⟨gm_4, 0, none⟩)), (5, str last_5), (7, .pointer (some ⟨g1101, 0, none⟩)), (8, .pointer (some ⟨g1143, 0, none⟩)), (19, .int .i64 t_19), (20, .int .i64 t_20)]) rfl (.cons rfl (.cons rfl (.cons rfl (.cons rfl (.cons rfl (.cons rfl (.cons rfl (.cons rfl (.nil _))))))))) jt1163 (by intro t h; simp [rng] at h ⊢ <;> omega) rfl rfl ?_
      refine dj_done rfl (by kernel_rfl) ?_
      refine ke_weaken (l' := [(0, vops_0), (3, .pointer (some ⟨gd_3, 0, none⟩)), (4, .pointer (some ⟨gm_4, 0, none⟩)), (5, str last_5), (7, .pointer (some ⟨g1101, 0, none⟩)), (8, .pointer (some ⟨g1143, 0, none⟩)), (19, .int .i64 t_19), (20, .int .i64 t_20)]) (.cons rfl (.cons rfl (.cons rfl (.cons rfl (.cons rfl (.cons rfl (.cons rfl (.cons rfl (.nil _))))))))) ?_
      have hK := law37_DeviceDoes_B2_ok hg hbd hz _ hr0 hS hb hops_0 ⟨_, hB1116, h1115⟩ ⟨_, hB1158, h1157⟩ h1113 hB1105 h1155 hB1147
      exact ke_weaken (l' := [(0, vops_0), (3, .pointer (some ⟨gd_3, 0, none⟩)), (4, .pointer (some ⟨gm_4, 0, none⟩)), (5, str last_5), (7, .pointer (some ⟨g1101, 0, none⟩)), (8, .pointer (some ⟨g1143, 0, none⟩)), (19, .int .i64 t_19), (20, .int .i64 t_20)]) (.cons rfl (.cons rfl (.cons rfl (.cons rfl (.cons rfl (.cons rfl (.cons rfl (.cons rfl (.nil _))))))))) hK
    ·refine ⟨_, rfl, ?_⟩
     have jt1166 : Tr ρ1102 w1103 (fun t => ([9, 10, 100, 101, 200, 201] : List Nat).contains t) ρ1102 w1103 := (Tr.refl hb.bd).weak (fun _ _ => rfl) rfl rfl
     refine sr_allocT 10 (by decide) hb.bd Tryz.zeroValue32 (by decide) ?_
     intro g1167 ρ1168 w1169 hB1171 htr1170
     replace hops_0 := hops_0.mv htr1170.rd
     replace hB1105 := hB1105.mv (htr1170.mv (i := 9) rfl)
     replace hB44 := hB44.mv (htr1170.mv (i := 100) rfl)
     replace h43 := h43.mv (htr1170.mv (i := 101) rfl)
     replace hB47 := hB47.mv (htr1170.mv (i := 200) rfl)
     replace h46 := h46.mv (htr1170.mv (i := 201) rfl) (by decide)
     replace hb := hb.trans htr1170
     replace jt1166 := (jt1166.trans htr1170).weak (J' := (fun t => ([9, 10, 100, 101, 200, 201] : List Nat).contains t)) (by intro t h; simp [rng] at h ⊢ <;> omega) rfl rfl
     replace hB1171 : Blk ρ1168 10 w1169 g1167 (.cells #[str ([]), (.slice none 0 0), .int .i64 0, .bool false, .int .i64 0] 32 (0, 0)) := hB1171
     refine dj_next (l' := [(0, vops_0), (3, .pointer (some ⟨gd_3, 0, none⟩)), (4, .pointer (some ⟨gm_4, 0, none⟩)), (5, str last_5), (7, .pointer (some ⟨g1101, 0, none⟩)), (8, .pointer (some ⟨g1167, 0, none⟩)), (19, .int .i64 t_19), (20, .int .i64 t_20), (23, .pointer (some ⟨gd_3, 0, none⟩)), (27, .agg #[.int .i64 y825.Kind, str y825.User, str y825.ID, str y825.Secret, .int .i64 y825.Until, .int .i64 y825.Now]), (28, str last_5), (30, .pointer (some ⟨gm_4, 0, none⟩)), (34, .agg #[.int .i64 y832.Kind, str y832.User, str y832.ID, str y832.Secret, .int .i64 y832.Until, .int .i64 y832.Now]), (35, str last_5)]) rfl (.cons rfl (.cons rfl (.cons rfl (.cons rfl (.cons rfl (.cons rfl (.cons rfl (.cons rfl (.cons rfl (.cons rfl (.cons rfl (.cons rfl (.cons rfl (.cons rfl (.nil _))))))))))))))) jt1166 (by intro t h; simp [rng] at h ⊢ <;> omega) rfl rfl ?_
     refine dj_E 6 (by kernel_rfl) rfl ?_
     have jt1172 : Tr ρ1168 w1169 (fun t => ([9, 10, 100, 101, 200, 201] : List Nat).contains t) ρ1168 w1169 := (Tr.refl hb.bd).weak (fun _ _ => rfl) rfl rfl
     refine sr_call (vs := [.pointer (some ⟨gd_3, 0, none⟩), .agg #[.int .i64 y825.Kind, str y825.User, str y825.ID, str y825.Secret, .int .i64 y825.Until, .int .i64 y825.Now], str last_5]) rfl Tryz.call8 rfl (law37_do_ok _ (hg.fr hz hb) (ρA := ρ1168) hb.bd (hz.fr hg hb) (o := 100) (by decide) (⟨_, hB44, h43⟩ : device_Devices.O (fun p => 100 + p) ρ1168 w1169 gd_3 od_3) hy841) (by decide) ?_
     rintro _ w1175 ⟨ρ1183, v1178, rfl, h1179, ⟨v1180, hB1182, h1181⟩, htr1177⟩
     replace hops_0 := hops_0.mv htr1177.rd
     replace hB1171 := hB1171.mv (htr1177.mv (i := 10) rfl)
     replace hB1105 := hB1105.mv (htr1177.mv (i := 9) rfl)
     replace hB47 := hB47.mv (htr1177.mv (i := 200) rfl)
     replace h46 := h46.mv (htr1177.mv (i := 201) rfl) (by decide)
     replace hb := hb.trans htr1177
     replace jt1172 := (jt1172.trans htr1177).weak (J' := (fun t => ([9, 10, 100, 101, 200, 201] : List Nat).contains t)) (by intro t h; simp [rng] at h ⊢ <;> omega) rfl rfl
     replace hB1182 : Blk ρ1183 100 w1175 gd_3 (.cells #[v1180, .int .i64 y840.2.given] 41 (0, 0)) := hB1182
     replace h1181 : MapT device_key.ek device_record.c true ρ1183 101 w1175 v1180 y840.2.records := h1181
     refine dj_next (l' := [(0, vops_0), (3, .pointer (some ⟨gd_3, 0, none⟩)), (4, .pointer (some ⟨gm_4, 0, none⟩)), (5, str last_5), (7, .pointer (some ⟨g1101, 0, none⟩)), (8, .pointer (some ⟨g1167, 0, none⟩)), (19, .int .i64 t_19), (20, .int .i64 t_20), (29, .agg #[str y840.1.text, v1178, .int .i64 y840.1.n, .bool y840.1.is_, .int .i64 y840.1.e]), (30, .pointer (some ⟨gm_4, 0, none⟩)), (34, .agg #[.int .i64 y832.Kind, str y832.User, str y832.ID, str y832.Secret, .int .i64 y832.Until, .int .i64 y832.Now]), (35, str last_5)]) rfl (.cons rfl (.cons rfl (.cons rfl (.cons rfl (.cons rfl (.cons rfl (.cons rfl (.cons rfl (.cons rfl (.cons rfl (.cons rfl (.cons rfl (.nil _))))))))))))) jt1172 (by intro t h; simp [rng] at h ⊢ <;> omega) rfl rfl ?_
     refine dj_E 13 (by kernel_rfl) rfl ?_
     have jt1184 : Tr ρ1183 w1175 (fun t => ([9, 10, 100, 101, 200, 201] : List Nat).contains t) ρ1183 w1175 := (Tr.refl hb.bd).weak (fun _ _ => rfl) rfl rfl
     refine sr_call (vs := [.pointer (some ⟨gm_4, 0, none⟩), .agg #[.int .i64 y832.Kind, str y832.User, str y832.ID, str y832.Secret, .int .i64 y832.Until, .int .i64 y832.Now], str last_5]) rfl Tryz.call9 rfl (law37_model_ok _ (hg.fr hz hb) (ρA := ρ1183) hb.bd (hz.fr hg hb) (o := 200) (by decide) (⟨_, hB47, h46⟩ : ref37_Devices.O (fun p => 200 + p) ρ1183 w1175 gm_4 om_4) hy853) (by decide) ?_
     rintro _ w1187 ⟨ρ1195, v1190, rfl, h1191, ⟨v1192, hB1194, h1193⟩, htr1189⟩
     replace hops_0 := hops_0.mv htr1189.rd
     replace h1179 := h1179.mv htr1189.rd
     replace hB1171 := hB1171.mv (htr1189.mv (i := 10) rfl)
     replace hB1105 := hB1105.mv (htr1189.mv (i := 9) rfl)
     replace hB1182 := hB1182.mv (htr1189.mv (i := 100) rfl)
     replace h1181 := h1181.mv (htr1189.mv (i := 101) rfl)
     replace hb := hb.trans htr1189
     replace jt1184 := (jt1184.trans htr1189).weak (J' := (fun t => ([9, 10, 100, 101, 200, 201] : List Nat).contains t)) (by intro t h; simp [rng] at h ⊢ <;> omega) rfl rfl
     replace hB1194 : Blk ρ1195 200 w1187 gm_4 (.cells #[v1192, .int .i64 y852.2.N] 55 (0, 0)) := hB1194
     replace h1193 : OwnT ref37_Device.c 70 ρ1195 201 w1187 v1192 y852.2.L := h1193
     refine dj_next (l' := [(0, vops_0), (3, .pointer (some ⟨gd_3, 0, none⟩)), (4, .pointer (some ⟨gm_4, 0, none⟩)), (5, str last_5), (7, .pointer (some ⟨g1101, 0, none⟩)), (8, .pointer (some ⟨g1167, 0, none⟩)), (19, .int .i64 t_19), (20, .int .i64 t_20), (29, .agg #[str y840.1.text, v1178, .int .i64 y840.1.n, .bool y840.1.is_, .int .i64 y840.1.e]), (36, .agg #[str y852.1.text, v1190, .int .i64 y852.1.n, .bool y852.1.is_, .int .i64 y852.1.e])]) rfl (.cons rfl (.cons rfl (.cons rfl (.cons rfl (.cons rfl (.cons rfl (.cons rfl (.cons rfl (.cons rfl (.cons rfl (.nil _))))))))))) jt1184 (by intro t h; simp [rng] at h ⊢ <;> omega) rfl rfl ?_
     refine dj_E 16 (by kernel_rfl) rfl ?_
     have jt1196 : Tr ρ1195 w1187 (fun t => ([9, 10, 100, 101, 200, 201] : List Nat).contains t) ρ1195 w1187 := (Tr.refl hb.bd).weak (fun _ _ => rfl) rfl rfl
     refine sr_storeT (v := .agg #[str y840.1.text, v1178, .int .i64 y840.1.n, .bool y840.1.is_, .int .i64 y840.1.e]) (vs := [str y840.1.text, v1178, .int .i64 y840.1.n, .bool y840.1.is_, .int .i64 y840.1.e]) (cs' := #[str y840.1.text, v1178, .int .i64 y840.1.n, .bool y840.1.is_, .int .i64 y840.1.e]) hB1105 (by decide) hb.bd rfl rfl rfl Tryz.sizeOf32 rfl (by first | rfl | (simp only [List.all_cons, List.all_nil, SlR.oneCell h1179]; done) | (simp only [List.all_cons, List.all_nil, SlR.oneCell h1179]; rfl)) rfl ?_
     intro w1197 hB11051 htr1198
     replace hops_0 := hops_0.mv htr1198.rd
     replace h1191 := h1191.mv htr1198.rd
     replace hB1171 := hB1171.mv (htr1198.mv (i := 10) rfl)
     replace h1179 := h1179.mv htr1198.rd
     replace hB1182 := hB1182.mv (htr1198.mv (i := 100) rfl)
     replace h1181 := h1181.mv (htr1198.mv (i := 101) rfl)
     replace hB1194 := hB1194.mv (htr1198.mv (i := 200) rfl)
     replace h1193 := h1193.mv (htr1198.mv (i := 201) rfl) (by decide)
     replace hb := hb.trans htr1198
     replace jt1196 := (jt1196.trans htr1198).weak (J' := (fun t => ([9, 10, 100, 101, 200, 201] : List Nat).contains t)) (by intro t h; simp [rng] at h ⊢ <;> omega) rfl rfl
     replace hB1105 : Blk ρ1195 9 w1197 g1101 (.cells #[str y840.1.text, v1178, .int .i64 y840.1.n, .bool y840.1.is_, .int .i64 y840.1.e] 32 (0, 0)) := hB11051
     clear hB11051
     refine dj_next (l' := [(0, vops_0), (3, .pointer (some ⟨gd_3, 0, none⟩)), (4, .pointer (some ⟨gm_4, 0, none⟩)), (5, str last_5), (7, .pointer (some ⟨g1101, 0, none⟩)), (8, .pointer (some ⟨g1167, 0, none⟩)), (19, .int .i64 t_19), (20, .int .i64 t_20), (36, .agg #[str y852.1.text, v1190, .int .i64 y852.1.n, .bool y852.1.is_, .int .i64 y852.1.e])]) rfl (.cons rfl (.cons rfl (.cons rfl (.cons rfl (.cons rfl (.cons rfl (.cons rfl (.cons rfl (.cons rfl (.nil _)))))))))) jt1196 (by intro t h; simp [rng] at h ⊢ <;> omega) rfl rfl ?_
     refine dj_E 17 (by kernel_rfl) rfl ?_
     have jt1199 : Tr ρ1195 w1197 (fun t => ([9, 10, 100, 101, 200, 201] : List Nat).contains t) ρ1195 w1197 := (Tr.refl hb.bd).weak (fun _ _ => rfl) rfl rfl
     refine sr_storeT (v := .agg #[str y852.1.text, v1190, .int .i64 y852.1.n, .bool y852.1.is_, .int .i64 y852.1.e]) (vs := [str y852.1.text, v1190, .int .i64 y852.1.n, .bool y852.1.is_, .int .i64 y852.1.e]) (cs' := #[str y852.1.text, v1190, .int .i64 y852.1.n, .bool y852.1.is_, .int .i64 y852.1.e]) hB1171 (by decide) hb.bd rfl rfl rfl Tryz.sizeOf32 rfl (by first | rfl | (simp only [List.all_cons, List.all_nil, SlR.oneCell h1191]; done) | (simp only [List.all_cons, List.all_nil, SlR.oneCell h1191]; rfl)) rfl ?_
     intro w1200 hB11711 htr1201
     replace hops_0 := hops_0.mv htr1201.rd
     replace h1191 := h1191.mv htr1201.rd
     replace hB1105 := hB1105.mv (htr1201.mv (i := 9) rfl)
     replace h1179 := h1179.mv htr1201.rd
     replace hB1182 := hB1182.mv (htr1201.mv (i := 100) rfl)
     replace h1181 := h1181.mv (htr1201.mv (i := 101) rfl)
     replace hB1194 := hB1194.mv (htr1201.mv (i := 200) rfl)
     replace h1193 := h1193.mv (htr1201.mv (i := 201) rfl) (by decide)
     replace hb := hb.trans htr1201
     replace jt1199 := (jt1199.trans htr1201).weak (J' := (fun t => ([9, 10, 100, 101, 200, 201] : List Nat).contains t)) (by intro t h; simp [rng] at h ⊢ <;> omega) rfl rfl
     replace hB1171 : Blk ρ1195 10 w1200 g1167 (.cells #[str y852.1.text, v1190, .int .i64 y852.1.n, .bool y852.1.is_, .int .i64 y852.1.e] 32 (0, 0)) := hB11711
     clear hB11711
     refine dj_next (l' := [(0, vops_0), (3, .pointer (some ⟨gd_3, 0, none⟩)), (4, .pointer (some ⟨gm_4, 0, none⟩)), (5, str last_5), (7, .pointer (some ⟨g1101, 0, none⟩)), (8, .pointer (some ⟨g1167, 0, none⟩)), (19, .int .i64 t_19), (20, .int .i64 t_20)]) rfl (.cons rfl (.cons rfl (.cons rfl (.cons rfl (.cons rfl (.cons rfl (.cons rfl (.cons rfl (.nil _))))))))) jt1199 (by intro t h; simp [rng] at h ⊢ <;> omega) rfl rfl ?_
     refine dj_done rfl (by kernel_rfl) ?_
     refine ke_weaken (l' := [(0, vops_0), (3, .pointer (some ⟨gd_3, 0, none⟩)), (4, .pointer (some ⟨gm_4, 0, none⟩)), (5, str last_5), (7, .pointer (some ⟨g1101, 0, none⟩)), (8, .pointer (some ⟨g1167, 0, none⟩)), (19, .int .i64 t_19), (20, .int .i64 t_20)]) (.cons rfl (.cons rfl (.cons rfl (.cons rfl (.cons rfl (.cons rfl (.cons rfl (.cons rfl (.nil _))))))))) ?_
     have hK := law37_DeviceDoes_B2_ok hg hbd hz _ hr0 hS hb hops_0 ⟨_, hB1182, h1181⟩ ⟨_, hB1194, h1193⟩ h1179 hB1105 h1191 hB1171
     exact ke_weaken (l' := [(0, vops_0), (3, .pointer (some ⟨gd_3, 0, none⟩)), (4, .pointer (some ⟨gm_4, 0, none⟩)), (5, str last_5), (7, .pointer (some ⟨g1101, 0, none⟩)), (8, .pointer (some ⟨g1167, 0, none⟩)), (19, .int .i64 t_19), (20, .int .i64 t_20)]) (.cons rfl (.cons rfl (.cons rfl (.cons rfl (.cons rfl (.cons rfl (.cons rfl (.cons rfl (.nil _))))))))) hK
   ·refine ⟨_, rfl, ?_⟩
    have jt1202 : Tr ρ w50 (fun t => ([9, 10, 100, 101, 200, 201] : List Nat).contains t) ρ w50 := (Tr.refl hb.bd).weak (fun _ _ => rfl) rfl rfl
    refine sr_allocT 10 (by decide) hb.bd Tryz.zeroValue32 (by decide) ?_
    intro g1203 ρ1204 w1205 hB1207 htr1206
    replace hops_0 := hops_0.mv htr1206.rd
    replace hB44 := hB44.mv (htr1206.mv (i := 100) rfl)
    replace h43 := h43.mv (htr1206.mv (i := 101) rfl)
    replace hB47 := hB47.mv (htr1206.mv (i := 200) rfl)
    replace h46 := h46.mv (htr1206.mv (i := 201) rfl) (by decide)
    replace hb := hb.trans htr1206
    replace jt1202 := (jt1202.trans htr1206).weak (J' := (fun t => ([9, 10, 100, 101, 200, 201] : List Nat).contains t)) (by intro t h; simp [rng] at h ⊢ <;> omega) rfl rfl
    replace hB1207 : Blk ρ1204 10 w1205 g1203 (.cells #[str ([]), (.slice none 0 0), .int .i64 0, .bool false, .int .i64 0] 32 (0, 0)) := hB1207
    refine dj_next (l' := [(0, vops_0), (3, .pointer (some ⟨gd_3, 0, none⟩)), (4, .pointer (some ⟨gm_4, 0, none⟩)), (5, str last_5), (8, .pointer (some ⟨g1203, 0, none⟩)), (19, .int .i64 t_19), (20, .int .i64 t_20), (23, .pointer (some ⟨gd_3, 0, none⟩)), (27, .agg #[.int .i64 y825.Kind, str y825.User, str y825.ID, str y825.Secret, .int .i64 y825.Until, .int .i64 y825.Now]), (28, str last_5), (30, .pointer (some ⟨gm_4, 0, none⟩)), (34, .agg #[.int .i64 y832.Kind, str y832.User, str y832.ID, str y832.Secret, .int .i64 y832.Until, .int .i64 y832.Now]), (35, str last_5)]) rfl (.cons rfl (.cons rfl (.cons rfl (.cons rfl (.cons rfl (.cons rfl (.cons rfl (.cons rfl (.cons rfl (.cons rfl (.cons rfl (.cons rfl (.cons rfl (.nil _)))))))))))))) jt1202 (by intro t h; simp [rng] at h ⊢ <;> omega) rfl rfl ?_
    refine dj_all [6, 14] (by kernel_rfl) (fun i hi => ?_)
    simp only [List.mem_cons, List.not_mem_nil, or_false] at hi
    rcases hi with rfl | rfl
    ·refine ⟨_, rfl, ?_⟩
     have jt1208 : Tr ρ1204 w1205 (fun t => ([9, 10, 100, 101, 200, 201] : List Nat).contains t) ρ1204 w1205 := (Tr.refl hb.bd).weak (fun _ _ => rfl) rfl rfl
     refine sr_call (vs := [.pointer (some ⟨gd_3, 0, none⟩), .agg #[.int .i64 y825.Kind, str y825.User, str y825.ID, str y825.Secret, .int .i64 y825.Until, .int .i64 y825.Now], str last_5]) rfl Tryz.call8 rfl (law37_do_ok _ (hg.fr hz hb) (ρA := ρ1204) hb.bd (hz.fr hg hb) (o := 100) (by decide) (⟨_, hB44, h43⟩ : device_Devices.O (fun p => 100 + p) ρ1204 w1205 gd_3 od_3) hy841) (by decide) ?_
     rintro _ w1211 ⟨ρ1219, v1214, rfl, h1215, ⟨v1216, hB1218, h1217⟩, htr1213⟩
     replace hops_0 := hops_0.mv htr1213.rd
     replace hB1207 := hB1207.mv (htr1213.mv (i := 10) rfl)
     replace hB47 := hB47.mv (htr1213.mv (i := 200) rfl)
     replace h46 := h46.mv (htr1213.mv (i := 201) rfl) (by decide)
     replace hb := hb.trans htr1213
     replace jt1208 := (jt1208.trans htr1213).weak (J' := (fun t => ([9, 10, 100, 101, 200, 201] : List Nat).contains t)) (by intro t h; simp [rng] at h ⊢ <;> omega) rfl rfl
     replace hB1218 : Blk ρ1219 100 w1211 gd_3 (.cells #[v1216, .int .i64 y840.2.given] 41 (0, 0)) := hB1218
     replace h1217 : MapT device_key.ek device_record.c true ρ1219 101 w1211 v1216 y840.2.records := h1217
     refine dj_next (l' := [(0, vops_0), (3, .pointer (some ⟨gd_3, 0, none⟩)), (4, .pointer (some ⟨gm_4, 0, none⟩)), (5, str last_5), (8, .pointer (some ⟨g1203, 0, none⟩)), (19, .int .i64 t_19), (20, .int .i64 t_20), (29, .agg #[str y840.1.text, v1214, .int .i64 y840.1.n, .bool y840.1.is_, .int .i64 y840.1.e]), (30, .pointer (some ⟨gm_4, 0, none⟩)), (34, .agg #[.int .i64 y832.Kind, str y832.User, str y832.ID, str y832.Secret, .int .i64 y832.Until, .int .i64 y832.Now]), (35, str last_5)]) rfl (.cons rfl (.cons rfl (.cons rfl (.cons rfl (.cons rfl (.cons rfl (.cons rfl (.cons rfl (.cons rfl (.cons rfl (.cons rfl (.nil _)))))))))))) jt1208 (by intro t h; simp [rng] at h ⊢ <;> omega) rfl rfl ?_
     refine dj_all [13, 14] (by kernel_rfl) (fun i hi => ?_)
     simp only [List.mem_cons, List.not_mem_nil, or_false] at hi
     rcases hi with rfl | rfl
     ·refine ⟨_, rfl, ?_⟩
      have jt1220 : Tr ρ1219 w1211 (fun t => ([9, 10, 100, 101, 200, 201] : List Nat).contains t) ρ1219 w1211 := (Tr.refl hb.bd).weak (fun _ _ => rfl) rfl rfl
      refine sr_call (vs := [.pointer (some ⟨gm_4, 0, none⟩), .agg #[.int .i64 y832.Kind, str y832.User, str y832.ID, str y832.Secret, .int .i64 y832.Until, .int .i64 y832.Now], str last_5]) rfl Tryz.call9 rfl (law37_model_ok _ (hg.fr hz hb) (ρA := ρ1219) hb.bd (hz.fr hg hb) (o := 200) (by decide) (⟨_, hB47, h46⟩ : ref37_Devices.O (fun p => 200 + p) ρ1219 w1211 gm_4 om_4) hy853) (by decide) ?_
      rintro _ w1223 ⟨ρ1231, v1226, rfl, h1227, ⟨v1228, hB1230, h1229⟩, htr1225⟩
      replace hops_0 := hops_0.mv htr1225.rd
      replace h1215 := h1215.mv htr1225.rd
      replace hB1207 := hB1207.mv (htr1225.mv (i := 10) rfl)
      replace hB1218 := hB1218.mv (htr1225.mv (i := 100) rfl)
      replace h1217 := h1217.mv (htr1225.mv (i := 101) rfl)
      replace hb := hb.trans htr1225
      replace jt1220 := (jt1220.trans htr1225).weak (J' := (fun t => ([9, 10, 100, 101, 200, 201] : List Nat).contains t)) (by intro t h; simp [rng] at h ⊢ <;> omega) rfl rfl
      replace hB1230 : Blk ρ1231 200 w1223 gm_4 (.cells #[v1228, .int .i64 y852.2.N] 55 (0, 0)) := hB1230
      replace h1229 : OwnT ref37_Device.c 70 ρ1231 201 w1223 v1228 y852.2.L := h1229
      refine dj_next (l' := [(0, vops_0), (3, .pointer (some ⟨gd_3, 0, none⟩)), (4, .pointer (some ⟨gm_4, 0, none⟩)), (5, str last_5), (8, .pointer (some ⟨g1203, 0, none⟩)), (19, .int .i64 t_19), (20, .int .i64 t_20), (29, .agg #[str y840.1.text, v1214, .int .i64 y840.1.n, .bool y840.1.is_, .int .i64 y840.1.e]), (36, .agg #[str y852.1.text, v1226, .int .i64 y852.1.n, .bool y852.1.is_, .int .i64 y852.1.e])]) rfl (.cons rfl (.cons rfl (.cons rfl (.cons rfl (.cons rfl (.cons rfl (.cons rfl (.cons rfl (.cons rfl (.nil _)))))))))) jt1220 (by intro t h; simp [rng] at h ⊢ <;> omega) rfl rfl ?_
      refine dj_E 14 (by kernel_rfl) rfl ?_
      have jt1232 : Tr ρ1231 w1223 (fun t => ([9, 10, 100, 101, 200, 201] : List Nat).contains t) ρ1231 w1223 := (Tr.refl hb.bd).weak (fun _ _ => rfl) rfl rfl
      refine sr_allocT 9 (by decide) hb.bd Tryz.zeroValue32 (by decide) ?_
      intro g1233 ρ1234 w1235 hB1237 htr1236
      replace hops_0 := hops_0.mv htr1236.rd
      replace h1215 := h1215.mv htr1236.rd
      replace h1227 := h1227.mv htr1236.rd
      replace hB1207 := hB1207.mv (htr1236.mv (i := 10) rfl)
      replace hB1218 := hB1218.mv (htr1236.mv (i := 100) rfl)
      replace h1217 := h1217.mv (htr1236.mv (i := 101) rfl)
      replace hB1230 := hB1230.mv (htr1236.mv (i := 200) rfl)
      replace h1229 := h1229.mv (htr1236.mv (i := 201) rfl) (by decide)
      replace hb := hb.trans htr1236
      replace jt1232 := (jt1232.trans htr1236).weak (J' := (fun t => ([9, 10, 100, 101, 200, 201] : List Nat).contains t)) (by intro t h; simp [rng] at h ⊢ <;> omega) rfl rfl
      replace hB1237 : Blk ρ1234 9 w1235 g1233 (.cells #[str ([]), (.slice none 0 0), .int .i64 0, .bool false, .int .i64 0] 32 (0, 0)) := hB1237
      refine dj_next (l' := [(0, vops_0), (3, .pointer (some ⟨gd_3, 0, none⟩)), (4, .pointer (some ⟨gm_4, 0, none⟩)), (5, str last_5), (7, .pointer (some ⟨g1233, 0, none⟩)), (8, .pointer (some ⟨g1203, 0, none⟩)), (19, .int .i64 t_19), (20, .int .i64 t_20), (29, .agg #[str y840.1.text, v1214, .int .i64 y840.1.n, .bool y840.1.is_, .int .i64 y840.1.e]), (36, .agg #[str y852.1.text, v1226, .int .i64 y852.1.n, .bool y852.1.is_, .int .i64 y852.1.e])]) rfl (.cons rfl (.cons rfl (.cons rfl (.cons rfl (.cons rfl (.cons rfl (.cons rfl (.cons rfl (.cons rfl (.cons rfl (.nil _))))))))))) jt1232 (by intro t h; simp [rng] at h ⊢ <;> omega) rfl rfl ?_
      refine dj_E 16 (by kernel_rfl) rfl ?_
      have jt1238 : Tr ρ1234 w1235 (fun t => ([9, 10, 100, 101, 200, 201] : List Nat).contains t) ρ1234 w1235 := (Tr.refl hb.bd).weak (fun _ _ => rfl) rfl rfl
      refine sr_storeT (v := .agg #[str y840.1.text, v1214, .int .i64 y840.1.n, .bool y840.1.is_, .int .i64 y840.1.e]) (vs := [str y840.1.text, v1214, .int .i64 y840.1.n, .bool y840.1.is_, .int .i64 y840.1.e]) (cs' := #[str y840.1.text, v1214, .int .i64 y840.1.n, .bool y840.1.is_, .int .i64 y840.1.e]) hB1237 (by decide) hb.bd rfl rfl rfl Tryz.sizeOf32 rfl (by first | rfl | (simp only [List.all_cons, List.all_nil, SlR.oneCell h1215]; done) | (simp only [List.all_cons, List.all_nil, SlR.oneCell h1215]; rfl)) rfl ?_
      intro w1239 hB12371 htr1240
      replace hops_0 := hops_0.mv htr1240.rd
      replace h1227 := h1227.mv htr1240.rd
      replace h1215 := h1215.mv htr1240.rd
      replace hB1207 := hB1207.mv (htr1240.mv (i := 10) rfl)
      replace hB1218 := hB1218.mv (htr1240.mv (i := 100) rfl)
      replace h1217 := h1217.mv (htr1240.mv (i := 101) rfl)
      replace hB1230 := hB1230.mv (htr1240.mv (i := 200) rfl)
      replace h1229 := h1229.mv (htr1240.mv (i := 201) rfl) (by decide)
      replace hb := hb.trans htr1240
      replace jt1238 := (jt1238.trans htr1240).weak (J' := (fun t => ([9, 10, 100, 101, 200, 201] : List Nat).contains t)) (by intro t h; simp [rng] at h ⊢ <;> omega) rfl rfl
      replace hB1237 : Blk ρ1234 9 w1239 g1233 (.cells #[str y840.1.text, v1214, .int .i64 y840.1.n, .bool y840.1.is_, .int .i64 y840.1.e] 32 (0, 0)) := hB12371
      clear hB12371
      refine dj_next (l' := [(0, vops_0), (3, .pointer (some ⟨gd_3, 0, none⟩)), (4, .pointer (some ⟨gm_4, 0, none⟩)), (5, str last_5), (7, .pointer (some ⟨g1233, 0, none⟩)), (8, .pointer (some ⟨g1203, 0, none⟩)), (19, .int .i64 t_19), (20, .int .i64 t_20), (36, .agg #[str y852.1.text, v1226, .int .i64 y852.1.n, .bool y852.1.is_, .int .i64 y852.1.e])]) rfl (.cons rfl (.cons rfl (.cons rfl (.cons rfl (.cons rfl (.cons rfl (.cons rfl (.cons rfl (.cons rfl (.nil _)))))))))) jt1238 (by intro t h; simp [rng] at h ⊢ <;> omega) rfl rfl ?_
      refine dj_E 17 (by kernel_rfl) rfl ?_
      have jt1241 : Tr ρ1234 w1239 (fun t => ([9, 10, 100, 101, 200, 201] : List Nat).contains t) ρ1234 w1239 := (Tr.refl hb.bd).weak (fun _ _ => rfl) rfl rfl
      refine sr_storeT (v := .agg #[str y852.1.text, v1226, .int .i64 y852.1.n, .bool y852.1.is_, .int .i64 y852.1.e]) (vs := [str y852.1.text, v1226, .int .i64 y852.1.n, .bool y852.1.is_, .int .i64 y852.1.e]) (cs' := #[str y852.1.text, v1226, .int .i64 y852.1.n, .bool y852.1.is_, .int .i64 y852.1.e]) hB1207 (by decide) hb.bd rfl rfl rfl Tryz.sizeOf32 rfl (by first | rfl | (simp only [List.all_cons, List.all_nil, SlR.oneCell h1227]; done) | (simp only [List.all_cons, List.all_nil, SlR.oneCell h1227]; rfl)) rfl ?_
      intro w1242 hB12071 htr1243
      replace hops_0 := hops_0.mv htr1243.rd
      replace hB1237 := hB1237.mv (htr1243.mv (i := 9) rfl)
      replace h1215 := h1215.mv htr1243.rd
      replace h1227 := h1227.mv htr1243.rd
      replace hB1218 := hB1218.mv (htr1243.mv (i := 100) rfl)
      replace h1217 := h1217.mv (htr1243.mv (i := 101) rfl)
      replace hB1230 := hB1230.mv (htr1243.mv (i := 200) rfl)
      replace h1229 := h1229.mv (htr1243.mv (i := 201) rfl) (by decide)
      replace hb := hb.trans htr1243
      replace jt1241 := (jt1241.trans htr1243).weak (J' := (fun t => ([9, 10, 100, 101, 200, 201] : List Nat).contains t)) (by intro t h; simp [rng] at h ⊢ <;> omega) rfl rfl
      replace hB1207 : Blk ρ1234 10 w1242 g1203 (.cells #[str y852.1.text, v1226, .int .i64 y852.1.n, .bool y852.1.is_, .int .i64 y852.1.e] 32 (0, 0)) := hB12071
      clear hB12071
      refine dj_next (l' := [(0, vops_0), (3, .pointer (some ⟨gd_3, 0, none⟩)), (4, .pointer (some ⟨gm_4, 0, none⟩)), (5, str last_5), (7, .pointer (some ⟨g1233, 0, none⟩)), (8, .pointer (some ⟨g1203, 0, none⟩)), (19, .int .i64 t_19), (20, .int .i64 t_20)]) rfl (.cons rfl (.cons rfl (.cons rfl (.cons rfl (.cons rfl (.cons rfl (.cons rfl (.cons rfl (.nil _))))))))) jt1241 (by intro t h; simp [rng] at h ⊢ <;> omega) rfl rfl ?_
      refine dj_done rfl (by kernel_rfl) ?_
      refine ke_weaken (l' := [(0, vops_0), (3, .pointer (some ⟨gd_3, 0, none⟩)), (4, .pointer (some ⟨gm_4, 0, none⟩)), (5, str last_5), (7, .pointer (some ⟨g1233, 0, none⟩)), (8, .pointer (some ⟨g1203, 0, none⟩)), (19, .int .i64 t_19), (20, .int .i64 t_20)]) (.cons rfl (.cons rfl (.cons rfl (.cons rfl (.cons rfl (.cons rfl (.cons rfl (.cons rfl (.nil _))))))))) ?_
      have hK := law37_DeviceDoes_B2_ok hg hbd hz _ hr0 hS hb hops_0 ⟨_, hB1218, h1217⟩ ⟨_, hB1230, h1229⟩ h1215 hB1237 h1227 hB1207
      exact ke_weaken (l' := [(0, vops_0), (3, .pointer (some ⟨gd_3, 0, none⟩)), (4, .pointer (some ⟨gm_4, 0, none⟩)), (5, str last_5), (7, .pointer (some ⟨g1233, 0, none⟩)), (8, .pointer (some ⟨g1203, 0, none⟩)), (19, .int .i64 t_19), (20, .int .i64 t_20)]) (.cons rfl (.cons rfl (.cons rfl (.cons rfl (.cons rfl (.cons rfl (.cons rfl (.cons rfl (.nil _))))))))) hK
     ·refine ⟨_, rfl, ?_⟩
      have jt1244 : Tr ρ1219 w1211 (fun t => ([9, 10, 100, 101, 200, 201] : List Nat).contains t) ρ1219 w1211 := (Tr.refl hb.bd).weak (fun _ _ => rfl) rfl rfl
      refine sr_allocT 9 (by decide) hb.bd Tryz.zeroValue32 (by decide) ?_
      intro g1245 ρ1246 w1247 hB1249 htr1248
      replace hops_0 := hops_0.mv htr1248.rd
      replace h1215 := h1215.mv htr1248.rd
      replace hB1207 := hB1207.mv (htr1248.mv (i := 10) rfl)
      replace hB1218 := hB1218.mv (htr1248.mv (i := 100) rfl)
      replace h1217 := h1217.mv (htr1248.mv (i := 101) rfl)
      replace hB47 := hB47.mv (htr1248.mv (i := 200) rfl)
      replace h46 := h46.mv (htr1248.mv (i := 201) rfl) (by decide)
      replace hb := hb.trans htr1248
      replace jt1244 := (jt1244.trans htr1248).weak (J' := (fun t => ([9, 10, 100, 101, 200, 201] : List Nat).contains t)) (by intro t h; simp [rng] at h ⊢ <;> omega) rfl rfl
      replace hB1249 : Blk ρ1246 9 w1247 g1245 (.cells #[str ([]), (.slice none 0 0), .int .i64 0, .bool false, .int .i64 0] 32 (0, 0)) := hB1249
      refine dj_next (l' := [(0, vops_0), (3, .pointer (some ⟨gd_3, 0, none⟩)), (4, .pointer (some ⟨gm_4, 0, none⟩)), (5, str last_5), (7, .pointer (some ⟨g1245, 0, none⟩)), (8, .pointer (some ⟨g1203, 0, none⟩)), (19, .int .i64 t_19), (20, .int .i64 t_20), (29, .agg #[str y840.1.text, v1214, .int .i64 y840.1.n, .bool y840.1.is_, .int .i64 y840.1.e]), (30, .pointer (some ⟨gm_4, 0, none⟩)), (34, .agg #[.int .i64 y832.Kind, str y832.User, str y832.ID, str y832.Secret, .int .i64 y832.Until, .int .i64 y832.Now]), (35, str last_5)]) rfl (.cons rfl (.cons rfl (.cons rfl (.cons rfl (.cons rfl (.cons rfl (.cons rfl (.cons rfl (.cons rfl (.cons rfl (.cons rfl (.cons rfl (.nil _))))))))))))) jt1244 (by intro t h; simp [rng] at h ⊢ <;> omega) rfl rfl ?_
      refine dj_E 13 (by kernel_rfl) rfl ?_
      have jt1250 : Tr ρ1246 w1247 (fun t => ([9, 10, 100, 101, 200, 201] : List Nat).contains t) ρ1246 w1247 := (Tr.refl hb.bd).weak (fun _ _ => rfl) rfl rfl
      refine sr_call (vs := [.pointer (some ⟨gm_4, 0, none⟩), .agg #[.int .i64 y832.Kind, str y832.User, str y832.ID, str y832.Secret, .int .i64 y832.Until, .int .i64 y832.Now], str last_5]) rfl Tryz.call9 rfl (law37_model_ok _ (hg.fr hz hb) (ρA := ρ1246) hb.bd (hz.fr hg hb) (o := 200) (by decide) (⟨_, hB47, h46⟩ : ref37_Devices.O (fun p => 200 + p) ρ1246 w1247 gm_4 om_4) hy853) (by decide) ?_
      rintro _ w1253 ⟨ρ1261, v1256, rfl, h1257, ⟨v1258, hB1260, h1259⟩, htr1255⟩
      replace hops_0 := hops_0.mv htr1255.rd
      replace h1215 := h1215.mv htr1255.rd
      replace hB1249 := hB1249.mv (htr1255.mv (i := 9) rfl)
      replace hB1207 := hB1207.mv (htr1255.mv (i := 10) rfl)
      replace hB1218 := hB1218.mv (htr1255.mv (i := 100) rfl)
      replace h1217 := h1217.mv (htr1255.mv (i := 101) rfl)
      replace hb := hb.trans htr1255
      replace jt1250 := (jt1250.trans htr1255).weak (J' := (fun t => ([9, 10, 100, 101, 200, 201] : List Nat).contains t)) (by intro t h; simp [rng] at h ⊢ <;> omega) rfl rfl
      replace hB1260 : Blk ρ1261 200 w1253 gm_4 (.cells #[v1258, .int .i64 y852.2.N] 55 (0, 0)) := hB1260
      replace h1259 : OwnT ref37_Device.c 70 ρ1261 201 w1253 v1258 y852.2.L := h1259
      refine dj_next (l' := [(0, vops_0), (3, .pointer (some ⟨gd_3, 0, none⟩)), (4, .pointer (some ⟨gm_4, 0, none⟩)), (5, str last_5), (7, .pointer (some ⟨g1245, 0, none⟩)), (8, .pointer (some ⟨g1203, 0, none⟩)), (19, .int .i64 t_19), (20, .int .i64 t_20), (29, .agg #[str y840.1.text, v1214, .int .i64 y840.1.n, .bool y840.1.is_, .int .i64 y840.1.e]), (36, .agg #[str y852.1.text, v1256, .int .i64 y852.1.n, .bool y852.1.is_, .int .i64 y852.1.e])]) rfl (.cons rfl (.cons rfl (.cons rfl (.cons rfl (.cons rfl (.cons rfl (.cons rfl (.cons rfl (.cons rfl (.cons rfl (.nil _))))))))))) jt1250 (by intro t h; simp [rng] at h ⊢ <;> omega) rfl rfl ?_
      refine dj_E 16 (by kernel_rfl) rfl ?_
      have jt1262 : Tr ρ1261 w1253 (fun t => ([9, 10, 100, 101, 200, 201] : List Nat).contains t) ρ1261 w1253 := (Tr.refl hb.bd).weak (fun _ _ => rfl) rfl rfl
      refine sr_storeT (v := .agg #[str y840.1.text, v1214, .int .i64 y840.1.n, .bool y840.1.is_, .int .i64 y840.1.e]) (vs := [str y840.1.text, v1214, .int .i64 y840.1.n, .bool y840.1.is_, .int .i64 y840.1.e]) (cs' := #[str y840.1.text, v1214, .int .i64 y840.1.n, .bool y840.1.is_, .int .i64 y840.1.e]) hB1249 (by decide) hb.bd rfl rfl rfl Tryz.sizeOf32 rfl (by first | rfl | (simp only [List.all_cons, List.all_nil, SlR.oneCell h1215]; done) | (simp only [List.all_cons, List.all_nil, SlR.oneCell h1215]; rfl)) rfl ?_
      intro w1263 hB12491 htr1264
      replace hops_0 := hops_0.mv htr1264.rd
      replace h1257 := h1257.mv htr1264.rd
      replace h1215 := h1215.mv htr1264.rd
      replace hB1207 := hB1207.mv (htr1264.mv (i := 10) rfl)
      replace hB1218 := hB1218.mv (htr1264.mv (i := 100) rfl)
      replace h1217 := h1217.mv (htr1264.mv (i := 101) rfl)
      replace hB1260 := hB1260.mv (htr1264.mv (i := 200) rfl)
      replace h1259 := h1259.mv (htr1264.mv (i := 201) rfl) (by decide)
      replace hb := hb.trans htr1264
      replace jt1262 := (jt1262.trans htr1264).weak (J' := (fun t => ([9, 10, 100, 101, 200, 201] : List Nat).contains t)) (by intro t h; simp [rng] at h ⊢ <;> omega) rfl rfl
      replace hB1249 : Blk ρ1261 9 w1263 g1245 (.cells #[str y840.1.text, v1214, .int .i64 y840.1.n, .bool y840.1.is_, .int .i64 y840.1.e] 32 (0, 0)) := hB12491
      clear hB12491
      refine dj_next (l' := [(0, vops_0), (3, .pointer (some ⟨gd_3, 0, none⟩)), (4, .pointer (some ⟨gm_4, 0, none⟩)), (5, str last_5), (7, .pointer (some ⟨g1245, 0, none⟩)), (8, .pointer (some ⟨g1203, 0, none⟩)), (19, .int .i64 t_19), (20, .int .i64 t_20), (36, .agg #[str y852.1.text, v1256, .int .i64 y852.1.n, .bool y852.1.is_, .int .i64 y852.1.e])]) rfl (.cons rfl (.cons rfl (.cons rfl (.cons rfl (.cons rfl (.cons rfl (.cons rfl (.cons rfl (.cons rfl (.nil _)))))))))) jt1262 (by intro t h; simp [rng] at h ⊢ <;> omega) rfl rfl ?_
      refine dj_E 17 (by kernel_rfl) rfl ?_
      have jt1265 : Tr ρ1261 w1263 (fun t => ([9, 10, 100, 101, 200, 201] : List Nat).contains t) ρ1261 w1263 := (Tr.refl hb.bd).weak (fun _ _ => rfl) rfl rfl
      refine sr_storeT (v := .agg #[str y852.1.text, v1256, .int .i64 y852.1.n, .bool y852.1.is_, .int .i64 y852.1.e]) (vs := [str y852.1.text, v1256, .int .i64 y852.1.n, .bool y852.1.is_, .int .i64 y852.1.e]) (cs' := #[str y852.1.text, v1256, .int .i64 y852.1.n, .bool y852.1.is_, .int .i64 y852.1.e]) hB1207 (by decide) hb.bd rfl rfl rfl Tryz.sizeOf32 rfl (by first | rfl | (simp only [List.all_cons, List.all_nil, SlR.oneCell h1257]; done) | (simp only [List.all_cons, List.all_nil, SlR.oneCell h1257]; rfl)) rfl ?_
      intro w1266 hB12071 htr1267
      replace hops_0 := hops_0.mv htr1267.rd
      replace hB1249 := hB1249.mv (htr1267.mv (i := 9) rfl)
      replace h1215 := h1215.mv htr1267.rd
      replace h1257 := h1257.mv htr1267.rd
      replace hB1218 := hB1218.mv (htr1267.mv (i := 100) rfl)
      replace h1217 := h1217.mv (htr1267.mv (i := 101) rfl)
      replace hB1260 := hB1260.mv (htr1267.mv (i := 200) rfl)
      replace h1259 := h1259.mv (htr1267.mv (i := 201) rfl) (by decide)
      replace hb := hb.trans htr1267
      replace jt1265 := (jt1265.trans htr1267).weak (J' := (fun t => ([9, 10, 100, 101, 200, 201] : List Nat).contains t)) (by intro t h; simp [rng] at h ⊢ <;> omega) rfl rfl
      replace hB1207 : Blk ρ1261 10 w1266 g1203 (.cells #[str y852.1.text, v1256, .int .i64 y852.1.n, .bool y852.1.is_, .int .i64 y852.1.e] 32 (0, 0)) := hB12071
      clear hB12071
      refine dj_next (l' := [(0, vops_0), (3, .pointer (some ⟨gd_3, 0, none⟩)), (4, .pointer (some ⟨gm_4, 0, none⟩)), (5, str last_5), (7, .pointer (some ⟨g1245, 0, none⟩)), (8, .pointer (some ⟨g1203, 0, none⟩)), (19, .int .i64 t_19), (20, .int .i64 t_20)]) rfl (.cons rfl (.cons rfl (.cons rfl (.cons rfl (.cons rfl (.cons rfl (.cons rfl (.cons rfl (.nil _))))))))) jt1265 (by intro t h; simp [rng] at h ⊢ <;> omega) rfl rfl ?_
      refine dj_done rfl (by kernel_rfl) ?_
      refine ke_weaken (l' := [(0, vops_0), (3, .pointer (some ⟨gd_3, 0, none⟩)), (4, .pointer (some ⟨gm_4, 0, none⟩)), (5, str last_5), (7, .pointer (some ⟨g1245, 0, none⟩)), (8, .pointer (some ⟨g1203, 0, none⟩)), (19, .int .i64 t_19), (20, .int .i64 t_20)]) (.cons rfl (.cons rfl (.cons rfl (.cons rfl (.cons rfl (.cons rfl (.cons rfl (.cons rfl (.nil _))))))))) ?_
      have hK := law37_DeviceDoes_B2_ok hg hbd hz _ hr0 hS hb hops_0 ⟨_, hB1218, h1217⟩ ⟨_, hB1260, h1259⟩ h1215 hB1249 h1257 hB1207
      exact ke_weaken (l' := [(0, vops_0), (3, .pointer (some ⟨gd_3, 0, none⟩)), (4, .pointer (some ⟨gm_4, 0, none⟩)), (5, str last_5), (7, .pointer (some ⟨g1245, 0, none⟩)), (8, .pointer (some ⟨g1203, 0, none⟩)), (19, .int .i64 t_19), (20, .int .i64 t_20)]) (.cons rfl (.cons rfl (.cons rfl (.cons rfl (.cons rfl (.cons rfl (.cons rfl (.cons rfl (.nil _))))))))) hK
    ·refine ⟨_, rfl, ?_⟩
     have jt1268 : Tr ρ1204 w1205 (fun t => ([9, 10, 100, 101, 200, 201] : List Nat).contains t) ρ1204 w1205 := (Tr.refl hb.bd).weak (fun _ _ => rfl) rfl rfl
     refine sr_allocT 9 (by decide) hb.bd Tryz.zeroValue32 (by decide) ?_
     intro g1269 ρ1270 w1271 hB1273 htr1272
     replace hops_0 := hops_0.mv htr1272.rd
     replace hB1207 := hB1207.mv (htr1272.mv (i := 10) rfl)
     replace hB44 := hB44.mv (htr1272.mv (i := 100) rfl)
     replace h43 := h43.mv (htr1272.mv (i := 101) rfl)
     replace hB47 := hB47.mv (htr1272.mv (i := 200) rfl)
     replace h46 := h46.mv (htr1272.mv (i := 201) rfl) (by decide)
     replace hb := hb.trans htr1272
     replace jt1268 := (jt1268.trans htr1272).weak (J' := (fun t => ([9, 10, 100, 101, 200, 201] : List Nat).contains t)) (by intro t h; simp [rng] at h ⊢ <;> omega) rfl rfl
     replace hB1273 : Blk ρ1270 9 w1271 g1269 (.cells #[str ([]), (.slice none 0 0), .int .i64 0, .bool false, .int .i64 0] 32 (0, 0)) := hB1273
     refine dj_next (l' := [(0, vops_0), (3, .pointer (some ⟨gd_3, 0, none⟩)), (4, .pointer (some ⟨gm_4, 0, none⟩)), (5, str last_5), (7, .pointer (some ⟨g1269, 0, none⟩)), (8, .pointer (some ⟨g1203, 0, none⟩)), (19, .int .i64 t_19), (20, .int .i64 t_20), (23, .pointer (some ⟨gd_3, 0, none⟩)), (27, .agg #[.int .i64 y825.Kind, str y825.User, str y825.ID, str y825.Secret, .int .i64 y825.Until, .int .i64 y825.Now]), (28, str last_5), (30, .pointer (some ⟨gm_4, 0, none⟩)), (34, .agg #[.int .i64 y832.Kind, str y832.User, str y832.ID, str y832.Secret, .int .i64 y832.Until, .int .i64 y832.Now]), (35, str last_5)]) rfl (.cons rfl (.cons rfl (.cons rfl (.cons rfl (.cons rfl (.cons rfl (.cons rfl (.cons rfl (.cons rfl (.cons rfl (.cons rfl (.cons rfl (.cons rfl (.cons rfl (.nil _))))))))))))))) jt1268 (by intro t h; simp [rng] at h ⊢ <;> omega) rfl rfl ?_
     refine dj_E 6 (by kernel_rfl) rfl ?_
     have jt1274 : Tr ρ1270 w1271 (fun t => ([9, 10, 100, 101, 200, 201] : List Nat).contains t) ρ1270 w1271 := (Tr.refl hb.bd).weak (fun _ _ => rfl) rfl rfl
     refine sr_call (vs := [.pointer (some ⟨gd_3, 0, none⟩), .agg #[.int .i64 y825.Kind, str y825.User, str y825.ID, str y825.Secret, .int .i64 y825.Until, .int .i64 y825.Now], str last_5]) rfl Tryz.call8 rfl (law37_do_ok _ (hg.fr hz hb) (ρA := ρ1270) hb.bd (hz.fr hg hb) (o := 100) (by decide) (⟨_, hB44, h43⟩ : device_Devices.O (fun p => 100 + p) ρ1270 w1271 gd_3 od_3) hy841) (by decide) ?_
     rintro _ w1277 ⟨ρ1285, v1280, rfl, h1281, ⟨v1282, hB1284, h1283⟩, htr1279⟩
     replace hops_0 := hops_0.mv htr1279.rd
     replace hB1273 := hB1273.mv (htr1279.mv (i := 9) rfl)
     replace hB1207 := hB1207.mv (htr1279.mv (i := 10) rfl)
     replace hB47 := hB47.mv (htr1279.mv (i := 200) rfl)
     replace h46 := h46.mv (htr1279.mv (i := 201) rfl) (by decide)
     replace hb := hb.trans htr1279
     replace jt1274 := (jt1274.trans htr1279).weak (J' := (fun t => ([9, 10, 100, 101, 200, 201] : List Nat).contains t)) (by intro t h; simp [rng] at h ⊢ <;> omega) rfl rfl
     replace hB1284 : Blk ρ1285 100 w1277 gd_3 (.cells #[v1282, .int .i64 y840.2.given] 41 (0, 0)) := hB1284
     replace h1283 : MapT device_key.ek device_record.c true ρ1285 101 w1277 v1282 y840.2.records := h1283
     refine dj_next (l' := [(0, vops_0), (3, .pointer (some ⟨gd_3, 0, none⟩)), (4, .pointer (some ⟨gm_4, 0, none⟩)), (5, str last_5), (7, .pointer (some ⟨g1269, 0, none⟩)), (8, .pointer (some ⟨g1203, 0, none⟩)), (19, .int .i64 t_19), (20, .int .i64 t_20), (29, .agg #[str y840.1.text, v1280, .int .i64 y840.1.n, .bool y840.1.is_, .int .i64 y840.1.e]), (30, .pointer (some ⟨gm_4, 0, none⟩)), (34, .agg #[.int .i64 y832.Kind, str y832.User, str y832.ID, str y832.Secret, .int .i64 y832.Until, .int .i64 y832.Now]), (35, str last_5)]) rfl (.cons rfl (.cons rfl (.cons rfl (.cons rfl (.cons rfl (.cons rfl (.cons rfl (.cons rfl (.cons rfl (.cons rfl (.cons rfl (.cons rfl (.nil _))))))))))))) jt1274 (by intro t h; simp [rng] at h ⊢ <;> omega) rfl rfl ?_
     refine dj_E 13 (by kernel_rfl) rfl ?_
     have jt1286 : Tr ρ1285 w1277 (fun t => ([9, 10, 100, 101, 200, 201] : List Nat).contains t) ρ1285 w1277 := (Tr.refl hb.bd).weak (fun _ _ => rfl) rfl rfl
     refine sr_call (vs := [.pointer (some ⟨gm_4, 0, none⟩), .agg #[.int .i64 y832.Kind, str y832.User, str y832.ID, str y832.Secret, .int .i64 y832.Until, .int .i64 y832.Now], str last_5]) rfl Tryz.call9 rfl (law37_model_ok _ (hg.fr hz hb) (ρA := ρ1285) hb.bd (hz.fr hg hb) (o := 200) (by decide) (⟨_, hB47, h46⟩ : ref37_Devices.O (fun p => 200 + p) ρ1285 w1277 gm_4 om_4) hy853) (by decide) ?_
     rintro _ w1289 ⟨ρ1297, v1292, rfl, h1293, ⟨v1294, hB1296, h1295⟩, htr1291⟩
     replace hops_0 := hops_0.mv htr1291.rd
     replace h1281 := h1281.mv htr1291.rd
     replace hB1273 := hB1273.mv (htr1291.mv (i := 9) rfl)
     replace hB1207 := hB1207.mv (htr1291.mv (i := 10) rfl)
     replace hB1284 := hB1284.mv (htr1291.mv (i := 100) rfl)
     replace h1283 := h1283.mv (htr1291.mv (i := 101) rfl)
     replace hb := hb.trans htr1291
     replace jt1286 := (jt1286.trans htr1291).weak (J' := (fun t => ([9, 10, 100, 101, 200, 201] : List Nat).contains t)) (by intro t h; simp [rng] at h ⊢ <;> omega) rfl rfl
     replace hB1296 : Blk ρ1297 200 w1289 gm_4 (.cells #[v1294, .int .i64 y852.2.N] 55 (0, 0)) := hB1296
     replace h1295 : OwnT ref37_Device.c 70 ρ1297 201 w1289 v1294 y852.2.L := h1295
     refine dj_next (l' := [(0, vops_0), (3, .pointer (some ⟨gd_3, 0, none⟩)), (4, .pointer (some ⟨gm_4, 0, none⟩)), (5, str last_5), (7, .pointer (some ⟨g1269, 0, none⟩)), (8, .pointer (some ⟨g1203, 0, none⟩)), (19, .int .i64 t_19), (20, .int .i64 t_20), (29, .agg #[str y840.1.text, v1280, .int .i64 y840.1.n, .bool y840.1.is_, .int .i64 y840.1.e]), (36, .agg #[str y852.1.text, v1292, .int .i64 y852.1.n, .bool y852.1.is_, .int .i64 y852.1.e])]) rfl (.cons rfl (.cons rfl (.cons rfl (.cons rfl (.cons rfl (.cons rfl (.cons rfl (.cons rfl (.cons rfl (.cons rfl (.nil _))))))))))) jt1286 (by intro t h; simp [rng] at h ⊢ <;> omega) rfl rfl ?_
     refine dj_E 16 (by kernel_rfl) rfl ?_
     have jt1298 : Tr ρ1297 w1289 (fun t => ([9, 10, 100, 101, 200, 201] : List Nat).contains t) ρ1297 w1289 := (Tr.refl hb.bd).weak (fun _ _ => rfl) rfl rfl
     refine sr_storeT (v := .agg #[str y840.1.text, v1280, .int .i64 y840.1.n, .bool y840.1.is_, .int .i64 y840.1.e]) (vs := [str y840.1.text, v1280, .int .i64 y840.1.n, .bool y840.1.is_, .int .i64 y840.1.e]) (cs' := #[str y840.1.text, v1280, .int .i64 y840.1.n, .bool y840.1.is_, .int .i64 y840.1.e]) hB1273 (by decide) hb.bd rfl rfl rfl Tryz.sizeOf32 rfl (by first | rfl | (simp only [List.all_cons, List.all_nil, SlR.oneCell h1281]; done) | (simp only [List.all_cons, List.all_nil, SlR.oneCell h1281]; rfl)) rfl ?_
     intro w1299 hB12731 htr1300
     replace hops_0 := hops_0.mv htr1300.rd
     replace h1293 := h1293.mv htr1300.rd
     replace h1281 := h1281.mv htr1300.rd
     replace hB1207 := hB1207.mv (htr1300.mv (i := 10) rfl)
     replace hB1284 := hB1284.mv (htr1300.mv (i := 100) rfl)
     replace h1283 := h1283.mv (htr1300.mv (i := 101) rfl)
     replace hB1296 := hB1296.mv (htr1300.mv (i := 200) rfl)
     replace h1295 := h1295.mv (htr1300.mv (i := 201) rfl) (by decide)
     replace hb := hb.trans htr1300
     replace jt1298 := (jt1298.trans htr1300).weak (J' := (fun t => ([9, 10, 100, 101, 200, 201] : List Nat).contains t)) (by intro t h; simp [rng] at h ⊢ <;> omega) rfl rfl
     replace hB1273 : Blk ρ1297 9 w1299 g1269 (.cells #[str y840.1.text, v1280, .int .i64 y840.1.n, .bool y840.1.is_, .int .i64 y840.1.e] 32 (0, 0)) := hB12731
     clear hB12731
     refine dj_next (l' := [(0, vops_0), (3, .pointer (some ⟨gd_3, 0, none⟩)), (4, .pointer (some ⟨gm_4, 0, none⟩)), (5, str last_5), (7, .pointer (some ⟨g1269, 0, none⟩)), (8, .pointer (some ⟨g1203, 0, none⟩)), (19, .int .i64 t_19), (20, .int .i64 t_20), (36, .agg #[str y852.1.text, v1292, .int .i64 y852.1.n, .bool y852.1.is_, .int .i64 y852.1.e])]) rfl (.cons rfl (.cons rfl (.cons rfl (.cons rfl (.cons rfl (.cons rfl (.cons rfl (.cons rfl (.cons rfl (.nil _)))))))))) jt1298 (by intro t h; simp [rng] at h ⊢ <;> omega) rfl rfl ?_
     refine dj_E 17 (by kernel_rfl) rfl ?_
     have jt1301 : Tr ρ1297 w1299 (fun t => ([9, 10, 100, 101, 200, 201] : List Nat).contains t) ρ1297 w1299 := (Tr.refl hb.bd).weak (fun _ _ => rfl) rfl rfl
     refine sr_storeT (v := .agg #[str y852.1.text, v1292, .int .i64 y852.1.n, .bool y852.1.is_, .int .i64 y852.1.e]) (vs := [str y852.1.text, v1292, .int .i64 y852.1.n, .bool y852.1.is_, .int .i64 y852.1.e]) (cs' := #[str y852.1.text, v1292, .int .i64 y852.1.n, .bool y852.1.is_, .int .i64 y852.1.e]) hB1207 (by decide) hb.bd rfl rfl rfl Tryz.sizeOf32 rfl (by first | rfl | (simp only [List.all_cons, List.all_nil, SlR.oneCell h1293]; done) | (simp only [List.all_cons, List.all_nil, SlR.oneCell h1293]; rfl)) rfl ?_
     intro w1302 hB12071 htr1303
     replace hops_0 := hops_0.mv htr1303.rd
     replace hB1273 := hB1273.mv (htr1303.mv (i := 9) rfl)
     replace h1281 := h1281.mv htr1303.rd
     replace h1293 := h1293.mv htr1303.rd
     replace hB1284 := hB1284.mv (htr1303.mv (i := 100) rfl)
     replace h1283 := h1283.mv (htr1303.mv (i := 101) rfl)
     replace hB1296 := hB1296.mv (htr1303.mv (i := 200) rfl)
     replace h1295 := h1295.mv (htr1303.mv (i := 201) rfl) (by decide)
     replace hb := hb.trans htr1303
     replace jt1301 := (jt1301.trans htr1303).weak (J' := (fun t => ([9, 10, 100, 101, 200, 201] : List Nat).contains t)) (by intro t h; simp [rng] at h ⊢ <;> omega) rfl rfl
     replace hB1207 : Blk ρ1297 10 w1302 g1203 (.cells #[str y852.1.text, v1292, .int .i64 y852.1.n, .bool y852.1.is_, .int .i64 y852.1.e] 32 (0, 0)) := hB12071
     clear hB12071
     refine dj_next (l' := [(0, vops_0), (3, .pointer (some ⟨gd_3, 0, none⟩)), (4, .pointer (some ⟨gm_4, 0, none⟩)), (5, str last_5), (7, .pointer (some ⟨g1269, 0, none⟩)), (8, .pointer (some ⟨g1203, 0, none⟩)), (19, .int .i64 t_19), (20, .int .i64 t_20)]) rfl (.cons rfl (.cons rfl (.cons rfl (.cons rfl (.cons rfl (.cons rfl (.cons rfl (.cons rfl (.nil _))))))))) jt1301 (by intro t h; simp [rng] at h ⊢ <;> omega) rfl rfl ?_
     refine dj_done rfl (by kernel_rfl) ?_
     refine ke_weaken (l' := [(0, vops_0), (3, .pointer (some ⟨gd_3, 0, none⟩)), (4, .pointer (some ⟨gm_4, 0, none⟩)), (5, str last_5), (7, .pointer (some ⟨g1269, 0, none⟩)), (8, .pointer (some ⟨g1203, 0, none⟩)), (19, .int .i64 t_19), (20, .int .i64 t_20)]) (.cons rfl (.cons rfl (.cons rfl (.cons rfl (.cons rfl (.cons rfl (.cons rfl (.cons rfl (.nil _))))))))) ?_
     have hK := law37_DeviceDoes_B2_ok hg hbd hz _ hr0 hS hb hops_0 ⟨_, hB1284, h1283⟩ ⟨_, hB1296, h1295⟩ h1281 hB1273 h1293 hB1207
     exact ke_weaken (l' := [(0, vops_0), (3, .pointer (some ⟨gd_3, 0, none⟩)), (4, .pointer (some ⟨gm_4, 0, none⟩)), (5, str last_5), (7, .pointer (some ⟨g1269, 0, none⟩)), (8, .pointer (some ⟨g1203, 0, none⟩)), (19, .int .i64 t_19), (20, .int .i64 t_20)]) (.cons rfl (.cons rfl (.cons rfl (.cons rfl (.cons rfl (.cons rfl (.cons rfl (.cons rfl (.nil _))))))))) hK
  ·replace hS := ite_false' hS hc48
   refine ke_exit (k' := _) rfl ?_
   refine ke_seq ?_
   refine ke_region ?_
   obtain ⟨y1304, hy1305, hS⟩ := bind_some' hS
   refine sr_call (vs := []) rfl Tryz.call6 rfl (law37_live_ok _ (hg.fr hz hb) (ρA := ρ) hb.bd (hz.fr hg hb) hy1305) (by decide) ?_
   rintro _ w1306 ⟨rfl, hbw1307⟩
   have htr1308 := Tr.of_below hbw1307 hb.bd
   replace hb := hb.trans htr1308
   refine sr_ev (v := .bool y1304) (ev_assign rfl) (by decide) ?_
   refine sr_end (l' := [(2, .bool y1304)]) (.cons rfl (.nil _)) ?_
   cases hS
   exact ke_ret1 Tryz.func3 rfl rfl ⟨_, rfl, rfl, (hb.below (flat1_le _))⟩
theorem law37_DeviceDoes_ok (w0 : World) (hg : Gs w0) {ρA : Tags} (hbd : ∀ b, ρA b ≠ 0 → b < w0.heap.size) (hz : Gz ρA) {ops_0 : List law37_Op} {v1 : Value} {r : Bool} (h2 : SlR law37_Op.c (Wb ρA) w0 v1 ops_0) (hS : law37_DeviceDoes ops_0 = some r) :
  Calls Tryz.prog 3 #[v1] w0 (Ret (fun v w' => v = .bool r ∧ Below w0.heap.size w0 w')) := by
 unfold law37_DeviceDoes at hS
 have hb := flat1_fr (ρ := ρA) (w := w0) hbd
 have hz := hz.flat1
 replace h2 := SlR.mv h2 flat1_rd
 refine calls_of_ke Tryz.func3 rfl (n := 78) rfl rfl (l := [(0, v1)]) rfl ?_
 refine ke_seq ?_
 refine ke_region ?_
 refine sr_ev (v := .bool false) (ev_assign rfl) (by decide) ?_
 refine sr_end (l' := [(0, v1)]) (.cons rfl (.nil _)) ?_
 refine ke_seq ?_
 refine ke_region ?_
 obtain ⟨y3, hy4, hS⟩ := bind_some' hS
 refine sr_call (vs := []) rfl Tryz.call4 rfl (device_New_ok _ (hg.fr hz hb) (ρA := (flat1 ρA)) hb.bd (hz.fr hg hb) (o := 100) (by decide) hy4) (by decide) ?_
 rintro _ w5 ⟨ρ12, g8, rfl, ⟨v9, hB11, h10⟩, htr7⟩
 replace h2 := h2.mv htr7.rd
 replace hb := hb.trans htr7
 replace hB11 : Blk ρ12 100 w5 g8 (.cells #[v9, .int .i64 y3.given] 41 (0, 0)) := hB11
 replace h10 : MapT device_key.ek device_record.c true ρ12 101 w5 v9 y3.records := h10
 refine sr_ev (v := .pointer (some ⟨g8, 0, none⟩)) (ev_assign rfl) (by decide) ?_
 refine sr_end (l' := [(0, v1), (3, .pointer (some ⟨g8, 0, none⟩))]) (.cons rfl (.cons rfl (.nil _))) ?_
 refine ke_seq ?_
 refine ke_seq ?_
 refine ke_region ?_
 refine sr_ev (v := v1) (ev_move rfl) (by decide) ?_
 obtain ⟨y13, hy14, hS⟩ := bind_some' hS
 refine sr_call (vs := [v1, .int .i64 20]) rfl Tryz.call5 rfl (law37_long_ok _ (hg.fr hz hb) (ρA := ρ12) hb.bd (hz.fr hg hb) h2 hy14) (by decide) ?_
 rintro _ w15 ⟨rfl, hbw16⟩
 have htr17 := Tr.of_below hbw16 hb.bd
 replace h2 := h2.mv htr17.rd
 replace hB11 := hB11.mv (htr17.mv (i := 100) rfl)
 replace h10 := h10.mv (htr17.mv (i := 101) rfl)
 replace hb := hb.trans htr17
 refine sr_ev (v := .bool y13) (ev_move rfl) (by decide) ?_
 refine sr_join (m := 3) (C := fun (x : Bool) w1 => x = (y13 || false) ∧ w15 = w1) (l' := fun x => [(0, v1), (3, .pointer (some ⟨g8, 0, none⟩)), (15, .bool x)]) ?_ ?_
 ·rintro _ _ ⟨rfl, rfl⟩
  refine sr_end (l' := [(0, v1), (3, .pointer (some ⟨g8, 0, none⟩)), (15, .bool (y13 || false))]) (.cons rfl (.cons rfl (.cons rfl (.nil _)))) ?_
  refine ke_cond (t := y13 || false) rfl (fun hc26 => ?_) (fun hc26 => ?_)
  ·replace hS := ite_true' hS hc26
   refine ke_seq ?_
   refine ke_region ?_
   obtain ⟨y27, hy28, hS⟩ := bind_some' hS
   refine sr_call (vs := []) rfl Tryz.call6 rfl (law37_live_ok _ (hg.fr hz hb) (ρA := ρ12) hb.bd (hz.fr hg hb) hy28) (by decide) ?_
   rintro _ w29 ⟨rfl, hbw30⟩
   have htr31 := Tr.of_below hbw30 hb.bd
   replace hb := hb.trans htr31
   refine sr_ev (v := .bool y27) (ev_assign rfl) (by decide) ?_
   refine sr_end (l' := [(2, .bool y27)]) (.cons rfl (.nil _)) ?_
   cases hS
   exact ke_ret1 Tryz.func3 rfl rfl ⟨_, rfl, rfl, (hb.below (flat1_le _))⟩
  ·replace hS := ite_false' hS hc26
   refine ke_skip ?_
   refine ke_seq ?_
   refine ke_region ?_
   obtain ⟨y32, hy33, hS⟩ := bind_some' hS
   refine sr_call (vs := []) rfl Tryz.call7 rfl (ref37_New_ok _ (hg.fr hz hb) (ρA := ρ12) hb.bd (hz.fr hg hb) (o := 200) (by decide) hy33) (by decide) ?_
   rintro _ w34 ⟨ρ41, g37, rfl, ⟨v38, hB40, h39⟩, htr36⟩
   replace h2 := h2.mv htr36.rd
   replace hB11 := hB11.mv (htr36.mv (i := 100) rfl)
   replace h10 := h10.mv (htr36.mv (i := 101) rfl)
   replace hb := hb.trans htr36
   replace hB40 : Blk ρ41 200 w34 g37 (.cells #[v38, .int .i64 y32.N] 55 (0, 0)) := hB40
   replace h39 : OwnT ref37_Device.c 70 ρ41 201 w34 v38 y32.L := h39
   refine sr_ev (v := .pointer (some ⟨g37, 0, none⟩)) (ev_assign rfl) (by decide) ?_
   refine sr_end (l' := [(0, v1), (3, .pointer (some ⟨g8, 0, none⟩)), (4, .pointer (some ⟨g37, 0, none⟩))]) (.cons rfl (.cons rfl (.cons rfl (.nil _)))) ?_
   refine ke_seq ?_
   refine ke_region ?_
   refine sr_ev (v := str ([])) (ev_assign rfl) (by decide) ?_
   refine sr_end (l' := [(0, v1), (3, .pointer (some ⟨g8, 0, none⟩)), (4, .pointer (some ⟨g37, 0, none⟩)), (5, str ([]))]) (.cons rfl (.cons rfl (.cons rfl (.cons rfl (.nil _))))) ?_
   refine ke_seq ?_
   refine ke_seq ?_
   refine ke_region ?_
   refine sr_ev (v := v1) (ev_move rfl) (by decide) ?_
   refine sr_ev (v := .int .i64 (ops_0.length : Int)) (ev_sllen Tryz.underlying22 rfl h2.asSl) (by decide) ?_
   refine sr_ev (v := .int .i64 0) (ev_move rfl) (by decide) ?_
   refine sr_end (l' := [(0, v1), (3, .pointer (some ⟨g8, 0, none⟩)), (4, .pointer (some ⟨g37, 0, none⟩)), (5, str ([])), (19, .int .i64 (ops_0.length : Int)), (20, .int .i64 0)]) (.cons rfl (.cons rfl (.cons rfl (.cons rfl (.cons rfl (.cons rfl (.nil _))))))) ?_
   refine ke_block ?_
   have hK := law37_DeviceDoes_L1_ok hg hbd hz _ hS hb h2 ⟨_, hB11, h10⟩ ⟨_, hB40, h39⟩
   exact ke_weaken (l' := [(0, v1), (3, .pointer (some ⟨g8, 0, none⟩)), (4, .pointer (some ⟨g37, 0, none⟩)), (5, str ([])), (19, .int .i64 (ops_0.length : Int)), (20, .int .i64 0)]) (.cons rfl (.cons rfl (.cons rfl (.cons rfl (.cons rfl (.cons rfl (.nil _))))))) (ke_loop hK)
 ·intro K19
  rcases Bool.eq_false_or_eq_true y13 with hg18 | hg18
  all_goals try have hj21 : Tr ρ12 w15 (fun _ => false) ρ12 w15 := Tr.refl hb.bd
  ·refine sr_pass (e := 12) rfl rfl (by rw [hg18]; rfl) (by decide) ?_
   refine sr_pass (e := 12) rfl rfl (by rw [hg18]; rfl) (by decide) ?_
   refine sr_ev (v := .bool true) (ev_pick_t rfl hg18 rfl) (by decide) ?_
   exact sr_weaken (l' := [(0, v1), (3, .pointer (some ⟨g8, 0, none⟩)), (15, .bool true)]) (.cons rfl (.cons rfl (.cons rfl (.nil _)))) (K19 true _ ⟨by rw [hg18]; rfl, rfl⟩)
  ·refine sr_evg (b := false) (e := 12) rfl rfl hg18 (v := .pointer (some ⟨g8, 0, none⟩)) (ev_move rfl) (by decide) ?_
   refine sr_evg (b := false) (e := 12) rfl rfl hg18 (v := .bool false) (ev_peqT_some Tryz.underlying23 rfl rfl) (by decide) ?_
   refine sr_ev (v := .bool false) (ev_pick_f rfl hg18 rfl) (by decide) ?_
   exact sr_weaken (l' := [(0, v1), (3, .pointer (some ⟨g8, 0, none⟩)), (15, .bool false)]) (.cons rfl (.cons rfl (.cons rfl (.nil _)))) (K19 false _ ⟨by rw [hg18]; rfl, rfl⟩)
end YtangcaaneobhnaaGreatDoor
end Go.Proofs
