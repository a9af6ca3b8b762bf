/- Own work: a part of the proofs of this seat. -/
import Derived.Test.YtijiipelpgmhpaaProg
import Derived.Test.YtijiipelpgmhpaaShelf
import Derived.Test.YtijiipelpgmhpaaKwIS
import Derived.KernelRfl
import Derived.Test.YtijiipelpgmhpaaKwIConsentLimitsW1
set_option linter.unusedVariables false
set_option linter.unusedSimpArgs false
set_option linter.unusedSectionVars false
set_option maxHeartbeats 8000000
set_option maxRecDepth 8000
namespace Go.Proofs
namespace Ytijiipelpgmhpaa
open Go Go.KW Go.KW.S Go.RowKit
theorem law32_awake_ok (w0 : World) (hg : Gs w0) {ρA : Tags} (hbd : ∀ b, ρA b ≠ 0 → b < w0.heap.size) (hz : Gz ρA) {r : Bool} (hS : law32_awake = some r) :
  Calls Try.prog 9 #[] w0 (Ret (fun v w' => v = .bool r ∧ Below w0.heap.size w0 w')) := by
 unfold law32_awake at hS
 have hb := flat1_fr (ρ := ρA) (w := w0) hbd
 have hz := hz.flat1
 refine calls_of_ke Try.func9 rfl (n := 87) rfl rfl (l := []) rfl ?_
 refine ke_seq ?_
 refine ke_region ?_
 refine sr_ev (v := .bool false) (ev_assign rfl) (by decide) ?_
 refine sr_end (l' := []) (.nil _) ?_
 refine ke_seq ?_
 refine ke_region ?_
 obtain ⟨y1, hy2, hS⟩ := bind_some' hS
 refine sr_call (vs := []) rfl Try.call10 rfl (consent_New_ok _ (hg.fr hz hb) (ρA := (flat1 ρA)) hb.bd (hz.fr hg hb) (o := 100) (by decide) hy2) (by decide) ?_
 rintro _ w3 ⟨ρ10, g6, rfl, ⟨v7, hB9, h8⟩, htr5⟩
 replace hb := hb.trans htr5
 replace hB9 : Blk ρ10 100 w3 g6 (.cells #[v7] 52 (0, 0)) := hB9
 replace h8 : MapT consent_pair.ek (mapC str (intC .i64) false) false ρ10 101 w3 v7 y1.pairs := h8
 refine sr_ev (v := .pointer (some ⟨g6, 0, none⟩)) (ev_assign rfl) (by decide) ?_
 refine sr_end (l' := [(1, .pointer (some ⟨g6, 0, none⟩))]) (.cons rfl (.nil _)) ?_
 refine ke_seq ?_
 refine ke_seq ?_
 refine ke_region ?_
 refine sr_ev (v := .pointer (some ⟨g6, 0, none⟩)) (ev_move rfl) (by decide) ?_
 refine sr_ev (v := .bool false) (ev_peqT_some Try.underlying25 rfl rfl) (by decide) ?_
 refine sr_end (l' := [(1, .pointer (some ⟨g6, 0, none⟩)), (13, .bool false)]) (.cons rfl (.cons rfl (.nil _))) ?_
 refine ke_cond (t := false) rfl (fun h => by cases h) (fun _ => ?_)
 refine ke_skip ?_
 refine ke_seq ?_
 refine ke_region ?_
 refine sr_ev (v := .pointer (some ⟨g6, 0, none⟩)) (ev_move rfl) (by decide) ?_
 refine sr_litT (c := strC) (ρ := ρ10) (E := 9) (xs := [[109, 97, 105, 108]]) (vs := #[(0, str ([109, 97, 105, 108]))]) (cs := #[str ([109, 97, 105, 108])]) (css := [[str ([109, 97, 105, 108])]]) rfl (fun _ => by kernel_rfl) rfl ⟨rfl, trivial⟩ rfl (by decide) hb.bd (by decide) ?_
 intro v11 w13 h12 hbw15
 have htr14 := Tr.of_below hbw15 hb.bd
 replace hB9 := hB9.mv (htr14.mv (i := 100) rfl)
 replace h8 := h8.mv (htr14.mv (i := 101) rfl)
 replace hb := hb.trans htr14
 obtain ⟨y16, hy17, hS⟩ := bind_some' hS
 refine sr_call (vs := [.pointer (some ⟨g6, 0, none⟩), str ([97, 110, 110]), str ([119, 101, 98]), v11, .int .i64 10, .int .i64 0]) rfl Try.call21 rfl (consent_Consents_Grant_ok _ (hg.fr hz hb) (ρA := ρ10) hb.bd (hz.fr hg hb) (o := 100) (by decide) h12 (⟨_, hB9, h8⟩ : consent_Consents.O (fun p => 100 + p) ρ10 w13 g6 y1) hy17) (by decide) ?_
 rintro _ w18 ⟨ρ24, rfl, ⟨v21, hB23, h22⟩, htr20⟩
 replace hb := hb.trans htr20
 replace hB23 : Blk ρ24 100 w18 g6 (.cells #[v21] 52 (0, 0)) := hB23
 replace h22 : MapT consent_pair.ek (mapC str (intC .i64) false) false ρ24 101 w18 v21 y16.2.pairs := h22
 refine sr_ev (v := .int .i64 y16.1) (ev_assign rfl) (by decide) ?_
 refine sr_end (l' := [(1, .pointer (some ⟨g6, 0, none⟩)), (2, .int .i64 y16.1)]) (.cons rfl (.cons rfl (.nil _))) ?_
 refine ke_seq ?_
 refine ke_region ?_
 refine sr_ev (v := .pointer (some ⟨g6, 0, none⟩)) (ev_move rfl) (by decide) ?_
 refine sr_litT (c := strC) (ρ := ρ24) (E := 9) (xs := [[109, 97, 105, 108]]) (vs := #[(0, str ([109, 97, 105, 108]))]) (cs := #[str ([109, 97, 105, 108])]) (css := [[str ([109, 97, 105, 108])]]) rfl (fun _ => by kernel_rfl) rfl ⟨rfl, trivial⟩ rfl (by decide) hb.bd (by decide) ?_
 intro v25 w27 h26 hbw29
 have htr28 := Tr.of_below hbw29 hb.bd
 replace hB23 := hB23.mv (htr28.mv (i := 100) rfl)
 replace h22 := h22.mv (htr28.mv (i := 101) rfl)
 replace hb := hb.trans htr28
 obtain ⟨y30, hy31, hS⟩ := bind_some' hS
 refine sr_call (vs := [.pointer (some ⟨g6, 0, none⟩), str ([97, 110, 110]), str ([119, 101, 98]), v25, .int .i64 5, .int .i64 0]) rfl Try.call21 rfl (consent_Consents_Grant_ok _ (hg.fr hz hb) (ρA := ρ24) hb.bd (hz.fr hg hb) (o := 100) (by decide) h26 (⟨_, hB23, h22⟩ : consent_Consents.O (fun p => 100 + p) ρ24 w27 g6 y16.2) hy31) (by decide) ?_
 rintro _ w32 ⟨ρ38, rfl, ⟨v35, hB37, h36⟩, htr34⟩
 replace hb := hb.trans htr34
 replace hB37 : Blk ρ38 100 w32 g6 (.cells #[v35] 52 (0, 0)) := hB37
 replace h36 : MapT consent_pair.ek (mapC str (intC .i64) false) false ρ38 101 w32 v35 y30.2.pairs := h36
 refine sr_ev (v := .int .i64 y30.1) (ev_assign rfl) (by decide) ?_
 refine sr_end (l' := [(1, .pointer (some ⟨g6, 0, none⟩)), (2, .int .i64 y16.1), (3, .int .i64 y30.1)]) (.cons rfl (.cons rfl (.cons rfl (.nil _)))) ?_
 refine ke_seq ?_
 refine ke_region ?_
 refine sr_ev (v := .pointer (some ⟨g6, 0, none⟩)) (ev_move rfl) (by decide) ?_
 refine sr_litT (c := strC) (ρ := ρ38) (E := 9) (xs := [[97]]) (vs := #[(0, str ([97]))]) (cs := #[str ([97])]) (css := [[str ([97])]]) rfl (fun _ => by kernel_rfl) rfl ⟨rfl, trivial⟩ rfl (by decide) hb.bd (by decide) ?_
 intro v39 w41 h40 hbw43
 have htr42 := Tr.of_below hbw43 hb.bd
 replace hB37 := hB37.mv (htr42.mv (i := 100) rfl)
 replace h36 := h36.mv (htr42.mv (i := 101) rfl)
 replace hb := hb.trans htr42
 obtain ⟨y44, hy45, hS⟩ := bind_some' hS
 refine sr_call (vs := [.pointer (some ⟨g6, 0, none⟩), str ([97, 110, 110]), str ([97, 112, 112]), v39, .int .i64 3, .int .i64 3]) rfl Try.call21 rfl (consent_Consents_Grant_ok _ (hg.fr hz hb) (ρA := ρ38) hb.bd (hz.fr hg hb) (o := 100) (by decide) h40 (⟨_, hB37, h36⟩ : consent_Consents.O (fun p => 100 + p) ρ38 w41 g6 y30.2) hy45) (by decide) ?_
 rintro _ w46 ⟨ρ52, rfl, ⟨v49, hB51, h50⟩, htr48⟩
 replace hb := hb.trans htr48
 replace hB51 : Blk ρ52 100 w46 g6 (.cells #[v49] 52 (0, 0)) := hB51
 replace h50 : MapT consent_pair.ek (mapC str (intC .i64) false) false ρ52 101 w46 v49 y44.2.pairs := h50
 refine sr_ev (v := .int .i64 y44.1) (ev_assign rfl) (by decide) ?_
 refine sr_end (l' := [(1, .pointer (some ⟨g6, 0, none⟩)), (2, .int .i64 y16.1), (3, .int .i64 y30.1), (4, .int .i64 y44.1)]) (.cons rfl (.cons rfl (.cons rfl (.cons rfl (.nil _))))) ?_
 refine ke_seq ?_
 refine ke_region ?_
 refine sr_ev (v := .pointer (some ⟨g6, 0, none⟩)) (ev_move rfl) (by decide) ?_
 obtain ⟨y53, hy54, hS⟩ := bind_some' hS
 refine sr_call (vs := [.pointer (some ⟨g6, 0, none⟩), str ([97, 110, 110]), str ([119, 101, 98]), .int .i64 9]) rfl Try.call17 rfl (consent_Consents_Scopes_ok _ (hg.fr hz hb) (ρA := ρ52) hb.bd (hz.fr hg hb) (τ0 := (fun p => 100 + p)) (fun p => Nat.le_add_right_of_le (by decide)) (⟨_, hB51, h50⟩ : consent_Consents.O (fun p => 100 + p) ρ52 w46 g6 y44.2) hy54) (by decide) ?_
 rintro v58 w55 ⟨_, rfl, h59, hbw56⟩
 have htr57 := Tr.of_below hbw56 hb.bd
 replace hB51 := hB51.mv (htr57.mv (i := 100) rfl)
 replace h50 := h50.mv (htr57.mv (i := 101) rfl)
 replace hb := hb.trans htr57
 refine sr_ev (v := v58) (ev_assign rfl) (by decide) ?_
 refine sr_end (l' := [(1, .pointer (some ⟨g6, 0, none⟩)), (2, .int .i64 y16.1), (3, .int .i64 y30.1), (4, .int .i64 y44.1), (5, v58)]) (.cons rfl (.cons rfl (.cons rfl (.cons rfl (.cons rfl (.nil _)))))) ?_
 refine ke_seq ?_
 refine ke_region ?_
 refine sr_ev (v := .pointer (some ⟨g6, 0, none⟩)) (ev_move rfl) (by decide) ?_
 refine sr_litT (c := strC) (ρ := ρ52) (E := 9) (xs := [[109, 97, 105, 108, 46, 114, 101, 97, 100]]) (vs := #[(0, str ([109, 97, 105, 108, 46, 114, 101, 97, 100]))]) (cs := #[str ([109, 97, 105, 108, 46, 114, 101, 97, 100])]) (css := [[str ([109, 97, 105, 108, 46, 114, 101, 97, 100])]]) rfl (fun _ => by kernel_rfl) rfl ⟨rfl, trivial⟩ rfl (by decide) hb.bd (by decide) ?_
 intro v60 w62 h61 hbw64
 have htr63 := Tr.of_below hbw64 hb.bd
 replace h59 := h59.mv htr63.rd
 replace hB51 := hB51.mv (htr63.mv (i := 100) rfl)
 replace h50 := h50.mv (htr63.mv (i := 101) rfl)
 replace hb := hb.trans htr63
 obtain ⟨y65, hy66, hS⟩ := bind_some' hS
 refine sr_call (vs := [.pointer (some ⟨g6, 0, none⟩), str ([97, 110, 110]), str ([119, 101, 98]), v60, .int .i64 9]) rfl Try.call25 rfl (consent_Consents_Covers_ok _ (hg.fr hz hb) (ρA := ρ52) hb.bd (hz.fr hg hb) (τ0 := (fun p => 100 + p)) (fun p => Nat.le_add_right_of_le (by decide)) h61 (⟨_, hB51, h50⟩ : consent_Consents.O (fun p => 100 + p) ρ52 w62 g6 y44.2) hy66) (by decide) ?_
 rintro _ w67 ⟨rfl, hbw68⟩
 have htr69 := Tr.of_below hbw68 hb.bd
 replace h59 := h59.mv htr69.rd
 replace hB51 := hB51.mv (htr69.mv (i := 100) rfl)
 replace h50 := h50.mv (htr69.mv (i := 101) rfl)
 replace hb := hb.trans htr69
 refine sr_ev (v := .bool y65) (ev_assign rfl) (by decide) ?_
 refine sr_end (l' := [(1, .pointer (some ⟨g6, 0, none⟩)), (2, .int .i64 y16.1), (3, .int .i64 y30.1), (4, .int .i64 y44.1), (5, v58), (6, .bool y65)]) (.cons rfl (.cons rfl (.cons rfl (.cons rfl (.cons rfl (.cons rfl (.nil _))))))) ?_
 refine ke_seq ?_
 refine ke_region ?_
 refine sr_ev (v := .pointer (some ⟨g6, 0, none⟩)) (ev_move rfl) (by decide) ?_
 refine sr_litT (c := strC) (ρ := ρ52) (E := 9) (xs := [[109, 97, 105, 108, 46, 114, 101, 97, 100]]) (vs := #[(0, str ([109, 97, 105, 108, 46, 114, 101, 97, 100]))]) (cs := #[str ([109, 97, 105, 108, 46, 114, 101, 97, 100])]) (css := [[str ([109, 97, 105, 108, 46, 114, 101, 97, 100])]]) rfl (fun _ => by kernel_rfl) rfl ⟨rfl, trivial⟩ rfl (by decide) hb.bd (by decide) ?_
 intro v70 w72 h71 hbw74
 have htr73 := Tr.of_below hbw74 hb.bd
 replace h59 := h59.mv htr73.rd
 replace hB51 := hB51.mv (htr73.mv (i := 100) rfl)
 replace h50 := h50.mv (htr73.mv (i := 101) rfl)
 replace hb := hb.trans htr73
 obtain ⟨y75, hy76, hS⟩ := bind_some' hS
 refine sr_call (vs := [.pointer (some ⟨g6, 0, none⟩), str ([97, 110, 110]), str ([119, 101, 98]), v70, .int .i64 10]) rfl Try.call25 rfl (consent_Consents_Covers_ok _ (hg.fr hz hb) (ρA := ρ52) hb.bd (hz.fr hg hb) (τ0 := (fun p => 100 + p)) (fun p => Nat.le_add_right_of_le (by decide)) h71 (⟨_, hB51, h50⟩ : consent_Consents.O (fun p => 100 + p) ρ52 w72 g6 y44.2) hy76) (by decide) ?_
 rintro _ w77 ⟨rfl, hbw78⟩
 have htr79 := Tr.of_below hbw78 hb.bd
 replace h59 := h59.mv htr79.rd
 replace hB51 := hB51.mv (htr79.mv (i := 100) rfl)
 replace h50 := h50.mv (htr79.mv (i := 101) rfl)
 replace hb := hb.trans htr79
 refine sr_ev (v := .bool y75) (ev_assign rfl) (by decide) ?_
 refine sr_end (l' := [(1, .pointer (some ⟨g6, 0, none⟩)), (2, .int .i64 y16.1), (3, .int .i64 y30.1), (4, .int .i64 y44.1), (5, v58), (6, .bool y65), (7, .bool y75)]) (.cons rfl (.cons rfl (.cons rfl (.cons rfl (.cons rfl (.cons rfl (.cons rfl (.nil _)))))))) ?_
 refine ke_seq ?_
 refine ke_region ?_
 refine sr_ev (v := .pointer (some ⟨g6, 0, none⟩)) (ev_move rfl) (by decide) ?_
 obtain ⟨y80, hy81, hS⟩ := bind_some' hS
 refine sr_call (vs := [.pointer (some ⟨g6, 0, none⟩), str ([97, 110, 110]), .int .i64 9]) rfl Try.call19 rfl (consent_Consents_Clients_ok _ (hg.fr hz hb) (ρA := ρ52) hb.bd (hz.fr hg hb) (τ0 := (fun p => 100 + p)) (fun p => Nat.le_add_right_of_le (by decide)) (⟨_, hB51, h50⟩ : consent_Consents.O (fun p => 100 + p) ρ52 w77 g6 y44.2) hy81) (by decide) ?_
 rintro v85 w82 ⟨_, rfl, h86, hbw83⟩
 have htr84 := Tr.of_below hbw83 hb.bd
 replace h59 := h59.mv htr84.rd
 replace hB51 := hB51.mv (htr84.mv (i := 100) rfl)
 replace h50 := h50.mv (htr84.mv (i := 101) rfl)
 replace hb := hb.trans htr84
 refine sr_ev (v := v85) (ev_assign rfl) (by decide) ?_
 refine sr_end (l' := [(1, .pointer (some ⟨g6, 0, none⟩)), (2, .int .i64 y16.1), (3, .int .i64 y30.1), (4, .int .i64 y44.1), (5, v58), (6, .bool y65), (7, .bool y75), (8, v85)]) (.cons rfl (.cons rfl (.cons rfl (.cons rfl (.cons rfl (.cons rfl (.cons rfl (.cons rfl (.nil _))))))))) ?_
 refine ke_seq ?_
 refine ke_region ?_
 refine sr_ev (v := .pointer (some ⟨g6, 0, none⟩)) (ev_move rfl) (by decide) ?_
 obtain ⟨y87, hy88, hS⟩ := bind_some' hS
 refine sr_call (vs := [.pointer (some ⟨g6, 0, none⟩), str ([97, 110, 110])]) rfl Try.call27 rfl (consent_Consents_Drop_ok _ (hg.fr hz hb) (ρA := ρ52) hb.bd (hz.fr hg hb) (o := 100) (by decide) (⟨_, hB51, h50⟩ : consent_Consents.O (fun p => 100 + p) ρ52 w82 g6 y44.2) hy88) (by decide) ?_
 rintro _ w89 ⟨ρ95, rfl, ⟨v92, hB94, h93⟩, htr91⟩
 replace h59 := h59.mv htr91.rd
 replace h86 := h86.mv htr91.rd
 replace hb := hb.trans htr91
 replace hB94 : Blk ρ95 100 w89 g6 (.cells #[v92] 52 (0, 0)) := hB94
 replace h93 : MapT consent_pair.ek (mapC str (intC .i64) false) false ρ95 101 w89 v92 y87.2.pairs := h93
 refine sr_ev (v := .int .i64 y87.1) (ev_assign rfl) (by decide) ?_
 refine sr_end (l' := [(1, .pointer (some ⟨g6, 0, none⟩)), (2, .int .i64 y16.1), (3, .int .i64 y30.1), (4, .int .i64 y44.1), (5, v58), (6, .bool y65), (7, .bool y75), (8, v85), (9, .int .i64 y87.1)]) (.cons rfl (.cons rfl (.cons rfl (.cons rfl (.cons rfl (.cons rfl (.cons rfl (.cons rfl (.cons rfl (.nil _)))))))))) ?_
 refine ke_seq ?_
 refine ke_region ?_
 refine sr_ev (v := .pointer none) (ev_assign rfl) (by decide) ?_
 refine sr_end (l' := [(1, .pointer (some ⟨g6, 0, none⟩)), (2, .int .i64 y16.1), (3, .int .i64 y30.1), (4, .int .i64 y44.1), (5, v58), (6, .bool y65), (7, .bool y75), (8, v85), (9, .int .i64 y87.1), (10, .pointer none)]) (.cons rfl (.cons rfl (.cons rfl (.cons rfl (.cons rfl (.cons rfl (.cons rfl (.cons rfl (.cons rfl (.cons rfl (.nil _))))))))))) ?_
 refine ke_seq ?_
 refine ke_region ?_
 refine sr_ev (v := .int .i64 y16.1) (ev_move rfl) (by decide) ?_
 refine sr_ev (v := .bool (y16.1 == 0)) (ev_eq rfl rfl) (by decide) ?_
 refine sr_ev (v := .bool (y16.1 == 0)) (ev_move rfl) (by decide) ?_
 refine sr_join (m := 3) (C := fun (x : Bool) w1 => x = ((y16.1 == 0) && (y30.1 == 0)) ∧ w89 = w1) (l' := fun x => [(1, .pointer (some ⟨g6, 0, none⟩)), (4, .int .i64 y44.1), (5, v58), (6, .bool y65), (7, .bool y75), (8, v85), (9, .int .i64 y87.1), (10, .pointer none), (40, .bool x)]) ?_ ?_
 ·rintro _ _ ⟨rfl, rfl⟩
  refine sr_ev (v := .bool ((y16.1 == 0) && (y30.1 == 0))) (ev_move rfl) (by decide) ?_
  refine sr_join (m := 3) (C := fun (x : Bool) w1 => x = (((y16.1 == 0) && (y30.1 == 0)) && (y44.1 == 13)) ∧ w89 = w1) (l' := fun x => [(1, .pointer (some ⟨g6, 0, none⟩)), (5, v58), (6, .bool y65), (7, .bool y75), (8, v85), (9, .int .i64 y87.1), (10, .pointer none), (44, .bool x)]) ?_ ?_
  ·rintro _ _ ⟨rfl, rfl⟩
   refine sr_ev (v := .bool (((y16.1 == 0) && (y30.1 == 0)) && (y44.1 == 13))) (ev_move rfl) (by decide) ?_
   obtain ⟨z114, hz116, hS⟩ := bind_some' hS
   refine sr_join (m := 4) (C := fun (z : Bool) w1 => z114 = z ∧ ∃ ρ1, Tr ρ95 w89 (fun _ => false) ρ1 w1) (l' := fun z => [(1, .pointer (some ⟨g6, 0, none⟩)), (6, .bool y65), (7, .bool y75), (8, v85), (9, .int .i64 y87.1), (10, .pointer none), (49, .bool z)]) ?_ ?_
   ·rintro _ w117 ⟨rfl, ρ118, hj115⟩
    replace h86 := h86.mv hj115.rd
    replace hB94 := hB94.mv (hj115.mv (i := 100) rfl)
    replace h93 := h93.mv (hj115.mv (i := 101) rfl)
    replace hb := hb.trans hj115
    refine sr_ev (v := .bool z114) (ev_move rfl) (by decide) ?_
    refine sr_join (m := 2) (C := fun (x : Bool) w1 => x = (z114 && y65) ∧ w117 = w1) (l' := fun x => [(1, .pointer (some ⟨g6, 0, none⟩)), (7, .bool y75), (8, v85), (9, .int .i64 y87.1), (10, .pointer none), (52, .bool x)]) ?_ ?_
    ·rintro _ _ ⟨rfl, rfl⟩
     refine sr_ev (v := .bool (z114 && y65)) (ev_move rfl) (by decide) ?_
     refine sr_join (m := 3) (C := fun (x : Bool) w1 => x = ((z114 && y65) && (!y75)) ∧ w117 = w1) (l' := fun x => [(1, .pointer (some ⟨g6, 0, none⟩)), (8, v85), (9, .int .i64 y87.1), (10, .pointer none), (56, .bool x)]) ?_ ?_
     ·rintro _ _ ⟨rfl, rfl⟩
      refine sr_ev (v := .bool ((z114 && y65) && (!y75))) (ev_move rfl) (by decide) ?_
      obtain ⟨z148, hz150, hS⟩ := bind_some' hS
      refine sr_join (m := 4) (C := fun (z : Bool) w1 => z148 = z ∧ ∃ ρ1, Tr ρ118 w117 (fun _ => false) ρ1 w1) (l' := fun z => [(1, .pointer (some ⟨g6, 0, none⟩)), (9, .int .i64 y87.1), (10, .pointer none), (61, .bool z)]) ?_ ?_
      ·rintro _ w151 ⟨rfl, ρ152, hj149⟩
       replace hB94 := hB94.mv (hj149.mv (i := 100) rfl)
       replace h93 := h93.mv (hj149.mv (i := 101) rfl)
       replace hb := hb.trans hj149
       refine sr_ev (v := .bool z148) (ev_move rfl) (by decide) ?_
       refine sr_join (m := 3) (C := fun (x : Bool) w1 => x = (z148 && (y87.1 == 1)) ∧ w151 = w1) (l' := fun x => [(1, .pointer (some ⟨g6, 0, none⟩)), (10, .pointer none), (65, .bool x)]) ?_ ?_
       ·rintro _ _ ⟨rfl, rfl⟩
        refine sr_ev (v := .bool (z148 && (y87.1 == 1))) (ev_move rfl) (by decide) ?_
        obtain ⟨z174, hz176, hS⟩ := bind_some' hS
        refine sr_join (m := 4) (C := fun (z : Bool) w1 => z174 = z ∧ ∃ ρ1, Tr ρ152 w151 (fun _ => false) ρ1 w1) (l' := fun z => [(1, .pointer (some ⟨g6, 0, none⟩)), (10, .pointer none), (70, .bool z)]) ?_ ?_
        ·rintro _ w177 ⟨rfl, ρ178, hj175⟩
         replace hB94 := hB94.mv (hj175.mv (i := 100) rfl)
         replace h93 := h93.mv (hj175.mv (i := 101) rfl)
         replace hb := hb.trans hj175
         refine sr_ev (v := .bool z174) (ev_move rfl) (by decide) ?_
         obtain ⟨z187, hz189, hS⟩ := bind_some' hS
         refine sr_join (m := 4) (C := fun (z : Bool × consent_Consents) w1 => z187 = z ∧ ∃ ρ1, consent_Consents.O (fun p => 100 + p) ρ1 w1 g6 z.2 ∧ Tr ρ178 w177 (fun t => ([100, 101] : List Nat).contains t) ρ1 w1) (l' := fun z => [(10, .pointer none), (75, .bool z.1)]) ?_ ?_
         ·rintro _ w190 ⟨rfl, ρ191, ⟨v202, hB204, h203⟩, hj188⟩
          replace hb := hb.trans hj188
          replace hB204 : Blk ρ191 100 w190 g6 (.cells #[v202] 52 (0, 0)) := hB204
          replace h203 : MapT consent_pair.ek (mapC str (intC .i64) false) false ρ191 101 w190 v202 z187.2.pairs := h203
          refine sr_ev (v := .bool z187.1) (ev_move rfl) (by decide) ?_
          obtain ⟨z207, hz209, hS⟩ := bind_some' hS
          refine sr_join (m := 5) (C := fun (z : Bool) w1 => z207 = z ∧ ∃ ρ1, Tr ρ191 w190 (fun _ => false) ρ1 w1) (l' := fun z => [(10, .pointer none), (81, .bool z)]) ?_ ?_
          ·rintro _ w210 ⟨rfl, ρ211, hj208⟩
           replace hb := hb.trans hj208
           refine sr_ev (v := .bool z207) (ev_move rfl) (by decide) ?_
           obtain ⟨z225, hz227, hS⟩ := bind_some' hS
           refine sr_join (m := 4) (C := fun (z : Bool) w1 => z225 = z ∧ ∃ ρ1, Tr ρ211 w210 (fun _ => false) ρ1 w1) (l' := fun z => [(86, .bool z)]) ?_ ?_
           ·rintro _ w228 ⟨rfl, ρ229, hj226⟩
            replace hb := hb.trans hj226
            refine sr_ev (v := .bool z225) (ev_assign rfl) (by decide) ?_
            refine sr_end (l' := [(0, .bool z225)]) (.cons rfl (.nil _)) ?_
            cases hS
            exact ke_ret1 Try.func9 rfl rfl ⟨_, rfl, rfl, (hb.below (flat1_le _))⟩
           ·intro K224
            clear hS
            have hj226 : Tr ρ211 w210 (fun _ => false) ρ211 w210 := (Tr.refl hb.bd).weak (fun _ _ => rfl) rfl rfl
            rcases Bool.eq_false_or_eq_true z207 with hg223 | hg223
            ·have hS := ite_true' hz227 hg223
             refine sr_evg (b := true) (e := 82) rfl rfl hg223 (v := .pointer none) (ev_move rfl) (by decide) ?_
             obtain ⟨y231, hy232, hS⟩ := bind_some' hS
             obtain rfl : y231 = false := (Option.some.inj hy232).symm
             refine sr_callg (b := true) (e := 82) rfl rfl hg223 (vs := [.pointer none, str ([97, 110, 110]), str ([119, 101, 98]), (.slice none 0 0), .int .i64 0]) rfl Try.call25 rfl (consent_Consents_Covers__nil_ok _ (hg.fr hz hb) (ρA := ρ211) hb.bd (hz.fr hg hb) (SlR.nil (A := Wb ρ211)) hy232) (by decide) ?_
             rintro _ w233 ⟨rfl, hbw234⟩
             have htr235 := Tr.of_below hbw234 hb.bd
             replace hb := hb.trans htr235
             replace hj226 := (hj226.trans htr235).weak (J' := (fun _ => false)) (by intro t h; simp [rng] at h ⊢ <;> omega) rfl rfl
             refine sr_evg (b := true) (e := 82) rfl rfl hg223 (v := .bool true) (ev_notc rfl rfl) (by decide) ?_
             refine sr_ev (v := .bool true) (ev_pick_t rfl hg223 rfl) (by decide) ?_
             exact sr_weaken (l' := [(86, .bool true)]) (.cons rfl (.nil _)) (K224 true _ ⟨(Option.some.inj hS).symm, _, hj226⟩)
            ·have hS := ite_false' hz227 hg223
             refine sr_pass (e := 82) rfl rfl (by rw [hg223]; rfl) (by decide) ?_
             refine sr_pass (e := 82) rfl rfl (by rw [hg223]; rfl) (by decide) ?_
             refine sr_pass (e := 82) rfl rfl (by rw [hg223]; rfl) (by decide) ?_
             refine sr_ev (v := .bool false) (ev_pick_f rfl hg223 rfl) (by decide) ?_
             exact sr_weaken (l' := [(86, .bool false)]) (.cons rfl (.nil _)) (K224 false _ ⟨(Option.some.inj hS).symm, _, hj226⟩)
          ·intro K206
           clear hS
           have hj208 : Tr ρ191 w190 (fun _ => false) ρ191 w190 := (Tr.refl hb.bd).weak (fun _ _ => rfl) rfl rfl
           rcases Bool.eq_false_or_eq_true z187.1 with hg205 | hg205
           ·have hS := ite_true' hz209 hg205
            refine sr_evg (b := true) (e := 76) rfl rfl hg205 (v := .pointer none) (ev_move rfl) (by decide) ?_
            refine sr_unguard rfl rfl hg205 ?_
            refine sr_litT (c := strC) (ρ := ρ191) (E := 9) (xs := [[97]]) (vs := #[(0, str ([97]))]) (cs := #[str ([97])]) (css := [[str ([97])]]) rfl (fun _ => by kernel_rfl) rfl ⟨rfl, trivial⟩ rfl (by decide) hb.bd (by decide) ?_
            intro v213 w215 h214 hbw217
            have htr216 := Tr.of_below hbw217 hb.bd
            replace hb := hb.trans htr216
            replace hj208 := (hj208.trans htr216).weak (J' := (fun _ => false)) (by intro t h; simp [rng] at h ⊢ <;> omega) rfl rfl
            obtain ⟨y218, hy219, hS⟩ := bind_some' hS
            refine sr_callg (b := true) (e := 76) rfl rfl hg205 (vs := [.pointer none, str ([97, 110, 110]), str ([119, 101, 98]), v213, .int .i64 5, .int .i64 0]) rfl Try.call21 rfl (consent_Consents_Grant__nil_ok _ (hg.fr hz hb) (ρA := ρ191) hb.bd (hz.fr hg hb) h214 hy219) (by decide) ?_
            rintro _ w220 ⟨rfl, hbw221⟩
            have htr222 := Tr.of_below hbw221 hb.bd
            replace hb := hb.trans htr222
            replace hj208 := (hj208.trans htr222).weak (J' := (fun _ => false)) (by intro t h; simp [rng] at h ⊢ <;> omega) rfl rfl
            refine sr_evg (b := true) (e := 76) rfl rfl hg205 (v := .bool (y218 == 1)) (ev_eq rfl rfl) (by decide) ?_
            refine sr_ev (v := .bool (y218 == 1)) (ev_pick_t rfl hg205 rfl) (by decide) ?_
            exact sr_weaken (l' := [(10, .pointer none), (81, .bool (y218 == 1))]) (.cons rfl (.cons rfl (.nil _))) (K206 (y218 == 1) _ ⟨(Option.some.inj hS).symm, _, hj208⟩)
           ·have hS := ite_false' hz209 hg205
            refine sr_pass (e := 76) rfl rfl (by rw [hg205]; rfl) (by decide) ?_
            refine sr_pass (e := 76) rfl rfl (by rw [hg205]; rfl) (by decide) ?_
            refine sr_pass (e := 76) rfl rfl (by rw [hg205]; rfl) (by decide) ?_
            refine sr_pass (e := 76) rfl rfl (by rw [hg205]; rfl) (by decide) ?_
            refine sr_ev (v := .bool false) (ev_pick_f rfl hg205 rfl) (by decide) ?_
            exact sr_weaken (l' := [(10, .pointer none), (81, .bool false)]) (.cons rfl (.cons rfl (.nil _))) (K206 false _ ⟨(Option.some.inj hS).symm, _, hj208⟩)
         ·intro K186
          clear hS
          have hj188 : Tr ρ178 w177 (fun t => ([100, 101] : List Nat).contains t) ρ178 w177 := (Tr.refl hb.bd).weak (fun _ _ => rfl) rfl rfl
          rcases Bool.eq_false_or_eq_true z174 with hg185 | hg185
          ·have hS := ite_true' hz189 hg185
           refine sr_evg (b := true) (e := 71) rfl rfl hg185 (v := .pointer (some ⟨g6, 0, none⟩)) (ev_move rfl) (by decide) ?_
           obtain ⟨y193, hy194, hS⟩ := bind_some' hS
           refine sr_callg (b := true) (e := 71) rfl rfl hg185 (vs := [.pointer (some ⟨g6, 0, none⟩), str ([97, 110, 110]), str ([119, 101, 98])]) rfl Try.call26 rfl (consent_Consents_Revoke_ok _ (hg.fr hz hb) (ρA := ρ178) hb.bd (hz.fr hg hb) (o := 100) (by decide) (⟨_, hB94, h93⟩ : consent_Consents.O (fun p => 100 + p) ρ178 w177 g6 y87.2) hy194) (by decide) ?_
           rintro _ w195 ⟨ρ201, rfl, ⟨v198, hB200, h199⟩, htr197⟩
           replace hb := hb.trans htr197
           replace hj188 := (hj188.trans htr197).weak (J' := (fun t => ([100, 101] : List Nat).contains t)) (by intro t h; simp [rng] at h ⊢ <;> omega) rfl rfl
           replace hB200 : Blk ρ201 100 w195 g6 (.cells #[v198] 52 (0, 0)) := hB200
           replace h199 : MapT consent_pair.ek (mapC str (intC .i64) false) false ρ201 101 w195 v198 y193.2.pairs := h199
           refine sr_evg (b := true) (e := 71) rfl rfl hg185 (v := .bool (!y193.1)) (ev_not rfl) (by decide) ?_
           refine sr_ev (v := .bool (!y193.1)) (ev_pick_t rfl hg185 rfl) (by decide) ?_
           exact sr_weaken (l' := [(10, .pointer none), (75, .bool (!y193.1))]) (.cons rfl (.cons rfl (.nil _))) (K186 (!y193.1, y193.2) _ ⟨(Option.some.inj hS).symm, _, ⟨_, hB200, h199⟩, hj188⟩)
          ·have hS := ite_false' hz189 hg185
           refine sr_pass (e := 71) rfl rfl (by rw [hg185]; rfl) (by decide) ?_
           refine sr_pass (e := 71) rfl rfl (by rw [hg185]; rfl) (by decide) ?_
           refine sr_pass (e := 71) rfl rfl (by rw [hg185]; rfl) (by decide) ?_
           refine sr_ev (v := .bool false) (ev_pick_f rfl hg185 rfl) (by decide) ?_
           exact sr_weaken (l' := [(10, .pointer none), (75, .bool false)]) (.cons rfl (.cons rfl (.nil _))) (K186 (false, y87.2) _ ⟨(Option.some.inj hS).symm, _, ⟨_, hB94, h93⟩, hj188⟩)
        ·intro K173
         clear hS
         have hj175 : Tr ρ152 w151 (fun _ => false) ρ152 w151 := (Tr.refl hb.bd).weak (fun _ _ => rfl) rfl rfl
         rcases Bool.eq_false_or_eq_true (z148 && (y87.1 == 1)) with hg172 | hg172
         ·have hS := ite_true' hz176 hg172
          refine sr_evg (b := true) (e := 66) rfl rfl hg172 (v := .pointer (some ⟨g6, 0, none⟩)) (ev_move rfl) (by decide) ?_
          obtain ⟨y180, hy181, hS⟩ := bind_some' hS
          refine sr_callg (b := true) (e := 66) rfl rfl hg172 (vs := [.pointer (some ⟨g6, 0, none⟩)]) rfl Try.call14 rfl (consent_Consents_Len_ok _ (hg.fr hz hb) (ρA := ρ152) hb.bd (hz.fr hg hb) (τ0 := (fun p => 100 + p)) (fun p => Nat.le_add_right_of_le (by decide)) (⟨_, hB94, h93⟩ : consent_Consents.O (fun p => 100 + p) ρ152 w151 g6 y87.2) hy181) (by decide) ?_
          rintro _ w182 ⟨rfl, hbw183⟩
          have htr184 := Tr.of_below hbw183 hb.bd
          replace hB94 := hB94.mv (htr184.mv (i := 100) rfl)
          replace h93 := h93.mv (htr184.mv (i := 101) rfl)
          replace hb := hb.trans htr184
          replace hj175 := (hj175.trans htr184).weak (J' := (fun _ => false)) (by intro t h; simp [rng] at h ⊢ <;> omega) rfl rfl
          refine sr_evg (b := true) (e := 66) rfl rfl hg172 (v := .bool (y180 == 0)) (ev_eq rfl rfl) (by decide) ?_
          refine sr_ev (v := .bool (y180 == 0)) (ev_pick_t rfl hg172 rfl) (by decide) ?_
          exact sr_weaken (l' := [(1, .pointer (some ⟨g6, 0, none⟩)), (10, .pointer none), (70, .bool (y180 == 0))]) (.cons rfl (.cons rfl (.cons rfl (.nil _)))) (K173 (y180 == 0) _ ⟨(Option.some.inj hS).symm, _, hj175⟩)
         ·have hS := ite_false' hz176 hg172
          refine sr_pass (e := 66) rfl rfl (by rw [hg172]; rfl) (by decide) ?_
          refine sr_pass (e := 66) rfl rfl (by rw [hg172]; rfl) (by decide) ?_
          refine sr_pass (e := 66) rfl rfl (by rw [hg172]; rfl) (by decide) ?_
          refine sr_ev (v := .bool false) (ev_pick_f rfl hg172 rfl) (by decide) ?_
          exact sr_weaken (l' := [(1, .pointer (some ⟨g6, 0, none⟩)), (10, .pointer none), (70, .bool false)]) (.cons rfl (.cons rfl (.cons rfl (.nil _)))) (K173 false _ ⟨(Option.some.inj hS).symm, _, hj175⟩)
       ·intro K165
        rcases Bool.eq_false_or_eq_true z148 with hg164 | hg164
        all_goals try have hj167 : Tr ρ152 w151 (fun _ => false) ρ152 w151 := Tr.refl hb.bd
        ·refine sr_evg (b := true) (e := 62) rfl rfl hg164 (v := .int .i64 y87.1) (ev_move rfl) (by decide) ?_
         refine sr_evg (b := true) (e := 62) rfl rfl hg164 (v := .bool (y87.1 == 1)) (ev_eq rfl rfl) (by decide) ?_
         refine sr_ev (v := .bool (y87.1 == 1)) (ev_pick_t rfl hg164 rfl) (by decide) ?_
         exact sr_weaken (l' := [(1, .pointer (some ⟨g6, 0, none⟩)), (10, .pointer none), (65, .bool (y87.1 == 1))]) (.cons rfl (.cons rfl (.cons rfl (.nil _)))) (K165 (y87.1 == 1) _ ⟨by rw [hg164]; rfl, rfl⟩)
        ·refine sr_pass (e := 62) rfl rfl (by rw [hg164]; rfl) (by decide) ?_
         refine sr_pass (e := 62) rfl rfl (by rw [hg164]; rfl) (by decide) ?_
         refine sr_ev (v := .bool false) (ev_pick_f rfl hg164 rfl) (by decide) ?_
         exact sr_weaken (l' := [(1, .pointer (some ⟨g6, 0, none⟩)), (10, .pointer none), (65, .bool false)]) (.cons rfl (.cons rfl (.cons rfl (.nil _)))) (K165 false _ ⟨by rw [hg164]; rfl, rfl⟩)
      ·intro K147
       clear hS
       have hj149 : Tr ρ118 w117 (fun _ => false) ρ118 w117 := (Tr.refl hb.bd).weak (fun _ _ => rfl) rfl rfl
       rcases Bool.eq_false_or_eq_true ((z114 && y65) && (!y75)) with hg146 | hg146
       ·have hS := ite_true' hz150 hg146
        refine sr_evg (b := true) (e := 57) rfl rfl hg146 (v := v85) (ev_move rfl) (by decide) ?_
        refine sr_unguard rfl rfl hg146 ?_
        refine sr_litT (c := strC) (ρ := ρ118) (E := 9) (xs := [[119, 101, 98]]) (vs := #[(0, str ([119, 101, 98]))]) (cs := #[str ([119, 101, 98])]) (css := [[str ([119, 101, 98])]]) rfl (fun _ => by kernel_rfl) rfl ⟨rfl, trivial⟩ rfl (by decide) hb.bd (by decide) ?_
        intro v154 w156 h155 hbw158
        have htr157 := Tr.of_below hbw158 hb.bd
        replace h86 := h86.mv htr157.rd
        replace hB94 := hB94.mv (htr157.mv (i := 100) rfl)
        replace h93 := h93.mv (htr157.mv (i := 101) rfl)
        replace hb := hb.trans htr157
        replace hj149 := (hj149.trans htr157).weak (J' := (fun _ => false)) (by intro t h; simp [rng] at h ⊢ <;> omega) rfl rfl
        obtain ⟨y159, hy160, hS⟩ := bind_some' hS
        refine sr_callg (b := true) (e := 57) rfl rfl hg146 (vs := [v85, v154]) rfl Try.call16 rfl (ref03_Same_ok _ (hg.fr hz hb) h86.asSl h155.asSl hy160) (by decide) ?_
        rintro _ w161 ⟨rfl, hbw162⟩
        have htr163 := Tr.of_below hbw162 hb.bd
        replace hB94 := hB94.mv (htr163.mv (i := 100) rfl)
        replace h93 := h93.mv (htr163.mv (i := 101) rfl)
        replace hb := hb.trans htr163
        replace hj149 := (hj149.trans htr163).weak (J' := (fun _ => false)) (by intro t h; simp [rng] at h ⊢ <;> omega) rfl rfl
        refine sr_ev (v := .bool y159) (ev_pick_t rfl hg146 rfl) (by decide) ?_
        exact sr_weaken (l' := [(1, .pointer (some ⟨g6, 0, none⟩)), (9, .int .i64 y87.1), (10, .pointer none), (61, .bool y159)]) (.cons rfl (.cons rfl (.cons rfl (.cons rfl (.nil _))))) (K147 y159 _ ⟨(Option.some.inj hS).symm, _, hj149⟩)
       ·have hS := ite_false' hz150 hg146
        refine sr_pass (e := 57) rfl rfl (by rw [hg146]; rfl) (by decide) ?_
        refine sr_pass (e := 57) rfl rfl (by rw [hg146]; rfl) (by decide) ?_
        refine sr_pass (e := 57) rfl rfl (by rw [hg146]; rfl) (by decide) ?_
        refine sr_ev (v := .bool false) (ev_pick_f rfl hg146 rfl) (by decide) ?_
        exact sr_weaken (l' := [(1, .pointer (some ⟨g6, 0, none⟩)), (9, .int .i64 y87.1), (10, .pointer none), (61, .bool false)]) (.cons rfl (.cons rfl (.cons rfl (.cons rfl (.nil _))))) (K147 false _ ⟨(Option.some.inj hS).symm, _, hj149⟩)
     ·intro K139
      rcases Bool.eq_false_or_eq_true (z114 && y65) with hg138 | hg138
      all_goals try have hj141 : Tr ρ118 w117 (fun _ => false) ρ118 w117 := Tr.refl hb.bd
      ·refine sr_evg (b := true) (e := 53) rfl rfl hg138 (v := .bool y75) (ev_move rfl) (by decide) ?_
       refine sr_evg (b := true) (e := 53) rfl rfl hg138 (v := .bool (!y75)) (ev_not rfl) (by decide) ?_
       refine sr_ev (v := .bool (!y75)) (ev_pick_t rfl hg138 rfl) (by decide) ?_
       exact sr_weaken (l' := [(1, .pointer (some ⟨g6, 0, none⟩)), (8, v85), (9, .int .i64 y87.1), (10, .pointer none), (56, .bool (!y75))]) (.cons rfl (.cons rfl (.cons rfl (.cons rfl (.cons rfl (.nil _)))))) (K139 (!y75) _ ⟨by rw [hg138]; rfl, rfl⟩)
      ·refine sr_pass (e := 53) rfl rfl (by rw [hg138]; rfl) (by decide) ?_
       refine sr_pass (e := 53) rfl rfl (by rw [hg138]; rfl) (by decide) ?_
       refine sr_ev (v := .bool false) (ev_pick_f rfl hg138 rfl) (by decide) ?_
       exact sr_weaken (l' := [(1, .pointer (some ⟨g6, 0, none⟩)), (8, v85), (9, .int .i64 y87.1), (10, .pointer none), (56, .bool false)]) (.cons rfl (.cons rfl (.cons rfl (.cons rfl (.cons rfl (.nil _)))))) (K139 false _ ⟨by rw [hg138]; rfl, rfl⟩)
    ·intro K131
     rcases Bool.eq_false_or_eq_true z114 with hg130 | hg130
     all_goals try have hj133 : Tr ρ118 w117 (fun _ => false) ρ118 w117 := Tr.refl hb.bd
     ·refine sr_evg (b := true) (e := 50) rfl rfl hg130 (v := .bool y65) (ev_move rfl) (by decide) ?_
      refine sr_ev (v := .bool y65) (ev_pick_t rfl hg130 rfl) (by decide) ?_
      exact sr_weaken (l' := [(1, .pointer (some ⟨g6, 0, none⟩)), (7, .bool y75), (8, v85), (9, .int .i64 y87.1), (10, .pointer none), (52, .bool y65)]) (.cons rfl (.cons rfl (.cons rfl (.cons rfl (.cons rfl (.cons rfl (.nil _))))))) (K131 y65 _ ⟨by rw [hg130]; rfl, rfl⟩)
     ·refine sr_pass (e := 50) rfl rfl (by rw [hg130]; rfl) (by decide) ?_
      refine sr_ev (v := .bool false) (ev_pick_f rfl hg130 rfl) (by decide) ?_
      exact sr_weaken (l' := [(1, .pointer (some ⟨g6, 0, none⟩)), (7, .bool y75), (8, v85), (9, .int .i64 y87.1), (10, .pointer none), (52, .bool false)]) (.cons rfl (.cons rfl (.cons rfl (.cons rfl (.cons rfl (.cons rfl (.nil _))))))) (K131 false _ ⟨by rw [hg130]; rfl, rfl⟩)
   ·intro K113
    clear hS
    have hj115 : Tr ρ95 w89 (fun _ => false) ρ95 w89 := (Tr.refl hb.bd).weak (fun _ _ => rfl) rfl rfl
    rcases Bool.eq_false_or_eq_true (((y16.1 == 0) && (y30.1 == 0)) && (y44.1 == 13)) with hg112 | hg112
    ·have hS := ite_true' hz116 hg112
     refine sr_evg (b := true) (e := 45) rfl rfl hg112 (v := v58) (ev_move rfl) (by decide) ?_
     refine sr_unguard rfl rfl hg112 ?_
     refine sr_litT (c := strC) (ρ := ρ95) (E := 9) (xs := [[109, 97, 105, 108]]) (vs := #[(0, str ([109, 97, 105, 108]))]) (cs := #[str ([109, 97, 105, 108])]) (css := [[str ([109, 97, 105, 108])]]) rfl (fun _ => by kernel_rfl) rfl ⟨rfl, trivial⟩ rfl (by decide) hb.bd (by decide) ?_
     intro v120 w122 h121 hbw124
     have htr123 := Tr.of_below hbw124 hb.bd
     replace h86 := h86.mv htr123.rd
     replace h59 := h59.mv htr123.rd
     replace hB94 := hB94.mv (htr123.mv (i := 100) rfl)
     replace h93 := h93.mv (htr123.mv (i := 101) rfl)
     replace hb := hb.trans htr123
     replace hj115 := (hj115.trans htr123).weak (J' := (fun _ => false)) (by intro t h; simp [rng] at h ⊢ <;> omega) rfl rfl
     obtain ⟨y125, hy126, hS⟩ := bind_some' hS
     refine sr_callg (b := true) (e := 45) rfl rfl hg112 (vs := [v58, v120]) rfl Try.call16 rfl (ref03_Same_ok _ (hg.fr hz hb) h59.asSl h121.asSl hy126) (by decide) ?_
     rintro _ w127 ⟨rfl, hbw128⟩
     have htr129 := Tr.of_below hbw128 hb.bd
     replace h86 := h86.mv htr129.rd
     replace hB94 := hB94.mv (htr129.mv (i := 100) rfl)
     replace h93 := h93.mv (htr129.mv (i := 101) rfl)
     replace hb := hb.trans htr129
     replace hj115 := (hj115.trans htr129).weak (J' := (fun _ => false)) (by intro t h; simp [rng] at h ⊢ <;> omega) rfl rfl
     refine sr_ev (v := .bool y125) (ev_pick_t rfl hg112 rfl) (by decide) ?_
     exact sr_weaken (l' := [(1, .pointer (some ⟨g6, 0, none⟩)), (6, .bool y65), (7, .bool y75), (8, v85), (9, .int .i64 y87.1), (10, .pointer none), (49, .bool y125)]) (.cons rfl (.cons rfl (.cons rfl (.cons rfl (.cons rfl (.cons rfl (.cons rfl (.nil _)))))))) (K113 y125 _ ⟨(Option.some.inj hS).symm, _, hj115⟩)
    ·have hS := ite_false' hz116 hg112
     refine sr_pass (e := 45) rfl rfl (by rw [hg112]; rfl) (by decide) ?_
     refine sr_pass (e := 45) rfl rfl (by rw [hg112]; rfl) (by decide) ?_
     refine sr_pass (e := 45) rfl rfl (by rw [hg112]; rfl) (by decide) ?_
     refine sr_ev (v := .bool false) (ev_pick_f rfl hg112 rfl) (by decide) ?_
     exact sr_weaken (l' := [(1, .pointer (some ⟨g6, 0, none⟩)), (6, .bool y65), (7, .bool y75), (8, v85), (9, .int .i64 y87.1), (10, .pointer none), (49, .bool false)]) (.cons rfl (.cons rfl (.cons rfl (.cons rfl (.cons rfl (.cons rfl (.cons rfl (.nil _)))))))) (K113 false _ ⟨(Option.some.inj hS).symm, _, hj115⟩)
  ·intro K105
   rcases Bool.eq_false_or_eq_true ((y16.1 == 0) && (y30.1 == 0)) with hg104 | hg104
   all_goals try have hj107 : Tr ρ95 w89 (fun _ => false) ρ95 w89 := Tr.refl hb.bd
   ·refine sr_evg (b := true) (e := 41) rfl rfl hg104 (v := .int .i64 y44.1) (ev_move rfl) (by decide) ?_
    refine sr_evg (b := true) (e := 41) rfl rfl hg104 (v := .bool (y44.1 == 13)) (ev_eq rfl rfl) (by decide) ?_
    refine sr_ev (v := .bool (y44.1 == 13)) (ev_pick_t rfl hg104 rfl) (by decide) ?_
    exact sr_weaken (l' := [(1, .pointer (some ⟨g6, 0, none⟩)), (5, v58), (6, .bool y65), (7, .bool y75), (8, v85), (9, .int .i64 y87.1), (10, .pointer none), (44, .bool (y44.1 == 13))]) (.cons rfl (.cons rfl (.cons rfl (.cons rfl (.cons rfl (.cons rfl (.cons rfl (.cons rfl (.nil _))))))))) (K105 (y44.1 == 13) _ ⟨by rw [hg104]; rfl, rfl⟩)
   ·refine sr_pass (e := 41) rfl rfl (by rw [hg104]; rfl) (by decide) ?_
    refine sr_pass (e := 41) rfl rfl (by rw [hg104]; rfl) (by decide) ?_
    refine sr_ev (v := .bool false) (ev_pick_f rfl hg104 rfl) (by decide) ?_
    exact sr_weaken (l' := [(1, .pointer (some ⟨g6, 0, none⟩)), (5, v58), (6, .bool y65), (7, .bool y75), (8, v85), (9, .int .i64 y87.1), (10, .pointer none), (44, .bool false)]) (.cons rfl (.cons rfl (.cons rfl (.cons rfl (.cons rfl (.cons rfl (.cons rfl (.cons rfl (.nil _))))))))) (K105 false _ ⟨by rw [hg104]; rfl, rfl⟩)
 ·intro K97
  rcases Bool.eq_false_or_eq_true (y16.1 == 0) with hg96 | hg96
  all_goals try have hj99 : Tr ρ95 w89 (fun _ => false) ρ95 w89 := Tr.refl hb.bd
  ·refine sr_evg (b := true) (e := 37) rfl rfl hg96 (v := .int .i64 y30.1) (ev_move rfl) (by decide) ?_
   refine sr_evg (b := true) (e := 37) rfl rfl hg96 (v := .bool (y30.1 == 0)) (ev_eq rfl rfl) (by decide) ?_
   refine sr_ev (v := .bool (y30.1 == 0)) (ev_pick_t rfl hg96 rfl) (by decide) ?_
   exact sr_weaken (l' := [(1, .pointer (some ⟨g6, 0, none⟩)), (4, .int .i64 y44.1), (5, v58), (6, .bool y65), (7, .bool y75), (8, v85), (9, .int .i64 y87.1), (10, .pointer none), (40, .bool (y30.1 == 0))]) (.cons rfl (.cons rfl (.cons rfl (.cons rfl (.cons rfl (.cons rfl (.cons rfl (.cons rfl (.cons rfl (.nil _)))))))))) (K97 (y30.1 == 0) _ ⟨by rw [hg96]; rfl, rfl⟩)
  ·refine sr_pass (e := 37) rfl rfl (by rw [hg96]; rfl) (by decide) ?_
   refine sr_pass (e := 37) rfl rfl (by rw [hg96]; rfl) (by decide) ?_
   refine sr_ev (v := .bool false) (ev_pick_f rfl hg96 rfl) (by decide) ?_
   exact sr_weaken (l' := [(1, .pointer (some ⟨g6, 0, none⟩)), (4, .int .i64 y44.1), (5, v58), (6, .bool y65), (7, .bool y75), (8, v85), (9, .int .i64 y87.1), (10, .pointer none), (40, .bool false)]) (.cons rfl (.cons rfl (.cons rfl (.cons rfl (.cons rfl (.cons rfl (.cons rfl (.cons rfl (.cons rfl (.nil _)))))))))) (K97 false _ ⟨by rw [hg96]; rfl, rfl⟩)
theorem law32_ConsentLimits_B2_ok {w0 : World} (hg : Gs w0) {ρA : Tags} (hbd : ∀ b, ρA b ≠ 0 → b < w0.heap.size) (hz : Gz (flat1 ρA)) (r0 : Int → Int → consent_Consents → Int → Option (Bool))
  (hr0 : ∀ {r : Bool} {pairs_0 : Int} {scopes_1 : Int} {oc_5 : consent_Consents} {i_6 : Int} {gc_5 : Nat}, r0 pairs_0 scopes_1 oc_5 i_6 = some r → ∀ {ρ : Tags} {w : World}, (Fr (flat1 ρA) w0 ρ w) → (consent_Consents.O (fun p => 100 + p) ρ w gc_5 oc_5) → KE Try.prog 4 (Ret (fun v w' => v = .bool r ∧ Below w0.heap.size w0 w')) 65 [.inLoop (sub (bodyOf Try.f4) [2, 2, 2, 2, 1, 2, 2, 1]), .inBlock 0, .code (sub (bodyOf Try.f4) [2, 2, 2, 2, 2])] [(0, .int .i64 pairs_0), (1, .int .i64 scopes_1), (5, .pointer (some ⟨gc_5, 0, none⟩)), (6, .int .i64 i_6)] w) {r : Bool} {pairs_0 : Int} {scopes_1 : Int} {oc_5 : consent_Consents} {i_6 : Int} {want_7 : Int} {gc_5 : Nat} (hS : law32_ConsentLimits_B2 r0 pairs_0 scopes_1 oc_5 i_6 want_7 = some r) {ρ : Tags} {w : World} (hb : Fr (flat1 ρA) w0 ρ w) (hoc_5 : consent_Consents.O (fun p => 100 + p) ρ w gc_5 oc_5) :
  KE Try.prog 4 (Ret (fun v w' => v = .bool r ∧ Below w0.heap.size w0 w')) 65 [.code (sub (bodyOf Try.f4) [2, 2, 2, 2, 1, 2, 2, 1, 2, 1, 2, 2, 2]), .inBlock 1, .code (sub (bodyOf Try.f4) [2, 2, 2, 2, 1, 2, 2, 1, 2, 2]), .inLoop (sub (bodyOf Try.f4) [2, 2, 2, 2, 1, 2, 2, 1]), .inBlock 0, .code (sub (bodyOf Try.f4) [2, 2, 2, 2, 2])] [(0, .int .i64 pairs_0), (1, .int .i64 scopes_1), (5, .pointer (some ⟨gc_5, 0, none⟩)), (6, .int .i64 i_6), (7, .int .i64 want_7)] w := by
 unfold law32_ConsentLimits_B2 at hS
 obtain ⟨v16, hB18, h17⟩ := hoc_5
 replace hB18 : Blk ρ 100 w gc_5 (.cells #[v16] 52 (0, 0)) := hB18
 replace h17 : MapT consent_pair.ek (mapC str (intC .i64) false) false ρ 101 w v16 oc_5.pairs := h17
 refine ke_seq ?_
 refine ke_region ?_
 refine sr_ev (v := .pointer (some ⟨gc_5, 0, none⟩)) (ev_move rfl) (by decide) ?_
 refine sr_ev (v := .int .i64 i_6) (ev_move rfl) (by decide) ?_
 obtain ⟨y19, hy20, hS⟩ := bind_some' hS
 refine sr_call (vs := [.int .i64 i_6]) rfl Try.call22 rfl (law32_name_ok _ (hg.fr hz hb) hy20) (by decide) ?_
 rintro _ w21 ⟨rfl, hbw22⟩
 have htr23 := Tr.of_below hbw22 hb.bd
 replace hB18 := hB18.mv (htr23.mv (i := 100) rfl)
 replace h17 := h17.mv (htr23.mv (i := 101) rfl)
 replace hb := hb.trans htr23
 refine sr_litT (c := strC) (ρ := ρ) (E := 9) (xs := [[97]]) (vs := #[(0, str ([97]))]) (cs := #[str ([97])]) (css := [[str ([97])]]) rfl (fun _ => by kernel_rfl) rfl ⟨rfl, trivial⟩ rfl (by decide) hb.bd (by decide) ?_
 intro v24 w26 h25 hbw28
 have htr27 := Tr.of_below hbw28 hb.bd
 replace hB18 := hB18.mv (htr27.mv (i := 100) rfl)
 replace h17 := h17.mv (htr27.mv (i := 101) rfl)
 replace hb := hb.trans htr27
 obtain ⟨y29, hy30, hS⟩ := bind_some' hS
 refine sr_call (vs := [.pointer (some ⟨gc_5, 0, none⟩), str ([97, 110, 110]), str y19, v24, .int .i64 9, .int .i64 0]) rfl Try.call21 rfl (consent_Consents_Grant_ok _ (hg.fr hz hb) (ρA := ρ) hb.bd (hz.fr hg hb) (o := 100) (by decide) h25 (⟨_, hB18, h17⟩ : consent_Consents.O (fun p => 100 + p) ρ w26 gc_5 oc_5) hy30) (by decide) ?_
 rintro _ w31 ⟨ρ37, rfl, ⟨v34, hB36, h35⟩, htr33⟩
 replace hb := hb.trans htr33
 replace hB36 : Blk ρ37 100 w31 gc_5 (.cells #[v34] 52 (0, 0)) := hB36
 replace h35 : MapT consent_pair.ek (mapC str (intC .i64) false) false ρ37 101 w31 v34 y29.2.pairs := h35
 refine sr_ev (v := .int .i64 want_7) (ev_move rfl) (by decide) ?_
 refine sr_ev (v := .bool (y29.1 != want_7)) (ev_ne rfl rfl) (by decide) ?_
 refine sr_end (l' := [(0, .int .i64 pairs_0), (1, .int .i64 scopes_1), (5, .pointer (some ⟨gc_5, 0, none⟩)), (6, .int .i64 i_6), (33, .bool (y29.1 != want_7))]) (.cons rfl (.cons rfl (.cons rfl (.cons rfl (.cons rfl (.nil _)))))) ?_
 refine ke_cond (t := y29.1 != want_7) rfl (fun hc38 => ?_) (fun hc38 => ?_)
 ·replace hS := ite_true' hS hc38
  refine ke_seq ?_
  refine ke_region ?_
  refine sr_ev (v := .bool false) (ev_assign rfl) (by decide) ?_
  refine sr_end (l' := [(4, .bool false)]) (.cons rfl (.nil _)) ?_
  cases hS
  exact ke_ret1 Try.func4 rfl rfl ⟨_, rfl, rfl, (hb.below (flat1_le _))⟩
 ·replace hS := ite_false' hS hc38
  refine ke_skip ?_
  refine ke_inBlock ?_
  refine ke_region ?_
  refine sr_ev (v := .int .i64 i_6) (ev_move rfl) (by decide) ?_
  refine sr_ev (v := .int .i64 (IntKind.i64.wrap (i_6 + 1))) (ev_add rfl rfl) (by decide) ?_
  refine sr_ev (v := .int .i64 (IntKind.i64.wrap (i_6 + 1))) (ev_assign rfl) (by decide) ?_
  refine sr_end (l' := [(0, .int .i64 pairs_0), (1, .int .i64 scopes_1), (5, .pointer (some ⟨gc_5, 0, none⟩)), (6, .int .i64 (IntKind.i64.wrap (i_6 + 1)))]) (.cons rfl (.cons rfl (.cons rfl (.cons rfl (.nil _))))) ?_
  have hK := hr0 hS hb ⟨_, hB36, h35⟩
  exact ke_weaken (l' := [(0, .int .i64 pairs_0), (1, .int .i64 scopes_1), (5, .pointer (some ⟨gc_5, 0, none⟩)), (6, .int .i64 (IntKind.i64.wrap (i_6 + 1)))]) (.cons rfl (.cons rfl (.cons rfl (.cons rfl (.nil _))))) hK
theorem law32_ConsentLimits_B4_ok {w0 : World} (hg : Gs w0) {ρA : Tags} (hbd : ∀ b, ρA b ≠ 0 → b < w0.heap.size) (hz : Gz (flat1 ρA)) (r0 : Int → Int → consent_Consents → Int → Option (Bool)) (r1 : Int → Int → consent_Consents → consent_Consents → Int → Option (Bool))
  (hr0 : ∀ {r : Bool} {pairs_0 : Int} {scopes_1 : Int} {oc_5 : consent_Consents} {i_6 : Int} {gc_5 : Nat}, r0 pairs_0 scopes_1 oc_5 i_6 = some r → ∀ {ρ : Tags} {w : World}, (Fr (flat1 ρA) w0 ρ w) → (consent_Consents.O (fun p => 100 + p) ρ w gc_5 oc_5) → KE Try.prog 4 (Ret (fun v w' => v = .bool r ∧ Below w0.heap.size w0 w')) 65 [.inLoop (sub (bodyOf Try.f4) [2, 2, 2, 2, 1, 2, 2, 1]), .inBlock 0, .code (sub (bodyOf Try.f4) [2, 2, 2, 2, 2])] [(0, .int .i64 pairs_0), (1, .int .i64 scopes_1), (5, .pointer (some ⟨gc_5, 0, none⟩)), (6, .int .i64 i_6)] w)
  (hr1 : ∀ {r : Bool} {pairs_0 : Int} {scopes_1 : Int} {oc_5 : consent_Consents} {od_8 : consent_Consents} {i_9 : Int} {gc_5 : Nat} {gd_8 : Nat}, r1 pairs_0 scopes_1 oc_5 od_8 i_9 = some r → ∀ {ρ : Tags} {w : World}, (Fr (flat1 ρA) w0 ρ w) → (consent_Consents.O (fun p => 100 + p) ρ w gc_5 oc_5) → (consent_Consents.O (fun p => 200 + p) ρ w gd_8 od_8) → KE Try.prog 4 (Ret (fun v w' => v = .bool r ∧ Below w0.heap.size w0 w')) 65 [.inLoop (sub (bodyOf Try.f4) [2, 2, 2, 2, 2, 2, 1, 2, 2, 1]), .inBlock 2, .code (sub (bodyOf Try.f4) [2, 2, 2, 2, 2, 2, 2])] [(0, .int .i64 pairs_0), (1, .int .i64 scopes_1), (5, .pointer (some ⟨gc_5, 0, none⟩)), (8, .pointer (some ⟨gd_8, 0, none⟩)), (9, .int .i64 i_9)] w) {r : Bool} {pairs_0 : Int} {scopes_1 : Int} {oc_5 : consent_Consents} {od_8 : consent_Consents} {i_9 : Int} {want_10 : Int} {gc_5 : Nat} {gd_8 : Nat} (hS : law32_ConsentLimits_B4 r0 r1 pairs_0 scopes_1 oc_5 od_8 i_9 want_10 = some r) {ρ : Tags} {w : World} (hb : Fr (flat1 ρA) w0 ρ w) (hoc_5 : consent_Consents.O (fun p => 100 + p) ρ w gc_5 oc_5) (hod_8 : consent_Consents.O (fun p => 200 + p) ρ w gd_8 od_8) :
  KE Try.prog 4 (Ret (fun v w' => v = .bool r ∧ Below w0.heap.size w0 w')) 65 [.code (sub (bodyOf Try.f4) [2, 2, 2, 2, 2, 2, 1, 2, 2, 1, 2, 1, 2, 2, 2]), .inBlock 3, .code (sub (bodyOf Try.f4) [2, 2, 2, 2, 2, 2, 1, 2, 2, 1, 2, 2]), .inLoop (sub (bodyOf Try.f4) [2, 2, 2, 2, 2, 2, 1, 2, 2, 1]), .inBlock 2, .code (sub (bodyOf Try.f4) [2, 2, 2, 2, 2, 2, 2])] [(0, .int .i64 pairs_0), (1, .int .i64 scopes_1), (5, .pointer (some ⟨gc_5, 0, none⟩)), (8, .pointer (some ⟨gd_8, 0, none⟩)), (9, .int .i64 i_9), (10, .int .i64 want_10)] w := by
 unfold law32_ConsentLimits_B4 at hS
 obtain ⟨v57, hB59, h58⟩ := hoc_5
 replace hB59 : Blk ρ 100 w gc_5 (.cells #[v57] 52 (0, 0)) := hB59
 replace h58 : MapT consent_pair.ek (mapC str (intC .i64) false) false ρ 101 w v57 oc_5.pairs := h58
 obtain ⟨v60, hB62, h61⟩ := hod_8
 replace hB62 : Blk ρ 200 w gd_8 (.cells #[v60] 52 (0, 0)) := hB62
 replace h61 : MapT consent_pair.ek (mapC str (intC .i64) false) false ρ 201 w v60 od_8.pairs := h61
 refine ke_seq ?_
 refine ke_region ?_
 refine sr_ev (v := .pointer (some ⟨gd_8, 0, none⟩)) (ev_move rfl) (by decide) ?_
 refine sr_ev (v := .int .i64 i_9) (ev_move rfl) (by decide) ?_
 obtain ⟨y63, hy64, hS⟩ := bind_some' hS
 refine sr_call (vs := [.int .i64 i_9]) rfl Try.call22 rfl (law32_name_ok _ (hg.fr hz hb) hy64) (by decide) ?_
 rintro _ w65 ⟨rfl, hbw66⟩
 have htr67 := Tr.of_below hbw66 hb.bd
 replace hB59 := hB59.mv (htr67.mv (i := 100) rfl)
 replace h58 := h58.mv (htr67.mv (i := 101) rfl)
 replace hB62 := hB62.mv (htr67.mv (i := 200) rfl)
 replace h61 := h61.mv (htr67.mv (i := 201) rfl)
 replace hb := hb.trans htr67
 refine sr_litT (c := strC) (ρ := ρ) (E := 9) (xs := [y63]) (vs := #[(0, str y63)]) (cs := #[str y63]) (css := [[str y63]]) rfl (fun _ => by kernel_rfl) rfl ⟨rfl, trivial⟩ rfl (by decide) hb.bd (by decide) ?_
 intro v68 w70 h69 hbw72
 have htr71 := Tr.of_below hbw72 hb.bd
 replace hB59 := hB59.mv (htr71.mv (i := 100) rfl)
 replace h58 := h58.mv (htr71.mv (i := 101) rfl)
 replace hB62 := hB62.mv (htr71.mv (i := 200) rfl)
 replace h61 := h61.mv (htr71.mv (i := 201) rfl)
 replace hb := hb.trans htr71
 obtain ⟨y73, hy74, hS⟩ := bind_some' hS
 refine sr_call (vs := [.pointer (some ⟨gd_8, 0, none⟩), str ([97, 110, 110]), str ([119, 101, 98]), v68, .int .i64 9, .int .i64 0]) rfl Try.call21 rfl (consent_Consents_Grant_ok _ (hg.fr hz hb) (ρA := ρ) hb.bd (hz.fr hg hb) (o := 200) (by decide) h69 (⟨_, hB62, h61⟩ : consent_Consents.O (fun p => 200 + p) ρ w70 gd_8 od_8) hy74) (by decide) ?_
 rintro _ w75 ⟨ρ81, rfl, ⟨v78, hB80, h79⟩, htr77⟩
 replace hB59 := hB59.mv (htr77.mv (i := 100) rfl)
 replace h58 := h58.mv (htr77.mv (i := 101) rfl)
 replace hb := hb.trans htr77
 replace hB80 : Blk ρ81 200 w75 gd_8 (.cells #[v78] 52 (0, 0)) := hB80
 replace h79 : MapT consent_pair.ek (mapC str (intC .i64) false) false ρ81 201 w75 v78 y73.2.pairs := h79
 refine sr_ev (v := .int .i64 want_10) (ev_move rfl) (by decide) ?_
 refine sr_ev (v := .bool (y73.1 != want_10)) (ev_ne rfl rfl) (by decide) ?_
 refine sr_end (l' := [(0, .int .i64 pairs_0), (1, .int .i64 scopes_1), (5, .pointer (some ⟨gc_5, 0, none⟩)), (8, .pointer (some ⟨gd_8, 0, none⟩)), (9, .int .i64 i_9), (48, .bool (y73.1 != want_10))]) (.cons rfl (.cons rfl (.cons rfl (.cons rfl (.cons rfl (.cons rfl (.nil _))))))) ?_
 refine ke_cond (t := y73.1 != want_10) rfl (fun hc82 => ?_) (fun hc82 => ?_)
 ·replace hS := ite_true' hS hc82
  refine ke_seq ?_
  refine ke_region ?_
  refine sr_ev (v := .bool false) (ev_assign rfl) (by decide) ?_
  refine sr_end (l' := [(4, .bool false)]) (.cons rfl (.nil _)) ?_
  cases hS
  exact ke_ret1 Try.func4 rfl rfl ⟨_, rfl, rfl, (hb.below (flat1_le _))⟩
 ·replace hS := ite_false' hS hc82
  refine ke_skip ?_
  refine ke_inBlock ?_
  refine ke_region ?_
  refine sr_ev (v := .int .i64 i_9) (ev_move rfl) (by decide) ?_
  refine sr_ev (v := .int .i64 (IntKind.i64.wrap (i_9 + 1))) (ev_add rfl rfl) (by decide) ?_
  refine sr_ev (v := .int .i64 (IntKind.i64.wrap (i_9 + 1))) (ev_assign rfl) (by decide) ?_
  refine sr_end (l' := [(0, .int .i64 pairs_0), (1, .int .i64 scopes_1), (5, .pointer (some ⟨gc_5, 0, none⟩)), (8, .pointer (some ⟨gd_8, 0, none⟩)), (9, .int .i64 (IntKind.i64.wrap (i_9 + 1)))]) (.cons rfl (.cons rfl (.cons rfl (.cons rfl (.cons rfl (.nil _)))))) ?_
  have hK := hr1 hS hb ⟨_, hB59, h58⟩ ⟨_, hB80, h79⟩
  exact ke_weaken (l' := [(0, .int .i64 pairs_0), (1, .int .i64 scopes_1), (5, .pointer (some ⟨gc_5, 0, none⟩)), (8, .pointer (some ⟨gd_8, 0, none⟩)), (9, .int .i64 (IntKind.i64.wrap (i_9 + 1)))]) (.cons rfl (.cons rfl (.cons rfl (.cons rfl (.cons rfl (.nil _)))))) hK
theorem law32_ConsentLimits_L3_ok {w0 : World} (hg : Gs w0) {ρA : Tags} (hbd : ∀ b, ρA b ≠ 0 → b < w0.heap.size) (hz : Gz (flat1 ρA)) (r0 : Int → Int → consent_Consents → Int → Option (Bool))
  (hr0 : ∀ {r : Bool} {pairs_0 : Int} {scopes_1 : Int} {oc_5 : consent_Consents} {i_6 : Int} {gc_5 : Nat}, r0 pairs_0 scopes_1 oc_5 i_6 = some r → ∀ {ρ : Tags} {w : World}, (Fr (flat1 ρA) w0 ρ w) → (consent_Consents.O (fun p => 100 + p) ρ w gc_5 oc_5) → KE Try.prog 4 (Ret (fun v w' => v = .bool r ∧ Below w0.heap.size w0 w')) 65 [.inLoop (sub (bodyOf Try.f4) [2, 2, 2, 2, 1, 2, 2, 1]), .inBlock 0, .code (sub (bodyOf Try.f4) [2, 2, 2, 2, 2])] [(0, .int .i64 pairs_0), (1, .int .i64 scopes_1), (5, .pointer (some ⟨gc_5, 0, none⟩)), (6, .int .i64 i_6)] w) : ∀ (n : Nat), ∀ {r : Bool} {pairs_0 : Int} {scopes_1 : Int} {oc_5 : consent_Consents} {od_8 : consent_Consents} {i_9 : Int} {gc_5 : Nat} {gd_8 : Nat}, law32_ConsentLimits_L3 r0 n pairs_0 scopes_1 oc_5 od_8 i_9 = some r → ∀ {ρ : Tags} {w : World}, (Fr (flat1 ρA) w0 ρ w) → (consent_Consents.O (fun p => 100 + p) ρ w gc_5 oc_5) → (consent_Consents.O (fun p => 200 + p) ρ w gd_8 od_8) → KE Try.prog 4 (Ret (fun v w' => v = .bool r ∧ Below w0.heap.size w0 w')) 65 [.code (sub (bodyOf Try.f4) [2, 2, 2, 2, 2, 2, 1, 2, 2, 1]), .inLoop (sub (bodyOf Try.f4) [2, 2, 2, 2, 2, 2, 1, 2, 2, 1]), .inBlock 2, .code (sub (bodyOf Try.f4) [2, 2, 2, 2, 2, 2, 2])] [(0, .int .i64 pairs_0), (1, .int .i64 scopes_1), (5, .pointer (some ⟨gc_5, 0, none⟩)), (8, .pointer (some ⟨gd_8, 0, none⟩)), (9, .int .i64 i_9)] w := by
 intro n
 induction n with
 | zero => intro r pairs_0 scopes_1 oc_5 od_8 i_9 gc_5 gd_8 hS; cases hS
 | succ n ih =>
  have hr1 : ∀ {r : Bool} {pairs_0 : Int} {scopes_1 : Int} {oc_5 : consent_Consents} {od_8 : consent_Consents} {i_9 : Int} {gc_5 : Nat} {gd_8 : Nat}, law32_ConsentLimits_L3 r0 n pairs_0 scopes_1 oc_5 od_8 i_9 = some r → ∀ {ρ : Tags} {w : World}, (Fr (flat1 ρA) w0 ρ w) → (consent_Consents.O (fun p => 100 + p) ρ w gc_5 oc_5) → (consent_Consents.O (fun p => 200 + p) ρ w gd_8 od_8) → KE Try.prog 4 (Ret (fun v w' => v = .bool r ∧ Below w0.heap.size w0 w')) 65 [.inLoop (sub (bodyOf Try.f4) [2, 2, 2, 2, 2, 2, 1, 2, 2, 1]), .inBlock 2, .code (sub (bodyOf Try.f4) [2, 2, 2, 2, 2, 2, 2])] [(0, .int .i64 pairs_0), (1, .int .i64 scopes_1), (5, .pointer (some ⟨gc_5, 0, none⟩)), (8, .pointer (some ⟨gd_8, 0, none⟩)), (9, .int .i64 i_9)] w := fun {r} {pairs_0} {scopes_1} {oc_5} {od_8} {i_9} {gc_5} {gd_8} hS {ρ} {w} hb hoc_5 hod_8 => ke_inLoop (ih hS hb hoc_5 hod_8)
  clear ih
  intro r pairs_0 scopes_1 oc_5 od_8 i_9 gc_5 gd_8 hS ρ w hb hoc_5 hod_8
  unfold law32_ConsentLimits_L3 at hS
  obtain ⟨v49, hB51, h50⟩ := hoc_5
  replace hB51 : Blk ρ 100 w gc_5 (.cells #[v49] 52 (0, 0)) := hB51
  replace h50 : MapT consent_pair.ek (mapC str (intC .i64) false) false ρ 101 w v49 oc_5.pairs := h50
  obtain ⟨v52, hB54, h53⟩ := hod_8
  replace hB54 : Blk ρ 200 w gd_8 (.cells #[v52] 52 (0, 0)) := hB54
  replace h53 : MapT consent_pair.ek (mapC str (intC .i64) false) false ρ 201 w v52 od_8.pairs := h53
  refine ke_seq ?_
  refine ke_seq ?_
  refine ke_region ?_
  refine sr_ev (v := .int .i64 i_9) (ev_move rfl) (by decide) ?_
  refine sr_ev (v := .int .i64 scopes_1) (ev_move rfl) (by decide) ?_
  refine sr_ev (v := .bool (decide (i_9 < scopes_1))) (ev_lt rfl rfl) (by decide) ?_
  refine sr_end (l' := [(0, .int .i64 pairs_0), (1, .int .i64 scopes_1), (5, .pointer (some ⟨gc_5, 0, none⟩)), (8, .pointer (some ⟨gd_8, 0, none⟩)), (9, .int .i64 i_9), (37, .bool (decide (i_9 < scopes_1)))]) (.cons rfl (.cons rfl (.cons rfl (.cons rfl (.cons rfl (.cons rfl (.nil _))))))) ?_
  refine ke_cond (t := decide (i_9 < scopes_1)) rfl (fun hc55 => ?_) (fun hc55 => ?_)
  ·replace hS := ite_true' hS hc55
   refine ke_skip ?_
   refine ke_seq ?_
   refine ke_block ?_
   refine ke_seq ?_
   refine ke_region ?_
   refine sr_ev (v := .int .i64 0) (ev_assign rfl) (by decide) ?_
   refine sr_end (l' := [(0, .int .i64 pairs_0), (1, .int .i64 scopes_1), (5, .pointer (some ⟨gc_5, 0, none⟩)), (8, .pointer (some ⟨gd_8, 0, none⟩)), (9, .int .i64 i_9), (10, .int .i64 0)]) (.cons rfl (.cons rfl (.cons rfl (.cons rfl (.cons rfl (.cons rfl (.nil _))))))) ?_
   refine ke_seq ?_
   refine ke_seq ?_
   refine ke_region ?_
   refine sr_ev (v := .int .i64 i_9) (ev_move rfl) (by decide) ?_
   refine sr_ev (v := .bool (decide (i_9 ≥ 16))) (ev_ge rfl rfl) (by decide) ?_
   refine sr_end (l' := [(0, .int .i64 pairs_0), (1, .int .i64 scopes_1), (5, .pointer (some ⟨gc_5, 0, none⟩)), (8, .pointer (some ⟨gd_8, 0, none⟩)), (9, .int .i64 i_9), (10, .int .i64 0), (41, .bool (decide (i_9 ≥ 16)))]) (.cons rfl (.cons rfl (.cons rfl (.cons rfl (.cons rfl (.cons rfl (.cons rfl (.nil _)))))))) ?_
   refine ke_cond (t := decide (i_9 ≥ 16)) rfl (fun hc56 => ?_) (fun hc56 => ?_)
   ·replace hS := ite_true' hS hc56
    refine ke_region ?_
    refine sr_ev (v := .int .i64 3) (ev_assign rfl) (by decide) ?_
    refine sr_end (l' := [(0, .int .i64 pairs_0), (1, .int .i64 scopes_1), (5, .pointer (some ⟨gc_5, 0, none⟩)), (8, .pointer (some ⟨gd_8, 0, none⟩)), (9, .int .i64 i_9), (10, .int .i64 3)]) (.cons rfl (.cons rfl (.cons rfl (.cons rfl (.cons rfl (.cons rfl (.nil _))))))) ?_
    have hK := law32_ConsentLimits_B4_ok hg hbd hz _ _ hr0 hr1 hS hb ⟨_, hB51, h50⟩ ⟨_, hB54, h53⟩
    exact ke_weaken (l' := [(0, .int .i64 pairs_0), (1, .int .i64 scopes_1), (5, .pointer (some ⟨gc_5, 0, none⟩)), (8, .pointer (some ⟨gd_8, 0, none⟩)), (9, .int .i64 i_9), (10, .int .i64 3)]) (.cons rfl (.cons rfl (.cons rfl (.cons rfl (.cons rfl (.cons rfl (.nil _))))))) hK
   ·replace hS := ite_false' hS hc56
    refine ke_skip ?_
    have hK := law32_ConsentLimits_B4_ok hg hbd hz _ _ hr0 hr1 hS hb ⟨_, hB51, h50⟩ ⟨_, hB54, h53⟩
    exact ke_weaken (l' := [(0, .int .i64 pairs_0), (1, .int .i64 scopes_1), (5, .pointer (some ⟨gc_5, 0, none⟩)), (8, .pointer (some ⟨gd_8, 0, none⟩)), (9, .int .i64 i_9), (10, .int .i64 0)]) (.cons rfl (.cons rfl (.cons rfl (.cons rfl (.cons rfl (.cons rfl (.nil _))))))) hK
  ·replace hS := ite_false' hS hc55
   refine ke_exit (k' := _) rfl ?_
   refine ke_seq ?_
   refine ke_region ?_
   refine sr_ev (v := .pointer (some ⟨gc_5, 0, none⟩)) (ev_move rfl) (by decide) ?_
   obtain ⟨y83, hy84, hS⟩ := bind_some' hS
   refine sr_call (vs := [.pointer (some ⟨gc_5, 0, none⟩)]) rfl Try.call14 rfl (consent_Consents_Len_ok _ (hg.fr hz hb) (ρA := ρ) hb.bd (hz.fr hg hb) (τ0 := (fun p => 100 + p)) (fun p => Nat.le_add_right_of_le (by decide)) (⟨_, hB51, h50⟩ : consent_Consents.O (fun p => 100 + p) ρ w gc_5 oc_5) hy84) (by decide) ?_
   rintro _ w85 ⟨rfl, hbw86⟩
   have htr87 := Tr.of_below hbw86 hb.bd
   replace hB54 := hB54.mv (htr87.mv (i := 200) rfl)
   replace h53 := h53.mv (htr87.mv (i := 201) rfl)
   replace hb := hb.trans htr87
   refine sr_ev (v := .int .i64 pairs_0) (ev_move rfl) (by decide) ?_
   refine sr_ev (v := .int .i64 (gmin pairs_0 256)) (ev_min rfl rfl) (by decide) ?_
   refine sr_ev (v := .bool (y83 == (gmin pairs_0 256))) (ev_eq rfl rfl) (by decide) ?_
   refine sr_ev (v := .bool (y83 == (gmin pairs_0 256))) (ev_move rfl) (by decide) ?_
   obtain ⟨z90, hz92, hS⟩ := bind_some' hS
   refine sr_join (m := 7) (C := fun (z : Bool) w1 => z90 = z ∧ ∃ ρ1, Tr ρ w85 (fun _ => false) ρ1 w1) (l' := fun z => [(61, .bool z)]) ?_ ?_
   ·rintro _ w93 ⟨rfl, ρ94, hj91⟩
    replace hb := hb.trans hj91
    refine sr_ev (v := .bool z90) (ev_move rfl) (by decide) ?_
    obtain ⟨z105, hz107, hS⟩ := bind_some' hS
    refine sr_join (m := 2) (C := fun (z : Bool) w1 => z105 = z ∧ ∃ ρ1, Tr ρ94 w93 (fun _ => false) ρ1 w1) (l' := fun z => [(64, .bool z)]) ?_ ?_
    ·rintro _ w108 ⟨rfl, ρ109, hj106⟩
     replace hb := hb.trans hj106
     refine sr_ev (v := .bool z105) (ev_assign rfl) (by decide) ?_
     refine sr_end (l' := [(4, .bool z105)]) (.cons rfl (.nil _)) ?_
     cases hS
     exact ke_ret1 Try.func4 rfl rfl ⟨_, rfl, rfl, (hb.below (flat1_le _))⟩
    ·intro K104
     clear hS
     have hj106 : Tr ρ94 w93 (fun _ => false) ρ94 w93 := (Tr.refl hb.bd).weak (fun _ _ => rfl) rfl rfl
     rcases Bool.eq_false_or_eq_true z90 with hg103 | hg103
     ·have hS := ite_true' hz107 hg103
      obtain ⟨y111, hy112, hS⟩ := bind_some' hS
      refine sr_callg (b := true) (e := 62) rfl rfl hg103 (vs := []) rfl Try.call9 rfl (law32_awake_ok _ (hg.fr hz hb) (ρA := ρ94) hb.bd (hz.fr hg hb) hy112) (by decide) ?_
      rintro _ w113 ⟨rfl, hbw114⟩
      have htr115 := Tr.of_below hbw114 hb.bd
      replace hb := hb.trans htr115
      replace hj106 := (hj106.trans htr115).weak (J' := (fun _ => false)) (by intro t h; simp [rng] at h ⊢ <;> omega) rfl rfl
      refine sr_ev (v := .bool y111) (ev_pick_t rfl hg103 rfl) (by decide) ?_
      exact sr_weaken (l' := [(64, .bool y111)]) (.cons rfl (.nil _)) (K104 y111 _ ⟨(Option.some.inj hS).symm, _, hj106⟩)
     ·have hS := ite_false' hz107 hg103
      refine sr_pass (e := 62) rfl rfl (by rw [hg103]; rfl) (by decide) ?_
      refine sr_ev (v := .bool false) (ev_pick_f rfl hg103 rfl) (by decide) ?_
      exact sr_weaken (l' := [(64, .bool false)]) (.cons rfl (.nil _)) (K104 false _ ⟨(Option.some.inj hS).symm, _, hj106⟩)
   ·intro K89
    clear hS
    have hj91 : Tr ρ w85 (fun _ => false) ρ w85 := (Tr.refl hb.bd).weak (fun _ _ => rfl) rfl rfl
    rcases Bool.eq_false_or_eq_true (y83 == (gmin pairs_0 256)) with hg88 | hg88
    ·have hS := ite_true' hz92 hg88
     refine sr_evg (b := true) (e := 54) rfl rfl hg88 (v := .pointer (some ⟨gd_8, 0, none⟩)) (ev_move rfl) (by decide) ?_
     obtain ⟨y96, hy97, hS⟩ := bind_some' hS
     refine sr_callg (b := true) (e := 54) rfl rfl hg88 (vs := [.pointer (some ⟨gd_8, 0, none⟩), str ([97, 110, 110]), str ([119, 101, 98]), .int .i64 1]) rfl Try.call17 rfl (consent_Consents_Scopes_ok _ (hg.fr hz hb) (ρA := ρ) hb.bd (hz.fr hg hb) (τ0 := (fun p => 200 + p)) (fun p => Nat.le_add_right_of_le (by decide)) (⟨_, hB54, h53⟩ : consent_Consents.O (fun p => 200 + p) ρ w85 gd_8 od_8) hy97) (by decide) ?_
     rintro v101 w98 ⟨_, rfl, h102, hbw99⟩
     have htr100 := Tr.of_below hbw99 hb.bd
     replace hb := hb.trans htr100
     replace hj91 := (hj91.trans htr100).weak (J' := (fun _ => false)) (by intro t h; simp [rng] at h ⊢ <;> omega) rfl rfl
     refine sr_evg (b := true) (e := 54) rfl rfl hg88 (v := .int .i64 (y96.length : Int)) (ev_sllen Try.underlying30 rfl h102.asSl) (by decide) ?_
     refine sr_evg (b := true) (e := 54) rfl rfl hg88 (v := .int .i64 scopes_1) (ev_move rfl) (by decide) ?_
     refine sr_evg (b := true) (e := 54) rfl rfl hg88 (v := .int .i64 (gmin scopes_1 16)) (ev_min rfl rfl) (by decide) ?_
     refine sr_evg (b := true) (e := 54) rfl rfl hg88 (v := .bool ((y96.length : Int) == (gmin scopes_1 16))) (ev_eq rfl rfl) (by decide) ?_
     refine sr_ev (v := .bool ((y96.length : Int) == (gmin scopes_1 16))) (ev_pick_t rfl hg88 rfl) (by decide) ?_
     exact sr_weaken (l' := [(61, .bool ((y96.length : Int) == (gmin scopes_1 16)))]) (.cons rfl (.nil _)) (K89 ((y96.length : Int) == (gmin scopes_1 16)) _ ⟨(Option.some.inj hS).symm, _, hj91⟩)
    ·have hS := ite_false' hz92 hg88
     refine sr_pass (e := 54) rfl rfl (by rw [hg88]; rfl) (by decide) ?_
     refine sr_pass (e := 54) rfl rfl (by rw [hg88]; rfl) (by decide) ?_
     refine sr_pass (e := 54) rfl rfl (by rw [hg88]; rfl) (by decide) ?_
     refine sr_pass (e := 54) rfl rfl (by rw [hg88]; rfl) (by decide) ?_
     refine sr_pass (e := 54) rfl rfl (by rw [hg88]; rfl) (by decide) ?_
     refine sr_pass (e := 54) rfl rfl (by rw [hg88]; rfl) (by decide) ?_
     refine sr_ev (v := .bool false) (ev_pick_f rfl hg88 rfl) (by decide) ?_
     exact sr_weaken (l' := [(61, .bool false)]) (.cons rfl (.nil _)) (K89 false _ ⟨(Option.some.inj hS).symm, _, hj91⟩)
theorem law32_ConsentLimits_L1_ok {w0 : World} (hg : Gs w0) {ρA : Tags} (hbd : ∀ b, ρA b ≠ 0 → b < w0.heap.size) (hz : Gz (flat1 ρA)) : ∀ (n : Nat), ∀ {r : Bool} {pairs_0 : Int} {scopes_1 : Int} {oc_5 : consent_Consents} {i_6 : Int} {gc_5 : Nat}, law32_ConsentLimits_L1 n pairs_0 scopes_1 oc_5 i_6 = some r → ∀ {ρ : Tags} {w : World}, (Fr (flat1 ρA) w0 ρ w) → (consent_Consents.O (fun p => 100 + p) ρ w gc_5 oc_5) → KE Try.prog 4 (Ret (fun v w' => v = .bool r ∧ Below w0.heap.size w0 w')) 65 [.code (sub (bodyOf Try.f4) [2, 2, 2, 2, 1, 2, 2, 1]), .inLoop (sub (bodyOf Try.f4) [2, 2, 2, 2, 1, 2, 2, 1]), .inBlock 0, .code (sub (bodyOf Try.f4) [2, 2, 2, 2, 2])] [(0, .int .i64 pairs_0), (1, .int .i64 scopes_1), (5, .pointer (some ⟨gc_5, 0, none⟩)), (6, .int .i64 i_6)] w := by
 intro n
 induction n with
 | zero => intro r pairs_0 scopes_1 oc_5 i_6 gc_5 hS; cases hS
 | succ n ih =>
  have hr0 : ∀ {r : Bool} {pairs_0 : Int} {scopes_1 : Int} {oc_5 : consent_Consents} {i_6 : Int} {gc_5 : Nat}, law32_ConsentLimits_L1 n pairs_0 scopes_1 oc_5 i_6 = some r → ∀ {ρ : Tags} {w : World}, (Fr (flat1 ρA) w0 ρ w) → (consent_Consents.O (fun p => 100 + p) ρ w gc_5 oc_5) → KE Try.prog 4 (Ret (fun v w' => v = .bool r ∧ Below w0.heap.size w0 w')) 65 [.inLoop (sub (bodyOf Try.f4) [2, 2, 2, 2, 1, 2, 2, 1]), .inBlock 0, .code (sub (bodyOf Try.f4) [2, 2, 2, 2, 2])] [(0, .int .i64 pairs_0), (1, .int .i64 scopes_1), (5, .pointer (some ⟨gc_5, 0, none⟩)), (6, .int .i64 i_6)] w := fun {r} {pairs_0} {scopes_1} {oc_5} {i_6} {gc_5} hS {ρ} {w} hb hoc_5 => ke_inLoop (ih hS hb hoc_5)
  clear ih
  intro r pairs_0 scopes_1 oc_5 i_6 gc_5 hS ρ w hb hoc_5
  unfold law32_ConsentLimits_L1 at hS
  obtain ⟨v11, hB13, h12⟩ := hoc_5
  replace hB13 : Blk ρ 100 w gc_5 (.cells #[v11] 52 (0, 0)) := hB13
  replace h12 : MapT consent_pair.ek (mapC str (intC .i64) false) false ρ 101 w v11 oc_5.pairs := h12
  refine ke_seq ?_
  refine ke_seq ?_
  refine ke_region ?_
  refine sr_ev (v := .int .i64 i_6) (ev_move rfl) (by decide) ?_
  refine sr_ev (v := .int .i64 pairs_0) (ev_move rfl) (by decide) ?_
  refine sr_ev (v := .bool (decide (i_6 < pairs_0))) (ev_lt rfl rfl) (by decide) ?_
  refine sr_end (l' := [(0, .int .i64 pairs_0), (1, .int .i64 scopes_1), (5, .pointer (some ⟨gc_5, 0, none⟩)), (6, .int .i64 i_6), (22, .bool (decide (i_6 < pairs_0)))]) (.cons rfl (.cons rfl (.cons rfl (.cons rfl (.cons rfl (.nil _)))))) ?_
  refine ke_cond (t := decide (i_6 < pairs_0)) rfl (fun hc14 => ?_) (fun hc14 => ?_)
  ·replace hS := ite_true' hS hc14
   refine ke_skip ?_
   refine ke_seq ?_
   refine ke_block ?_
   refine ke_seq ?_
   refine ke_region ?_
   refine sr_ev (v := .int .i64 0) (ev_assign rfl) (by decide) ?_
   refine sr_end (l' := [(0, .int .i64 pairs_0), (1, .int .i64 scopes_1), (5, .pointer (some ⟨gc_5, 0, none⟩)), (6, .int .i64 i_6), (7, .int .i64 0)]) (.cons rfl (.cons rfl (.cons rfl (.cons rfl (.cons rfl (.nil _)))))) ?_
   refine ke_seq ?_
   refine ke_seq ?_
   refine ke_region ?_
   refine sr_ev (v := .int .i64 i_6) (ev_move rfl) (by decide) ?_
   refine sr_ev (v := .bool (decide (i_6 ≥ 256))) (ev_ge rfl rfl) (by decide) ?_
   refine sr_end (l' := [(0, .int .i64 pairs_0), (1, .int .i64 scopes_1), (5, .pointer (some ⟨gc_5, 0, none⟩)), (6, .int .i64 i_6), (7, .int .i64 0), (26, .bool (decide (i_6 ≥ 256)))]) (.cons rfl (.cons rfl (.cons rfl (.cons rfl (.cons rfl (.cons rfl (.nil _))))))) ?_
   refine ke_cond (t := decide (i_6 ≥ 256)) rfl (fun hc15 => ?_) (fun hc15 => ?_)
   ·replace hS := ite_true' hS hc15
    refine ke_region ?_
    refine sr_ev (v := .int .i64 3) (ev_assign rfl) (by decide) ?_
    refine sr_end (l' := [(0, .int .i64 pairs_0), (1, .int .i64 scopes_1), (5, .pointer (some ⟨gc_5, 0, none⟩)), (6, .int .i64 i_6), (7, .int .i64 3)]) (.cons rfl (.cons rfl (.cons rfl (.cons rfl (.cons rfl (.nil _)))))) ?_
    have hK := law32_ConsentLimits_B2_ok hg hbd hz _ hr0 hS hb ⟨_, hB13, h12⟩
    exact ke_weaken (l' := [(0, .int .i64 pairs_0), (1, .int .i64 scopes_1), (5, .pointer (some ⟨gc_5, 0, none⟩)), (6, .int .i64 i_6), (7, .int .i64 3)]) (.cons rfl (.cons rfl (.cons rfl (.cons rfl (.cons rfl (.nil _)))))) hK
   ·replace hS := ite_false' hS hc15
    refine ke_skip ?_
    have hK := law32_ConsentLimits_B2_ok hg hbd hz _ hr0 hS hb ⟨_, hB13, h12⟩
    exact ke_weaken (l' := [(0, .int .i64 pairs_0), (1, .int .i64 scopes_1), (5, .pointer (some ⟨gc_5, 0, none⟩)), (6, .int .i64 i_6), (7, .int .i64 0)]) (.cons rfl (.cons rfl (.cons rfl (.cons rfl (.cons rfl (.nil _)))))) hK
  ·replace hS := ite_false' hS hc14
   refine ke_exit (k' := _) rfl ?_
   refine ke_seq ?_
   refine ke_region ?_
   obtain ⟨y39, hy40, hS⟩ := bind_some' hS
   refine sr_call (vs := []) rfl Try.call10 rfl (consent_New_ok _ (hg.fr hz hb) (ρA := ρ) hb.bd (hz.fr hg hb) (o := 200) (by decide) hy40) (by decide) ?_
   rintro _ w41 ⟨ρ48, g44, rfl, ⟨v45, hB47, h46⟩, htr43⟩
   replace hB13 := hB13.mv (htr43.mv (i := 100) rfl)
   replace h12 := h12.mv (htr43.mv (i := 101) rfl)
   replace hb := hb.trans htr43
   replace hB47 : Blk ρ48 200 w41 g44 (.cells #[v45] 52 (0, 0)) := hB47
   replace h46 : MapT consent_pair.ek (mapC str (intC .i64) false) false ρ48 201 w41 v45 y39.pairs := h46
   refine sr_ev (v := .pointer (some ⟨g44, 0, none⟩)) (ev_assign rfl) (by decide) ?_
   refine sr_end (l' := [(0, .int .i64 pairs_0), (1, .int .i64 scopes_1), (5, .pointer (some ⟨gc_5, 0, none⟩)), (8, .pointer (some ⟨g44, 0, none⟩))]) (.cons rfl (.cons rfl (.cons rfl (.cons rfl (.nil _))))) ?_
   refine ke_seq ?_
   refine ke_seq ?_
   refine ke_region ?_
   refine sr_ev (v := .int .i64 0) (ev_assign rfl) (by decide) ?_
   refine sr_end (l' := [(0, .int .i64 pairs_0), (1, .int .i64 scopes_1), (5, .pointer (some ⟨gc_5, 0, none⟩)), (8, .pointer (some ⟨g44, 0, none⟩)), (9, .int .i64 0)]) (.cons rfl (.cons rfl (.cons rfl (.cons rfl (.cons rfl (.nil _)))))) ?_
   refine ke_block ?_
   have hK := law32_ConsentLimits_L3_ok hg hbd hz _ hr0 _ hS hb ⟨_, hB13, h12⟩ ⟨_, hB47, h46⟩
   exact ke_weaken (l' := [(0, .int .i64 pairs_0), (1, .int .i64 scopes_1), (5, .pointer (some ⟨gc_5, 0, none⟩)), (8, .pointer (some ⟨g44, 0, none⟩)), (9, .int .i64 0)]) (.cons rfl (.cons rfl (.cons rfl (.cons rfl (.cons rfl (.nil _)))))) (ke_loop hK)
theorem law32_ConsentLimits_ok (w0 : World) (hg : Gs w0) {ρA : Tags} (hbd : ∀ b, ρA b ≠ 0 → b < w0.heap.size) (hz : Gz ρA) {pairs_0 : Int} {scopes_1 : Int} {r : Bool} (hS : law32_ConsentLimits pairs_0 scopes_1 = some r) :
  Calls Try.prog 4 #[.int .i64 pairs_0, .int .i64 scopes_1] w0 (Ret (fun v w' => v = .bool r ∧ Below w0.heap.size w0 w')) := by
 unfold law32_ConsentLimits at hS
 have hb := flat1_fr (ρ := ρA) (w := w0) hbd
 have hz := hz.flat1
 refine calls_of_ke Try.func4 rfl (n := 65) rfl rfl (l := [(0, .int .i64 pairs_0), (1, .int .i64 scopes_1)]) rfl ?_
 refine ke_seq ?_
 refine ke_region ?_
 refine sr_ev (v := .bool false) (ev_assign rfl) (by decide) ?_
 refine sr_end (l' := [(0, .int .i64 pairs_0), (1, .int .i64 scopes_1)]) (.cons rfl (.cons rfl (.nil _))) ?_
 refine ke_seq ?_
 refine ke_region ?_
 refine sr_ev (v := .int .i64 pairs_0) (ev_move rfl) (by decide) ?_
 refine sr_ev (v := .int .i64 (gmin pairs_0 300)) (ev_min rfl rfl) (by decide) ?_
 refine sr_ev (v := .int .i64 (gmax 0 (gmin pairs_0 300))) (ev_max rfl rfl) (by decide) ?_
 refine sr_ev (v := .int .i64 scopes_1) (ev_move rfl) (by decide) ?_
 refine sr_ev (v := .int .i64 (gmin scopes_1 40)) (ev_min rfl rfl) (by decide) ?_
 refine sr_ev (v := .int .i64 (gmax 0 (gmin scopes_1 40))) (ev_max rfl rfl) (by decide) ?_
 refine sr_ev (v := .int .i64 (gmax 0 (gmin pairs_0 300))) (ev_assign rfl) (by decide) ?_
 refine sr_ev (v := .int .i64 (gmax 0 (gmin scopes_1 40))) (ev_assign rfl) (by decide) ?_
 refine sr_end (l' := [(0, .int .i64 (gmax 0 (gmin pairs_0 300))), (1, .int .i64 (gmax 0 (gmin scopes_1 40)))]) (.cons rfl (.cons rfl (.nil _))) ?_
 refine ke_seq ?_
 refine ke_region ?_
 obtain ⟨y1, hy2, hS⟩ := bind_some' hS
 refine sr_call (vs := []) rfl Try.call10 rfl (consent_New_ok _ (hg.fr hz hb) (ρA := (flat1 ρA)) hb.bd (hz.fr hg hb) (o := 100) (by decide) hy2) (by decide) ?_
 rintro _ w3 ⟨ρ10, g6, rfl, ⟨v7, hB9, h8⟩, htr5⟩
 replace hb := hb.trans htr5
 replace hB9 : Blk ρ10 100 w3 g6 (.cells #[v7] 52 (0, 0)) := hB9
 replace h8 : MapT consent_pair.ek (mapC str (intC .i64) false) false ρ10 101 w3 v7 y1.pairs := h8
 refine sr_ev (v := .pointer (some ⟨g6, 0, none⟩)) (ev_assign rfl) (by decide) ?_
 refine sr_end (l' := [(0, .int .i64 (gmax 0 (gmin pairs_0 300))), (1, .int .i64 (gmax 0 (gmin scopes_1 40))), (5, .pointer (some ⟨g6, 0, none⟩))]) (.cons rfl (.cons rfl (.cons rfl (.nil _)))) ?_
 refine ke_seq ?_
 refine ke_seq ?_
 refine ke_region ?_
 refine sr_ev (v := .pointer (some ⟨g6, 0, none⟩)) (ev_move rfl) (by decide) ?_
 refine sr_ev (v := .bool false) (ev_peqT_some Try.underlying25 rfl rfl) (by decide) ?_
 refine sr_end (l' := [(0, .int .i64 (gmax 0 (gmin pairs_0 300))), (1, .int .i64 (gmax 0 (gmin scopes_1 40))), (5, .pointer (some ⟨g6, 0, none⟩)), (19, .bool false)]) (.cons rfl (.cons rfl (.cons rfl (.cons rfl (.nil _))))) ?_
 refine ke_cond (t := false) rfl (fun h => by cases h) (fun _ => ?_)
 refine ke_skip ?_
 refine ke_seq ?_
 refine ke_seq ?_
 refine ke_region ?_
 refine sr_ev (v := .int .i64 0) (ev_assign rfl) (by decide) ?_
 refine sr_end (l' := [(0, .int .i64 (gmax 0 (gmin pairs_0 300))), (1, .int .i64 (gmax 0 (gmin scopes_1 40))), (5, .pointer (some ⟨g6, 0, none⟩)), (6, .int .i64 0)]) (.cons rfl (.cons rfl (.cons rfl (.cons rfl (.nil _))))) ?_
 refine ke_block ?_
 have hK := law32_ConsentLimits_L1_ok hg hbd hz _ hS hb ⟨_, hB9, h8⟩
 exact ke_weaken (l' := [(0, .int .i64 (gmax 0 (gmin pairs_0 300))), (1, .int .i64 (gmax 0 (gmin scopes_1 40))), (5, .pointer (some ⟨g6, 0, none⟩)), (6, .int .i64 0)]) (.cons rfl (.cons rfl (.cons rfl (.cons rfl (.nil _))))) (ke_loop hK)
end Ytijiipelpgmhpaa
end Go.Proofs
