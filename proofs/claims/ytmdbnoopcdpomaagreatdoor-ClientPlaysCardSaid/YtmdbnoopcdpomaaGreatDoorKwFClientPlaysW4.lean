/- Own work: a part of the proofs of this seat. -/
import Derived.Test.YtmdbnoopcdpomaaGreatDoorProg
import Derived.Test.YtmdbnoopcdpomaaGreatDoorShelf
import Derived.Test.YtmdbnoopcdpomaaGreatDoorIter
import Derived.Test.YtmdbnoopcdpomaaGreatDoorKwFS
import Derived.KernelRfl
import Derived.Test.YtmdbnoopcdpomaaGreatDoorKwFClientPlaysW3
set_option linter.unusedVariables false
set_option linter.unusedSimpArgs false
set_option linter.unusedSectionVars false
set_option maxHeartbeats 8000000
set_option maxRecDepth 8000
namespace Go.Proofs
namespace YtmdbnoopcdpomaaGreatDoor
open Go Go.KW Go.KW.S Go.RowKit
theorem law36_ClientPlays_L1_ok {w0 : World} (hg : Gs w0) {ρA : Tags} (hbd : ∀ b, ρA b ≠ 0 → b < w0.heap.size) (hz : Gz (flat1 ρA)) : ∀ (n : Nat), ∀ {r : Bool} {l_0 : List law36_Op} {or_3 : client_Clients} {os_4 : ref36_Clients} {i_5 : Int} {vl_0 : Value} {gr_3 : Nat} {gs_4 : Nat}, law36_ClientPlays_L1 n l_0 or_3 os_4 i_5 = some r → ∀ {ρ : Tags} {w : World}, (Fr (flat1 ρA) w0 ρ w) → (SlR law36_Op.c (Wb ρ) w vl_0 l_0) → (client_Clients.O (fun p => 100 + p) ρ w gr_3 or_3) → (ref36_Clients.O (fun p => 200 + p) ρ w gs_4 os_4) → KE Tryz.prog 5 (Ret (fun v w' => v = .bool r ∧ Below w0.heap.size w0 w')) 131 [.code (sub (bodyOf Tryz.f5) [2, 2, 2, 2, 1, 2, 2, 1]), .inLoop (sub (bodyOf Tryz.f5) [2, 2, 2, 2, 1, 2, 2, 1]), .inBlock 0, .code (sub (bodyOf Tryz.f5) [2, 2, 2, 2, 2])] [(0, vl_0), (3, .pointer (some ⟨gr_3, 0, none⟩)), (4, .pointer (some ⟨gs_4, 0, none⟩)), (5, .int .i64 i_5)] w := by
 intro n
 induction n with
 | zero => intro r l_0 or_3 os_4 i_5 vl_0 gr_3 gs_4 hS; cases hS
 | succ n ih =>
  have hr0 : ∀ {r : Bool} {l_0 : List law36_Op} {or_3 : client_Clients} {os_4 : ref36_Clients} {i_5 : Int} {vl_0 : Value} {gr_3 : Nat} {gs_4 : Nat}, law36_ClientPlays_L1 n l_0 or_3 os_4 i_5 = some r → ∀ {ρ : Tags} {w : World}, (Fr (flat1 ρA) w0 ρ w) → (SlR law36_Op.c (Wb ρ) w vl_0 l_0) → (client_Clients.O (fun p => 100 + p) ρ w gr_3 or_3) → (ref36_Clients.O (fun p => 200 + p) ρ w gs_4 os_4) → KE Tryz.prog 5 (Ret (fun v w' => v = .bool r ∧ Below w0.heap.size w0 w')) 131 [.inLoop (sub (bodyOf Tryz.f5) [2, 2, 2, 2, 1, 2, 2, 1]), .inBlock 0, .code (sub (bodyOf Tryz.f5) [2, 2, 2, 2, 2])] [(0, vl_0), (3, .pointer (some ⟨gr_3, 0, none⟩)), (4, .pointer (some ⟨gs_4, 0, none⟩)), (5, .int .i64 i_5)] w := fun {r} {l_0} {or_3} {os_4} {i_5} {vl_0} {gr_3} {gs_4} hS {ρ} {w} hb hl_0 hor_3 hos_4 => ke_inLoop (ih hS hb hl_0 hor_3 hos_4)
  clear ih
  intro r l_0 or_3 os_4 i_5 vl_0 gr_3 gs_4 hS ρ w hb hl_0 hor_3 hos_4
  unfold law36_ClientPlays_L1 at hS
  obtain ⟨v34, hB36, h35⟩ := hor_3
  replace hB36 : Blk ρ 100 w gr_3 (.cells #[v34] 57 (0, 0)) := hB36
  replace h35 : MapT str api_Client.c true ρ 101 w v34 or_3.of_ := h35
  obtain ⟨v37, hB39, h38⟩ := hos_4
  replace hB39 : Blk ρ 200 w gs_4 (.cells #[v37, .bool os_4.made] 73 (0, 0)) := hB39
  replace h38 : OwnT api_Client.c 27 ρ 201 w v37 os_4.list := h38
  refine ke_seq ?_
  refine ke_seq ?_
  refine ke_region ?_
  refine sr_ev (v := .int .i64 i_5) (ev_move rfl) (by decide) ?_
  refine sr_ev (v := vl_0) (ev_move rfl) (by decide) ?_
  refine sr_ev (v := .int .i64 (l_0.length : Int)) (ev_sllen Tryz.underlying39 rfl hl_0.asSl) (by decide) ?_
  refine sr_ev (v := .bool (decide (i_5 < (l_0.length : Int)))) (ev_lt rfl rfl) (by decide) ?_
  refine sr_end (l' := [(0, vl_0), (3, .pointer (some ⟨gr_3, 0, none⟩)), (4, .pointer (some ⟨gs_4, 0, none⟩)), (5, .int .i64 i_5), (23, .bool (decide (i_5 < (l_0.length : Int))))]) (.cons rfl (.cons rfl (.cons rfl (.cons rfl (.cons rfl (.nil _)))))) ?_
  refine ke_cond (t := decide (i_5 < (l_0.length : Int))) rfl (fun hc40 => ?_) (fun hc40 => ?_)
  ·replace hS := ite_true' hS hc40
   refine ke_skip ?_
   refine ke_seq ?_
   refine ke_block ?_
   refine ke_seq ?_
   refine ke_region ?_
   refine sr_ev (v := vl_0) (ev_move rfl) (by decide) ?_
   refine sr_ev (v := .int .i64 i_5) (ev_move rfl) (by decide) ?_
   obtain ⟨y41, hy42, hS⟩ := bind_some' hS
   obtain ⟨b43, o44, cs46, hq47, he45⟩ := ((SlT.of_sl (i := 0) hl_0)).elem (P := Tryz.prog) Tryz.underlying39 Tryz.info44 rfl hy42
   obtain ⟨v48, v50, v52, hcshe45, h49, h51, h53⟩ := he45.rd
   obtain rfl : cs46 = [.int .i64 y41.Kind, str y41.Client.ID, .int .i64 y41.Client.Kind, str y41.Client.Tenant, str y41.Client.Secret.Salt, .int .i64 y41.Client.Secret.Rounds, str y41.Client.Secret.Hash, v48, v50, str y41.Client.Logout, str y41.ID, str y41.S, v52] := hcshe45
   refine sr_ev (v := .pointer (some ⟨b43, o44, none⟩)) (hq47 w rfl rfl) (by decide) ?_
   refine sr_ev (v := .agg #[.int .i64 y41.Kind, str y41.Client.ID, .int .i64 y41.Client.Kind, str y41.Client.Tenant, str y41.Client.Secret.Salt, .int .i64 y41.Client.Secret.Rounds, str y41.Client.Secret.Hash, v48, v50, str y41.Client.Logout, str y41.ID, str y41.S, v52]) (ev_loads (cs := [.int .i64 y41.Kind, str y41.Client.ID, .int .i64 y41.Client.Kind, str y41.Client.Tenant, str y41.Client.Secret.Salt, .int .i64 y41.Client.Secret.Rounds, str y41.Client.Secret.Hash, v48, v50, str y41.Client.Logout, str y41.ID, str y41.S, v52]) Tryz.isAgg44 Tryz.sizeOf44 rfl he45.cell) (by decide) ?_
   refine sr_allocT 8 (by decide) hb.bd Tryz.zeroValue44 (by decide) ?_
   intro g54 ρ55 w56 hB58 htr57
   replace hl_0 := hl_0.mv htr57.rd
   replace h49 := h49.mv htr57.rd
   replace h51 := h51.mv htr57.rd
   replace h53 := h53.mv htr57.rd
   replace hB36 := hB36.mv (htr57.mv (i := 100) rfl)
   replace h35 := h35.mv (htr57.mv (i := 101) rfl)
   replace hB39 := hB39.mv (htr57.mv (i := 200) rfl)
   replace h38 := h38.mv (htr57.mv (i := 201) rfl) (by decide)
   replace hb := hb.trans htr57
   replace hB58 : Blk ρ55 8 w56 g54 (.cells #[.int .i64 0, str ([]), .int .i64 0, str ([]), str ([]), .int .i64 0, str ([]), (.slice none 0 0), (.slice none 0 0), str ([]), str ([]), str ([]), (.slice none 0 0)] 44 (0, 0)) := hB58
   refine sr_storeT (v := .agg #[.int .i64 y41.Kind, str y41.Client.ID, .int .i64 y41.Client.Kind, str y41.Client.Tenant, str y41.Client.Secret.Salt, .int .i64 y41.Client.Secret.Rounds, str y41.Client.Secret.Hash, v48, v50, str y41.Client.Logout, str y41.ID, str y41.S, v52]) (vs := [.int .i64 y41.Kind, str y41.Client.ID, .int .i64 y41.Client.Kind, str y41.Client.Tenant, str y41.Client.Secret.Salt, .int .i64 y41.Client.Secret.Rounds, str y41.Client.Secret.Hash, v48, v50, str y41.Client.Logout, str y41.ID, str y41.S, v52]) (cs' := #[.int .i64 y41.Kind, str y41.Client.ID, .int .i64 y41.Client.Kind, str y41.Client.Tenant, str y41.Client.Secret.Salt, .int .i64 y41.Client.Secret.Rounds, str y41.Client.Secret.Hash, v48, v50, str y41.Client.Logout, str y41.ID, str y41.S, v52]) hB58 (by decide) hb.bd rfl rfl rfl Tryz.sizeOf44 rfl (by first | rfl | (simp only [List.all_cons, List.all_nil, SlR.oneCell h49, SlR.oneCell h51, SlR.oneCell h53]; done) | (simp only [List.all_cons, List.all_nil, SlR.oneCell h49, SlR.oneCell h51, SlR.oneCell h53]; rfl)) rfl ?_
   intro w59 hB581 htr60
   replace hl_0 := hl_0.mv htr60.rd
   replace h49 := h49.mv htr60.rd
   replace h51 := h51.mv htr60.rd
   replace h53 := h53.mv htr60.rd
   replace hB36 := hB36.mv (htr60.mv (i := 100) rfl)
   replace h35 := h35.mv (htr60.mv (i := 101) rfl)
   replace hB39 := hB39.mv (htr60.mv (i := 200) rfl)
   replace h38 := h38.mv (htr60.mv (i := 201) rfl) (by decide)
   replace hb := hb.trans htr60
   replace hB58 : Blk ρ55 8 w59 g54 (.cells #[.int .i64 y41.Kind, str y41.Client.ID, .int .i64 y41.Client.Kind, str y41.Client.Tenant, str y41.Client.Secret.Salt, .int .i64 y41.Client.Secret.Rounds, str y41.Client.Secret.Hash, v48, v50, str y41.Client.Logout, str y41.ID, str y41.S, v52] 44 (0, 0)) := hB581
   clear hB581
   refine sr_end (l' := [(0, vl_0), (3, .pointer (some ⟨gr_3, 0, none⟩)), (4, .pointer (some ⟨gs_4, 0, none⟩)), (5, .int .i64 i_5), (6, .pointer (some ⟨g54, 0, none⟩))]) (.cons rfl (.cons rfl (.cons rfl (.cons rfl (.cons rfl (.nil _)))))) ?_
   refine ke_seq ?_
   refine ke_region ?_
   refine sr_ev (v := .bool true) (ev_assign rfl) (by decide) ?_
   refine sr_end (l' := [(0, vl_0), (3, .pointer (some ⟨gr_3, 0, none⟩)), (4, .pointer (some ⟨gs_4, 0, none⟩)), (5, .int .i64 i_5), (6, .pointer (some ⟨g54, 0, none⟩))]) (.cons rfl (.cons rfl (.cons rfl (.cons rfl (.cons rfl (.nil _)))))) ?_
   refine ke_seq ?_
   refine ke_seq ?_
   refine ke_region ?_
   refine sr_ev (v := .pointer (some ⟨g54, 0, none⟩)) (ev_fieldAddr (i := 0) Tryz.underlying44 rfl Tryz.info3 rfl rfl) (by decide) ?_
   refine sr_ev (v := .int .i64 y41.Kind) (ev_load Tryz.isAgg3 rfl (hB58.cell rfl)) (by decide) ?_
   refine sr_end (l' := [(0, vl_0), (3, .pointer (some ⟨gr_3, 0, none⟩)), (4, .pointer (some ⟨gs_4, 0, none⟩)), (5, .int .i64 i_5), (6, .pointer (some ⟨g54, 0, none⟩)), (31, .int .i64 y41.Kind)]) (.cons rfl (.cons rfl (.cons rfl (.cons rfl (.cons rfl (.cons rfl (.nil _))))))) ?_
   refine ke_block ?_
   refine ke_seq ?_
   refine ke_region ?_
   refine sr_ev (v := .bool (y41.Kind == 0)) (ev_eq rfl rfl) (by decide) ?_
   refine sr_ev (v := .bool (y41.Kind == 0)) (ev_assign rfl) (by decide) ?_
   refine sr_end (l' := [(0, vl_0), (3, .pointer (some ⟨gr_3, 0, none⟩)), (4, .pointer (some ⟨gs_4, 0, none⟩)), (5, .int .i64 i_5), (6, .pointer (some ⟨g54, 0, none⟩)), (31, .int .i64 y41.Kind), (37, .bool (y41.Kind == 0))]) (.cons rfl (.cons rfl (.cons rfl (.cons rfl (.cons rfl (.cons rfl (.cons rfl (.nil _)))))))) ?_
   refine ke_cond (t := y41.Kind == 0) rfl (fun hc61 => ?_) (fun hc61 => ?_)
   ·replace hS := ite_true' hS hc61
    refine ke_region_j (ρ := ρ55) (fun t => ([100, 101, 200, 201] : List Nat).contains t) 10 Tryz.mixed (fun w63 hw62 => ?_)
    have htr64 := Tr.of_below hw62 hb.bd
    replace hl_0 := hl_0.mv htr64.rd
    replace hB58 := hB58.mv (htr64.mv (i := 8) rfl)
    replace h49 := h49.mv htr64.rd
    replace h51 := h51.mv htr64.rd
    replace h53 := h53.mv htr64.rd
    replace hB36 := hB36.mv (htr64.mv (i := 100) rfl)
    replace h35 := h35.mv (htr64.mv (i := 101) rfl)
    replace hB39 := hB39.mv (htr64.mv (i := 200) rfl)
    replace h38 := h38.mv (htr64.mv (i := 201) rfl) (by decide)
    replace hb := hb.trans htr64
    refine dj_H 0 (v := .pointer (some ⟨gr_3, 0, none⟩)) (by kernel_rfl) (by kernel_rfl) rfl (fun _ _ _ h => h) (sj_refl hb.bd rfl rfl) (fun w1 ρ1 hw1 => ev_move rfl) (by decide) ?_
    refine dj_H 1 (v := .pointer (some ⟨g54, 1, none⟩)) (by kernel_rfl) (by kernel_rfl) rfl (fun _ _ _ h => h) (sj_refl hb.bd rfl rfl) (fun w1 ρ1 hw1 => ev_fieldAddr (i := 1) Tryz.underlying44 rfl Tryz.info27 rfl rfl) (by decide) ?_
    refine dj_H 2 (v := .agg #[str y41.Client.ID, .int .i64 y41.Client.Kind, str y41.Client.Tenant, str y41.Client.Secret.Salt, .int .i64 y41.Client.Secret.Rounds, str y41.Client.Secret.Hash, v48, v50, str y41.Client.Logout]) (by kernel_rfl) (by kernel_rfl) rfl (fun _ _ _ h => h) (sj_refl hb.bd rfl rfl) (fun w1 ρ1 hw1 => ev_loads (cs := [str y41.Client.ID, .int .i64 y41.Client.Kind, str y41.Client.Tenant, str y41.Client.Secret.Salt, .int .i64 y41.Client.Secret.Rounds, str y41.Client.Secret.Hash, v48, v50, str y41.Client.Logout]) Tryz.isAgg27 Tryz.sizeOf27 rfl ((hB58.mv (hw1.mv (i := 8) rfl)).cells (vs := [str y41.Client.ID, .int .i64 y41.Client.Kind, str y41.Client.Tenant, str y41.Client.Secret.Salt, .int .i64 y41.Client.Secret.Rounds, str y41.Client.Secret.Hash, v48, v50, str y41.Client.Logout]) rfl)) (by decide) ?_
    refine dj_H 4 (v := .pointer (some ⟨gs_4, 0, none⟩)) (by kernel_rfl) (by kernel_rfl) rfl (fun _ _ _ h => h) (sj_refl hb.bd rfl rfl) (fun w1 ρ1 hw1 => ev_move rfl) (by decide) ?_
    refine dj_H 5 (v := .pointer (some ⟨g54, 1, none⟩)) (by kernel_rfl) (by kernel_rfl) rfl (fun _ _ _ h => h) (sj_refl hb.bd rfl rfl) (fun w1 ρ1 hw1 => ev_fieldAddr (i := 1) Tryz.underlying44 rfl Tryz.info27 rfl rfl) (by decide) ?_
    refine dj_H 6 (v := .agg #[str y41.Client.ID, .int .i64 y41.Client.Kind, str y41.Client.Tenant, str y41.Client.Secret.Salt, .int .i64 y41.Client.Secret.Rounds, str y41.Client.Secret.Hash, v48, v50, str y41.Client.Logout]) (by kernel_rfl) (by kernel_rfl) rfl (fun _ _ _ h => h) (sj_refl hb.bd rfl rfl) (fun w1 ρ1 hw1 => ev_loads (cs := [str y41.Client.ID, .int .i64 y41.Client.Kind, str y41.Client.Tenant, str y41.Client.Secret.Salt, .int .i64 y41.Client.Secret.Rounds, str y41.Client.Secret.Hash, v48, v50, str y41.Client.Logout]) Tryz.isAgg27 Tryz.sizeOf27 rfl ((hB58.mv (hw1.mv (i := 8) rfl)).cells (vs := [str y41.Client.ID, .int .i64 y41.Client.Kind, str y41.Client.Tenant, str y41.Client.Secret.Salt, .int .i64 y41.Client.Secret.Rounds, str y41.Client.Secret.Hash, v48, v50, str y41.Client.Logout]) rfl)) (by decide) ?_
    refine dj_E 3 (by kernel_rfl) rfl ?_
    have jt106 : Tr ρ55 w63 (fun t => ([100, 101, 200, 201] : List Nat).contains t) ρ55 w63 := (Tr.refl hb.bd).weak (fun _ _ => rfl) rfl rfl
    obtain ⟨y107, hy108, hS⟩ := bind_some' hS
    refine sr_call (vs := [.pointer (some ⟨gr_3, 0, none⟩), .agg #[str y41.Client.ID, .int .i64 y41.Client.Kind, str y41.Client.Tenant, str y41.Client.Secret.Salt, .int .i64 y41.Client.Secret.Rounds, str y41.Client.Secret.Hash, v48, v50, str y41.Client.Logout]]) rfl Tryz.call17 rfl (client_Clients_Register_ok _ (hg.fr hz hb) (ρA := ρ55) hb.bd (hz.fr hg hb) (o := 100) (by decide) h49 h51 (⟨_, hB36, h35⟩ : client_Clients.O (fun p => 100 + p) ρ55 w63 gr_3 or_3) hy108) (by decide) ?_
    rintro _ w109 ⟨ρ115, rfl, ⟨v112, hB114, h113⟩, htr111⟩
    replace hl_0 := hl_0.mv htr111.rd
    replace h49 := h49.mv htr111.rd
    replace h51 := h51.mv htr111.rd
    replace hB39 := hB39.mv (htr111.mv (i := 200) rfl)
    replace h38 := h38.mv (htr111.mv (i := 201) rfl) (by decide)
    replace hb := hb.trans htr111
    replace jt106 := (jt106.trans htr111).weak (J' := (fun t => ([100, 101, 200, 201] : List Nat).contains t)) (by intro t h; simp [rng] at h ⊢ <;> omega) rfl rfl
    replace hB114 : Blk ρ115 100 w109 gr_3 (.cells #[v112] 57 (0, 0)) := hB114
    replace h113 : MapT str api_Client.c true ρ115 101 w109 v112 y107.2.of_ := h113
    refine dj_next (l' := [(0, vl_0), (3, .pointer (some ⟨gr_3, 0, none⟩)), (4, .pointer (some ⟨gs_4, 0, none⟩)), (5, .int .i64 i_5), (42, .int .i64 y107.1), (43, .pointer (some ⟨gs_4, 0, none⟩)), (45, .agg #[str y41.Client.ID, .int .i64 y41.Client.Kind, str y41.Client.Tenant, str y41.Client.Secret.Salt, .int .i64 y41.Client.Secret.Rounds, str y41.Client.Secret.Hash, v48, v50, str y41.Client.Logout])]) rfl (.cons rfl (.cons rfl (.cons rfl (.cons rfl (.cons rfl (.cons rfl (.cons rfl (.nil _)))))))) jt106 (by intro t h; simp [rng] at h ⊢ <;> omega) rfl rfl ?_
    refine dj_E 7 (by kernel_rfl) rfl ?_
    have jt116 : Tr ρ115 w109 (fun t => ([100, 101, 200, 201] : List Nat).contains t) ρ115 w109 := (Tr.refl hb.bd).weak (fun _ _ => rfl) rfl rfl
    obtain ⟨y117, hy118, hS⟩ := bind_some' hS
    refine sr_call (vs := [.pointer (some ⟨gs_4, 0, none⟩), .agg #[str y41.Client.ID, .int .i64 y41.Client.Kind, str y41.Client.Tenant, str y41.Client.Secret.Salt, .int .i64 y41.Client.Secret.Rounds, str y41.Client.Secret.Hash, v48, v50, str y41.Client.Logout]]) rfl Tryz.call23 rfl (ref36_Clients_Register_ok _ (hg.fr hz hb) (ρA := ρ115) hb.bd (hz.fr hg hb) (o := 200) (by decide) h49 h51 (⟨_, hB39, h38⟩ : ref36_Clients.O (fun p => 200 + p) ρ115 w109 gs_4 os_4) hy118) (by decide) ?_
    rintro _ w119 ⟨ρ125, rfl, ⟨v122, hB124, h123⟩, htr121⟩
    replace hl_0 := hl_0.mv htr121.rd
    replace hB114 := hB114.mv (htr121.mv (i := 100) rfl)
    replace h113 := h113.mv (htr121.mv (i := 101) rfl)
    replace hb := hb.trans htr121
    replace jt116 := (jt116.trans htr121).weak (J' := (fun t => ([100, 101, 200, 201] : List Nat).contains t)) (by intro t h; simp [rng] at h ⊢ <;> omega) rfl rfl
    replace hB124 : Blk ρ125 200 w119 gs_4 (.cells #[v122, .bool y117.2.made] 73 (0, 0)) := hB124
    replace h123 : OwnT api_Client.c 27 ρ125 201 w119 v122 y117.2.list := h123
    refine dj_next (l' := [(0, vl_0), (3, .pointer (some ⟨gr_3, 0, none⟩)), (4, .pointer (some ⟨gs_4, 0, none⟩)), (5, .int .i64 i_5), (42, .int .i64 y107.1), (46, .int .i64 y117.1)]) rfl (.cons rfl (.cons rfl (.cons rfl (.cons rfl (.cons rfl (.cons rfl (.nil _))))))) jt116 (by intro t h; simp [rng] at h ⊢ <;> omega) rfl rfl ?_
    refine dj_H 8 (v := .bool (y107.1 == y117.1)) (by kernel_rfl) (by kernel_rfl) rfl (fun _ _ _ h => h) (sj_refl hb.bd rfl rfl) (fun w1 ρ1 hw1 => ev_eq rfl rfl) (by decide) ?_
    refine dj_H 9 (v := .bool (y107.1 == y117.1)) (by kernel_rfl) (by kernel_rfl) rfl (fun _ _ _ h => h) (sj_refl hb.bd rfl rfl) (fun w1 ρ1 hw1 => ev_assign rfl) (by decide) ?_
    refine dj_done rfl (by kernel_rfl) ?_
    refine ke_weaken (l' := [(0, vl_0), (3, .pointer (some ⟨gr_3, 0, none⟩)), (4, .pointer (some ⟨gs_4, 0, none⟩)), (5, .int .i64 i_5), (7, .bool (y107.1 == y117.1))]) (.cons rfl (.cons rfl (.cons rfl (.cons rfl (.cons rfl (.nil _)))))) ?_
    have hK := law36_ClientPlays_B2_ok hg hbd hz _ hr0 hS hb hl_0 ⟨_, hB114, h113⟩ ⟨_, hB124, h123⟩
    exact ke_weaken (l' := [(0, vl_0), (3, .pointer (some ⟨gr_3, 0, none⟩)), (4, .pointer (some ⟨gs_4, 0, none⟩)), (5, .int .i64 i_5), (7, .bool (y107.1 == y117.1))]) (.cons rfl (.cons rfl (.cons rfl (.cons rfl (.cons rfl (.nil _)))))) hK
   ·replace hS := ite_false' hS hc61
    refine ke_seq ?_
    refine ke_region ?_
    refine sr_ev (v := .bool (y41.Kind == 1)) (ev_eq rfl rfl) (by decide) ?_
    refine sr_ev (v := .bool (y41.Kind == 1)) (ev_assign rfl) (by decide) ?_
    refine sr_end (l' := [(0, vl_0), (3, .pointer (some ⟨gr_3, 0, none⟩)), (4, .pointer (some ⟨gs_4, 0, none⟩)), (5, .int .i64 i_5), (6, .pointer (some ⟨g54, 0, none⟩)), (31, .int .i64 y41.Kind), (48, .bool (y41.Kind == 1))]) (.cons rfl (.cons rfl (.cons rfl (.cons rfl (.cons rfl (.cons rfl (.cons rfl (.nil _)))))))) ?_
    refine ke_cond (t := y41.Kind == 1) rfl (fun hc133 => ?_) (fun hc133 => ?_)
    ·replace hS := ite_true' hS hc133
     refine ke_seq ?_
     refine ke_region ?_
     refine sr_ev (v := .pointer (some ⟨gr_3, 0, none⟩)) (ev_move rfl) (by decide) ?_
     refine sr_ev (v := .pointer (some ⟨g54, 10, none⟩)) (ev_fieldAddr (i := 2) Tryz.underlying44 rfl Tryz.info9 rfl rfl) (by decide) ?_
     refine sr_ev (v := str y41.ID) (ev_load Tryz.isAgg9 rfl (hB58.cell rfl)) (by decide) ?_
     obtain ⟨y134, hy135, hS⟩ := bind_some' hS
     refine sr_call (vs := [.pointer (some ⟨gr_3, 0, none⟩), str y41.ID]) rfl Tryz.call24 rfl (client_Clients_Get_ok _ (hg.fr hz hb) (ρA := ρ55) hb.bd (hz.fr hg hb) (τ0 := (fun p => 100 + p)) (fun p => Nat.le_add_right_of_le (by decide)) (⟨_, hB36, h35⟩ : client_Clients.O (fun p => 100 + p) ρ55 w59 gr_3 or_3) hy135) (by decide) ?_
     rintro _ w136 ⟨v139, v141, rfl, h140, h142, hbw137⟩
     have htr138 := Tr.of_below hbw137 hb.bd
     replace hl_0 := hl_0.mv htr138.rd
     replace hB58 := hB58.mv (htr138.mv (i := 8) rfl)
     replace h49 := h49.mv htr138.rd
     replace h51 := h51.mv htr138.rd
     replace h53 := h53.mv htr138.rd
     replace hB36 := hB36.mv (htr138.mv (i := 100) rfl)
     replace h35 := h35.mv (htr138.mv (i := 101) rfl)
     replace hB39 := hB39.mv (htr138.mv (i := 200) rfl)
     replace h38 := h38.mv (htr138.mv (i := 201) rfl) (by decide)
     replace hb := hb.trans htr138
     refine sr_ev (v := .tuple #[.agg #[str y134.1.ID, .int .i64 y134.1.Kind, str y134.1.Tenant, str y134.1.Secret.Salt, .int .i64 y134.1.Secret.Rounds, str y134.1.Secret.Hash, v139, v141, str y134.1.Logout], .bool y134.2]) (ev_move rfl) (by decide) ?_
     refine sr_ev (v := .agg #[str y134.1.ID, .int .i64 y134.1.Kind, str y134.1.Tenant, str y134.1.Secret.Salt, .int .i64 y134.1.Secret.Rounds, str y134.1.Secret.Hash, v139, v141, str y134.1.Logout]) (ev_extract rfl rfl) (by decide) ?_
     refine sr_ev (v := .bool y134.2) (ev_extract rfl rfl) (by decide) ?_
     refine sr_allocT 10 (by decide) hb.bd Tryz.zeroValue27 (by decide) ?_
     intro g143 ρ144 w145 hB147 htr146
     replace hl_0 := hl_0.mv htr146.rd
     replace h140 := h140.mv htr146.rd
     replace h142 := h142.mv htr146.rd
     replace hB58 := hB58.mv (htr146.mv (i := 8) rfl)
     replace h49 := h49.mv htr146.rd
     replace h51 := h51.mv htr146.rd
     replace h53 := h53.mv htr146.rd
     replace hB36 := hB36.mv (htr146.mv (i := 100) rfl)
     replace h35 := h35.mv (htr146.mv (i := 101) rfl)
     replace hB39 := hB39.mv (htr146.mv (i := 200) rfl)
     replace h38 := h38.mv (htr146.mv (i := 201) rfl) (by decide)
     replace hb := hb.trans htr146
     replace hB147 : Blk ρ144 10 w145 g143 (.cells #[str ([]), .int .i64 0, str ([]), str ([]), .int .i64 0, str ([]), (.slice none 0 0), (.slice none 0 0), str ([])] 27 (0, 0)) := hB147
     refine sr_storeT (v := .agg #[str y134.1.ID, .int .i64 y134.1.Kind, str y134.1.Tenant, str y134.1.Secret.Salt, .int .i64 y134.1.Secret.Rounds, str y134.1.Secret.Hash, v139, v141, str y134.1.Logout]) (vs := [str y134.1.ID, .int .i64 y134.1.Kind, str y134.1.Tenant, str y134.1.Secret.Salt, .int .i64 y134.1.Secret.Rounds, str y134.1.Secret.Hash, v139, v141, str y134.1.Logout]) (cs' := #[str y134.1.ID, .int .i64 y134.1.Kind, str y134.1.Tenant, str y134.1.Secret.Salt, .int .i64 y134.1.Secret.Rounds, str y134.1.Secret.Hash, v139, v141, str y134.1.Logout]) hB147 (by decide) hb.bd rfl rfl rfl Tryz.sizeOf27 rfl (by first | rfl | (simp only [List.all_cons, List.all_nil, SlR.oneCell h140, SlR.oneCell h142]; done) | (simp only [List.all_cons, List.all_nil, SlR.oneCell h140, SlR.oneCell h142]; rfl)) rfl ?_
     intro w148 hB1471 htr149
     replace hl_0 := hl_0.mv htr149.rd
     replace h140 := h140.mv htr149.rd
     replace h142 := h142.mv htr149.rd
     replace hB58 := hB58.mv (htr149.mv (i := 8) rfl)
     replace h49 := h49.mv htr149.rd
     replace h51 := h51.mv htr149.rd
     replace h53 := h53.mv htr149.rd
     replace hB36 := hB36.mv (htr149.mv (i := 100) rfl)
     replace h35 := h35.mv (htr149.mv (i := 101) rfl)
     replace hB39 := hB39.mv (htr149.mv (i := 200) rfl)
     replace h38 := h38.mv (htr149.mv (i := 201) rfl) (by decide)
     replace hb := hb.trans htr149
     replace hB147 : Blk ρ144 10 w148 g143 (.cells #[str y134.1.ID, .int .i64 y134.1.Kind, str y134.1.Tenant, str y134.1.Secret.Salt, .int .i64 y134.1.Secret.Rounds, str y134.1.Secret.Hash, v139, v141, str y134.1.Logout] 27 (0, 0)) := hB1471
     clear hB1471
     refine sr_ev (v := .bool y134.2) (ev_assign rfl) (by decide) ?_
     refine sr_end (l' := [(0, vl_0), (3, .pointer (some ⟨gr_3, 0, none⟩)), (4, .pointer (some ⟨gs_4, 0, none⟩)), (5, .int .i64 i_5), (6, .pointer (some ⟨g54, 0, none⟩)), (8, .pointer (some ⟨g143, 0, none⟩)), (9, .bool y134.2)]) (.cons rfl (.cons rfl (.cons rfl (.cons rfl (.cons rfl (.cons rfl (.cons rfl (.nil _)))))))) ?_
     refine ke_seq ?_
     refine ke_region ?_
     refine sr_ev (v := .pointer (some ⟨gs_4, 0, none⟩)) (ev_move rfl) (by decide) ?_
     refine sr_ev (v := .pointer (some ⟨g54, 10, none⟩)) (ev_fieldAddr (i := 2) Tryz.underlying44 rfl Tryz.info9 rfl rfl) (by decide) ?_
     refine sr_ev (v := str y41.ID) (ev_load Tryz.isAgg9 rfl (hB58.cell rfl)) (by decide) ?_
     obtain ⟨y150, hy151, hS⟩ := bind_some' hS
     refine sr_call (vs := [.pointer (some ⟨gs_4, 0, none⟩), str y41.ID]) rfl Tryz.call25 rfl (ref36_Clients_Get_ok _ (hg.fr hz hb) (ρA := ρ144) hb.bd (hz.fr hg hb) (τ0 := (fun p => 200 + p)) (fun p => Nat.le_add_right_of_le (by decide)) (⟨_, hB39, h38⟩ : ref36_Clients.O (fun p => 200 + p) ρ144 w148 gs_4 os_4) hy151) (by decide) ?_
     rintro _ w152 ⟨v155, v157, rfl, h156, h158, hbw153⟩
     have htr154 := Tr.of_below hbw153 hb.bd
     replace hl_0 := hl_0.mv htr154.rd
     replace hB147 := hB147.mv (htr154.mv (i := 10) rfl)
     replace h140 := h140.mv htr154.rd
     replace h142 := h142.mv htr154.rd
     replace hB36 := hB36.mv (htr154.mv (i := 100) rfl)
     replace h35 := h35.mv (htr154.mv (i := 101) rfl)
     replace hB39 := hB39.mv (htr154.mv (i := 200) rfl)
     replace h38 := h38.mv (htr154.mv (i := 201) rfl) (by decide)
     replace hb := hb.trans htr154
     refine sr_ev (v := .tuple #[.agg #[str y150.1.ID, .int .i64 y150.1.Kind, str y150.1.Tenant, str y150.1.Secret.Salt, .int .i64 y150.1.Secret.Rounds, str y150.1.Secret.Hash, v155, v157, str y150.1.Logout], .bool y150.2]) (ev_move rfl) (by decide) ?_
     refine sr_ev (v := .agg #[str y150.1.ID, .int .i64 y150.1.Kind, str y150.1.Tenant, str y150.1.Secret.Salt, .int .i64 y150.1.Secret.Rounds, str y150.1.Secret.Hash, v155, v157, str y150.1.Logout]) (ev_extract rfl rfl) (by decide) ?_
     refine sr_ev (v := .bool y150.2) (ev_extract rfl rfl) (by decide) ?_
     refine sr_allocT 12 (by decide) hb.bd Tryz.zeroValue27 (by decide) ?_
     intro g159 ρ160 w161 hB163 htr162
     replace hl_0 := hl_0.mv htr162.rd
     replace h156 := h156.mv htr162.rd
     replace h158 := h158.mv htr162.rd
     replace hB147 := hB147.mv (htr162.mv (i := 10) rfl)
     replace h140 := h140.mv htr162.rd
     replace h142 := h142.mv htr162.rd
     replace hB36 := hB36.mv (htr162.mv (i := 100) rfl)
     replace h35 := h35.mv (htr162.mv (i := 101) rfl)
     replace hB39 := hB39.mv (htr162.mv (i := 200) rfl)
     replace h38 := h38.mv (htr162.mv (i := 201) rfl) (by decide)
     replace hb := hb.trans htr162
     replace hB163 : Blk ρ160 12 w161 g159 (.cells #[str ([]), .int .i64 0, str ([]), str ([]), .int .i64 0, str ([]), (.slice none 0 0), (.slice none 0 0), str ([])] 27 (0, 0)) := hB163
     refine sr_storeT (v := .agg #[str y150.1.ID, .int .i64 y150.1.Kind, str y150.1.Tenant, str y150.1.Secret.Salt, .int .i64 y150.1.Secret.Rounds, str y150.1.Secret.Hash, v155, v157, str y150.1.Logout]) (vs := [str y150.1.ID, .int .i64 y150.1.Kind, str y150.1.Tenant, str y150.1.Secret.Salt, .int .i64 y150.1.Secret.Rounds, str y150.1.Secret.Hash, v155, v157, str y150.1.Logout]) (cs' := #[str y150.1.ID, .int .i64 y150.1.Kind, str y150.1.Tenant, str y150.1.Secret.Salt, .int .i64 y150.1.Secret.Rounds, str y150.1.Secret.Hash, v155, v157, str y150.1.Logout]) hB163 (by decide) hb.bd rfl rfl rfl Tryz.sizeOf27 rfl (by first | rfl | (simp only [List.all_cons, List.all_nil, SlR.oneCell h156, SlR.oneCell h158]; done) | (simp only [List.all_cons, List.all_nil, SlR.oneCell h156, SlR.oneCell h158]; rfl)) rfl ?_
     intro w164 hB1631 htr165
     replace hl_0 := hl_0.mv htr165.rd
     replace h156 := h156.mv htr165.rd
     replace h158 := h158.mv htr165.rd
     replace hB147 := hB147.mv (htr165.mv (i := 10) rfl)
     replace h140 := h140.mv htr165.rd
     replace h142 := h142.mv htr165.rd
     replace hB36 := hB36.mv (htr165.mv (i := 100) rfl)
     replace h35 := h35.mv (htr165.mv (i := 101) rfl)
     replace hB39 := hB39.mv (htr165.mv (i := 200) rfl)
     replace h38 := h38.mv (htr165.mv (i := 201) rfl) (by decide)
     replace hb := hb.trans htr165
     replace hB163 : Blk ρ160 12 w164 g159 (.cells #[str y150.1.ID, .int .i64 y150.1.Kind, str y150.1.Tenant, str y150.1.Secret.Salt, .int .i64 y150.1.Secret.Rounds, str y150.1.Secret.Hash, v155, v157, str y150.1.Logout] 27 (0, 0)) := hB1631
     clear hB1631
     refine sr_ev (v := .bool y150.2) (ev_assign rfl) (by decide) ?_
     refine sr_end (l' := [(0, vl_0), (3, .pointer (some ⟨gr_3, 0, none⟩)), (4, .pointer (some ⟨gs_4, 0, none⟩)), (5, .int .i64 i_5), (8, .pointer (some ⟨g143, 0, none⟩)), (9, .bool y134.2), (10, .pointer (some ⟨g159, 0, none⟩)), (11, .bool y150.2)]) (.cons rfl (.cons rfl (.cons rfl (.cons rfl (.cons rfl (.cons rfl (.cons rfl (.cons rfl (.nil _))))))))) ?_
     refine ke_region ?_
     refine sr_ev (v := .bool y134.2) (ev_move rfl) (by decide) ?_
     refine sr_ev (v := .bool y150.2) (ev_move rfl) (by decide) ?_
     refine sr_ev (v := .bool (y134.2 == y150.2)) (ev_beq Tryz.underlying4 rfl rfl) (by decide) ?_
     refine sr_ev (v := .bool (y134.2 == y150.2)) (ev_move rfl) (by decide) ?_
     obtain ⟨z168, hz170, hS⟩ := bind_some' hS
     refine sr_join (m := 4) (C := fun (z : Bool) w1 => z168 = z ∧ ∃ ρ1, Tr ρ160 w164 (fun _ => false) ρ1 w1) (l' := fun z => [(0, vl_0), (3, .pointer (some ⟨gr_3, 0, none⟩)), (4, .pointer (some ⟨gs_4, 0, none⟩)), (5, .int .i64 i_5), (71, .bool z)]) ?_ ?_
     ·rintro _ w171 ⟨rfl, ρ172, hj169⟩
      replace hl_0 := hl_0.mv hj169.rd
      replace hB36 := hB36.mv (hj169.mv (i := 100) rfl)
      replace h35 := h35.mv (hj169.mv (i := 101) rfl)
      replace hB39 := hB39.mv (hj169.mv (i := 200) rfl)
      replace h38 := h38.mv (hj169.mv (i := 201) rfl) (by decide)
      replace hb := hb.trans hj169
      refine sr_ev (v := .bool z168) (ev_assign rfl) (by decide) ?_
      refine sr_end (l' := [(0, vl_0), (3, .pointer (some ⟨gr_3, 0, none⟩)), (4, .pointer (some ⟨gs_4, 0, none⟩)), (5, .int .i64 i_5), (7, .bool z168)]) (.cons rfl (.cons rfl (.cons rfl (.cons rfl (.cons rfl (.nil _)))))) ?_
      have hK := law36_ClientPlays_B2_ok hg hbd hz _ hr0 hS hb hl_0 ⟨_, hB36, h35⟩ ⟨_, hB39, h38⟩
      exact ke_weaken (l' := [(0, vl_0), (3, .pointer (some ⟨gr_3, 0, none⟩)), (4, .pointer (some ⟨gs_4, 0, none⟩)), (5, .int .i64 i_5), (7, .bool z168)]) (.cons rfl (.cons rfl (.cons rfl (.cons rfl (.cons rfl (.nil _)))))) hK
     ·intro K167
      clear hS
      have hj169 : Tr ρ160 w164 (fun _ => false) ρ160 w164 := (Tr.refl hb.bd).weak (fun _ _ => rfl) rfl rfl
      rcases Bool.eq_false_or_eq_true (y134.2 == y150.2) with hg166 | hg166
      ·have hS := ite_true' hz170 hg166
       refine sr_evg (b := true) (e := 67) rfl rfl hg166 (v := .agg #[str y134.1.ID, .int .i64 y134.1.Kind, str y134.1.Tenant, str y134.1.Secret.Salt, .int .i64 y134.1.Secret.Rounds, str y134.1.Secret.Hash, v139, v141, str y134.1.Logout]) (ev_loads (cs := [str y134.1.ID, .int .i64 y134.1.Kind, str y134.1.Tenant, str y134.1.Secret.Salt, .int .i64 y134.1.Secret.Rounds, str y134.1.Secret.Hash, v139, v141, str y134.1.Logout]) Tryz.isAgg27 Tryz.sizeOf27 rfl (hB147.cells (vs := [str y134.1.ID, .int .i64 y134.1.Kind, str y134.1.Tenant, str y134.1.Secret.Salt, .int .i64 y134.1.Secret.Rounds, str y134.1.Secret.Hash, v139, v141, str y134.1.Logout]) rfl)) (by decide) ?_
       refine sr_evg (b := true) (e := 67) rfl rfl hg166 (v := .agg #[str y150.1.ID, .int .i64 y150.1.Kind, str y150.1.Tenant, str y150.1.Secret.Salt, .int .i64 y150.1.Secret.Rounds, str y150.1.Secret.Hash, v155, v157, str y150.1.Logout]) (ev_loads (cs := [str y150.1.ID, .int .i64 y150.1.Kind, str y150.1.Tenant, str y150.1.Secret.Salt, .int .i64 y150.1.Secret.Rounds, str y150.1.Secret.Hash, v155, v157, str y150.1.Logout]) Tryz.isAgg27 Tryz.sizeOf27 rfl (hB163.cells (vs := [str y150.1.ID, .int .i64 y150.1.Kind, str y150.1.Tenant, str y150.1.Secret.Salt, .int .i64 y150.1.Secret.Rounds, str y150.1.Secret.Hash, v155, v157, str y150.1.Logout]) rfl)) (by decide) ?_
       obtain ⟨y174, hy175, hS⟩ := bind_some' hS
       refine sr_callg (b := true) (e := 67) rfl rfl hg166 (vs := [.agg #[str y134.1.ID, .int .i64 y134.1.Kind, str y134.1.Tenant, str y134.1.Secret.Salt, .int .i64 y134.1.Secret.Rounds, str y134.1.Secret.Hash, v139, v141, str y134.1.Logout], .agg #[str y150.1.ID, .int .i64 y150.1.Kind, str y150.1.Tenant, str y150.1.Secret.Salt, .int .i64 y150.1.Secret.Rounds, str y150.1.Secret.Hash, v155, v157, str y150.1.Logout]]) rfl Tryz.call26 rfl (ref36_Same_ok _ (hg.fr hz hb) (ρA := ρ160) hb.bd (hz.fr hg hb) h140 h142 h156 h158 hy175) (by decide) ?_
       rintro _ w176 ⟨rfl, hbw177⟩
       have htr178 := Tr.of_below hbw177 hb.bd
       replace hl_0 := hl_0.mv htr178.rd
       replace hB36 := hB36.mv (htr178.mv (i := 100) rfl)
       replace h35 := h35.mv (htr178.mv (i := 101) rfl)
       replace hB39 := hB39.mv (htr178.mv (i := 200) rfl)
       replace h38 := h38.mv (htr178.mv (i := 201) rfl) (by decide)
       replace hb := hb.trans htr178
       replace hj169 := (hj169.trans htr178).weak (J' := (fun _ => false)) (by intro t h; simp [rng] at h ⊢ <;> omega) rfl rfl
       refine sr_ev (v := .bool y174) (ev_pick_t rfl hg166 rfl) (by decide) ?_
       exact sr_weaken (l' := [(0, vl_0), (3, .pointer (some ⟨gr_3, 0, none⟩)), (4, .pointer (some ⟨gs_4, 0, none⟩)), (5, .int .i64 i_5), (71, .bool y174)]) (.cons rfl (.cons rfl (.cons rfl (.cons rfl (.cons rfl (.nil _)))))) (K167 y174 _ ⟨(Option.some.inj hS).symm, _, hj169⟩)
      ·have hS := ite_false' hz170 hg166
       refine sr_pass (e := 67) rfl rfl (by rw [hg166]; rfl) (by decide) ?_
       refine sr_pass (e := 67) rfl rfl (by rw [hg166]; rfl) (by decide) ?_
       refine sr_pass (e := 67) rfl rfl (by rw [hg166]; rfl) (by decide) ?_
       refine sr_ev (v := .bool false) (ev_pick_f rfl hg166 rfl) (by decide) ?_
       exact sr_weaken (l' := [(0, vl_0), (3, .pointer (some ⟨gr_3, 0, none⟩)), (4, .pointer (some ⟨gs_4, 0, none⟩)), (5, .int .i64 i_5), (71, .bool false)]) (.cons rfl (.cons rfl (.cons rfl (.cons rfl (.cons rfl (.nil _)))))) (K167 false _ ⟨(Option.some.inj hS).symm, _, hj169⟩)
    ·replace hS := ite_false' hS hc133
     refine ke_seq ?_
     refine ke_region ?_
     refine sr_ev (v := .bool (y41.Kind == 2)) (ev_eq rfl rfl) (by decide) ?_
     refine sr_ev (v := .bool (y41.Kind == 2)) (ev_assign rfl) (by decide) ?_
     refine sr_end (l' := [(0, vl_0), (3, .pointer (some ⟨gr_3, 0, none⟩)), (4, .pointer (some ⟨gs_4, 0, none⟩)), (5, .int .i64 i_5), (6, .pointer (some ⟨g54, 0, none⟩)), (31, .int .i64 y41.Kind), (72, .bool (y41.Kind == 2))]) (.cons rfl (.cons rfl (.cons rfl (.cons rfl (.cons rfl (.cons rfl (.cons rfl (.nil _)))))))) ?_
     refine ke_cond (t := y41.Kind == 2) rfl (fun hc179 => ?_) (fun hc179 => ?_)
     ·replace hS := ite_true' hS hc179
      refine ke_region_q Tryz.mixed (by kernel_rfl) ?_
      refine sq_ev (v := .pointer (some ⟨gr_3, 0, none⟩)) (fun w1 hw1 => ev_move rfl) (by decide) ?_
      refine sq_ev (v := .pointer (some ⟨g54, 10, none⟩)) (fun w1 hw1 => ev_fieldAddr (i := 2) Tryz.underlying44 rfl Tryz.info9 rfl rfl) (by decide) ?_
      refine sq_ev (v := str y41.ID) (fun w1 hw1 => ev_load Tryz.isAgg9 rfl ((hB58.mv (Mv.of_below (i := 8) (ρ := ρ55) hw1)).cell rfl)) (by decide) ?_
      refine sq_ev (v := .pointer (some ⟨g54, 11, none⟩)) (fun w1 hw1 => ev_fieldAddr (i := 3) Tryz.underlying44 rfl Tryz.info9 rfl rfl) (by decide) ?_
      refine sq_ev (v := str y41.S) (fun w1 hw1 => ev_load Tryz.isAgg9 rfl ((hB58.mv (Mv.of_below (i := 8) (ρ := ρ55) hw1)).cell rfl)) (by decide) ?_
      obtain ⟨y182, hy183, hS⟩ := bind_some' hS
      refine sq_call (v := .int .i64 y182) (vs := [.pointer (some ⟨gr_3, 0, none⟩), str y41.ID, str y41.S]) rfl Tryz.call27 rfl (fun w1 hw1 => (client_Clients_Redirect_ok _ ((hg.fr hz hb).below hw1) (ρA := ρ55) (fun b h => Nat.lt_of_lt_of_le (hb.bd b h) hw1.size) (hz.fr hg hb) (τ0 := (fun p => 100 + p)) (fun p => Nat.le_add_right_of_le (by decide)) (⟨_, (hB36.mv (Mv.of_below (i := 100) (ρ := ρ55) hw1)), (h35.mv (Mv.of_below (i := 101) (ρ := ρ55) hw1))⟩ : client_Clients.O (fun p => 100 + p) ρ55 w1 gr_3 or_3) hy183)) (by decide) ?_
      refine sq_ev (v := .pointer (some ⟨gs_4, 0, none⟩)) (fun w1 hw1 => ev_move rfl) (by decide) ?_
      refine sq_ev (v := .pointer (some ⟨g54, 10, none⟩)) (fun w1 hw1 => ev_fieldAddr (i := 2) Tryz.underlying44 rfl Tryz.info9 rfl rfl) (by decide) ?_
      refine sq_ev (v := str y41.ID) (fun w1 hw1 => ev_load Tryz.isAgg9 rfl ((hB58.mv (Mv.of_below (i := 8) (ρ := ρ55) hw1)).cell rfl)) (by decide) ?_
      refine sq_ev (v := .pointer (some ⟨g54, 11, none⟩)) (fun w1 hw1 => ev_fieldAddr (i := 3) Tryz.underlying44 rfl Tryz.info9 rfl rfl) (by decide) ?_
      refine sq_ev (v := str y41.S) (fun w1 hw1 => ev_load Tryz.isAgg9 rfl ((hB58.mv (Mv.of_below (i := 8) (ρ := ρ55) hw1)).cell rfl)) (by decide) ?_
      obtain ⟨y187, hy188, hS⟩ := bind_some' hS
      refine sq_call (v := .int .i64 y187) (vs := [.pointer (some ⟨gs_4, 0, none⟩), str y41.ID, str y41.S]) rfl Tryz.call28 rfl (fun w1 hw1 => (ref36_Clients_Redirect_ok _ ((hg.fr hz hb).below hw1) (ρA := ρ55) (fun b h => Nat.lt_of_lt_of_le (hb.bd b h) hw1.size) (hz.fr hg hb) (τ0 := (fun p => 200 + p)) (fun p => Nat.le_add_right_of_le (by decide)) (⟨_, (hB39.mv (Mv.of_below (i := 200) (ρ := ρ55) hw1)), (h38.mv (Mv.of_below (i := 201) (ρ := ρ55) hw1) (by decide))⟩ : ref36_Clients.O (fun p => 200 + p) ρ55 w1 gs_4 os_4) hy188)) (by decide) ?_
      refine sq_ev (v := .bool (y182 == y187)) (fun w1 hw1 => ev_eq rfl rfl) (by decide) ?_
      refine sq_ev (v := .bool (y182 == y187)) (fun w1 hw1 => ev_assign rfl) (by decide) ?_
      refine sq_end (l' := [(0, vl_0), (3, .pointer (some ⟨gr_3, 0, none⟩)), (4, .pointer (some ⟨gs_4, 0, none⟩)), (5, .int .i64 i_5), (7, .bool (y182 == y187))]) (.cons rfl (.cons rfl (.cons rfl (.cons rfl (.cons rfl (.nil _)))))) (fun w181 hw180 => ?_)
      have htr192 := Tr.of_below hw180 hb.bd
      replace hl_0 := hl_0.mv htr192.rd
      replace hB36 := hB36.mv (htr192.mv (i := 100) rfl)
      replace h35 := h35.mv (htr192.mv (i := 101) rfl)
      replace hB39 := hB39.mv (htr192.mv (i := 200) rfl)
      replace h38 := h38.mv (htr192.mv (i := 201) rfl) (by decide)
      replace hb := hb.trans htr192
      have hK := law36_ClientPlays_B2_ok hg hbd hz _ hr0 hS hb hl_0 ⟨_, hB36, h35⟩ ⟨_, hB39, h38⟩
      exact ke_weaken (l' := [(0, vl_0), (3, .pointer (some ⟨gr_3, 0, none⟩)), (4, .pointer (some ⟨gs_4, 0, none⟩)), (5, .int .i64 i_5), (7, .bool (y182 == y187))]) (.cons rfl (.cons rfl (.cons rfl (.cons rfl (.cons rfl (.nil _)))))) hK
     ·replace hS := ite_false' hS hc179
      refine ke_seq ?_
      refine ke_region ?_
      refine sr_ev (v := .bool (y41.Kind == 3)) (ev_eq rfl rfl) (by decide) ?_
      refine sr_ev (v := .bool (y41.Kind == 3)) (ev_assign rfl) (by decide) ?_
      refine sr_end (l' := [(0, vl_0), (3, .pointer (some ⟨gr_3, 0, none⟩)), (4, .pointer (some ⟨gs_4, 0, none⟩)), (5, .int .i64 i_5), (6, .pointer (some ⟨g54, 0, none⟩)), (31, .int .i64 y41.Kind), (87, .bool (y41.Kind == 3))]) (.cons rfl (.cons rfl (.cons rfl (.cons rfl (.cons rfl (.cons rfl (.cons rfl (.nil _)))))))) ?_
      refine ke_cond (t := y41.Kind == 3) rfl (fun hc193 => ?_) (fun hc193 => ?_)
      ·replace hS := ite_true' hS hc193
       refine ke_region_q Tryz.mixed (by kernel_rfl) ?_
       refine sq_ev (v := .pointer (some ⟨gr_3, 0, none⟩)) (fun w1 hw1 => ev_move rfl) (by decide) ?_
       refine sq_ev (v := .pointer (some ⟨g54, 10, none⟩)) (fun w1 hw1 => ev_fieldAddr (i := 2) Tryz.underlying44 rfl Tryz.info9 rfl rfl) (by decide) ?_
       refine sq_ev (v := str y41.ID) (fun w1 hw1 => ev_load Tryz.isAgg9 rfl ((hB58.mv (Mv.of_below (i := 8) (ρ := ρ55) hw1)).cell rfl)) (by decide) ?_
       refine sq_ev (v := .pointer (some ⟨g54, 11, none⟩)) (fun w1 hw1 => ev_fieldAddr (i := 3) Tryz.underlying44 rfl Tryz.info9 rfl rfl) (by decide) ?_
       refine sq_ev (v := str y41.S) (fun w1 hw1 => ev_load Tryz.isAgg9 rfl ((hB58.mv (Mv.of_below (i := 8) (ρ := ρ55) hw1)).cell rfl)) (by decide) ?_
       obtain ⟨y196, hy197, hS⟩ := bind_some' hS
       refine sq_call (v := .int .i64 y196) (vs := [.pointer (some ⟨gr_3, 0, none⟩), str y41.ID, str y41.S]) rfl Tryz.call29 rfl (fun w1 hw1 => (client_Clients_Authenticate_ok _ ((hg.fr hz hb).below hw1) (ρA := ρ55) (fun b h => Nat.lt_of_lt_of_le (hb.bd b h) hw1.size) (hz.fr hg hb) (τ0 := (fun p => 100 + p)) (fun p => Nat.le_add_right_of_le (by decide)) (⟨_, (hB36.mv (Mv.of_below (i := 100) (ρ := ρ55) hw1)), (h35.mv (Mv.of_below (i := 101) (ρ := ρ55) hw1))⟩ : client_Clients.O (fun p => 100 + p) ρ55 w1 gr_3 or_3) hy197)) (by decide) ?_
       refine sq_ev (v := .pointer (some ⟨gs_4, 0, none⟩)) (fun w1 hw1 => ev_move rfl) (by decide) ?_
       refine sq_ev (v := .pointer (some ⟨g54, 10, none⟩)) (fun w1 hw1 => ev_fieldAddr (i := 2) Tryz.underlying44 rfl Tryz.info9 rfl rfl) (by decide) ?_
       refine sq_ev (v := str y41.ID) (fun w1 hw1 => ev_load Tryz.isAgg9 rfl ((hB58.mv (Mv.of_below (i := 8) (ρ := ρ55) hw1)).cell rfl)) (by decide) ?_
       refine sq_ev (v := .pointer (some ⟨g54, 11, none⟩)) (fun w1 hw1 => ev_fieldAddr (i := 3) Tryz.underlying44 rfl Tryz.info9 rfl rfl) (by decide) ?_
       refine sq_ev (v := str y41.S) (fun w1 hw1 => ev_load Tryz.isAgg9 rfl ((hB58.mv (Mv.of_below (i := 8) (ρ := ρ55) hw1)).cell rfl)) (by decide) ?_
       obtain ⟨y201, hy202, hS⟩ := bind_some' hS
       refine sq_call (v := .int .i64 y201) (vs := [.pointer (some ⟨gs_4, 0, none⟩), str y41.ID, str y41.S]) rfl Tryz.call30 rfl (fun w1 hw1 => (ref36_Clients_Authenticate_ok _ ((hg.fr hz hb).below hw1) (ρA := ρ55) (fun b h => Nat.lt_of_lt_of_le (hb.bd b h) hw1.size) (hz.fr hg hb) (τ0 := (fun p => 200 + p)) (fun p => Nat.le_add_right_of_le (by decide)) (⟨_, (hB39.mv (Mv.of_below (i := 200) (ρ := ρ55) hw1)), (h38.mv (Mv.of_below (i := 201) (ρ := ρ55) hw1) (by decide))⟩ : ref36_Clients.O (fun p => 200 + p) ρ55 w1 gs_4 os_4) hy202)) (by decide) ?_
       refine sq_ev (v := .bool (y196 == y201)) (fun w1 hw1 => ev_eq rfl rfl) (by decide) ?_
       refine sq_ev (v := .bool (y196 == y201)) (fun w1 hw1 => ev_assign rfl) (by decide) ?_
       refine sq_end (l' := [(0, vl_0), (3, .pointer (some ⟨gr_3, 0, none⟩)), (4, .pointer (some ⟨gs_4, 0, none⟩)), (5, .int .i64 i_5), (7, .bool (y196 == y201))]) (.cons rfl (.cons rfl (.cons rfl (.cons rfl (.cons rfl (.nil _)))))) (fun w195 hw194 => ?_)
       have htr206 := Tr.of_below hw194 hb.bd
       replace hl_0 := hl_0.mv htr206.rd
       replace hB36 := hB36.mv (htr206.mv (i := 100) rfl)
       replace h35 := h35.mv (htr206.mv (i := 101) rfl)
       replace hB39 := hB39.mv (htr206.mv (i := 200) rfl)
       replace h38 := h38.mv (htr206.mv (i := 201) rfl) (by decide)
       replace hb := hb.trans htr206
       have hK := law36_ClientPlays_B2_ok hg hbd hz _ hr0 hS hb hl_0 ⟨_, hB36, h35⟩ ⟨_, hB39, h38⟩
       exact ke_weaken (l' := [(0, vl_0), (3, .pointer (some ⟨gr_3, 0, none⟩)), (4, .pointer (some ⟨gs_4, 0, none⟩)), (5, .int .i64 i_5), (7, .bool (y196 == y201))]) (.cons rfl (.cons rfl (.cons rfl (.cons rfl (.cons rfl (.nil _)))))) hK
      ·replace hS := ite_false' hS hc193
       refine ke_seq ?_
       refine ke_region ?_
       refine sr_ev (v := .bool (y41.Kind == 4)) (ev_eq rfl rfl) (by decide) ?_
       refine sr_ev (v := .bool (y41.Kind == 4)) (ev_assign rfl) (by decide) ?_
       refine sr_end (l' := [(0, vl_0), (3, .pointer (some ⟨gr_3, 0, none⟩)), (4, .pointer (some ⟨gs_4, 0, none⟩)), (5, .int .i64 i_5), (6, .pointer (some ⟨g54, 0, none⟩)), (31, .int .i64 y41.Kind), (102, .bool (y41.Kind == 4))]) (.cons rfl (.cons rfl (.cons rfl (.cons rfl (.cons rfl (.cons rfl (.cons rfl (.nil _)))))))) ?_
       refine ke_cond (t := y41.Kind == 4) rfl (fun hc207 => ?_) (fun hc207 => ?_)
       ·replace hS := ite_true' hS hc207
        refine ke_region_q Tryz.mixed (by kernel_rfl) ?_
        refine sq_ev (v := .pointer (some ⟨gr_3, 0, none⟩)) (fun w1 hw1 => ev_move rfl) (by decide) ?_
        refine sq_ev (v := .pointer (some ⟨g54, 10, none⟩)) (fun w1 hw1 => ev_fieldAddr (i := 2) Tryz.underlying44 rfl Tryz.info9 rfl rfl) (by decide) ?_
        refine sq_ev (v := str y41.ID) (fun w1 hw1 => ev_load Tryz.isAgg9 rfl ((hB58.mv (Mv.of_below (i := 8) (ρ := ρ55) hw1)).cell rfl)) (by decide) ?_
        refine sq_ev (v := .pointer (some ⟨g54, 12, none⟩)) (fun w1 hw1 => ev_fieldAddr (i := 4) Tryz.underlying44 rfl Tryz.info25 rfl rfl) (by decide) ?_
        refine sq_ev (v := v52) (fun w1 hw1 => ev_load Tryz.isAgg25 rfl ((hB58.mv (Mv.of_below (i := 8) (ρ := ρ55) hw1)).cell rfl)) (by decide) ?_
        obtain ⟨y210, hy211, hS⟩ := bind_some' hS
        refine sq_call (v := .int .i64 y210) (vs := [.pointer (some ⟨gr_3, 0, none⟩), str y41.ID, v52]) rfl Tryz.call19 rfl (fun w1 hw1 => (client_Clients_Allowed_ok _ ((hg.fr hz hb).below hw1) (ρA := ρ55) (fun b h => Nat.lt_of_lt_of_le (hb.bd b h) hw1.size) (hz.fr hg hb) (τ0 := (fun p => 100 + p)) (fun p => Nat.le_add_right_of_le (by decide)) (h53.mv (Mv.of_below (i := 0) hw1)) (⟨_, (hB36.mv (Mv.of_below (i := 100) (ρ := ρ55) hw1)), (h35.mv (Mv.of_below (i := 101) (ρ := ρ55) hw1))⟩ : client_Clients.O (fun p => 100 + p) ρ55 w1 gr_3 or_3) hy211)) (by decide) ?_
        refine sq_ev (v := .pointer (some ⟨gs_4, 0, none⟩)) (fun w1 hw1 => ev_move rfl) (by decide) ?_
        refine sq_ev (v := .pointer (some ⟨g54, 10, none⟩)) (fun w1 hw1 => ev_fieldAddr (i := 2) Tryz.underlying44 rfl Tryz.info9 rfl rfl) (by decide) ?_
        refine sq_ev (v := str y41.ID) (fun w1 hw1 => ev_load Tryz.isAgg9 rfl ((hB58.mv (Mv.of_below (i := 8) (ρ := ρ55) hw1)).cell rfl)) (by decide) ?_
        refine sq_ev (v := .pointer (some ⟨g54, 12, none⟩)) (fun w1 hw1 => ev_fieldAddr (i := 4) Tryz.underlying44 rfl Tryz.info25 rfl rfl) (by decide) ?_
        refine sq_ev (v := v52) (fun w1 hw1 => ev_load Tryz.isAgg25 rfl ((hB58.mv (Mv.of_below (i := 8) (ρ := ρ55) hw1)).cell rfl)) (by decide) ?_
        obtain ⟨y215, hy216, hS⟩ := bind_some' hS
        refine sq_call (v := .int .i64 y215) (vs := [.pointer (some ⟨gs_4, 0, none⟩), str y41.ID, v52]) rfl Tryz.call31 rfl (fun w1 hw1 => (ref36_Clients_Allowed_ok _ ((hg.fr hz hb).below hw1) (ρA := ρ55) (fun b h => Nat.lt_of_lt_of_le (hb.bd b h) hw1.size) (hz.fr hg hb) (τ0 := (fun p => 200 + p)) (fun p => Nat.le_add_right_of_le (by decide)) (h53.mv (Mv.of_below (i := 0) hw1)) (⟨_, (hB39.mv (Mv.of_below (i := 200) (ρ := ρ55) hw1)), (h38.mv (Mv.of_below (i := 201) (ρ := ρ55) hw1) (by decide))⟩ : ref36_Clients.O (fun p => 200 + p) ρ55 w1 gs_4 os_4) hy216)) (by decide) ?_
        refine sq_ev (v := .bool (y210 == y215)) (fun w1 hw1 => ev_eq rfl rfl) (by decide) ?_
        refine sq_ev (v := .bool (y210 == y215)) (fun w1 hw1 => ev_assign rfl) (by decide) ?_
        refine sq_end (l' := [(0, vl_0), (3, .pointer (some ⟨gr_3, 0, none⟩)), (4, .pointer (some ⟨gs_4, 0, none⟩)), (5, .int .i64 i_5), (7, .bool (y210 == y215))]) (.cons rfl (.cons rfl (.cons rfl (.cons rfl (.cons rfl (.nil _)))))) (fun w209 hw208 => ?_)
        have htr220 := Tr.of_below hw208 hb.bd
        replace hl_0 := hl_0.mv htr220.rd
        replace hB36 := hB36.mv (htr220.mv (i := 100) rfl)
        replace h35 := h35.mv (htr220.mv (i := 101) rfl)
        replace hB39 := hB39.mv (htr220.mv (i := 200) rfl)
        replace h38 := h38.mv (htr220.mv (i := 201) rfl) (by decide)
        replace hb := hb.trans htr220
        have hK := law36_ClientPlays_B2_ok hg hbd hz _ hr0 hS hb hl_0 ⟨_, hB36, h35⟩ ⟨_, hB39, h38⟩
        exact ke_weaken (l' := [(0, vl_0), (3, .pointer (some ⟨gr_3, 0, none⟩)), (4, .pointer (some ⟨gs_4, 0, none⟩)), (5, .int .i64 i_5), (7, .bool (y210 == y215))]) (.cons rfl (.cons rfl (.cons rfl (.cons rfl (.cons rfl (.nil _)))))) hK
       ·replace hS := ite_false' hS hc207
        refine ke_seq ?_
        refine ke_region ?_
        refine sr_ev (v := .bool (y41.Kind == 5)) (ev_eq rfl rfl) (by decide) ?_
        refine sr_ev (v := .bool (y41.Kind == 5)) (ev_assign rfl) (by decide) ?_
        refine sr_end (l' := [(0, vl_0), (3, .pointer (some ⟨gr_3, 0, none⟩)), (4, .pointer (some ⟨gs_4, 0, none⟩)), (5, .int .i64 i_5), (6, .pointer (some ⟨g54, 0, none⟩)), (117, .bool (y41.Kind == 5))]) (.cons rfl (.cons rfl (.cons rfl (.cons rfl (.cons rfl (.cons rfl (.nil _))))))) ?_
        refine ke_cond (t := y41.Kind == 5) rfl (fun hc221 => ?_) (fun hc221 => ?_)
        ·replace hS := ite_true' hS hc221
         refine ke_region_j (ρ := ρ55) (fun t => ([100, 101, 200, 201] : List Nat).contains t) 10 Tryz.mixed (fun w223 hw222 => ?_)
         have htr224 := Tr.of_below hw222 hb.bd
         replace hl_0 := hl_0.mv htr224.rd
         replace hB58 := hB58.mv (htr224.mv (i := 8) rfl)
         replace h49 := h49.mv htr224.rd
         replace h51 := h51.mv htr224.rd
         replace h53 := h53.mv htr224.rd
         replace hB36 := hB36.mv (htr224.mv (i := 100) rfl)
         replace h35 := h35.mv (htr224.mv (i := 101) rfl)
         replace hB39 := hB39.mv (htr224.mv (i := 200) rfl)
         replace h38 := h38.mv (htr224.mv (i := 201) rfl) (by decide)
         replace hb := hb.trans htr224
         refine dj_H 0 (v := .pointer (some ⟨gr_3, 0, none⟩)) (by kernel_rfl) (by kernel_rfl) rfl (fun _ _ _ h => h) (sj_refl hb.bd rfl rfl) (fun w1 ρ1 hw1 => ev_move rfl) (by decide) ?_
         refine dj_H 1 (v := .pointer (some ⟨g54, 10, none⟩)) (by kernel_rfl) (by kernel_rfl) rfl (fun _ _ _ h => h) (sj_refl hb.bd rfl rfl) (fun w1 ρ1 hw1 => ev_fieldAddr (i := 2) Tryz.underlying44 rfl Tryz.info9 rfl rfl) (by decide) ?_
         refine dj_H 2 (v := str y41.ID) (by kernel_rfl) (by kernel_rfl) rfl (fun _ _ _ h => h) (sj_refl hb.bd rfl rfl) (fun w1 ρ1 hw1 => ev_load Tryz.isAgg9 rfl ((hB58.mv (hw1.mv (i := 8) rfl)).cell rfl)) (by decide) ?_
         refine dj_H 4 (v := .pointer (some ⟨gs_4, 0, none⟩)) (by kernel_rfl) (by kernel_rfl) rfl (fun _ _ _ h => h) (sj_refl hb.bd rfl rfl) (fun w1 ρ1 hw1 => ev_move rfl) (by decide) ?_
         refine dj_H 5 (v := .pointer (some ⟨g54, 10, none⟩)) (by kernel_rfl) (by kernel_rfl) rfl (fun _ _ _ h => h) (sj_refl hb.bd rfl rfl) (fun w1 ρ1 hw1 => ev_fieldAddr (i := 2) Tryz.underlying44 rfl Tryz.info9 rfl rfl) (by decide) ?_
         refine dj_H 6 (v := str y41.ID) (by kernel_rfl) (by kernel_rfl) rfl (fun _ _ _ h => h) (sj_refl hb.bd rfl rfl) (fun w1 ρ1 hw1 => ev_load Tryz.isAgg9 rfl ((hB58.mv (hw1.mv (i := 8) rfl)).cell rfl)) (by decide) ?_
         refine dj_E 3 (by kernel_rfl) rfl ?_
         have jt266 : Tr ρ55 w223 (fun t => ([100, 101, 200, 201] : List Nat).contains t) ρ55 w223 := (Tr.refl hb.bd).weak (fun _ _ => rfl) rfl rfl
         obtain ⟨y267, hy268, hS⟩ := bind_some' hS
         refine sr_call (vs := [.pointer (some ⟨gr_3, 0, none⟩), str y41.ID]) rfl Tryz.call32 rfl (client_Clients_Remove_ok _ (hg.fr hz hb) (ρA := ρ55) hb.bd (hz.fr hg hb) (o := 100) (by decide) (⟨_, hB36, h35⟩ : client_Clients.O (fun p => 100 + p) ρ55 w223 gr_3 or_3) hy268) (by decide) ?_
         rintro _ w269 ⟨ρ275, rfl, ⟨v272, hB274, h273⟩, htr271⟩
         replace hl_0 := hl_0.mv htr271.rd
         replace hB39 := hB39.mv (htr271.mv (i := 200) rfl)
         replace h38 := h38.mv (htr271.mv (i := 201) rfl) (by decide)
         replace hb := hb.trans htr271
         replace jt266 := (jt266.trans htr271).weak (J' := (fun t => ([100, 101, 200, 201] : List Nat).contains t)) (by intro t h; simp [rng] at h ⊢ <;> omega) rfl rfl
         replace hB274 : Blk ρ275 100 w269 gr_3 (.cells #[v272] 57 (0, 0)) := hB274
         replace h273 : MapT str api_Client.c true ρ275 101 w269 v272 y267.2.of_ := h273
         refine dj_next (l' := [(0, vl_0), (3, .pointer (some ⟨gr_3, 0, none⟩)), (4, .pointer (some ⟨gs_4, 0, none⟩)), (5, .int .i64 i_5), (122, .bool y267.1), (123, .pointer (some ⟨gs_4, 0, none⟩)), (125, str y41.ID)]) rfl (.cons rfl (.cons rfl (.cons rfl (.cons rfl (.cons rfl (.cons rfl (.cons rfl (.nil _)))))))) jt266 (by intro t h; simp [rng] at h ⊢ <;> omega) rfl rfl ?_
         refine dj_E 7 (by kernel_rfl) rfl ?_
         have jt276 : Tr ρ275 w269 (fun t => ([100, 101, 200, 201] : List Nat).contains t) ρ275 w269 := (Tr.refl hb.bd).weak (fun _ _ => rfl) rfl rfl
         obtain ⟨y277, hy278, hS⟩ := bind_some' hS
         refine sr_call (vs := [.pointer (some ⟨gs_4, 0, none⟩), str y41.ID]) rfl Tryz.call33 rfl (ref36_Clients_Remove_ok _ (hg.fr hz hb) (ρA := ρ275) hb.bd (hz.fr hg hb) (o := 200) (by decide) (⟨_, hB39, h38⟩ : ref36_Clients.O (fun p => 200 + p) ρ275 w269 gs_4 os_4) hy278) (by decide) ?_
         rintro _ w279 ⟨ρ285, rfl, ⟨v282, hB284, h283⟩, htr281⟩
         replace hl_0 := hl_0.mv htr281.rd
         replace hB274 := hB274.mv (htr281.mv (i := 100) rfl)
         replace h273 := h273.mv (htr281.mv (i := 101) rfl)
         replace hb := hb.trans htr281
         replace jt276 := (jt276.trans htr281).weak (J' := (fun t => ([100, 101, 200, 201] : List Nat).contains t)) (by intro t h; simp [rng] at h ⊢ <;> omega) rfl rfl
         replace hB284 : Blk ρ285 200 w279 gs_4 (.cells #[v282, .bool y277.2.made] 73 (0, 0)) := hB284
         replace h283 : OwnT api_Client.c 27 ρ285 201 w279 v282 y277.2.list := h283
         refine dj_next (l' := [(0, vl_0), (3, .pointer (some ⟨gr_3, 0, none⟩)), (4, .pointer (some ⟨gs_4, 0, none⟩)), (5, .int .i64 i_5), (122, .bool y267.1), (126, .bool y277.1)]) rfl (.cons rfl (.cons rfl (.cons rfl (.cons rfl (.cons rfl (.cons rfl (.nil _))))))) jt276 (by intro t h; simp [rng] at h ⊢ <;> omega) rfl rfl ?_
         refine dj_H 8 (v := .bool (y267.1 == y277.1)) (by kernel_rfl) (by kernel_rfl) rfl (fun _ _ _ h => h) (sj_refl hb.bd rfl rfl) (fun w1 ρ1 hw1 => ev_beq Tryz.underlying4 rfl rfl) (by decide) ?_
         refine dj_H 9 (v := .bool (y267.1 == y277.1)) (by kernel_rfl) (by kernel_rfl) rfl (fun _ _ _ h => h) (sj_refl hb.bd rfl rfl) (fun w1 ρ1 hw1 => ev_assign rfl) (by decide) ?_
         refine dj_done rfl (by kernel_rfl) ?_
         refine ke_weaken (l' := [(0, vl_0), (3, .pointer (some ⟨gr_3, 0, none⟩)), (4, .pointer (some ⟨gs_4, 0, none⟩)), (5, .int .i64 i_5), (7, .bool (y267.1 == y277.1))]) (.cons rfl (.cons rfl (.cons rfl (.cons rfl (.cons rfl (.nil _)))))) ?_
         have hK := law36_ClientPlays_B2_ok hg hbd hz _ hr0 hS hb hl_0 ⟨_, hB274, h273⟩ ⟨_, hB284, h283⟩
         exact ke_weaken (l' := [(0, vl_0), (3, .pointer (some ⟨gr_3, 0, none⟩)), (4, .pointer (some ⟨gs_4, 0, none⟩)), (5, .int .i64 i_5), (7, .bool (y267.1 == y277.1))]) (.cons rfl (.cons rfl (.cons rfl (.cons rfl (.cons rfl (.nil _)))))) hK
        ·replace hS := ite_false' hS hc221
         refine ke_region ?_
         refine sr_ev (v := .pointer (some ⟨gr_3, 0, none⟩)) (ev_move rfl) (by decide) ?_
         obtain ⟨y286, hy287, hS⟩ := bind_some' hS
         refine sr_call (vs := [.pointer (some ⟨gr_3, 0, none⟩)]) rfl Tryz.call35 rfl (client_Clients_List_ok _ (hg.fr hz hb) (ρA := ρ55) hb.bd (hz.fr hg hb) (τ0 := (fun p => 100 + p)) (fun p => Nat.le_add_right_of_le (by decide)) (⟨_, hB36, h35⟩ : client_Clients.O (fun p => 100 + p) ρ55 w59 gr_3 or_3) hy287) (by decide) ?_
         rintro v291 w288 ⟨_, rfl, h292, hbw289⟩
         have htr290 := Tr.of_below hbw289 hb.bd
         replace hl_0 := hl_0.mv htr290.rd
         replace hB36 := hB36.mv (htr290.mv (i := 100) rfl)
         replace h35 := h35.mv (htr290.mv (i := 101) rfl)
         replace hB39 := hB39.mv (htr290.mv (i := 200) rfl)
         replace h38 := h38.mv (htr290.mv (i := 201) rfl) (by decide)
         replace hb := hb.trans htr290
         refine sr_ev (v := .pointer (some ⟨gs_4, 0, none⟩)) (ev_move rfl) (by decide) ?_
         obtain ⟨y293, hy294, hS⟩ := bind_some' hS
         refine sr_call (vs := [.pointer (some ⟨gs_4, 0, none⟩)]) rfl Tryz.call36 rfl (ref36_Clients_List_ok _ (hg.fr hz hb) (ρA := ρ55) hb.bd (hz.fr hg hb) (τ0 := (fun p => 200 + p)) (fun p => Nat.le_add_right_of_le (by decide)) (⟨_, hB39, h38⟩ : ref36_Clients.O (fun p => 200 + p) ρ55 w288 gs_4 os_4) hy294) (by decide) ?_
         rintro v298 w295 ⟨_, rfl, h299, hbw296⟩
         have htr297 := Tr.of_below hbw296 hb.bd
         replace hl_0 := hl_0.mv htr297.rd
         replace h292 := h292.mv htr297.rd
         replace hB36 := hB36.mv (htr297.mv (i := 100) rfl)
         replace h35 := h35.mv (htr297.mv (i := 101) rfl)
         replace hB39 := hB39.mv (htr297.mv (i := 200) rfl)
         replace h38 := h38.mv (htr297.mv (i := 201) rfl) (by decide)
         replace hb := hb.trans htr297
         obtain ⟨y300, hy301, hS⟩ := bind_some' hS
         refine sr_call (vs := [v291, v298]) rfl Tryz.call34 rfl (ref07_Lists_ok _ (hg.fr hz hb) h292.asSl h299.asSl hy301) (by decide) ?_
         rintro _ w302 ⟨rfl, hbw303⟩
         have htr304 := Tr.of_below hbw303 hb.bd
         replace hl_0 := hl_0.mv htr304.rd
         replace hB36 := hB36.mv (htr304.mv (i := 100) rfl)
         replace h35 := h35.mv (htr304.mv (i := 101) rfl)
         replace hB39 := hB39.mv (htr304.mv (i := 200) rfl)
         replace h38 := h38.mv (htr304.mv (i := 201) rfl) (by decide)
         replace hb := hb.trans htr304
         refine sr_ev (v := .bool y300) (ev_assign rfl) (by decide) ?_
         refine sr_end (l' := [(0, vl_0), (3, .pointer (some ⟨gr_3, 0, none⟩)), (4, .pointer (some ⟨gs_4, 0, none⟩)), (5, .int .i64 i_5), (7, .bool y300)]) (.cons rfl (.cons rfl (.cons rfl (.cons rfl (.cons rfl (.nil _)))))) ?_
         have hK := law36_ClientPlays_B2_ok hg hbd hz _ hr0 hS hb hl_0 ⟨_, hB36, h35⟩ ⟨_, hB39, h38⟩
         exact ke_weaken (l' := [(0, vl_0), (3, .pointer (some ⟨gr_3, 0, none⟩)), (4, .pointer (some ⟨gs_4, 0, none⟩)), (5, .int .i64 i_5), (7, .bool y300)]) (.cons rfl (.cons rfl (.cons rfl (.cons rfl (.cons rfl (.nil _)))))) hK
  ·replace hS := ite_false' hS hc40
   refine ke_exit (k' := _) rfl ?_
   refine ke_seq ?_
   refine ke_region ?_
   obtain ⟨y305, hy306, hS⟩ := bind_some' hS
   refine sr_call (vs := []) rfl Tryz.call11 rfl (law36_alive_ok _ (hg.fr hz hb) (ρA := ρ) hb.bd (hz.fr hg hb) hy306) (by decide) ?_
   rintro _ w307 ⟨rfl, hbw308⟩
   have htr309 := Tr.of_below hbw308 hb.bd
   replace hb := hb.trans htr309
   refine sr_ev (v := .bool y305) (ev_assign rfl) (by decide) ?_
   refine sr_end (l' := [(2, .bool y305)]) (.cons rfl (.nil _)) ?_
   cases hS
   exact ke_ret1 Tryz.func5 rfl rfl ⟨_, rfl, rfl, (hb.below (flat1_le _))⟩
theorem law36_ClientPlays_ok (w0 : World) (hg : Gs w0) {ρA : Tags} (hbd : ∀ b, ρA b ≠ 0 → b < w0.heap.size) (hz : Gz ρA) {l_0 : List law36_Op} {v1 : Value} {r : Bool} (h2 : SlR law36_Op.c (Wb ρA) w0 v1 l_0) (hS : law36_ClientPlays l_0 = some r) :
  Calls Tryz.prog 5 #[v1] w0 (Ret (fun v w' => v = .bool r ∧ Below w0.heap.size w0 w')) := by
 unfold law36_ClientPlays at hS
 have hb := flat1_fr (ρ := ρA) (w := w0) hbd
 have hz := hz.flat1
 replace h2 := SlR.mv h2 flat1_rd
 refine calls_of_ke Tryz.func5 rfl (n := 131) rfl rfl (l := [(0, v1)]) rfl ?_
 refine ke_seq ?_
 refine ke_region ?_
 refine sr_ev (v := .bool false) (ev_assign rfl) (by decide) ?_
 refine sr_end (l' := [(0, v1)]) (.cons rfl (.nil _)) ?_
 refine ke_seq ?_
 refine ke_seq ?_
 refine ke_region ?_
 refine sr_ev (v := v1) (ev_move rfl) (by decide) ?_
 obtain ⟨y3, hy4, hS⟩ := bind_some' hS
 refine sr_call (vs := [v1]) rfl Tryz.call21 rfl (law36_few_ok _ (hg.fr hz hb) (ρA := (flat1 ρA)) hb.bd (hz.fr hg hb) h2 hy4) (by decide) ?_
 rintro _ w5 ⟨rfl, hbw6⟩
 have htr7 := Tr.of_below hbw6 hb.bd
 replace h2 := h2.mv htr7.rd
 replace hb := hb.trans htr7
 refine sr_ev (v := .bool (!y3)) (ev_not rfl) (by decide) ?_
 refine sr_end (l' := [(0, v1), (14, .bool (!y3))]) (.cons rfl (.cons rfl (.nil _))) ?_
 refine ke_cond (t := !y3) rfl (fun hc8 => ?_) (fun hc8 => ?_)
 ·replace hS := ite_true' hS hc8
  refine ke_seq ?_
  refine ke_region ?_
  obtain ⟨y9, hy10, hS⟩ := bind_some' hS
  refine sr_call (vs := []) rfl Tryz.call11 rfl (law36_alive_ok _ (hg.fr hz hb) (ρA := (flat1 ρA)) hb.bd (hz.fr hg hb) hy10) (by decide) ?_
  rintro _ w11 ⟨rfl, hbw12⟩
  have htr13 := Tr.of_below hbw12 hb.bd
  replace hb := hb.trans htr13
  refine sr_ev (v := .bool y9) (ev_assign rfl) (by decide) ?_
  refine sr_end (l' := [(2, .bool y9)]) (.cons rfl (.nil _)) ?_
  cases hS
  exact ke_ret1 Tryz.func5 rfl rfl ⟨_, rfl, rfl, (hb.below (flat1_le _))⟩
 ·replace hS := ite_false' hS hc8
  refine ke_skip ?_
  refine ke_seq ?_
  refine ke_region ?_
  obtain ⟨y14, hy15, hS⟩ := bind_some' hS
  refine sr_call (vs := []) rfl Tryz.call15 rfl (client_New_ok _ (hg.fr hz hb) (ρA := (flat1 ρA)) hb.bd (hz.fr hg hb) (o := 100) (by decide) hy15) (by decide) ?_
  rintro _ w16 ⟨ρ23, g19, rfl, ⟨v20, hB22, h21⟩, htr18⟩
  replace h2 := h2.mv htr18.rd
  replace hb := hb.trans htr18
  replace hB22 : Blk ρ23 100 w16 g19 (.cells #[v20] 57 (0, 0)) := hB22
  replace h21 : MapT str api_Client.c true ρ23 101 w16 v20 y14.of_ := h21
  obtain ⟨y24, hy25, hS⟩ := bind_some' hS
  refine sr_call (vs := []) rfl Tryz.call22 rfl (ref36_New_ok _ (hg.fr hz hb) (ρA := ρ23) hb.bd (hz.fr hg hb) (o := 200) (by decide) hy25) (by decide) ?_
  rintro _ w26 ⟨ρ33, g29, rfl, ⟨v30, hB32, h31⟩, htr28⟩
  replace h2 := h2.mv htr28.rd
  replace hB22 := hB22.mv (htr28.mv (i := 100) rfl)
  replace h21 := h21.mv (htr28.mv (i := 101) rfl)
  replace hb := hb.trans htr28
  replace hB32 : Blk ρ33 200 w26 g29 (.cells #[v30, .bool y24.made] 73 (0, 0)) := hB32
  replace h31 : OwnT api_Client.c 27 ρ33 201 w26 v30 y24.list := h31
  refine sr_ev (v := .pointer (some ⟨g19, 0, none⟩)) (ev_assign rfl) (by decide) ?_
  refine sr_ev (v := .pointer (some ⟨g29, 0, none⟩)) (ev_assign rfl) (by decide) ?_
  refine sr_end (l' := [(0, v1), (3, .pointer (some ⟨g19, 0, none⟩)), (4, .pointer (some ⟨g29, 0, none⟩))]) (.cons rfl (.cons rfl (.cons rfl (.nil _)))) ?_
  refine ke_seq ?_
  refine ke_seq ?_
  refine ke_region ?_
  refine sr_ev (v := .pointer (some ⟨g19, 0, none⟩)) (ev_move rfl) (by decide) ?_
  refine sr_ev (v := .bool false) (ev_peqT_some Tryz.underlying33 rfl rfl) (by decide) ?_
  refine sr_end (l' := [(0, v1), (3, .pointer (some ⟨g19, 0, none⟩)), (4, .pointer (some ⟨g29, 0, none⟩)), (19, .bool false)]) (.cons rfl (.cons rfl (.cons rfl (.cons rfl (.nil _))))) ?_
  refine ke_cond (t := false) rfl (fun h => by cases h) (fun _ => ?_)
  refine ke_skip ?_
  refine ke_seq ?_
  refine ke_seq ?_
  refine ke_region ?_
  refine sr_ev (v := .int .i64 0) (ev_assign rfl) (by decide) ?_
  refine sr_end (l' := [(0, v1), (3, .pointer (some ⟨g19, 0, none⟩)), (4, .pointer (some ⟨g29, 0, none⟩)), (5, .int .i64 0)]) (.cons rfl (.cons rfl (.cons rfl (.cons rfl (.nil _))))) ?_
  refine ke_block ?_
  have hK := law36_ClientPlays_L1_ok hg hbd hz _ hS hb h2 ⟨_, hB22, h21⟩ ⟨_, hB32, h31⟩
  exact ke_weaken (l' := [(0, v1), (3, .pointer (some ⟨g19, 0, none⟩)), (4, .pointer (some ⟨g29, 0, none⟩)), (5, .int .i64 0)]) (.cons rfl (.cons rfl (.cons rfl (.cons rfl (.nil _))))) (ke_loop hK)
end YtmdbnoopcdpomaaGreatDoor
end Go.Proofs
