/- Own work: a part of the proofs of this seat. -/
import Derived.Test.YtkhodjenbganfaaGreatDoorProg
import Derived.Test.YtkhodjenbganfaaGreatDoorKwShelf
import Derived.Test.YtkhodjenbganfaaGreatDoorKwTS
import Derived.KernelRfl
import Derived.Test.YtkhodjenbganfaaGreatDoorKwShort
set_option linter.unusedVariables false
set_option linter.unusedSimpArgs false
set_option linter.unusedSectionVars false
set_option maxHeartbeats 8000000
set_option maxRecDepth 8000
namespace Go.Proofs
namespace YtkhodjenbganfaaGreatDoor
open Go Go.KW Go.KW.S Go.RowKit
theorem Tryz.mixed : Tryz.prog.follows .mixedOrders = true := by kernel_rfl
theorem Tryz.info3 : Tryz.prog.info? 3 = some Tryz.t3 := by kernel_rfl
theorem Tryz.info4 : Tryz.prog.info? 4 = some Tryz.t4 := by kernel_rfl
theorem Tryz.info5 : Tryz.prog.info? 5 = some Tryz.t5 := by kernel_rfl
theorem Tryz.info9 : Tryz.prog.info? 9 = some Tryz.t9 := by kernel_rfl
theorem Tryz.info33 : Tryz.prog.info? 33 = some Tryz.t33 := by kernel_rfl
theorem Tryz.info36 : Tryz.prog.info? 36 = some Tryz.t36 := by kernel_rfl
theorem Tryz.info40 : Tryz.prog.info? 40 = some Tryz.t40 := by kernel_rfl
theorem Tryz.info42 : Tryz.prog.info? 42 = some Tryz.t42 := by kernel_rfl
theorem Tryz.info45 : Tryz.prog.info? 45 = some Tryz.t45 := by kernel_rfl
theorem Tryz.info64 : Tryz.prog.info? 64 = some Tryz.t64 := by kernel_rfl
theorem Tryz.info65 : Tryz.prog.info? 65 = some Tryz.t65 := by kernel_rfl
theorem Tryz.info66 : Tryz.prog.info? 66 = some Tryz.t66 := by kernel_rfl
theorem Tryz.info67 : Tryz.prog.info? 67 = some Tryz.t67 := by kernel_rfl
theorem Tryz.info90 : Tryz.prog.info? 90 = some Tryz.t90 := by kernel_rfl
theorem Tryz.info93 : Tryz.prog.info? 93 = some Tryz.t93 := by kernel_rfl
theorem Tryz.info94 : Tryz.prog.info? 94 = some Tryz.t94 := by kernel_rfl
theorem Tryz.info103 : Tryz.prog.info? 103 = some Tryz.t103 := by kernel_rfl
theorem Tryz.info108 : Tryz.prog.info? 108 = some Tryz.t108 := by kernel_rfl
theorem Tryz.info132 : Tryz.prog.info? 132 = some Tryz.t132 := by kernel_rfl
theorem Tryz.info135 : Tryz.prog.info? 135 = some Tryz.t135 := by kernel_rfl
theorem Tryz.info138 : Tryz.prog.info? 138 = some Tryz.t138 := by kernel_rfl
theorem Tryz.info142 : Tryz.prog.info? 142 = some Tryz.t142 := by kernel_rfl
structure Gs (w : World) : Prop where
 tab0_ : ∀ i x, idx tab_digest_digits i = some x → w.cell? ⟨0, 0 + i.toNat * 1, none⟩ = some (.int .u8 x)
 pow10_ : Lib.TabIs Tryz.prog w "internal/strconv.uint64pow10" .u64 Lib.pow10Tab
 iv4_ : ∃ m, w.cell? ⟨4, 0, none⟩ = some (.int .i64 m)
theorem Gs.below {w w' : World} (h : Gs w) (s : Below w.heap.size w w') : Gs w' := ⟨fun i x hx => cell_below (h.tab0_ i x hx) s, tabIs_below h.pow10_ s, h.iv4_.imp fun _ hm => cell_below hm s⟩
structure Gz (ρ : Tags) : Prop where
 z0 : ρ 0 = 0
 z1 : ∀ g, Tryz.prog.globalNamed "internal/strconv.uint64pow10" = some g → ρ g = 0
 z2 : ρ 4 = 0
theorem Gs.fr {ρ0 ρ : Tags} {w0 w : World} (h : Gs w0) (hz : Gz ρ0) (hb : Fr ρ0 w0 ρ w) : Gs w := ⟨fun i x hx => cell_fr (h.tab0_ i x hx) hz.z0 hb, tabIs_fr h.pow10_ hz.z1 hb, h.iv4_.imp fun _ hm => cell_fr hm hz.z2 hb⟩
theorem Gz.fr {ρ0 ρ : Tags} {w0 w : World} (hz : Gz ρ0) (h : Gs w0) (hb : Fr ρ0 w0 ρ w) : Gz ρ := ⟨tag_fr (h.tab0_ 0 _ rfl) hz.z0 hb, tabTag_fr h.pow10_ hz.z1 hb, h.iv4_.elim fun _ hm => tag_fr hm hz.z2 hb⟩
theorem Gz.enter {ρ : Tags} {o n : Nat} (hz : Gz ρ) (ho : 2 ≤ o) : Gz (enter ρ o n) := ⟨enter_zero ho hz.z0, fun g hg => enter_zero ho (hz.z1 g hg), enter_zero ho hz.z2⟩
theorem Gz.flat1 {ρ : Tags} (hz : Gz ρ) : Gz (flat1 ρ) := ⟨flat1_zero hz.z0, fun g hg => flat1_zero (hz.z1 g hg), flat1_zero hz.z2⟩
theorem Gs.tab0 {w : World} (h : Gs w) {i x : Int} (hx : idx tab_digest_digits i = some x) : w.cell? ⟨0, 0 + i.toNat * 1, none⟩ = some (.int .u8 x) := h.tab0_ i x hx
theorem lib_Itoa_ok (w0 : World) (hg : Gs w0) {n : Int} {r : Str} (hS : lib_Itoa n = some r) : Calls Tryz.prog 114 #[.int .i64 n] w0 (Ret fun v w' => v = str r ∧ Below w0.heap.size w0 w') :=
 itoa_ok (fun n w h0 h1 ht => Tryz.strconv_Itoa n h0 h1 w ht) hg.pow10_ hS
theorem lib_Trim_ok (w0 : World) (hg : Gs w0) {s t : Str} {r : Str} (hS : lib_Trim s t = some r) : Calls Tryz.prog 113 #[str s, str t] w0 (Ret fun v w' => v = str r ∧ Below w0.heap.size w0 w') :=
 trim_ok (fun s c hc w hs => Tryz.strings_Trim_one s c hc w hs) hS
theorem Tryz.eq42 (x y : api_Proof) : EqAgg Tryz.prog 42 (#[.int .i64 x.Factor, .int .i64 x.Time]) (#[.int .i64 y.Factor, .int .i64 y.Time]) (api_Proof.eqb x y) :=
 eqAgg_of Tryz.underlying42 (by kernel_rfl) (by kernel_rfl) (.cons (by decide) Tryz.isAgg40 rfl rfl (eqCell_int Tryz.underlying40 _ _) (.cons (by decide) Tryz.isAgg3 rfl rfl (eqCell_int Tryz.underlying3 _ _) (.nil))) (by simp [api_Proof.eqb, Bool.and_assoc])
theorem api_Proof.eqb_iff (x y : api_Proof) : api_Proof.eqb x y = decide (x = y) := by
 cases x; cases y; rw [Bool.eq_iff_iff]; simp [api_Proof.eqb, and_assoc]
theorem Tryz.keyB9 : KeyB Tryz.prog 9 str := keyB_str Tryz.underlying9
theorem law39_few_L1_ok {w0 : World} (hg : Gs w0) {A0 : Nat → Prop} (hA0 : ∀ b, A0 b → b < w0.heap.size) : ∀ (n : Nat), ∀ {r : Bool} {l_0 : List law39_Op} {i_3 : Int} {vl_0 : Value}, law39_few_L1 n l_0 i_3 = some r → ∀ {w : World} {A : Nat → Prop}, (Below w0.heap.size w0 w) → (∀ b, A b → b < w.heap.size) → (∀ b, A0 b → A b) → (Hp A w0.heap.size w []) → (SlR law39_Op.c A w vl_0 l_0) → KE Tryz.prog 9 (Ret (fun v w' => v = .bool r ∧ Below w0.heap.size w0 w')) 46 [.code (sub (bodyOf Tryz.f9) [2, 1, 2, 2, 1]), .inLoop (sub (bodyOf Tryz.f9) [2, 1, 2, 2, 1]), .inBlock 0, .code (sub (bodyOf Tryz.f9) [2, 2])] [(0, vl_0), (3, .int .i64 i_3)] w := by
 intro n
 induction n with
 | zero => intro r l_0 i_3 vl_0 hS; cases hS
 | succ n ih =>
  have hr0 : ∀ {r : Bool} {l_0 : List law39_Op} {i_3 : Int} {vl_0 : Value}, law39_few_L1 n l_0 i_3 = some r → ∀ {w : World} {A : Nat → Prop}, (Below w0.heap.size w0 w) → (∀ b, A b → b < w.heap.size) → (∀ b, A0 b → A b) → (Hp A w0.heap.size w []) → (SlR law39_Op.c A w vl_0 l_0) → KE Tryz.prog 9 (Ret (fun v w' => v = .bool r ∧ Below w0.heap.size w0 w')) 46 [.inLoop (sub (bodyOf Tryz.f9) [2, 1, 2, 2, 1]), .inBlock 0, .code (sub (bodyOf Tryz.f9) [2, 2])] [(0, vl_0), (3, .int .i64 i_3)] w := fun {r} {l_0} {i_3} {vl_0} hS {w} {A} hb hA hi hH hl_0 => ke_inLoop (ih hS hb hA hi hH hl_0)
  clear ih
  intro r l_0 i_3 vl_0 hS w A hb hA hi hH hl_0
  unfold law39_few_L1 at hS
  refine ke_seq <| ke_seq <| ke_region <| sr_go 2 rfl ?_
  refine sr_e (ev_sllen Tryz.underlying22 rfl hl_0) ?_
  refine sr_go 1 rfl <| sr_fin [0, 3, 8] rfl ?_
  refine ke_cond rfl (fun hc3 => ?_) (fun hc3 => ?_)
  ·replace hS := iT hS hc3
   refine ke_skip <| ke_seq ?_
   refine ke_block ?_
   refine ke_seq <| ke_region <| sr_go 2 rfl ?_
   obtain ⟨y4, hy5, hS⟩ := bS hS
   refine sr_index hl_0 Tryz.underlying22 Tryz.info33 rfl rfl rfl hy5 (by decide) ?_
   intro b6 o7 cs9 he8
   obtain rfl : cs9 = [.int .i64 y4.Kind, str y4.ID, str y4.User, str y4.Word, str y4.Code, str y4.S, .int .i64 y4.Level, .int .i64 y4.Rounds, .int .i64 y4.Now] := he8.rd
   refine sr_e (v := .agg #[.int .i64 y4.Kind, str y4.ID, str y4.User, str y4.Word, str y4.Code, str y4.S, .int .i64 y4.Level, .int .i64 y4.Rounds, .int .i64 y4.Now]) (ev_loads Tryz.isAgg33 Tryz.sizeOf33 rfl he8.cell) ?_
   refine sr_alloc hH hb.size hA Tryz.zeroValue33 (by decide) ?_
   intro g10 A11 w12 hH1 hst13 hbw14 hinc15 hA1 hge16
   replace hb := hb.trans (hbw14.mono hb.size)
   replace hi := fun b hb => hinc15 b (hi b hb)
   replace hl_0 := hl_0.step hst13
   replace hH : Hp A11 w0.heap.size w12 [(g10, .cells #[.int .i64 0, str ([]), str ([]), str ([]), str ([]), str ([]), .int .i64 0, .int .i64 0, .int .i64 0] 33 (0, 0))] := hH1
   replace hA := hA1
   clear hH1 hA1
   refine sr_store (i := 0) (v := .agg #[.int .i64 y4.Kind, str y4.ID, str y4.User, str y4.Word, str y4.Code, str y4.S, .int .i64 y4.Level, .int .i64 y4.Rounds, .int .i64 y4.Now]) (vs := [.int .i64 y4.Kind, str y4.ID, str y4.User, str y4.Word, str y4.Code, str y4.S, .int .i64 y4.Level, .int .i64 y4.Rounds, .int .i64 y4.Now]) (cs' := #[.int .i64 y4.Kind, str y4.ID, str y4.User, str y4.Word, str y4.Code, str y4.S, .int .i64 y4.Level, .int .i64 y4.Rounds, .int .i64 y4.Now]) hH rfl rfl rfl rfl Tryz.sizeOf33 rfl rfl rfl ?_
   intro w17 hH1 hwr18
   replace hb := hwr18.below hb (hH.base _ (List.mem_of_getElem? (i := 0) rfl))
   replace hA := hwr18.lt hA
   replace hl_0 := hl_0.step hwr18.st
   replace hH : Hp A11 w0.heap.size w17 [(g10, .cells #[.int .i64 y4.Kind, str y4.ID, str y4.User, str y4.Word, str y4.Code, str y4.S, .int .i64 y4.Level, .int .i64 y4.Rounds, .int .i64 y4.Now] 33 (0, 0))] := hH1
   clear hH1
   refine sr_fin [0, 3, 4] rfl <| ke_seq <| ke_region ?_
   refine sr_fa 1 Tryz.underlying33 rfl Tryz.info9 ?_
   refine sr_ld (str y4.ID) Tryz.isAgg9 rfl (hH.cell (i := 0) rfl rfl) ?_
   refine sr_e (ev_slen Tryz.underlying9 rfl) ?_
   refine sr_go 2 rfl ?_
   refine sr_join (m := 5) (C := fun (x : Bool) w1 => x = ((decide ((y4.ID.length : Int) > 300)) || (decide ((y4.User.length : Int) > 300))) ∧ w17 = w1) (l' := fun x => [(0, vl_0), (3, .int .i64 i_3), (4, pT g10 0), (24, .bool x)]) ?_ ?_
   ·rintro _ _ ⟨rfl, rfl⟩
    refine sr_go 1 rfl ?_
    refine sr_join (m := 5) (C := fun (x : Bool) w1 => x = (((decide ((y4.ID.length : Int) > 300)) || (decide ((y4.User.length : Int) > 300))) || (decide ((y4.Word.length : Int) > 300))) ∧ w17 = w1) (l' := fun x => [(0, vl_0), (3, .int .i64 i_3), (4, pT g10 0), (30, .bool x)]) ?_ ?_
    ·rintro _ _ ⟨rfl, rfl⟩
     refine sr_go 1 rfl ?_
     refine sr_join (m := 5) (C := fun (x : Bool) w1 => x = ((((decide ((y4.ID.length : Int) > 300)) || (decide ((y4.User.length : Int) > 300))) || (decide ((y4.Word.length : Int) > 300))) || (decide ((y4.Code.length : Int) > 300))) ∧ w17 = w1) (l' := fun x => [(0, vl_0), (3, .int .i64 i_3), (4, pT g10 0), (36, .bool x)]) ?_ ?_
     ·rintro _ _ ⟨rfl, rfl⟩
      refine sr_go 1 rfl ?_
      refine sr_join (m := 5) (C := fun (x : Bool) w1 => x = (((((decide ((y4.ID.length : Int) > 300)) || (decide ((y4.User.length : Int) > 300))) || (decide ((y4.Word.length : Int) > 300))) || (decide ((y4.Code.length : Int) > 300))) || (decide ((y4.S.length : Int) > 300))) ∧ w17 = w1) (l' := fun x => [(0, vl_0), (3, .int .i64 i_3), (42, .bool x)]) ?_ ?_
      ·rintro _ _ ⟨rfl, rfl⟩
       refine sr_fin [0, 3, 42] rfl ?_
       refine ke_cond rfl (fun hc47 => ?_) (fun hc47 => ?_)
       ·replace hS := iT hS hc47
        refine ke_seq <| ke_region <| sr_go 1 rfl <| sr_fin [2] rfl ?_
        cases hS
        exact ke_ret1 Tryz.func9 rfl rfl ⟨_, rfl, rfl, hb⟩
       ·replace hS := iF hS hc47
        refine ke_skip <| ke_inBlock <| ke_region <| sr_go 3 rfl <| sr_fin [0, 3] rfl ?_
        have hK := hr0 hS hb hA hi (hH.sub (.cons _ .slnil)) hl_0
        exact ke_wk hK
      ·intro K41
       rcases Bool.eq_false_or_eq_true ((((decide ((y4.ID.length : Int) > 300)) || (decide ((y4.User.length : Int) > 300))) || (decide ((y4.Word.length : Int) > 300))) || (decide ((y4.Code.length : Int) > 300))) with hg40 | hg40
       ·refine sr_setb 37 rfl hg40 <| sr_go 5 rfl ?_
        exact sr_wk (K41 true _ ⟨by rw [hg40]; rfl, rfl⟩)
       ·refine sr_eg hg40 (ev_fieldAddr (i := 5) Tryz.underlying33 rfl Tryz.info9 rfl rfl) ?_
        refine sr_eg hg40 (ev_load Tryz.isAgg9 rfl (hH.cell (i := 0) rfl rfl)) ?_
        refine sr_eg hg40 (ev_slen Tryz.underlying9 rfl) ?_
        refine sr_setb 37 rfl hg40 <| sr_go 2 rfl ?_
        exact sr_wk (K41 (decide ((y4.S.length : Int) > 300)) _ ⟨by rw [hg40]; rfl, rfl⟩)
     ·intro K34
      rcases Bool.eq_false_or_eq_true (((decide ((y4.ID.length : Int) > 300)) || (decide ((y4.User.length : Int) > 300))) || (decide ((y4.Word.length : Int) > 300))) with hg33 | hg33
      ·refine sr_setb 31 rfl hg33 <| sr_go 5 rfl ?_
       exact sr_wk (K34 true _ ⟨by rw [hg33]; rfl, rfl⟩)
      ·refine sr_eg hg33 (ev_fieldAddr (i := 4) Tryz.underlying33 rfl Tryz.info9 rfl rfl) ?_
       refine sr_eg hg33 (ev_load Tryz.isAgg9 rfl (hH.cell (i := 0) rfl rfl)) ?_
       refine sr_eg hg33 (ev_slen Tryz.underlying9 rfl) ?_
       refine sr_setb 31 rfl hg33 <| sr_go 2 rfl ?_
       exact sr_wk (K34 (decide ((y4.Code.length : Int) > 300)) _ ⟨by rw [hg33]; rfl, rfl⟩)
    ·intro K27
     rcases Bool.eq_false_or_eq_true ((decide ((y4.ID.length : Int) > 300)) || (decide ((y4.User.length : Int) > 300))) with hg26 | hg26
     ·refine sr_setb 25 rfl hg26 <| sr_go 5 rfl ?_
      exact sr_wk (K27 true _ ⟨by rw [hg26]; rfl, rfl⟩)
     ·refine sr_eg hg26 (ev_fieldAddr (i := 3) Tryz.underlying33 rfl Tryz.info9 rfl rfl) ?_
      refine sr_eg hg26 (ev_load Tryz.isAgg9 rfl (hH.cell (i := 0) rfl rfl)) ?_
      refine sr_eg hg26 (ev_slen Tryz.underlying9 rfl) ?_
      refine sr_setb 25 rfl hg26 <| sr_go 2 rfl ?_
      exact sr_wk (K27 (decide ((y4.Word.length : Int) > 300)) _ ⟨by rw [hg26]; rfl, rfl⟩)
   ·intro K20
    rcases Bool.eq_false_or_eq_true (decide ((y4.ID.length : Int) > 300)) with hg19 | hg19
    ·refine sr_setb 19 rfl hg19 <| sr_go 5 rfl ?_
     exact sr_wk (K20 true _ ⟨by rw [hg19]; rfl, rfl⟩)
    ·refine sr_eg hg19 (ev_fieldAddr (i := 2) Tryz.underlying33 rfl Tryz.info9 rfl rfl) ?_
     refine sr_eg hg19 (ev_load Tryz.isAgg9 rfl (hH.cell (i := 0) rfl rfl)) ?_
     refine sr_eg hg19 (ev_slen Tryz.underlying9 rfl) ?_
     refine sr_setb 19 rfl hg19 <| sr_go 2 rfl ?_
     exact sr_wk (K20 (decide ((y4.User.length : Int) > 300)) _ ⟨by rw [hg19]; rfl, rfl⟩)
  ·replace hS := iF hS hc3
   refine ke_exit (k' := _) rfl ?_
   refine ke_seq <| ke_region <| sr_go 1 rfl ?_
   refine sr_e (ev_sllen Tryz.underlying22 rfl hl_0) ?_
   refine sr_go 2 rfl <| sr_fin [2] rfl ?_
   cases hS
   exact ke_ret1 Tryz.func9 rfl rfl ⟨_, rfl, rfl, hb⟩
theorem law39_few_ok {A0 : Nat → Prop} (w0 : World) (hg : Gs w0) {l_0 : List law39_Op} {v1 : Value} {r : Bool} (h2 : SlR law39_Op.c A0 w0 v1 l_0) (hS : law39_few l_0 = some r) :
  Calls Tryz.prog 9 #[v1] w0 (Ret (fun v w' => v = .bool r ∧ Below w0.heap.size w0 w')) := by
 unfold law39_few at hS
 have hb := Below.refl w0.heap.size w0
 replace h2 := h2.weak (A' := fun _ => False) (fun _ h => h.elim)
 obtain ⟨A0, hA0, hAe⟩ : ∃ A0 : Nat → Prop, (∀ b, A0 b → b < w0.heap.size) ∧ A0 = fun _ => False := ⟨_, fun _ h => h.elim, rfl⟩
 rw [← hAe] at h2
 clear hAe
 have hA := hA0
 have hi : ∀ b, A0 b → A0 b := fun _ h => h
 have hH := Hp.nil A0 w0.heap.size w0
 refine ck Tryz.func9 [0] rfl rfl ?_
 refine ke_seq <| ke_region <| sr_go 1 rfl <| sr_fin [0] rfl <| ke_seq <| ke_seq <| ke_region <| sr_go 1 rfl <| sr_fin [0, 3] rfl ?_
 refine ke_block ?_
 have hK := law39_few_L1_ok hg hA0 _ hS hb hA hi hH h2
 exact ke_wk (ke_loop hK)
theorem clock_limited_ok (w0 : World) (hg : Gs w0) {t_0 : Int} {r : Int} (hS : clock_limited t_0 = some r) :
  Calls Tryz.prog 79 #[.int .i64 t_0] w0 (Ret (fun v w' => v = .int .i64 r ∧ Below w0.heap.size w0 w')) := by
 unfold clock_limited at hS
 have hb := Below.refl w0.heap.size w0
 refine ck Tryz.func79 [0] rfl rfl ?_
 refine ke_seq <| ke_region <| sr_go 1 rfl <| sr_fin [0] rfl <| ke_seq <| ke_region <| sr_go 1 rfl ?_
 refine sr_e (ev_max rfl rfl) ?_
 refine sr_e (ev_min rfl rfl) ?_
 refine sr_go 1 rfl <| sr_fin [2] rfl ?_
 cases hS
 exact ke_ret1 Tryz.func79 rfl rfl ⟨_, rfl, rfl, hb⟩
theorem clock_Add_ok (w0 : World) (hg : Gs w0) {t_0 : Int} {d_1 : Int} {r : Int} (hS : clock_Add t_0 d_1 = some r) :
  Calls Tryz.prog 39 #[.int .i64 t_0, .int .i64 d_1] w0 (Ret (fun v w' => v = .int .i64 r ∧ Below w0.heap.size w0 w')) := by
 unfold clock_Add at hS
 have hb := Below.refl w0.heap.size w0
 refine ck Tryz.func39 [0, 1] rfl rfl ?_
 refine ke_seq <| ke_region <| sr_go 1 rfl <| sr_fin [0, 1] rfl <| ke_seq <| ke_region <| sr_go 1 rfl ?_
 obtain ⟨y1, hy2, hS⟩ := bS hS
 refine sr_cl Tryz.call79 (clock_limited_ok _ (hg.below hb) hy2) ?_
 rintro _ w3 ⟨rfl, hbw4⟩
 replace hb := hb.trans (hbw4.mono hb.size)
 refine sr_go 1 rfl ?_
 obtain ⟨y5, hy6, hS⟩ := bS hS
 refine sr_cl Tryz.call79 (clock_limited_ok _ (hg.below hb) hy6) ?_
 rintro _ w7 ⟨rfl, hbw8⟩
 replace hb := hb.trans (hbw8.mono hb.size)
 refine sr_go 1 rfl ?_
 obtain ⟨y9, hy10, hS⟩ := bS hS
 refine sr_cl Tryz.call79 (clock_limited_ok _ (hg.below hb) hy10) ?_
 rintro _ w11 ⟨rfl, hbw12⟩
 replace hb := hb.trans (hbw12.mono hb.size)
 refine sr_go 1 rfl <| sr_fin [4] rfl ?_
 cases hS
 exact ke_ret1 Tryz.func39 rfl rfl ⟨_, rfl, rfl, hb⟩
theorem secret_NewLocks_ok (w0 : World) (hg : Gs w0) {ρA : Tags} (hbd : ∀ b, ρA b ≠ 0 → b < w0.heap.size) (hz : Gz ρA) {o : Nat} (ho2 : 2 ≤ o) {most_0 : Int} {window_1 : Int} {lock_2 : Int} {r : (Option secret_Locks) × Int} (hS : secret_NewLocks most_0 window_1 lock_2 = some r) :
  Calls Tryz.prog 58 #[.int .i64 most_0, .int .i64 window_1, .int .i64 lock_2] w0 (Ret (fun v w' => ∃ ρ' zr0, v = .tuple #[zr0, .int .i64 r.2] ∧ PtrO secret_Locks.O (fun p => o + p) ρ' w' zr0 r.1 ∧ Tr ρA w0 (rng o 3) ρ' w')) := by
 unfold secret_NewLocks at hS
 have hb := enter_fr (ρ := ρA) (w := w0) (n := 3) ho2 hbd
 have hz := hz.enter (n := 3) ho2
 refine ck Tryz.func58 [0, 1, 2] rfl rfl ?_
 refine ke_seq <| ke_region <| sr_go 2 rfl <| sr_fin [0, 1, 2] rfl <| ke_seq <| ke_region <| sr_go 1 rfl ?_
 obtain ⟨y1, hy2, hS⟩ := bS hS
 refine sr_cb Tryz.call39 (clock_Add_ok _ (hg.fr hz hb) hy2) hb.bd ?_
 intro w3 t5
 replace hb := hb.trans t5
 refine sr_go 1 rfl ?_
 obtain ⟨y6, hy7, hS⟩ := bS hS
 refine sr_cb Tryz.call39 (clock_Add_ok _ (hg.fr hz hb) hy7) hb.bd ?_
 intro w8 t10
 replace hb := hb.trans t10
 refine sr_go 2 rfl <| sr_fin [0, 8, 9] rfl <| ke_seq <| ke_seq <| ke_region <| sr_go 3 rfl ?_
 refine sr_join (m := 3) (C := fun (x : Bool) w1 => x = ((decide (most_0 < 1)) || (decide (most_0 > 256))) ∧ w8 = w1) (l' := fun x => [(0, .int .i64 most_0), (8, .int .i64 y1), (9, .int .i64 y6), (19, .bool x)]) ?_ ?_
 ·rintro _ _ ⟨rfl, rfl⟩
  refine sr_go 1 rfl ?_
  refine sr_join (m := 3) (C := fun (x : Bool) w1 => x = (((decide (most_0 < 1)) || (decide (most_0 > 256))) || (decide (y1 < 1))) ∧ w8 = w1) (l' := fun x => [(0, .int .i64 most_0), (8, .int .i64 y1), (9, .int .i64 y6), (23, .bool x)]) ?_ ?_
  ·rintro _ _ ⟨rfl, rfl⟩
   refine sr_go 1 rfl ?_
   refine sr_join (m := 3) (C := fun (x : Bool) w1 => x = ((((decide (most_0 < 1)) || (decide (most_0 > 256))) || (decide (y1 < 1))) || (decide (y6 < 1))) ∧ w8 = w1) (l' := fun x => [(0, .int .i64 most_0), (8, .int .i64 y1), (9, .int .i64 y6), (27, .bool x)]) ?_ ?_
   ·rintro _ _ ⟨rfl, rfl⟩
    refine sr_fin [0, 8, 9, 27] rfl ?_
    refine ke_cond rfl (fun hc35 => ?_) (fun hc35 => ?_)
    ·replace hS := iT hS hc35
     refine ke_seq <| ke_region <| sr_go 2 rfl <| sr_fin [6, 7] rfl ?_
     cases hS
     exact ke_ret2 Tryz.func58 rfl rfl rfl ⟨_, rfl, _, _, rfl, PtrO.nil, (leave_tr ho2 hb)⟩
    ·replace hS := iF hS hc35
     refine ke_skip <| ke_seq <| ke_region <| sr_go 3 rfl ?_
     refine sr_makeMap (K := Str) (V := Option Nat) (ek := str) (c := ptrC) (agg := false) 33 (by decide) hb.bd rfl (by decide) ?_
     intro v36 ρ38 w39 h37 t40
     replace hb := hb.trans t40
     have hR42 : Recs secret_record.O 2 ρ38 35 w39 (some [] : GMap Str (Option Nat)) (some [] : GMap Str secret_record) := Recs.new
     refine sr_e (v := .agg #[.int .i64 most_0, .int .i64 y1, .int .i64 y6, (.map (some v36))]) (ev_build (vs := #[(0, .int .i64 most_0), (1, .int .i64 y1), (2, .int .i64 y6), (3, (.map (some v36)))]) rfl (fun _ => by kernel_rfl)) ?_
     refine sr_boxT 200 (by decide) hb.bd rfl (by decide) ?_
     intro g43 ρ44 w45 hB47 t46
     replace h37 := h37.m t46
     replace hR42 := Recs.mv hR42 secret_record.objK (t46.mv (i := 35) rfl) (by decide)
     replace hb := hb.trans t46
     refine sr_go 2 rfl <| sr_fin [6, 7] rfl ?_
     have t48 := rtg_tr (ρ := ρ44) (w := w45) (i := 33) 201 (by decide) hb.bd
     have hmv49 : Mv ρ44 w45 33 (rtg ρ44 33 201) w45 201 := rtg_mv (by decide)
     replace hR42 := Recs.mv hR42 secret_record.objK (t48.mv (i := 35) rfl) (by decide)
     replace hb := hb.trans t48
     replace h37 := h37.mv hmv49
     have t50 := rtg_tr (ρ := (rtg ρ44 33 201)) (w := w45) (i := 35) 202 (by decide) hb.bd
     have hmv51 : Mv (rtg ρ44 33 201) w45 35 (rtg (rtg ρ44 33 201) 35 202) w45 202 := rtg_mv (by decide)
     replace hB47 := (hB47.m t48).m t50
     replace h37 := h37.m t50
     replace hb := hb.trans t50
     replace hR42 := Recs.mv hR42 secret_record.objK hmv51 (by decide)
     have t52 := rtgR_tr (ρ := (rtg (rtg ρ44 33 201) 35 202)) (w := w45) (a := 200) (N := 3) 100 (by decide) hb.bd
     replace hb := hb.trans t52
     replace hB47 := hB47.mv (rtgR_mv (ρ := (rtg (rtg ρ44 33 201) 35 202)) (w := w45) (a := 200) (b := 100) (N := 3) (p := 0) (by decide) (by decide))
     replace h37 := h37.mv (rtgR_mv (ρ := (rtg (rtg ρ44 33 201) 35 202)) (w := w45) (a := 200) (b := 100) (N := 3) (p := 1) (by decide) (by decide))
     replace hR42 := Recs.mv hR42 secret_record.objK (rtgR_mv (ρ := (rtg (rtg ρ44 33 201) 35 202)) (w := w45) (a := 200) (b := 100) (N := 3) (p := 2) (by decide) (by decide)) (by decide)
     cases hS
     exact ke_ret2 Tryz.func58 rfl rfl rfl ⟨_, rfl, leave ρA w0 o 3 (rtgR (rtg (rtg ρ44 33 201) 35 202) 200 100 3), _, rfl, (PtrO.mk ⟨_, _, (hB47.lv 0 hb), (h37.lv 1 hb), (Recs.mv hR42 secret_record.objK (leave_mv (p := 2) (by decide) hb) (Nat.ne_of_gt (Nat.lt_of_lt_of_le (Nat.lt_of_lt_of_le Nat.zero_lt_two ho2) (Nat.le_add_right _ _))))⟩), (leave_tr ho2 hb)⟩
   ·intro K28
    rcases Bool.eq_false_or_eq_true (((decide (most_0 < 1)) || (decide (most_0 > 256))) || (decide (y1 < 1))) with hg27 | hg27
    all_goals try have hj30 : Tr (enter ρA o 3) w8 (fun _ => false) (enter ρA o 3) w8 := Tr.refl hb.bd
    ·refine sr_setb 24 rfl hg27 <| sr_go 3 rfl ?_
     exact sr_wk (K28 true _ ⟨by first | (rw [hg27]; rfl) | rfl, rfl⟩)
    ·refine sr_setb 24 rfl hg27 <| sr_go 3 rfl ?_
     exact sr_wk (K28 (decide (y6 < 1)) _ ⟨by first | (rw [hg27]; rfl) | rfl, rfl⟩)
  ·intro K20
   rcases Bool.eq_false_or_eq_true ((decide (most_0 < 1)) || (decide (most_0 > 256))) with hg19 | hg19
   all_goals try have hj22 : Tr (enter ρA o 3) w8 (fun _ => false) (enter ρA o 3) w8 := Tr.refl hb.bd
   ·refine sr_setb 20 rfl hg19 <| sr_go 3 rfl ?_
    exact sr_wk (K20 true _ ⟨by first | (rw [hg19]; rfl) | rfl, rfl⟩)
   ·refine sr_setb 20 rfl hg19 <| sr_go 3 rfl ?_
    exact sr_wk (K20 (decide (y1 < 1)) _ ⟨by first | (rw [hg19]; rfl) | rfl, rfl⟩)
 ·intro K12
  rcases Bool.eq_false_or_eq_true (decide (most_0 < 1)) with hg11 | hg11
  all_goals try have hj14 : Tr (enter ρA o 3) w8 (fun _ => false) (enter ρA o 3) w8 := Tr.refl hb.bd
  ·refine sr_setb 16 rfl hg11 <| sr_go 3 rfl ?_
   exact sr_wk (K12 true _ ⟨by first | (rw [hg11]; rfl) | rfl, rfl⟩)
  ·refine sr_setb 16 rfl hg11 <| sr_go 3 rfl ?_
   exact sr_wk (K12 (decide (most_0 > 256)) _ ⟨by first | (rw [hg11]; rfl) | rfl, rfl⟩)
theorem login_New_ok (w0 : World) (hg : Gs w0) {ρA : Tags} (hbd : ∀ b, ρA b ≠ 0 → b < w0.heap.size) (hz : Gz ρA) {o : Nat} (ho2 : 2 ≤ o) {most_0 : Int} {window_1 : Int} {lock_2 : Int} {r : (Option login_Logins) × Int} (hS : login_New most_0 window_1 lock_2 = some r) :
  Calls Tryz.prog 23 #[.int .i64 most_0, .int .i64 window_1, .int .i64 lock_2] w0 (Ret (fun v w' => ∃ ρ' zr0, v = .tuple #[zr0, .int .i64 r.2] ∧ PtrO login_Logins.O (fun p => o + p) ρ' w' zr0 r.1 ∧ Tr ρA w0 (rng o 7) ρ' w')) := by
 unfold login_New at hS
 have hb := enter_fr (ρ := ρA) (w := w0) (n := 7) ho2 hbd
 have hz := hz.enter (n := 7) ho2
 refine ck Tryz.func23 [0, 1, 2] rfl rfl ?_
 refine ke_seq <| ke_region <| sr_go 2 rfl <| sr_fin [0, 1, 2] rfl <| ke_seq <| ke_region <| sr_go 3 rfl ?_
 obtain ⟨y1, hy2, hS⟩ := bS hS
 refine sr_cl Tryz.call58 (secret_NewLocks_ok _ (hg.fr hz hb) hb.bd (hz.fr hg hb) (o := 200) (by decide) hy2) ?_
 rintro _ w3 ⟨ρ8, v6, rfl, hP7, t5⟩
 replace hb := hb.trans t5
 rcases ho10 : y1.1 with _ | z9
 ·replace hS := optC_none hS ho10
  obtain rfl := hP7.none_ ho10
  refine sr_go 5 rfl <| sr_fin [8, 9] rfl <| ke_seq <| ke_seq <| ke_region <| sr_go 2 rfl <| sr_fin [8, 9, 18] rfl ?_
  refine ke_cond rfl (fun hc51 => ?_) (fun hc51 => ?_)
  ·replace hS := iT hS hc51
   refine ke_seq <| ke_region <| sr_go 3 rfl <| sr_fin [6, 7] rfl ?_
   cases hS
   exact ke_ret2 Tryz.func23 rfl rfl rfl ⟨_, rfl, _, _, rfl, PtrO.nil, (leave_tr ho2 hb)⟩
  ·replace hS := iF hS hc51
   refine ke_skip <| ke_seq <| ke_region <| sr_go 1 rfl ?_
   refine sr_makeMap (K := Str) (V := login_credentials) (ek := str) (c := login_credentials.c) (agg := true) 23 (by decide) hb.bd rfl (by decide) ?_
   intro v52 ρ54 w55 h53 t56
   replace hb := hb.trans t56
   refine sr_makeMap (K := Str) (V := Int) (ek := str) (c := (intC .i64)) (agg := false) 24 (by decide) hb.bd rfl (by decide) ?_
   intro v57 ρ59 w60 h58 t61
   replace hb := hb.trans t61
   refine sr_makeMap (K := Str) (V := login_attempt) (ek := str) (c := login_attempt.c) (agg := true) 25 (by decide) hb.bd rfl (by decide) ?_
   intro v62 ρ64 w65 h63 t66
   replace h53 := (h53.m t61).m t66
   replace hb := hb.trans t66
   refine sr_e (v := .agg #[.pointer none, (.map (some v52)), (.map (some v57)), (.map (some v62))]) (ev_build (vs := #[(0, .pointer none), (1, (.map (some v52))), (2, (.map (some v57))), (3, (.map (some v62)))]) rfl (fun _ => by kernel_rfl)) ?_
   refine sr_boxT 200 (by decide) hb.bd rfl (by decide) ?_
   intro g67 ρ68 w69 hB71 t70
   replace h53 := h53.m t70
   replace h58 := (h58.m t66).m t70
   replace hb := hb.trans t70
   refine sr_go 2 rfl <| sr_fin [6, 7] rfl ?_
   have t72 := rtg_tr (ρ := ρ68) (w := w69) (i := 23) 204 (by decide) hb.bd
   have hmv73 : Mv ρ68 w69 23 (rtg ρ68 23 204) w69 204 := rtg_mv (by decide)
   replace h58 := h58.m t72
   replace h63 := (h63.m t70).m t72
   replace hb := hb.trans t72
   replace h53 := h53.mv hmv73
   have t74 := rtg_tr (ρ := (rtg ρ68 23 204)) (w := w69) (i := 24) 205 (by decide) hb.bd
   have hmv75 : Mv (rtg ρ68 23 204) w69 24 (rtg (rtg ρ68 23 204) 24 205) w69 205 := rtg_mv (by decide)
   replace hB71 := (hB71.m t72).m t74
   replace h63 := h63.m t74
   replace hb := hb.trans t74
   replace h58 := h58.mv hmv75
   have t76 := rtg_tr (ρ := (rtg (rtg ρ68 23 204) 24 205)) (w := w69) (i := 25) 206 (by decide) hb.bd
   have hmv77 : Mv (rtg (rtg ρ68 23 204) 24 205) w69 25 (rtg (rtg (rtg ρ68 23 204) 24 205) 25 206) w69 206 := rtg_mv (by decide)
   replace hB71 := hB71.m t76
   replace h53 := (h53.m t74).m t76
   replace h58 := h58.m t76
   replace hb := hb.trans t76
   replace h63 := h63.mv hmv77
   have t78 := rtgR_tr (ρ := (rtg (rtg (rtg ρ68 23 204) 24 205) 25 206)) (w := w69) (a := 200) (N := 7) 100 (by decide) hb.bd
   replace hb := hb.trans t78
   replace hB71 := hB71.mv (rtgR_mv (ρ := (rtg (rtg (rtg ρ68 23 204) 24 205) 25 206)) (w := w69) (a := 200) (b := 100) (N := 7) (p := 0) (by decide) (by decide))
   replace h53 := h53.mv (rtgR_mv (ρ := (rtg (rtg (rtg ρ68 23 204) 24 205) 25 206)) (w := w69) (a := 200) (b := 100) (N := 7) (p := 4) (by decide) (by decide))
   replace h58 := h58.mv (rtgR_mv (ρ := (rtg (rtg (rtg ρ68 23 204) 24 205) 25 206)) (w := w69) (a := 200) (b := 100) (N := 7) (p := 5) (by decide) (by decide))
   replace h63 := h63.mv (rtgR_mv (ρ := (rtg (rtg (rtg ρ68 23 204) 24 205) 25 206)) (w := w69) (a := 200) (b := 100) (N := 7) (p := 6) (by decide) (by decide))
   cases hS
   exact ke_ret2 Tryz.func23 rfl rfl rfl ⟨_, rfl, leave ρA w0 o 7 (rtgR (rtg (rtg (rtg ρ68 23 204) 24 205) 25 206) 200 100 7), _, rfl, (PtrO.mk ⟨_, _, _, _, (hB71.lv 0 hb), PtrO.nil, (h53.lv 4 hb), (h58.lv 5 hb), (h63.lv 6 hb)⟩), (leave_tr ho2 hb)⟩
 ·replace hS := optC_some hS ho10
  obtain ⟨g11, rfl, ⟨v12, lp14, hB16, h13, hR15⟩⟩ := hP7.some_ ho10
  refine sr_go 5 rfl <| sr_fin [8, 9] rfl <| ke_seq <| ke_seq <| ke_region <| sr_go 2 rfl <| sr_fin [8, 9, 18] rfl ?_
  refine ke_cond rfl (fun hc17 => ?_) (fun hc17 => ?_)
  ·replace hS := iT hS hc17
   refine ke_seq <| ke_region <| sr_go 3 rfl <| sr_fin [6, 7] rfl ?_
   cases hS
   exact ke_ret2 Tryz.func23 rfl rfl rfl ⟨_, rfl, _, _, rfl, PtrO.nil, (leave_tr ho2 hb)⟩
  ·replace hS := iF hS hc17
   refine ke_skip <| ke_seq <| ke_region <| sr_go 1 rfl ?_
   refine sr_makeMap (K := Str) (V := login_credentials) (ek := str) (c := login_credentials.c) (agg := true) 23 (by decide) hb.bd rfl (by decide) ?_
   intro v18 ρ20 w21 h19 t22
   replace hR15 := Recs.mv hR15 secret_record.objK (t22.mv (i := 202) rfl) (by decide)
   replace hb := hb.trans t22
   refine sr_makeMap (K := Str) (V := Int) (ek := str) (c := (intC .i64)) (agg := false) 24 (by decide) hb.bd rfl (by decide) ?_
   intro v23 ρ25 w26 h24 t27
   replace hB16 := (hB16.m t22).m t27
   replace h13 := (h13.m t22).m t27
   replace hR15 := Recs.mv hR15 secret_record.objK (t27.mv (i := 202) rfl) (by decide)
   replace hb := hb.trans t27
   refine sr_makeMap (K := Str) (V := login_attempt) (ek := str) (c := login_attempt.c) (agg := true) 25 (by decide) hb.bd rfl (by decide) ?_
   intro v28 ρ30 w31 h29 t32
   replace h19 := (h19.m t27).m t32
   replace hR15 := Recs.mv hR15 secret_record.objK (t32.mv (i := 202) rfl) (by decide)
   replace hb := hb.trans t32
   refine sr_e (v := .agg #[pT g11 0, (.map (some v18)), (.map (some v23)), (.map (some v28))]) (ev_build (vs := #[(0, pT g11 0), (1, (.map (some v18))), (2, (.map (some v23))), (3, (.map (some v28)))]) rfl (fun _ => by kernel_rfl)) ?_
   refine sr_boxT 300 (by decide) hb.bd rfl (by decide) ?_
   intro g33 ρ34 w35 hB37 t36
   replace h24 := (h24.m t32).m t36
   replace hB16 := (hB16.m t32).m t36
   replace h13 := (h13.m t32).m t36
   replace hR15 := Recs.mv hR15 secret_record.objK (t36.mv (i := 202) rfl) (by decide)
   replace hb := hb.trans t36
   refine sr_go 2 rfl <| sr_fin [6, 7] rfl ?_
   have t38 := rtg_tr (ρ := ρ34) (w := w35) (i := 201) 302 (by decide) hb.bd
   have hmv39 : Mv ρ34 w35 201 (rtg ρ34 201 302) w35 302 := rtg_mv (by decide)
   replace h19 := (h19.m t36).m t38
   replace h29 := (h29.m t36).m t38
   replace hR15 := Recs.mv hR15 secret_record.objK (t38.mv (i := 202) rfl) (by decide)
   replace hb := hb.trans t38
   replace h13 := h13.mv hmv39
   have t40 := rtg_tr (ρ := (rtg ρ34 201 302)) (w := w35) (i := 202) 303 (by decide) hb.bd
   have hmv41 : Mv (rtg ρ34 201 302) w35 202 (rtg (rtg ρ34 201 302) 202 303) w35 303 := rtg_mv (by decide)
   replace hB37 := (hB37.m t38).m t40
   replace h24 := (h24.m t38).m t40
   replace hB16 := (hB16.m t38).m t40
   replace hb := hb.trans t40
   replace hR15 := Recs.mv hR15 secret_record.objK hmv41 (by decide)
   have t42 := rtg_tr (ρ := (rtg (rtg ρ34 201 302) 202 303)) (w := w35) (i := 200) 301 (by decide) hb.bd
   have hmv43 : Mv (rtg (rtg ρ34 201 302) 202 303) w35 200 (rtg (rtg (rtg ρ34 201 302) 202 303) 200 301) w35 301 := rtg_mv (by decide)
   replace h19 := (h19.m t40).m t42
   replace h29 := (h29.m t40).m t42
   replace h13 := (h13.m t40).m t42
   replace hR15 := Recs.mv hR15 secret_record.objK (t42.mv (i := 303) rfl) (by decide)
   replace hb := hb.trans t42
   replace hB16 := hB16.mv hmv43
   have t44 := rtg_tr (ρ := (rtg (rtg (rtg ρ34 201 302) 202 303) 200 301)) (w := w35) (i := 23) 304 (by decide) hb.bd
   have hmv45 : Mv (rtg (rtg (rtg ρ34 201 302) 202 303) 200 301) w35 23 (rtg (rtg (rtg (rtg ρ34 201 302) 202 303) 200 301) 23 304) w35 304 := rtg_mv (by decide)
   replace hB37 := (hB37.m t42).m t44
   replace h24 := (h24.m t42).m t44
   replace hR15 := Recs.mv hR15 secret_record.objK (t44.mv (i := 303) rfl) (by decide)
   replace hb := hb.trans t44
   replace h19 := h19.mv hmv45
   have t46 := rtg_tr (ρ := (rtg (rtg (rtg (rtg ρ34 201 302) 202 303) 200 301) 23 304)) (w := w35) (i := 24) 305 (by decide) hb.bd
   have hmv47 : Mv (rtg (rtg (rtg (rtg ρ34 201 302) 202 303) 200 301) 23 304) w35 24 (rtg (rtg (rtg (rtg (rtg ρ34 201 302) 202 303) 200 301) 23 304) 24 305) w35 305 := rtg_mv (by decide)
   replace h29 := (h29.m t44).m t46
   replace hB16 := (hB16.m t44).m t46
   replace h13 := (h13.m t44).m t46
   replace hR15 := Recs.mv hR15 secret_record.objK (t46.mv (i := 303) rfl) (by decide)
   replace hb := hb.trans t46
   replace h24 := h24.mv hmv47
   have t48 := rtg_tr (ρ := (rtg (rtg (rtg (rtg (rtg ρ34 201 302) 202 303) 200 301) 23 304) 24 305)) (w := w35) (i := 25) 306 (by decide) hb.bd
   have hmv49 : Mv (rtg (rtg (rtg (rtg (rtg ρ34 201 302) 202 303) 200 301) 23 304) 24 305) w35 25 (rtg (rtg (rtg (rtg (rtg (rtg ρ34 201 302) 202 303) 200 301) 23 304) 24 305) 25 306) w35 306 := rtg_mv (by decide)
   replace hB37 := (hB37.m t46).m t48
   replace h19 := (h19.m t46).m t48
   replace h24 := h24.m t48
   replace hB16 := hB16.m t48
   replace h13 := h13.m t48
   replace hR15 := Recs.mv hR15 secret_record.objK (t48.mv (i := 303) rfl) (by decide)
   replace hb := hb.trans t48
   replace h29 := h29.mv hmv49
   have t50 := rtgR_tr (ρ := (rtg (rtg (rtg (rtg (rtg (rtg ρ34 201 302) 202 303) 200 301) 23 304) 24 305) 25 306)) (w := w35) (a := 300) (N := 7) 100 (by decide) hb.bd
   replace hb := hb.trans t50
   replace hB37 := hB37.mv (rtgR_mv (ρ := (rtg (rtg (rtg (rtg (rtg (rtg ρ34 201 302) 202 303) 200 301) 23 304) 24 305) 25 306)) (w := w35) (a := 300) (b := 100) (N := 7) (p := 0) (by decide) (by decide))
   replace hB16 := hB16.mv (rtgR_mv (ρ := (rtg (rtg (rtg (rtg (rtg (rtg ρ34 201 302) 202 303) 200 301) 23 304) 24 305) 25 306)) (w := w35) (a := 300) (b := 100) (N := 7) (p := 1) (by decide) (by decide))
   replace h13 := h13.mv (rtgR_mv (ρ := (rtg (rtg (rtg (rtg (rtg (rtg ρ34 201 302) 202 303) 200 301) 23 304) 24 305) 25 306)) (w := w35) (a := 300) (b := 100) (N := 7) (p := 2) (by decide) (by decide))
   replace hR15 := Recs.mv hR15 secret_record.objK (rtgR_mv (ρ := (rtg (rtg (rtg (rtg (rtg (rtg ρ34 201 302) 202 303) 200 301) 23 304) 24 305) 25 306)) (w := w35) (a := 300) (b := 100) (N := 7) (p := 3) (by decide) (by decide)) (by decide)
   replace h19 := h19.mv (rtgR_mv (ρ := (rtg (rtg (rtg (rtg (rtg (rtg ρ34 201 302) 202 303) 200 301) 23 304) 24 305) 25 306)) (w := w35) (a := 300) (b := 100) (N := 7) (p := 4) (by decide) (by decide))
   replace h24 := h24.mv (rtgR_mv (ρ := (rtg (rtg (rtg (rtg (rtg (rtg ρ34 201 302) 202 303) 200 301) 23 304) 24 305) 25 306)) (w := w35) (a := 300) (b := 100) (N := 7) (p := 5) (by decide) (by decide))
   replace h29 := h29.mv (rtgR_mv (ρ := (rtg (rtg (rtg (rtg (rtg (rtg ρ34 201 302) 202 303) 200 301) 23 304) 24 305) 25 306)) (w := w35) (a := 300) (b := 100) (N := 7) (p := 6) (by decide) (by decide))
   cases hS
   exact ke_ret2 Tryz.func23 rfl rfl rfl ⟨_, rfl, leave ρA w0 o 7 (rtgR (rtg (rtg (rtg (rtg (rtg (rtg ρ34 201 302) 202 303) 200 301) 23 304) 24 305) 25 306) 300 100 7), _, rfl, (PtrO.mk ⟨_, _, _, _, (hB37.lv 0 hb), (PtrO.mk ⟨_, _, (hB16.lv 1 hb), (h13.lv 2 hb), (Recs.mv hR15 secret_record.objK (leave_mv (p := 3) (by decide) hb) (Nat.ne_of_gt (Nat.lt_of_lt_of_le (Nat.lt_of_lt_of_le Nat.zero_lt_two ho2) (Nat.le_add_right _ _))))⟩), (h19.lv 4 hb), (h24.lv 5 hb), (h29.lv 6 hb)⟩), (leave_tr ho2 hb)⟩
theorem fold_upper_ok (w0 : World) (hg : Gs w0) {c_0 : Int} {r : Bool} (hS : fold_upper c_0 = some r) :
  Calls Tryz.prog 115 #[.int .u8 c_0] w0 (Ret (fun v w' => v = .bool r ∧ Below w0.heap.size w0 w')) := by
 unfold fold_upper at hS
 have hb := Below.refl w0.heap.size w0
 refine ck Tryz.func115 [0] rfl rfl ?_
 refine ke_seq <| ke_region <| sr_go 1 rfl <| sr_fin [0] rfl <| ke_seq <| ke_region <| sr_go 3 rfl ?_
 refine sr_join (m := 3) (C := fun (x : Bool) w1 => x = ((decide (c_0 ≥ 65)) && (decide (c_0 ≤ 90))) ∧ w0 = w1) (l' := fun x => [(8, .bool x)]) ?_ ?_
 ·rintro _ _ ⟨rfl, rfl⟩
  refine sr_go 1 rfl <| sr_fin [2] rfl ?_
  cases hS
  exact ke_ret1 Tryz.func115 rfl rfl ⟨_, rfl, rfl, hb⟩
 ·intro K2
  rcases Bool.eq_false_or_eq_true (decide (c_0 ≥ 65)) with hg1 | hg1
  ·refine sr_setb 5 rfl hg1 <| sr_go 3 rfl ?_
   exact sr_wk (K2 (decide (c_0 ≤ 90)) _ ⟨by rw [hg1]; rfl, rfl⟩)
  ·refine sr_setb 5 rfl hg1 <| sr_go 3 rfl ?_
   exact sr_wk (K2 false _ ⟨by rw [hg1]; rfl, rfl⟩)
theorem fold_letter_ok (w0 : World) (hg : Gs w0) {c_0 : Int} {r : Bool} (hS : fold_letter c_0 = some r) :
  Calls Tryz.prog 86 #[.int .u8 c_0] w0 (Ret (fun v w' => v = .bool r ∧ Below w0.heap.size w0 w')) := by
 unfold fold_letter at hS
 have hb := Below.refl w0.heap.size w0
 refine ck Tryz.func86 [0] rfl rfl ?_
 refine ke_seq <| ke_region <| sr_go 1 rfl <| sr_fin [0] rfl <| ke_seq <| ke_region <| sr_go 1 rfl ?_
 obtain ⟨y1, hy2, hS⟩ := bS hS
 refine sr_cl Tryz.call115 (fold_upper_ok _ (hg.below hb) hy2) ?_
 rintro _ w3 ⟨rfl, hbw4⟩
 replace hb := hb.trans (hbw4.mono hb.size)
 refine sr_go 1 rfl ?_
 refine sr_join (m := 7) (C := fun (x : Bool) w1 => x = (y1 || ((decide (c_0 ≥ 97)) && (decide (c_0 ≤ 122)))) ∧ w3 = w1) (l' := fun x => [(12, .bool x)]) ?_ ?_
 ·rintro _ _ ⟨rfl, rfl⟩
  refine sr_go 1 rfl <| sr_fin [2] rfl ?_
  cases hS
  exact ke_ret1 Tryz.func86 rfl rfl ⟨_, rfl, rfl, hb⟩
 ·intro K6
  rcases Bool.eq_false_or_eq_true y1 with hg5 | hg5
  ·refine sr_setb 5 rfl hg5 <| sr_go 7 rfl ?_
   exact sr_wk (K6 true _ ⟨by rw [hg5]; rfl, rfl⟩)
  ·refine sr_setb 5 rfl hg5 <| sr_go 3 rfl ?_
   refine sr_join (m := 3) (C := fun (x : Bool) w1 => x = ((decide (c_0 ≥ 97)) && (decide (c_0 ≤ 122))) ∧ w3 = w1) (l' := fun x => [(5, .bool y1), (11, .bool x)]) ?_ ?_
   ·rintro _ _ ⟨rfl, rfl⟩
    refine sr_e (ev_pick_f rfl hg5 rfl) ?_
    exact sr_wk (K6 ((decide (c_0 ≥ 97)) && (decide (c_0 ≤ 122))) _ ⟨by rw [hg5]; rfl, rfl⟩)
   ·intro K13
    rcases Bool.eq_false_or_eq_true (decide (c_0 ≥ 97)) with hg12 | hg12
    ·refine sr_setb 8 rfl hg12 <| sr_go 3 rfl ?_
     refine sr_unb 5 rfl hg5 ?_
     exact sr_wk (K13 (decide (c_0 ≤ 122)) _ ⟨by rw [hg12]; rfl, rfl⟩)
    ·refine sr_setb 8 rfl hg12 <| sr_go 3 rfl ?_
     refine sr_unb 5 rfl hg5 ?_
     exact sr_wk (K13 false _ ⟨by rw [hg12]; rfl, rfl⟩)
theorem fold_digit_ok (w0 : World) (hg : Gs w0) {c_0 : Int} {r : Bool} (hS : fold_digit c_0 = some r) :
  Calls Tryz.prog 87 #[.int .u8 c_0] w0 (Ret (fun v w' => v = .bool r ∧ Below w0.heap.size w0 w')) := by
 unfold fold_digit at hS
 have hb := Below.refl w0.heap.size w0
 refine ck Tryz.func87 [0] rfl rfl ?_
 refine ke_seq <| ke_region <| sr_go 1 rfl <| sr_fin [0] rfl <| ke_seq <| ke_region <| sr_go 3 rfl ?_
 refine sr_join (m := 3) (C := fun (x : Bool) w1 => x = ((decide (c_0 ≥ 48)) && (decide (c_0 ≤ 57))) ∧ w0 = w1) (l' := fun x => [(8, .bool x)]) ?_ ?_
 ·rintro _ _ ⟨rfl, rfl⟩
  refine sr_go 1 rfl <| sr_fin [2] rfl ?_
  cases hS
  exact ke_ret1 Tryz.func87 rfl rfl ⟨_, rfl, rfl, hb⟩
 ·intro K2
  rcases Bool.eq_false_or_eq_true (decide (c_0 ≥ 48)) with hg1 | hg1
  ·refine sr_setb 5 rfl hg1 <| sr_go 3 rfl ?_
   exact sr_wk (K2 (decide (c_0 ≤ 57)) _ ⟨by rw [hg1]; rfl, rfl⟩)
  ·refine sr_setb 5 rfl hg1 <| sr_go 3 rfl ?_
   exact sr_wk (K2 false _ ⟨by rw [hg1]; rfl, rfl⟩)
theorem fold_Word_1_ok (w0 : World) (hg : Gs w0) {c_0 : Int} {r : Bool} (hS : fold_Word_1 c_0 = some r) :
  Calls Tryz.prog 85 #[.int .u8 c_0] w0 (Ret (fun v w' => v = .bool r ∧ Below w0.heap.size w0 w')) := by
 unfold fold_Word_1 at hS
 have hb := Below.refl w0.heap.size w0
 refine ck Tryz.func85 [0] rfl rfl ?_
 refine ke_seq <| ke_region <| sr_go 1 rfl <| sr_fin [0] rfl <| ke_seq <| ke_region <| sr_go 1 rfl ?_
 obtain ⟨y1, hy2, hS⟩ := bS hS
 refine sr_cl Tryz.call86 (fold_letter_ok _ (hg.below hb) hy2) ?_
 rintro _ w3 ⟨rfl, hbw4⟩
 replace hb := hb.trans (hbw4.mono hb.size)
 refine sr_go 1 rfl ?_
 obtain ⟨z7, hz9, hS⟩ := bS hS
 refine sr_join (m := 3) (C := fun (x : Bool) w1 => z7 = x ∧ Below w3.heap.size w3 w1) (l' := fun x => [(0, .int .u8 c_0), (8, .bool x)]) ?_ ?_
 ·rintro _ w10 ⟨rfl, hbw11⟩
  replace hb := hb.trans (hbw11.mono hb.size)
  refine sr_go 1 rfl ?_
  refine sr_join (m := 3) (C := fun (x : Bool) w1 => x = (z7 || (c_0 == 45)) ∧ w10 = w1) (l' := fun x => [(0, .int .u8 c_0), (12, .bool x)]) ?_ ?_
  ·rintro _ _ ⟨rfl, rfl⟩
   refine sr_go 1 rfl ?_
   refine sr_join (m := 3) (C := fun (x : Bool) w1 => x = ((z7 || (c_0 == 45)) || (c_0 == 95)) ∧ w10 = w1) (l' := fun x => [(0, .int .u8 c_0), (16, .bool x)]) ?_ ?_
   ·rintro _ _ ⟨rfl, rfl⟩
    refine sr_go 1 rfl ?_
    refine sr_join (m := 3) (C := fun (x : Bool) w1 => x = (((z7 || (c_0 == 45)) || (c_0 == 95)) || (c_0 == 46)) ∧ w10 = w1) (l' := fun x => [(0, .int .u8 c_0), (20, .bool x)]) ?_ ?_
    ·rintro _ _ ⟨rfl, rfl⟩
     refine sr_go 1 rfl ?_
     refine sr_join (m := 3) (C := fun (x : Bool) w1 => x = ((((z7 || (c_0 == 45)) || (c_0 == 95)) || (c_0 == 46)) || (c_0 == 58)) ∧ w10 = w1) (l' := fun x => [(24, .bool x)]) ?_ ?_
     ·rintro _ _ ⟨rfl, rfl⟩
      refine sr_go 1 rfl <| sr_fin [2] rfl ?_
      cases hS
      exact ke_ret1 Tryz.func85 rfl rfl ⟨_, rfl, rfl, hb⟩
     ·intro K38
      rcases Bool.eq_false_or_eq_true (((z7 || (c_0 == 45)) || (c_0 == 95)) || (c_0 == 46)) with hg37 | hg37
      ·refine sr_setb 21 rfl hg37 <| sr_go 3 rfl ?_
       exact sr_wk (K38 true _ ⟨by rw [hg37]; rfl, rfl⟩)
      ·refine sr_setb 21 rfl hg37 <| sr_go 3 rfl ?_
       exact sr_wk (K38 (c_0 == 58) _ ⟨by rw [hg37]; rfl, rfl⟩)
    ·intro K31
     rcases Bool.eq_false_or_eq_true ((z7 || (c_0 == 45)) || (c_0 == 95)) with hg30 | hg30
     ·refine sr_setb 17 rfl hg30 <| sr_go 3 rfl ?_
      exact sr_wk (K31 true _ ⟨by rw [hg30]; rfl, rfl⟩)
     ·refine sr_setb 17 rfl hg30 <| sr_go 3 rfl ?_
      exact sr_wk (K31 (c_0 == 46) _ ⟨by rw [hg30]; rfl, rfl⟩)
   ·intro K24
    rcases Bool.eq_false_or_eq_true (z7 || (c_0 == 45)) with hg23 | hg23
    ·refine sr_setb 13 rfl hg23 <| sr_go 3 rfl ?_
     exact sr_wk (K24 true _ ⟨by rw [hg23]; rfl, rfl⟩)
    ·refine sr_setb 13 rfl hg23 <| sr_go 3 rfl ?_
     exact sr_wk (K24 (c_0 == 95) _ ⟨by rw [hg23]; rfl, rfl⟩)
  ·intro K17
   rcases Bool.eq_false_or_eq_true z7 with hg16 | hg16
   ·refine sr_setb 9 rfl hg16 <| sr_go 3 rfl ?_
    exact sr_wk (K17 true _ ⟨by rw [hg16]; rfl, rfl⟩)
   ·refine sr_setb 9 rfl hg16 <| sr_go 3 rfl ?_
    exact sr_wk (K17 (c_0 == 45) _ ⟨by rw [hg16]; rfl, rfl⟩)
 ·intro K6
  clear hS
  have hj8 := Below.refl w3.heap.size w3
  rcases Bool.eq_false_or_eq_true y1 with hg5 | hg5
  ·have hS := iT hz9 hg5
   refine sr_setb 5 rfl hg5 <| sr_go 3 rfl ?_
   exact sr_wk (K6 true _ ⟨(Option.some.inj hS).symm, hj8⟩)
  ·have hS := iF hz9 hg5
   refine sr_setb 5 rfl hg5 <| sr_go 1 rfl ?_
   obtain ⟨y12, hy13, hS⟩ := bS hS
   refine sr_callg (b := false) (e := 5) rfl rfl rfl (vs := [.int .u8 c_0]) rfl Tryz.call87 rfl (fold_digit_ok _ (hg.below hb) hy13) (by decide) ?_
   rintro _ w14 ⟨rfl, hbw15⟩
   replace hb := hb.trans (hbw15.mono hb.size)
   replace hj8 := hj8.trans (hbw15.mono hj8.size)
   refine sr_go 1 rfl ?_
   exact sr_wk (K6 y12 _ ⟨(Option.some.inj hS).symm, hj8⟩)
theorem fold_made__Word_1_L1_ok {w0 : World} (hg : Gs w0) : ∀ (n : Nat), ∀ {r : Bool} {s_0 : Str} {t_7 : Int} {t_8 : Int}, fold_made__Word_1_L1 n s_0 t_7 t_8 = some r → ∀ {w : World}, (Below w0.heap.size w0 w) → KE Tryz.prog 84 (Ret (fun v w' => v = .bool r ∧ Below w0.heap.size w0 w')) 25 [.code (sub (bodyOf Tryz.f84) [2, 1, 2, 2, 1]), .inLoop (sub (bodyOf Tryz.f84) [2, 1, 2, 2, 1]), .inBlock 0, .code (sub (bodyOf Tryz.f84) [2, 2])] [(0, str s_0), (1, .func (.func 85) #[] #[]), (7, .int .i64 t_7), (8, .int .i64 t_8)] w := by
 intro n
 induction n with
 | zero => intro r s_0 t_7 t_8 hS; cases hS
 | succ n ih =>
  have hr0 : ∀ {r : Bool} {s_0 : Str} {t_7 : Int} {t_8 : Int}, fold_made__Word_1_L1 n s_0 t_7 t_8 = some r → ∀ {w : World}, (Below w0.heap.size w0 w) → KE Tryz.prog 84 (Ret (fun v w' => v = .bool r ∧ Below w0.heap.size w0 w')) 25 [.inLoop (sub (bodyOf Tryz.f84) [2, 1, 2, 2, 1]), .inBlock 0, .code (sub (bodyOf Tryz.f84) [2, 2])] [(0, str s_0), (1, .func (.func 85) #[] #[]), (7, .int .i64 t_7), (8, .int .i64 t_8)] w := fun {r} {s_0} {t_7} {t_8} hS {w} hb => ke_inLoop (ih hS hb)
  clear ih
  intro r s_0 t_7 t_8 hS w hb
  unfold fold_made__Word_1_L1 at hS
  refine ke_seq <| ke_region <| sr_go 1 rfl <| sr_fin [0, 1, 7, 8, 9] rfl <| ke_seq ?_
  refine ke_cond rfl (fun hc1 => ?_) (fun hc1 => ?_)
  ·replace hS := iT hS hc1
   refine ke_skip <| ke_seq ?_
   refine ke_block ?_
   refine ke_seq <| ke_region <| sr_go 2 rfl <| sr_fin [0, 1, 5, 7, 8] rfl <| ke_seq <| ke_region <| sr_go 3 rfl ?_
   obtain ⟨hk2, hS⟩ := chk_some hS
   refine sr_e (ev_sindex Tryz.underlying9 rfl rfl hk2) ?_
   obtain ⟨y3, hy4, hS⟩ := bS hS
   refine sr_cl Tryz.call85 (fold_Word_1_ok _ (hg.below hb) hy4) ?_
   rintro _ w5 ⟨rfl, hbw6⟩
   replace hb := hb.trans (hbw6.mono hb.size)
   refine sr_go 1 rfl <| sr_fin [0, 1, 7, 8, 16] rfl ?_
   refine ke_cond rfl (fun hc7 => ?_) (fun hc7 => ?_)
   ·replace hS := iT hS hc7
    refine ke_seq <| ke_region <| sr_go 1 rfl <| sr_fin [4] rfl ?_
    cases hS
    exact ke_ret1 Tryz.func84 rfl rfl ⟨_, rfl, rfl, hb⟩
   ·replace hS := iF hS hc7
    refine ke_skip <| ke_inBlock <| ke_region <| sr_go 2 rfl <| sr_fin [0, 1, 7, 8] rfl ?_
    have hK := hr0 hS hb
    exact ke_wk hK
  ·replace hS := iF hS hc1
   refine ke_exit (k' := _) rfl ?_
   refine ke_seq <| ke_region <| sr_go 1 rfl ?_
   refine sr_e (ev_sne rfl rfl) ?_
   refine sr_go 1 rfl ?_
   refine sr_join (m := 4) (C := fun (x : Bool) w1 => x = ((!(s_0 == ([]))) && (decide ((s_0.length : Int) ≤ 64))) ∧ w = w1) (l' := fun x => [(24, .bool x)]) ?_ ?_
   ·rintro _ _ ⟨rfl, rfl⟩
    refine sr_go 1 rfl <| sr_fin [4] rfl ?_
    cases hS
    exact ke_ret1 Tryz.func84 rfl rfl ⟨_, rfl, rfl, hb⟩
   ·intro K9
    rcases Bool.eq_false_or_eq_true (!(s_0 == ([]))) with hg8 | hg8
    ·refine sr_setb 20 rfl hg8 <| sr_go 1 rfl ?_
     refine sr_eg rfl (ev_slen Tryz.underlying9 rfl) ?_
     refine sr_go 2 rfl ?_
     exact sr_wk (K9 (decide ((s_0.length : Int) ≤ 64)) _ ⟨by rw [hg8]; rfl, rfl⟩)
    ·refine sr_setb 20 rfl hg8 <| sr_go 4 rfl ?_
     exact sr_wk (K9 false _ ⟨by rw [hg8]; rfl, rfl⟩)
theorem fold_made__Word_1_ok (w0 : World) (hg : Gs w0) {s_0 : Str} {r : Bool} (hS : fold_made__Word_1 s_0 = some r) :
  Calls Tryz.prog 84 #[str s_0, .func (.func 85) #[] #[]] w0 (Ret (fun v w' => v = .bool r ∧ Below w0.heap.size w0 w')) := by
 unfold fold_made__Word_1 at hS
 have hb := Below.refl w0.heap.size w0
 refine ck Tryz.func84 [0, 1] rfl rfl ?_
 refine ke_seq <| ke_region <| sr_go 1 rfl <| sr_fin [0, 1] rfl <| ke_seq <| ke_seq <| ke_region <| sr_go 1 rfl ?_
 refine sr_e (ev_slen Tryz.underlying9 rfl) ?_
 refine sr_go 1 rfl <| sr_fin [0, 1, 7, 8] rfl ?_
 refine ke_block ?_
 have hK := fold_made__Word_1_L1_ok hg _ hS hb
 exact ke_wk (ke_loop hK)
theorem fold_Word_ok (w0 : World) (hg : Gs w0) {s_0 : Str} {r : Bool} (hS : fold_Word s_0 = some r) :
  Calls Tryz.prog 43 #[str s_0] w0 (Ret (fun v w' => v = .bool r ∧ Below w0.heap.size w0 w')) := by
 unfold fold_Word at hS
 have hb := Below.refl w0.heap.size w0
 refine ck Tryz.func43 [0] rfl rfl ?_
 refine ke_seq <| ke_region <| sr_go 1 rfl <| sr_fin [0] rfl <| ke_seq <| ke_region <| sr_go 1 rfl ?_
 obtain ⟨y1, hy2, hS⟩ := bS hS
 refine sr_cl Tryz.call84 (fold_made__Word_1_ok _ (hg.below hb) hy2) ?_
 rintro _ w3 ⟨rfl, hbw4⟩
 replace hb := hb.trans (hbw4.mono hb.size)
 refine sr_go 1 rfl <| sr_fin [2] rfl ?_
 cases hS
 exact ke_ret1 Tryz.func43 rfl rfl ⟨_, rfl, rfl, hb⟩
theorem secret_isPassword_L1_ok {w0 : World} (hg : Gs w0) : ∀ (n : Nat), ∀ {r : Bool} {s_0 : Str} {t_5 : Int} {t_6 : Int}, secret_isPassword_L1 n s_0 t_5 t_6 = some r → ∀ {w : World}, (Below w0.heap.size w0 w) → KE Tryz.prog 54 (Ret (fun v w' => v = .bool r ∧ Below w0.heap.size w0 w')) 28 [.code (sub (bodyOf Tryz.f54) [2, 1, 2, 2, 1]), .inLoop (sub (bodyOf Tryz.f54) [2, 1, 2, 2, 1]), .inBlock 0, .code (sub (bodyOf Tryz.f54) [2, 2])] [(0, str s_0), (5, .int .i64 t_5), (6, .int .i64 t_6)] w := by
 intro n
 induction n with
 | zero => intro r s_0 t_5 t_6 hS; cases hS
 | succ n ih =>
  have hr0 : ∀ {r : Bool} {s_0 : Str} {t_5 : Int} {t_6 : Int}, secret_isPassword_L1 n s_0 t_5 t_6 = some r → ∀ {w : World}, (Below w0.heap.size w0 w) → KE Tryz.prog 54 (Ret (fun v w' => v = .bool r ∧ Below w0.heap.size w0 w')) 28 [.inLoop (sub (bodyOf Tryz.f54) [2, 1, 2, 2, 1]), .inBlock 0, .code (sub (bodyOf Tryz.f54) [2, 2])] [(0, str s_0), (5, .int .i64 t_5), (6, .int .i64 t_6)] w := fun {r} {s_0} {t_5} {t_6} hS {w} hb => ke_inLoop (ih hS hb)
  clear ih
  intro r s_0 t_5 t_6 hS w hb
  unfold secret_isPassword_L1 at hS
  refine ke_seq <| ke_region <| sr_go 1 rfl <| sr_fin [0, 5, 6, 7] rfl <| ke_seq ?_
  refine ke_cond rfl (fun hc1 => ?_) (fun hc1 => ?_)
  ·replace hS := iT hS hc1
   refine ke_skip <| ke_seq ?_
   refine ke_block ?_
   refine ke_seq <| ke_region <| sr_go 2 rfl <| sr_fin [0, 3, 5, 6] rfl <| ke_seq <| ke_region <| sr_go 2 rfl ?_
   obtain ⟨hk2, hS⟩ := chk_some hS
   refine sr_e (ev_sindex Tryz.underlying9 rfl rfl hk2) ?_
   refine sr_go 2 rfl ?_
   obtain ⟨z5, hz7, hS⟩ := bS hS
   refine sr_join (m := 5) (C := fun (x : Bool) w1 => z5 = x ∧ Below w.heap.size w w1) (l' := fun x => [(0, str s_0), (5, .int .i64 t_5), (6, .int .i64 t_6), (18, .bool x)]) ?_ ?_
   ·rintro _ w8 ⟨rfl, hbw9⟩
    replace hb := hb.trans (hbw9.mono hb.size)
    refine sr_fin [0, 5, 6, 18] rfl ?_
    refine ke_cond rfl (fun hc11 => ?_) (fun hc11 => ?_)
    ·replace hS := iT hS hc11
     refine ke_seq <| ke_region <| sr_go 1 rfl <| sr_fin [2] rfl ?_
     cases hS
     exact ke_ret1 Tryz.func54 rfl rfl ⟨_, rfl, rfl, hb⟩
    ·replace hS := iF hS hc11
     refine ke_skip <| ke_inBlock <| ke_region <| sr_go 2 rfl <| sr_fin [0, 5, 6] rfl ?_
     have hK := hr0 hS hb
     exact ke_wk hK
   ·intro K4
    clear hS
    have hj6 := Below.refl w.heap.size w
    rcases Bool.eq_false_or_eq_true (decide ((byteAt s_0 t_6) < 32)) with hg3 | hg3
    ·have hS := iT hz7 hg3
     refine sr_setb 13 rfl hg3 <| sr_go 5 rfl ?_
     exact sr_wk (K4 true _ ⟨(Option.some.inj hS).symm, hj6⟩)
    ·have hS := iF hz7 hg3
     refine sr_setb 13 rfl hg3 <| sr_go 2 rfl ?_
     obtain ⟨hk10, hS⟩ := chk_some hS
     refine sr_eg rfl (ev_sindex Tryz.underlying9 rfl rfl hk10) ?_
     refine sr_go 2 rfl ?_
     exact sr_wk (K4 (decide ((byteAt s_0 t_6) > 126)) _ ⟨(Option.some.inj hS).symm, hj6⟩)
  ·replace hS := iF hS hc1
   refine ke_exit (k' := _) rfl ?_
   refine ke_seq <| ke_region <| sr_go 1 rfl ?_
   refine sr_e (ev_slen Tryz.underlying9 rfl) ?_
   refine sr_go 2 rfl ?_
   refine sr_join (m := 4) (C := fun (x : Bool) w1 => x = ((decide ((s_0.length : Int) ≥ 8)) && (decide ((s_0.length : Int) ≤ 256))) ∧ w = w1) (l' := fun x => [(27, .bool x)]) ?_ ?_
   ·rintro _ _ ⟨rfl, rfl⟩
    refine sr_go 1 rfl <| sr_fin [2] rfl ?_
    cases hS
    exact ke_ret1 Tryz.func54 rfl rfl ⟨_, rfl, rfl, hb⟩
   ·intro K13
    rcases Bool.eq_false_or_eq_true (decide ((s_0.length : Int) ≥ 8)) with hg12 | hg12
    ·refine sr_setb 23 rfl hg12 <| sr_go 1 rfl ?_
     refine sr_eg rfl (ev_slen Tryz.underlying9 rfl) ?_
     refine sr_go 2 rfl ?_
     exact sr_wk (K13 (decide ((s_0.length : Int) ≤ 256)) _ ⟨by rw [hg12]; rfl, rfl⟩)
    ·refine sr_setb 23 rfl hg12 <| sr_go 4 rfl ?_
     exact sr_wk (K13 false _ ⟨by rw [hg12]; rfl, rfl⟩)
theorem secret_isPassword_ok (w0 : World) (hg : Gs w0) {s_0 : Str} {r : Bool} (hS : secret_isPassword s_0 = some r) :
  Calls Tryz.prog 54 #[str s_0] w0 (Ret (fun v w' => v = .bool r ∧ Below w0.heap.size w0 w')) := by
 unfold secret_isPassword at hS
 have hb := Below.refl w0.heap.size w0
 refine ck Tryz.func54 [0] rfl rfl ?_
 refine ke_seq <| ke_region <| sr_go 1 rfl <| sr_fin [0] rfl <| ke_seq <| ke_seq <| ke_region <| sr_go 1 rfl ?_
 refine sr_e (ev_slen Tryz.underlying9 rfl) ?_
 refine sr_go 1 rfl <| sr_fin [0, 5, 6] rfl ?_
 refine ke_block ?_
 have hK := secret_isPassword_L1_ok hg _ hS hb
 exact ke_wk (ke_loop hK)
theorem digest_Sum_L1_ok {w0 : World} (hg : Gs w0) : ∀ (n : Nat), ∀ {r : Int} {s_0 : Str} {h_3 : Int} {t_6 : Int} {t_7 : Int}, digest_Sum_L1 n s_0 h_3 t_6 t_7 = some r → ∀ {w : World}, (Below w0.heap.size w0 w) → KE Tryz.prog 81 (Ret (fun v w' => v = .int .u64 r ∧ Below w0.heap.size w0 w')) 34 [.code (sub (bodyOf Tryz.f81) [2, 2, 1, 2, 2, 1]), .inLoop (sub (bodyOf Tryz.f81) [2, 2, 1, 2, 2, 1]), .inBlock 0, .code (sub (bodyOf Tryz.f81) [2, 2, 2])] [(0, str s_0), (3, .int .u64 h_3), (6, .int .i64 t_6), (7, .int .i64 t_7)] w := by
 intro n
 induction n with
 | zero => intro r s_0 h_3 t_6 t_7 hS; cases hS
 | succ n ih =>
  have hr0 : ∀ {r : Int} {s_0 : Str} {h_3 : Int} {t_6 : Int} {t_7 : Int}, digest_Sum_L1 n s_0 h_3 t_6 t_7 = some r → ∀ {w : World}, (Below w0.heap.size w0 w) → KE Tryz.prog 81 (Ret (fun v w' => v = .int .u64 r ∧ Below w0.heap.size w0 w')) 34 [.inLoop (sub (bodyOf Tryz.f81) [2, 2, 1, 2, 2, 1]), .inBlock 0, .code (sub (bodyOf Tryz.f81) [2, 2, 2])] [(0, str s_0), (3, .int .u64 h_3), (6, .int .i64 t_6), (7, .int .i64 t_7)] w := fun {r} {s_0} {h_3} {t_6} {t_7} hS {w} hb => ke_inLoop (ih hS hb)
  clear ih
  intro r s_0 h_3 t_6 t_7 hS w hb
  unfold digest_Sum_L1 at hS
  refine ke_seq <| ke_region <| sr_go 1 rfl <| sr_fin [0, 3, 6, 7, 8] rfl <| ke_seq ?_
  refine ke_cond rfl (fun hc1 => ?_) (fun hc1 => ?_)
  ·replace hS := iT hS hc1
   refine ke_skip <| ke_seq ?_
   refine ke_block ?_
   refine ke_seq <| ke_region <| sr_go 2 rfl <| sr_fin [0, 3, 4, 6, 7] rfl <| ke_region <| sr_go 3 rfl ?_
   obtain ⟨hk2, hS⟩ := chk_some hS
   refine sr_e (ev_sindex Tryz.underlying9 rfl rfl hk2) ?_
   refine sr_e (ev_conv Tryz.underlying116 Tryz.underlying5 rfl) ?_
   refine sr_e (ev_xor rfl rfl) ?_
   refine sr_e (ev_mul rfl rfl) ?_
   refine sr_go 1 rfl <| sr_fin [0, 3, 6, 7] rfl <| ke_inBlock <| ke_region <| sr_go 2 rfl <| sr_fin [0, 3, 6, 7] rfl ?_
   have hK := hr0 hS hb
   exact ke_wk hK
  ·replace hS := iF hS hc1
   refine ke_exit (k' := _) rfl ?_
   refine ke_seq <| ke_region <| sr_go 2 rfl ?_
   refine sr_e (ev_shr rfl rfl (by decide)) ?_
   refine sr_e (ev_xor rfl rfl) ?_
   refine sr_go 1 rfl <| sr_fin [3] rfl <| ke_seq <| ke_region <| sr_go 1 rfl ?_
   refine sr_e (ev_mul rfl rfl) ?_
   refine sr_go 1 rfl <| sr_fin [3] rfl <| ke_seq <| ke_region <| sr_go 2 rfl ?_
   refine sr_e (ev_shr rfl rfl (by decide)) ?_
   refine sr_e (ev_xor rfl rfl) ?_
   refine sr_go 1 rfl <| sr_fin [3] rfl <| ke_seq <| ke_region <| sr_go 1 rfl ?_
   refine sr_e (ev_mul rfl rfl) ?_
   refine sr_go 1 rfl <| sr_fin [3] rfl <| ke_seq <| ke_region <| sr_go 2 rfl ?_
   refine sr_e (ev_shr rfl rfl (by decide)) ?_
   refine sr_e (ev_xor rfl rfl) ?_
   refine sr_go 1 rfl <| sr_fin [2] rfl ?_
   cases hS
   exact ke_ret1 Tryz.func81 rfl rfl ⟨_, rfl, rfl, hb⟩
theorem digest_Sum_ok (w0 : World) (hg : Gs w0) {s_0 : Str} {r : Int} (hS : digest_Sum s_0 = some r) :
  Calls Tryz.prog 81 #[str s_0] w0 (Ret (fun v w' => v = .int .u64 r ∧ Below w0.heap.size w0 w')) := by
 unfold digest_Sum at hS
 have hb := Below.refl w0.heap.size w0
 refine ck Tryz.func81 [0] rfl rfl ?_
 refine ke_seq <| ke_region <| sr_go 1 rfl <| sr_fin [0] rfl <| ke_seq <| ke_region <| sr_go 1 rfl <| sr_fin [0, 3] rfl <| ke_seq <| ke_seq <| ke_region <| sr_go 1 rfl ?_
 refine sr_e (ev_slen Tryz.underlying9 rfl) ?_
 refine sr_go 1 rfl <| sr_fin [0, 3, 6, 7] rfl ?_
 refine ke_block ?_
 have hK := digest_Sum_L1_ok hg _ hS hb
 exact ke_wk (ke_loop hK)
theorem digest_Hex_L1_ok {w0 : World} (hg : Gs w0) {A0 : Nat → Prop} (hA0 : ∀ b, A0 b → b < w0.heap.size) : ∀ (n : Nat), ∀ {r : Str} {n_0 : Int} {b_3 : List Int} {t_5 : Int} {gb_3 : Nat}, digest_Hex_L1 n n_0 b_3 t_5 = some r → ∀ {w : World} {A : Nat → Prop}, (Below w0.heap.size w0 w) → (∀ b, A b → b < w.heap.size) → (∀ b, A0 b → A b) → (Hp A w0.heap.size w [(gb_3, .cells (b_3.map (Value.int .u8)).toArray 152 (0, 0))]) → KE Tryz.prog 122 (Ret (fun v w' => v = str r ∧ Below w0.heap.size w0 w')) 21 [.code (sub (bodyOf Tryz.f122) [2, 2, 1, 2, 2, 1]), .inLoop (sub (bodyOf Tryz.f122) [2, 2, 1, 2, 2, 1]), .inBlock 0, .code (sub (bodyOf Tryz.f122) [2, 2, 2])] [(0, .int .u64 n_0), (3, pT gb_3 0), (5, .int .i64 t_5)] w := by
 intro n
 induction n with
 | zero => intro r n_0 b_3 t_5 gb_3 hS; cases hS
 | succ n ih =>
  have hr0 : ∀ {r : Str} {n_0 : Int} {b_3 : List Int} {t_5 : Int} {gb_3 : Nat}, digest_Hex_L1 n n_0 b_3 t_5 = some r → ∀ {w : World} {A : Nat → Prop}, (Below w0.heap.size w0 w) → (∀ b, A b → b < w.heap.size) → (∀ b, A0 b → A b) → (Hp A w0.heap.size w [(gb_3, .cells (b_3.map (Value.int .u8)).toArray 152 (0, 0))]) → KE Tryz.prog 122 (Ret (fun v w' => v = str r ∧ Below w0.heap.size w0 w')) 21 [.inLoop (sub (bodyOf Tryz.f122) [2, 2, 1, 2, 2, 1]), .inBlock 0, .code (sub (bodyOf Tryz.f122) [2, 2, 2])] [(0, .int .u64 n_0), (3, pT gb_3 0), (5, .int .i64 t_5)] w := fun {r} {n_0} {b_3} {t_5} {gb_3} hS {w} {A} hb hA hi hH => ke_inLoop (ih hS hb hA hi hH)
  clear ih
  intro r n_0 b_3 t_5 gb_3 hS w A hb hA hi hH
  unfold digest_Hex_L1 at hS
  refine ke_seq <| ke_region <| sr_go 1 rfl <| sr_fin [0, 3, 5, 6] rfl <| ke_seq ?_
  refine ke_cond rfl (fun hc8 => ?_) (fun hc8 => ?_)
  ·replace hS := iT hS hc8
   refine ke_skip <| ke_seq ?_
   refine ke_block ?_
   refine ke_seq <| ke_region <| sr_go 2 rfl <| sr_fin [0, 3, 4, 5] rfl <| ke_region <| sr_go 4 rfl ?_
   refine sr_e (ev_mul rfl rfl) ?_
   obtain ⟨hk9, hS⟩ := chk_some hS
   refine sr_e (ev_shr rfl rfl hk9) ?_
   refine sr_e (ev_and rfl rfl) ?_
   obtain ⟨hk10, hS⟩ := chk_some hS
   refine sr_e (ev_arrindex Tryz.underlying152 Tryz.info5 rfl rfl rfl hk10) ?_
   obtain ⟨y11, hy12, hS⟩ := bS hS
   refine sr_ld (.int .u8 y11) Tryz.isAgg5 rfl ((hg.below hb).tab0 hy12) ?_
   obtain ⟨hk13, hS⟩ := chk_some hS
   refine sr_e (ev_arrindex Tryz.underlying152 Tryz.info5 rfl rfl rfl hk13) ?_
   obtain ⟨hk14, hS⟩ := chk_some hS
   refine sr_store_arr (j := 0) hH rfl Tryz.sizeOf5 rfl rfl hk14 ?_
   intro w15 hH1 hwr16
   replace hb := hwr16.below hb (hH.base _ (List.mem_of_getElem? (i := 0) rfl))
   replace hA := hwr16.lt hA
   replace hH : Hp A w0.heap.size w15 [(gb_3, .cells ((setAt b_3 (IntKind.i64.wrap (15 - t_5)) y11).map (Value.int .u8)).toArray 152 (0, 0))] := hH1
   clear hH1
   refine sr_fin [0, 3, 5] rfl <| ke_inBlock <| ke_region <| sr_go 2 rfl <| sr_fin [0, 3, 5] rfl ?_
   have hK := hr0 hS hb hA hi hH
   exact ke_wk hK
  ·replace hS := iF hS hc8
   refine ke_exit (k' := _) rfl ?_
   refine ke_seq <| ke_region ?_
   refine sr_e (ev_arrslice Tryz.underlying152 Tryz.info5 rfl) ?_
   obtain ⟨hk17, hS⟩ := chk_some hS
   refine sr_e (ev_arr2s (j := 0) hH rfl (by simpa using hk17) rfl Tryz.underlying120 Tryz.underlying5 Tryz.underlying9 rfl) ?_
   refine sr_go 1 rfl <| sr_fin [2] rfl ?_
   cases hS
   exact ke_ret1 Tryz.func122 rfl rfl ⟨_, rfl, rfl, hb⟩
theorem digest_Hex_ok (w0 : World) (hg : Gs w0) {n_0 : Int} {r : Str} (hS : digest_Hex n_0 = some r) :
  Calls Tryz.prog 122 #[.int .u64 n_0] w0 (Ret (fun v w' => v = str r ∧ Below w0.heap.size w0 w')) := by
 unfold digest_Hex at hS
 have hb := Below.refl w0.heap.size w0
 obtain ⟨A0, hA0, hAe⟩ : ∃ A0 : Nat → Prop, (∀ b, A0 b → b < w0.heap.size) ∧ A0 = fun _ => False := ⟨_, fun _ h => h.elim, rfl⟩
 clear hAe
 have hA := hA0
 have hi : ∀ b, A0 b → A0 b := fun _ h => h
 have hH := Hp.nil A0 w0.heap.size w0
 refine ck Tryz.func122 [0] rfl rfl ?_
 refine ke_seq <| ke_region <| sr_go 1 rfl <| sr_fin [0] rfl <| ke_seq <| ke_region ?_
 refine sr_alloc hH hb.size hA Tryz.zeroValue152 (by decide) ?_
 intro g1 A2 w3 hH1 hst4 hbw5 hinc6 hA1 hge7
 replace hb := hb.trans (hbw5.mono hb.size)
 replace hi := fun b hb => hinc6 b (hi b hb)
 replace hH : Hp A2 w0.heap.size w3 [(g1, .cells (([0, 0, 0, 0, 0, 0, 0, 0, 0, 0, 0, 0, 0, 0, 0, 0]).map (Value.int .u8)).toArray 152 (0, 0))] := hH1
 replace hA := hA1
 clear hH1 hA1
 refine sr_fin [0, 3] rfl <| ke_seq <| ke_seq <| ke_region <| sr_go 1 rfl <| sr_fin [0, 3, 5] rfl ?_
 refine ke_block ?_
 have hK := digest_Hex_L1_ok hg hA0 _ hS hb hA hi hH
 exact ke_wk (ke_loop hK)
theorem digest_Text_ok (w0 : World) (hg : Gs w0) {s_0 : Str} {r : Str} (hS : digest_Text s_0 = some r) :
  Calls Tryz.prog 96 #[str s_0] w0 (Ret (fun v w' => v = str r ∧ Below w0.heap.size w0 w')) := by
 unfold digest_Text at hS
 have hb := Below.refl w0.heap.size w0
 refine ck Tryz.func96 [0] rfl rfl ?_
 refine ke_seq <| ke_region <| sr_go 1 rfl <| sr_fin [0] rfl <| ke_seq <| ke_region <| sr_go 1 rfl ?_
 obtain ⟨y1, hy2, hS⟩ := bS hS
 refine sr_cl Tryz.call81 (digest_Sum_ok _ (hg.below hb) hy2) ?_
 rintro _ w3 ⟨rfl, hbw4⟩
 replace hb := hb.trans (hbw4.mono hb.size)
 obtain ⟨y5, hy6, hS⟩ := bS hS
 refine sr_cl Tryz.call122 (digest_Hex_ok _ (hg.below hb) hy6) ?_
 rintro _ w7 ⟨rfl, hbw8⟩
 replace hb := hb.trans (hbw8.mono hb.size)
 refine sr_go 1 rfl <| sr_fin [2] rfl ?_
 cases hS
 exact ke_ret1 Tryz.func96 rfl rfl ⟨_, rfl, rfl, hb⟩
theorem digest_Iterate_L1_ok {w0 : World} (hg : Gs w0) : ∀ (n : Nat), ∀ {r : Str} {salt_0 : Str} {h_7 : Str} {t_15 : Int} {t_16 : Int}, digest_Iterate_L1 n salt_0 h_7 t_15 t_16 = some r → ∀ {w : World}, (Below w0.heap.size w0 w) → KE Tryz.prog 55 (Ret (fun v w' => v = str r ∧ Below w0.heap.size w0 w')) 25 [.code (sub (bodyOf Tryz.f55) [2, 2, 1, 2, 2, 1]), .inLoop (sub (bodyOf Tryz.f55) [2, 2, 1, 2, 2, 1]), .inBlock 0, .code (sub (bodyOf Tryz.f55) [2, 2, 2])] [(0, str salt_0), (7, str h_7), (15, .int .i64 t_15), (16, .int .i64 t_16)] w := by
 intro n
 induction n with
 | zero => intro r salt_0 h_7 t_15 t_16 hS; cases hS
 | succ n ih =>
  have hr0 : ∀ {r : Str} {salt_0 : Str} {h_7 : Str} {t_15 : Int} {t_16 : Int}, digest_Iterate_L1 n salt_0 h_7 t_15 t_16 = some r → ∀ {w : World}, (Below w0.heap.size w0 w) → KE Tryz.prog 55 (Ret (fun v w' => v = str r ∧ Below w0.heap.size w0 w')) 25 [.inLoop (sub (bodyOf Tryz.f55) [2, 2, 1, 2, 2, 1]), .inBlock 0, .code (sub (bodyOf Tryz.f55) [2, 2, 2])] [(0, str salt_0), (7, str h_7), (15, .int .i64 t_15), (16, .int .i64 t_16)] w := fun {r} {salt_0} {h_7} {t_15} {t_16} hS {w} hb => ke_inLoop (ih hS hb)
  clear ih
  intro r salt_0 h_7 t_15 t_16 hS w hb
  unfold digest_Iterate_L1 at hS
  refine ke_seq <| ke_region <| sr_go 1 rfl <| sr_fin [0, 7, 15, 16, 17] rfl <| ke_seq ?_
  refine ke_cond rfl (fun hc7 => ?_) (fun hc7 => ?_)
  ·replace hS := iT hS hc7
   refine ke_skip <| ke_seq ?_
   refine ke_block ?_
   refine ke_region <| sr_go 1 rfl ?_
   obtain ⟨hk8, hS⟩ := chk_some hS
   refine sr_e (ev_cat rfl rfl hk8) ?_
   refine sr_go 1 rfl ?_
   obtain ⟨hk9, hS⟩ := chk_some hS
   refine sr_e (ev_cat rfl rfl hk9) ?_
   obtain ⟨y10, hy11, hS⟩ := bS hS
   refine sr_cl Tryz.call96 (digest_Text_ok _ (hg.below hb) hy11) ?_
   rintro _ w12 ⟨rfl, hbw13⟩
   replace hb := hb.trans (hbw13.mono hb.size)
   refine sr_go 1 rfl <| sr_fin [0, 7, 15, 16] rfl <| ke_inBlock <| ke_region <| sr_go 2 rfl <| sr_fin [0, 7, 15, 16] rfl ?_
   have hK := hr0 hS hb
   exact ke_wk hK
  ·replace hS := iF hS hc7
   refine ke_exit (k' := _) rfl ?_
   refine ke_seq <| ke_region <| sr_go 2 rfl <| sr_fin [6] rfl ?_
   cases hS
   exact ke_ret1 Tryz.func55 rfl rfl ⟨_, rfl, rfl, hb⟩
theorem digest_Iterate_ok (w0 : World) (hg : Gs w0) {salt_0 : Str} {s_1 : Str} {rounds_2 : Int} {r : Str} (hS : digest_Iterate salt_0 s_1 rounds_2 = some r) :
  Calls Tryz.prog 55 #[str salt_0, str s_1, .int .i64 rounds_2] w0 (Ret (fun v w' => v = str r ∧ Below w0.heap.size w0 w')) := by
 unfold digest_Iterate at hS
 have hb := Below.refl w0.heap.size w0
 refine ck Tryz.func55 [0, 1, 2] rfl rfl ?_
 refine ke_seq <| ke_region <| sr_go 1 rfl <| sr_fin [0, 1, 2] rfl <| ke_seq <| ke_region <| sr_go 1 rfl ?_
 obtain ⟨hk1, hS⟩ := chk_some hS
 refine sr_e (ev_cat rfl rfl hk1) ?_
 refine sr_go 1 rfl ?_
 obtain ⟨hk2, hS⟩ := chk_some hS
 refine sr_e (ev_cat rfl rfl hk2) ?_
 obtain ⟨y3, hy4, hS⟩ := bS hS
 refine sr_cl Tryz.call96 (digest_Text_ok _ (hg.below hb) hy4) ?_
 rintro _ w5 ⟨rfl, hbw6⟩
 replace hb := hb.trans (hbw6.mono hb.size)
 refine sr_go 1 rfl <| sr_fin [0, 2, 7] rfl <| ke_seq <| ke_seq <| ke_region <| sr_go 1 rfl ?_
 refine sr_e (ev_max rfl rfl) ?_
 refine sr_e (ev_min rfl rfl) ?_
 refine sr_go 1 rfl <| sr_fin [0, 7, 15, 16] rfl ?_
 refine ke_block ?_
 have hK := digest_Iterate_L1_ok hg _ hS hb
 exact ke_wk (ke_loop hK)
theorem secret_Make_ok (w0 : World) (hg : Gs w0) {password_0 : Str} {salt_1 : Str} {rounds_2 : Int} {r : api_Verifier × Int} (hS : secret_Make password_0 salt_1 rounds_2 = some r) :
  Calls Tryz.prog 20 #[str password_0, str salt_1, .int .i64 rounds_2] w0 (Ret (fun v w' => v = .tuple #[.agg #[str r.1.Salt, .int .i64 r.1.Rounds, str r.1.Hash], .int .i64 r.2] ∧ Below w0.heap.size w0 w')) := by
 unfold secret_Make at hS
 have hb := Below.refl w0.heap.size w0
 obtain ⟨A0, hA0, hAe⟩ : ∃ A0 : Nat → Prop, (∀ b, A0 b → b < w0.heap.size) ∧ A0 = fun _ => False := ⟨_, fun _ h => h.elim, rfl⟩
 clear hAe
 have hA := hA0
 have hi : ∀ b, A0 b → A0 b := fun _ h => h
 have hH := Hp.nil A0 w0.heap.size w0
 refine ck Tryz.func20 [0, 1, 2] rfl rfl ?_
 refine ke_seq <| ke_region ?_
 refine sr_alloc hH hb.size hA Tryz.zeroValue45 (by decide) ?_
 intro g1 A2 w3 hH1 hst4 hbw5 hinc6 hA1 hge7
 replace hb := hb.trans (hbw5.mono hb.size)
 replace hi := fun b hb => hinc6 b (hi b hb)
 replace hH : Hp A2 w0.heap.size w3 [(g1, .cells #[str ([]), .int .i64 0, str ([])] 45 (0, 0))] := hH1
 replace hA := hA1
 clear hH1 hA1
 refine sr_go 1 rfl <| sr_fin [0, 1, 2, 6] rfl <| ke_seq <| ke_seq <| ke_region <| sr_go 1 rfl ?_
 obtain ⟨y8, hy9, hS⟩ := bS hS
 refine sr_cl Tryz.call43 (fold_Word_ok _ (hg.below hb) hy9) ?_
 rintro _ w10 ⟨rfl, hbw11⟩
 replace hb := hb.trans (hbw11.mono hb.size)
 replace hA := lt_mono hA hbw11.size
 replace hH := hH.below hbw11
 refine sr_go 2 rfl ?_
 refine sr_join (m := 3) (C := fun (x : Bool) w1 => x = ((!y8) || (decide (rounds_2 < 1))) ∧ w10 = w1) (l' := fun x => [(0, str password_0), (1, str salt_1), (2, .int .i64 rounds_2), (6, pT g1 0), (14, .bool x)]) ?_ ?_
 ·rintro _ _ ⟨rfl, rfl⟩
  refine sr_go 1 rfl ?_
  refine sr_join (m := 3) (C := fun (x : Bool) w1 => x = (((!y8) || (decide (rounds_2 < 1))) || (decide (rounds_2 > 64))) ∧ w10 = w1) (l' := fun x => [(0, str password_0), (1, str salt_1), (2, .int .i64 rounds_2), (6, pT g1 0), (18, .bool x)]) ?_ ?_
  ·rintro _ _ ⟨rfl, rfl⟩
   refine sr_fin [0, 1, 2, 6, 18] rfl ?_
   refine ke_cond rfl (fun hc26 => ?_) (fun hc26 => ?_)
   ·replace hS := iT hS hc26
    refine ke_seq <| ke_region ?_
    refine sr_e (v := .agg #[str ([]), .int .i64 0, str ([])]) (ev_build (vs := #[]) rfl (fun _ => by kernel_rfl)) ?_
    refine sr_store (i := 0) (v := .agg #[str ([]), .int .i64 0, str ([])]) (vs := [str ([]), .int .i64 0, str ([])]) (cs' := #[str ([]), .int .i64 0, str ([])]) hH rfl rfl rfl rfl Tryz.sizeOf45 rfl rfl rfl ?_
    intro w27 hH1 hwr28
    replace hb := hwr28.below hb (hH.base _ (List.mem_of_getElem? (i := 0) rfl))
    replace hA := hwr28.lt hA
    replace hH : Hp A2 w0.heap.size w27 [(g1, .cells #[str ([]), .int .i64 0, str ([])] 45 (0, 0))] := hH1
    clear hH1
    refine sr_go 1 rfl <| sr_fin [6, 7] rfl ?_
    cases hS
    exact ke_ret (rs := [.cell 6 45, .tmp 7]) (vs := [.agg #[str ([]), .int .i64 0, str ([])], .int .i64 2]) Tryz.func20 rfl ⟨⟨_, rfl, run_loadVar_s Tryz.isAgg45 Tryz.sizeOf45 (hH.cells (i := 0) (vs := [str ([]), .int .i64 0, str ([])]) rfl rfl)⟩, rfl, trivial⟩ rfl ⟨_, rfl, rfl, hb⟩
   ·replace hS := iF hS hc26
    refine ke_skip <| ke_seq <| ke_seq <| ke_region <| sr_go 1 rfl ?_
    obtain ⟨y29, hy30, hS⟩ := bS hS
    refine sr_cl Tryz.call54 (secret_isPassword_ok _ (hg.below hb) hy30) ?_
    rintro _ w31 ⟨rfl, hbw32⟩
    replace hb := hb.trans (hbw32.mono hb.size)
    replace hA := lt_mono hA hbw32.size
    replace hH := hH.below hbw32
    refine sr_go 1 rfl <| sr_fin [0, 1, 2, 6, 22] rfl ?_
    refine ke_cond rfl (fun hc33 => ?_) (fun hc33 => ?_)
    ·replace hS := iT hS hc33
     refine ke_seq <| ke_region ?_
     refine sr_e (v := .agg #[str ([]), .int .i64 0, str ([])]) (ev_build (vs := #[]) rfl (fun _ => by kernel_rfl)) ?_
     refine sr_store (i := 0) (v := .agg #[str ([]), .int .i64 0, str ([])]) (vs := [str ([]), .int .i64 0, str ([])]) (cs' := #[str ([]), .int .i64 0, str ([])]) hH rfl rfl rfl rfl Tryz.sizeOf45 rfl rfl rfl ?_
     intro w34 hH1 hwr35
     replace hb := hwr35.below hb (hH.base _ (List.mem_of_getElem? (i := 0) rfl))
     replace hA := hwr35.lt hA
     replace hH : Hp A2 w0.heap.size w34 [(g1, .cells #[str ([]), .int .i64 0, str ([])] 45 (0, 0))] := hH1
     clear hH1
     refine sr_go 1 rfl <| sr_fin [6, 7] rfl ?_
     cases hS
     exact ke_ret (rs := [.cell 6 45, .tmp 7]) (vs := [.agg #[str ([]), .int .i64 0, str ([])], .int .i64 4]) Tryz.func20 rfl ⟨⟨_, rfl, run_loadVar_s Tryz.isAgg45 Tryz.sizeOf45 (hH.cells (i := 0) (vs := [str ([]), .int .i64 0, str ([])]) rfl rfl)⟩, rfl, trivial⟩ rfl ⟨_, rfl, rfl, hb⟩
    ·replace hS := iF hS hc33
     refine ke_skip <| ke_seq <| ke_region <| sr_go 5 rfl ?_
     obtain ⟨y36, hy37, hS⟩ := bS hS
     refine sr_cl Tryz.call55 (digest_Iterate_ok _ (hg.below hb) hy37) ?_
     rintro _ w38 ⟨rfl, hbw39⟩
     replace hb := hb.trans (hbw39.mono hb.size)
     replace hA := lt_mono hA hbw39.size
     replace hH := hH.below hbw39
     refine sr_e (v := .agg #[str salt_1, .int .i64 rounds_2, str y36]) (ev_build (vs := #[(0, str salt_1), (1, .int .i64 rounds_2), (2, str y36)]) rfl (fun _ => by kernel_rfl)) ?_
     refine sr_store (i := 0) (v := .agg #[str salt_1, .int .i64 rounds_2, str y36]) (vs := [str salt_1, .int .i64 rounds_2, str y36]) (cs' := #[str salt_1, .int .i64 rounds_2, str y36]) hH rfl rfl rfl rfl Tryz.sizeOf45 rfl rfl rfl ?_
     intro w40 hH1 hwr41
     replace hb := hwr41.below hb (hH.base _ (List.mem_of_getElem? (i := 0) rfl))
     replace hA := hwr41.lt hA
     replace hH : Hp A2 w0.heap.size w40 [(g1, .cells #[str salt_1, .int .i64 rounds_2, str y36] 45 (0, 0))] := hH1
     clear hH1
     refine sr_go 1 rfl <| sr_fin [6, 7] rfl ?_
     cases hS
     exact ke_ret (rs := [.cell 6 45, .tmp 7]) (vs := [.agg #[str salt_1, .int .i64 rounds_2, str y36], .int .i64 0]) Tryz.func20 rfl ⟨⟨_, rfl, run_loadVar_s Tryz.isAgg45 Tryz.sizeOf45 (hH.cells (i := 0) (vs := [str salt_1, .int .i64 rounds_2, str y36]) rfl rfl)⟩, rfl, trivial⟩ rfl ⟨_, rfl, rfl, hb⟩
  ·intro K20
   rcases Bool.eq_false_or_eq_true ((!y8) || (decide (rounds_2 < 1))) with hg19 | hg19
   ·refine sr_setb 15 rfl hg19 <| sr_go 3 rfl ?_
    exact sr_wk (K20 true _ ⟨by rw [hg19]; rfl, rfl⟩)
   ·refine sr_setb 15 rfl hg19 <| sr_go 3 rfl ?_
    exact sr_wk (K20 (decide (rounds_2 > 64)) _ ⟨by rw [hg19]; rfl, rfl⟩)
 ·intro K13
  rcases Bool.eq_false_or_eq_true (!y8) with hg12 | hg12
  ·refine sr_setb 11 rfl hg12 <| sr_go 3 rfl ?_
   exact sr_wk (K13 true _ ⟨by rw [hg12]; rfl, rfl⟩)
  ·refine sr_setb 11 rfl hg12 <| sr_go 3 rfl ?_
   exact sr_wk (K13 (decide (rounds_2 < 1)) _ ⟨by rw [hg12]; rfl, rfl⟩)
theorem login_Logins_ready_ok (w0 : World) (hg : Gs w0) {ρA : Tags} (hbd : ∀ b, ρA b ≠ 0 → b < w0.heap.size) (hz : Gz ρA) {τ0 : Nat → Nat} (hτ0 : ∀ p, 1 ≤ τ0 p) {l_0 : login_Logins} {gl_0 : Nat} {r : Bool} (ho0 : login_Logins.O τ0 ρA w0 gl_0 l_0) (hS : login_Logins_ready l_0 = some r) :
  Calls Tryz.prog 42 #[pT gl_0 0] w0 (Ret (fun v w' => v = .bool r ∧ Below w0.heap.size w0 w')) := by
 unfold login_Logins_ready at hS
 have hb := flat1_fr (ρ := ρA) (w := w0) hbd
 have hz := hz.flat1
 obtain ⟨v1, v3, v5, v7, hB9, hP2, h4, h6, h8⟩ := ho0
 replace hB9 := hB9.mv (flat1_mv (hτ0 0))
 replace hP2 := PtrO.mv hP2 secret_Locks.objK (fun p hp => flat1_mv (hτ0 (1 + p))) (fun _ _ => by decide)
 replace h4 := h4.mv (flat1_mv (hτ0 4))
 refine ck Tryz.func42 [0] rfl rfl ?_
 refine ke_seq <| ke_region <| sr_go 1 rfl <| sr_fin [0] rfl <| ke_seq <| ke_region <| sr_go 1 rfl ?_
 refine sr_e (ev_pneT_some Tryz.underlying25 rfl rfl) ?_
 refine sr_go 3 rfl ?_
 refine sr_eg rfl (ev_fieldAddr (i := 1) Tryz.underlying69 rfl Tryz.info65 rfl rfl) ?_
 refine sr_eg rfl (ev_load Tryz.isAgg65 rfl (hB9.cell rfl)) ?_
 refine sr_eg rfl (ev_mapNe h4 Tryz.underlying65 w0 rfl rfl) ?_
 refine sr_go 2 rfl <| sr_fin [2] rfl ?_
 cases hS
 exact ke_ret1 Tryz.func42 rfl rfl ⟨_, rfl, rfl, (hb.below (flat1_le _))⟩
theorem digest_ReadHex_B3_ok {w0 : World} (hg : Gs w0) (r0 : Str → Int → Int → Int → Option (Int × Int)) (r1 : Str → Int → Int → Int → Int → Int → Int → Option (Int × Int))
  (hr0 : ∀ {r : Int × Int} {s_0 : Str} {n_4 : Int} {t_13 : Int} {t_14 : Int}, r0 s_0 n_4 t_13 t_14 = some r → ∀ {w : World}, (Below w0.heap.size w0 w) → KE Tryz.prog 97 (Ret (fun v w' => v = .tuple #[.int .u64 r.1, .int .i64 r.2] ∧ Below w0.heap.size w0 w')) 38 [.inLoop (sub (bodyOf Tryz.f97) [2, 2, 2, 1, 2, 2, 1]), .inBlock 0, .code (sub (bodyOf Tryz.f97) [2, 2, 2, 2])] [(0, str s_0), (4, .int .u64 n_4), (13, .int .i64 t_13), (14, .int .i64 t_14)] w)
  (hr1 : ∀ {r : Int × Int} {s_0 : Str} {n_4 : Int} {i_5 : Int} {v_6 : Int} {t_13 : Int} {t_14 : Int} {t_18 : Int}, r1 s_0 n_4 i_5 v_6 t_13 t_14 t_18 = some r → ∀ {w : World}, (Below w0.heap.size w0 w) → KE Tryz.prog 97 (Ret (fun v w' => v = .tuple #[.int .u64 r.1, .int .i64 r.2] ∧ Below w0.heap.size w0 w')) 38 [.inLoop (sub (bodyOf Tryz.f97) [2, 2, 2, 1, 2, 2, 1, 2, 2, 1, 2, 2, 2, 1, 2, 2, 1]), .inBlock 2, .code (sub (bodyOf Tryz.f97) [2, 2, 2, 1, 2, 2, 1, 2, 2, 1, 2, 2, 2, 2]), .inBlock 1, .code (sub (bodyOf Tryz.f97) [2, 2, 2, 1, 2, 2, 1, 2, 2, 2]), .inLoop (sub (bodyOf Tryz.f97) [2, 2, 2, 1, 2, 2, 1]), .inBlock 0, .code (sub (bodyOf Tryz.f97) [2, 2, 2, 2])] [(0, str s_0), (4, .int .u64 n_4), (5, .int .i64 i_5), (6, .int .i64 v_6), (13, .int .i64 t_13), (14, .int .i64 t_14), (17, arrV .u8 tab_digest_digits), (18, .int .i64 t_18)] w) {r : Int × Int} {s_0 : Str} {n_4 : Int} {i_5 : Int} {v_6 : Int} {t_13 : Int} {t_14 : Int} {t_18 : Int} (hS : digest_ReadHex_B3 r0 r1 s_0 n_4 i_5 v_6 t_13 t_14 t_18 = some r) {w : World} (hb : Below w0.heap.size w0 w) :
  KE Tryz.prog 97 (Ret (fun v w' => v = .tuple #[.int .u64 r.1, .int .i64 r.2] ∧ Below w0.heap.size w0 w')) 38 [.inBlock 3, .code (sub (bodyOf Tryz.f97) [2, 2, 2, 1, 2, 2, 1, 2, 2, 1, 2, 2, 2, 1, 2, 2, 1, 2, 2, 2]), .inLoop (sub (bodyOf Tryz.f97) [2, 2, 2, 1, 2, 2, 1, 2, 2, 1, 2, 2, 2, 1, 2, 2, 1]), .inBlock 2, .code (sub (bodyOf Tryz.f97) [2, 2, 2, 1, 2, 2, 1, 2, 2, 1, 2, 2, 2, 2]), .inBlock 1, .code (sub (bodyOf Tryz.f97) [2, 2, 2, 1, 2, 2, 1, 2, 2, 2]), .inLoop (sub (bodyOf Tryz.f97) [2, 2, 2, 1, 2, 2, 1]), .inBlock 0, .code (sub (bodyOf Tryz.f97) [2, 2, 2, 2])] [(0, str s_0), (4, .int .u64 n_4), (5, .int .i64 i_5), (6, .int .i64 v_6), (13, .int .i64 t_13), (14, .int .i64 t_14), (17, arrV .u8 tab_digest_digits), (18, .int .i64 t_18)] w := by
 unfold digest_ReadHex_B3 at hS
 refine ke_inBlock <| ke_region <| sr_go 2 rfl <| sr_fin [0, 4, 5, 6, 13, 14, 17, 18] rfl ?_
 have hK := hr1 hS hb
 exact ke_wk hK
theorem digest_ReadHex_L2_ok {w0 : World} (hg : Gs w0) (r0 : Str → Int → Int → Int → Option (Int × Int))
  (hr0 : ∀ {r : Int × Int} {s_0 : Str} {n_4 : Int} {t_13 : Int} {t_14 : Int}, r0 s_0 n_4 t_13 t_14 = some r → ∀ {w : World}, (Below w0.heap.size w0 w) → KE Tryz.prog 97 (Ret (fun v w' => v = .tuple #[.int .u64 r.1, .int .i64 r.2] ∧ Below w0.heap.size w0 w')) 38 [.inLoop (sub (bodyOf Tryz.f97) [2, 2, 2, 1, 2, 2, 1]), .inBlock 0, .code (sub (bodyOf Tryz.f97) [2, 2, 2, 2])] [(0, str s_0), (4, .int .u64 n_4), (13, .int .i64 t_13), (14, .int .i64 t_14)] w) : ∀ (n : Nat), ∀ {r : Int × Int} {s_0 : Str} {n_4 : Int} {i_5 : Int} {v_6 : Int} {t_13 : Int} {t_14 : Int} {t_18 : Int}, digest_ReadHex_L2 r0 n s_0 n_4 i_5 v_6 t_13 t_14 t_18 = some r → ∀ {w : World}, (Below w0.heap.size w0 w) → KE Tryz.prog 97 (Ret (fun v w' => v = .tuple #[.int .u64 r.1, .int .i64 r.2] ∧ Below w0.heap.size w0 w')) 38 [.code (sub (bodyOf Tryz.f97) [2, 2, 2, 1, 2, 2, 1, 2, 2, 1, 2, 2, 2, 1, 2, 2, 1]), .inLoop (sub (bodyOf Tryz.f97) [2, 2, 2, 1, 2, 2, 1, 2, 2, 1, 2, 2, 2, 1, 2, 2, 1]), .inBlock 2, .code (sub (bodyOf Tryz.f97) [2, 2, 2, 1, 2, 2, 1, 2, 2, 1, 2, 2, 2, 2]), .inBlock 1, .code (sub (bodyOf Tryz.f97) [2, 2, 2, 1, 2, 2, 1, 2, 2, 2]), .inLoop (sub (bodyOf Tryz.f97) [2, 2, 2, 1, 2, 2, 1]), .inBlock 0, .code (sub (bodyOf Tryz.f97) [2, 2, 2, 2])] [(0, str s_0), (4, .int .u64 n_4), (5, .int .i64 i_5), (6, .int .i64 v_6), (13, .int .i64 t_13), (14, .int .i64 t_14), (17, arrV .u8 tab_digest_digits), (18, .int .i64 t_18)] w := by
 intro n
 induction n with
 | zero => intro r s_0 n_4 i_5 v_6 t_13 t_14 t_18 hS; cases hS
 | succ n ih =>
  have hr1 : ∀ {r : Int × Int} {s_0 : Str} {n_4 : Int} {i_5 : Int} {v_6 : Int} {t_13 : Int} {t_14 : Int} {t_18 : Int}, digest_ReadHex_L2 r0 n s_0 n_4 i_5 v_6 t_13 t_14 t_18 = some r → ∀ {w : World}, (Below w0.heap.size w0 w) → KE Tryz.prog 97 (Ret (fun v w' => v = .tuple #[.int .u64 r.1, .int .i64 r.2] ∧ Below w0.heap.size w0 w')) 38 [.inLoop (sub (bodyOf Tryz.f97) [2, 2, 2, 1, 2, 2, 1, 2, 2, 1, 2, 2, 2, 1, 2, 2, 1]), .inBlock 2, .code (sub (bodyOf Tryz.f97) [2, 2, 2, 1, 2, 2, 1, 2, 2, 1, 2, 2, 2, 2]), .inBlock 1, .code (sub (bodyOf Tryz.f97) [2, 2, 2, 1, 2, 2, 1, 2, 2, 2]), .inLoop (sub (bodyOf Tryz.f97) [2, 2, 2, 1, 2, 2, 1]), .inBlock 0, .code (sub (bodyOf Tryz.f97) [2, 2, 2, 2])] [(0, str s_0), (4, .int .u64 n_4), (5, .int .i64 i_5), (6, .int .i64 v_6), (13, .int .i64 t_13), (14, .int .i64 t_14), (17, arrV .u8 tab_digest_digits), (18, .int .i64 t_18)] w := fun {r} {s_0} {n_4} {i_5} {v_6} {t_13} {t_14} {t_18} hS {w} hb => ke_inLoop (ih hS hb)
  clear ih
  intro r s_0 n_4 i_5 v_6 t_13 t_14 t_18 hS w hb
  unfold digest_ReadHex_L2 at hS
  refine ke_seq <| ke_region <| sr_go 1 rfl <| sr_fin [0, 4, 5, 6, 13, 14, 17, 18, 19] rfl <| ke_seq ?_
  refine ke_cond rfl (fun hc3 => ?_) (fun hc3 => ?_)
  ·replace hS := iT hS hc3
   refine ke_skip <| ke_seq ?_
   refine ke_block ?_
   refine ke_seq <| ke_region <| sr_go 1 rfl ?_
   obtain ⟨y4, hy5, hS⟩ := bS hS
   refine sr_e (v := .int .u8 y4) (ev_avindex Tryz.underlying152 Tryz.sizeOf5 Tryz.isAgg5 rfl rfl rfl hy5) ?_
   refine sr_go 2 rfl <| sr_fin [0, 4, 5, 6, 7, 8, 13, 14, 17, 18] rfl <| ke_seq <| ke_region <| sr_go 3 rfl ?_
   obtain ⟨hk6, hS⟩ := chk_some hS
   refine sr_e (ev_sindex Tryz.underlying9 rfl rfl hk6) ?_
   refine sr_go 1 rfl <| sr_fin [0, 4, 5, 6, 7, 13, 14, 17, 18, 26] rfl ?_
   refine ke_cond rfl (fun hc7 => ?_) (fun hc7 => ?_)
   ·replace hS := iT hS hc7
    refine ke_region <| sr_go 2 rfl <| sr_fin [0, 4, 5, 6, 13, 14, 17, 18] rfl ?_
    have hK := digest_ReadHex_B3_ok hg _ _ hr0 hr1 hS hb
    exact ke_wk hK
   ·replace hS := iF hS hc7
    refine ke_skip ?_
    have hK := digest_ReadHex_B3_ok hg _ _ hr0 hr1 hS hb
    exact ke_wk hK
  ·replace hS := iF hS hc3
   refine ke_exit (k' := _) rfl ?_
   refine ke_seq <| ke_seq <| ke_region <| sr_go 2 rfl <| sr_fin [0, 4, 6, 13, 14, 30] rfl ?_
   refine ke_cond rfl (fun hc8 => ?_) (fun hc8 => ?_)
   ·replace hS := iT hS hc8
    refine ke_seq <| ke_region <| sr_go 2 rfl <| sr_fin [2, 3] rfl ?_
    cases hS
    exact ke_ret2 Tryz.func97 rfl rfl rfl ⟨_, rfl, rfl, hb⟩
   ·replace hS := iF hS hc8
    refine ke_skip <| ke_region <| sr_go 1 rfl ?_
    refine sr_e (ev_shl rfl rfl (by decide)) ?_
    refine sr_go 1 rfl ?_
    refine sr_e (ev_conv Tryz.underlying116 Tryz.underlying3 rfl) ?_
    refine sr_e (ev_or rfl rfl) ?_
    refine sr_go 1 rfl <| sr_fin [0, 4, 13, 14] rfl <| ke_inBlock <| ke_region <| sr_go 2 rfl <| sr_fin [0, 4, 13, 14] rfl ?_
    have hK := hr0 hS hb
    exact ke_wk hK
theorem digest_ReadHex_L1_ok {w0 : World} (hg : Gs w0) : ∀ (n : Nat), ∀ {r : Int × Int} {s_0 : Str} {n_4 : Int} {t_13 : Int} {t_14 : Int}, digest_ReadHex_L1 n s_0 n_4 t_13 t_14 = some r → ∀ {w : World}, (Below w0.heap.size w0 w) → KE Tryz.prog 97 (Ret (fun v w' => v = .tuple #[.int .u64 r.1, .int .i64 r.2] ∧ Below w0.heap.size w0 w')) 38 [.code (sub (bodyOf Tryz.f97) [2, 2, 2, 1, 2, 2, 1]), .inLoop (sub (bodyOf Tryz.f97) [2, 2, 2, 1, 2, 2, 1]), .inBlock 0, .code (sub (bodyOf Tryz.f97) [2, 2, 2, 2])] [(0, str s_0), (4, .int .u64 n_4), (13, .int .i64 t_13), (14, .int .i64 t_14)] w := by
 intro n
 induction n with
 | zero => intro r s_0 n_4 t_13 t_14 hS; cases hS
 | succ n ih =>
  have hr0 : ∀ {r : Int × Int} {s_0 : Str} {n_4 : Int} {t_13 : Int} {t_14 : Int}, digest_ReadHex_L1 n s_0 n_4 t_13 t_14 = some r → ∀ {w : World}, (Below w0.heap.size w0 w) → KE Tryz.prog 97 (Ret (fun v w' => v = .tuple #[.int .u64 r.1, .int .i64 r.2] ∧ Below w0.heap.size w0 w')) 38 [.inLoop (sub (bodyOf Tryz.f97) [2, 2, 2, 1, 2, 2, 1]), .inBlock 0, .code (sub (bodyOf Tryz.f97) [2, 2, 2, 2])] [(0, str s_0), (4, .int .u64 n_4), (13, .int .i64 t_13), (14, .int .i64 t_14)] w := fun {r} {s_0} {n_4} {t_13} {t_14} hS {w} hb => ke_inLoop (ih hS hb)
  clear ih
  intro r s_0 n_4 t_13 t_14 hS w hb
  unfold digest_ReadHex_L1 at hS
  refine ke_seq <| ke_region <| sr_go 1 rfl <| sr_fin [0, 4, 13, 14, 15] rfl <| ke_seq ?_
  refine ke_cond rfl (fun hc2 => ?_) (fun hc2 => ?_)
  ·replace hS := iT hS hc2
   refine ke_skip <| ke_seq ?_
   refine ke_block ?_
   refine ke_seq <| ke_region <| sr_go 2 rfl <| sr_fin [0, 4, 5, 13, 14] rfl <| ke_seq <| ke_region <| sr_go 1 rfl <| sr_fin [0, 4, 5, 6, 13, 14] rfl <| ke_seq <| ke_seq <| ke_region ?_
   refine sr_e (v := arrV .u8 tab_digest_digits) (ev_globload Tryz.isAgg152 Tryz.sizeOf152 (fun i x hx => (hg.below hb).tab0 hx)) ?_
   refine sr_go 1 rfl <| sr_fin [0, 4, 5, 6, 13, 14, 17, 18] rfl ?_
   refine ke_block ?_
   have hK := digest_ReadHex_L2_ok hg _ hr0 _ hS hb
   exact ke_wk (ke_loop hK)
  ·replace hS := iF hS hc2
   refine ke_exit (k' := _) rfl ?_
   refine ke_seq <| ke_region <| sr_go 3 rfl <| sr_fin [2, 3] rfl ?_
   cases hS
   exact ke_ret2 Tryz.func97 rfl rfl rfl ⟨_, rfl, rfl, hb⟩
theorem digest_ReadHex_ok (w0 : World) (hg : Gs w0) {s_0 : Str} {r : Int × Int} (hS : digest_ReadHex s_0 = some r) :
  Calls Tryz.prog 97 #[str s_0] w0 (Ret (fun v w' => v = .tuple #[.int .u64 r.1, .int .i64 r.2] ∧ Below w0.heap.size w0 w')) := by
 unfold digest_ReadHex at hS
 have hb := Below.refl w0.heap.size w0
 refine ck Tryz.func97 [0] rfl rfl ?_
 refine ke_seq <| ke_region <| sr_go 2 rfl <| sr_fin [0] rfl <| ke_seq <| ke_seq <| ke_region <| sr_go 1 rfl ?_
 refine sr_e (ev_slen Tryz.underlying9 rfl) ?_
 refine sr_go 1 rfl <| sr_fin [0, 11] rfl ?_
 refine ke_cond rfl (fun hc1 => ?_) (fun hc1 => ?_)
 ·replace hS := iT hS hc1
  refine ke_seq <| ke_region <| sr_go 2 rfl <| sr_fin [2, 3] rfl ?_
  cases hS
  exact ke_ret2 Tryz.func97 rfl rfl rfl ⟨_, rfl, rfl, hb⟩
 ·replace hS := iF hS hc1
  refine ke_skip <| ke_seq <| ke_region <| sr_go 1 rfl <| sr_fin [0, 4] rfl <| ke_seq <| ke_seq <| ke_region <| sr_go 1 rfl ?_
  refine sr_e (ev_slen Tryz.underlying9 rfl) ?_
  refine sr_go 1 rfl <| sr_fin [0, 4, 13, 14] rfl ?_
  refine ke_block ?_
  have hK := digest_ReadHex_L1_ok hg _ hS hb
  exact ke_wk (ke_loop hK)
theorem secret_Valid_ok (w0 : World) (hg : Gs w0) {v_0 : api_Verifier} {r : Bool} (hS : secret_Valid v_0 = some r) :
  Calls Tryz.prog 56 #[.agg #[str v_0.Salt, .int .i64 v_0.Rounds, str v_0.Hash]] w0 (Ret (fun v w' => v = .bool r ∧ Below w0.heap.size w0 w')) := by
 unfold secret_Valid at hS
 have hb := Below.refl w0.heap.size w0
 obtain ⟨A0, hA0, hAe⟩ : ∃ A0 : Nat → Prop, (∀ b, A0 b → b < w0.heap.size) ∧ A0 = fun _ => False := ⟨_, fun _ h => h.elim, rfl⟩
 clear hAe
 have hA := hA0
 have hi : ∀ b, A0 b → A0 b := fun _ h => h
 have hH := Hp.nil A0 w0.heap.size w0
 refine ck Tryz.func56 [0] rfl rfl ?_
 refine ke_seq <| ke_region ?_
 refine sr_box hH hb.size hA rfl (by decide) ?_
 intro g1 A2 w3 hH1 hst4 hbw5 hinc6 hA1 hge7
 replace hb := hb.trans (hbw5.mono hb.size)
 replace hi := fun b hb => hinc6 b (hi b hb)
 replace hH : Hp A2 w0.heap.size w3 [(g1, .cells #[str v_0.Salt, .int .i64 v_0.Rounds, str v_0.Hash] 45 (0, 0))] := hH1
 replace hA := hA1
 clear hH1 hA1
 refine sr_go 1 rfl <| sr_fin [1] rfl <| ke_seq <| ke_region ?_
 refine sr_fa 2 Tryz.underlying45 rfl Tryz.info9 ?_
 refine sr_ld (str v_0.Hash) Tryz.isAgg9 rfl (hH.cell (i := 0) rfl rfl) ?_
 obtain ⟨y8, hy9, hS⟩ := bS hS
 refine sr_cl Tryz.call97 (digest_ReadHex_ok _ (hg.below hb) hy9) ?_
 rintro _ w10 ⟨rfl, hbw11⟩
 replace hb := hb.trans (hbw11.mono hb.size)
 replace hA := lt_mono hA hbw11.size
 replace hH := hH.below hbw11
 refine sr_go 5 rfl <| sr_fin [1, 4] rfl <| ke_seq <| ke_region ?_
 refine sr_fa 0 Tryz.underlying45 rfl Tryz.info9 ?_
 refine sr_ld (str v_0.Salt) Tryz.isAgg9 rfl (hH.cell (i := 0) rfl rfl) ?_
 obtain ⟨y12, hy13, hS⟩ := bS hS
 refine sr_cl Tryz.call43 (fold_Word_ok _ (hg.below hb) hy13) ?_
 rintro _ w14 ⟨rfl, hbw15⟩
 replace hb := hb.trans (hbw15.mono hb.size)
 replace hA := lt_mono hA hbw15.size
 replace hH := hH.below hbw15
 refine sr_go 1 rfl ?_
 refine sr_join (m := 4) (C := fun (x : Bool) w1 => x = (y12 && (decide (v_0.Rounds ≥ 1))) ∧ w14 = w1) (l' := fun x => [(1, pT g1 0), (4, .int .i64 y8.2), (18, .bool x)]) ?_ ?_
 ·rintro _ _ ⟨rfl, rfl⟩
  refine sr_go 1 rfl ?_
  refine sr_join (m := 4) (C := fun (x : Bool) w1 => x = ((y12 && (decide (v_0.Rounds ≥ 1))) && (decide (v_0.Rounds ≤ 64))) ∧ w14 = w1) (l' := fun x => [(4, .int .i64 y8.2), (23, .bool x)]) ?_ ?_
  ·rintro _ _ ⟨rfl, rfl⟩
   refine sr_go 1 rfl ?_
   refine sr_join (m := 3) (C := fun (x : Bool) w1 => x = (((y12 && (decide (v_0.Rounds ≥ 1))) && (decide (v_0.Rounds ≤ 64))) && (y8.2 == 0)) ∧ w14 = w1) (l' := fun x => [(27, .bool x)]) ?_ ?_
   ·rintro _ _ ⟨rfl, rfl⟩
    refine sr_go 1 rfl <| sr_fin [2] rfl ?_
    cases hS
    exact ke_ret1 Tryz.func56 rfl rfl ⟨_, rfl, rfl, hb⟩
   ·intro K31
    rcases Bool.eq_false_or_eq_true ((y12 && (decide (v_0.Rounds ≥ 1))) && (decide (v_0.Rounds ≤ 64))) with hg30 | hg30
    ·refine sr_setb 24 rfl hg30 <| sr_go 3 rfl ?_
     exact sr_wk (K31 (y8.2 == 0) _ ⟨by rw [hg30]; rfl, rfl⟩)
    ·refine sr_setb 24 rfl hg30 <| sr_go 3 rfl ?_
     exact sr_wk (K31 false _ ⟨by rw [hg30]; rfl, rfl⟩)
  ·intro K24
   rcases Bool.eq_false_or_eq_true (y12 && (decide (v_0.Rounds ≥ 1))) with hg23 | hg23
   ·refine sr_eg hg23 (ev_fieldAddr (i := 1) Tryz.underlying45 rfl Tryz.info3 rfl rfl) ?_
    refine sr_eg hg23 (ev_load Tryz.isAgg3 rfl (hH.cell (i := 0) rfl rfl)) ?_
    refine sr_setb 19 rfl hg23 <| sr_go 2 rfl ?_
    exact sr_wk (K24 (decide (v_0.Rounds ≤ 64)) _ ⟨by rw [hg23]; rfl, rfl⟩)
   ·refine sr_setb 19 rfl hg23 <| sr_go 4 rfl ?_
    exact sr_wk (K24 false _ ⟨by rw [hg23]; rfl, rfl⟩)
 ·intro K17
  rcases Bool.eq_false_or_eq_true y12 with hg16 | hg16
  ·refine sr_eg hg16 (ev_fieldAddr (i := 1) Tryz.underlying45 rfl Tryz.info3 rfl rfl) ?_
   refine sr_eg hg16 (ev_load Tryz.isAgg3 rfl (hH.cell (i := 0) rfl rfl)) ?_
   refine sr_setb 14 rfl hg16 <| sr_go 2 rfl ?_
   exact sr_wk (K17 (decide (v_0.Rounds ≥ 1)) _ ⟨by rw [hg16]; rfl, rfl⟩)
  ·refine sr_setb 14 rfl hg16 <| sr_go 4 rfl ?_
   exact sr_wk (K17 false _ ⟨by rw [hg16]; rfl, rfl⟩)
theorem fold_Trim_ok (w0 : World) (hg : Gs w0) {s_0 : Str} {r : Str} (hS : fold_Trim s_0 = some r) :
  Calls Tryz.prog 80 #[str s_0] w0 (Ret (fun v w' => v = str r ∧ Below w0.heap.size w0 w')) := by
 unfold fold_Trim at hS
 have hb := Below.refl w0.heap.size w0
 refine ck Tryz.func80 [0] rfl rfl ?_
 refine ke_seq <| ke_region <| sr_go 1 rfl <| sr_fin [0] rfl <| ke_seq <| ke_region <| sr_go 1 rfl ?_
 obtain ⟨y1, hy2, hS⟩ := bS hS
 refine sr_cl Tryz.call113 (lib_Trim_ok _ (hg.below hb) hy2) ?_
 rintro _ w3 ⟨rfl, hbw4⟩
 replace hb := hb.trans (hbw4.mono hb.size)
 refine sr_go 1 rfl <| sr_fin [2] rfl ?_
 cases hS
 exact ke_ret1 Tryz.func80 rfl rfl ⟨_, rfl, rfl, hb⟩
theorem fold_Clean_L1_ok {w0 : World} (hg : Gs w0) {A0 : Nat → Prop} (hA0 : ∀ b, A0 b → b < w0.heap.size) : ∀ (n : Nat), ∀ {r : Bool} {s_0 : Str} {t_6s : Str} {t_6p : Nat} {gt_6 : Nat}, fold_Clean_L1 n s_0 t_6s t_6p = some r → ∀ {w : World} {A : Nat → Prop}, (Below w0.heap.size w0 w) → (∀ b, A b → b < w.heap.size) → (∀ b, A0 b → A b) → (Hp A w0.heap.size w [(gt_6, .stringIter ⟨t_6s.toArray⟩ t_6p)]) → KE Tryz.prog 40 (Ret (fun v w' => v = .bool r ∧ Below w0.heap.size w0 w')) 29 [.code (sub (bodyOf Tryz.f40) [2, 1, 2, 2, 1]), .inLoop (sub (bodyOf Tryz.f40) [2, 1, 2, 2, 1]), .inBlock 0, .code (sub (bodyOf Tryz.f40) [2, 2])] [(0, str s_0), (6, pT gt_6 0)] w := by
 intro n
 induction n with
 | zero => intro r s_0 t_6s t_6p gt_6 hS; cases hS
 | succ n ih =>
  have hr0 : ∀ {r : Bool} {s_0 : Str} {t_6s : Str} {t_6p : Nat} {gt_6 : Nat}, fold_Clean_L1 n s_0 t_6s t_6p = some r → ∀ {w : World} {A : Nat → Prop}, (Below w0.heap.size w0 w) → (∀ b, A b → b < w.heap.size) → (∀ b, A0 b → A b) → (Hp A w0.heap.size w [(gt_6, .stringIter ⟨t_6s.toArray⟩ t_6p)]) → KE Tryz.prog 40 (Ret (fun v w' => v = .bool r ∧ Below w0.heap.size w0 w')) 29 [.inLoop (sub (bodyOf Tryz.f40) [2, 1, 2, 2, 1]), .inBlock 0, .code (sub (bodyOf Tryz.f40) [2, 2])] [(0, str s_0), (6, pT gt_6 0)] w := fun {r} {s_0} {t_6s} {t_6p} {gt_6} hS {w} {A} hb hA hi hH => ke_inLoop (ih hS hb hA hi hH)
  clear ih
  intro r s_0 t_6s t_6p gt_6 hS w A hb hA hi hH
  unfold fold_Clean_L1 at hS
  refine ke_seq <| ke_region ?_
  refine sr_next_s (j := 0) hH rfl rfl (by decide) (fun hc8 w9 hH1 hwr10 => ?_) (fun hc8 => ?_)
  ·replace hS := iT hS hc8
   replace hb := hwr10.below hb (hH.base _ (List.mem_of_getElem? (i := 0) rfl))
   replace hA := hwr10.lt hA
   replace hH : Hp A w0.heap.size w9 [(gt_6, .stringIter ⟨t_6s.toArray⟩ (t_6p + (sdec t_6s t_6p).2))] := hH1
   clear hH1
   refine sr_go 1 rfl <| sr_fin [0, 6, 7, 8] rfl <| ke_seq ?_
   refine ke_cond rfl (fun _ => ?_) (fun h => by cases h)
   refine ke_skip ?_
   refine ke_block ?_
   refine ke_seq <| ke_region <| sr_go 2 rfl <| sr_fin [0, 4, 6] rfl <| ke_seq <| ke_region <| sr_go 3 rfl ?_
   refine sr_join (m := 3) (C := fun (x : Bool) w1 => x = ((decide (((sdec t_6s t_6p).1) < 32)) || (decide (((sdec t_6s t_6p).1) > 126))) ∧ w9 = w1) (l' := fun x => [(0, str s_0), (6, pT gt_6 0), (15, .bool x)]) ?_ ?_
   ·rintro _ _ ⟨rfl, rfl⟩
    refine sr_fin [0, 6, 15] rfl ?_
    refine ke_cond rfl (fun hc18 => ?_) (fun hc18 => ?_)
    ·replace hS := iT hS hc18
     refine ke_seq <| ke_region <| sr_go 1 rfl <| sr_fin [2] rfl ?_
     cases hS
     exact ke_ret1 Tryz.func40 rfl rfl ⟨_, rfl, rfl, hb⟩
    ·replace hS := iF hS hc18
     refine ke_skip <| ke_inBlock ?_
     have hK := hr0 hS hb hA hi hH
     exact ke_wk hK
   ·intro K12
    rcases Bool.eq_false_or_eq_true (decide (((sdec t_6s t_6p).1) < 32)) with hg11 | hg11
    ·refine sr_setb 12 rfl hg11 <| sr_go 3 rfl ?_
     exact sr_wk (K12 true _ ⟨by rw [hg11]; rfl, rfl⟩)
    ·refine sr_setb 12 rfl hg11 <| sr_go 3 rfl ?_
     exact sr_wk (K12 (decide (((sdec t_6s t_6p).1) > 126)) _ ⟨by rw [hg11]; rfl, rfl⟩)
  ·replace hS := iF hS hc8
   refine sr_go 1 rfl <| sr_fin [0, 6, 7, 8] rfl <| ke_seq ?_
   refine ke_cond rfl (fun h => by cases h) (fun _ => ?_)
   refine ke_exit (k' := _) rfl ?_
   refine ke_seq <| ke_region <| sr_go 1 rfl ?_
   refine sr_e (ev_sne rfl rfl) ?_
   refine sr_go 1 rfl ?_
   refine sr_join (m := 4) (C := fun (x : Bool) w1 => x = ((!(s_0 == ([]))) && (decide ((s_0.length : Int) ≤ 256))) ∧ w = w1) (l' := fun x => [(0, str s_0), (22, .bool x)]) ?_ ?_
   ·rintro _ _ ⟨rfl, rfl⟩
    refine sr_go 1 rfl ?_
    obtain ⟨z28, hz30, hS⟩ := bS hS
    refine sr_join (m := 5) (C := fun (x : Bool) w1 => z28 = x ∧ Below w.heap.size w w1) (l' := fun x => [(28, .bool x)]) ?_ ?_
    ·rintro _ w31 ⟨rfl, hbw32⟩
     replace hb := hb.trans (hbw32.mono hb.size)
     replace hA := lt_mono hA hbw32.size
     replace hH := hH.below hbw32
     refine sr_go 1 rfl <| sr_fin [2] rfl ?_
     cases hS
     exact ke_ret1 Tryz.func40 rfl rfl ⟨_, rfl, rfl, hb⟩
    ·intro K27
     clear hS
     have hj29 := Below.refl w.heap.size w
     rcases Bool.eq_false_or_eq_true ((!(s_0 == ([]))) && (decide ((s_0.length : Int) ≤ 256))) with hg26 | hg26
     ·have hS := iT hz30 hg26
      refine sr_setb 23 rfl hg26 <| sr_go 1 rfl ?_
      obtain ⟨y33, hy34, hS⟩ := bS hS
      refine sr_callg (b := true) (e := 23) rfl rfl rfl (vs := [str s_0]) rfl Tryz.call80 rfl (fold_Trim_ok _ (hg.below hb) hy34) (by decide) ?_
      rintro _ w35 ⟨rfl, hbw36⟩
      replace hb := hb.trans (hbw36.mono hb.size)
      replace hj29 := hj29.trans (hbw36.mono hj29.size)
      replace hA := lt_mono hA hbw36.size
      replace hH := hH.below hbw36
      refine sr_go 1 rfl ?_
      refine sr_eg rfl (ev_seq rfl rfl) ?_
      refine sr_go 1 rfl ?_
      exact sr_wk (K27 (y33 == s_0) _ ⟨(Option.some.inj hS).symm, hj29⟩)
     ·have hS := iF hz30 hg26
      refine sr_setb 23 rfl hg26 <| sr_go 5 rfl ?_
      exact sr_wk (K27 false _ ⟨(Option.some.inj hS).symm, hj29⟩)
   ·intro K20
    rcases Bool.eq_false_or_eq_true (!(s_0 == ([]))) with hg19 | hg19
    ·refine sr_setb 18 rfl hg19 <| sr_go 1 rfl ?_
     refine sr_eg rfl (ev_slen Tryz.underlying9 rfl) ?_
     refine sr_go 2 rfl ?_
     exact sr_wk (K20 (decide ((s_0.length : Int) ≤ 256)) _ ⟨by rw [hg19]; rfl, rfl⟩)
    ·refine sr_setb 18 rfl hg19 <| sr_go 4 rfl ?_
     exact sr_wk (K20 false _ ⟨by rw [hg19]; rfl, rfl⟩)
theorem fold_Clean_ok (w0 : World) (hg : Gs w0) {s_0 : Str} {r : Bool} (hS : fold_Clean s_0 = some r) :
  Calls Tryz.prog 40 #[str s_0] w0 (Ret (fun v w' => v = .bool r ∧ Below w0.heap.size w0 w')) := by
 unfold fold_Clean at hS
 have hb := Below.refl w0.heap.size w0
 obtain ⟨A0, hA0, hAe⟩ : ∃ A0 : Nat → Prop, (∀ b, A0 b → b < w0.heap.size) ∧ A0 = fun _ => False := ⟨_, fun _ h => h.elim, rfl⟩
 clear hAe
 have hA := hA0
 have hi : ∀ b, A0 b → A0 b := fun _ h => h
 have hH := Hp.nil A0 w0.heap.size w0
 refine ck Tryz.func40 [0] rfl rfl ?_
 refine ke_seq <| ke_region <| sr_go 1 rfl <| sr_fin [0] rfl <| ke_seq <| ke_seq <| ke_region <| sr_go 1 rfl ?_
 refine sr_range_s hH hb.size hA Tryz.underlying9 rfl (by decide) ?_
 intro g1 A2 w3 hH1 hst4 hbw5 hinc6 hA1 hge7
 replace hb := hb.trans (hbw5.mono hb.size)
 replace hi := fun b hb => hinc6 b (hi b hb)
 replace hH : Hp A2 w0.heap.size w3 [(g1, .stringIter ⟨s_0.toArray⟩ 0)] := hH1
 replace hA := hA1
 clear hH1 hA1
 refine sr_fin [0, 6] rfl ?_
 refine ke_block ?_
 have hK := fold_Clean_L1_ok hg hA0 _ hS hb hA hi hH
 exact ke_wk (ke_loop hK)
theorem login_Logins_Enroll_ok (w0 : World) (hg : Gs w0) {ρA : Tags} (hbd : ∀ b, ρA b ≠ 0 → b < w0.heap.size) (hz : Gz ρA) {o : Nat} (ho2 : 2 ≤ o) {l_0 : login_Logins} {user_1 : Str} {v_2 : api_Verifier} {code_3 : Str} {gl_0 : Nat} {r : Int × login_Logins} (ho0 : login_Logins.O (fun p => o + p) ρA w0 gl_0 l_0) (hS : login_Logins_Enroll l_0 user_1 v_2 code_3 = some r) :
  Calls Tryz.prog 25 #[pT gl_0 0, str user_1, .agg #[str v_2.Salt, .int .i64 v_2.Rounds, str v_2.Hash], str code_3] w0 (Ret (fun v w' => ∃ ρ', v = .int .i64 r.1 ∧ login_Logins.O (fun p => o + p) ρ' w' gl_0 r.2 ∧ Tr ρA w0 (rng o 7) ρ' w')) := by
 unfold login_Logins_Enroll at hS
 have hb := enter_fr (ρ := ρA) (w := w0) (n := 7) ho2 hbd
 have hz := hz.enter (n := 7) ho2
 obtain ⟨v1, v3, v5, v7, hB9, hP2, h4, h6, h8⟩ := ho0
 replace hB9 := hB9.mv (enter_mv (p := 0) (n := 7) (by decide) ho2)
 replace hP2 := PtrO.mv hP2 secret_Locks.objK (fun p hp => enter_mv (p := 1 + p) (n := 7) (by omega) ho2) (fun p hp => by omega)
 replace h4 := h4.mv (enter_mv (p := 4) (n := 7) (by decide) ho2)
 replace h6 := h6.mv (enter_mv (p := 5) (n := 7) (by decide) ho2)
 replace h8 := h8.mv (enter_mv (p := 6) (n := 7) (by decide) ho2)
 refine ck Tryz.func25 [0, 1, 2, 3] rfl rfl ?_
 refine ke_seq <| ke_region ?_
 refine sr_boxT 8 (by decide) hb.bd rfl (by decide) ?_
 intro g10 ρ11 w12 hB14 t13
 replace hB9 := hB9.m t13
 replace hP2 := hP2.m secret_Locks.objK t13
 replace h4 := h4.m t13
 replace h6 := h6.m t13
 replace h8 := h8.m t13
 replace hb := hb.trans t13
 refine sr_go 1 rfl <| sr_fin [0, 1, 3, 6] rfl <| ke_seq <| ke_seq <| ke_region <| sr_go 1 rfl ?_
 obtain ⟨y15, hy16, hS⟩ := bS hS
 refine sr_cb Tryz.call42 (login_Logins_ready_ok _ (hg.fr hz hb) hb.bd (hz.fr hg hb) (τ0 := (fun p => 100 + p)) (fun p => Nat.le_add_right_of_le (by decide)) (by exact ⟨_, _, _, _, hB9, hP2, h4, h6, h8⟩) hy16) hb.bd ?_
 intro w17 t19
 replace hB14 := hB14.m t19
 replace hB9 := hB9.m t19
 replace hP2 := hP2.m secret_Locks.objK t19
 replace h4 := h4.m t19
 replace h6 := h6.m t19
 replace h8 := h8.m t19
 replace hb := hb.trans t19
 refine sr_go 1 rfl <| sr_fin [0, 1, 3, 6, 13] rfl ?_
 refine ke_cond rfl (fun hc20 => ?_) (fun hc20 => ?_)
 ·replace hS := iT hS hc20
  refine ke_seq <| ke_region <| sr_go 1 rfl <| sr_fin [8] rfl ?_
  cases hS
  exact ke_ret1 Tryz.func25 rfl rfl ⟨_, rfl, _, rfl, ⟨_, _, _, _, (hB9.lv 0 hb), (hP2.lv secret_Locks.objK ho2 hb), (h4.lv 4 hb), (h6.lv 5 hb), (h8.lv 6 hb)⟩, (leave_tr ho2 hb)⟩
 ·replace hS := iF hS hc20
  refine ke_skip <| ke_seq <| ke_region <| sr_go 2 rfl ?_
  refine sr_fa 1 Tryz.underlying69 rfl Tryz.info65 ?_
  refine sr_ld v3 Tryz.isAgg65 rfl (hB9.cell rfl) ?_
  refine sr_go 1 rfl ?_
  obtain ⟨y25, hy26, hS⟩ := bS hS
  replace hy26 := Option.some.inj hy26
  obtain ⟨cs21, hrd22, hl23, hl24⟩ := h4.look (zcs := [str ([]), .int .i64 0, str ([]), str ([])]) (z := (login_credentials.mk (api_Verifier.mk ([]) 0 ([])) ([]))) Tryz.keyB9 Tryz.underlying65 Tryz.zeroValue98 rfl user_1
  rw [hy26] at hrd22
  obtain rfl : cs21 = [str y25.verifier.Salt, .int .i64 y25.verifier.Rounds, str y25.verifier.Hash, str y25.code] := hrd22
  refine sr_e (hl24 w17 _ _ (Mv.of_below (i := 104) (ρ := ρ11) (Below.refl _ _)) rfl rfl) ?_
  refine sr_go 3 rfl ?_
  refine sr_allocT 11 (by decide) hb.bd Tryz.zeroValue98 (by decide) ?_
  intro g27 ρ28 w29 hB31 t30
  replace hb := hb.trans t30
  refine sr_storeT (v := .agg #[str y25.verifier.Salt, .int .i64 y25.verifier.Rounds, str y25.verifier.Hash, str y25.code]) (vs := [str y25.verifier.Salt, .int .i64 y25.verifier.Rounds, str y25.verifier.Hash, str y25.code]) (cs' := #[str y25.verifier.Salt, .int .i64 y25.verifier.Rounds, str y25.verifier.Hash, str y25.code]) hB31 (by decide) hb.bd rfl rfl rfl Tryz.sizeOf98 rfl rfl rfl ?_
  intro w32 hB31 t33
  replace hB14 := (hB14.m t30).m t33
  replace hB9 := (hB9.m t30).m t33
  replace hP2 := (hP2.m secret_Locks.objK t30).m secret_Locks.objK t33
  replace h4 := (h4.m t30).m t33
  replace h6 := (h6.m t30).m t33
  replace h8 := (h8.m t30).m t33
  replace hb := hb.trans t33
  refine sr_go 1 rfl <| sr_fin [0, 1, 3, 6, 10] rfl <| ke_seq ?_
  refine ke_block ?_
  refine ke_seq <| ke_region <| sr_go 1 rfl ?_
  obtain ⟨y34, hy35, hS⟩ := bS hS
  refine sr_cb Tryz.call43 (fold_Word_ok _ (hg.fr hz hb) hy35) hb.bd ?_
  intro w36 t38
  replace hB14 := hB14.m t38
  replace hB9 := hB9.m t38
  replace hP2 := hP2.m secret_Locks.objK t38
  replace h4 := h4.m t38
  replace h6 := h6.m t38
  replace h8 := h8.m t38
  replace hb := hb.trans t38
  refine sr_go 2 rfl <| sr_fin [0, 1, 3, 6, 10, 23] rfl ?_
  refine ke_cond rfl (fun hc39 => ?_) (fun hc39 => ?_)
  ·replace hS := iT hS hc39
   refine ke_seq <| ke_region <| sr_go 1 rfl <| sr_fin [8] rfl ?_
   cases hS
   exact ke_ret1 Tryz.func25 rfl rfl ⟨_, rfl, _, rfl, ⟨_, _, _, _, (hB9.lv 0 hb), (hP2.lv secret_Locks.objK ho2 hb), (h4.lv 4 hb), (h6.lv 5 hb), (h8.lv 6 hb)⟩, (leave_tr ho2 hb)⟩
  ·replace hS := iF hS hc39
   refine ke_seq <| ke_region ?_
   refine sr_e (v := .agg #[str v_2.Salt, .int .i64 v_2.Rounds, str v_2.Hash]) (ev_loads (cs := [str v_2.Salt, .int .i64 v_2.Rounds, str v_2.Hash]) Tryz.isAgg45 Tryz.sizeOf45 rfl (hB14.cells (vs := [str v_2.Salt, .int .i64 v_2.Rounds, str v_2.Hash]) rfl)) ?_
   obtain ⟨y40, hy41, hS⟩ := bS hS
   refine sr_cb Tryz.call56 (secret_Valid_ok _ (hg.fr hz hb) hy41) hb.bd ?_
   intro w42 t44
   replace hB14 := hB14.m t44
   replace hB9 := hB9.m t44
   replace hP2 := hP2.m secret_Locks.objK t44
   replace h4 := h4.m t44
   replace h6 := h6.m t44
   replace h8 := h8.m t44
   replace hb := hb.trans t44
   refine sr_go 2 rfl ?_
   obtain ⟨z47, hz49, hS⟩ := bS hS
   refine sr_join (m := 8) (C := fun (z : Bool) w1 => z47 = z ∧ ∃ ρ1, Tr ρ28 w42 (fun _ => false) ρ1 w1) (l' := fun z => [(0, pT gl_0 0), (1, str user_1), (3, str code_3), (6, pT g10 0), (10, .bool (mhas l_0.users user_1)), (39, .bool z)]) ?_ ?_
   ·rintro _ w50 ⟨rfl, ρ51, hj48⟩
    replace hB14 := hB14.m hj48
    replace hB9 := hB9.m hj48
    replace hP2 := hP2.m secret_Locks.objK hj48
    replace h4 := h4.m hj48
    replace h6 := h6.m hj48
    replace h8 := h8.m hj48
    replace hb := hb.trans hj48
    refine sr_go 1 rfl <| sr_fin [0, 1, 3, 6, 10, 27] rfl ?_
    refine ke_cond rfl (fun hc66 => ?_) (fun hc66 => ?_)
    ·replace hS := iT hS hc66
     refine ke_seq <| ke_region <| sr_go 1 rfl <| sr_fin [8] rfl ?_
     cases hS
     exact ke_ret1 Tryz.func25 rfl rfl ⟨_, rfl, _, rfl, ⟨_, _, _, _, (hB9.lv 0 hb), (hP2.lv secret_Locks.objK ho2 hb), (h4.lv 4 hb), (h6.lv 5 hb), (h8.lv 6 hb)⟩, (leave_tr ho2 hb)⟩
    ·replace hS := iF hS hc66
     refine ke_seq <| ke_region <| sr_go 3 rfl ?_
     refine sr_join (m := 7) (C := fun (x : Bool) w1 => x = ((!(mhas l_0.users user_1)) && (decide ((mlen l_0.users) ≥ 256))) ∧ w50 = w1) (l' := fun x => [(0, pT gl_0 0), (1, str user_1), (3, str code_3), (6, pT g10 0), (50, .bool x)]) ?_ ?_
     ·rintro _ _ ⟨rfl, rfl⟩
      refine sr_go 1 rfl <| sr_fin [0, 1, 3, 6, 40] rfl ?_
      refine ke_cond rfl (fun hc75 => ?_) (fun hc75 => ?_)
      ·replace hS := iT hS hc75
       refine ke_seq <| ke_region <| sr_go 1 rfl <| sr_fin [8] rfl ?_
       cases hS
       exact ke_ret1 Tryz.func25 rfl rfl ⟨_, rfl, _, rfl, ⟨_, _, _, _, (hB9.lv 0 hb), (hP2.lv secret_Locks.objK ho2 hb), (h4.lv 4 hb), (h6.lv 5 hb), (h8.lv 6 hb)⟩, (leave_tr ho2 hb)⟩
      ·replace hS := iF hS hc75
       refine ke_skip <| ke_inBlock <| ke_seq ?_
       refine ke_region_j (ρ := ρ51) (fun t => ([104] : List Nat).contains t) 9 Tryz.mixed (fun w77 hw76 => ?_)
       have t78 := Tr.of_below hw76 hb.bd
       replace hB14 := hB14.m t78
       replace hB9 := hB9.m t78
       replace h4 := h4.m t78
       replace hb := hb.trans t78
       refine dj_v 0 hb.bd rfl rfl ?_
       refine dj_v 1 hb.bd rfl rfl ?_
       refine dj_h 2 (pT gl_0 1) hb.bd rfl (fun w1 ρ1 hw1 => ev_fieldAddr (i := 1) Tryz.underlying69 rfl Tryz.info65 rfl rfl) ?_
       refine dj_h 3 v3 hb.bd rfl (fun w1 ρ1 hw1 => ev_load Tryz.isAgg65 rfl ((hB9.mv (hw1.mv (i := 100) rfl)).cell rfl)) ?_
       refine dj_v 4 hb.bd rfl rfl ?_
       refine dj_h 5 (.agg #[str v_2.Salt, .int .i64 v_2.Rounds, str v_2.Hash]) hb.bd rfl (fun w1 ρ1 hw1 => ev_loads (cs := [str v_2.Salt, .int .i64 v_2.Rounds, str v_2.Hash]) Tryz.isAgg45 Tryz.sizeOf45 rfl ((hB14.mv (hw1.mv (i := 8) rfl)).cells (vs := [str v_2.Salt, .int .i64 v_2.Rounds, str v_2.Hash]) rfl)) ?_
       refine dj_v 6 hb.bd rfl rfl ?_
       refine dj_h 7 (.agg #[str v_2.Salt, .int .i64 v_2.Rounds, str v_2.Hash, str code_3]) hb.bd rfl (fun w1 ρ1 hw1 => ev_build (vs := #[(0, .agg #[str v_2.Salt, .int .i64 v_2.Rounds, str v_2.Hash]), (1, str code_3)]) rfl (fun _ => by kernel_rfl)) ?_
       refine dj_E 8 (by kernel_rfl) rfl ?_
       have jt88 : Tr ρ51 w77 (fun t => ([104] : List Nat).contains t) ρ51 w77 := (Tr.refl hb.bd).weak (fun _ _ => rfl) rfl rfl
       obtain ⟨hk89, hS⟩ := chk_some hS
       refine sr_mapPut (k := user_1) (d := (login_credentials.mk v_2 code_3)) (u := .agg #[str v_2.Salt, .int .i64 v_2.Rounds, str v_2.Hash, str code_3]) (cs := [str v_2.Salt, .int .i64 v_2.Rounds, str v_2.Hash, str code_3]) h4 hk89 Tryz.keyB9 Tryz.underlying65 (by decide) hb.bd rfl rfl rfl rfl rfl ?_
       intro w90 h41 t91
       replace hB9 := hB9.m t91
       replace hP2 := (hP2.m secret_Locks.objK t78).m secret_Locks.objK t91
       replace h6 := (h6.m t78).m t91
       replace h8 := (h8.m t78).m t91
       replace hb := hb.trans t91
       replace jt88 := jt88.tw t91
       replace h4 := h41
       clear h41
       refine dj_nx [] rfl jt88 ?_
       refine dj_done rfl (by kernel_rfl) ?_
       refine ke_fin [] rfl <| ke_seq <| ke_region <| sr_go 1 rfl <| sr_fin [8] rfl ?_
       cases hS
       exact ke_ret1 Tryz.func25 rfl rfl ⟨_, rfl, _, rfl, ⟨_, _, _, _, (hB9.lv 0 hb), (hP2.lv secret_Locks.objK ho2 hb), (h4.lv 4 hb), (h6.lv 5 hb), (h8.lv 6 hb)⟩, (leave_tr ho2 hb)⟩
     ·intro K68
      rcases Bool.eq_false_or_eq_true (!(mhas l_0.users user_1)) with hg67 | hg67
      all_goals try have hj70 : Tr ρ51 w50 (fun _ => false) ρ51 w50 := Tr.refl hb.bd
      ·refine sr_setb 43 rfl hg67 <| sr_go 2 rfl ?_
       refine sr_eg rfl (ev_fieldAddr (i := 1) Tryz.underlying69 rfl Tryz.info65 rfl rfl) ?_
       refine sr_eg rfl (ev_load Tryz.isAgg65 rfl (hB9.cell rfl)) ?_
       refine sr_eg rfl (ev_mapLen h4 Tryz.underlying65 (Mv.of_below (i := 104) (ρ := ρ51) (Below.refl _ _)) rfl) ?_
       refine sr_go 2 rfl ?_
       exact sr_wk (K68 (decide ((mlen l_0.users) ≥ 256)) _ ⟨by first | (rw [hg67]; rfl) | rfl, rfl⟩)
      ·refine sr_setb 43 rfl hg67 <| sr_go 7 rfl ?_
       exact sr_wk (K68 false _ ⟨by first | (rw [hg67]; rfl) | rfl, rfl⟩)
   ·intro K46
    clear hS
    have hj48 : Tr ρ28 w42 (fun _ => false) ρ28 w42 := (Tr.refl hb.bd).weak (fun _ _ => rfl) rfl rfl
    rcases Bool.eq_false_or_eq_true (!y40) with hg45 | hg45
    ·have hS := iT hz49 hg45
     refine sr_setb 31 rfl hg45 <| sr_go 8 rfl ?_
     exact sr_wk (K46 true _ ⟨(Option.some.inj hS).symm, _, hj48⟩)
    ·have hS := iF hz49 hg45
     refine sr_setb 31 rfl hg45 <| sr_go 1 rfl ?_
     refine sr_eg rfl (ev_sne rfl rfl) ?_
     refine sr_go 1 rfl ?_
     obtain ⟨z55, hz57, hS⟩ := bS hS
     refine sr_join (m := 4) (C := fun (z : Bool) w1 => z55 = z ∧ ∃ ρ1, Tr ρ28 w42 (fun _ => false) ρ1 w1) (l' := fun z => [(0, pT gl_0 0), (1, str user_1), (3, str code_3), (6, pT g10 0), (10, .bool (mhas l_0.users user_1)), (31, .bool (!y40)), (38, .bool z)]) ?_ ?_
     ·rintro _ w58 ⟨rfl, ρ59, hj56⟩
      replace hb := hb.trans hj56
      replace hj48 := hj48.tw hj56
      refine sr_e (ev_pick_f rfl hg45 rfl) ?_
      exact sr_wk (K46 z55 _ ⟨(Option.some.inj hS).symm, _, hj48⟩)
     ·intro K54
      clear hS
      have hj56 : Tr ρ28 w42 (fun _ => false) ρ28 w42 := (Tr.refl hb.bd).weak (fun _ _ => rfl) rfl rfl
      rcases Bool.eq_false_or_eq_true (!(code_3 == ([]))) with hg53 | hg53
      ·have hS := iT hz57 hg53
       refine sr_setb 34 rfl hg53 <| sr_go 1 rfl ?_
       obtain ⟨y61, hy62, hS⟩ := bS hS
       refine sr_callg (b := true) (e := 34) rfl rfl rfl (vs := [str code_3]) rfl Tryz.call40 rfl (fold_Clean_ok _ (hg.fr hz hb) hy62) (by decide) ?_
       rintro _ w63 ⟨rfl, hbw64⟩
       have t65 := Tr.of_below hbw64 hb.bd
       replace hb := hb.trans t65
       replace hj48 := hj48.tw t65
       replace hj56 := hj56.tw t65
       refine sr_go 2 rfl ?_
       refine sr_unb 31 rfl hg45 ?_
       exact sr_wk (K54 (!y61) _ ⟨(Option.some.inj hS).symm, _, hj56⟩)
      ·have hS := iF hz57 hg53
       refine sr_setb 34 rfl hg53 <| sr_go 4 rfl ?_
       refine sr_unb 31 rfl hg45 ?_
       exact sr_wk (K54 false _ ⟨(Option.some.inj hS).symm, _, hj56⟩)
theorem law39_ann_ok (w0 : World) (hg : Gs w0) {ρA : Tags} (hbd : ∀ b, ρA b ≠ 0 → b < w0.heap.size) (hz : Gz ρA) {o : Nat} (ho2 : 2 ≤ o) {most_0 : Int} {r : Option login_Logins} (hS : law39_ann most_0 = some r) :
  Calls Tryz.prog 11 #[.int .i64 most_0] w0 (Ret (fun v w' => ∃ ρ' zr0, v = zr0 ∧ PtrO login_Logins.O (fun p => o + p) ρ' w' zr0 r ∧ Tr ρA w0 (rng o 7) ρ' w')) := by
 unfold law39_ann at hS
 have hb := enter_fr (ρ := ρA) (w := w0) (n := 7) ho2 hbd
 have hz := hz.enter (n := 7) ho2
 refine ck Tryz.func11 [0] rfl rfl ?_
 refine ke_seq <| ke_region <| sr_go 1 rfl <| sr_fin [0] rfl <| ke_seq <| ke_region <| sr_go 1 rfl ?_
 obtain ⟨y1, hy2, hS⟩ := bS hS
 refine sr_cl Tryz.call23 (login_New_ok _ (hg.fr hz hb) hb.bd (hz.fr hg hb) (o := 200) (by decide) hy2) ?_
 rintro _ w3 ⟨ρ8, v6, rfl, hP7, t5⟩
 replace hb := hb.trans t5
 rcases ho10 : y1.1 with _ | z9
 ·replace hS := optC_none hS ho10
  obtain rfl := hP7.none_ ho10
  refine sr_go 5 rfl <| sr_fin [3, 4] rfl <| ke_seq <| ke_region ?_
  obtain ⟨y83, hy84, hS⟩ := bS hS
  refine sr_cb Tryz.call20 (secret_Make_ok _ (hg.fr hz hb) hy84) hb.bd ?_
  intro w85 t87
  replace hb := hb.trans t87
  refine sr_go 3 rfl ?_
  refine sr_allocT 7 (by decide) hb.bd Tryz.zeroValue45 (by decide) ?_
  intro g88 ρ89 w90 hB92 t91
  replace hb := hb.trans t91
  refine sr_storeT (v := .agg #[str y83.1.Salt, .int .i64 y83.1.Rounds, str y83.1.Hash]) (vs := [str y83.1.Salt, .int .i64 y83.1.Rounds, str y83.1.Hash]) (cs' := #[str y83.1.Salt, .int .i64 y83.1.Rounds, str y83.1.Hash]) hB92 (by decide) hb.bd rfl rfl rfl Tryz.sizeOf45 rfl rfl rfl ?_
  intro w93 hB92 t94
  replace hb := hb.trans t94
  refine sr_go 1 rfl <| sr_fin [3, 4, 5, 6] rfl <| ke_seq <| ke_seq <| ke_region <| sr_go 3 rfl ?_
  refine sr_join (m := 3) (C := fun (x : Bool) w1 => x = ((y1.2 != 0) || (y83.2 != 0)) ∧ w93 = w1) (l' := fun x => [(3, .pointer none), (5, pT g88 0), (21, .bool x)]) ?_ ?_
  ·rintro _ _ ⟨rfl, rfl⟩
   refine sr_go 1 rfl ?_
   refine sr_join (m := 3) (C := fun (x : Bool) w1 => x = (true) ∧ w93 = w1) (l' := fun x => [(3, .pointer none), (5, pT g88 0), (25, .bool x)]) ?_ ?_
   ·rintro _ _ ⟨rfl, rfl⟩
    refine sr_go 1 rfl ?_
    refine sr_pass (e := 26) rfl rfl rfl (by decide) ?_
    refine sr_pass (e := 26) rfl rfl rfl (by decide) ?_
    refine sr_pass (e := 26) rfl rfl rfl (by decide) ?_
    refine sr_pass (e := 26) rfl rfl rfl (by decide) ?_
    refine sr_go 1 rfl <| sr_fin [3, 31] rfl ?_
    refine ke_cond rfl (fun _ => ?_) (fun h => by cases h)
    refine ke_seq <| ke_region <| sr_go 1 rfl <| sr_fin [2] rfl ?_
    cases hS
    exact ke_ret1 Tryz.func11 rfl rfl ⟨_, rfl, _, _, rfl, PtrO.nil, (leave_tr ho2 hb)⟩
   ·intro K104
    rcases Bool.eq_false_or_eq_true ((y1.2 != 0) || (y83.2 != 0)) with hg103 | hg103
    all_goals try have hj106 : Tr ρ89 w93 (fun _ => false) ρ89 w93 := Tr.refl hb.bd
    ·refine sr_setb 22 rfl hg103 <| sr_go 3 rfl ?_
     exact sr_wk (K104 true _ ⟨by first | (rw [hg103]; rfl) | rfl, rfl⟩)
    ·refine sr_setb 22 rfl hg103 <| sr_go 1 rfl ?_
     refine sr_eg rfl (ev_peqT_nil Tryz.underlying25 rfl rfl) ?_
     refine sr_go 1 rfl ?_
     exact sr_wk (K104 true _ ⟨by first | (rw [hg103]; rfl) | rfl, rfl⟩)
  ·intro K96
   rcases Bool.eq_false_or_eq_true (y1.2 != 0) with hg95 | hg95
   all_goals try have hj98 : Tr ρ89 w93 (fun _ => false) ρ89 w93 := Tr.refl hb.bd
   ·refine sr_setb 18 rfl hg95 <| sr_go 3 rfl ?_
    exact sr_wk (K96 true _ ⟨by first | (rw [hg95]; rfl) | rfl, rfl⟩)
   ·refine sr_setb 18 rfl hg95 <| sr_go 3 rfl ?_
    exact sr_wk (K96 (y83.2 != 0) _ ⟨by first | (rw [hg95]; rfl) | rfl, rfl⟩)
 ·replace hS := optC_some hS ho10
  obtain ⟨g11, rfl, ⟨v12, v14, v16, v18, hB20, hP13, h15, h17, h19⟩⟩ := hP7.some_ ho10
  refine sr_go 5 rfl <| sr_fin [3, 4] rfl <| ke_seq <| ke_region ?_
  obtain ⟨y21, hy22, hS⟩ := bS hS
  refine sr_cb Tryz.call20 (secret_Make_ok _ (hg.fr hz hb) hy22) hb.bd ?_
  intro w23 t25
  replace hb := hb.trans t25
  refine sr_go 3 rfl ?_
  refine sr_allocT 7 (by decide) hb.bd Tryz.zeroValue45 (by decide) ?_
  intro g26 ρ27 w28 hB30 t29
  replace hB20 := (hB20.m t25).m t29
  replace hP13 := (hP13.m secret_Locks.objK t25).m secret_Locks.objK t29
  replace h15 := (h15.m t25).m t29
  replace h17 := (h17.m t25).m t29
  replace h19 := (h19.m t25).m t29
  replace hb := hb.trans t29
  refine sr_storeT (v := .agg #[str y21.1.Salt, .int .i64 y21.1.Rounds, str y21.1.Hash]) (vs := [str y21.1.Salt, .int .i64 y21.1.Rounds, str y21.1.Hash]) (cs' := #[str y21.1.Salt, .int .i64 y21.1.Rounds, str y21.1.Hash]) hB30 (by decide) hb.bd rfl rfl rfl Tryz.sizeOf45 rfl rfl rfl ?_
  intro w31 hB30 t32
  replace hB20 := hB20.m t32
  replace hP13 := hP13.m secret_Locks.objK t32
  replace h15 := h15.m t32
  replace h17 := h17.m t32
  replace h19 := h19.m t32
  replace hb := hb.trans t32
  refine sr_go 1 rfl <| sr_fin [3, 4, 5, 6] rfl <| ke_seq <| ke_seq <| ke_region <| sr_go 3 rfl ?_
  refine sr_join (m := 3) (C := fun (x : Bool) w1 => x = ((y1.2 != 0) || (y21.2 != 0)) ∧ w31 = w1) (l' := fun x => [(3, pT g11 0), (5, pT g26 0), (21, .bool x)]) ?_ ?_
  ·rintro _ _ ⟨rfl, rfl⟩
   refine sr_go 1 rfl ?_
   refine sr_join (m := 3) (C := fun (x : Bool) w1 => x = (((y1.2 != 0) || (y21.2 != 0)) || false) ∧ w31 = w1) (l' := fun x => [(3, pT g11 0), (5, pT g26 0), (25, .bool x)]) ?_ ?_
   ·rintro _ _ ⟨rfl, rfl⟩
    refine sr_go 1 rfl ?_
    obtain ⟨z51, hz53, hS⟩ := bS hS
    refine sr_join (m := 5) (C := fun (z : Bool × login_Logins) w1 => z51 = z ∧ ∃ ρ1, login_Logins.O (fun p => 200 + p) ρ1 w1 g11 z.2 ∧ Tr ρ27 w31 (fun t => ([200, 201, 202, 203, 204, 205, 206] : List Nat).contains t) ρ1 w1) (l' := fun z => [(3, pT g11 0), (31, .bool z.1)]) ?_ ?_
    ·rintro _ w54 ⟨rfl, ρ55, ⟨v72, v74, v76, v78, hB80, hP73, h75, h77, h79⟩, hj52⟩
     replace hb := hb.trans hj52
     refine sr_fin [3, 31] rfl ?_
     refine ke_cond rfl (fun hc81 => ?_) (fun hc81 => ?_)
     ·replace hS := iT hS hc81
      refine ke_seq <| ke_region <| sr_go 1 rfl <| sr_fin [2] rfl ?_
      cases hS
      exact ke_ret1 Tryz.func11 rfl rfl ⟨_, rfl, _, _, rfl, PtrO.nil, (leave_tr ho2 hb)⟩
     ·replace hS := iF hS hc81
      refine ke_skip <| ke_seq <| ke_region <| sr_go 2 rfl <| sr_fin [2] rfl ?_
      have t82 := rtgR_tr (ρ := ρ55) (w := w54) (a := 200) (N := 7) 100 (by decide) hb.bd
      replace hb := hb.trans t82
      replace hB80 := hB80.mv (rtgR_mv (ρ := ρ55) (w := w54) (a := 200) (b := 100) (N := 7) (p := 0) (by decide) (by decide))
      replace hP73 := PtrO.mv hP73 secret_Locks.objK (fun p hp => (rtgR_mv (ρ := ρ55) (w := w54) (a := 200) (b := 100) (N := 7) (p := 1 + p) (by decide) (by omega))) (fun p hp => by omega)
      replace h75 := h75.mv (rtgR_mv (ρ := ρ55) (w := w54) (a := 200) (b := 100) (N := 7) (p := 4) (by decide) (by decide))
      replace h77 := h77.mv (rtgR_mv (ρ := ρ55) (w := w54) (a := 200) (b := 100) (N := 7) (p := 5) (by decide) (by decide))
      replace h79 := h79.mv (rtgR_mv (ρ := ρ55) (w := w54) (a := 200) (b := 100) (N := 7) (p := 6) (by decide) (by decide))
      cases hS
      exact ke_ret1 Tryz.func11 rfl rfl ⟨_, rfl, _, _, rfl, (PtrO.mk ⟨_, _, _, _, (hB80.lv 0 hb), (hP73.lv secret_Locks.objK ho2 hb), (h75.lv 4 hb), (h77.lv 5 hb), (h79.lv 6 hb)⟩), (leave_tr ho2 hb)⟩
    ·intro K50
     clear hS
     have hj52 : Tr ρ27 w31 (fun t => ([200, 201, 202, 203, 204, 205, 206] : List Nat).contains t) ρ27 w31 := (Tr.refl hb.bd).weak (fun _ _ => rfl) rfl rfl
     rcases Bool.eq_false_or_eq_true (((y1.2 != 0) || (y21.2 != 0)) || false) with hg49 | hg49
     ·have hS := iT hz53 hg49
      refine sr_setb 26 rfl hg49 <| sr_go 5 rfl ?_
      exact sr_wk (K50 (true, z9) _ ⟨(Option.some.inj hS).symm, _, ⟨_, _, _, _, hB20, hP13, h15, h17, h19⟩, hj52⟩)
     ·have hS := iF hz53 hg49
      refine sr_setb 26 rfl hg49 <| sr_go 1 rfl ?_
      refine sr_eg rfl (v := .agg #[str y21.1.Salt, .int .i64 y21.1.Rounds, str y21.1.Hash]) (ev_loads (cs := [str y21.1.Salt, .int .i64 y21.1.Rounds, str y21.1.Hash]) Tryz.isAgg45 Tryz.sizeOf45 rfl (hB30.cells (vs := [str y21.1.Salt, .int .i64 y21.1.Rounds, str y21.1.Hash]) rfl)) ?_
      obtain ⟨y57, hy58, hS⟩ := bS hS
      refine sr_callg (b := false) (e := 26) rfl rfl rfl (vs := [pT g11 0, str ([97, 110, 110]), .agg #[str y21.1.Salt, .int .i64 y21.1.Rounds, str y21.1.Hash], str ([115, 101, 101, 100])]) rfl Tryz.call25 rfl (login_Logins_Enroll_ok _ (hg.fr hz hb) (ρA := ρ27) hb.bd (hz.fr hg hb) (o := 200) (by decide) (⟨_, _, _, _, hB20, hP13, h15, h17, h19⟩ : login_Logins.O (fun p => 200 + p) ρ27 w31 g11 z9) hy58) (by decide) ?_
      rintro _ w59 ⟨ρ71, rfl, ⟨v62, v64, v66, v68, hB70, hP63, h65, h67, h69⟩, t61⟩
      replace hb := hb.trans t61
      replace hj52 := hj52.tw t61
      refine sr_go 2 rfl ?_
      exact sr_wk (K50 (y57.1 != 0, y57.2) _ ⟨(Option.some.inj hS).symm, _, ⟨_, _, _, _, hB70, hP63, h65, h67, h69⟩, hj52⟩)
   ·intro K42
    rcases Bool.eq_false_or_eq_true ((y1.2 != 0) || (y21.2 != 0)) with hg41 | hg41
    all_goals try have hj44 : Tr ρ27 w31 (fun _ => false) ρ27 w31 := Tr.refl hb.bd
    ·refine sr_setb 22 rfl hg41 <| sr_go 3 rfl ?_
     exact sr_wk (K42 true _ ⟨by first | (rw [hg41]; rfl) | rfl, rfl⟩)
    ·refine sr_setb 22 rfl hg41 <| sr_go 1 rfl ?_
     refine sr_eg rfl (ev_peqT_some Tryz.underlying25 rfl rfl) ?_
     refine sr_go 1 rfl ?_
     exact sr_wk (K42 false _ ⟨by first | (rw [hg41]; rfl) | rfl, rfl⟩)
  ·intro K34
   rcases Bool.eq_false_or_eq_true (y1.2 != 0) with hg33 | hg33
   all_goals try have hj36 : Tr ρ27 w31 (fun _ => false) ρ27 w31 := Tr.refl hb.bd
   ·refine sr_setb 18 rfl hg33 <| sr_go 3 rfl ?_
    exact sr_wk (K34 true _ ⟨by first | (rw [hg33]; rfl) | rfl, rfl⟩)
   ·refine sr_setb 18 rfl hg33 <| sr_go 3 rfl ?_
    exact sr_wk (K34 (y21.2 != 0) _ ⟨by first | (rw [hg33]; rfl) | rfl, rfl⟩)
theorem clock_Sub_ok (w0 : World) (hg : Gs w0) {a_0 : Int} {b_1 : Int} {r : Int} (hS : clock_Sub a_0 b_1 = some r) :
  Calls Tryz.prog 88 #[.int .i64 a_0, .int .i64 b_1] w0 (Ret (fun v w' => v = .int .i64 r ∧ Below w0.heap.size w0 w')) := by
 unfold clock_Sub at hS
 have hb := Below.refl w0.heap.size w0
 refine ck Tryz.func88 [0, 1] rfl rfl ?_
 refine ke_seq <| ke_region <| sr_go 1 rfl <| sr_fin [0, 1] rfl <| ke_seq <| ke_region <| sr_go 1 rfl ?_
 obtain ⟨y1, hy2, hS⟩ := bS hS
 refine sr_cl Tryz.call79 (clock_limited_ok _ (hg.below hb) hy2) ?_
 rintro _ w3 ⟨rfl, hbw4⟩
 replace hb := hb.trans (hbw4.mono hb.size)
 refine sr_go 1 rfl ?_
 obtain ⟨y5, hy6, hS⟩ := bS hS
 refine sr_cl Tryz.call79 (clock_limited_ok _ (hg.below hb) hy6) ?_
 rintro _ w7 ⟨rfl, hbw8⟩
 replace hb := hb.trans (hbw8.mono hb.size)
 refine sr_go 2 rfl <| sr_fin [4] rfl ?_
 cases hS
 exact ke_ret1 Tryz.func88 rfl rfl ⟨_, rfl, rfl, hb⟩
theorem login_attempt_expired_ok (w0 : World) (hg : Gs w0) {ρA : Tags} (hbd : ∀ b, ρA b ≠ 0 → b < w0.heap.size) (hz : Gz ρA) {a_0 : login_attempt} {now_1 : Int} {v1 : Value} {r : Bool} (h2 : SlR api_Proof.c (Wb ρA) w0 v1 a_0.proofs) (hS : login_attempt_expired a_0 now_1 = some r) :
  Calls Tryz.prog 44 #[.agg #[str a_0.user, .int .i64 a_0.begun, v1], .int .i64 now_1] w0 (Ret (fun v w' => v = .bool r ∧ Below w0.heap.size w0 w')) := by
 unfold login_attempt_expired at hS
 have hb := flat1_fr (ρ := ρA) (w := w0) hbd
 have hz := hz.flat1
 replace h2 := SlR.mv h2 flat1_rd
 refine ck Tryz.func44 [0, 1] rfl rfl ?_
 refine ke_seq <| ke_region ?_
 refine sr_boxT 4 (by decide) hb.bd rfl (by decide) ?_
 intro g3 ρ4 w5 hB7 t6
 replace hb := hb.trans t6
 refine sr_go 1 rfl <| sr_fin [1, 2] rfl <| ke_seq <| ke_region <| sr_go 1 rfl ?_
 refine sr_fa 1 Tryz.underlying74 rfl Tryz.info3 ?_
 refine sr_ld (.int .i64 a_0.begun) Tryz.isAgg3 rfl (hB7.cell rfl) ?_
 obtain ⟨y8, hy9, hS⟩ := bS hS
 refine sr_cb Tryz.call88 (clock_Sub_ok _ (hg.fr hz hb) hy9) hb.bd ?_
 intro w10 t12
 replace hb := hb.trans t12
 refine sr_go 2 rfl <| sr_fin [4] rfl ?_
 cases hS
 exact ke_ret1 Tryz.func44 rfl rfl ⟨_, rfl, rfl, (hb.below (flat1_le _))⟩
theorem login_Logins_Open_B2_ok {w0 : World} (hg : Gs w0) {ρA : Tags} (hbd : ∀ b, ρA b ≠ 0 → b < w0.heap.size) (hz : Gz (flat1 ρA)) (r0 : Int → Int → List Str → login_Logins → Option (Int))
  (hr0 : ∀ {r : Int} {now_1 : Int} {n_5 : Int} {t_15 : List Str} {ogl_0m : login_Logins} {rt_15 : Nat} {gl_0 : Nat} {v21 : Value} {v23 : Value} {v25 : Value} {v27 : Value}, r0 now_1 n_5 t_15 ogl_0m = some r → ∀ {ρ : Tags} {w : World}, (Fr (flat1 ρA) w0 ρ w) → (IterT str login_attempt.c true ρ 1 17 w rt_15 v27 ogl_0m.attempts t_15) → (Blk ρ 1 w gl_0 (.cells #[v21, v23, v25, v27] 69 (0, 0))) → (PtrO secret_Locks.O (fun _ => 1) ρ w v21 ogl_0m.locks) → (MapT str login_credentials.c true ρ 1 w v23 ogl_0m.users) → (MapT str (intC .i64) false ρ 1 w v25 ogl_0m.counters) → (MapT str login_attempt.c true ρ 1 w v27 ogl_0m.attempts) → KE Tryz.prog 37 (Ret (fun v w' => v = .int .i64 r ∧ Below w0.heap.size w0 w')) 27 [.inLoop (sub (bodyOf Tryz.f37) [2, 2, 2, 1, 2, 2, 1]), .inBlock 0, .code (sub (bodyOf Tryz.f37) [2, 2, 2, 2])] [(1, .int .i64 now_1), (5, .int .i64 n_5), (15, pT rt_15 0)] w) {r : Int} {now_1 : Int} {n_5 : Int} {t_15 : List Str} {ogl_0m : login_Logins} {rt_15 : Nat} {gl_0 : Nat} {v51 : Value} {v53 : Value} {v55 : Value} {v57 : Value} (hS : login_Logins_Open_B2 r0 now_1 n_5 t_15 ogl_0m = some r) {ρ : Tags} {w : World} (hb : Fr (flat1 ρA) w0 ρ w) (ht_15 : IterT str login_attempt.c true ρ 1 17 w rt_15 v57 ogl_0m.attempts t_15) (hBgl_0m : Blk ρ 1 w gl_0 (.cells #[v51, v53, v55, v57] 69 (0, 0))) (hP52 : PtrO secret_Locks.O (fun _ => 1) ρ w v51 ogl_0m.locks) (h54 : MapT str login_credentials.c true ρ 1 w v53 ogl_0m.users) (h56 : MapT str (intC .i64) false ρ 1 w v55 ogl_0m.counters) (h58 : MapT str login_attempt.c true ρ 1 w v57 ogl_0m.attempts) :
  KE Tryz.prog 37 (Ret (fun v w' => v = .int .i64 r ∧ Below w0.heap.size w0 w')) 27 [.inBlock 1, .inLoop (sub (bodyOf Tryz.f37) [2, 2, 2, 1, 2, 2, 1]), .inBlock 0, .code (sub (bodyOf Tryz.f37) [2, 2, 2, 2])] [(1, .int .i64 now_1), (5, .int .i64 n_5), (15, pT rt_15 0)] w := by
 unfold login_Logins_Open_B2 at hS
 refine ke_inBlock ?_
 have hK := hr0 hS hb ht_15 hBgl_0m hP52 h54 h56 h58
 exact ke_wk hK
theorem login_Logins_Open_L1_ok {w0 : World} (hg : Gs w0) {ρA : Tags} (hbd : ∀ b, ρA b ≠ 0 → b < w0.heap.size) (hz : Gz (flat1 ρA)) : ∀ (n : Nat), ∀ {r : Int} {now_1 : Int} {n_5 : Int} {t_15 : List Str} {ogl_0m : login_Logins} {rt_15 : Nat} {gl_0 : Nat} {v21 : Value} {v23 : Value} {v25 : Value} {v27 : Value}, login_Logins_Open_L1 n now_1 n_5 t_15 ogl_0m = some r → ∀ {ρ : Tags} {w : World}, (Fr (flat1 ρA) w0 ρ w) → (IterT str login_attempt.c true ρ 1 17 w rt_15 v27 ogl_0m.attempts t_15) → (Blk ρ 1 w gl_0 (.cells #[v21, v23, v25, v27] 69 (0, 0))) → (PtrO secret_Locks.O (fun _ => 1) ρ w v21 ogl_0m.locks) → (MapT str login_credentials.c true ρ 1 w v23 ogl_0m.users) → (MapT str (intC .i64) false ρ 1 w v25 ogl_0m.counters) → (MapT str login_attempt.c true ρ 1 w v27 ogl_0m.attempts) → KE Tryz.prog 37 (Ret (fun v w' => v = .int .i64 r ∧ Below w0.heap.size w0 w')) 27 [.code (sub (bodyOf Tryz.f37) [2, 2, 2, 1, 2, 2, 1]), .inLoop (sub (bodyOf Tryz.f37) [2, 2, 2, 1, 2, 2, 1]), .inBlock 0, .code (sub (bodyOf Tryz.f37) [2, 2, 2, 2])] [(1, .int .i64 now_1), (5, .int .i64 n_5), (15, pT rt_15 0)] w := by
 intro n
 induction n with
 | zero => intro r now_1 n_5 t_15 ogl_0m rt_15 gl_0 v21 v23 v25 v27 hS; cases hS
 | succ n ih =>
  have hr0 : ∀ {r : Int} {now_1 : Int} {n_5 : Int} {t_15 : List Str} {ogl_0m : login_Logins} {rt_15 : Nat} {gl_0 : Nat} {v21 : Value} {v23 : Value} {v25 : Value} {v27 : Value}, login_Logins_Open_L1 n now_1 n_5 t_15 ogl_0m = some r → ∀ {ρ : Tags} {w : World}, (Fr (flat1 ρA) w0 ρ w) → (IterT str login_attempt.c true ρ 1 17 w rt_15 v27 ogl_0m.attempts t_15) → (Blk ρ 1 w gl_0 (.cells #[v21, v23, v25, v27] 69 (0, 0))) → (PtrO secret_Locks.O (fun _ => 1) ρ w v21 ogl_0m.locks) → (MapT str login_credentials.c true ρ 1 w v23 ogl_0m.users) → (MapT str (intC .i64) false ρ 1 w v25 ogl_0m.counters) → (MapT str login_attempt.c true ρ 1 w v27 ogl_0m.attempts) → KE Tryz.prog 37 (Ret (fun v w' => v = .int .i64 r ∧ Below w0.heap.size w0 w')) 27 [.inLoop (sub (bodyOf Tryz.f37) [2, 2, 2, 1, 2, 2, 1]), .inBlock 0, .code (sub (bodyOf Tryz.f37) [2, 2, 2, 2])] [(1, .int .i64 now_1), (5, .int .i64 n_5), (15, pT rt_15 0)] w := fun {r} {now_1} {n_5} {t_15} {ogl_0m} {rt_15} {gl_0} {v21} {v23} {v25} {v27} hS {ρ} {w} hb ht_15 hBgl_0m hP22 h24 h26 h28 => ke_inLoop (ih hS hb ht_15 hBgl_0m hP22 h24 h26 h28)
  clear ih
  intro r now_1 n_5 t_15 ogl_0m rt_15 gl_0 v21 v23 v25 v27 hS ρ w hb ht_15 hBgl_0m hP22 h24 h26 h28
  unfold login_Logins_Open_L1 at hS
  refine ke_seq <| ke_region ?_
  refine sr_nextM ht_15 rfl (by decide) hb.bd hS rfl (by decide) (fun hS => ?_) (fun e30 cs31 w32 hS hrd34 ht_151 t33 hent35 => ?_)
  ·refine sr_go 1 rfl <| sr_fin [1, 5, 15, 17] rfl <| ke_seq ?_
   refine ke_cond rfl (fun h => by cases h) (fun _ => ?_)
   refine ke_exit (k' := _) rfl ?_
   refine ke_seq <| ke_region <| sr_go 2 rfl <| sr_fin [4] rfl ?_
   cases hS
   exact ke_ret1 Tryz.func37 rfl rfl ⟨_, rfl, rfl, (hb.below (flat1_le _))⟩
  ·skip
   replace hb := hb.trans t33
   replace ht_15 := ht_151
   clear ht_151
   obtain ⟨v36, hcshrd34, h37⟩ := hrd34
   obtain rfl : cs31 = [str e30.2.user, .int .i64 e30.2.begun, v36] := hcshrd34
   refine sr_go 1 rfl <| sr_fin [1, 5, 15, 17] rfl <| ke_seq ?_
   refine ke_cond rfl (fun _ => ?_) (fun h => by cases h)
   refine ke_skip ?_
   refine ke_block ?_
   refine ke_seq <| ke_region ?_
   refine sr_e (hent35 rfl) ?_
   refine sr_go 1 rfl ?_
   refine sr_allocT 9 (by decide) hb.bd Tryz.zeroValue74 (by decide) ?_
   intro g38 ρ39 w40 hB42 t41
   replace ht_15 := ht_15.mv (t41.mv (i := 1) rfl) (t41.mv (i := 17) rfl)
   replace h28 := (h28.m t33).m t41
   replace h37 := h37.mv t41.rd
   replace hBgl_0m := (hBgl_0m.m t33).m t41
   replace hP22 := (hP22.m secret_Locks.objK t33).m secret_Locks.objK t41
   replace h24 := (h24.m t33).m t41
   replace h26 := (h26.m t33).m t41
   replace hb := hb.trans t41
   refine sr_storeT (v := .agg #[str e30.2.user, .int .i64 e30.2.begun, v36]) (vs := [str e30.2.user, .int .i64 e30.2.begun, v36]) (cs' := #[str e30.2.user, .int .i64 e30.2.begun, v36]) hB42 (by decide) hb.bd rfl rfl rfl Tryz.sizeOf74 rfl (by first | rfl | (simp only [List.all_cons, List.all_nil, SlR.oneCell h37]; done) | (simp only [List.all_cons, List.all_nil, SlR.oneCell h37]; rfl)) rfl ?_
   intro w43 hB42 t44
   replace ht_15 := ht_15.mv (t44.mv (i := 1) rfl) (t44.mv (i := 17) rfl)
   replace h37 := h37.mv t44.rd
   replace hb := hb.trans t44
   refine sr_fin [1, 5, 7, 15] rfl <| ke_seq <| ke_region ?_
   refine sr_e (v := .agg #[str e30.2.user, .int .i64 e30.2.begun, v36]) (ev_loads (cs := [str e30.2.user, .int .i64 e30.2.begun, v36]) Tryz.isAgg74 Tryz.sizeOf74 rfl (hB42.cells (vs := [str e30.2.user, .int .i64 e30.2.begun, v36]) rfl)) ?_
   refine sr_go 1 rfl ?_
   obtain ⟨y45, hy46, hS⟩ := bS hS
   refine sr_cb Tryz.call44 (login_attempt_expired_ok _ (hg.fr hz hb) hb.bd (hz.fr hg hb) h37 hy46) hb.bd ?_
   intro w47 t49
   replace ht_15 := ht_15.mv (t49.mv (i := 1) rfl) (t49.mv (i := 17) rfl)
   replace h28 := (h28.m t44).m t49
   replace hBgl_0m := (hBgl_0m.m t44).m t49
   replace hP22 := (hP22.m secret_Locks.objK t44).m secret_Locks.objK t49
   replace h24 := (h24.m t44).m t49
   replace h26 := (h26.m t44).m t49
   replace hb := hb.trans t49
   refine sr_go 1 rfl <| sr_fin [1, 5, 15, 23] rfl ?_
   refine ke_cond rfl (fun hc50 => ?_) (fun hc50 => ?_)
   ·replace hS := iT hS hc50
    refine ke_region <| sr_go 3 rfl <| sr_fin [1, 5, 15] rfl ?_
    have hK := login_Logins_Open_B2_ok hg hbd hz _ hr0 hS hb ht_15 hBgl_0m hP22 h24 h26 h28
    exact ke_wk hK
   ·replace hS := iF hS hc50
    refine ke_skip ?_
    have hK := login_Logins_Open_B2_ok hg hbd hz _ hr0 hS hb ht_15 hBgl_0m hP22 h24 h26 h28
    exact ke_wk hK
theorem login_Logins_Open_ok (w0 : World) (hg : Gs w0) {ρA : Tags} (hbd : ∀ b, ρA b ≠ 0 → b < w0.heap.size) (hz : Gz ρA) {τ0 : Nat → Nat} (hτ0 : ∀ p, 1 ≤ τ0 p) {l_0 : login_Logins} {now_1 : Int} {gl_0 : Nat} {r : Int} (ho0 : login_Logins.O τ0 ρA w0 gl_0 l_0) (hS : login_Logins_Open l_0 now_1 = some r) :
  Calls Tryz.prog 37 #[pT gl_0 0, .int .i64 now_1] w0 (Ret (fun v w' => v = .int .i64 r ∧ Below w0.heap.size w0 w')) := by
 unfold login_Logins_Open at hS
 have hb := flat1_fr (ρ := ρA) (w := w0) hbd
 have hz := hz.flat1
 obtain ⟨v1, v3, v5, v7, hB9, hP2, h4, h6, h8⟩ := ho0
 replace hB9 := hB9.mv (flat1_mv (hτ0 0))
 replace hP2 := PtrO.mv hP2 secret_Locks.objK (fun p hp => flat1_mv (hτ0 (1 + p))) (fun _ _ => by decide)
 replace h4 := h4.mv (flat1_mv (hτ0 4))
 replace h6 := h6.mv (flat1_mv (hτ0 5))
 replace h8 := h8.mv (flat1_mv (hτ0 6))
 refine ck Tryz.func37 [0, 1] rfl rfl ?_
 refine ke_seq <| ke_region <| sr_go 1 rfl <| sr_fin [0, 1] rfl <| ke_seq <| ke_seq <| ke_region <| sr_go 1 rfl ?_
 obtain ⟨y10, hy11, hS⟩ := bS hS
 refine sr_cb Tryz.call42 (login_Logins_ready_ok _ (hg.fr hz hb) hb.bd (hz.fr hg hb) (τ0 := (fun _ => 1)) (fun _ => by decide) (by exact ⟨_, _, _, _, hB9, hP2, h4, h6, h8⟩) hy11) hb.bd ?_
 intro w12 t14
 replace hB9 := hB9.m t14
 replace hP2 := hP2.m secret_Locks.objK t14
 replace h4 := h4.m t14
 replace h6 := h6.m t14
 replace h8 := h8.m t14
 replace hb := hb.trans t14
 refine sr_go 1 rfl <| sr_fin [0, 1, 10] rfl ?_
 refine ke_cond rfl (fun hc15 => ?_) (fun hc15 => ?_)
 ·replace hS := iT hS hc15
  refine ke_seq <| ke_region <| sr_go 1 rfl <| sr_fin [4] rfl ?_
  cases hS
  exact ke_ret1 Tryz.func37 rfl rfl ⟨_, rfl, rfl, (hb.below (flat1_le _))⟩
 ·replace hS := iF hS hc15
  refine ke_skip <| ke_seq <| ke_region <| sr_go 1 rfl <| sr_fin [0, 1, 5] rfl <| ke_seq <| ke_seq <| ke_region <| sr_go 2 rfl ?_
  refine sr_fa 3 Tryz.underlying69 rfl Tryz.info67 ?_
  refine sr_ld v7 Tryz.isAgg67 rfl (hB9.cell rfl) ?_
  refine sr_rangeM 17 (by decide) h8 rfl Tryz.underlying67 hb.bd rfl (by decide) ?_
  intro r16 ρ17 w18 h19 t20
  replace h8 := h8.m t20
  replace hB9 := hB9.m t20
  replace hP2 := hP2.m secret_Locks.objK t20
  replace h4 := h4.m t20
  replace h6 := h6.m t20
  replace hb := hb.trans t20
  refine sr_fin [1, 5, 15] rfl ?_
  refine ke_block ?_
  have hK := login_Logins_Open_L1_ok hg hbd hz _ hS hb h19 hB9 hP2 h4 h6 h8
  exact ke_wk (ke_loop hK)
theorem login_Logins_Begin_1_ok (w0 : World) (hg : Gs w0) {ρA : Tags} (hbd : ∀ b, ρA b ≠ 0 → b < w0.heap.size) (hz : Gz ρA) {__0 : Str} {a_1 : login_attempt} {c2 : Int} {v1 : Value} {b3 : Nat} {r : Bool} (h2 : SlR api_Proof.c (Wb ρA) w0 v1 a_1.proofs) (he4 : ElT (intC .i64) ρA 0 w0 b3 0 [.int .i64 c2] c2) (hS : login_Logins_Begin_1 __0 a_1 c2 = some r) :
  Calls Tryz.prog 46 #[str __0, .agg #[str a_1.user, .int .i64 a_1.begun, v1], pT b3 0] w0 (Ret (fun v w' => v = .bool r ∧ Below w0.heap.size w0 w')) := by
 unfold login_Logins_Begin_1 at hS
 have hb := flat1_fr (ρ := ρA) (w := w0) hbd
 have hz := hz.flat1
 replace h2 := SlR.mv h2 flat1_rd
 replace he4 := he4.mv flat1_rd (Nat.succ_pos _)
 refine ck Tryz.func46 [0, 1, 2] rfl rfl ?_
 refine ke_seq <| ke_region ?_
 refine sr_boxT 6 (by decide) hb.bd rfl (by decide) ?_
 intro g5 ρ6 w7 hB9 t8
 replace he4 := he4.mv (t8.mv (i := 0) rfl) (Nat.succ_pos _)
 replace h2 := h2.mv t8.rd
 replace hb := hb.trans t8
 refine sr_go 1 rfl <| sr_fin [2, 4] rfl <| ke_seq <| ke_region ?_
 refine sr_e (v := .agg #[str a_1.user, .int .i64 a_1.begun, v1]) (ev_loads (cs := [str a_1.user, .int .i64 a_1.begun, v1]) Tryz.isAgg74 Tryz.sizeOf74 rfl (hB9.cells (vs := [str a_1.user, .int .i64 a_1.begun, v1]) rfl)) ?_
 refine sr_ld (.int .i64 c2) Tryz.isAgg3 rfl (he4.cell 0 _ rfl) ?_
 obtain ⟨y10, hy11, hS⟩ := bS hS
 refine sr_cb Tryz.call44 (login_attempt_expired_ok _ (hg.fr hz hb) hb.bd (hz.fr hg hb) h2 hy11) hb.bd ?_
 intro w12 t14
 replace hb := hb.trans t14
 refine sr_go 1 rfl <| sr_fin [5] rfl ?_
 cases hS
 exact ke_ret1 Tryz.func46 rfl rfl ⟨_, rfl, rfl, (hb.below (flat1_le _))⟩
theorem maps_DeleteFunc_map_string_login_attempt_string_login_attempt__Logins_Begin_1_B2_ok {w0 : World} (hg : Gs w0) {ρA : Tags} (hbd : ∀ b, ρA b ≠ 0 → b < w0.heap.size) {o : Nat} (ho2 : 2 ≤ o) {v1 : Value} (hz : Gz (enter ρA o 1)) (r0 : GMap Str login_attempt → Int → List Str → Option (GMap Str login_attempt))
  (hr0 : ∀ {r : GMap Str login_attempt} {m_0 : GMap Str login_attempt} {del_1_c0 : Int} {t_7 : List Str} {bdel_1_c0 : Nat} {rt_7 : Nat}, r0 m_0 del_1_c0 t_7 = some r → ∀ {ρ : Tags} {w : World}, (Fr (enter ρA o 1) w0 ρ w) → (MapT str login_attempt.c true ρ 100 w v1 m_0) → (ElT (intC .i64) ρ 0 w bdel_1_c0 0 [.int .i64 del_1_c0] del_1_c0) → (IterT str login_attempt.c true ρ 100 9 w rt_7 v1 m_0 t_7) → KE Tryz.prog 45 (Ret (fun v w' => ∃ ρ', v = .tuple #[] ∧ MapT str login_attempt.c true ρ' o w' v1 r ∧ Tr ρA w0 (rng o 1) ρ' w')) 19 [.inLoop (sub (bodyOf Tryz.f45) [2, 2, 1]), .inBlock 0] [(0, v1), (1, .func (.func 46) #[] #[pT bdel_1_c0 0]), (7, pT rt_7 0)] w) {r : GMap Str login_attempt} {m_0 : GMap Str login_attempt} {del_1_c0 : Int} {t_7 : List Str} {bdel_1_c0 : Nat} {rt_7 : Nat} (hS : maps_DeleteFunc_map_string_login_attempt_string_login_attempt__Logins_Begin_1_B2 r0 m_0 del_1_c0 t_7 = some r) {ρ : Tags} {w : World} (hb : Fr (enter ρA o 1) w0 ρ w) (hm_0 : MapT str login_attempt.c true ρ 100 w v1 m_0) (hedel_1_c0 : ElT (intC .i64) ρ 0 w bdel_1_c0 0 [.int .i64 del_1_c0] del_1_c0) (ht_7 : IterT str login_attempt.c true ρ 100 9 w rt_7 v1 m_0 t_7) :
  KE Tryz.prog 45 (Ret (fun v w' => ∃ ρ', v = .tuple #[] ∧ MapT str login_attempt.c true ρ' o w' v1 r ∧ Tr ρA w0 (rng o 1) ρ' w')) 19 [.inBlock 1, .inLoop (sub (bodyOf Tryz.f45) [2, 2, 1]), .inBlock 0] [(0, v1), (1, .func (.func 46) #[] #[pT bdel_1_c0 0]), (7, pT rt_7 0)] w := by
 unfold maps_DeleteFunc_map_string_login_attempt_string_login_attempt__Logins_Begin_1_B2 at hS
 refine ke_inBlock ?_
 have hK := hr0 hS hb hm_0 hedel_1_c0 ht_7
 exact ke_wk hK
theorem maps_DeleteFunc_map_string_login_attempt_string_login_attempt__Logins_Begin_1_L1_ok {w0 : World} (hg : Gs w0) {ρA : Tags} (hbd : ∀ b, ρA b ≠ 0 → b < w0.heap.size) {o : Nat} (ho2 : 2 ≤ o) {v1 : Value} (hz : Gz (enter ρA o 1)) : ∀ (n : Nat), ∀ {r : GMap Str login_attempt} {m_0 : GMap Str login_attempt} {del_1_c0 : Int} {t_7 : List Str} {bdel_1_c0 : Nat} {rt_7 : Nat}, maps_DeleteFunc_map_string_login_attempt_string_login_attempt__Logins_Begin_1_L1 n m_0 del_1_c0 t_7 = some r → ∀ {ρ : Tags} {w : World}, (Fr (enter ρA o 1) w0 ρ w) → (MapT str login_attempt.c true ρ 100 w v1 m_0) → (ElT (intC .i64) ρ 0 w bdel_1_c0 0 [.int .i64 del_1_c0] del_1_c0) → (IterT str login_attempt.c true ρ 100 9 w rt_7 v1 m_0 t_7) → KE Tryz.prog 45 (Ret (fun v w' => ∃ ρ', v = .tuple #[] ∧ MapT str login_attempt.c true ρ' o w' v1 r ∧ Tr ρA w0 (rng o 1) ρ' w')) 19 [.code (sub (bodyOf Tryz.f45) [2, 2, 1]), .inLoop (sub (bodyOf Tryz.f45) [2, 2, 1]), .inBlock 0] [(0, v1), (1, .func (.func 46) #[] #[pT bdel_1_c0 0]), (7, pT rt_7 0)] w := by
 intro n
 induction n with
 | zero => intro r m_0 del_1_c0 t_7 bdel_1_c0 rt_7 hS; cases hS
 | succ n ih =>
  have hr0 : ∀ {r : GMap Str login_attempt} {m_0 : GMap Str login_attempt} {del_1_c0 : Int} {t_7 : List Str} {bdel_1_c0 : Nat} {rt_7 : Nat}, maps_DeleteFunc_map_string_login_attempt_string_login_attempt__Logins_Begin_1_L1 n m_0 del_1_c0 t_7 = some r → ∀ {ρ : Tags} {w : World}, (Fr (enter ρA o 1) w0 ρ w) → (MapT str login_attempt.c true ρ 100 w v1 m_0) → (ElT (intC .i64) ρ 0 w bdel_1_c0 0 [.int .i64 del_1_c0] del_1_c0) → (IterT str login_attempt.c true ρ 100 9 w rt_7 v1 m_0 t_7) → KE Tryz.prog 45 (Ret (fun v w' => ∃ ρ', v = .tuple #[] ∧ MapT str login_attempt.c true ρ' o w' v1 r ∧ Tr ρA w0 (rng o 1) ρ' w')) 19 [.inLoop (sub (bodyOf Tryz.f45) [2, 2, 1]), .inBlock 0] [(0, v1), (1, .func (.func 46) #[] #[pT bdel_1_c0 0]), (7, pT rt_7 0)] w := fun {r} {m_0} {del_1_c0} {t_7} {bdel_1_c0} {rt_7} hS {ρ} {w} hb hm_0 hedel_1_c0 ht_7 => ke_inLoop (ih hS hb hm_0 hedel_1_c0 ht_7)
  clear ih
  intro r m_0 del_1_c0 t_7 bdel_1_c0 rt_7 hS ρ w hb hm_0 hedel_1_c0 ht_7
  unfold maps_DeleteFunc_map_string_login_attempt_string_login_attempt__Logins_Begin_1_L1 at hS
  refine ke_seq <| ke_region ?_
  refine sr_nextM ht_7 rfl (by decide) hb.bd hS rfl (by decide) (fun hS => ?_) (fun e10 cs11 w12 hS hrd14 ht_71 t13 hent15 => ?_)
  ·refine sr_go 1 rfl <| sr_fin [0, 1, 7, 9] rfl <| ke_seq ?_
   refine ke_cond rfl (fun h => by cases h) (fun _ => ?_)
   refine ke_exit (k' := _) rfl ?_
   cases hS
   exact ke_end0 Tryz.func45 rfl ⟨_, rfl, _, rfl, (hm_0.lv 0 hb), (leave_tr ho2 hb)⟩
  ·skip
   replace hedel_1_c0 := hedel_1_c0.mv (t13.mv (i := 0) rfl) (Nat.succ_pos _)
   replace hb := hb.trans t13
   replace ht_7 := ht_71
   clear ht_71
   obtain ⟨v16, hcshrd14, h17⟩ := hrd14
   obtain rfl : cs11 = [str e10.2.user, .int .i64 e10.2.begun, v16] := hcshrd14
   refine sr_go 1 rfl <| sr_fin [0, 1, 7, 9] rfl <| ke_seq ?_
   refine ke_cond rfl (fun _ => ?_) (fun h => by cases h)
   refine ke_skip ?_
   refine ke_block ?_
   refine ke_seq <| ke_region ?_
   refine sr_e (hent15 rfl) ?_
   refine sr_go 2 rfl ?_
   refine sr_allocT 7 (by decide) hb.bd Tryz.zeroValue74 (by decide) ?_
   intro g18 ρ19 w20 hB22 t21
   replace hm_0 := (hm_0.m t13).m t21
   replace hedel_1_c0 := hedel_1_c0.mv (t21.mv (i := 0) rfl) (Nat.succ_pos _)
   replace ht_7 := ht_7.mv (t21.mv (i := 100) rfl) (t21.mv (i := 9) rfl)
   replace h17 := h17.mv t21.rd
   replace hb := hb.trans t21
   refine sr_go 1 rfl ?_
   refine sr_storeT (v := .agg #[str e10.2.user, .int .i64 e10.2.begun, v16]) (vs := [str e10.2.user, .int .i64 e10.2.begun, v16]) (cs' := #[str e10.2.user, .int .i64 e10.2.begun, v16]) hB22 (by decide) hb.bd rfl rfl rfl Tryz.sizeOf74 rfl (by first | rfl | (simp only [List.all_cons, List.all_nil, SlR.oneCell h17]; done) | (simp only [List.all_cons, List.all_nil, SlR.oneCell h17]; rfl)) rfl ?_
   intro w23 hB22 t24
   replace hedel_1_c0 := hedel_1_c0.mv (t24.mv (i := 0) rfl) (Nat.succ_pos _)
   replace ht_7 := ht_7.mv (t24.mv (i := 100) rfl) (t24.mv (i := 9) rfl)
   replace h17 := h17.mv t24.rd
   replace hb := hb.trans t24
   refine sr_fin [0, 1, 4, 5, 7] rfl <| ke_seq <| ke_region <| sr_go 2 rfl ?_
   refine sr_e (v := .agg #[str e10.2.user, .int .i64 e10.2.begun, v16]) (ev_loads (cs := [str e10.2.user, .int .i64 e10.2.begun, v16]) Tryz.isAgg74 Tryz.sizeOf74 rfl (hB22.cells (vs := [str e10.2.user, .int .i64 e10.2.begun, v16]) rfl)) ?_
   obtain ⟨y25, hy26, hS⟩ := bS hS
   refine sr_callc (vs := [str e10.1, .agg #[str e10.2.user, .int .i64 e10.2.begun, v16]]) rfl Tryz.call46 rfl (login_Logins_Begin_1_ok _ (hg.fr hz hb) (ρA := ρ19) hb.bd (hz.fr hg hb) h17 hedel_1_c0 hy26) (by decide) ?_
   rintro _ w27 ⟨rfl, hbw28⟩
   have t29 := Tr.of_below hbw28 hb.bd
   replace hm_0 := (hm_0.m t24).m t29
   replace hedel_1_c0 := hedel_1_c0.mv (t29.mv (i := 0) rfl) (Nat.succ_pos _)
   replace ht_7 := ht_7.mv (t29.mv (i := 100) rfl) (t29.mv (i := 9) rfl)
   replace hb := hb.trans t29
   refine sr_fin [0, 1, 4, 7, 16] rfl ?_
   refine ke_cond rfl (fun hc30 => ?_) (fun hc30 => ?_)
   ·replace hS := iT hS hc30
    refine ke_region <| sr_go 2 rfl ?_
    obtain ⟨w31, hrunw31, ht_71, t32⟩ := sr_mapDelIt (n := 19) (l := [(0, v1), (1, .func (.func 46) #[] #[pT bdel_1_c0 0]), (4, str e10.1), (7, pT rt_7 0), (16, .bool y25), (17, v1), (18, str e10.1)]) (d := none) (x := _) (y := _) (pos := _) (after := _) (t := _) (k := e10.1) ht_7 rfl Tryz.keyB9 Tryz.underlying67 (by decide) hb.bd
    refine sr_run0 (fun a ha => hrunw31 (ha.weaken (.cons rfl (.cons rfl (.cons rfl (.cons rfl (.cons rfl (.cons rfl (.cons rfl (.nil _))))))))) rfl rfl) ?_
    replace hedel_1_c0 := hedel_1_c0.mv (t32.mv (i := 0) rfl) (Nat.succ_pos _)
    replace hb := hb.trans t32
    replace ht_7 := ht_71
    clear ht_71
    replace hm_0 := ht_7.map
    refine sr_fin [0, 1, 7] rfl ?_
    have hK := maps_DeleteFunc_map_string_login_attempt_string_login_attempt__Logins_Begin_1_B2_ok hg hbd ho2 hz _ hr0 hS hb hm_0 hedel_1_c0 ht_7
    exact ke_wk hK
   ·replace hS := iF hS hc30
    refine ke_skip ?_
    have hK := maps_DeleteFunc_map_string_login_attempt_string_login_attempt__Logins_Begin_1_B2_ok hg hbd ho2 hz _ hr0 hS hb hm_0 hedel_1_c0 ht_7
    exact ke_wk hK
theorem maps_DeleteFunc_map_string_login_attempt_string_login_attempt__Logins_Begin_1_ok (w0 : World) (hg : Gs w0) {ρA : Tags} (hbd : ∀ b, ρA b ≠ 0 → b < w0.heap.size) (hz : Gz ρA) {o : Nat} (ho2 : 2 ≤ o) {m_0 : GMap Str login_attempt} {c1_0 : Int} {v1 : Value} {b3 : Nat} {r : GMap Str login_attempt} (h2 : MapT str login_attempt.c true ρA o w0 v1 m_0) (he4 : ElT (intC .i64) ρA 0 w0 b3 0 [.int .i64 c1_0] c1_0) (hS : maps_DeleteFunc_map_string_login_attempt_string_login_attempt__Logins_Begin_1 m_0 c1_0 = some r) :
  Calls Tryz.prog 45 #[v1, .func (.func 46) #[] #[pT b3 0]] w0 (Ret (fun v w' => ∃ ρ', v = .tuple #[] ∧ MapT str login_attempt.c true ρ' o w' v1 r ∧ Tr ρA w0 (rng o 1) ρ' w')) := by
 unfold maps_DeleteFunc_map_string_login_attempt_string_login_attempt__Logins_Begin_1 at hS
 have hb := enter_fr (ρ := ρA) (w := w0) (n := 1) ho2 hbd
 have hz := hz.enter (n := 1) ho2
 replace he4 := he4.mv (enter_rd (n := 1) ho2) (Nat.succ_pos _)
 replace h2 := h2.mv (enter_mv (p := 0) (n := 1) (by decide) ho2)
 refine ck Tryz.func45 [0, 1] rfl rfl ?_
 refine ke_seq <| ke_region <| sr_go 1 rfl ?_
 refine sr_rangeM 9 (by decide) h2 rfl Tryz.underlying67 hb.bd rfl (by decide) ?_
 intro r5 ρ6 w7 h8 t9
 replace h2 := h2.m t9
 replace he4 := he4.mv (t9.mv (i := 0) rfl) (Nat.succ_pos _)
 replace hb := hb.trans t9
 refine sr_fin [0, 1, 7] rfl ?_
 refine ke_block ?_
 have hK := maps_DeleteFunc_map_string_login_attempt_string_login_attempt__Logins_Begin_1_L1_ok hg hbd ho2 hz _ hS hb h2 he4 h8
 exact ke_wk (ke_loop hK)
theorem login_Logins_Begin_ok (w0 : World) (hg : Gs w0) {ρA : Tags} (hbd : ∀ b, ρA b ≠ 0 → b < w0.heap.size) (hz : Gz ρA) {o : Nat} (ho2 : 2 ≤ o) {l_0 : login_Logins} {id_1 : Str} {user_2 : Str} {now_3 : Int} {gl_0 : Nat} {r : Int × login_Logins} (ho0 : login_Logins.O (fun p => o + p) ρA w0 gl_0 l_0) (hS : login_Logins_Begin l_0 id_1 user_2 now_3 = some r) :
  Calls Tryz.prog 14 #[pT gl_0 0, str id_1, str user_2, .int .i64 now_3] w0 (Ret (fun v w' => ∃ ρ', v = .int .i64 r.1 ∧ login_Logins.O (fun p => o + p) ρ' w' gl_0 r.2 ∧ Tr ρA w0 (rng o 7) ρ' w')) := by
 unfold login_Logins_Begin at hS
 have hb := enter_fr (ρ := ρA) (w := w0) (n := 7) ho2 hbd
 have hz := hz.enter (n := 7) ho2
 obtain ⟨v1, v3, v5, v7, hB9, hP2, h4, h6, h8⟩ := ho0
 replace hB9 := hB9.mv (enter_mv (p := 0) (n := 7) (by decide) ho2)
 replace hP2 := PtrO.mv hP2 secret_Locks.objK (fun p hp => enter_mv (p := 1 + p) (n := 7) (by omega) ho2) (fun p hp => by omega)
 replace h4 := h4.mv (enter_mv (p := 4) (n := 7) (by decide) ho2)
 replace h6 := h6.mv (enter_mv (p := 5) (n := 7) (by decide) ho2)
 replace h8 := h8.mv (enter_mv (p := 6) (n := 7) (by decide) ho2)
 refine ck Tryz.func14 [0, 1, 2, 3] rfl rfl ?_
 refine ke_seq <| ke_region ?_
 refine sr_boxT 9 (by decide) hb.bd rfl (by decide) ?_
 intro g10 ρ11 w12 hB14 t13
 replace hB9 := hB9.m t13
 replace hP2 := hP2.m secret_Locks.objK t13
 replace h4 := h4.m t13
 replace h6 := h6.m t13
 replace h8 := h8.m t13
 replace hb := hb.trans t13
 refine sr_go 1 rfl <| sr_fin [0, 1, 2, 7] rfl <| ke_seq <| ke_seq <| ke_region <| sr_go 1 rfl ?_
 obtain ⟨y15, hy16, hS⟩ := bS hS
 refine sr_cb Tryz.call42 (login_Logins_ready_ok _ (hg.fr hz hb) hb.bd (hz.fr hg hb) (τ0 := (fun p => 100 + p)) (fun p => Nat.le_add_right_of_le (by decide)) (by exact ⟨_, _, _, _, hB9, hP2, h4, h6, h8⟩) hy16) hb.bd ?_
 intro w17 t19
 replace hB14 := hB14.m t19
 replace hB9 := hB9.m t19
 replace hP2 := hP2.m secret_Locks.objK t19
 replace h4 := h4.m t19
 replace h6 := h6.m t19
 replace h8 := h8.m t19
 replace hb := hb.trans t19
 refine sr_go 1 rfl <| sr_fin [0, 1, 2, 7, 13] rfl ?_
 refine ke_cond rfl (fun hc20 => ?_) (fun hc20 => ?_)
 ·replace hS := iT hS hc20
  refine ke_seq <| ke_region <| sr_go 1 rfl <| sr_fin [8] rfl ?_
  cases hS
  exact ke_ret1 Tryz.func14 rfl rfl ⟨_, rfl, _, rfl, ⟨_, _, _, _, (hB9.lv 0 hb), (hP2.lv secret_Locks.objK ho2 hb), (h4.lv 4 hb), (h6.lv 5 hb), (h8.lv 6 hb)⟩, (leave_tr ho2 hb)⟩
 ·replace hS := iF hS hc20
  refine ke_skip <| ke_seq <| ke_region <| sr_go 2 rfl ?_
  refine sr_fa 3 Tryz.underlying69 rfl Tryz.info67 ?_
  refine sr_ld v7 Tryz.isAgg67 rfl (hB9.cell rfl) ?_
  refine sr_go 1 rfl ?_
  obtain ⟨y25, hy26, hS⟩ := bS hS
  replace hy26 := Option.some.inj hy26
  obtain ⟨cs21, hrd22, hl23, hl24⟩ := h8.look (zcs := [str ([]), .int .i64 0, (.slice none 0 0)]) (z := (login_attempt.mk ([]) 0 ([] : List api_Proof))) Tryz.keyB9 Tryz.underlying67 Tryz.zeroValue74 ⟨_, rfl, SlR.nil⟩ id_1
  rw [hy26] at hrd22
  obtain ⟨v27, hcshrd22, h28⟩ := hrd22
  obtain rfl : cs21 = [str y25.user, .int .i64 y25.begun, v27] := hcshrd22
  refine sr_e (hl24 w17 _ _ (Mv.of_below (i := 106) (ρ := ρ11) (Below.refl _ _)) rfl rfl) ?_
  refine sr_go 3 rfl ?_
  refine sr_allocT 11 (by decide) hb.bd Tryz.zeroValue74 (by decide) ?_
  intro g29 ρ30 w31 hB33 t32
  replace h28 := h28.mv t32.rd
  replace hb := hb.trans t32
  refine sr_storeT (v := .agg #[str y25.user, .int .i64 y25.begun, v27]) (vs := [str y25.user, .int .i64 y25.begun, v27]) (cs' := #[str y25.user, .int .i64 y25.begun, v27]) hB33 (by decide) hb.bd rfl rfl rfl Tryz.sizeOf74 rfl (by first | rfl | (simp only [List.all_cons, List.all_nil, SlR.oneCell h28]; done) | (simp only [List.all_cons, List.all_nil, SlR.oneCell h28]; rfl)) rfl ?_
  intro w34 hB33 t35
  replace h28 := h28.mv t35.rd
  replace hB14 := (hB14.m t32).m t35
  replace hB9 := (hB9.m t32).m t35
  replace hP2 := (hP2.m secret_Locks.objK t32).m secret_Locks.objK t35
  replace h4 := (h4.m t32).m t35
  replace h6 := (h6.m t32).m t35
  replace h8 := (h8.m t32).m t35
  replace hb := hb.trans t35
  refine sr_go 1 rfl <| sr_fin [0, 1, 2, 7, 9, 10] rfl <| ke_seq ?_
  refine ke_block ?_
  refine ke_seq <| ke_region <| sr_go 1 rfl ?_
  obtain ⟨y36, hy37, hS⟩ := bS hS
  refine sr_cb Tryz.call43 (fold_Word_ok _ (hg.fr hz hb) hy37) hb.bd ?_
  intro w38 t40
  replace hB33 := hB33.m t40
  replace h28 := h28.mv t40.rd
  replace hB14 := hB14.m t40
  replace hB9 := hB9.m t40
  replace hP2 := hP2.m secret_Locks.objK t40
  replace h4 := h4.m t40
  replace h6 := h6.m t40
  replace h8 := h8.m t40
  replace hb := hb.trans t40
  refine sr_go 2 rfl ?_
  obtain ⟨z43, hz45, hS⟩ := bS hS
  refine sr_join (m := 4) (C := fun (z : Bool) w1 => z43 = z ∧ ∃ ρ1, Tr ρ30 w38 (fun _ => false) ρ1 w1) (l' := fun z => [(0, pT gl_0 0), (1, str id_1), (2, str user_2), (7, pT g10 0), (9, pT g29 0), (10, .bool (mhas l_0.attempts id_1)), (31, .bool z)]) ?_ ?_
  ·rintro _ w46 ⟨rfl, ρ47, hj44⟩
   replace hB33 := hB33.m hj44
   replace h28 := h28.mv hj44.rd
   replace hB14 := hB14.m hj44
   replace hB9 := hB9.m hj44
   replace hP2 := hP2.m secret_Locks.objK hj44
   replace h4 := h4.m hj44
   replace h6 := h6.m hj44
   replace h8 := h8.m hj44
   replace hb := hb.trans hj44
   refine sr_go 1 rfl <| sr_fin [0, 1, 2, 7, 9, 10, 23] rfl ?_
   refine ke_cond rfl (fun hc54 => ?_) (fun hc54 => ?_)
   ·replace hS := iT hS hc54
    refine ke_seq <| ke_region <| sr_go 1 rfl <| sr_fin [8] rfl ?_
    cases hS
    exact ke_ret1 Tryz.func14 rfl rfl ⟨_, rfl, _, rfl, ⟨_, _, _, _, (hB9.lv 0 hb), (hP2.lv secret_Locks.objK ho2 hb), (h4.lv 4 hb), (h6.lv 5 hb), (h8.lv 6 hb)⟩, (leave_tr ho2 hb)⟩
   ·replace hS := iF hS hc54
    refine ke_seq <| ke_region <| sr_go 2 rfl ?_
    obtain ⟨z57, hz59, hS⟩ := bS hS
    refine sr_join (m := 5) (C := fun (z : Bool) w1 => z57 = z ∧ ∃ ρ1, Tr ρ47 w46 (fun _ => false) ρ1 w1) (l' := fun z => [(0, pT gl_0 0), (1, str id_1), (2, str user_2), (7, pT g10 0), (39, .bool z)]) ?_ ?_
    ·rintro _ w60 ⟨rfl, ρ61, hj58⟩
     replace hB14 := hB14.m hj58
     replace hB9 := hB9.m hj58
     replace hP2 := hP2.m secret_Locks.objK hj58
     replace h4 := h4.m hj58
     replace h6 := h6.m hj58
     replace h8 := h8.m hj58
     replace hb := hb.trans hj58
     refine sr_go 1 rfl <| sr_fin [0, 1, 2, 7, 32] rfl ?_
     refine ke_cond rfl (fun hc68 => ?_) (fun hc68 => ?_)
     ·replace hS := iT hS hc68
      refine ke_seq <| ke_region <| sr_go 1 rfl <| sr_fin [8] rfl ?_
      cases hS
      exact ke_ret1 Tryz.func14 rfl rfl ⟨_, rfl, _, rfl, ⟨_, _, _, _, (hB9.lv 0 hb), (hP2.lv secret_Locks.objK ho2 hb), (h4.lv 4 hb), (h6.lv 5 hb), (h8.lv 6 hb)⟩, (leave_tr ho2 hb)⟩
     ·replace hS := iF hS hc68
      refine ke_seq <| ke_region <| sr_go 1 rfl ?_
      refine sr_ld (.int .i64 now_3) Tryz.isAgg3 rfl (hB14.cell rfl) ?_
      obtain ⟨y69, hy70, hS⟩ := bS hS
      refine sr_cb Tryz.call37 (login_Logins_Open_ok _ (hg.fr hz hb) hb.bd (hz.fr hg hb) (τ0 := (fun p => 100 + p)) (fun p => Nat.le_add_right_of_le (by decide)) (by exact ⟨_, _, _, _, hB9, hP2, h4, h6, h8⟩) hy70) hb.bd ?_
      intro w71 t73
      replace hB14 := hB14.m t73
      replace hB9 := hB9.m t73
      replace hP2 := hP2.m secret_Locks.objK t73
      replace h4 := h4.m t73
      replace h6 := h6.m t73
      replace h8 := h8.m t73
      replace hb := hb.trans t73
      refine sr_go 2 rfl <| sr_fin [0, 1, 2, 7, 40] rfl ?_
      refine ke_cond rfl (fun hc74 => ?_) (fun hc74 => ?_)
      ·replace hS := iT hS hc74
       refine ke_seq <| ke_region <| sr_go 1 rfl <| sr_fin [8] rfl ?_
       cases hS
       exact ke_ret1 Tryz.func14 rfl rfl ⟨_, rfl, _, rfl, ⟨_, _, _, _, (hB9.lv 0 hb), (hP2.lv secret_Locks.objK ho2 hb), (h4.lv 4 hb), (h6.lv 5 hb), (h8.lv 6 hb)⟩, (leave_tr ho2 hb)⟩
      ·replace hS := iF hS hc74
       refine ke_skip <| ke_inBlock <| ke_seq <| ke_region <| sr_go 2 rfl ?_
       refine sr_fa 3 Tryz.underlying69 rfl Tryz.info67 ?_
       refine sr_ld v7 Tryz.isAgg67 rfl (hB9.cell rfl) ?_
       have t75 := frz_tr (ρ := ρ61) (w := w71) (i := 9) (by decide) hb.bd
       have he76 : ElT (intC .i64) (frz ρ61 9) 0 w71 g10 0 [.int .i64 now_3] now_3 := Blk.frzEl hB14 rfl rfl
       replace h8 := h8.m t75
       replace hb := hb.trans t75
       refine sr_e (v := .func (.func 46) #[] #[pT g10 0]) (ev_makeFunc rfl) ?_
       obtain ⟨y77, hy78, hS⟩ := bS hS
       refine sr_cl Tryz.call45 (maps_DeleteFunc_map_string_login_attempt_string_login_attempt__Logins_Begin_1_ok _ (hg.fr hz hb) hb.bd (hz.fr hg hb) (o := 106) (by decide) h8 he76 hy78) ?_
       rintro _ w79 ⟨ρ82, rfl, h81, t81⟩
       replace he76 := he76.mv (t81.mv (i := 0) rfl) (Nat.succ_pos _)
       replace hB9 := (hB9.m t75).m t81
       replace hP2 := (hP2.m secret_Locks.objK t75).m secret_Locks.objK t81
       replace h4 := (h4.m t75).m t81
       replace h6 := (h6.m t75).m t81
       replace hb := hb.trans t81
       replace h8 := h81
       clear h81
       refine sr_fin [0, 1, 2, 7] rfl <| ke_seq ?_
       refine ke_region_j (ρ := ρ82) (fun t => ([106] : List Nat).contains t) 10 Tryz.mixed (fun w84 hw83 => ?_)
       have t85 := Tr.of_below hw83 hb.bd
       replace he76 := he76.mv (t85.mv (i := 0) rfl) (Nat.succ_pos _)
       replace hB9 := hB9.m t85
       replace hb := hb.trans t85
       refine dj_v 0 hb.bd rfl rfl ?_
       refine dj_v 1 hb.bd rfl rfl ?_
       refine dj_h 2 (pT gl_0 3) hb.bd rfl (fun w1 ρ1 hw1 => ev_fieldAddr (i := 3) Tryz.underlying69 rfl Tryz.info67 rfl rfl) ?_
       refine dj_h 3 v7 hb.bd rfl (fun w1 ρ1 hw1 => ev_load Tryz.isAgg67 rfl ((hB9.mv (hw1.mv (i := 100) rfl)).cell rfl)) ?_
       refine dj_v 4 hb.bd rfl rfl ?_
       refine dj_v 5 hb.bd rfl rfl ?_
       refine dj_h 6 (.int .i64 now_3) hb.bd rfl (fun w1 ρ1 hw1 => ev_load Tryz.isAgg3 rfl ((he76.mv (hw1.mv (i := 0) rfl) (Nat.succ_pos _)).cell 0 _ rfl)) ?_
       refine dj_E 7 (by kernel_rfl) rfl ?_
       have jt107 : Tr ρ82 w84 (fun t => ([106] : List Nat).contains t) ρ82 w84 := (Tr.refl hb.bd).weak (fun _ _ => rfl) rfl rfl
       obtain ⟨y108, hy109, hS⟩ := bS hS
       refine sr_cb Tryz.call39 (clock_Add_ok _ (hg.fr hz hb) hy109) hb.bd ?_
       intro w110 t112
       replace h8 := (h8.m t85).m t112
       replace hP2 := (hP2.m secret_Locks.objK t85).m secret_Locks.objK t112
       replace h4 := (h4.m t85).m t112
       replace h6 := (h6.m t85).m t112
       replace hb := hb.trans t112
       replace jt107 := jt107.tw t112
       refine dj_nx [54, 55, 56, 58] rfl jt107 ?_
       refine dj_h 8 (.agg #[str user_2, .int .i64 y108, (.slice none 0 0)]) hb.bd rfl (fun w1 ρ1 hw1 => ev_build (vs := #[(0, str user_2), (1, .int .i64 y108)]) rfl (fun _ => by kernel_rfl)) ?_
       refine dj_E 9 (by kernel_rfl) rfl ?_
       have jt113 : Tr ρ82 w110 (fun t => ([106] : List Nat).contains t) ρ82 w110 := (Tr.refl hb.bd).weak (fun _ _ => rfl) rfl rfl
       obtain ⟨hk114, hS⟩ := chk_some hS
       refine sr_mapPut (k := id_1) (d := (login_attempt.mk user_2 y108 ([] : List api_Proof))) (u := .agg #[str user_2, .int .i64 y108, (.slice none 0 0)]) (cs := [str user_2, .int .i64 y108, (.slice none 0 0)]) h8 hk114 Tryz.keyB9 Tryz.underlying67 (by decide) hb.bd rfl ⟨_, rfl, SlR.nil⟩ rfl rfl rfl ?_
       intro w115 h81 t116
       replace hB9 := (hB9.m t112).m t116
       replace hP2 := hP2.m secret_Locks.objK t116
       replace h4 := h4.m t116
       replace h6 := h6.m t116
       replace hb := hb.trans t116
       replace jt113 := jt113.tw t116
       replace h8 := h81
       clear h81
       refine dj_nx [] rfl jt113 ?_
       refine dj_done rfl (by kernel_rfl) ?_
       refine ke_fin [] rfl <| ke_seq <| ke_region <| sr_go 1 rfl <| sr_fin [8] rfl ?_
       cases hS
       exact ke_ret1 Tryz.func14 rfl rfl ⟨_, rfl, _, rfl, ⟨_, _, _, _, (hB9.lv 0 hb), (hP2.lv secret_Locks.objK ho2 hb), (h4.lv 4 hb), (h6.lv 5 hb), (h8.lv 6 hb)⟩, (leave_tr ho2 hb)⟩
    ·intro K56
     clear hS
     have hj58 : Tr ρ47 w46 (fun _ => false) ρ47 w46 := (Tr.refl hb.bd).weak (fun _ _ => rfl) rfl rfl
     rcases Bool.eq_false_or_eq_true (mhas l_0.attempts id_1) with hg55 | hg55
     ·have hS := iT hz59 hg55
      refine sr_eg hg55 (v := .agg #[str y25.user, .int .i64 y25.begun, v27]) (ev_loads (cs := [str y25.user, .int .i64 y25.begun, v27]) Tryz.isAgg74 Tryz.sizeOf74 rfl (hB33.cells (vs := [str y25.user, .int .i64 y25.begun, v27]) rfl)) ?_
      refine sr_eg hg55 (ev_load Tryz.isAgg3 rfl (hB14.cell rfl)) ?_
      obtain ⟨y63, hy64, hS⟩ := bS hS
      refine sr_callg (b := true) (e := 34) rfl rfl hg55 (vs := [.agg #[str y25.user, .int .i64 y25.begun, v27], .int .i64 now_3]) rfl Tryz.call44 rfl (login_attempt_expired_ok _ (hg.fr hz hb) (ρA := ρ47) hb.bd (hz.fr hg hb) h28 hy64) (by decide) ?_
      rintro _ w65 ⟨rfl, hbw66⟩
      have t67 := Tr.of_below hbw66 hb.bd
      replace hb := hb.trans t67
      replace hj58 := hj58.tw t67
      refine sr_setb 34 rfl hg55 <| sr_go 2 rfl ?_
      exact sr_wk (K56 (!y63) _ ⟨(Option.some.inj hS).symm, _, hj58⟩)
     ·have hS := iF hz59 hg55
      refine sr_setb 34 rfl hg55 <| sr_go 5 rfl ?_
      exact sr_wk (K56 false _ ⟨(Option.some.inj hS).symm, _, hj58⟩)
  ·intro K42
   clear hS
   have hj44 : Tr ρ30 w38 (fun _ => false) ρ30 w38 := (Tr.refl hb.bd).weak (fun _ _ => rfl) rfl rfl
   rcases Bool.eq_false_or_eq_true (!y36) with hg41 | hg41
   ·have hS := iT hz45 hg41
    refine sr_setb 27 rfl hg41 <| sr_go 4 rfl ?_
    exact sr_wk (K42 true _ ⟨(Option.some.inj hS).symm, _, hj44⟩)
   ·have hS := iF hz45 hg41
    refine sr_setb 27 rfl hg41 <| sr_go 1 rfl ?_
    obtain ⟨y49, hy50, hS⟩ := bS hS
    refine sr_callg (b := false) (e := 27) rfl rfl rfl (vs := [str user_2]) rfl Tryz.call43 rfl (fold_Word_ok _ (hg.fr hz hb) hy50) (by decide) ?_
    rintro _ w51 ⟨rfl, hbw52⟩
    have t53 := Tr.of_below hbw52 hb.bd
    replace hb := hb.trans t53
    replace hj44 := hj44.tw t53
    refine sr_go 2 rfl ?_
    exact sr_wk (K42 (!y49) _ ⟨(Option.some.inj hS).symm, _, hj44⟩)
theorem login_Logins_find_ok (w0 : World) (hg : Gs w0) {ρA : Tags} (hbd : ∀ b, ρA b ≠ 0 → b < w0.heap.size) (hz : Gz ρA) {τ0 : Nat → Nat} (hτ0 : ∀ p, 1 ≤ τ0 p) {l_0 : login_Logins} {id_1 : Str} {now_2 : Int} {gl_0 : Nat} {r : login_attempt × Int} (ho0 : login_Logins.O τ0 ρA w0 gl_0 l_0) (hS : login_Logins_find l_0 id_1 now_2 = some r) :
  Calls Tryz.prog 49 #[pT gl_0 0, str id_1, .int .i64 now_2] w0 (Ret (fun v w' => ∃ x1, v = .tuple #[.agg #[str r.1.user, .int .i64 r.1.begun, x1], .int .i64 r.2] ∧ SlR api_Proof.c (Wb ρA) w' x1 r.1.proofs ∧ Below w0.heap.size w0 w')) := by
 unfold login_Logins_find at hS
 have hb := flat1_fr (ρ := ρA) (w := w0) hbd
 have hz := hz.flat1
 obtain ⟨v1, v3, v5, v7, hB9, hP2, h4, h6, h8⟩ := ho0
 replace hB9 := hB9.mv (flat1_mv (hτ0 0))
 replace hP2 := PtrO.mv hP2 secret_Locks.objK (fun p hp => flat1_mv (hτ0 (1 + p))) (fun _ _ => by decide)
 replace h4 := h4.mv (flat1_mv (hτ0 4))
 replace h6 := h6.mv (flat1_mv (hτ0 5))
 replace h8 := h8.mv (flat1_mv (hτ0 6))
 refine ck Tryz.func49 [0, 1, 2] rfl rfl ?_
 refine ke_seq <| ke_region ?_
 refine sr_allocT 8 (by decide) hb.bd Tryz.zeroValue74 (by decide) ?_
 intro g12 ρ13 w14 hB16 t15
 replace hB9 := hB9.m t15
 replace hP2 := hP2.m secret_Locks.objK t15
 replace h4 := h4.m t15
 replace h6 := h6.m t15
 replace h8 := h8.m t15
 replace hb := hb.trans t15
 refine sr_go 1 rfl <| sr_fin [0, 1, 2, 6] rfl <| ke_seq <| ke_seq <| ke_region <| sr_go 1 rfl ?_
 obtain ⟨y17, hy18, hS⟩ := bS hS
 refine sr_cb Tryz.call42 (login_Logins_ready_ok _ (hg.fr hz hb) hb.bd (hz.fr hg hb) (τ0 := (fun _ => 1)) (fun _ => by decide) (by exact ⟨_, _, _, _, hB9, hP2, h4, h6, h8⟩) hy18) hb.bd ?_
 intro w19 t21
 replace hB16 := hB16.m t21
 replace hB9 := hB9.m t21
 replace h8 := h8.m t21
 replace hb := hb.trans t21
 refine sr_go 1 rfl <| sr_fin [0, 1, 2, 6, 12] rfl ?_
 refine ke_cond rfl (fun hc22 => ?_) (fun hc22 => ?_)
 ·replace hS := iT hS hc22
  refine ke_seq <| ke_region ?_
  refine sr_e (v := .agg #[str ([]), .int .i64 0, (.slice none 0 0)]) (ev_build (vs := #[]) rfl (fun _ => by kernel_rfl)) ?_
  refine sr_storeT (v := .agg #[str ([]), .int .i64 0, (.slice none 0 0)]) (vs := [str ([]), .int .i64 0, (.slice none 0 0)]) (cs' := #[str ([]), .int .i64 0, (.slice none 0 0)]) hB16 (by decide) hb.bd rfl rfl rfl Tryz.sizeOf74 rfl rfl rfl ?_
  intro w23 hB161 t24
  replace hb := hb.trans t24
  replace hB16 : Blk ρ13 8 w23 g12 (.cells #[str ([]), .int .i64 0, (.slice none 0 0)] 74 (0, 0)) := hB161
  clear hB161
  refine sr_go 1 rfl <| sr_fin [6, 7] rfl ?_
  cases hS
  exact ke_ret (rs := [.cell 6 74, .tmp 7]) (vs := [.agg #[str ([]), .int .i64 0, (.slice none 0 0)], .int .i64 1]) Tryz.func49 rfl ⟨⟨_, rfl, run_loadVar_s (cs := [str ([]), .int .i64 0, (.slice none 0 0)]) Tryz.isAgg74 Tryz.sizeOf74 (hB16.cells (vs := [str ([]), .int .i64 0, (.slice none 0 0)]) rfl)⟩, rfl, trivial⟩ rfl ⟨_, rfl, _, rfl, SlR.nil, (hb.below (flat1_le _))⟩
 ·replace hS := iF hS hc22
  refine ke_skip <| ke_seq <| ke_region <| sr_go 2 rfl ?_
  refine sr_fa 3 Tryz.underlying69 rfl Tryz.info67 ?_
  refine sr_ld v7 Tryz.isAgg67 rfl (hB9.cell rfl) ?_
  refine sr_go 1 rfl ?_
  obtain ⟨y29, hy30, hS⟩ := bS hS
  replace hy30 := Option.some.inj hy30
  obtain ⟨cs25, hrd26, hl27, hl28⟩ := h8.look (zcs := [str ([]), .int .i64 0, (.slice none 0 0)]) (z := (login_attempt.mk ([]) 0 ([] : List api_Proof))) Tryz.keyB9 Tryz.underlying67 Tryz.zeroValue74 ⟨_, rfl, SlR.nil⟩ id_1
  rw [hy30] at hrd26
  obtain ⟨v31, hcshrd26, h32⟩ := hrd26
  obtain rfl : cs25 = [str y29.user, .int .i64 y29.begun, v31] := hcshrd26
  refine sr_e (hl28 w19 _ _ (Mv.of_below (i := 1) (ρ := ρ13) (Below.refl _ _)) rfl rfl) ?_
  refine sr_go 3 rfl ?_
  refine sr_allocT 10 (by decide) hb.bd Tryz.zeroValue74 (by decide) ?_
  intro g33 ρ34 w35 hB37 t36
  replace h32 := h32.mv t36.rd
  replace hb := hb.trans t36
  refine sr_storeT (v := .agg #[str y29.user, .int .i64 y29.begun, v31]) (vs := [str y29.user, .int .i64 y29.begun, v31]) (cs' := #[str y29.user, .int .i64 y29.begun, v31]) hB37 (by decide) hb.bd rfl rfl rfl Tryz.sizeOf74 rfl (by first | rfl | (simp only [List.all_cons, List.all_nil, SlR.oneCell h32]; done) | (simp only [List.all_cons, List.all_nil, SlR.oneCell h32]; rfl)) rfl ?_
  intro w38 hB37 t39
  replace h32 := h32.mv t39.rd
  replace hB16 := (hB16.m t36).m t39
  replace hb := hb.trans t39
  refine sr_go 1 rfl <| sr_fin [2, 6, 8, 9] rfl <| ke_seq ?_
  refine ke_block ?_
  refine ke_seq <| ke_region <| sr_go 3 rfl <| sr_fin [2, 6, 8, 23] rfl ?_
  refine ke_cond rfl (fun hc40 => ?_) (fun hc40 => ?_)
  ·replace hS := iT hS hc40
   refine ke_seq <| ke_region ?_
   refine sr_e (v := .agg #[str ([]), .int .i64 0, (.slice none 0 0)]) (ev_build (vs := #[]) rfl (fun _ => by kernel_rfl)) ?_
   refine sr_storeT (v := .agg #[str ([]), .int .i64 0, (.slice none 0 0)]) (vs := [str ([]), .int .i64 0, (.slice none 0 0)]) (cs' := #[str ([]), .int .i64 0, (.slice none 0 0)]) hB16 (by decide) hb.bd rfl rfl rfl Tryz.sizeOf74 rfl rfl rfl ?_
   intro w41 hB161 t42
   replace hb := hb.trans t42
   replace hB16 : Blk ρ34 8 w41 g12 (.cells #[str ([]), .int .i64 0, (.slice none 0 0)] 74 (0, 0)) := hB161
   clear hB161
   refine sr_go 1 rfl <| sr_fin [6, 7] rfl ?_
   cases hS
   exact ke_ret (rs := [.cell 6 74, .tmp 7]) (vs := [.agg #[str ([]), .int .i64 0, (.slice none 0 0)], .int .i64 6]) Tryz.func49 rfl ⟨⟨_, rfl, run_loadVar_s (cs := [str ([]), .int .i64 0, (.slice none 0 0)]) Tryz.isAgg74 Tryz.sizeOf74 (hB16.cells (vs := [str ([]), .int .i64 0, (.slice none 0 0)]) rfl)⟩, rfl, trivial⟩ rfl ⟨_, rfl, _, rfl, SlR.nil, (hb.below (flat1_le _))⟩
  ·replace hS := iF hS hc40
   refine ke_seq <| ke_region ?_
   refine sr_e (v := .agg #[str y29.user, .int .i64 y29.begun, v31]) (ev_loads (cs := [str y29.user, .int .i64 y29.begun, v31]) Tryz.isAgg74 Tryz.sizeOf74 rfl (hB37.cells (vs := [str y29.user, .int .i64 y29.begun, v31]) rfl)) ?_
   refine sr_go 1 rfl ?_
   obtain ⟨y43, hy44, hS⟩ := bS hS
   refine sr_cb Tryz.call44 (login_attempt_expired_ok _ (hg.fr hz hb) hb.bd (hz.fr hg hb) h32 hy44) hb.bd ?_
   intro w45 t47
   replace hB37 := hB37.m t47
   replace h32 := h32.mv t47.rd
   replace hB16 := hB16.m t47
   replace hb := hb.trans t47
   refine sr_go 1 rfl <| sr_fin [6, 8, 27] rfl ?_
   refine ke_cond rfl (fun hc48 => ?_) (fun hc48 => ?_)
   ·replace hS := iT hS hc48
    refine ke_seq <| ke_region ?_
    refine sr_e (v := .agg #[str ([]), .int .i64 0, (.slice none 0 0)]) (ev_build (vs := #[]) rfl (fun _ => by kernel_rfl)) ?_
    refine sr_storeT (v := .agg #[str ([]), .int .i64 0, (.slice none 0 0)]) (vs := [str ([]), .int .i64 0, (.slice none 0 0)]) (cs' := #[str ([]), .int .i64 0, (.slice none 0 0)]) hB16 (by decide) hb.bd rfl rfl rfl Tryz.sizeOf74 rfl rfl rfl ?_
    intro w49 hB161 t50
    replace hb := hb.trans t50
    replace hB16 : Blk ρ34 8 w49 g12 (.cells #[str ([]), .int .i64 0, (.slice none 0 0)] 74 (0, 0)) := hB161
    clear hB161
    refine sr_go 1 rfl <| sr_fin [6, 7] rfl ?_
    cases hS
    exact ke_ret (rs := [.cell 6 74, .tmp 7]) (vs := [.agg #[str ([]), .int .i64 0, (.slice none 0 0)], .int .i64 13]) Tryz.func49 rfl ⟨⟨_, rfl, run_loadVar_s (cs := [str ([]), .int .i64 0, (.slice none 0 0)]) Tryz.isAgg74 Tryz.sizeOf74 (hB16.cells (vs := [str ([]), .int .i64 0, (.slice none 0 0)]) rfl)⟩, rfl, trivial⟩ rfl ⟨_, rfl, _, rfl, SlR.nil, (hb.below (flat1_le _))⟩
   ·replace hS := iF hS hc48
    refine ke_skip <| ke_inBlock <| ke_seq <| ke_region ?_
    refine sr_e (v := .agg #[str y29.user, .int .i64 y29.begun, v31]) (ev_loads (cs := [str y29.user, .int .i64 y29.begun, v31]) Tryz.isAgg74 Tryz.sizeOf74 rfl (hB37.cells (vs := [str y29.user, .int .i64 y29.begun, v31]) rfl)) ?_
    refine sr_storeT (v := .agg #[str y29.user, .int .i64 y29.begun, v31]) (vs := [str y29.user, .int .i64 y29.begun, v31]) (cs' := #[str y29.user, .int .i64 y29.begun, v31]) hB16 (by decide) hb.bd rfl rfl rfl Tryz.sizeOf74 rfl (by first | rfl | (simp only [List.all_cons, List.all_nil, SlR.oneCell h32]; done) | (simp only [List.all_cons, List.all_nil, SlR.oneCell h32]; rfl)) rfl ?_
    intro w51 hB16 t52
    replace h32 := h32.mv t52.rd
    replace hb := hb.trans t52
    refine sr_go 1 rfl <| sr_fin [6, 7] rfl ?_
    cases hS
    exact ke_ret (rs := [.cell 6 74, .tmp 7]) (vs := [.agg #[str y29.user, .int .i64 y29.begun, v31], .int .i64 0]) Tryz.func49 rfl ⟨⟨_, rfl, run_loadVar_s (cs := [str y29.user, .int .i64 y29.begun, v31]) Tryz.isAgg74 Tryz.sizeOf74 (hB16.cells (vs := [str y29.user, .int .i64 y29.begun, v31]) rfl)⟩, rfl, trivial⟩ rfl ⟨_, rfl, _, rfl, (SlR.mv h32 (flat1_back hb hbd)), (hb.below (flat1_le _))⟩
theorem login_attempt_has_1_ok (w0 : World) (hg : Gs w0) {ρA : Tags} (hbd : ∀ b, ρA b ≠ 0 → b < w0.heap.size) (hz : Gz ρA) {p_0 : api_Proof} {c1 : Int} {b1 : Nat} {r : Bool} (he2 : ElT (intC .i64) ρA 0 w0 b1 0 [.int .i64 c1] c1) (hS : login_attempt_has_1 p_0 c1 = some r) :
  Calls Tryz.prog 116 #[.agg #[.int .i64 p_0.Factor, .int .i64 p_0.Time], pT b1 0] w0 (Ret (fun v w' => v = .bool r ∧ Below w0.heap.size w0 w')) := by
 unfold login_attempt_has_1 at hS
 have hb := flat1_fr (ρ := ρA) (w := w0) hbd
 have hz := hz.flat1
 replace he2 := he2.mv flat1_rd (Nat.succ_pos _)
 refine ck Tryz.func116 [0, 1] rfl rfl ?_
 refine ke_seq <| ke_region ?_
 refine sr_boxT 4 (by decide) hb.bd rfl (by decide) ?_
 intro g3 ρ4 w5 hB7 t6
 replace he2 := he2.mv (t6.mv (i := 0) rfl) (Nat.succ_pos _)
 replace hb := hb.trans t6
 refine sr_go 1 rfl <| sr_fin [1, 2] rfl <| ke_seq <| ke_region ?_
 refine sr_fa 0 Tryz.underlying42 rfl Tryz.info40 ?_
 refine sr_ld (.int .i64 p_0.Factor) Tryz.isAgg40 rfl (hB7.cell rfl) ?_
 refine sr_ld (.int .i64 c1) Tryz.isAgg40 rfl (he2.cell 0 _ rfl) ?_
 refine sr_go 2 rfl <| sr_fin [3] rfl ?_
 cases hS
 exact ke_ret1 Tryz.func116 rfl rfl ⟨_, rfl, rfl, (hb.below (flat1_le _))⟩
theorem slices_IndexFunc_api_Proof_api_Proof__attempt_has_1_L1_ok {w0 : World} (hg : Gs w0) {ρA : Tags} (hbd : ∀ b, ρA b ≠ 0 → b < w0.heap.size) (hz : Gz (flat1 ρA)) : ∀ (n : Nat), ∀ {r : Int} {s_0 : List api_Proof} {f_1_c0 : Int} {t_7 : Int} {t_8 : Int} {vs_0 : Value} {bf_1_c0 : Nat}, slices_IndexFunc_api_Proof_api_Proof__attempt_has_1_L1 n s_0 f_1_c0 t_7 t_8 = some r → ∀ {ρ : Tags} {w : World}, (Fr (flat1 ρA) w0 ρ w) → (SlR api_Proof.c (Wb ρ) w vs_0 s_0) → (ElT (intC .i64) ρ 0 w bf_1_c0 0 [.int .i64 f_1_c0] f_1_c0) → KE Tryz.prog 121 (Ret (fun v w' => v = .int .i64 r ∧ Below w0.heap.size w0 w')) 19 [.code (sub (bodyOf Tryz.f121) [2, 1, 2, 2, 1]), .inLoop (sub (bodyOf Tryz.f121) [2, 1, 2, 2, 1]), .inBlock 0, .code (sub (bodyOf Tryz.f121) [2, 2])] [(0, vs_0), (1, .func (.func 116) #[] #[pT bf_1_c0 0]), (7, .int .i64 t_7), (8, .int .i64 t_8)] w := by
 intro n
 induction n with
 | zero => intro r s_0 f_1_c0 t_7 t_8 vs_0 bf_1_c0 hS; cases hS
 | succ n ih =>
  have hr0 : ∀ {r : Int} {s_0 : List api_Proof} {f_1_c0 : Int} {t_7 : Int} {t_8 : Int} {vs_0 : Value} {bf_1_c0 : Nat}, slices_IndexFunc_api_Proof_api_Proof__attempt_has_1_L1 n s_0 f_1_c0 t_7 t_8 = some r → ∀ {ρ : Tags} {w : World}, (Fr (flat1 ρA) w0 ρ w) → (SlR api_Proof.c (Wb ρ) w vs_0 s_0) → (ElT (intC .i64) ρ 0 w bf_1_c0 0 [.int .i64 f_1_c0] f_1_c0) → KE Tryz.prog 121 (Ret (fun v w' => v = .int .i64 r ∧ Below w0.heap.size w0 w')) 19 [.inLoop (sub (bodyOf Tryz.f121) [2, 1, 2, 2, 1]), .inBlock 0, .code (sub (bodyOf Tryz.f121) [2, 2])] [(0, vs_0), (1, .func (.func 116) #[] #[pT bf_1_c0 0]), (7, .int .i64 t_7), (8, .int .i64 t_8)] w := fun {r} {s_0} {f_1_c0} {t_7} {t_8} {vs_0} {bf_1_c0} hS {ρ} {w} hb hs_0 hef_1_c0 => ke_inLoop (ih hS hb hs_0 hef_1_c0)
  clear ih
  intro r s_0 f_1_c0 t_7 t_8 vs_0 bf_1_c0 hS ρ w hb hs_0 hef_1_c0
  unfold slices_IndexFunc_api_Proof_api_Proof__attempt_has_1_L1 at hS
  refine ke_seq <| ke_region <| sr_go 1 rfl <| sr_fin [0, 1, 7, 8, 9] rfl <| ke_seq ?_
  refine ke_cond rfl (fun hc5 => ?_) (fun hc5 => ?_)
  ·replace hS := iT hS hc5
   refine ke_skip <| ke_seq ?_
   refine ke_block ?_
   refine ke_seq <| ke_region <| sr_go 2 rfl <| sr_fin [0, 1, 5, 7, 8] rfl <| ke_seq <| ke_region <| sr_go 3 rfl ?_
   obtain ⟨y6, hy7, hS⟩ := bS hS
   obtain ⟨b8, o9, cs11, hq12, he10⟩ := ((SlT.of_sl (i := 0) hs_0)).elem (P := Tryz.prog) Tryz.underlying36 Tryz.info42 rfl hy7
   obtain rfl : cs11 = [.int .i64 y6.Factor, .int .i64 y6.Time] := he10.rd
   refine sr_e (hq12 w rfl rfl) ?_
   refine sr_e (v := .agg #[.int .i64 y6.Factor, .int .i64 y6.Time]) (ev_loads (cs := [.int .i64 y6.Factor, .int .i64 y6.Time]) Tryz.isAgg42 Tryz.sizeOf42 rfl he10.cell) ?_
   obtain ⟨y13, hy14, hS⟩ := bS hS
   refine sr_callc (vs := [.agg #[.int .i64 y6.Factor, .int .i64 y6.Time]]) rfl Tryz.call116 rfl (login_attempt_has_1_ok _ (hg.fr hz hb) (ρA := ρ) hb.bd (hz.fr hg hb) hef_1_c0 hy14) (by decide) ?_
   rintro _ w15 ⟨rfl, hbw16⟩
   have t17 := Tr.of_below hbw16 hb.bd
   replace hs_0 := hs_0.mv t17.rd
   replace hef_1_c0 := hef_1_c0.mv (t17.mv (i := 0) rfl) (Nat.succ_pos _)
   replace hb := hb.trans t17
   refine sr_fin [0, 1, 5, 7, 8, 16] rfl ?_
   refine ke_cond rfl (fun hc18 => ?_) (fun hc18 => ?_)
   ·replace hS := iT hS hc18
    refine ke_seq <| ke_region <| sr_go 2 rfl <| sr_fin [4] rfl ?_
    cases hS
    exact ke_ret1 Tryz.func121 rfl rfl ⟨_, rfl, rfl, (hb.below (flat1_le _))⟩
   ·replace hS := iF hS hc18
    refine ke_skip <| ke_inBlock <| ke_region <| sr_go 2 rfl <| sr_fin [0, 1, 7, 8] rfl ?_
    have hK := hr0 hS hb hs_0 hef_1_c0
    exact ke_wk hK
  ·replace hS := iF hS hc5
   refine ke_exit (k' := _) rfl ?_
   refine ke_seq <| ke_region <| sr_go 1 rfl <| sr_fin [4] rfl ?_
   cases hS
   exact ke_ret1 Tryz.func121 rfl rfl ⟨_, rfl, rfl, (hb.below (flat1_le _))⟩
theorem slices_IndexFunc_api_Proof_api_Proof__attempt_has_1_ok (w0 : World) (hg : Gs w0) {ρA : Tags} (hbd : ∀ b, ρA b ≠ 0 → b < w0.heap.size) (hz : Gz ρA) {s_0 : List api_Proof} {c1_0 : Int} {v1 : Value} {b3 : Nat} {r : Int} (h2 : SlR api_Proof.c (Wb ρA) w0 v1 s_0) (he4 : ElT (intC .i64) ρA 0 w0 b3 0 [.int .i64 c1_0] c1_0) (hS : slices_IndexFunc_api_Proof_api_Proof__attempt_has_1 s_0 c1_0 = some r) :
  Calls Tryz.prog 121 #[v1, .func (.func 116) #[] #[pT b3 0]] w0 (Ret (fun v w' => v = .int .i64 r ∧ Below w0.heap.size w0 w')) := by
 unfold slices_IndexFunc_api_Proof_api_Proof__attempt_has_1 at hS
 have hb := flat1_fr (ρ := ρA) (w := w0) hbd
 have hz := hz.flat1
 replace h2 := SlR.mv h2 flat1_rd
 replace he4 := he4.mv flat1_rd (Nat.succ_pos _)
 refine ck Tryz.func121 [0, 1] rfl rfl ?_
 refine ke_seq <| ke_region <| sr_go 1 rfl <| sr_fin [0, 1] rfl <| ke_seq <| ke_seq <| ke_region <| sr_go 1 rfl ?_
 refine sr_e (ev_sllenW Tryz.underlying36 rfl h2.asSl) ?_
 refine sr_go 1 rfl <| sr_fin [0, 1, 7, 8] rfl ?_
 refine ke_block ?_
 have hK := slices_IndexFunc_api_Proof_api_Proof__attempt_has_1_L1_ok hg hbd hz _ hS hb h2 he4
 exact ke_wk (ke_loop hK)
theorem slices_ContainsFunc_api_Proof_api_Proof__attempt_has_1_ok (w0 : World) (hg : Gs w0) {ρA : Tags} (hbd : ∀ b, ρA b ≠ 0 → b < w0.heap.size) (hz : Gz ρA) {s_0 : List api_Proof} {c1_0 : Int} {v1 : Value} {b3 : Nat} {r : Bool} (h2 : SlR api_Proof.c (Wb ρA) w0 v1 s_0) (he4 : ElT (intC .i64) ρA 0 w0 b3 0 [.int .i64 c1_0] c1_0) (hS : slices_ContainsFunc_api_Proof_api_Proof__attempt_has_1 s_0 c1_0 = some r) :
  Calls Tryz.prog 94 #[v1, .func (.func 116) #[] #[pT b3 0]] w0 (Ret (fun v w' => v = .bool r ∧ Below w0.heap.size w0 w')) := by
 unfold slices_ContainsFunc_api_Proof_api_Proof__attempt_has_1 at hS
 have hb := flat1_fr (ρ := ρA) (w := w0) hbd
 have hz := hz.flat1
 replace h2 := SlR.mv h2 flat1_rd
 replace he4 := he4.mv flat1_rd (Nat.succ_pos _)
 refine ck Tryz.func94 [0, 1] rfl rfl ?_
 refine ke_seq <| ke_region <| sr_go 1 rfl <| sr_fin [0, 1] rfl <| ke_seq <| ke_region <| sr_go 2 rfl ?_
 obtain ⟨y5, hy6, hS⟩ := bS hS
 refine sr_cb Tryz.call121 (slices_IndexFunc_api_Proof_api_Proof__attempt_has_1_ok _ (hg.fr hz hb) hb.bd (hz.fr hg hb) h2 he4 hy6) hb.bd ?_
 intro w7 t9
 replace hb := hb.trans t9
 refine sr_go 2 rfl <| sr_fin [4] rfl ?_
 cases hS
 exact ke_ret1 Tryz.func94 rfl rfl ⟨_, rfl, rfl, (hb.below (flat1_le _))⟩
theorem login_attempt_has_ok (w0 : World) (hg : Gs w0) {ρA : Tags} (hbd : ∀ b, ρA b ≠ 0 → b < w0.heap.size) (hz : Gz ρA) {a_0 : login_attempt} {f_1 : Int} {v1 : Value} {r : Bool} (h2 : SlR api_Proof.c (Wb ρA) w0 v1 a_0.proofs) (hS : login_attempt_has a_0 f_1 = some r) :
  Calls Tryz.prog 89 #[.agg #[str a_0.user, .int .i64 a_0.begun, v1], .int .i64 f_1] w0 (Ret (fun v w' => v = .bool r ∧ Below w0.heap.size w0 w')) := by
 unfold login_attempt_has at hS
 have hb := flat1_fr (ρ := ρA) (w := w0) hbd
 have hz := hz.flat1
 replace h2 := SlR.mv h2 flat1_rd
 refine ck Tryz.func89 [0, 1] rfl rfl ?_
 refine ke_seq <| ke_region ?_
 refine sr_boxT 4 (by decide) hb.bd rfl (by decide) ?_
 intro g3 ρ4 w5 hB7 t6
 replace h2 := h2.mv t6.rd
 replace hb := hb.trans t6
 refine sr_boxT 5 (by decide) hb.bd rfl (by decide) ?_
 intro g8 ρ9 w10 hB12 t11
 replace hB7 := hB7.m t11
 replace h2 := h2.mv t11.rd
 replace hb := hb.trans t11
 refine sr_go 1 rfl <| sr_fin [2, 3] rfl <| ke_seq <| ke_region ?_
 refine sr_fa 2 Tryz.underlying74 rfl Tryz.info36 ?_
 refine sr_ld v1 Tryz.isAgg36 rfl (hB7.cell rfl) ?_
 have t13 := frz_tr (ρ := ρ9) (w := w10) (i := 5) (by decide) hb.bd
 have he14 : ElT (intC .i64) (frz ρ9 5) 0 w10 g8 0 [.int .i64 f_1] f_1 := Blk.frzEl hB12 rfl rfl
 replace h2 := h2.mv t13.rd
 replace hb := hb.trans t13
 refine sr_e (v := .func (.func 116) #[] #[pT g8 0]) (ev_makeFunc rfl) ?_
 obtain ⟨y15, hy16, hS⟩ := bS hS
 refine sr_cb Tryz.call94 (slices_ContainsFunc_api_Proof_api_Proof__attempt_has_1_ok _ (hg.fr hz hb) hb.bd (hz.fr hg hb) h2 he14 hy16) hb.bd ?_
 intro w17 t19
 replace hb := hb.trans t19
 refine sr_go 1 rfl <| sr_fin [4] rfl ?_
 cases hS
 exact ke_ret1 Tryz.func89 rfl rfl ⟨_, rfl, rfl, (hb.below (flat1_le _))⟩
theorem secret_Locks_Locked_ok (w0 : World) (hg : Gs w0) {ρA : Tags} (hbd : ∀ b, ρA b ≠ 0 → b < w0.heap.size) (hz : Gz ρA) {τ0 : Nat → Nat} (hτ0 : ∀ p, 1 ≤ τ0 p) {k_0 : secret_Locks} {user_1 : Str} {now_2 : Int} {gk_0 : Nat} {r : Bool} (ho0 : secret_Locks.O τ0 ρA w0 gk_0 k_0) (hS : secret_Locks_Locked k_0 user_1 now_2 = some r) :
  Calls Tryz.prog 57 #[pT gk_0 0, str user_1, .int .i64 now_2] w0 (Ret (fun v w' => v = .bool r ∧ Below w0.heap.size w0 w')) := by
 unfold secret_Locks_Locked at hS
 have hb := flat1_fr (ρ := ρA) (w := w0) hbd
 have hz := hz.flat1
 obtain ⟨v1, lp3, hB5, h2, hR4⟩ := ho0
 replace hB5 := hB5.mv (flat1_mv (hτ0 0))
 replace h2 := h2.mv (flat1_mv (hτ0 1))
 replace hR4 := Recs.mv hR4 secret_record.objK (flat1_mv (hτ0 2)) (by decide)
 refine ck Tryz.func57 [0, 1, 2] rfl rfl ?_
 refine ke_seq <| ke_region <| sr_go 1 rfl <| sr_fin [0, 1, 2] rfl <| ke_seq ?_
 refine ke_region_q Tryz.mixed (by kernel_rfl) ?_
 refine sq_go 1 rfl ?_
 refine sq_ev (v := .bool true) (fun w1 hw1 => ev_pneT_some Tryz.underlying64 rfl rfl) (by decide) ?_
 refine sq_go 3 rfl ?_
 refine sq_evg (b := true) (e := 9) rfl rfl rfl (v := pT gk_0 3) (fun w1 hw1 => ev_fieldAddr (i := 3) Tryz.underlying134 rfl Tryz.info132 rfl rfl) (by decide) ?_
 refine sq_evg (b := true) (e := 9) rfl rfl rfl (v := v1) (fun w1 hw1 => ev_load Tryz.isAgg132 rfl ((hB5.mv (Mv.of_below (i := 1) (ρ := (flat1 ρA)) hw1)).cell rfl)) (by decide) ?_
 refine sq_go 1 rfl ?_
 refine sq_evg (b := true) (e := 9) rfl rfl rfl (v := (pval (mgetD lp3 user_1 none))) (fun w1 hw1 => ev_pmLook h2 Tryz.keyB9 Tryz.underlying132 Tryz.zeroValue131 (Mv.of_below (i := 1) (ρ := (flat1 ρA)) hw1) rfl rfl) (by decide) ?_
 refine sq_evg (b := true) (e := 9) rfl rfl rfl (v := .bool (!(mgetP k_0.users user_1).isNone)) (fun w1 hw1 => pptr_ne (p := mgetD lp3 user_1 none) rfl (RecsX.ptrNil hR4 user_1) Tryz.underlying131 rfl rfl) (by decide) ?_
 refine sq_go 2 rfl ?_
 obtain ⟨z10, hz12, hS⟩ := bS hS
 refine sq_join (m := 13) (C := fun (x : Bool) => z10 = x) (l' := fun x => [(31, .bool x)]) ?_ ?_
 ·rintro _ rfl
  refine sq_go 1 rfl ?_
  refine sq_fin [6] rfl (fun w7 hw6 => ?_)
  have t27 := Tr.of_below hw6 hb.bd
  replace hb := hb.trans t27
  cases hS
  exact ke_ret1 Tryz.func57 rfl rfl ⟨_, rfl, rfl, (hb.below (flat1_le _))⟩
 ·intro K9
  clear hS
  rcases Bool.eq_false_or_eq_true (!(mgetP k_0.users user_1).isNone) with hg8 | hg8
  ·have hS := iT hz12 hg8
   refine sq_setb 18 rfl hg8 <| sq_go 1 rfl ?_
   obtain ⟨y15, hy16, hS⟩ := bS hS
   refine sq_callg (b := true) (e := 18) rfl rfl rfl (v := .int .i64 y15) (vs := [.int .i64 now_2, .int .i64 0]) rfl Tryz.call39 rfl (fun w1 hw1 => (clock_Add_ok _ ((hg.fr hz hb).below hw1) hy16)) (by decide) ?_
   refine sq_go 2 rfl ?_
   refine sq_evg (b := true) (e := 18) rfl rfl rfl (v := pT gk_0 3) (fun w1 hw1 => ev_fieldAddr (i := 3) Tryz.underlying134 rfl Tryz.info132 rfl rfl) (by decide) ?_
   refine sq_evg (b := true) (e := 18) rfl rfl rfl (v := v1) (fun w1 hw1 => ev_load Tryz.isAgg132 rfl ((hB5.mv (Mv.of_below (i := 1) (ρ := (flat1 ρA)) hw1)).cell rfl)) (by decide) ?_
   refine sq_go 1 rfl ?_
   refine sq_evg (b := true) (e := 18) rfl rfl rfl (v := (pval (mgetD lp3 user_1 none))) (fun w1 hw1 => ev_pmLook h2 Tryz.keyB9 Tryz.underlying132 Tryz.zeroValue131 (Mv.of_below (i := 1) (ρ := (flat1 ρA)) hw1) rfl rfl) (by decide) ?_
   obtain ⟨y20, hy21, hS⟩ := bS hS
   obtain ⟨g22, hvb23, ⟨v24, hB26, h25⟩⟩ := Recs.peekX hR4 secret_record.objK (by decide) hy21
   try rw [hvb23]
   refine sq_go 1 rfl ?_
   refine sq_evg (b := true) (e := 18) rfl rfl rfl (v := pT g22 1) (fun w1 hw1 => ev_fieldAddr (i := 1) Tryz.underlying137 rfl Tryz.info3 rfl rfl) (by decide) ?_
   refine sq_evg (b := true) (e := 18) rfl rfl rfl (v := .int .i64 y20.until_) (fun w1 hw1 => ev_load Tryz.isAgg3 rfl ((hB26.mv (Mv.of_below (i := 1) (ρ := (flat1 ρA)) hw1)).cell rfl)) (by decide) ?_
   refine sq_go 2 rfl ?_
   exact sq_wk (K9 (decide (y15 < y20.until_)) (Option.some.inj hS).symm)
  ·have hS := iF hz12 hg8
   refine sq_setb 18 rfl hg8 <| sq_go 13 rfl ?_
   exact sq_wk (K9 false (Option.some.inj hS).symm)
theorem secret_Check_ok (w0 : World) (hg : Gs w0) {v_0 : api_Verifier} {password_1 : Str} {r : Bool} (hS : secret_Check v_0 password_1 = some r) :
  Calls Tryz.prog 21 #[.agg #[str v_0.Salt, .int .i64 v_0.Rounds, str v_0.Hash], str password_1] w0 (Ret (fun v w' => v = .bool r ∧ Below w0.heap.size w0 w')) := by
 unfold secret_Check at hS
 have hb := Below.refl w0.heap.size w0
 obtain ⟨A0, hA0, hAe⟩ : ∃ A0 : Nat → Prop, (∀ b, A0 b → b < w0.heap.size) ∧ A0 = fun _ => False := ⟨_, fun _ h => h.elim, rfl⟩
 clear hAe
 have hA := hA0
 have hi : ∀ b, A0 b → A0 b := fun _ h => h
 have hH := Hp.nil A0 w0.heap.size w0
 refine ck Tryz.func21 [0, 1] rfl rfl ?_
 refine ke_seq <| ke_region ?_
 refine sr_box hH hb.size hA rfl (by decide) ?_
 intro g1 A2 w3 hH1 hst4 hbw5 hinc6 hA1 hge7
 replace hb := hb.trans (hbw5.mono hb.size)
 replace hi := fun b hb => hinc6 b (hi b hb)
 replace hH : Hp A2 w0.heap.size w3 [(g1, .cells #[str v_0.Salt, .int .i64 v_0.Rounds, str v_0.Hash] 45 (0, 0))] := hH1
 replace hA := hA1
 clear hH1 hA1
 refine sr_go 1 rfl <| sr_fin [1, 2] rfl <| ke_seq ?_
 refine ke_region_q Tryz.mixed (by kernel_rfl) ?_
 refine sq_ev (v := .agg #[str v_0.Salt, .int .i64 v_0.Rounds, str v_0.Hash]) (fun w1 hw1 => ev_loads Tryz.isAgg45 Tryz.sizeOf45 rfl ((hH.below hw1).cells (i := 0) (vs := [str v_0.Salt, .int .i64 v_0.Rounds, str v_0.Hash]) rfl rfl)) (by decide) ?_
 obtain ⟨y10, hy11, hS⟩ := bS hS
 refine sq_call (v := .bool y10) (vs := [.agg #[str v_0.Salt, .int .i64 v_0.Rounds, str v_0.Hash]]) rfl Tryz.call56 rfl (fun w1 hw1 => (secret_Valid_ok _ (hg.below (hb.trans (hw1.mono hb.size))) hy11)) (by decide) ?_
 refine sq_go 1 rfl ?_
 obtain ⟨z16, hz18, hS⟩ := bS hS
 refine sq_join (m := 3) (C := fun (x : Bool) => z16 = x) (l' := fun x => [(1, str password_1), (2, pT g1 0), (10, .bool x)]) ?_ ?_
 ·rintro _ rfl
  refine sq_go 1 rfl ?_
  obtain ⟨z27, hz29, hS⟩ := bS hS
  refine sq_join (m := 10) (C := fun (x : Bool) => z27 = x) (l' := fun x => [(21, .bool x)]) ?_ ?_
  ·rintro _ rfl
   refine sq_go 1 rfl ?_
   refine sq_fin [4] rfl (fun w9 hw8 => ?_)
   replace hb := hb.trans (hw8.mono hb.size)
   replace hA := lt_mono hA hw8.size
   replace hH := hH.below hw8
   cases hS
   exact ke_ret1 Tryz.func21 rfl rfl ⟨_, rfl, rfl, hb⟩
  ·intro K26
   clear hS
   rcases Bool.eq_false_or_eq_true z16 with hg25 | hg25
   ·have hS := iT hz29 hg25
    refine sq_evg (b := true) (e := 11) rfl rfl hg25 (v := pT g1 2) (fun w1 hw1 => ev_fieldAddr (i := 2) Tryz.underlying45 rfl Tryz.info9 rfl rfl) (by decide) ?_
    refine sq_evg (b := true) (e := 11) rfl rfl hg25 (v := str v_0.Hash) (fun w1 hw1 => ev_load Tryz.isAgg9 rfl ((hH.below hw1).cell (i := 0) rfl rfl)) (by decide) ?_
    refine sq_evg (b := true) (e := 11) rfl rfl hg25 (v := pT g1 0) (fun w1 hw1 => ev_fieldAddr (i := 0) Tryz.underlying45 rfl Tryz.info9 rfl rfl) (by decide) ?_
    refine sq_evg (b := true) (e := 11) rfl rfl hg25 (v := str v_0.Salt) (fun w1 hw1 => ev_load Tryz.isAgg9 rfl ((hH.below hw1).cell (i := 0) rfl rfl)) (by decide) ?_
    refine sq_setb 11 rfl hg25 <| sq_go 1 rfl ?_
    refine sq_evg (b := true) (e := 11) rfl rfl rfl (v := pT g1 1) (fun w1 hw1 => ev_fieldAddr (i := 1) Tryz.underlying45 rfl Tryz.info3 rfl rfl) (by decide) ?_
    refine sq_evg (b := true) (e := 11) rfl rfl rfl (v := .int .i64 v_0.Rounds) (fun w1 hw1 => ev_load Tryz.isAgg3 rfl ((hH.below hw1).cell (i := 0) rfl rfl)) (by decide) ?_
    obtain ⟨y32, hy33, hS⟩ := bS hS
    refine sq_callg (b := true) (e := 11) rfl rfl rfl (v := str y32) (vs := [str v_0.Salt, str password_1, .int .i64 v_0.Rounds]) rfl Tryz.call55 rfl (fun w1 hw1 => (digest_Iterate_ok _ (hg.below (hb.trans (hw1.mono hb.size))) hy33)) (by decide) ?_
    refine sq_evg (b := true) (e := 11) rfl rfl rfl (v := .bool (v_0.Hash == y32)) (fun w1 hw1 => ev_seq rfl rfl) (by decide) ?_
    refine sq_go 1 rfl ?_
    exact sq_wk (K26 (v_0.Hash == y32) (Option.some.inj hS).symm)
   ·have hS := iF hz29 hg25
    refine sq_setb 11 rfl hg25 <| sq_go 10 rfl ?_
    exact sq_wk (K26 false (Option.some.inj hS).symm)
 ·intro K15
  clear hS
  rcases Bool.eq_false_or_eq_true y10 with hg14 | hg14
  ·have hS := iT hz18 hg14
   refine sq_setb 7 rfl hg14 <| sq_go 1 rfl ?_
   obtain ⟨y21, hy22, hS⟩ := bS hS
   refine sq_callg (b := true) (e := 7) rfl rfl rfl (v := .bool y21) (vs := [str password_1]) rfl Tryz.call54 rfl (fun w1 hw1 => (secret_isPassword_ok _ (hg.below (hb.trans (hw1.mono hb.size))) hy22)) (by decide) ?_
   refine sq_go 1 rfl ?_
   exact sq_wk (K15 y21 (Option.some.inj hS).symm)
  ·have hS := iF hz18 hg14
   refine sq_setb 7 rfl hg14 <| sq_go 3 rfl ?_
   exact sq_wk (K15 false (Option.some.inj hS).symm)
theorem secret_Locks_Clear_ok (w0 : World) (hg : Gs w0) {ρA : Tags} (hbd : ∀ b, ρA b ≠ 0 → b < w0.heap.size) (hz : Gz ρA) {o : Nat} (ho2 : 2 ≤ o) {k_0 : secret_Locks} {user_1 : Str} {gk_0 : Nat} {r : secret_Locks} (ho0 : secret_Locks.O (fun p => o + p) ρA w0 gk_0 k_0) (hS : secret_Locks_Clear k_0 user_1 = some r) :
  Calls Tryz.prog 77 #[pT gk_0 0, str user_1] w0 (Ret (fun v w' => ∃ ρ', v = .tuple #[] ∧ secret_Locks.O (fun p => o + p) ρ' w' gk_0 r ∧ Tr ρA w0 (rng o 3) ρ' w')) := by
 unfold secret_Locks_Clear at hS
 have hb := enter_fr (ρ := ρA) (w := w0) (n := 3) ho2 hbd
 have hz := hz.enter (n := 3) ho2
 obtain ⟨v1, lp3, hB5, h2, hR4⟩ := ho0
 replace hB5 := hB5.mv (enter_mv (p := 0) (n := 3) (by decide) ho2)
 replace h2 := h2.mv (enter_mv (p := 1) (n := 3) (by decide) ho2)
 replace hR4 := Recs.mv hR4 secret_record.objK (enter_mv (p := 2) (n := 3) (by decide) ho2) (by decide)
 refine ck Tryz.func77 [0, 1] rfl rfl ?_
 refine ke_seq <| ke_region <| sr_go 1 rfl ?_
 refine sr_e (ev_pneT_some Tryz.underlying64 rfl rfl) ?_
 refine sr_fin [0, 1, 5] rfl ?_
 refine ke_cond rfl (fun _ => ?_) (fun h => by cases h)
 refine ke_region <| sr_go 2 rfl ?_
 refine sr_fa 3 Tryz.underlying134 rfl Tryz.info132 ?_
 refine sr_ld v1 Tryz.isAgg132 rfl (hB5.cell rfl) ?_
 refine sr_go 1 rfl ?_
 have hR8 := Recs.delX hR4 user_1
 refine sr_mapDel0 (k := user_1) h2 Tryz.keyB9 Tryz.underlying132 (by decide) hb.bd rfl rfl ?_
 intro w6 h21 t7
 replace hR8 := Recs.mv hR8 secret_record.objK (t7.mv (i := 102) rfl) (by decide)
 replace hB5 := hB5.m t7
 replace hb := hb.trans t7
 replace h2 := h21
 clear h21
 refine sr_fin [] rfl ?_
 cases hS
 exact ke_end0 Tryz.func77 rfl ⟨_, rfl, _, rfl, ⟨_, _, (hB5.lv 0 hb), (h2.lv 1 hb), (Recs.mv hR8 secret_record.objK (leave_mv (p := 2) (by decide) hb) (Nat.ne_of_gt (Nat.lt_of_lt_of_le (Nat.lt_of_lt_of_le Nat.zero_lt_two ho2) (Nat.le_add_right _ _))))⟩, (leave_tr ho2 hb)⟩
theorem secret_Locks_Clear__nil_ok (w0 : World) (hg : Gs w0) {ρA : Tags} (hbd : ∀ b, ρA b ≠ 0 → b < w0.heap.size) (hz : Gz ρA) {user_1 : Str} {r : Unit} (hS : secret_Locks_Clear__nil user_1 = some r) :
  Calls Tryz.prog 77 #[.pointer none, str user_1] w0 (Ret (fun v w' => v = .tuple #[] ∧ Below w0.heap.size w0 w')) := by
 unfold secret_Locks_Clear__nil at hS
 have hb := flat1_fr (ρ := ρA) (w := w0) hbd
 have hz := hz.flat1
 refine ck Tryz.func77 [0, 1] rfl rfl ?_
 refine ke_seq <| ke_region <| sr_go 1 rfl ?_
 refine sr_e (ev_pneT_nil Tryz.underlying64 rfl rfl) ?_
 refine sr_fin [0, 1, 5] rfl ?_
 refine ke_cond rfl (fun h => by cases h) (fun _ => ?_)
 refine ke_skip ?_
 cases hS
 exact ke_end0 Tryz.func77 rfl ⟨_, rfl, rfl, (hb.below (flat1_le _))⟩
theorem login_Logins_byPassword_ok (w0 : World) (hg : Gs w0) {ρA : Tags} (hbd : ∀ b, ρA b ≠ 0 → b < w0.heap.size) (hz : Gz ρA) {o : Nat} (ho2 : 2 ≤ o) {l_0 : login_Logins} {user_1 : Str} {password_2 : Str} {now_3 : Int} {gl_0 : Nat} {r : Bool × login_Logins} (ho0 : login_Logins.O (fun p => o + p) ρA w0 gl_0 l_0) (hS : login_Logins_byPassword l_0 user_1 password_2 now_3 = some r) :
  Calls Tryz.prog 53 #[pT gl_0 0, str user_1, str password_2, .int .i64 now_3] w0 (Ret (fun v w' => ∃ ρ', v = .bool r.1 ∧ login_Logins.O (fun p => o + p) ρ' w' gl_0 r.2 ∧ Tr ρA w0 (rng o 7) ρ' w')) := by
 unfold login_Logins_byPassword at hS
 have hb := enter_fr (ρ := ρA) (w := w0) (n := 7) ho2 hbd
 have hz := hz.enter (n := 7) ho2
 obtain ⟨v1, v3, v5, v7, hB9, hP2, h4, h6, h8⟩ := ho0
 replace hB9 := hB9.mv (enter_mv (p := 0) (n := 7) (by decide) ho2)
 replace hP2 := PtrO.mv hP2 secret_Locks.objK (fun p hp => enter_mv (p := 1 + p) (n := 7) (by omega) ho2) (fun p hp => by omega)
 replace h4 := h4.mv (enter_mv (p := 4) (n := 7) (by decide) ho2)
 replace h6 := h6.mv (enter_mv (p := 5) (n := 7) (by decide) ho2)
 replace h8 := h8.mv (enter_mv (p := 6) (n := 7) (by decide) ho2)
 refine ck Tryz.func53 [0, 1, 2, 3] rfl rfl ?_
 refine ke_seq <| ke_region <| sr_go 1 rfl <| sr_fin [0, 1, 2] rfl <| ke_seq <| ke_region <| sr_go 2 rfl ?_
 refine sr_fa 1 Tryz.underlying69 rfl Tryz.info65 ?_
 refine sr_ld v3 Tryz.isAgg65 rfl (hB9.cell rfl) ?_
 refine sr_go 1 rfl ?_
 obtain ⟨y14, hy15, hS⟩ := bS hS
 replace hy15 := Option.some.inj hy15
 obtain ⟨cs10, hrd11, hl12, hl13⟩ := h4.look (zcs := [str ([]), .int .i64 0, str ([]), str ([])]) (z := (login_credentials.mk (api_Verifier.mk ([]) 0 ([])) ([]))) Tryz.keyB9 Tryz.underlying65 Tryz.zeroValue98 rfl user_1
 rw [hy15] at hrd11
 obtain rfl : cs10 = [str y14.verifier.Salt, .int .i64 y14.verifier.Rounds, str y14.verifier.Hash, str y14.code] := hrd11
 refine sr_e (hl13 w0 _ _ (Mv.of_below (i := 104) (ρ := (enter ρA o 7)) (Below.refl _ _)) rfl rfl) ?_
 refine sr_go 3 rfl ?_
 refine sr_allocT 11 (by decide) hb.bd Tryz.zeroValue98 (by decide) ?_
 intro g16 ρ17 w18 hB20 t19
 replace hb := hb.trans t19
 refine sr_storeT (v := .agg #[str y14.verifier.Salt, .int .i64 y14.verifier.Rounds, str y14.verifier.Hash, str y14.code]) (vs := [str y14.verifier.Salt, .int .i64 y14.verifier.Rounds, str y14.verifier.Hash, str y14.code]) (cs' := #[str y14.verifier.Salt, .int .i64 y14.verifier.Rounds, str y14.verifier.Hash, str y14.code]) hB20 (by decide) hb.bd rfl rfl rfl Tryz.sizeOf98 rfl rfl rfl ?_
 intro w21 hB20 t22
 replace hB9 := (hB9.m t19).m t22
 replace hP2 := (hP2.m secret_Locks.objK t19).m secret_Locks.objK t22
 replace h4 := (h4.m t19).m t22
 replace h6 := (h6.m t19).m t22
 replace h8 := (h8.m t19).m t22
 replace hb := hb.trans t22
 refine sr_go 1 rfl <| sr_fin [0, 1, 2, 9, 10] rfl <| ke_seq <| ke_seq <| ke_region <| sr_go 3 rfl ?_
 obtain ⟨z25, hz27, hS⟩ := bS hS
 refine sr_join (m := 6) (C := fun (z : Bool) w1 => z25 = z ∧ ∃ ρ1, Tr ρ17 w21 (fun _ => false) ρ1 w1) (l' := fun z => [(0, pT gl_0 0), (1, str user_1), (28, .bool z)]) ?_ ?_
 ·rintro _ w28 ⟨rfl, ρ29, hj26⟩
  replace hB9 := hB9.m hj26
  replace hP2 := hP2.m secret_Locks.objK hj26
  replace h4 := h4.m hj26
  replace h6 := h6.m hj26
  replace h8 := h8.m hj26
  replace hb := hb.trans hj26
  refine sr_fin [0, 1, 28] rfl ?_
  refine ke_cond rfl (fun hc36 => ?_) (fun hc36 => ?_)
  ·replace hS := iT hS hc36
   refine ke_seq <| ke_region <| sr_go 1 rfl <| sr_fin [8] rfl ?_
   cases hS
   exact ke_ret1 Tryz.func53 rfl rfl ⟨_, rfl, _, rfl, ⟨_, _, _, _, (hB9.lv 0 hb), (hP2.lv secret_Locks.objK ho2 hb), (h4.lv 4 hb), (h6.lv 5 hb), (h8.lv 6 hb)⟩, (leave_tr ho2 hb)⟩
  ·replace hS := iF hS hc36
   refine ke_skip <| ke_seq <| ke_region <| sr_go 2 rfl ?_
   refine sr_fa 0 Tryz.underlying69 rfl Tryz.info64 ?_
   refine sr_ld v1 Tryz.isAgg64 rfl (hB9.cell rfl) ?_
   refine sr_go 1 rfl ?_
   rcases ho38 : l_0.locks with _ | z37
   ·replace hS := optC_none hS ho38
    obtain rfl := hP2.none_ ho38
    obtain ⟨y56, hy57, hS⟩ := bS hS
    refine sr_cb Tryz.call77 (secret_Locks_Clear__nil_ok _ (hg.fr hz hb) hb.bd (hz.fr hg hb) hy57) hb.bd ?_
    intro w58 t60
    replace hB9 := hB9.m t60
    replace h4 := h4.m t60
    replace h6 := h6.m t60
    replace h8 := h8.m t60
    replace hb := hb.trans t60
    refine sr_fin [] rfl <| ke_seq <| ke_region <| sr_go 1 rfl <| sr_fin [8] rfl ?_
    cases hS
    exact ke_ret1 Tryz.func53 rfl rfl ⟨_, rfl, _, rfl, ⟨_, _, _, _, (hB9.lv 0 hb), PtrO.nil, (h4.lv 4 hb), (h6.lv 5 hb), (h8.lv 6 hb)⟩, (leave_tr ho2 hb)⟩
   ·replace hS := optC_some hS ho38
    obtain ⟨g39, rfl, ⟨v40, lp42, hB44, h41, hR43⟩⟩ := hP2.some_ ho38
    obtain ⟨y45, hy46, hS⟩ := bS hS
    refine sr_cl Tryz.call77 (secret_Locks_Clear_ok _ (hg.fr hz hb) hb.bd (hz.fr hg hb) (o := 101) (by decide) (by exact ⟨_, _, hB44, h41, hR43⟩) hy46) ?_
    rintro _ w47 ⟨ρ55, rfl, ⟨v50, lp52, hB54, h51, hR53⟩, t49⟩
    replace hB9 := hB9.m t49
    replace h4 := h4.m t49
    replace h6 := h6.m t49
    replace h8 := h8.m t49
    replace hb := hb.trans t49
    refine sr_fin [] rfl <| ke_seq <| ke_region <| sr_go 1 rfl <| sr_fin [8] rfl ?_
    cases hS
    exact ke_ret1 Tryz.func53 rfl rfl ⟨_, rfl, _, rfl, ⟨_, _, _, _, (hB9.lv 0 hb), (PtrO.mk ⟨_, _, (hB54.lv 1 hb), (h51.lv 2 hb), (Recs.mv hR53 secret_record.objK (leave_mv (p := 3) (by decide) hb) (Nat.ne_of_gt (Nat.lt_of_lt_of_le (Nat.lt_of_lt_of_le Nat.zero_lt_two ho2) (Nat.le_add_right _ _))))⟩), (h4.lv 4 hb), (h6.lv 5 hb), (h8.lv 6 hb)⟩, (leave_tr ho2 hb)⟩
 ·intro K24
  clear hS
  have hj26 : Tr ρ17 w21 (fun _ => false) ρ17 w21 := (Tr.refl hb.bd).weak (fun _ _ => rfl) rfl rfl
  rcases Bool.eq_false_or_eq_true (!(mhas l_0.users user_1)) with hg23 | hg23
  ·have hS := iT hz27 hg23
   refine sr_setb 22 rfl hg23 <| sr_go 6 rfl ?_
   exact sr_wk (K24 true _ ⟨(Option.some.inj hS).symm, _, hj26⟩)
  ·have hS := iF hz27 hg23
   refine sr_eg hg23 (ev_fieldAddr (i := 0) Tryz.underlying98 rfl Tryz.info45 rfl rfl) ?_
   refine sr_eg hg23 (v := .agg #[str y14.verifier.Salt, .int .i64 y14.verifier.Rounds, str y14.verifier.Hash]) (ev_loads (cs := [str y14.verifier.Salt, .int .i64 y14.verifier.Rounds, str y14.verifier.Hash]) Tryz.isAgg45 Tryz.sizeOf45 rfl (hB20.cells (vs := [str y14.verifier.Salt, .int .i64 y14.verifier.Rounds, str y14.verifier.Hash]) rfl)) ?_
   refine sr_setb 22 rfl hg23 <| sr_go 1 rfl ?_
   obtain ⟨y31, hy32, hS⟩ := bS hS
   refine sr_callg (b := false) (e := 22) rfl rfl rfl (vs := [.agg #[str y14.verifier.Salt, .int .i64 y14.verifier.Rounds, str y14.verifier.Hash], str password_2]) rfl Tryz.call21 rfl (secret_Check_ok _ (hg.fr hz hb) hy32) (by decide) ?_
   rintro _ w33 ⟨rfl, hbw34⟩
   have t35 := Tr.of_below hbw34 hb.bd
   replace hb := hb.trans t35
   replace hj26 := hj26.tw t35
   refine sr_go 2 rfl ?_
   exact sr_wk (K24 (!y31) _ ⟨(Option.some.inj hS).symm, _, hj26⟩)
theorem secret_Locks_count_B2_ok {w0 : World} (hg : Gs w0) {ρA : Tags} (hbd : ∀ b, ρA b ≠ 0 → b < w0.heap.size) (hz : Gz (flat1 ρA)) (r0 : secret_Locks → Int → Int → List Int → Int → Int → Option (Int))
  (hr0 : ∀ {r : Int} {ok_0 : secret_Locks} {now_2 : Int} {n_7 : Int} {t_13 : List Int} {t_14 : Int} {t_15 : Int} {gk_0 : Nat} {vt_13 : Value}, r0 ok_0 now_2 n_7 t_13 t_14 t_15 = some r → ∀ {ρ : Tags} {w : World}, (Fr (flat1 ρA) w0 ρ w) → (secret_Locks.O (fun _ => 1) ρ w gk_0 ok_0) → (OffT (intC .i64) 3 ρ 1 w vt_13 t_13) → KE Tryz.prog 117 (Ret (fun v w' => v = .int .i64 r ∧ Below w0.heap.size w0 w')) 36 [.inLoop (sub (bodyOf Tryz.f117) [2, 2, 1, 2, 2, 1]), .inBlock 0, .code (sub (bodyOf Tryz.f117) [2, 2, 2])] [(0, pT gk_0 0), (2, .int .i64 now_2), (7, .int .i64 n_7), (13, vt_13), (14, .int .i64 t_14), (15, .int .i64 t_15)] w) {r : Int} {ok_0 : secret_Locks} {now_2 : Int} {n_7 : Int} {t_13 : List Int} {t_14 : Int} {t_15 : Int} {gk_0 : Nat} {vt_13 : Value} (hS : secret_Locks_count_B2 r0 ok_0 now_2 n_7 t_13 t_14 t_15 = some r) {ρ : Tags} {w : World} (hb : Fr (flat1 ρA) w0 ρ w) (hok_0 : secret_Locks.O (fun _ => 1) ρ w gk_0 ok_0) (ht_13 : OffT (intC .i64) 3 ρ 1 w vt_13 t_13) :
  KE Tryz.prog 117 (Ret (fun v w' => v = .int .i64 r ∧ Below w0.heap.size w0 w')) 36 [.inBlock 1, .code (sub (bodyOf Tryz.f117) [2, 2, 1, 2, 2, 1, 2, 2, 2]), .inLoop (sub (bodyOf Tryz.f117) [2, 2, 1, 2, 2, 1]), .inBlock 0, .code (sub (bodyOf Tryz.f117) [2, 2, 2])] [(0, pT gk_0 0), (2, .int .i64 now_2), (7, .int .i64 n_7), (13, vt_13), (14, .int .i64 t_14), (15, .int .i64 t_15)] w := by
 unfold secret_Locks_count_B2 at hS
 obtain ⟨v31, lp33, hB35, h32, hR34⟩ := hok_0
 refine ke_inBlock <| ke_region <| sr_go 2 rfl <| sr_fin [0, 2, 7, 13, 14, 15] rfl ?_
 have hK := hr0 hS hb ⟨_, _, hB35, h32, hR34⟩ ht_13
 exact ke_wk hK
theorem secret_Locks_count_L1_ok {w0 : World} (hg : Gs w0) {ρA : Tags} (hbd : ∀ b, ρA b ≠ 0 → b < w0.heap.size) (hz : Gz (flat1 ρA)) : ∀ (n : Nat), ∀ {r : Int} {ok_0 : secret_Locks} {now_2 : Int} {n_7 : Int} {t_13 : List Int} {t_14 : Int} {t_15 : Int} {gk_0 : Nat} {vt_13 : Value}, secret_Locks_count_L1 n ok_0 now_2 n_7 t_13 t_14 t_15 = some r → ∀ {ρ : Tags} {w : World}, (Fr (flat1 ρA) w0 ρ w) → (secret_Locks.O (fun _ => 1) ρ w gk_0 ok_0) → (OffT (intC .i64) 3 ρ 1 w vt_13 t_13) → KE Tryz.prog 117 (Ret (fun v w' => v = .int .i64 r ∧ Below w0.heap.size w0 w')) 36 [.code (sub (bodyOf Tryz.f117) [2, 2, 1, 2, 2, 1]), .inLoop (sub (bodyOf Tryz.f117) [2, 2, 1, 2, 2, 1]), .inBlock 0, .code (sub (bodyOf Tryz.f117) [2, 2, 2])] [(0, pT gk_0 0), (2, .int .i64 now_2), (7, .int .i64 n_7), (13, vt_13), (14, .int .i64 t_14), (15, .int .i64 t_15)] w := by
 intro n
 induction n with
 | zero => intro r ok_0 now_2 n_7 t_13 t_14 t_15 gk_0 vt_13 hS; cases hS
 | succ n ih =>
  have hr0 : ∀ {r : Int} {ok_0 : secret_Locks} {now_2 : Int} {n_7 : Int} {t_13 : List Int} {t_14 : Int} {t_15 : Int} {gk_0 : Nat} {vt_13 : Value}, secret_Locks_count_L1 n ok_0 now_2 n_7 t_13 t_14 t_15 = some r → ∀ {ρ : Tags} {w : World}, (Fr (flat1 ρA) w0 ρ w) → (secret_Locks.O (fun _ => 1) ρ w gk_0 ok_0) → (OffT (intC .i64) 3 ρ 1 w vt_13 t_13) → KE Tryz.prog 117 (Ret (fun v w' => v = .int .i64 r ∧ Below w0.heap.size w0 w')) 36 [.inLoop (sub (bodyOf Tryz.f117) [2, 2, 1, 2, 2, 1]), .inBlock 0, .code (sub (bodyOf Tryz.f117) [2, 2, 2])] [(0, pT gk_0 0), (2, .int .i64 now_2), (7, .int .i64 n_7), (13, vt_13), (14, .int .i64 t_14), (15, .int .i64 t_15)] w := fun {r} {ok_0} {now_2} {n_7} {t_13} {t_14} {t_15} {gk_0} {vt_13} hS {ρ} {w} hb hok_0 ht_13 => ke_inLoop (ih hS hb hok_0 ht_13)
  clear ih
  intro r ok_0 now_2 n_7 t_13 t_14 t_15 gk_0 vt_13 hS ρ w hb hok_0 ht_13
  unfold secret_Locks_count_L1 at hS
  obtain ⟨v9, lp11, hB13, h10, hR12⟩ := hok_0
  refine ke_seq <| ke_region <| sr_go 1 rfl <| sr_fin [0, 2, 7, 13, 14, 15, 16] rfl <| ke_seq ?_
  refine ke_cond rfl (fun hc14 => ?_) (fun hc14 => ?_)
  ·replace hS := iT hS hc14
   refine ke_skip <| ke_seq ?_
   refine ke_block ?_
   refine ke_seq <| ke_region ?_
   obtain ⟨y15, hy16, hS⟩ := bS hS
   obtain ⟨b17, o18, cs20, hq21, he19⟩ := (ht_13.sl).elem (P := Tryz.prog) Tryz.underlying135 Tryz.info3 rfl hy16
   obtain rfl : cs20 = [.int .i64 y15] := he19.rd
   refine sr_e (hq21 w rfl rfl) ?_
   refine sr_ld (.int .i64 y15) Tryz.isAgg3 rfl (he19.cell 0 _ rfl) ?_
   refine sr_go 1 rfl <| sr_fin [0, 2, 7, 9, 13, 14, 15] rfl <| ke_seq <| ke_region <| sr_go 4 rfl ?_
   refine sr_join (m := 9) (C := fun (x : Bool) w1 => x = ((decide (y15 ≤ now_2)) && (decide ((IntKind.i64.wrap (now_2 - y15)) < ok_0.window))) ∧ w = w1) (l' := fun x => [(0, pT gk_0 0), (2, .int .i64 now_2), (7, .int .i64 n_7), (13, vt_13), (14, .int .i64 t_14), (15, .int .i64 t_15), (31, .bool x)]) ?_ ?_
   ·rintro _ _ ⟨rfl, rfl⟩
    refine sr_fin [0, 2, 7, 13, 14, 15, 31] rfl ?_
    refine ke_cond rfl (fun hc30 => ?_) (fun hc30 => ?_)
    ·replace hS := iT hS hc30
     refine ke_region <| sr_go 3 rfl <| sr_fin [0, 2, 7, 13, 14, 15] rfl ?_
     have hK := secret_Locks_count_B2_ok hg hbd hz _ hr0 hS hb ⟨_, _, hB13, h10, hR12⟩ ht_13
     exact ke_wk hK
    ·replace hS := iF hS hc30
     refine ke_skip ?_
     have hK := secret_Locks_count_B2_ok hg hbd hz _ hr0 hS hb ⟨_, _, hB13, h10, hR12⟩ ht_13
     exact ke_wk hK
   ·intro K23
    rcases Bool.eq_false_or_eq_true (decide (y15 ≤ now_2)) with hg22 | hg22
    all_goals try have hj25 : Tr ρ w (fun _ => false) ρ w := Tr.refl hb.bd
    ·refine sr_setb 22 rfl hg22 <| sr_go 5 rfl ?_
     refine sr_eg rfl (ev_fieldAddr (i := 1) Tryz.underlying134 rfl Tryz.info3 rfl rfl) ?_
     refine sr_eg rfl (ev_load Tryz.isAgg3 rfl (hB13.cell rfl)) ?_
     refine sr_go 2 rfl ?_
     exact sr_wk (K23 (decide ((IntKind.i64.wrap (now_2 - y15)) < ok_0.window)) _ ⟨by first | (rw [hg22]; rfl) | rfl, rfl⟩)
    ·refine sr_setb 22 rfl hg22 <| sr_go 9 rfl ?_
     exact sr_wk (K23 false _ ⟨by first | (rw [hg22]; rfl) | rfl, rfl⟩)
  ·replace hS := iF hS hc14
   refine ke_exit (k' := _) rfl ?_
   refine ke_seq <| ke_region <| sr_go 2 rfl <| sr_fin [6] rfl ?_
   cases hS
   exact ke_ret1 Tryz.func117 rfl rfl ⟨_, rfl, rfl, (hb.below (flat1_le _))⟩
theorem secret_Locks_count_ok (w0 : World) (hg : Gs w0) {ρA : Tags} (hbd : ∀ b, ρA b ≠ 0 → b < w0.heap.size) (hz : Gz ρA) {τ0 : Nat → Nat} (hτ0 : ∀ p, 1 ≤ τ0 p) {τ1 : Nat → Nat} (hτ1 : ∀ p, 1 ≤ τ1 p) {k_0 : secret_Locks} {r_1 : secret_record} {now_2 : Int} {gk_0 : Nat} {gr_1 : Nat} {r : Int} (ho0 : secret_Locks.O τ0 ρA w0 gk_0 k_0) (ho1 : secret_record.O τ1 ρA w0 gr_1 r_1) (hS : secret_Locks_count k_0 r_1 now_2 = some r) :
  Calls Tryz.prog 117 #[pT gk_0 0, pT gr_1 0, .int .i64 now_2] w0 (Ret (fun v w' => v = .int .i64 r ∧ Below w0.heap.size w0 w')) := by
 unfold secret_Locks_count at hS
 have hb := flat1_fr (ρ := ρA) (w := w0) hbd
 have hz := hz.flat1
 obtain ⟨v1, lp3, hB5, h2, hR4⟩ := ho0
 replace hB5 := hB5.mv (flat1_mv (hτ0 0))
 replace h2 := h2.mv (flat1_mv (hτ0 1))
 replace hR4 := Recs.mv hR4 secret_record.objK (flat1_mv (hτ0 2)) (by decide)
 obtain ⟨v6, hB8, h7⟩ := ho1
 replace hB8 := hB8.mv (flat1_mv (hτ1 0))
 replace h7 := h7.mv (flat1_mv (hτ1 1)) (by decide)
 refine ck Tryz.func117 [0, 1, 2] rfl rfl ?_
 refine ke_seq <| ke_region <| sr_go 1 rfl <| sr_fin [0, 1, 2] rfl <| ke_seq <| ke_region <| sr_go 1 rfl <| sr_fin [0, 1, 2, 7] rfl <| ke_seq <| ke_seq <| ke_region <| sr_go 2 rfl ?_
 refine sr_fa 0 Tryz.underlying137 rfl Tryz.info135 ?_
 refine sr_ld v6 Tryz.isAgg135 rfl (hB8.cell rfl) ?_
 refine sr_e (ev_sllenW Tryz.underlying135 rfl h7.asSl) ?_
 refine sr_go 1 rfl <| sr_fin [0, 2, 7, 13, 14, 15] rfl ?_
 refine ke_block ?_
 have hK := secret_Locks_count_L1_ok hg hbd hz _ hS hb ⟨_, _, hB5, h2, hR4⟩ h7
 exact ke_wk (ke_loop hK)
theorem secret_Locks_Fail_B2_ok {w0 : World} (hg : Gs w0) {ρA : Tags} (hbd : ∀ b, ρA b ≠ 0 → b < w0.heap.size) {o : Nat} (ho2 : 2 ≤ o) {gk_0 : Nat} (hz : Gz (enter ρA o 3)) {r : secret_Locks} {ok_0 : secret_Locks} {t_7 : Int} {locked_8 : Bool} {r_6k : Str} {v79 : Value} {lp81 : GMap Str (Option Nat)} {vr_6 : Value} (hS : secret_Locks_Fail_B2 ok_0 t_7 locked_8 r_6k = some r) {ρ : Tags} {w : World} (hb : Fr (enter ρA o 3) w0 ρ w) (hBk_0 : Blk ρ 100 w gk_0 (.cells #[.int .i64 ok_0.most, .int .i64 ok_0.window, .int .i64 ok_0.lock, v79] 134 (0, 0))) (h80 : MapT str ptrC false ρ 101 w v79 lp81) (hR82 : Recs secret_record.O 2 ρ 102 w lp81 ok_0.users) (hpr_6 : vr_6 = pval (mgetD lp81 r_6k none)) :
  KE Tryz.prog 90 (Ret (fun v w' => ∃ ρ', v = .tuple #[] ∧ secret_Locks.O (fun p => o + p) ρ' w' gk_0 r ∧ Tr ρA w0 (rng o 3) ρ' w')) 103 [.code (sub (bodyOf Tryz.f90) [2, 2, 2, 2, 2, 2, 2])] [(0, pT gk_0 0), (6, vr_6), (7, .int .i64 t_7), (8, .bool locked_8)] w := by
 unfold secret_Locks_Fail_B2 at hS
 refine ke_seq ?_
 refine ke_region_q Tryz.mixed (by kernel_rfl) ?_
 refine sq_go 2 rfl ?_
 obtain ⟨z88, hz90, hS⟩ := bS hS
 refine sq_join (m := 10) (C := fun (x : Bool) => z88 = x) (l' := fun x => [(0, pT gk_0 0), (6, vr_6), (7, .int .i64 t_7), (88, .bool x)]) ?_ ?_
 ·rintro _ rfl
  refine sq_fin [0, 6, 7, 88] rfl (fun w85 hw84 => ?_)
  have t105 := Tr.of_below hw84 hb.bd
  replace hBk_0 := hBk_0.m t105
  replace h80 := h80.m t105
  replace hR82 := Recs.mv hR82 secret_record.objK (t105.mv (i := 102) rfl) (by decide)
  replace hb := hb.trans t105
  refine ke_cond rfl (fun hc106 => ?_) (fun hc106 => ?_)
  ·replace hS := iT hS hc106
   obtain ⟨y107, hy108, hS⟩ := bS hS
   obtain ⟨g109, ρ111, hfb112, hvb110, ⟨v115, hB117, h116⟩, hR113, t114⟩ := Recs.openX hR82 secret_record.objK 200 (by decide) (by decide) (by decide) hb.bd hy108
   obtain rfl := hpr_6.trans hvb110
   replace hb := hb.trans t114
   refine ke_region_j (ρ := ρ111) (fun t => ([200] : List Nat).contains t) 15 Tryz.mixed (fun w119 hw118 => ?_)
   have t120 := Tr.of_below hw118 hb.bd
   replace hB117 := hB117.m t120
   replace h116 := h116.m t120
   replace hBk_0 := (hBk_0.m t114).m t120
   replace h80 := (h80.m t114).m t120
   replace hR113 := RecsH.mv hR113 secret_record.objK (t120.mv (i := 102) rfl) (by decide)
   replace hb := hb.trans t120
   refine dj_v 0 hb.bd rfl rfl ?_
   refine dj_v 1 hb.bd rfl rfl ?_
   refine dj_v 2 hb.bd rfl rfl ?_
   refine dj_h 3 (pT g109 1) hb.bd rfl (fun w1 ρ1 hw1 => ev_fieldAddr (i := 1) Tryz.underlying137 rfl Tryz.info3 rfl rfl) ?_
   refine dj_v 5 hb.bd rfl rfl ?_
   refine dj_v 6 hb.bd rfl rfl ?_
   refine dj_v 7 hb.bd rfl rfl ?_
   refine dj_h 8 (pT gk_0 2) hb.bd rfl (fun w1 ρ1 hw1 => ev_fieldAddr (i := 2) Tryz.underlying134 rfl Tryz.info3 rfl rfl) ?_
   refine dj_h 9 (.int .i64 ok_0.lock) hb.bd rfl (fun w1 ρ1 hw1 => ev_load Tryz.isAgg3 rfl ((hBk_0.mv (hw1.mv (i := 100) rfl)).cell rfl)) ?_
   obtain ⟨y153, hy154, hS⟩ := bS hS
   refine dj_all [4, 10] (by kernel_rfl) (fun i hi => ?_)
   simp only [List.mem_cons, List.not_mem_nil, or_false] at hi
   rcases hi with rfl | rfl
   ·refine ⟨_, rfl, ?_⟩
    have jt161 : Tr ρ111 w119 (fun t => ([200] : List Nat).contains t) ρ111 w119 := (Tr.refl hb.bd).weak (fun _ _ => rfl) rfl rfl
    refine sr_ld (.int .i64 y107.until_) Tryz.isAgg3 rfl (hB117.cell rfl) ?_
    refine dj_nx [89, 93, 94, 98] rfl jt161 ?_
    refine dj_E 10 (by kernel_rfl) rfl ?_
    have jt162 : Tr ρ111 w119 (fun t => ([200] : List Nat).contains t) ρ111 w119 := (Tr.refl hb.bd).weak (fun _ _ => rfl) rfl rfl
    refine sr_cb Tryz.call39 (clock_Add_ok _ (hg.fr hz hb) hy154) hb.bd ?_
    intro w165 t167
    replace hB117 := hB117.m t167
    replace hR113 := RecsH.mv hR113 secret_record.objK (t167.mv (i := 102) rfl) (by decide)
    replace hb := hb.trans t167
    replace jt162 := jt162.tw t167
    refine dj_nx [89, 93, 99] rfl jt162 ?_
    refine dj_h 11 (.int .i64 (gmax y107.until_ y153)) hb.bd rfl (fun w1 ρ1 hw1 => ev_max rfl rfl) ?_
    refine dj_v 12 hb.bd rfl rfl ?_
    refine dj_h 13 (pT g109 1) hb.bd rfl (fun w1 ρ1 hw1 => ev_fieldAddr (i := 1) Tryz.underlying137 rfl Tryz.info3 rfl rfl) ?_
    refine dj_E 14 (by kernel_rfl) rfl ?_
    have jt168 : Tr ρ111 w165 (fun t => ([200] : List Nat).contains t) ρ111 w165 := (Tr.refl hb.bd).weak (fun _ _ => rfl) rfl rfl
    refine sr_storeT (v := .int .i64 (gmax y107.until_ y153)) (vs := [.int .i64 (gmax y107.until_ y153)]) (cs' := #[v115, .int .i64 (gmax y107.until_ y153)]) hB117 (by decide) hb.bd rfl rfl rfl Tryz.sizeOf3 rfl rfl rfl ?_
    intro w169 hB1171 t170
    replace h116 := (h116.m t167).m t170
    replace hBk_0 := (hBk_0.m t167).m t170
    replace h80 := (h80.m t167).m t170
    replace hR113 := RecsH.mv hR113 secret_record.objK (t170.mv (i := 102) rfl) (by decide)
    replace hb := hb.trans t170
    replace jt168 := jt168.tw t170
    replace hB117 : Blk ρ111 200 w169 g109 (.cells #[v115, .int .i64 (gmax y107.until_ y153)] 137 (0, 0)) := hB1171
    clear hB1171
    refine dj_nx [] rfl jt168 ?_
    refine dj_done rfl (by kernel_rfl) ?_
    refine ke_fin [] rfl ?_
    obtain ⟨hR171, t172⟩ := RecsH.close hR113 secret_record.objK 200 (by decide) (by decide) (by decide) hb.bd hfb112 (x := (secret_record.mk y107.times (gmax y107.until_ y153))) ⟨_, hB117, h116⟩
    replace hBk_0 := hBk_0.m t172
    replace h80 := h80.m t172
    replace hb := hb.trans t172
    cases hS
    exact ke_end0 Tryz.func90 rfl ⟨_, rfl, _, rfl, ⟨_, _, (hBk_0.lv 0 hb), (h80.lv 1 hb), (Recs.mv hR171 secret_record.objK (leave_mv (p := 2) (by decide) hb) (Nat.ne_of_gt (Nat.lt_of_lt_of_le (Nat.lt_of_lt_of_le Nat.zero_lt_two ho2) (Nat.le_add_right _ _))))⟩, (leave_tr ho2 hb)⟩
   ·refine ⟨_, rfl, ?_⟩
    have jt173 : Tr ρ111 w119 (fun t => ([200] : List Nat).contains t) ρ111 w119 := (Tr.refl hb.bd).weak (fun _ _ => rfl) rfl rfl
    refine sr_cb Tryz.call39 (clock_Add_ok _ (hg.fr hz hb) hy154) hb.bd ?_
    intro w176 t178
    replace hB117 := hB117.m t178
    replace hR113 := RecsH.mv hR113 secret_record.objK (t178.mv (i := 102) rfl) (by decide)
    replace hb := hb.trans t178
    replace jt173 := jt173.tw t178
    refine dj_nx [89, 92, 99] rfl jt173 ?_
    refine dj_E 4 (by kernel_rfl) rfl ?_
    have jt179 : Tr ρ111 w176 (fun t => ([200] : List Nat).contains t) ρ111 w176 := (Tr.refl hb.bd).weak (fun _ _ => rfl) rfl rfl
    refine sr_ld (.int .i64 y107.until_) Tryz.isAgg3 rfl (hB117.cell rfl) ?_
    refine dj_nx [89, 93, 99] rfl jt179 ?_
    refine dj_h 11 (.int .i64 (gmax y107.until_ y153)) hb.bd rfl (fun w1 ρ1 hw1 => ev_max rfl rfl) ?_
    refine dj_v 12 hb.bd rfl rfl ?_
    refine dj_h 13 (pT g109 1) hb.bd rfl (fun w1 ρ1 hw1 => ev_fieldAddr (i := 1) Tryz.underlying137 rfl Tryz.info3 rfl rfl) ?_
    refine dj_E 14 (by kernel_rfl) rfl ?_
    have jt180 : Tr ρ111 w176 (fun t => ([200] : List Nat).contains t) ρ111 w176 := (Tr.refl hb.bd).weak (fun _ _ => rfl) rfl rfl
    refine sr_storeT (v := .int .i64 (gmax y107.until_ y153)) (vs := [.int .i64 (gmax y107.until_ y153)]) (cs' := #[v115, .int .i64 (gmax y107.until_ y153)]) hB117 (by decide) hb.bd rfl rfl rfl Tryz.sizeOf3 rfl rfl rfl ?_
    intro w181 hB117 t182
    replace h116 := (h116.m t178).m t182
    replace hBk_0 := (hBk_0.m t178).m t182
    replace h80 := (h80.m t178).m t182
    replace hR113 := RecsH.mv hR113 secret_record.objK (t182.mv (i := 102) rfl) (by decide)
    replace hb := hb.trans t182
    replace jt180 := jt180.tw t182
    refine dj_nx [] rfl jt180 ?_
    refine dj_done rfl (by kernel_rfl) ?_
    refine ke_fin [] rfl ?_
    obtain ⟨hR183, t184⟩ := RecsH.close hR113 secret_record.objK 200 (by decide) (by decide) (by decide) hb.bd hfb112 (x := (secret_record.mk y107.times (gmax y107.until_ y153))) ⟨_, hB117, h116⟩
    replace hBk_0 := hBk_0.m t184
    replace h80 := h80.m t184
    replace hb := hb.trans t184
    cases hS
    exact ke_end0 Tryz.func90 rfl ⟨_, rfl, _, rfl, ⟨_, _, (hBk_0.lv 0 hb), (h80.lv 1 hb), (Recs.mv hR183 secret_record.objK (leave_mv (p := 2) (by decide) hb) (Nat.ne_of_gt (Nat.lt_of_lt_of_le (Nat.lt_of_lt_of_le Nat.zero_lt_two ho2) (Nat.le_add_right _ _))))⟩, (leave_tr ho2 hb)⟩
  ·replace hS := iF hS hc106
   refine ke_skip ?_
   cases hS
   exact ke_end0 Tryz.func90 rfl ⟨_, rfl, _, rfl, ⟨_, _, (hBk_0.lv 0 hb), (h80.lv 1 hb), (Recs.mv hR82 secret_record.objK (leave_mv (p := 2) (by decide) hb) (Nat.ne_of_gt (Nat.lt_of_lt_of_le (Nat.lt_of_lt_of_le Nat.zero_lt_two ho2) (Nat.le_add_right _ _))))⟩, (leave_tr ho2 hb)⟩
 ·intro K87
  clear hS
  rcases Bool.eq_false_or_eq_true locked_8 with hg86 | hg86
  ·have hS := iT hz90 hg86
   refine sq_setb 78 rfl hg86 <| sq_go 10 rfl ?_
   exact sq_wk (K87 true (Option.some.inj hS).symm)
  ·have hS := iF hz90 hg86
   refine sq_setb 78 rfl hg86 <| sq_go 3 rfl ?_
   obtain ⟨y93, hy94, hS⟩ := bS hS
   obtain ⟨g95, hvb96, ⟨v97, hB99, h98⟩⟩ := Recs.peekX hR82 secret_record.objK (by decide) hy94
   obtain rfl := hpr_6.trans hvb96
   obtain ⟨y100, hy101, hS⟩ := bS hS
   refine sq_callg (b := false) (e := 78) rfl rfl rfl (v := .int .i64 y100) (vs := [pT gk_0 0, pT g95 0, .int .i64 t_7]) rfl Tryz.call117 rfl (fun w1 hw1 => (secret_Locks_count_ok _ ((hg.fr hz hb).below hw1) (ρA := ρ) (fun b h => Nat.lt_of_lt_of_le (hb.bd b h) hw1.size) (hz.fr hg hb) (τ0 := (fun p => 100 + p)) (fun p => Nat.le_add_right_of_le (by decide)) (τ1 := (fun _ => 102)) (fun _ => by decide) (⟨_, _, (hBk_0.mv (Mv.of_below (i := 100) (ρ := ρ) hw1)), (h80.mv (Mv.of_below (i := 101) (ρ := ρ) hw1)), (Recs.mv hR82 secret_record.objK (Mv.of_below (i := 102) (ρ := ρ) hw1) (by decide))⟩ : secret_Locks.O (fun p => 100 + p) ρ w1 gk_0 ok_0) (⟨_, (hB99.mv (Mv.of_below (i := 102) (ρ := ρ) hw1)), (h98.mv (Mv.of_below (i := 102) (ρ := ρ) hw1) (by decide))⟩ : secret_record.O (fun _ => 102) ρ w1 g95 y93) hy101)) (by decide) ?_
   refine sq_go 2 rfl ?_
   refine sq_evg (b := false) (e := 78) rfl rfl rfl (v := pT gk_0 0) (fun w1 hw1 => ev_fieldAddr (i := 0) Tryz.underlying134 rfl Tryz.info3 rfl rfl) (by decide) ?_
   refine sq_evg (b := false) (e := 78) rfl rfl rfl (v := .int .i64 ok_0.most) (fun w1 hw1 => ev_load Tryz.isAgg3 rfl ((hBk_0.mv (Mv.of_below (i := 100) (ρ := ρ) hw1)).cell rfl)) (by decide) ?_
   refine sq_go 2 rfl ?_
   exact sq_wk (K87 (decide (y100 ≥ ok_0.most)) (Option.some.inj hS).symm)
theorem secret_Locks_Fail_B1_ok {w0 : World} (hg : Gs w0) {ρA : Tags} (hbd : ∀ b, ρA b ≠ 0 → b < w0.heap.size) {o : Nat} (ho2 : 2 ≤ o) {gk_0 : Nat} (hz : Gz (enter ρA o 3)) {r : secret_Locks} {ok_0 : secret_Locks} {now_2 : Int} {r_6k : Str} {v36 : Value} {lp38 : GMap Str (Option Nat)} {vr_6 : Value} (hS : secret_Locks_Fail_B1 ok_0 now_2 r_6k = some r) {ρ : Tags} {w : World} (hb : Fr (enter ρA o 3) w0 ρ w) (hBk_0 : Blk ρ 100 w gk_0 (.cells #[.int .i64 ok_0.most, .int .i64 ok_0.window, .int .i64 ok_0.lock, v36] 134 (0, 0))) (h37 : MapT str ptrC false ρ 101 w v36 lp38) (hR39 : Recs secret_record.O 2 ρ 102 w lp38 ok_0.users) (hpr_6 : vr_6 = pval (mgetD lp38 r_6k none)) :
  KE Tryz.prog 90 (Ret (fun v w' => ∃ ρ', v = .tuple #[] ∧ secret_Locks.O (fun p => o + p) ρ' w' gk_0 r ∧ Tr ρA w0 (rng o 3) ρ' w')) 103 [.code (sub (bodyOf Tryz.f90) [2, 2, 2])] [(0, pT gk_0 0), (2, .int .i64 now_2), (6, vr_6)] w := by
 unfold secret_Locks_Fail_B1 at hS
 refine ke_seq <| ke_region <| sr_go 1 rfl ?_
 obtain ⟨y41, hy42, hS⟩ := bS hS
 refine sr_cb Tryz.call39 (clock_Add_ok _ (hg.fr hz hb) hy42) hb.bd ?_
 intro w43 t45
 replace hR39 := Recs.mv hR39 secret_record.objK (t45.mv (i := 102) rfl) (by decide)
 replace hb := hb.trans t45
 refine sr_go 1 rfl <| sr_fin [0, 6, 7] rfl <| ke_seq <| ke_region <| sr_go 2 rfl ?_
 obtain ⟨y46, hy47, hS⟩ := bS hS
 obtain ⟨g48, ρ50, hfb51, hvb49, ⟨v54, hB56, h55⟩, hR52, t53⟩ := Recs.openX hR39 secret_record.objK 200 (by decide) (by decide) (by decide) hb.bd hy47
 obtain rfl := hpr_6.trans hvb49
 replace hBk_0 := (hBk_0.m t45).m t53
 replace h37 := (h37.m t45).m t53
 replace hb := hb.trans t53
 refine sr_go 1 rfl ?_
 refine sr_fa 1 Tryz.underlying137 rfl Tryz.info3 ?_
 refine sr_ld (.int .i64 y46.until_) Tryz.isAgg3 rfl (hB56.cell rfl) ?_
 refine sr_go 2 rfl <| sr_fin [0, 6, 7, 8] rfl <| ke_seq <| ke_region <| sr_go 3 rfl ?_
 refine sr_fa 0 Tryz.underlying137 rfl Tryz.info135 ?_
 refine sr_ld v54 Tryz.isAgg135 rfl (hB56.cell rfl) ?_
 refine sr_go 1 rfl ?_
 refine sr_litT (c := (intC .i64)) (ρ := ρ50) (E := 3) (xs := [y41]) (vs := #[(0, .int .i64 y41)]) (cs := #[.int .i64 y41]) (css := [[.int .i64 y41]]) rfl (fun _ => by kernel_rfl) rfl ⟨rfl, trivial⟩ rfl (by decide) hb.bd (by decide) ?_
 intro v57 w59 h58 hbw61
 have t60 := Tr.of_below hbw61 hb.bd
 replace h55 := h55.m t60
 replace hR52 := RecsH.mv hR52 secret_record.objK (t60.mv (i := 102) rfl) (by decide)
 replace hb := hb.trans t60
 obtain ⟨hk62, hS⟩ := chk_some hS
 refine sr_appendO (i := 201) (c := (intC .i64)) (ρ := ρ50) (E := 3) (xs := y46.times) (ys := ([y41] : List Int)) h55 ((SlT.of_sl (i := 0) h58)).x Tryz.underlying135 Tryz.info3 rfl rfl rfl (Nat.succ_pos _) (by decide) (by decide) hb.bd hk62 rfl rfl (by decide) ?_
 intro v63 ρ65 w66 h64 t67
 replace hB56 := (hB56.m t60).m t67
 replace hBk_0 := (hBk_0.m t60).m t67
 replace h37 := (h37.m t60).m t67
 replace hR52 := RecsH.mv hR52 secret_record.objK (t67.mv (i := 102) rfl) (by decide)
 replace hb := hb.trans t67
 refine sr_go 1 rfl ?_
 refine sr_fa 0 Tryz.underlying137 rfl Tryz.info135 ?_
 refine sr_storeT (v := v63) (vs := [v63]) (cs' := #[v63, .int .i64 y46.until_]) hB56 (by decide) hb.bd rfl rfl (one_cells (OffT.oneCell h64)) Tryz.sizeOf135 rfl (by first | rfl | (simp only [List.all_cons, List.all_nil, OffT.oneCell h64]; done) | (simp only [List.all_cons, List.all_nil, OffT.oneCell h64]; rfl)) rfl ?_
 intro w68 hB561 t69
 replace h64 := h64.m t69
 replace hBk_0 := hBk_0.m t69
 replace h37 := h37.m t69
 replace hR52 := RecsH.mv hR52 secret_record.objK (t69.mv (i := 102) rfl) (by decide)
 replace hb := hb.trans t69
 replace hB56 : Blk ρ65 200 w68 g48 (.cells #[v63, .int .i64 y46.until_] 137 (0, 0)) := hB561
 clear hB561
 refine sr_fin [0, 6, 7, 8] rfl <| ke_seq <| ke_seq <| ke_region <| sr_go 2 rfl ?_
 refine sr_fa 0 Tryz.underlying137 rfl Tryz.info135 ?_
 refine sr_ld v63 Tryz.isAgg135 rfl (hB56.cell rfl) ?_
 refine sr_e (ev_sllenW Tryz.underlying135 rfl h64.asSl) ?_
 refine sr_go 1 rfl <| sr_fin [0, 6, 7, 8, 68] rfl ?_
 refine ke_cond rfl (fun hc70 => ?_) (fun hc70 => ?_)
 ·replace hS := iT hS hc70
  refine ke_region <| sr_go 3 rfl ?_
  refine sr_fa 0 Tryz.underlying137 rfl Tryz.info135 ?_
  refine sr_ld v63 Tryz.isAgg135 rfl (hB56.cell rfl) ?_
  obtain ⟨hk71, hS⟩ := chk_some hS
  obtain ⟨v72, h73, hq74⟩ := (h64).cutT_l (P := Tryz.prog) Tryz.underlying135 Tryz.info3 rfl hk71
  refine sr_e (hq74 w68 rfl rfl) ?_
  refine sr_go 1 rfl ?_
  refine sr_fa 0 Tryz.underlying137 rfl Tryz.info135 ?_
  refine sr_storeT (v := v72) (vs := [v72]) (cs' := #[v72, .int .i64 y46.until_]) hB56 (by decide) hb.bd rfl rfl (one_cells (OffT.oneCell h73)) Tryz.sizeOf135 rfl (by first | rfl | (simp only [List.all_cons, List.all_nil, OffT.oneCell h73]; done) | (simp only [List.all_cons, List.all_nil, OffT.oneCell h73]; rfl)) rfl ?_
  intro w75 hB56 t76
  replace h73 := h73.m t76
  replace hR52 := RecsH.mv hR52 secret_record.objK (t76.mv (i := 102) rfl) (by decide)
  replace hb := hb.trans t76
  refine sr_fin [0, 6, 7, 8] rfl ?_
  obtain ⟨hR77, t78⟩ := RecsH.close hR52 secret_record.objK 200 (by decide) (by decide) (by decide) hb.bd hfb51 (x := (secret_record.mk (cut (y46.times ++ ([y41] : List Int)) 1 ((y46.times ++ ([y41] : List Int)).length)) y46.until_)) ⟨_, hB56, h73⟩
  replace hBk_0 := (hBk_0.m t76).m t78
  replace h37 := (h37.m t76).m t78
  replace hb := hb.trans t78
  have hK := secret_Locks_Fail_B2_ok hg hbd ho2 hz hS hb hBk_0 h37 hR77 hvb49.symm
  exact ke_wk hK
 ·replace hS := iF hS hc70
  refine ke_skip ?_
  obtain ⟨hR185, t186⟩ := RecsH.close hR52 secret_record.objK 200 (by decide) (by decide) (by decide) hb.bd hfb51 (x := (secret_record.mk (y46.times ++ ([y41] : List Int)) y46.until_)) ⟨_, hB56, h64⟩
  replace hBk_0 := hBk_0.m t186
  replace h37 := h37.m t186
  replace hb := hb.trans t186
  have hK := secret_Locks_Fail_B2_ok hg hbd ho2 hz hS hb hBk_0 h37 hR185 hvb49.symm
  exact ke_wk hK
theorem secret_Locks_Fail_ok (w0 : World) (hg : Gs w0) {ρA : Tags} (hbd : ∀ b, ρA b ≠ 0 → b < w0.heap.size) (hz : Gz ρA) {o : Nat} (ho2 : 2 ≤ o) {k_0 : secret_Locks} {user_1 : Str} {now_2 : Int} {gk_0 : Nat} {r : secret_Locks} (ho0 : secret_Locks.O (fun p => o + p) ρA w0 gk_0 k_0) (hS : secret_Locks_Fail k_0 user_1 now_2 = some r) :
  Calls Tryz.prog 90 #[pT gk_0 0, str user_1, .int .i64 now_2] w0 (Ret (fun v w' => ∃ ρ', v = .tuple #[] ∧ secret_Locks.O (fun p => o + p) ρ' w' gk_0 r ∧ Tr ρA w0 (rng o 3) ρ' w')) := by
 unfold secret_Locks_Fail at hS
 have hb := enter_fr (ρ := ρA) (w := w0) (n := 3) ho2 hbd
 have hz := hz.enter (n := 3) ho2
 obtain ⟨v1, lp3, hB5, h2, hR4⟩ := ho0
 replace hB5 := hB5.mv (enter_mv (p := 0) (n := 3) (by decide) ho2)
 replace h2 := h2.mv (enter_mv (p := 1) (n := 3) (by decide) ho2)
 replace hR4 := Recs.mv hR4 secret_record.objK (enter_mv (p := 2) (n := 3) (by decide) ho2) (by decide)
 refine ck Tryz.func90 [0, 1, 2] rfl rfl ?_
 refine ke_seq <| ke_seq <| ke_region <| sr_go 1 rfl ?_
 refine sr_e (ev_peqT_some Tryz.underlying64 rfl rfl) ?_
 refine sr_go 3 rfl ?_
 refine sr_eg rfl (ev_fieldAddr (i := 3) Tryz.underlying134 rfl Tryz.info132 rfl rfl) ?_
 refine sr_eg rfl (ev_load Tryz.isAgg132 rfl (hB5.cell rfl)) ?_
 refine sr_eg rfl (ev_pmNil h2 hR4 Tryz.underlying132 w0 rfl rfl) ?_
 refine sr_go 2 rfl ?_
 obtain ⟨z8, hz10, hS⟩ := bS hS
 refine sr_join (m := 4) (C := fun (z : Bool) w1 => z8 = z ∧ ∃ ρ1, Tr (enter ρA o 3) w0 (fun _ => false) ρ1 w1) (l' := fun z => [(0, pT gk_0 0), (1, str user_1), (2, .int .i64 now_2), (22, .bool z)]) ?_ ?_
 ·rintro _ w11 ⟨rfl, ρ12, hj9⟩
  replace hB5 := hB5.m hj9
  replace h2 := h2.m hj9
  replace hR4 := Recs.mv hR4 secret_record.objK (hj9.mv (i := 102) rfl) (by decide)
  replace hb := hb.trans hj9
  refine sr_fin [0, 1, 2, 22] rfl ?_
  refine ke_cond rfl (fun hc19 => ?_) (fun hc19 => ?_)
  ·replace hS := iT hS hc19
   cases hS
   exact ke_ret0 Tryz.func90 rfl ⟨_, rfl, _, rfl, ⟨_, _, (hB5.lv 0 hb), (h2.lv 1 hb), (Recs.mv hR4 secret_record.objK (leave_mv (p := 2) (by decide) hb) (Nat.ne_of_gt (Nat.lt_of_lt_of_le (Nat.lt_of_lt_of_le Nat.zero_lt_two ho2) (Nat.le_add_right _ _))))⟩, (leave_tr ho2 hb)⟩
  ·replace hS := iF hS hc19
   refine ke_skip <| ke_seq <| ke_region <| sr_go 2 rfl ?_
   refine sr_fa 3 Tryz.underlying134 rfl Tryz.info132 ?_
   refine sr_ld v1 Tryz.isAgg132 rfl (hB5.cell rfl) ?_
   refine sr_go 1 rfl ?_
   refine sr_e (ev_pmLook h2 Tryz.keyB9 Tryz.underlying132 Tryz.zeroValue131 (Mv.of_below (i := 101) (ρ := ρ12) (Below.refl _ _)) rfl rfl) ?_
   refine sr_go 1 rfl <| sr_fin [0, 1, 2, 6] rfl <| ke_seq <| ke_seq <| ke_region <| sr_go 1 rfl ?_
   refine sr_e (pptr_eq (p := mgetD lp3 user_1 none) rfl (RecsX.ptrNil hR4 user_1) Tryz.underlying131 rfl rfl) ?_
   refine sr_fin [0, 1, 2, 6, 30] rfl ?_
   refine ke_cond rfl (fun hc20 => ?_) (fun hc20 => ?_)
   ·replace hS := iT hS hc20
    refine ke_seq <| ke_seq <| ke_region <| sr_go 2 rfl ?_
    refine sr_fa 3 Tryz.underlying134 rfl Tryz.info132 ?_
    refine sr_ld v1 Tryz.isAgg132 rfl (hB5.cell rfl) ?_
    refine sr_e (ev_pmLen h2 hR4 Tryz.underlying132 (Mv.of_below (i := 101) (ρ := ρ12) (Below.refl _ _)) rfl) ?_
    refine sr_go 1 rfl <| sr_fin [0, 1, 2, 36] rfl ?_
    refine ke_cond rfl (fun hc21 => ?_) (fun hc21 => ?_)
    ·replace hS := iT hS hc21
     cases hS
     exact ke_ret0 Tryz.func90 rfl ⟨_, rfl, _, rfl, ⟨_, _, (hB5.lv 0 hb), (h2.lv 1 hb), (Recs.mv hR4 secret_record.objK (leave_mv (p := 2) (by decide) hb) (Nat.ne_of_gt (Nat.lt_of_lt_of_le (Nat.lt_of_lt_of_le Nat.zero_lt_two ho2) (Nat.le_add_right _ _))))⟩, (leave_tr ho2 hb)⟩
    ·replace hS := iF hS hc21
     refine ke_skip <| ke_seq <| ke_region ?_
     refine sr_e (v := .agg #[(.slice none 0 0), .int .i64 0]) (ev_build (vs := #[]) rfl (fun _ => by kernel_rfl)) ?_
     refine sr_boxT 200 (by decide) hb.bd rfl (by decide) ?_
     intro g22 ρ23 w24 hB26 t25
     replace hB5 := hB5.m t25
     replace h2 := h2.m t25
     replace hR4 := Recs.mv hR4 secret_record.objK (t25.mv (i := 102) rfl) (by decide)
     replace hb := hb.trans t25
     refine sr_go 1 rfl <| sr_fin [0, 1, 2, 6] rfl <| ke_region <| sr_go 2 rfl ?_
     refine sr_fa 3 Tryz.underlying134 rfl Tryz.info132 ?_
     refine sr_ld v1 Tryz.isAgg132 rfl (hB5.cell rfl) ?_
     refine sr_go 2 rfl ?_
     obtain ⟨hk27, hS⟩ := chk_some hS
     have hs30 := (RecsX.isSome hR4).trans hk27
     have hR31 := Recs.putX hR4 hk27 user_1 g22 (secret_record.mk ([] : List Int) 0)
     have hfb32 := find_mput hs30 user_1 (some g22)
     have hvb33 := pval_put hs30 user_1 g22
     refine sr_mapPut (k := user_1) (d := some g22) (u := pT g22 0) (cs := [pT g22 0]) h2 hs30 Tryz.keyB9 Tryz.underlying132 (by decide) hb.bd rfl rfl rfl rfl rfl ?_
     intro w28 h21 t29
     replace hR31 := RecsH.mv hR31 secret_record.objK (t29.mv (i := 102) rfl) (by decide)
     replace hB26 := hB26.m t29
     replace hb := hb.trans t29
     replace h2 := h21
     clear h21
     refine sr_fin [0, 2, 6] rfl ?_
     obtain ⟨hR34, t35⟩ := RecsH.close hR31 secret_record.objK 200 (by decide) (by decide) (by decide) hb.bd hfb32 (x := (secret_record.mk ([] : List Int) 0)) ⟨_, hB26, OffT.nil⟩
     replace hB5 := (hB5.m t29).m t35
     replace h2 := h2.m t35
     replace hb := hb.trans t35
     have hK := secret_Locks_Fail_B1_ok hg hbd ho2 hz hS hb hB5 h2 hR34 hvb33.symm
     exact ke_wk hK
   ·replace hS := iF hS hc20
    refine ke_skip ?_
    have hK := secret_Locks_Fail_B1_ok hg hbd ho2 hz hS hb hB5 h2 hR4 rfl
    exact ke_wk hK
 ·intro K7
  clear hS
  have hj9 : Tr (enter ρA o 3) w0 (fun _ => false) (enter ρA o 3) w0 := (Tr.refl hb.bd).weak (fun _ _ => rfl) rfl rfl
  rcases Bool.eq_false_or_eq_true k_0.users.isNone with hg6 | hg6
  ·have hS := iT hz10 hg6
   refine sr_setb 18 rfl hg6 <| sr_go 4 rfl ?_
   exact sr_wk (K7 true _ ⟨(Option.some.inj hS).symm, _, hj9⟩)
  ·have hS := iF hz10 hg6
   refine sr_setb 18 rfl hg6 <| sr_go 1 rfl ?_
   obtain ⟨y14, hy15, hS⟩ := bS hS
   refine sr_callg (b := false) (e := 18) rfl rfl rfl (vs := [str user_1]) rfl Tryz.call43 rfl (fold_Word_ok _ (hg.fr hz hb) hy15) (by decide) ?_
   rintro _ w16 ⟨rfl, hbw17⟩
   have t18 := Tr.of_below hbw17 hb.bd
   replace hR4 := Recs.mv hR4 secret_record.objK (t18.mv (i := 102) rfl) (by decide)
   replace hb := hb.trans t18
   replace hj9 := hj9.tw t18
   refine sr_go 2 rfl ?_
   exact sr_wk (K7 (!y14) _ ⟨(Option.some.inj hS).symm, _, hj9⟩)
theorem secret_Locks_Fail__nil_ok (w0 : World) (hg : Gs w0) {ρA : Tags} (hbd : ∀ b, ρA b ≠ 0 → b < w0.heap.size) (hz : Gz ρA) {user_1 : Str} {now_2 : Int} {r : Unit} (hS : secret_Locks_Fail__nil user_1 now_2 = some r) :
  Calls Tryz.prog 90 #[.pointer none, str user_1, .int .i64 now_2] w0 (Ret (fun v w' => v = .tuple #[] ∧ Below w0.heap.size w0 w')) := by
 unfold secret_Locks_Fail__nil at hS
 have hb := flat1_fr (ρ := ρA) (w := w0) hbd
 have hz := hz.flat1
 refine ck Tryz.func90 [0, 1, 2] rfl rfl ?_
 refine ke_seq <| ke_seq <| ke_region <| sr_go 1 rfl ?_
 refine sr_e (ev_peqT_nil Tryz.underlying64 rfl rfl) ?_
 refine sr_go 1 rfl ?_
 refine sr_pass (e := 11) rfl rfl rfl (by decide) ?_
 refine sr_pass (e := 11) rfl rfl rfl (by decide) ?_
 refine sr_pass (e := 11) rfl rfl rfl (by decide) ?_
 refine sr_pass (e := 11) rfl rfl rfl (by decide) ?_
 refine sr_pass (e := 11) rfl rfl rfl (by decide) ?_
 refine sr_go 2 rfl ?_
 refine sr_pass (e := 18) rfl rfl rfl (by decide) ?_
 refine sr_pass (e := 18) rfl rfl rfl (by decide) ?_
 refine sr_pass (e := 18) rfl rfl rfl (by decide) ?_
 refine sr_go 1 rfl <| sr_fin [0, 1, 2, 22] rfl ?_
 refine ke_cond rfl (fun _ => ?_) (fun h => by cases h)
 cases hS
 exact ke_ret0 Tryz.func90 rfl ⟨_, rfl, rfl, (hb.below (flat1_le _))⟩
theorem slices_Clone_api_Proof_api_Proof_ok (w0 : World) (hg : Gs w0) {ρA : Tags} (hbd : ∀ b, ρA b ≠ 0 → b < w0.heap.size) (hz : Gz ρA) {o : Nat} (ho2 : 2 ≤ o) {s_0 : List api_Proof} {v1 : Value} {r : List api_Proof} (h2 : SlR api_Proof.c (Wb ρA) w0 v1 s_0) (hS : slices_Clone_api_Proof_api_Proof s_0 = some r) :
  Calls Tryz.prog 50 #[v1] w0 (Ret (fun v w' => ∃ ρ' x1, v = x1 ∧ OwnT api_Proof.c 42 ρ' o w' x1 r ∧ Tr ρA w0 (rng o 1) ρ' w')) := by
 unfold slices_Clone_api_Proof_api_Proof at hS
 have hb := enter_fr (ρ := ρA) (w := w0) (n := 1) ho2 hbd
 have hz := hz.enter (n := 1) ho2
 replace h2 := SlR.mv h2 (enter_rd (n := 1) ho2)
 refine ck Tryz.func50 [0] rfl rfl ?_
 refine ke_seq <| ke_region <| sr_go 1 rfl <| sr_fin [0] rfl <| ke_seq <| ke_seq <| ke_region <| sr_go 1 rfl ?_
 rcases slNil h2 with ⟨hv8, hx9⟩ | ⟨a5, n6, c7, hv8⟩
 ·subst hv8; subst hx9
  replace hS : (some (([] : List api_Proof))) = some r := by simpa [chk, fitL] using hS
  refine sr_e (ev_slNil Tryz.underlying36 rfl rfl rfl) ?_
  refine sr_fin [0, 4] rfl ?_
  refine ke_cond rfl (fun _ => ?_) (fun h => by cases h)
  refine ke_seq <| ke_region <| sr_go 1 rfl <| sr_fin [2] rfl ?_
  cases hS
  exact ke_ret1 Tryz.func50 rfl rfl ⟨_, rfl, _, _, rfl, OwnT.nil, (leave_tr ho2 hb)⟩
 ·subst hv8
  refine sr_e (ev_slNil Tryz.underlying36 rfl rfl rfl) ?_
  refine sr_fin [0, 4] rfl ?_
  refine ke_cond rfl (fun h => by cases h) (fun _ => ?_)
  refine ke_skip <| ke_seq <| ke_region ?_
  refine sr_litOwnT (i := 7) (c := api_Proof.c) (ρ := (enter ρA o 1)) (E := 42) (xs := []) (vs := #[]) (cs := #[]) (css := []) rfl (fun _ => by kernel_rfl) rfl trivial rfl (by decide) (by decide) hb.bd (by decide) ?_
  intro v10 ρ14 w12 h11 t13
  replace h2 := h2.mv t13.rd
  replace hb := hb.trans t13
  refine sr_go 1 rfl ?_
  obtain ⟨hk15, hS⟩ := chk_some hS
  refine sr_appendT (i := 7) (c := api_Proof.c) (ρ := ρ14) (E := 42) (xs := ([] : List api_Proof)) (ys := s_0) h11 ((SlT.of_sl (i := 0) h2)).x Tryz.underlying36 Tryz.info42 rfl rfl rfl (Nat.succ_pos _) (by decide) (by decide) hb.bd hk15 rfl rfl (by decide) ?_
  intro v16 ρ18 w19 h17 t20
  replace hb := hb.trans t20
  refine sr_go 1 rfl <| sr_fin [2] rfl ?_
  have t21 := rtg_tr (ρ := ρ18) (w := w19) (i := 7) 100 (by decide) hb.bd
  have hmv22 : Mv ρ18 w19 7 (rtg ρ18 7 100) w19 100 := rtg_mv (by decide)
  replace hb := hb.trans t21
  replace h17 := h17.mv hmv22 (by decide)
  cases hS
  exact ke_ret1 Tryz.func50 rfl rfl ⟨_, rfl, _, _, rfl, (h17.mv (leave_mv (p := 0) (by decide) hb) (Nat.ne_of_gt (Nat.lt_of_lt_of_le Nat.zero_lt_two ho2))), (leave_tr ho2 hb)⟩
theorem secret_Locks_Locked__nil_ok (w0 : World) (hg : Gs w0) {ρA : Tags} (hbd : ∀ b, ρA b ≠ 0 → b < w0.heap.size) (hz : Gz ρA) {user_1 : Str} {now_2 : Int} {r : Bool} (hS : secret_Locks_Locked__nil user_1 now_2 = some r) :
  Calls Tryz.prog 57 #[.pointer none, str user_1, .int .i64 now_2] w0 (Ret (fun v w' => v = .bool r ∧ Below w0.heap.size w0 w')) := by
 unfold secret_Locks_Locked__nil at hS
 have hb := flat1_fr (ρ := ρA) (w := w0) hbd
 have hz := hz.flat1
 refine ck Tryz.func57 [0, 1, 2] rfl rfl ?_
 refine ke_seq <| ke_region <| sr_go 1 rfl <| sr_fin [0, 1, 2] rfl <| ke_seq ?_
 refine ke_region_q Tryz.mixed (by kernel_rfl) ?_
 refine sq_go 1 rfl ?_
 refine sq_ev (v := .bool false) (fun w1 hw1 => ev_pneT_nil Tryz.underlying64 rfl rfl) (by decide) ?_
 refine sq_go 1 rfl ?_
 refine sq_pass (e := 9) rfl rfl rfl (by decide) ?_
 refine sq_pass (e := 9) rfl rfl rfl (by decide) ?_
 refine sq_pass (e := 9) rfl rfl rfl (by decide) ?_
 refine sq_pass (e := 9) rfl rfl rfl (by decide) ?_
 refine sq_pass (e := 9) rfl rfl rfl (by decide) ?_
 refine sq_pass (e := 9) rfl rfl rfl (by decide) ?_
 refine sq_pass (e := 9) rfl rfl rfl (by decide) ?_
 refine sq_go 2 rfl ?_
 refine sq_pass (e := 18) rfl rfl rfl (by decide) ?_
 refine sq_pass (e := 18) rfl rfl rfl (by decide) ?_
 refine sq_pass (e := 18) rfl rfl rfl (by decide) ?_
 refine sq_pass (e := 18) rfl rfl rfl (by decide) ?_
 refine sq_pass (e := 18) rfl rfl rfl (by decide) ?_
 refine sq_pass (e := 18) rfl rfl rfl (by decide) ?_
 refine sq_pass (e := 18) rfl rfl rfl (by decide) ?_
 refine sq_pass (e := 18) rfl rfl rfl (by decide) ?_
 refine sq_pass (e := 18) rfl rfl rfl (by decide) ?_
 refine sq_pass (e := 18) rfl rfl rfl (by decide) ?_
 refine sq_pass (e := 18) rfl rfl rfl (by decide) ?_
 refine sq_pass (e := 18) rfl rfl rfl (by decide) ?_
 refine sq_go 2 rfl ?_
 refine sq_fin [6] rfl (fun w2 hw1 => ?_)
 have t3 := Tr.of_below hw1 hb.bd
 replace hb := hb.trans t3
 cases hS
 exact ke_ret1 Tryz.func57 rfl rfl ⟨_, rfl, rfl, (hb.below (flat1_le _))⟩
theorem login_Logins_present__Logins_byPassword_ok (w0 : World) (hg : Gs w0) {ρA : Tags} (hbd : ∀ b, ρA b ≠ 0 → b < w0.heap.size) (hz : Gz ρA) {o : Nat} (ho2 : 2 ≤ o) {l_0 : login_Logins} {id_1 : Str} {text_2 : Str} {now_3 : Int} {f_4 : Int} {gl_0 : Nat} {r : Int × login_Logins} (ho0 : login_Logins.O (fun p => o + p) ρA w0 gl_0 l_0) (hS : login_Logins_present__Logins_byPassword l_0 id_1 text_2 now_3 f_4 = some r) :
  Calls Tryz.prog 47 #[pT gl_0 0, str id_1, str text_2, .int .i64 now_3, .int .i64 f_4, .func (.func 53) #[] #[]] w0 (Ret (fun v w' => ∃ ρ', v = .int .i64 r.1 ∧ login_Logins.O (fun p => o + p) ρ' w' gl_0 r.2 ∧ Tr ρA w0 (rng o 7) ρ' w')) := by
 unfold login_Logins_present__Logins_byPassword at hS
 have hb := enter_fr (ρ := ρA) (w := w0) (n := 7) ho2 hbd
 have hz := hz.enter (n := 7) ho2
 obtain ⟨v1, v3, v5, v7, hB9, hP2, h4, h6, h8⟩ := ho0
 replace hB9 := hB9.mv (enter_mv (p := 0) (n := 7) (by decide) ho2)
 replace hP2 := PtrO.mv hP2 secret_Locks.objK (fun p hp => enter_mv (p := 1 + p) (n := 7) (by omega) ho2) (fun p hp => by omega)
 replace h4 := h4.mv (enter_mv (p := 4) (n := 7) (by decide) ho2)
 replace h6 := h6.mv (enter_mv (p := 5) (n := 7) (by decide) ho2)
 replace h8 := h8.mv (enter_mv (p := 6) (n := 7) (by decide) ho2)
 refine ck Tryz.func47 [0, 1, 2, 3, 4, 5] rfl rfl ?_
 refine ke_seq <| ke_region <| sr_go 1 rfl <| sr_fin [0, 1, 2, 3, 4, 5] rfl <| ke_seq <| ke_region <| sr_go 3 rfl ?_
 obtain ⟨y10, hy11, hS⟩ := bS hS
 refine sr_cl Tryz.call49 (login_Logins_find_ok _ (hg.fr hz hb) hb.bd (hz.fr hg hb) (τ0 := (fun p => 100 + p)) (fun p => Nat.le_add_right_of_le (by decide)) (by exact ⟨_, _, _, _, hB9, hP2, h4, h6, h8⟩) hy11) ?_
 rintro _ w12 ⟨v15, rfl, h16, hbw13⟩
 have t14 := Tr.of_below hbw13 hb.bd
 replace hb := hb.trans t14
 refine sr_go 3 rfl ?_
 refine sr_allocT 15 (by decide) hb.bd Tryz.zeroValue74 (by decide) ?_
 intro g17 ρ18 w19 hB21 t20
 replace h16 := h16.mv t20.rd
 replace hB9 := (hB9.m t14).m t20
 replace hP2 := (hP2.m secret_Locks.objK t14).m secret_Locks.objK t20
 replace h4 := (h4.m t14).m t20
 replace h6 := (h6.m t14).m t20
 replace h8 := (h8.m t14).m t20
 replace hb := hb.trans t20
 refine sr_storeT (v := .agg #[str y10.1.user, .int .i64 y10.1.begun, v15]) (vs := [str y10.1.user, .int .i64 y10.1.begun, v15]) (cs' := #[str y10.1.user, .int .i64 y10.1.begun, v15]) hB21 (by decide) hb.bd rfl rfl rfl Tryz.sizeOf74 rfl (by first | rfl | (simp only [List.all_cons, List.all_nil, SlR.oneCell h16]; done) | (simp only [List.all_cons, List.all_nil, SlR.oneCell h16]; rfl)) rfl ?_
 intro w22 hB211 t23
 replace h16 := h16.mv t23.rd
 replace hB9 := hB9.m t23
 replace hP2 := hP2.m secret_Locks.objK t23
 replace h4 := h4.m t23
 replace h6 := h6.m t23
 replace h8 := h8.m t23
 replace hb := hb.trans t23
 replace hB21 : Blk ρ18 15 w22 g17 (.cells #[str y10.1.user, .int .i64 y10.1.begun, v15] 74 (0, 0)) := hB211
 clear hB211
 refine sr_go 1 rfl <| sr_fin [0, 1, 2, 3, 4, 5, 13, 14] rfl <| ke_seq ?_
 refine ke_block ?_
 refine ke_seq <| ke_region <| sr_go 3 rfl <| sr_fin [0, 1, 2, 3, 4, 5, 13, 14, 22] rfl ?_
 refine ke_cond rfl (fun hc24 => ?_) (fun hc24 => ?_)
 ·replace hS := iT hS hc24
  refine ke_seq <| ke_region <| sr_go 2 rfl <| sr_fin [12] rfl ?_
  cases hS
  exact ke_ret1 Tryz.func47 rfl rfl ⟨_, rfl, _, rfl, ⟨_, _, _, _, (hB9.lv 0 hb), (hP2.lv secret_Locks.objK ho2 hb), (h4.lv 4 hb), (h6.lv 5 hb), (h8.lv 6 hb)⟩, (leave_tr ho2 hb)⟩
 ·replace hS := iF hS hc24
  refine ke_seq <| ke_region ?_
  refine sr_e (v := .agg #[str y10.1.user, .int .i64 y10.1.begun, v15]) (ev_loads (cs := [str y10.1.user, .int .i64 y10.1.begun, v15]) Tryz.isAgg74 Tryz.sizeOf74 rfl (hB21.cells (vs := [str y10.1.user, .int .i64 y10.1.begun, v15]) rfl)) ?_
  refine sr_go 1 rfl ?_
  obtain ⟨y25, hy26, hS⟩ := bS hS
  refine sr_cb Tryz.call89 (login_attempt_has_ok _ (hg.fr hz hb) hb.bd (hz.fr hg hb) h16 hy26) hb.bd ?_
  intro w27 t29
  replace hB21 := hB21.m t29
  replace h16 := h16.mv t29.rd
  replace hB9 := hB9.m t29
  replace hP2 := hP2.m secret_Locks.objK t29
  replace h4 := h4.m t29
  replace h6 := h6.m t29
  replace h8 := h8.m t29
  replace hb := hb.trans t29
  refine sr_go 1 rfl <| sr_fin [0, 1, 2, 3, 4, 5, 13, 26] rfl ?_
  refine ke_cond rfl (fun hc30 => ?_) (fun hc30 => ?_)
  ·replace hS := iT hS hc30
   refine ke_seq <| ke_region <| sr_go 1 rfl <| sr_fin [12] rfl ?_
   cases hS
   exact ke_ret1 Tryz.func47 rfl rfl ⟨_, rfl, _, rfl, ⟨_, _, _, _, (hB9.lv 0 hb), (hP2.lv secret_Locks.objK ho2 hb), (h4.lv 4 hb), (h6.lv 5 hb), (h8.lv 6 hb)⟩, (leave_tr ho2 hb)⟩
  ·replace hS := iF hS hc30
   refine ke_seq ?_
   refine ke_region_q Tryz.mixed (by kernel_rfl) ?_
   refine sq_go 2 rfl ?_
   refine sq_ev (v := pT gl_0 0) (fun w1 hw1 => ev_fieldAddr (i := 0) Tryz.underlying69 rfl Tryz.info64 rfl rfl) (by decide) ?_
   refine sq_ev (v := v1) (fun w1 hw1 => ev_load Tryz.isAgg64 rfl ((hB9.mv (Mv.of_below (i := 100) (ρ := ρ18) hw1)).cell rfl)) (by decide) ?_
   refine sq_ev (v := pT g17 0) (fun w1 hw1 => ev_fieldAddr (i := 0) Tryz.underlying74 rfl Tryz.info9 rfl rfl) (by decide) ?_
   refine sq_ev (v := str y10.1.user) (fun w1 hw1 => ev_load Tryz.isAgg9 rfl ((hB21.mv (Mv.of_below (i := 15) (ρ := ρ18) hw1)).cell rfl)) (by decide) ?_
   refine sq_go 1 rfl ?_
   rcases ho34 : l_0.locks with _ | z33
   ·replace hS := optC_none hS ho34
    obtain rfl := hP2.none_ ho34
    obtain ⟨y191, hy192, hS⟩ := bS hS
    obtain rfl : y191 = false := (Option.some.inj hy192).symm
    refine sq_call (v := .bool false) (vs := [.pointer none, str y10.1.user, .int .i64 now_3]) rfl Tryz.call57 rfl (fun w1 hw1 => (secret_Locks_Locked__nil_ok _ ((hg.fr hz hb).below hw1) (ρA := ρ18) (fun b h => Nat.lt_of_lt_of_le (hb.bd b h) hw1.size) (hz.fr hg hb) hy192)) (by decide) ?_
    refine sq_go 1 rfl ?_
    refine sq_fin [0, 1, 2, 3, 4, 5, 13, 30] rfl (fun w32 hw31 => ?_)
    have t196 := Tr.of_below hw31 hb.bd
    replace hB21 := hB21.m t196
    replace h16 := h16.mv t196.rd
    replace hB9 := hB9.m t196
    replace hP2 := hP2.m secret_Locks.objK t196
    replace h4 := h4.m t196
    replace h6 := h6.m t196
    replace h8 := h8.m t196
    replace hb := hb.trans t196
    refine ke_cond rfl (fun h => by cases h) (fun _ => ?_)
    refine ke_seq <| ke_region <| sr_go 2 rfl ?_
    refine sr_fa 0 Tryz.underlying74 rfl Tryz.info9 ?_
    refine sr_ld (str y10.1.user) Tryz.isAgg9 rfl (hB21.cell rfl) ?_
    refine sr_go 2 rfl ?_
    obtain ⟨y197, hy198, hS⟩ := bS hS
    refine sr_cl Tryz.call53 (login_Logins_byPassword_ok _ (hg.fr hz hb) hb.bd (hz.fr hg hb) (o := 100) (by decide) (by exact ⟨_, _, _, _, hB9, hP2, h4, h6, h8⟩) hy198) ?_
    rintro _ w199 ⟨ρ211, rfl, ⟨v202, v204, v206, v208, hB210, hP203, h205, h207, h209⟩, t201⟩
    replace hB21 := hB21.m t201
    replace h16 := h16.mv t201.rd
    replace hb := hb.trans t201
    refine sr_go 2 rfl <| sr_fin [0, 1, 3, 4, 13, 39] rfl ?_
    refine ke_cond rfl (fun hc212 => ?_) (fun hc212 => ?_)
    ·replace hS := iT hS hc212
     refine ke_seq ?_
     refine ke_region_j (ρ := ρ211) (fun t => ([101, 102, 103] : List Nat).contains t) 8 Tryz.mixed (fun w214 hw213 => ?_)
     have t215 := Tr.of_below hw213 hb.bd
     replace hB21 := hB21.m t215
     replace hB210 := hB210.m t215
     replace hP203 := hP203.m secret_Locks.objK t215
     replace h205 := h205.m t215
     replace h207 := h207.m t215
     replace h209 := h209.m t215
     replace hb := hb.trans t215
     refine dj_v 0 hb.bd rfl rfl ?_
     refine dj_v 1 hb.bd rfl rfl ?_
     refine dj_h 2 (pT gl_0 0) hb.bd rfl (fun w1 ρ1 hw1 => ev_fieldAddr (i := 0) Tryz.underlying69 rfl Tryz.info64 rfl rfl) ?_
     refine dj_h 3 v202 hb.bd rfl (fun w1 ρ1 hw1 => ev_load Tryz.isAgg64 rfl ((hB210.mv (hw1.mv (i := 100) rfl)).cell rfl)) ?_
     refine dj_h 4 (pT g17 0) hb.bd rfl (fun w1 ρ1 hw1 => ev_fieldAddr (i := 0) Tryz.underlying74 rfl Tryz.info9 rfl rfl) ?_
     refine dj_h 5 (str y10.1.user) hb.bd rfl (fun w1 ρ1 hw1 => ev_load Tryz.isAgg9 rfl ((hB21.mv (hw1.mv (i := 15) rfl)).cell rfl)) ?_
     refine dj_v 6 hb.bd rfl rfl ?_
     refine dj_E 7 (by kernel_rfl) rfl ?_
     have jt267 : Tr ρ211 w214 (fun t => ([101, 102, 103] : List Nat).contains t) ρ211 w214 := (Tr.refl hb.bd).weak (fun _ _ => rfl) rfl rfl
     rcases ho269 : y197.2.locks with _ | z268
     ·replace hS := optC_none hS ho269
      obtain rfl := hP203.none_ ho269
      obtain ⟨y287, hy288, hS⟩ := bS hS
      refine sr_cb Tryz.call90 (secret_Locks_Fail__nil_ok _ (hg.fr hz hb) hb.bd (hz.fr hg hb) hy288) hb.bd ?_
      intro w289 t291
      replace hB210 := hB210.m t291
      replace h205 := h205.m t291
      replace h207 := h207.m t291
      replace h209 := h209.m t291
      replace hb := hb.trans t291
      replace jt267 := jt267.tw t291
      refine dj_nx [] rfl jt267 ?_
      refine dj_done rfl (by kernel_rfl) ?_
      refine ke_fin [] rfl <| ke_seq <| ke_region <| sr_go 1 rfl <| sr_fin [12] rfl ?_
      cases hS
      exact ke_ret1 Tryz.func47 rfl rfl ⟨_, rfl, _, rfl, ⟨_, _, _, _, (hB210.lv 0 hb), PtrO.nil, (h205.lv 4 hb), (h207.lv 5 hb), (h209.lv 6 hb)⟩, (leave_tr ho2 hb)⟩
     ·replace hS := optC_some hS ho269
      obtain ⟨g270, rfl, ⟨v271, lp273, hB275, h272, hR274⟩⟩ := hP203.some_ ho269
      obtain ⟨y276, hy277, hS⟩ := bS hS
      refine sr_cl Tryz.call90 (secret_Locks_Fail_ok _ (hg.fr hz hb) hb.bd (hz.fr hg hb) (o := 101) (by decide) (by exact ⟨_, _, hB275, h272, hR274⟩) hy277) ?_
      rintro _ w278 ⟨ρ286, rfl, ⟨v281, lp283, hB285, h282, hR284⟩, t280⟩
      replace hB210 := hB210.m t280
      replace h205 := h205.m t280
      replace h207 := h207.m t280
      replace h209 := h209.m t280
      replace hb := hb.trans t280
      replace jt267 := jt267.tw t280
      refine dj_nx [] rfl jt267 ?_
      refine dj_done rfl (by kernel_rfl) ?_
      refine ke_fin [] rfl <| ke_seq <| ke_region <| sr_go 1 rfl <| sr_fin [12] rfl ?_
      cases hS
      exact ke_ret1 Tryz.func47 rfl rfl ⟨_, rfl, _, rfl, ⟨_, _, _, _, (hB210.lv 0 hb), (PtrO.mk ⟨_, _, (hB285.lv 1 hb), (h282.lv 2 hb), (Recs.mv hR284 secret_record.objK (leave_mv (p := 3) (by decide) hb) (Nat.ne_of_gt (Nat.lt_of_lt_of_le (Nat.lt_of_lt_of_le Nat.zero_lt_two ho2) (Nat.le_add_right _ _))))⟩), (h205.lv 4 hb), (h207.lv 5 hb), (h209.lv 6 hb)⟩, (leave_tr ho2 hb)⟩
    ·replace hS := iF hS hc212
     refine ke_skip <| ke_inBlock <| ke_seq <| ke_region ?_
     refine sr_fa 2 Tryz.underlying74 rfl Tryz.info36 ?_
     refine sr_ld v15 Tryz.isAgg36 rfl (hB21.cell rfl) ?_
     obtain ⟨y292, hy293, hS⟩ := bS hS
     refine sr_cl Tryz.call50 (slices_Clone_api_Proof_api_Proof_ok _ (hg.fr hz hb) hb.bd (hz.fr hg hb) (o := 60) (by decide) h16 hy293) ?_
     rintro v297 w294 ⟨ρ299, _, rfl, h298, t296⟩
     replace hb := hb.trans t296
     refine sr_go 2 rfl ?_
     obtain ⟨y300, hy301, hS⟩ := bS hS
     refine sr_cb Tryz.call39 (clock_Add_ok _ (hg.fr hz hb) hy301) hb.bd ?_
     intro w302 t304
     replace hB21 := (hB21.m t296).m t304
     replace hB210 := (hB210.m t296).m t304
     replace hP203 := (hP203.m secret_Locks.objK t296).m secret_Locks.objK t304
     replace h205 := (h205.m t296).m t304
     replace h207 := (h207.m t296).m t304
     replace h209 := (h209.m t296).m t304
     replace hb := hb.trans t304
     refine sr_e (v := .agg #[.int .i64 f_4, .int .i64 y300]) (ev_build (vs := #[(0, .int .i64 f_4), (1, .int .i64 y300)]) rfl (fun _ => by kernel_rfl)) ?_
     refine sr_litT (c := api_Proof.c) (ρ := ρ299) (E := 42) (xs := [(api_Proof.mk f_4 y300)]) (vs := #[(0, .agg #[.int .i64 f_4, .int .i64 y300])]) (cs := #[.int .i64 f_4, .int .i64 y300]) (css := [[.int .i64 f_4, .int .i64 y300]]) rfl (fun _ => by kernel_rfl) rfl ⟨rfl, trivial⟩ rfl (by decide) hb.bd (by decide) ?_
     intro v305 w307 h306 hbw309
     have t308 := Tr.of_below hbw309 hb.bd
     replace h298 := (h298.m t304).m t308
     replace hb := hb.trans t308
     obtain ⟨hk310, hS⟩ := chk_some hS
     refine sr_appendT (i := 60) (c := api_Proof.c) (ρ := ρ299) (E := 42) (xs := y292) (ys := ([(api_Proof.mk f_4 y300)] : List api_Proof)) h298 ((SlT.of_sl (i := 0) h306)).x Tryz.underlying36 Tryz.info42 rfl rfl rfl (Nat.succ_pos _) (by decide) (by decide) hb.bd hk310 rfl rfl (by decide) ?_
     intro v311 ρ313 w314 h312 t315
     replace hB21 := (hB21.m t308).m t315
     replace hB210 := (hB210.m t308).m t315
     replace hP203 := (hP203.m secret_Locks.objK t308).m secret_Locks.objK t315
     replace h205 := (h205.m t308).m t315
     replace h207 := (h207.m t308).m t315
     replace h209 := (h209.m t308).m t315
     replace hb := hb.trans t315
     refine sr_fa 2 Tryz.underlying74 rfl Tryz.info36 ?_
     refine sr_storeT (v := v311) (vs := [v311]) (cs' := #[str y10.1.user, .int .i64 y10.1.begun, v311]) hB21 (by decide) hb.bd rfl rfl (one_cells (OwnT.oneCell h312)) Tryz.sizeOf36 rfl (by first | rfl | (simp only [List.all_cons, List.all_nil, OwnT.oneCell h312]; done) | (simp only [List.all_cons, List.all_nil, OwnT.oneCell h312]; rfl)) rfl ?_
     intro w316 hB21 t317
     replace hb := hb.trans t317
     refine sr_fin [0, 1, 13] rfl <| ke_seq ?_
     refine ke_region_j (ρ := ρ313) (fun t => ([60, 106] : List Nat).contains t) 7 Tryz.mixed (fun w319 hw318 => ?_)
     have t320 := Tr.of_below hw318 hb.bd
     replace hB21 := hB21.m t320
     replace h312 := (h312.m t317).m t320
     replace hB210 := (hB210.m t317).m t320
     replace hP203 := (hP203.m secret_Locks.objK t317).m secret_Locks.objK t320
     replace h205 := (h205.m t317).m t320
     replace h207 := (h207.m t317).m t320
     replace h209 := (h209.m t317).m t320
     replace hb := hb.trans t320
     refine dj_v 0 hb.bd rfl rfl ?_
     refine dj_v 1 hb.bd rfl rfl ?_
     refine dj_h 2 (pT gl_0 3) hb.bd rfl (fun w1 ρ1 hw1 => ev_fieldAddr (i := 3) Tryz.underlying69 rfl Tryz.info67 rfl rfl) ?_
     refine dj_h 3 v208 hb.bd rfl (fun w1 ρ1 hw1 => ev_load Tryz.isAgg67 rfl ((hB210.mv (hw1.mv (i := 100) rfl)).cell rfl)) ?_
     refine dj_v 4 hb.bd rfl rfl ?_
     refine dj_h 5 (.agg #[str y10.1.user, .int .i64 y10.1.begun, v311]) hb.bd rfl (fun w1 ρ1 hw1 => ev_loads (cs := [str y10.1.user, .int .i64 y10.1.begun, v311]) Tryz.isAgg74 Tryz.sizeOf74 rfl ((hB21.mv (hw1.mv (i := 15) rfl)).cells (vs := [str y10.1.user, .int .i64 y10.1.begun, v311]) rfl)) ?_
     refine dj_E 6 (by kernel_rfl) rfl ?_
     have jt334 : Tr ρ313 w319 (fun t => ([60, 106] : List Nat).contains t) ρ313 w319 := (Tr.refl hb.bd).weak (fun _ _ => rfl) rfl rfl
     have t335 := frz_tr (ρ := ρ313) (w := w319) (i := 60) (by decide) hb.bd
     have h336 : SlR api_Proof.c (Wb (frz ρ313 60)) w319 v311 (y292 ++ ([(api_Proof.mk f_4 y300)] : List api_Proof)) := (SlT.mv h312.sl (frz_mv (ρ := ρ313) (w := w319) (i := 60))).sl
     replace h209 := h209.m t335
     replace hb := hb.trans t335
     replace jt334 := jt334.tw t335
     obtain ⟨hk337, hS⟩ := chk_some hS
     refine sr_mapPut (k := id_1) (d := (login_attempt.mk y10.1.user y10.1.begun (y292 ++ ([(api_Proof.mk f_4 y300)] : List api_Proof)))) (u := .agg #[str y10.1.user, .int .i64 y10.1.begun, v311]) (cs := [str y10.1.user, .int .i64 y10.1.begun, v311]) h209 hk337 Tryz.keyB9 Tryz.underlying67 (by decide) hb.bd rfl ⟨_, rfl, h336⟩ rfl rfl rfl ?_
     intro w338 h2091 t339
     replace hB210 := (hB210.m t335).m t339
     replace hP203 := (hP203.m secret_Locks.objK t335).m secret_Locks.objK t339
     replace h205 := (h205.m t335).m t339
     replace h207 := (h207.m t335).m t339
     replace hb := hb.trans t339
     replace jt334 := jt334.tw t339
     replace h209 := h2091
     clear h2091
     refine dj_nx [] rfl jt334 ?_
     refine dj_done rfl (by kernel_rfl) ?_
     refine ke_fin [] rfl <| ke_seq <| ke_region <| sr_go 1 rfl <| sr_fin [12] rfl ?_
     cases hS
     exact ke_ret1 Tryz.func47 rfl rfl ⟨_, rfl, _, rfl, ⟨_, _, _, _, (hB210.lv 0 hb), (hP203.lv secret_Locks.objK ho2 hb), (h205.lv 4 hb), (h207.lv 5 hb), (h209.lv 6 hb)⟩, (leave_tr ho2 hb)⟩
   ·replace hS := optC_some hS ho34
    obtain ⟨g35, rfl, ⟨v36, lp38, hB40, h37, hR39⟩⟩ := hP2.some_ ho34
    obtain ⟨y41, hy42, hS⟩ := bS hS
    refine sq_call (v := .bool y41) (vs := [pT g35 0, str y10.1.user, .int .i64 now_3]) rfl Tryz.call57 rfl (fun w1 hw1 => (secret_Locks_Locked_ok _ ((hg.fr hz hb).below hw1) (ρA := ρ18) (fun b h => Nat.lt_of_lt_of_le (hb.bd b h) hw1.size) (hz.fr hg hb) (τ0 := (fun p => 101 + p)) (fun p => Nat.le_add_right_of_le (by decide)) (⟨_, _, (hB40.mv (Mv.of_below (i := 101) (ρ := ρ18) hw1)), (h37.mv (Mv.of_below (i := 102) (ρ := ρ18) hw1)), (Recs.mv hR39 secret_record.objK (Mv.of_below (i := 103) (ρ := ρ18) hw1) (by decide))⟩ : secret_Locks.O (fun p => 101 + p) ρ18 w1 g35 z33) hy42)) (by decide) ?_
    refine sq_go 1 rfl ?_
    refine sq_fin [0, 1, 2, 3, 4, 5, 13, 30] rfl (fun w32 hw31 => ?_)
    have t46 := Tr.of_below hw31 hb.bd
    replace hB21 := hB21.m t46
    replace h16 := h16.mv t46.rd
    replace hB9 := hB9.m t46
    replace hP2 := hP2.m secret_Locks.objK t46
    replace h4 := h4.m t46
    replace h6 := h6.m t46
    replace h8 := h8.m t46
    replace hb := hb.trans t46
    refine ke_cond rfl (fun hc47 => ?_) (fun hc47 => ?_)
    ·replace hS := iT hS hc47
     refine ke_seq <| ke_region <| sr_go 1 rfl <| sr_fin [12] rfl ?_
     cases hS
     exact ke_ret1 Tryz.func47 rfl rfl ⟨_, rfl, _, rfl, ⟨_, _, _, _, (hB9.lv 0 hb), (hP2.lv secret_Locks.objK ho2 hb), (h4.lv 4 hb), (h6.lv 5 hb), (h8.lv 6 hb)⟩, (leave_tr ho2 hb)⟩
    ·replace hS := iF hS hc47
     refine ke_seq <| ke_region <| sr_go 2 rfl ?_
     refine sr_fa 0 Tryz.underlying74 rfl Tryz.info9 ?_
     refine sr_ld (str y10.1.user) Tryz.isAgg9 rfl (hB21.cell rfl) ?_
     refine sr_go 2 rfl ?_
     obtain ⟨y48, hy49, hS⟩ := bS hS
     refine sr_cl Tryz.call53 (login_Logins_byPassword_ok _ (hg.fr hz hb) hb.bd (hz.fr hg hb) (o := 100) (by decide) (by exact ⟨_, _, _, _, hB9, hP2, h4, h6, h8⟩) hy49) ?_
     rintro _ w50 ⟨ρ62, rfl, ⟨v53, v55, v57, v59, hB61, hP54, h56, h58, h60⟩, t52⟩
     replace hB21 := hB21.m t52
     replace h16 := h16.mv t52.rd
     replace hb := hb.trans t52
     refine sr_go 2 rfl <| sr_fin [0, 1, 3, 4, 13, 39] rfl ?_
     refine ke_cond rfl (fun hc63 => ?_) (fun hc63 => ?_)
     ·replace hS := iT hS hc63
      refine ke_seq ?_
      refine ke_region_j (ρ := ρ62) (fun t => ([101, 102, 103] : List Nat).contains t) 8 Tryz.mixed (fun w65 hw64 => ?_)
      have t66 := Tr.of_below hw64 hb.bd
      replace hB21 := hB21.m t66
      replace hB61 := hB61.m t66
      replace hP54 := hP54.m secret_Locks.objK t66
      replace h56 := h56.m t66
      replace h58 := h58.m t66
      replace h60 := h60.m t66
      replace hb := hb.trans t66
      refine dj_v 0 hb.bd rfl rfl ?_
      refine dj_v 1 hb.bd rfl rfl ?_
      refine dj_h 2 (pT gl_0 0) hb.bd rfl (fun w1 ρ1 hw1 => ev_fieldAddr (i := 0) Tryz.underlying69 rfl Tryz.info64 rfl rfl) ?_
      refine dj_h 3 v53 hb.bd rfl (fun w1 ρ1 hw1 => ev_load Tryz.isAgg64 rfl ((hB61.mv (hw1.mv (i := 100) rfl)).cell rfl)) ?_
      refine dj_h 4 (pT g17 0) hb.bd rfl (fun w1 ρ1 hw1 => ev_fieldAddr (i := 0) Tryz.underlying74 rfl Tryz.info9 rfl rfl) ?_
      refine dj_h 5 (str y10.1.user) hb.bd rfl (fun w1 ρ1 hw1 => ev_load Tryz.isAgg9 rfl ((hB21.mv (hw1.mv (i := 15) rfl)).cell rfl)) ?_
      refine dj_v 6 hb.bd rfl rfl ?_
      refine dj_E 7 (by kernel_rfl) rfl ?_
      have jt118 : Tr ρ62 w65 (fun t => ([101, 102, 103] : List Nat).contains t) ρ62 w65 := (Tr.refl hb.bd).weak (fun _ _ => rfl) rfl rfl
      rcases ho120 : y48.2.locks with _ | z119
      ·replace hS := optC_none hS ho120
       obtain rfl := hP54.none_ ho120
       obtain ⟨y138, hy139, hS⟩ := bS hS
       refine sr_cb Tryz.call90 (secret_Locks_Fail__nil_ok _ (hg.fr hz hb) hb.bd (hz.fr hg hb) hy139) hb.bd ?_
       intro w140 t142
       replace hB61 := hB61.m t142
       replace h56 := h56.m t142
       replace h58 := h58.m t142
       replace h60 := h60.m t142
       replace hb := hb.trans t142
       replace jt118 := jt118.tw t142
       refine dj_nx [] rfl jt118 ?_
       refine dj_done rfl (by kernel_rfl) ?_
       refine ke_fin [] rfl <| ke_seq <| ke_region <| sr_go 1 rfl <| sr_fin [12] rfl ?_
       cases hS
       exact ke_ret1 Tryz.func47 rfl rfl ⟨_, rfl, _, rfl, ⟨_, _, _, _, (hB61.lv 0 hb), PtrO.nil, (h56.lv 4 hb), (h58.lv 5 hb), (h60.lv 6 hb)⟩, (leave_tr ho2 hb)⟩
      ·replace hS := optC_some hS ho120
       obtain ⟨g121, rfl, ⟨v122, lp124, hB126, h123, hR125⟩⟩ := hP54.some_ ho120
       obtain ⟨y127, hy128, hS⟩ := bS hS
       refine sr_cl Tryz.call90 (secret_Locks_Fail_ok _ (hg.fr hz hb) hb.bd (hz.fr hg hb) (o := 101) (by decide) (by exact ⟨_, _, hB126, h123, hR125⟩) hy128) ?_
       rintro _ w129 ⟨ρ137, rfl, ⟨v132, lp134, hB136, h133, hR135⟩, t131⟩
       replace hB61 := hB61.m t131
       replace h56 := h56.m t131
       replace h58 := h58.m t131
       replace h60 := h60.m t131
       replace hb := hb.trans t131
       replace jt118 := jt118.tw t131
       refine dj_nx [] rfl jt118 ?_
       refine dj_done rfl (by kernel_rfl) ?_
       refine ke_fin [] rfl <| ke_seq <| ke_region <| sr_go 1 rfl <| sr_fin [12] rfl ?_
       cases hS
       exact ke_ret1 Tryz.func47 rfl rfl ⟨_, rfl, _, rfl, ⟨_, _, _, _, (hB61.lv 0 hb), (PtrO.mk ⟨_, _, (hB136.lv 1 hb), (h133.lv 2 hb), (Recs.mv hR135 secret_record.objK (leave_mv (p := 3) (by decide) hb) (Nat.ne_of_gt (Nat.lt_of_lt_of_le (Nat.lt_of_lt_of_le Nat.zero_lt_two ho2) (Nat.le_add_right _ _))))⟩), (h56.lv 4 hb), (h58.lv 5 hb), (h60.lv 6 hb)⟩, (leave_tr ho2 hb)⟩
     ·replace hS := iF hS hc63
      refine ke_skip <| ke_inBlock <| ke_seq <| ke_region ?_
      refine sr_fa 2 Tryz.underlying74 rfl Tryz.info36 ?_
      refine sr_ld v15 Tryz.isAgg36 rfl (hB21.cell rfl) ?_
      obtain ⟨y143, hy144, hS⟩ := bS hS
      refine sr_cl Tryz.call50 (slices_Clone_api_Proof_api_Proof_ok _ (hg.fr hz hb) hb.bd (hz.fr hg hb) (o := 60) (by decide) h16 hy144) ?_
      rintro v148 w145 ⟨ρ150, _, rfl, h149, t147⟩
      replace hb := hb.trans t147
      refine sr_go 2 rfl ?_
      obtain ⟨y151, hy152, hS⟩ := bS hS
      refine sr_cb Tryz.call39 (clock_Add_ok _ (hg.fr hz hb) hy152) hb.bd ?_
      intro w153 t155
      replace hB21 := (hB21.m t147).m t155
      replace hB61 := (hB61.m t147).m t155
      replace hP54 := (hP54.m secret_Locks.objK t147).m secret_Locks.objK t155
      replace h56 := (h56.m t147).m t155
      replace h58 := (h58.m t147).m t155
      replace h60 := (h60.m t147).m t155
      replace hb := hb.trans t155
      refine sr_e (v := .agg #[.int .i64 f_4, .int .i64 y151]) (ev_build (vs := #[(0, .int .i64 f_4), (1, .int .i64 y151)]) rfl (fun _ => by kernel_rfl)) ?_
      refine sr_litT (c := api_Proof.c) (ρ := ρ150) (E := 42) (xs := [(api_Proof.mk f_4 y151)]) (vs := #[(0, .agg #[.int .i64 f_4, .int .i64 y151])]) (cs := #[.int .i64 f_4, .int .i64 y151]) (css := [[.int .i64 f_4, .int .i64 y151]]) rfl (fun _ => by kernel_rfl) rfl ⟨rfl, trivial⟩ rfl (by decide) hb.bd (by decide) ?_
      intro v156 w158 h157 hbw160
      have t159 := Tr.of_below hbw160 hb.bd
      replace h149 := (h149.m t155).m t159
      replace hb := hb.trans t159
      obtain ⟨hk161, hS⟩ := chk_some hS
      refine sr_appendT (i := 60) (c := api_Proof.c) (ρ := ρ150) (E := 42) (xs := y143) (ys := ([(api_Proof.mk f_4 y151)] : List api_Proof)) h149 ((SlT.of_sl (i := 0) h157)).x Tryz.underlying36 Tryz.info42 rfl rfl rfl (Nat.succ_pos _) (by decide) (by decide) hb.bd hk161 rfl rfl (by decide) ?_
      intro v162 ρ164 w165 h163 t166
      replace hB21 := (hB21.m t159).m t166
      replace hB61 := (hB61.m t159).m t166
      replace hP54 := (hP54.m secret_Locks.objK t159).m secret_Locks.objK t166
      replace h56 := (h56.m t159).m t166
      replace h58 := (h58.m t159).m t166
      replace h60 := (h60.m t159).m t166
      replace hb := hb.trans t166
      refine sr_fa 2 Tryz.underlying74 rfl Tryz.info36 ?_
      refine sr_storeT (v := v162) (vs := [v162]) (cs' := #[str y10.1.user, .int .i64 y10.1.begun, v162]) hB21 (by decide) hb.bd rfl rfl (one_cells (OwnT.oneCell h163)) Tryz.sizeOf36 rfl (by first | rfl | (simp only [List.all_cons, List.all_nil, OwnT.oneCell h163]; done) | (simp only [List.all_cons, List.all_nil, OwnT.oneCell h163]; rfl)) rfl ?_
      intro w167 hB21 t168
      replace hb := hb.trans t168
      refine sr_fin [0, 1, 13] rfl <| ke_seq ?_
      refine ke_region_j (ρ := ρ164) (fun t => ([60, 106] : List Nat).contains t) 7 Tryz.mixed (fun w170 hw169 => ?_)
      have t171 := Tr.of_below hw169 hb.bd
      replace hB21 := hB21.m t171
      replace h163 := (h163.m t168).m t171
      replace hB61 := (hB61.m t168).m t171
      replace hP54 := (hP54.m secret_Locks.objK t168).m secret_Locks.objK t171
      replace h56 := (h56.m t168).m t171
      replace h58 := (h58.m t168).m t171
      replace h60 := (h60.m t168).m t171
      replace hb := hb.trans t171
      refine dj_v 0 hb.bd rfl rfl ?_
      refine dj_v 1 hb.bd rfl rfl ?_
      refine dj_h 2 (pT gl_0 3) hb.bd rfl (fun w1 ρ1 hw1 => ev_fieldAddr (i := 3) Tryz.underlying69 rfl Tryz.info67 rfl rfl) ?_
      refine dj_h 3 v59 hb.bd rfl (fun w1 ρ1 hw1 => ev_load Tryz.isAgg67 rfl ((hB61.mv (hw1.mv (i := 100) rfl)).cell rfl)) ?_
      refine dj_v 4 hb.bd rfl rfl ?_
      refine dj_h 5 (.agg #[str y10.1.user, .int .i64 y10.1.begun, v162]) hb.bd rfl (fun w1 ρ1 hw1 => ev_loads (cs := [str y10.1.user, .int .i64 y10.1.begun, v162]) Tryz.isAgg74 Tryz.sizeOf74 rfl ((hB21.mv (hw1.mv (i := 15) rfl)).cells (vs := [str y10.1.user, .int .i64 y10.1.begun, v162]) rfl)) ?_
      refine dj_E 6 (by kernel_rfl) rfl ?_
      have jt185 : Tr ρ164 w170 (fun t => ([60, 106] : List Nat).contains t) ρ164 w170 := (Tr.refl hb.bd).weak (fun _ _ => rfl) rfl rfl
      have t186 := frz_tr (ρ := ρ164) (w := w170) (i := 60) (by decide) hb.bd
      have h187 : SlR api_Proof.c (Wb (frz ρ164 60)) w170 v162 (y143 ++ ([(api_Proof.mk f_4 y151)] : List api_Proof)) := (SlT.mv h163.sl (frz_mv (ρ := ρ164) (w := w170) (i := 60))).sl
      replace h60 := h60.m t186
      replace hb := hb.trans t186
      replace jt185 := jt185.tw t186
      obtain ⟨hk188, hS⟩ := chk_some hS
      refine sr_mapPut (k := id_1) (d := (login_attempt.mk y10.1.user y10.1.begun (y143 ++ ([(api_Proof.mk f_4 y151)] : List api_Proof)))) (u := .agg #[str y10.1.user, .int .i64 y10.1.begun, v162]) (cs := [str y10.1.user, .int .i64 y10.1.begun, v162]) h60 hk188 Tryz.keyB9 Tryz.underlying67 (by decide) hb.bd rfl ⟨_, rfl, h187⟩ rfl rfl rfl ?_
      intro w189 h601 t190
      replace hB61 := (hB61.m t186).m t190
      replace hP54 := (hP54.m secret_Locks.objK t186).m secret_Locks.objK t190
      replace h56 := (h56.m t186).m t190
      replace h58 := (h58.m t186).m t190
      replace hb := hb.trans t190
      replace jt185 := jt185.tw t190
      replace h60 := h601
      clear h601
      refine dj_nx [] rfl jt185 ?_
      refine dj_done rfl (by kernel_rfl) ?_
      refine ke_fin [] rfl <| ke_seq <| ke_region <| sr_go 1 rfl <| sr_fin [12] rfl ?_
      cases hS
      exact ke_ret1 Tryz.func47 rfl rfl ⟨_, rfl, _, rfl, ⟨_, _, _, _, (hB61.lv 0 hb), (hP54.lv secret_Locks.objK ho2 hb), (h56.lv 4 hb), (h58.lv 5 hb), (h60.lv 6 hb)⟩, (leave_tr ho2 hb)⟩
theorem login_Logins_Password_ok (w0 : World) (hg : Gs w0) {ρA : Tags} (hbd : ∀ b, ρA b ≠ 0 → b < w0.heap.size) (hz : Gz ρA) {o : Nat} (ho2 : 2 ≤ o) {l_0 : login_Logins} {id_1 : Str} {password_2 : Str} {now_3 : Int} {gl_0 : Nat} {r : Int × login_Logins} (ho0 : login_Logins.O (fun p => o + p) ρA w0 gl_0 l_0) (hS : login_Logins_Password l_0 id_1 password_2 now_3 = some r) :
  Calls Tryz.prog 19 #[pT gl_0 0, str id_1, str password_2, .int .i64 now_3] w0 (Ret (fun v w' => ∃ ρ', v = .int .i64 r.1 ∧ login_Logins.O (fun p => o + p) ρ' w' gl_0 r.2 ∧ Tr ρA w0 (rng o 7) ρ' w')) := by
 unfold login_Logins_Password at hS
 have hb := enter_fr (ρ := ρA) (w := w0) (n := 7) ho2 hbd
 have hz := hz.enter (n := 7) ho2
 obtain ⟨v1, v3, v5, v7, hB9, hP2, h4, h6, h8⟩ := ho0
 replace hB9 := hB9.mv (enter_mv (p := 0) (n := 7) (by decide) ho2)
 replace hP2 := PtrO.mv hP2 secret_Locks.objK (fun p hp => enter_mv (p := 1 + p) (n := 7) (by omega) ho2) (fun p hp => by omega)
 replace h4 := h4.mv (enter_mv (p := 4) (n := 7) (by decide) ho2)
 replace h6 := h6.mv (enter_mv (p := 5) (n := 7) (by decide) ho2)
 replace h8 := h8.mv (enter_mv (p := 6) (n := 7) (by decide) ho2)
 refine ck Tryz.func19 [0, 1, 2, 3] rfl rfl ?_
 refine ke_seq <| ke_region <| sr_go 1 rfl <| sr_fin [0, 1, 2, 3] rfl <| ke_seq <| ke_region <| sr_go 4 rfl ?_
 obtain ⟨y10, hy11, hS⟩ := bS hS
 refine sr_cl Tryz.call47 (login_Logins_present__Logins_byPassword_ok _ (hg.fr hz hb) hb.bd (hz.fr hg hb) (o := 100) (by decide) (by exact ⟨_, _, _, _, hB9, hP2, h4, h6, h8⟩) hy11) ?_
 rintro _ w12 ⟨ρ24, rfl, ⟨v15, v17, v19, v21, hB23, hP16, h18, h20, h22⟩, t14⟩
 replace hb := hb.trans t14
 refine sr_go 1 rfl <| sr_fin [8] rfl ?_
 cases hS
 exact ke_ret1 Tryz.func19 rfl rfl ⟨_, rfl, _, rfl, ⟨_, _, _, _, (hB23.lv 0 hb), (hP16.lv secret_Locks.objK ho2 hb), (h18.lv 4 hb), (h20.lv 5 hb), (h22.lv 6 hb)⟩, (leave_tr ho2 hb)⟩
theorem strength_ordinary_ok (w0 : World) (hg : Gs w0) {ρA : Tags} (hbd : ∀ b, ρA b ≠ 0 → b < w0.heap.size) (hz : Gz ρA) {r : List Int} (hS : strength_ordinary = some r) :
  Calls Tryz.prog 93 #[] w0 (Ret (fun v w' => v = arrV .i64 r ∧ Below w0.heap.size w0 w')) := by
 unfold strength_ordinary at hS
 have hb := flat1_fr (ρ := ρA) (w := w0) hbd
 have hz := hz.flat1
 refine ck Tryz.func93 [] rfl rfl ?_
 refine ke_seq <| ke_region ?_
 refine sr_allocT 2 (by decide) hb.bd Tryz.zeroValue125 (by decide) ?_
 intro g1 ρ2 w3 hB5 t4
 replace hb := hb.trans t4
 refine sr_fin [0] rfl <| ke_seq <| ke_region ?_
 refine sr_e (v := .agg #[.int .i64 1, .int .i64 2, .int .i64 3]) (ev_build (vs := #[(0, .int .i64 1), (1, .int .i64 2), (2, .int .i64 3)]) rfl (fun _ => by kernel_rfl)) ?_
 refine sr_storeT (v := .agg #[.int .i64 1, .int .i64 2, .int .i64 3]) (vs := [.int .i64 1, .int .i64 2, .int .i64 3]) (cs' := #[.int .i64 1, .int .i64 2, .int .i64 3]) hB5 (by decide) hb.bd rfl rfl rfl Tryz.sizeOf125 rfl rfl rfl ?_
 intro w6 hB5 t7
 replace hb := hb.trans t7
 refine sr_fin [0] rfl ?_
 cases hS
 exact ke_ret (rs := [.cell 0 125]) (vs := [.agg #[.int .i64 1, .int .i64 2, .int .i64 3]]) Tryz.func93 rfl ⟨⟨_, rfl, run_loadVar_s (cs := [.int .i64 1, .int .i64 2, .int .i64 3]) Tryz.isAgg125 Tryz.sizeOf125 (hB5.cells (vs := [.int .i64 1, .int .i64 2, .int .i64 3]) rfl)⟩, trivial⟩ rfl ⟨_, rfl, rfl, (hb.below (flat1_le _))⟩
theorem strength_has_1_ok (w0 : World) (hg : Gs w0) {ρA : Tags} (hbd : ∀ b, ρA b ≠ 0 → b < w0.heap.size) (hz : Gz ρA) {p_0 : api_Proof} {c1 : Int} {b1 : Nat} {r : Bool} (he2 : ElT (intC .i64) ρA 0 w0 b1 0 [.int .i64 c1] c1) (hS : strength_has_1 p_0 c1 = some r) :
  Calls Tryz.prog 95 #[.agg #[.int .i64 p_0.Factor, .int .i64 p_0.Time], pT b1 0] w0 (Ret (fun v w' => v = .bool r ∧ Below w0.heap.size w0 w')) := by
 unfold strength_has_1 at hS
 have hb := flat1_fr (ρ := ρA) (w := w0) hbd
 have hz := hz.flat1
 replace he2 := he2.mv flat1_rd (Nat.succ_pos _)
 refine ck Tryz.func95 [0, 1] rfl rfl ?_
 refine ke_seq <| ke_region ?_
 refine sr_boxT 4 (by decide) hb.bd rfl (by decide) ?_
 intro g3 ρ4 w5 hB7 t6
 replace he2 := he2.mv (t6.mv (i := 0) rfl) (Nat.succ_pos _)
 replace hb := hb.trans t6
 refine sr_go 1 rfl <| sr_fin [1, 2] rfl <| ke_seq <| ke_region ?_
 refine sr_fa 0 Tryz.underlying42 rfl Tryz.info40 ?_
 refine sr_ld (.int .i64 p_0.Factor) Tryz.isAgg40 rfl (hB7.cell rfl) ?_
 refine sr_ld (.int .i64 c1) Tryz.isAgg40 rfl (he2.cell 0 _ rfl) ?_
 refine sr_go 2 rfl <| sr_fin [3] rfl ?_
 cases hS
 exact ke_ret1 Tryz.func95 rfl rfl ⟨_, rfl, rfl, (hb.below (flat1_le _))⟩
theorem slices_IndexFunc_api_Proof_api_Proof__has_1_L1_ok {w0 : World} (hg : Gs w0) {ρA : Tags} (hbd : ∀ b, ρA b ≠ 0 → b < w0.heap.size) (hz : Gz (flat1 ρA)) : ∀ (n : Nat), ∀ {r : Int} {s_0 : List api_Proof} {f_1_c0 : Int} {t_7 : Int} {t_8 : Int} {vs_0 : Value} {bf_1_c0 : Nat}, slices_IndexFunc_api_Proof_api_Proof__has_1_L1 n s_0 f_1_c0 t_7 t_8 = some r → ∀ {ρ : Tags} {w : World}, (Fr (flat1 ρA) w0 ρ w) → (SlR api_Proof.c (Wb ρ) w vs_0 s_0) → (ElT (intC .i64) ρ 0 w bf_1_c0 0 [.int .i64 f_1_c0] f_1_c0) → KE Tryz.prog 121 (Ret (fun v w' => v = .int .i64 r ∧ Below w0.heap.size w0 w')) 19 [.code (sub (bodyOf Tryz.f121) [2, 1, 2, 2, 1]), .inLoop (sub (bodyOf Tryz.f121) [2, 1, 2, 2, 1]), .inBlock 0, .code (sub (bodyOf Tryz.f121) [2, 2])] [(0, vs_0), (1, .func (.func 95) #[] #[pT bf_1_c0 0]), (7, .int .i64 t_7), (8, .int .i64 t_8)] w := by
 intro n
 induction n with
 | zero => intro r s_0 f_1_c0 t_7 t_8 vs_0 bf_1_c0 hS; cases hS
 | succ n ih =>
  have hr0 : ∀ {r : Int} {s_0 : List api_Proof} {f_1_c0 : Int} {t_7 : Int} {t_8 : Int} {vs_0 : Value} {bf_1_c0 : Nat}, slices_IndexFunc_api_Proof_api_Proof__has_1_L1 n s_0 f_1_c0 t_7 t_8 = some r → ∀ {ρ : Tags} {w : World}, (Fr (flat1 ρA) w0 ρ w) → (SlR api_Proof.c (Wb ρ) w vs_0 s_0) → (ElT (intC .i64) ρ 0 w bf_1_c0 0 [.int .i64 f_1_c0] f_1_c0) → KE Tryz.prog 121 (Ret (fun v w' => v = .int .i64 r ∧ Below w0.heap.size w0 w')) 19 [.inLoop (sub (bodyOf Tryz.f121) [2, 1, 2, 2, 1]), .inBlock 0, .code (sub (bodyOf Tryz.f121) [2, 2])] [(0, vs_0), (1, .func (.func 95) #[] #[pT bf_1_c0 0]), (7, .int .i64 t_7), (8, .int .i64 t_8)] w := fun {r} {s_0} {f_1_c0} {t_7} {t_8} {vs_0} {bf_1_c0} hS {ρ} {w} hb hs_0 hef_1_c0 => ke_inLoop (ih hS hb hs_0 hef_1_c0)
  clear ih
  intro r s_0 f_1_c0 t_7 t_8 vs_0 bf_1_c0 hS ρ w hb hs_0 hef_1_c0
  unfold slices_IndexFunc_api_Proof_api_Proof__has_1_L1 at hS
  refine ke_seq <| ke_region <| sr_go 1 rfl <| sr_fin [0, 1, 7, 8, 9] rfl <| ke_seq ?_
  refine ke_cond rfl (fun hc5 => ?_) (fun hc5 => ?_)
  ·replace hS := iT hS hc5
   refine ke_skip <| ke_seq ?_
   refine ke_block ?_
   refine ke_seq <| ke_region <| sr_go 2 rfl <| sr_fin [0, 1, 5, 7, 8] rfl <| ke_seq <| ke_region <| sr_go 3 rfl ?_
   obtain ⟨y6, hy7, hS⟩ := bS hS
   obtain ⟨b8, o9, cs11, hq12, he10⟩ := ((SlT.of_sl (i := 0) hs_0)).elem (P := Tryz.prog) Tryz.underlying36 Tryz.info42 rfl hy7
   obtain rfl : cs11 = [.int .i64 y6.Factor, .int .i64 y6.Time] := he10.rd
   refine sr_e (hq12 w rfl rfl) ?_
   refine sr_e (v := .agg #[.int .i64 y6.Factor, .int .i64 y6.Time]) (ev_loads (cs := [.int .i64 y6.Factor, .int .i64 y6.Time]) Tryz.isAgg42 Tryz.sizeOf42 rfl he10.cell) ?_
   obtain ⟨y13, hy14, hS⟩ := bS hS
   refine sr_callc (vs := [.agg #[.int .i64 y6.Factor, .int .i64 y6.Time]]) rfl Tryz.call95 rfl (strength_has_1_ok _ (hg.fr hz hb) (ρA := ρ) hb.bd (hz.fr hg hb) hef_1_c0 hy14) (by decide) ?_
   rintro _ w15 ⟨rfl, hbw16⟩
   have t17 := Tr.of_below hbw16 hb.bd
   replace hs_0 := hs_0.mv t17.rd
   replace hef_1_c0 := hef_1_c0.mv (t17.mv (i := 0) rfl) (Nat.succ_pos _)
   replace hb := hb.trans t17
   refine sr_fin [0, 1, 5, 7, 8, 16] rfl ?_
   refine ke_cond rfl (fun hc18 => ?_) (fun hc18 => ?_)
   ·replace hS := iT hS hc18
    refine ke_seq <| ke_region <| sr_go 2 rfl <| sr_fin [4] rfl ?_
    cases hS
    exact ke_ret1 Tryz.func121 rfl rfl ⟨_, rfl, rfl, (hb.below (flat1_le _))⟩
   ·replace hS := iF hS hc18
    refine ke_skip <| ke_inBlock <| ke_region <| sr_go 2 rfl <| sr_fin [0, 1, 7, 8] rfl ?_
    have hK := hr0 hS hb hs_0 hef_1_c0
    exact ke_wk hK
  ·replace hS := iF hS hc5
   refine ke_exit (k' := _) rfl ?_
   refine ke_seq <| ke_region <| sr_go 1 rfl <| sr_fin [4] rfl ?_
   cases hS
   exact ke_ret1 Tryz.func121 rfl rfl ⟨_, rfl, rfl, (hb.below (flat1_le _))⟩
theorem slices_IndexFunc_api_Proof_api_Proof__has_1_ok (w0 : World) (hg : Gs w0) {ρA : Tags} (hbd : ∀ b, ρA b ≠ 0 → b < w0.heap.size) (hz : Gz ρA) {s_0 : List api_Proof} {c1_0 : Int} {v1 : Value} {b3 : Nat} {r : Int} (h2 : SlR api_Proof.c (Wb ρA) w0 v1 s_0) (he4 : ElT (intC .i64) ρA 0 w0 b3 0 [.int .i64 c1_0] c1_0) (hS : slices_IndexFunc_api_Proof_api_Proof__has_1 s_0 c1_0 = some r) :
  Calls Tryz.prog 121 #[v1, .func (.func 95) #[] #[pT b3 0]] w0 (Ret (fun v w' => v = .int .i64 r ∧ Below w0.heap.size w0 w')) := by
 unfold slices_IndexFunc_api_Proof_api_Proof__has_1 at hS
 have hb := flat1_fr (ρ := ρA) (w := w0) hbd
 have hz := hz.flat1
 replace h2 := SlR.mv h2 flat1_rd
 replace he4 := he4.mv flat1_rd (Nat.succ_pos _)
 refine ck Tryz.func121 [0, 1] rfl rfl ?_
 refine ke_seq <| ke_region <| sr_go 1 rfl <| sr_fin [0, 1] rfl <| ke_seq <| ke_seq <| ke_region <| sr_go 1 rfl ?_
 refine sr_e (ev_sllenW Tryz.underlying36 rfl h2.asSl) ?_
 refine sr_go 1 rfl <| sr_fin [0, 1, 7, 8] rfl ?_
 refine ke_block ?_
 have hK := slices_IndexFunc_api_Proof_api_Proof__has_1_L1_ok hg hbd hz _ hS hb h2 he4
 exact ke_wk (ke_loop hK)
theorem slices_ContainsFunc_api_Proof_api_Proof__has_1_ok (w0 : World) (hg : Gs w0) {ρA : Tags} (hbd : ∀ b, ρA b ≠ 0 → b < w0.heap.size) (hz : Gz ρA) {s_0 : List api_Proof} {c1_0 : Int} {v1 : Value} {b3 : Nat} {r : Bool} (h2 : SlR api_Proof.c (Wb ρA) w0 v1 s_0) (he4 : ElT (intC .i64) ρA 0 w0 b3 0 [.int .i64 c1_0] c1_0) (hS : slices_ContainsFunc_api_Proof_api_Proof__has_1 s_0 c1_0 = some r) :
  Calls Tryz.prog 94 #[v1, .func (.func 95) #[] #[pT b3 0]] w0 (Ret (fun v w' => v = .bool r ∧ Below w0.heap.size w0 w')) := by
 unfold slices_ContainsFunc_api_Proof_api_Proof__has_1 at hS
 have hb := flat1_fr (ρ := ρA) (w := w0) hbd
 have hz := hz.flat1
 replace h2 := SlR.mv h2 flat1_rd
 replace he4 := he4.mv flat1_rd (Nat.succ_pos _)
 refine ck Tryz.func94 [0, 1] rfl rfl ?_
 refine ke_seq <| ke_region <| sr_go 1 rfl <| sr_fin [0, 1] rfl <| ke_seq <| ke_region <| sr_go 2 rfl ?_
 obtain ⟨y5, hy6, hS⟩ := bS hS
 refine sr_cb Tryz.call121 (slices_IndexFunc_api_Proof_api_Proof__has_1_ok _ (hg.fr hz hb) hb.bd (hz.fr hg hb) h2 he4 hy6) hb.bd ?_
 intro w7 t9
 replace hb := hb.trans t9
 refine sr_go 2 rfl <| sr_fin [4] rfl ?_
 cases hS
 exact ke_ret1 Tryz.func94 rfl rfl ⟨_, rfl, rfl, (hb.below (flat1_le _))⟩
theorem strength_has_ok (w0 : World) (hg : Gs w0) {ρA : Tags} (hbd : ∀ b, ρA b ≠ 0 → b < w0.heap.size) (hz : Gz ρA) {l_0 : List api_Proof} {f_1 : Int} {v1 : Value} {r : Bool} (h2 : SlR api_Proof.c (Wb ρA) w0 v1 l_0) (hS : strength_has l_0 f_1 = some r) :
  Calls Tryz.prog 52 #[v1, .int .i64 f_1] w0 (Ret (fun v w' => v = .bool r ∧ Below w0.heap.size w0 w')) := by
 unfold strength_has at hS
 have hb := flat1_fr (ρ := ρA) (w := w0) hbd
 have hz := hz.flat1
 replace h2 := SlR.mv h2 flat1_rd
 refine ck Tryz.func52 [0, 1] rfl rfl ?_
 refine ke_seq <| ke_region ?_
 refine sr_boxT 5 (by decide) hb.bd rfl (by decide) ?_
 intro g3 ρ4 w5 hB7 t6
 replace h2 := h2.mv t6.rd
 replace hb := hb.trans t6
 refine sr_go 1 rfl <| sr_fin [0, 3] rfl <| ke_seq <| ke_region <| sr_go 1 rfl ?_
 have t8 := frz_tr (ρ := ρ4) (w := w5) (i := 5) (by decide) hb.bd
 have he9 : ElT (intC .i64) (frz ρ4 5) 0 w5 g3 0 [.int .i64 f_1] f_1 := Blk.frzEl hB7 rfl rfl
 replace h2 := h2.mv t8.rd
 replace hb := hb.trans t8
 refine sr_e (v := .func (.func 95) #[] #[pT g3 0]) (ev_makeFunc rfl) ?_
 obtain ⟨y10, hy11, hS⟩ := bS hS
 refine sr_cb Tryz.call94 (slices_ContainsFunc_api_Proof_api_Proof__has_1_ok _ (hg.fr hz hb) hb.bd (hz.fr hg hb) h2 he9 hy11) hb.bd ?_
 intro w12 t14
 replace hb := hb.trans t14
 refine sr_go 1 rfl <| sr_fin [4] rfl ?_
 cases hS
 exact ke_ret1 Tryz.func52 rfl rfl ⟨_, rfl, rfl, (hb.below (flat1_le _))⟩

end YtkhodjenbganfaaGreatDoor
end Go.Proofs
