/- Own work: a part of the proofs of this seat. -/
import Derived.Test.YteifnoehmfjogaaDoorProg
import Derived.Test.YteifnoehmfjogaaDoorShelf
import Derived.Test.YteifnoehmfjogaaDoorKwLS
import Derived.KernelRfl
set_option linter.unusedVariables false
set_option linter.unusedSimpArgs false
set_option linter.unusedSectionVars false
set_option maxHeartbeats 8000000
set_option maxRecDepth 8000
namespace Go.Proofs
namespace YteifnoehmfjogaaDoor
open Go Go.KW Go.KW.S Go.RowKit
theorem Tryd.mixed : Tryd.prog.follows .mixedOrders = true := by kernel_rfl
theorem Tryd.info0 : Tryd.prog.info? 0 = some Tryd.t0 := by kernel_rfl
theorem Tryd.info1 : Tryd.prog.info? 1 = some Tryd.t1 := by kernel_rfl
theorem Tryd.info2 : Tryd.prog.info? 2 = some Tryd.t2 := by kernel_rfl
theorem Tryd.info3 : Tryd.prog.info? 3 = some Tryd.t3 := by kernel_rfl
theorem Tryd.info4 : Tryd.prog.info? 4 = some Tryd.t4 := by kernel_rfl
theorem Tryd.info5 : Tryd.prog.info? 5 = some Tryd.t5 := by kernel_rfl
theorem Tryd.info6 : Tryd.prog.info? 6 = some Tryd.t6 := by kernel_rfl
theorem Tryd.info7 : Tryd.prog.info? 7 = some Tryd.t7 := by kernel_rfl
theorem Tryd.info8 : Tryd.prog.info? 8 = some Tryd.t8 := by kernel_rfl
theorem Tryd.info9 : Tryd.prog.info? 9 = some Tryd.t9 := by kernel_rfl
theorem Tryd.info10 : Tryd.prog.info? 10 = some Tryd.t10 := by kernel_rfl
theorem Tryd.info11 : Tryd.prog.info? 11 = some Tryd.t11 := by kernel_rfl
theorem Tryd.info12 : Tryd.prog.info? 12 = some Tryd.t12 := by kernel_rfl
theorem Tryd.info13 : Tryd.prog.info? 13 = some Tryd.t13 := by kernel_rfl
theorem Tryd.info14 : Tryd.prog.info? 14 = some Tryd.t14 := by kernel_rfl
theorem Tryd.info15 : Tryd.prog.info? 15 = some Tryd.t15 := by kernel_rfl
theorem Tryd.info16 : Tryd.prog.info? 16 = some Tryd.t16 := by kernel_rfl
theorem Tryd.info17 : Tryd.prog.info? 17 = some Tryd.t17 := by kernel_rfl
theorem Tryd.info18 : Tryd.prog.info? 18 = some Tryd.t18 := by kernel_rfl
theorem Tryd.info19 : Tryd.prog.info? 19 = some Tryd.t19 := by kernel_rfl
theorem Tryd.info20 : Tryd.prog.info? 20 = some Tryd.t20 := by kernel_rfl
theorem Tryd.info21 : Tryd.prog.info? 21 = some Tryd.t21 := by kernel_rfl
theorem Tryd.info22 : Tryd.prog.info? 22 = some Tryd.t22 := by kernel_rfl
theorem Tryd.info23 : Tryd.prog.info? 23 = some Tryd.t23 := by kernel_rfl
theorem Tryd.info24 : Tryd.prog.info? 24 = some Tryd.t24 := by kernel_rfl
theorem Tryd.info25 : Tryd.prog.info? 25 = some Tryd.t25 := by kernel_rfl
theorem Tryd.info26 : Tryd.prog.info? 26 = some Tryd.t26 := by kernel_rfl
theorem Tryd.info27 : Tryd.prog.info? 27 = some Tryd.t27 := by kernel_rfl
theorem Tryd.info28 : Tryd.prog.info? 28 = some Tryd.t28 := by kernel_rfl
theorem Tryd.info29 : Tryd.prog.info? 29 = some Tryd.t29 := by kernel_rfl
theorem Tryd.info30 : Tryd.prog.info? 30 = some Tryd.t30 := by kernel_rfl
theorem Tryd.info31 : Tryd.prog.info? 31 = some Tryd.t31 := by kernel_rfl
theorem Tryd.info32 : Tryd.prog.info? 32 = some Tryd.t32 := by kernel_rfl
theorem Tryd.info33 : Tryd.prog.info? 33 = some Tryd.t33 := by kernel_rfl
theorem Tryd.info34 : Tryd.prog.info? 34 = some Tryd.t34 := by kernel_rfl
theorem Tryd.info35 : Tryd.prog.info? 35 = some Tryd.t35 := by kernel_rfl
theorem Tryd.info36 : Tryd.prog.info? 36 = some Tryd.t36 := by kernel_rfl
theorem Tryd.info37 : Tryd.prog.info? 37 = some Tryd.t37 := by kernel_rfl
theorem Tryd.info38 : Tryd.prog.info? 38 = some Tryd.t38 := by kernel_rfl
theorem Tryd.info39 : Tryd.prog.info? 39 = some Tryd.t39 := by kernel_rfl
theorem Tryd.info40 : Tryd.prog.info? 40 = some Tryd.t40 := by kernel_rfl
theorem Tryd.info41 : Tryd.prog.info? 41 = some Tryd.t41 := by kernel_rfl
theorem Tryd.info42 : Tryd.prog.info? 42 = some Tryd.t42 := by kernel_rfl
theorem Tryd.info43 : Tryd.prog.info? 43 = some Tryd.t43 := by kernel_rfl
theorem Tryd.info44 : Tryd.prog.info? 44 = some Tryd.t44 := by kernel_rfl
theorem Tryd.info45 : Tryd.prog.info? 45 = some Tryd.t45 := by kernel_rfl
theorem Tryd.info46 : Tryd.prog.info? 46 = some Tryd.t46 := by kernel_rfl
theorem Tryd.info47 : Tryd.prog.info? 47 = some Tryd.t47 := by kernel_rfl
theorem Tryd.info48 : Tryd.prog.info? 48 = some Tryd.t48 := by kernel_rfl
theorem Tryd.info49 : Tryd.prog.info? 49 = some Tryd.t49 := by kernel_rfl
theorem Tryd.info50 : Tryd.prog.info? 50 = some Tryd.t50 := by kernel_rfl
theorem Tryd.info51 : Tryd.prog.info? 51 = some Tryd.t51 := by kernel_rfl
theorem Tryd.info52 : Tryd.prog.info? 52 = some Tryd.t52 := by kernel_rfl
theorem Tryd.info53 : Tryd.prog.info? 53 = some Tryd.t53 := by kernel_rfl
theorem Tryd.info54 : Tryd.prog.info? 54 = some Tryd.t54 := by kernel_rfl
theorem Tryd.info55 : Tryd.prog.info? 55 = some Tryd.t55 := by kernel_rfl
theorem Tryd.info56 : Tryd.prog.info? 56 = some Tryd.t56 := by kernel_rfl
theorem Tryd.info57 : Tryd.prog.info? 57 = some Tryd.t57 := by kernel_rfl
theorem Tryd.info58 : Tryd.prog.info? 58 = some Tryd.t58 := by kernel_rfl
theorem Tryd.info59 : Tryd.prog.info? 59 = some Tryd.t59 := by kernel_rfl
theorem Tryd.info60 : Tryd.prog.info? 60 = some Tryd.t60 := by kernel_rfl
theorem Tryd.info61 : Tryd.prog.info? 61 = some Tryd.t61 := by kernel_rfl
theorem Tryd.info62 : Tryd.prog.info? 62 = some Tryd.t62 := by kernel_rfl
theorem Tryd.info63 : Tryd.prog.info? 63 = some Tryd.t63 := by kernel_rfl
theorem Tryd.info64 : Tryd.prog.info? 64 = some Tryd.t64 := by kernel_rfl
theorem Tryd.info65 : Tryd.prog.info? 65 = some Tryd.t65 := by kernel_rfl
theorem Tryd.info66 : Tryd.prog.info? 66 = some Tryd.t66 := by kernel_rfl
theorem Tryd.info67 : Tryd.prog.info? 67 = some Tryd.t67 := by kernel_rfl
theorem Tryd.info68 : Tryd.prog.info? 68 = some Tryd.t68 := by kernel_rfl
theorem Tryd.info69 : Tryd.prog.info? 69 = some Tryd.t69 := by kernel_rfl
theorem Tryd.info70 : Tryd.prog.info? 70 = some Tryd.t70 := by kernel_rfl
theorem Tryd.info71 : Tryd.prog.info? 71 = some Tryd.t71 := by kernel_rfl
theorem Tryd.info72 : Tryd.prog.info? 72 = some Tryd.t72 := by kernel_rfl
theorem Tryd.info73 : Tryd.prog.info? 73 = some Tryd.t73 := by kernel_rfl
theorem Tryd.info74 : Tryd.prog.info? 74 = some Tryd.t74 := by kernel_rfl
theorem Tryd.info75 : Tryd.prog.info? 75 = some Tryd.t75 := by kernel_rfl
theorem Tryd.info76 : Tryd.prog.info? 76 = some Tryd.t76 := by kernel_rfl
theorem Tryd.info77 : Tryd.prog.info? 77 = some Tryd.t77 := by kernel_rfl
theorem Tryd.info78 : Tryd.prog.info? 78 = some Tryd.t78 := by kernel_rfl
theorem Tryd.info79 : Tryd.prog.info? 79 = some Tryd.t79 := by kernel_rfl
theorem Tryd.info80 : Tryd.prog.info? 80 = some Tryd.t80 := by kernel_rfl
theorem Tryd.info81 : Tryd.prog.info? 81 = some Tryd.t81 := by kernel_rfl
theorem Tryd.info82 : Tryd.prog.info? 82 = some Tryd.t82 := by kernel_rfl
theorem Tryd.info83 : Tryd.prog.info? 83 = some Tryd.t83 := by kernel_rfl
theorem Tryd.info84 : Tryd.prog.info? 84 = some Tryd.t84 := by kernel_rfl
theorem Tryd.info85 : Tryd.prog.info? 85 = some Tryd.t85 := by kernel_rfl
theorem Tryd.info86 : Tryd.prog.info? 86 = some Tryd.t86 := by kernel_rfl
theorem Tryd.info87 : Tryd.prog.info? 87 = some Tryd.t87 := by kernel_rfl
theorem Tryd.info88 : Tryd.prog.info? 88 = some Tryd.t88 := by kernel_rfl
theorem Tryd.info89 : Tryd.prog.info? 89 = some Tryd.t89 := by kernel_rfl
theorem Tryd.info90 : Tryd.prog.info? 90 = some Tryd.t90 := by kernel_rfl
theorem Tryd.info91 : Tryd.prog.info? 91 = some Tryd.t91 := by kernel_rfl
theorem Tryd.info92 : Tryd.prog.info? 92 = some Tryd.t92 := by kernel_rfl
theorem Tryd.info93 : Tryd.prog.info? 93 = some Tryd.t93 := by kernel_rfl
theorem Tryd.info94 : Tryd.prog.info? 94 = some Tryd.t94 := by kernel_rfl
theorem Tryd.info95 : Tryd.prog.info? 95 = some Tryd.t95 := by kernel_rfl
theorem Tryd.info96 : Tryd.prog.info? 96 = some Tryd.t96 := by kernel_rfl
theorem Tryd.info97 : Tryd.prog.info? 97 = some Tryd.t97 := by kernel_rfl
theorem Tryd.info98 : Tryd.prog.info? 98 = some Tryd.t98 := by kernel_rfl
theorem Tryd.info99 : Tryd.prog.info? 99 = some Tryd.t99 := by kernel_rfl
theorem Tryd.info100 : Tryd.prog.info? 100 = some Tryd.t100 := by kernel_rfl
theorem Tryd.info101 : Tryd.prog.info? 101 = some Tryd.t101 := by kernel_rfl
theorem Tryd.info102 : Tryd.prog.info? 102 = some Tryd.t102 := by kernel_rfl
theorem Tryd.info103 : Tryd.prog.info? 103 = some Tryd.t103 := by kernel_rfl
theorem Tryd.info104 : Tryd.prog.info? 104 = some Tryd.t104 := by kernel_rfl
theorem Tryd.info105 : Tryd.prog.info? 105 = some Tryd.t105 := by kernel_rfl
structure Gs (w : World) : Prop where
 tab0_ : ∀ i x, idx tab_digest_digits i = some x → w.cell? ⟨0, 0 + i.toNat * 1, none⟩ = some (.int .u8 x)
 iv1_ : ∃ m, w.cell? ⟨1, 0, none⟩ = some (.int .i64 m)
theorem Gs.below {w w' : World} (h : Gs w) (s : Below w.heap.size w w') : Gs w' := ⟨fun i x hx => cell_below (h.tab0_ i x hx) s, h.iv1_.imp fun _ hm => cell_below hm s⟩
structure Gz (ρ : Tags) : Prop where
 z0 : ρ 0 = 0
 z1 : ρ 1 = 0
theorem Gs.fr {ρ0 ρ : Tags} {w0 w : World} (h : Gs w0) (hz : Gz ρ0) (hb : Fr ρ0 w0 ρ w) : Gs w := ⟨fun i x hx => cell_fr (h.tab0_ i x hx) hz.z0 hb, h.iv1_.imp fun _ hm => cell_fr hm hz.z1 hb⟩
theorem Gz.fr {ρ0 ρ : Tags} {w0 w : World} (hz : Gz ρ0) (h : Gs w0) (hb : Fr ρ0 w0 ρ w) : Gz ρ := ⟨tag_fr (h.tab0_ 0 _ rfl) hz.z0 hb, h.iv1_.elim fun _ hm => tag_fr hm hz.z1 hb⟩
theorem Gz.enter {ρ : Tags} {o n : Nat} (hz : Gz ρ) (ho : 2 ≤ o) : Gz (enter ρ o n) := ⟨enter_zero ho hz.z0, enter_zero ho hz.z1⟩
theorem Gz.flat1 {ρ : Tags} (hz : Gz ρ) : Gz (flat1 ρ) := ⟨flat1_zero hz.z0, flat1_zero hz.z1⟩
theorem Gs.tab0 {w : World} (h : Gs w) {i x : Int} (hx : idx tab_digest_digits i = some x) : w.cell? ⟨0, 0 + i.toNat * 1, none⟩ = some (.int .u8 x) := h.tab0_ i x hx
theorem lib_Contains_ok (w0 : World) (hg : Gs w0) {s t : Str} {r : Bool} (hS : lib_Contains s t = some r) : Calls Tryd.prog 42 #[str s, str t] w0 (Ret fun v w' => v = .bool r ∧ Below w0.heap.size w0 w') :=
 contains_ok (gm := 1) (fun s t m w hs hm => Tryd.strings_Contains s t m w hs hm) hg.iv1_ hS
theorem Tryd.keyB9 : KeyB Tryd.prog 9 str := keyB_str Tryd.underlying9
theorem fold_upper_ok (w0 : World) (hg : Gs w0) {c_0 : Int} {r : Bool} (hS : fold_upper c_0 = some r) :
  Calls Tryd.prog 63 #[.int .u8 c_0] w0 (Ret (fun v w' => v = .bool r ∧ Below w0.heap.size w0 w')) := by
 unfold fold_upper at hS
 have hb := Below.refl w0.heap.size w0
 refine calls_of_ke Tryd.func63 rfl (n := 9) rfl rfl (l := [(0, .int .u8 c_0)]) rfl ?_
 refine ke_seq ?_
 refine ke_region ?_
 refine sr_ev (v := .bool false) (ev_assign rfl) (by decide) ?_
 refine sr_end (l' := [(0, .int .u8 c_0)]) (.cons rfl (.nil _)) ?_
 refine ke_seq ?_
 refine ke_region ?_
 refine sr_ev (v := .int .u8 c_0) (ev_move rfl) (by decide) ?_
 refine sr_ev (v := .bool (decide (c_0 ≥ 65))) (ev_ge rfl rfl) (by decide) ?_
 refine sr_ev (v := .bool (decide (c_0 ≥ 65))) (ev_move rfl) (by decide) ?_
 refine sr_join (m := 3) (C := fun (x : Bool) w1 => x = ((decide (c_0 ≥ 65)) && (decide (c_0 ≤ 90))) ∧ w0 = w1) (l' := fun x => [(8, .bool x)]) ?_ ?_
 ·rintro _ _ ⟨rfl, rfl⟩
  refine sr_ev (v := .bool ((decide (c_0 ≥ 65)) && (decide (c_0 ≤ 90)))) (ev_assign rfl) (by decide) ?_
  refine sr_end (l' := [(2, .bool ((decide (c_0 ≥ 65)) && (decide (c_0 ≤ 90))))]) (.cons rfl (.nil _)) ?_
  cases hS
  exact ke_ret1 Tryd.func63 rfl rfl ⟨_, rfl, rfl, hb⟩
 ·intro K2
  rcases Bool.eq_false_or_eq_true (decide (c_0 ≥ 65)) with hg1 | hg1
  ·refine sr_evg (b := true) (e := 5) rfl rfl hg1 (v := .int .u8 c_0) (ev_move rfl) (by decide) ?_
   refine sr_evg (b := true) (e := 5) rfl rfl hg1 (v := .bool (decide (c_0 ≤ 90))) (ev_le rfl rfl) (by decide) ?_
   refine sr_ev (v := .bool (decide (c_0 ≤ 90))) (ev_pick_t rfl hg1 rfl) (by decide) ?_
   exact sr_weaken (l' := [(8, .bool (decide (c_0 ≤ 90)))]) (.cons rfl (.nil _)) (K2 (decide (c_0 ≤ 90)) _ ⟨by rw [hg1]; rfl, rfl⟩)
  ·refine sr_pass (e := 5) rfl rfl (by rw [hg1]; rfl) (by decide) ?_
   refine sr_pass (e := 5) rfl rfl (by rw [hg1]; rfl) (by decide) ?_
   refine sr_ev (v := .bool false) (ev_pick_f rfl hg1 rfl) (by decide) ?_
   exact sr_weaken (l' := [(8, .bool false)]) (.cons rfl (.nil _)) (K2 false _ ⟨by rw [hg1]; rfl, rfl⟩)
theorem fold_letter_ok (w0 : World) (hg : Gs w0) {c_0 : Int} {r : Bool} (hS : fold_letter c_0 = some r) :
  Calls Tryd.prog 57 #[.int .u8 c_0] w0 (Ret (fun v w' => v = .bool r ∧ Below w0.heap.size w0 w')) := by
 unfold fold_letter at hS
 have hb := Below.refl w0.heap.size w0
 refine calls_of_ke Tryd.func57 rfl (n := 13) rfl rfl (l := [(0, .int .u8 c_0)]) rfl ?_
 refine ke_seq ?_
 refine ke_region ?_
 refine sr_ev (v := .bool false) (ev_assign rfl) (by decide) ?_
 refine sr_end (l' := [(0, .int .u8 c_0)]) (.cons rfl (.nil _)) ?_
 refine ke_seq ?_
 refine ke_region ?_
 refine sr_ev (v := .int .u8 c_0) (ev_move rfl) (by decide) ?_
 obtain ⟨y1, hy2, hS⟩ := bind_some' hS
 refine sr_call (vs := [.int .u8 c_0]) rfl Tryd.call63 rfl (fold_upper_ok _ (hg.below hb) hy2) (by decide) ?_
 rintro _ w3 ⟨rfl, hbw4⟩
 replace hb := hb.trans (hbw4.mono hb.size)
 refine sr_ev (v := .bool y1) (ev_move rfl) (by decide) ?_
 refine sr_join (m := 7) (C := fun (x : Bool) w1 => x = (y1 || ((decide (c_0 ≥ 97)) && (decide (c_0 ≤ 122)))) ∧ w3 = w1) (l' := fun x => [(12, .bool x)]) ?_ ?_
 ·rintro _ _ ⟨rfl, rfl⟩
  refine sr_ev (v := .bool (y1 || ((decide (c_0 ≥ 97)) && (decide (c_0 ≤ 122))))) (ev_assign rfl) (by decide) ?_
  refine sr_end (l' := [(2, .bool (y1 || ((decide (c_0 ≥ 97)) && (decide (c_0 ≤ 122)))))]) (.cons rfl (.nil _)) ?_
  cases hS
  exact ke_ret1 Tryd.func57 rfl rfl ⟨_, rfl, rfl, hb⟩
 ·intro K6
  rcases Bool.eq_false_or_eq_true y1 with hg5 | hg5
  ·refine sr_pass (e := 5) rfl rfl (by rw [hg5]; rfl) (by decide) ?_
   refine sr_pass (e := 5) rfl rfl (by rw [hg5]; rfl) (by decide) ?_
   refine sr_pass (e := 5) rfl rfl (by rw [hg5]; rfl) (by decide) ?_
   refine sr_pass_undef (e := 8) rfl rfl (by decide) ?_
   refine sr_pass_undef (e := 8) rfl rfl (by decide) ?_
   refine sr_pass (e := 5) rfl rfl (by rw [hg5]; rfl) (by decide) ?_
   refine sr_ev (v := .bool true) (ev_pick_t rfl hg5 rfl) (by decide) ?_
   exact sr_weaken (l' := [(12, .bool true)]) (.cons rfl (.nil _)) (K6 true _ ⟨by rw [hg5]; rfl, rfl⟩)
  ·refine sr_evg (b := false) (e := 5) rfl rfl hg5 (v := .int .u8 c_0) (ev_move rfl) (by decide) ?_
   refine sr_evg (b := false) (e := 5) rfl rfl hg5 (v := .bool (decide (c_0 ≥ 97))) (ev_ge rfl rfl) (by decide) ?_
   refine sr_evg (b := false) (e := 5) rfl rfl hg5 (v := .bool (decide (c_0 ≥ 97))) (ev_move rfl) (by decide) ?_
   refine sr_join (m := 3) (C := fun (x : Bool) w1 => x = ((decide (c_0 ≥ 97)) && (decide (c_0 ≤ 122))) ∧ w3 = w1) (l' := fun x => [(5, .bool y1), (11, .bool x)]) ?_ ?_
   ·rintro _ _ ⟨rfl, rfl⟩
    refine sr_ev (v := .bool ((decide (c_0 ≥ 97)) && (decide (c_0 ≤ 122)))) (ev_pick_f rfl hg5 rfl) (by decide) ?_
    exact sr_weaken (l' := [(12, .bool ((decide (c_0 ≥ 97)) && (decide (c_0 ≤ 122))))]) (.cons rfl (.nil _)) (K6 ((decide (c_0 ≥ 97)) && (decide (c_0 ≤ 122))) _ ⟨by rw [hg5]; rfl, rfl⟩)
   ·intro K13
    rcases Bool.eq_false_or_eq_true (decide (c_0 ≥ 97)) with hg12 | hg12
    ·refine sr_evg (b := true) (e := 8) rfl rfl hg12 (v := .int .u8 c_0) (ev_move rfl) (by decide) ?_
     refine sr_evg (b := true) (e := 8) rfl rfl hg12 (v := .bool (decide (c_0 ≤ 122))) (ev_le rfl rfl) (by decide) ?_
     refine sr_evg (b := false) (e := 5) rfl rfl hg5 (v := .bool (decide (c_0 ≤ 122))) (ev_pick_t rfl hg12 rfl) (by decide) ?_
     exact sr_weaken (l' := [(5, .bool y1), (11, .bool (decide (c_0 ≤ 122)))]) (.cons rfl (.cons rfl (.nil _))) (K13 (decide (c_0 ≤ 122)) _ ⟨by rw [hg12]; rfl, rfl⟩)
    ·refine sr_pass (e := 8) rfl rfl (by rw [hg12]; rfl) (by decide) ?_
     refine sr_pass (e := 8) rfl rfl (by rw [hg12]; rfl) (by decide) ?_
     refine sr_evg (b := false) (e := 5) rfl rfl hg5 (v := .bool false) (ev_pick_f rfl hg12 rfl) (by decide) ?_
     exact sr_weaken (l' := [(5, .bool y1), (11, .bool false)]) (.cons rfl (.cons rfl (.nil _))) (K13 false _ ⟨by rw [hg12]; rfl, rfl⟩)
theorem fold_digit_ok (w0 : World) (hg : Gs w0) {c_0 : Int} {r : Bool} (hS : fold_digit c_0 = some r) :
  Calls Tryd.prog 58 #[.int .u8 c_0] w0 (Ret (fun v w' => v = .bool r ∧ Below w0.heap.size w0 w')) := by
 unfold fold_digit at hS
 have hb := Below.refl w0.heap.size w0
 refine calls_of_ke Tryd.func58 rfl (n := 9) rfl rfl (l := [(0, .int .u8 c_0)]) rfl ?_
 refine ke_seq ?_
 refine ke_region ?_
 refine sr_ev (v := .bool false) (ev_assign rfl) (by decide) ?_
 refine sr_end (l' := [(0, .int .u8 c_0)]) (.cons rfl (.nil _)) ?_
 refine ke_seq ?_
 refine ke_region ?_
 refine sr_ev (v := .int .u8 c_0) (ev_move rfl) (by decide) ?_
 refine sr_ev (v := .bool (decide (c_0 ≥ 48))) (ev_ge rfl rfl) (by decide) ?_
 refine sr_ev (v := .bool (decide (c_0 ≥ 48))) (ev_move rfl) (by decide) ?_
 refine sr_join (m := 3) (C := fun (x : Bool) w1 => x = ((decide (c_0 ≥ 48)) && (decide (c_0 ≤ 57))) ∧ w0 = w1) (l' := fun x => [(8, .bool x)]) ?_ ?_
 ·rintro _ _ ⟨rfl, rfl⟩
  refine sr_ev (v := .bool ((decide (c_0 ≥ 48)) && (decide (c_0 ≤ 57)))) (ev_assign rfl) (by decide) ?_
  refine sr_end (l' := [(2, .bool ((decide (c_0 ≥ 48)) && (decide (c_0 ≤ 57))))]) (.cons rfl (.nil _)) ?_
  cases hS
  exact ke_ret1 Tryd.func58 rfl rfl ⟨_, rfl, rfl, hb⟩
 ·intro K2
  rcases Bool.eq_false_or_eq_true (decide (c_0 ≥ 48)) with hg1 | hg1
  ·refine sr_evg (b := true) (e := 5) rfl rfl hg1 (v := .int .u8 c_0) (ev_move rfl) (by decide) ?_
   refine sr_evg (b := true) (e := 5) rfl rfl hg1 (v := .bool (decide (c_0 ≤ 57))) (ev_le rfl rfl) (by decide) ?_
   refine sr_ev (v := .bool (decide (c_0 ≤ 57))) (ev_pick_t rfl hg1 rfl) (by decide) ?_
   exact sr_weaken (l' := [(8, .bool (decide (c_0 ≤ 57)))]) (.cons rfl (.nil _)) (K2 (decide (c_0 ≤ 57)) _ ⟨by rw [hg1]; rfl, rfl⟩)
  ·refine sr_pass (e := 5) rfl rfl (by rw [hg1]; rfl) (by decide) ?_
   refine sr_pass (e := 5) rfl rfl (by rw [hg1]; rfl) (by decide) ?_
   refine sr_ev (v := .bool false) (ev_pick_f rfl hg1 rfl) (by decide) ?_
   exact sr_weaken (l' := [(8, .bool false)]) (.cons rfl (.nil _)) (K2 false _ ⟨by rw [hg1]; rfl, rfl⟩)
theorem fold_Word_1_ok (w0 : World) (hg : Gs w0) {c_0 : Int} {r : Bool} (hS : fold_Word_1 c_0 = some r) :
  Calls Tryd.prog 56 #[.int .u8 c_0] w0 (Ret (fun v w' => v = .bool r ∧ Below w0.heap.size w0 w')) := by
 unfold fold_Word_1 at hS
 have hb := Below.refl w0.heap.size w0
 refine calls_of_ke Tryd.func56 rfl (n := 25) rfl rfl (l := [(0, .int .u8 c_0)]) rfl ?_
 refine ke_seq ?_
 refine ke_region ?_
 refine sr_ev (v := .bool false) (ev_assign rfl) (by decide) ?_
 refine sr_end (l' := [(0, .int .u8 c_0)]) (.cons rfl (.nil _)) ?_
 refine ke_seq ?_
 refine ke_region ?_
 refine sr_ev (v := .int .u8 c_0) (ev_move rfl) (by decide) ?_
 obtain ⟨y1, hy2, hS⟩ := bind_some' hS
 refine sr_call (vs := [.int .u8 c_0]) rfl Tryd.call57 rfl (fold_letter_ok _ (hg.below hb) hy2) (by decide) ?_
 rintro _ w3 ⟨rfl, hbw4⟩
 replace hb := hb.trans (hbw4.mono hb.size)
 refine sr_ev (v := .bool y1) (ev_move rfl) (by decide) ?_
 obtain ⟨z7, hz9, hS⟩ := bind_some' hS
 refine sr_join (m := 3) (C := fun (x : Bool) w1 => z7 = x ∧ Below w3.heap.size w3 w1) (l' := fun x => [(0, .int .u8 c_0), (8, .bool x)]) ?_ ?_
 ·rintro _ w10 ⟨rfl, hbw11⟩
  replace hb := hb.trans (hbw11.mono hb.size)
  refine sr_ev (v := .bool z7) (ev_move rfl) (by decide) ?_
  refine sr_join (m := 3) (C := fun (x : Bool) w1 => x = (z7 || (c_0 == 45)) ∧ w10 = w1) (l' := fun x => [(0, .int .u8 c_0), (12, .bool x)]) ?_ ?_
  ·rintro _ _ ⟨rfl, rfl⟩
   refine sr_ev (v := .bool (z7 || (c_0 == 45))) (ev_move rfl) (by decide) ?_
   refine sr_join (m := 3) (C := fun (x : Bool) w1 => x = ((z7 || (c_0 == 45)) || (c_0 == 95)) ∧ w10 = w1) (l' := fun x => [(0, .int .u8 c_0), (16, .bool x)]) ?_ ?_
   ·rintro _ _ ⟨rfl, rfl⟩
    refine sr_ev (v := .bool ((z7 || (c_0 == 45)) || (c_0 == 95))) (ev_move rfl) (by decide) ?_
    refine sr_join (m := 3) (C := fun (x : Bool) w1 => x = (((z7 || (c_0 == 45)) || (c_0 == 95)) || (c_0 == 46)) ∧ w10 = w1) (l' := fun x => [(0, .int .u8 c_0), (20, .bool x)]) ?_ ?_
    ·rintro _ _ ⟨rfl, rfl⟩
     refine sr_ev (v := .bool (((z7 || (c_0 == 45)) || (c_0 == 95)) || (c_0 == 46))) (ev_move rfl) (by decide) ?_
     refine sr_join (m := 3) (C := fun (x : Bool) w1 => x = ((((z7 || (c_0 == 45)) || (c_0 == 95)) || (c_0 == 46)) || (c_0 == 58)) ∧ w10 = w1) (l' := fun x => [(24, .bool x)]) ?_ ?_
     ·rintro _ _ ⟨rfl, rfl⟩
      refine sr_ev (v := .bool ((((z7 || (c_0 == 45)) || (c_0 == 95)) || (c_0 == 46)) || (c_0 == 58))) (ev_assign rfl) (by decide) ?_
      refine sr_end (l' := [(2, .bool ((((z7 || (c_0 == 45)) || (c_0 == 95)) || (c_0 == 46)) || (c_0 == 58)))]) (.cons rfl (.nil _)) ?_
      cases hS
      exact ke_ret1 Tryd.func56 rfl rfl ⟨_, rfl, rfl, hb⟩
     ·intro K38
      rcases Bool.eq_false_or_eq_true (((z7 || (c_0 == 45)) || (c_0 == 95)) || (c_0 == 46)) with hg37 | hg37
      ·refine sr_pass (e := 21) rfl rfl (by rw [hg37]; rfl) (by decide) ?_
       refine sr_pass (e := 21) rfl rfl (by rw [hg37]; rfl) (by decide) ?_
       refine sr_ev (v := .bool true) (ev_pick_t rfl hg37 rfl) (by decide) ?_
       exact sr_weaken (l' := [(24, .bool true)]) (.cons rfl (.nil _)) (K38 true _ ⟨by rw [hg37]; rfl, rfl⟩)
      ·refine sr_evg (b := false) (e := 21) rfl rfl hg37 (v := .int .u8 c_0) (ev_move rfl) (by decide) ?_
       refine sr_evg (b := false) (e := 21) rfl rfl hg37 (v := .bool (c_0 == 58)) (ev_eq rfl rfl) (by decide) ?_
       refine sr_ev (v := .bool (c_0 == 58)) (ev_pick_f rfl hg37 rfl) (by decide) ?_
       exact sr_weaken (l' := [(24, .bool (c_0 == 58))]) (.cons rfl (.nil _)) (K38 (c_0 == 58) _ ⟨by rw [hg37]; rfl, rfl⟩)
    ·intro K31
     rcases Bool.eq_false_or_eq_true ((z7 || (c_0 == 45)) || (c_0 == 95)) with hg30 | hg30
     ·refine sr_pass (e := 17) rfl rfl (by rw [hg30]; rfl) (by decide) ?_
      refine sr_pass (e := 17) rfl rfl (by rw [hg30]; rfl) (by decide) ?_
      refine sr_ev (v := .bool true) (ev_pick_t rfl hg30 rfl) (by decide) ?_
      exact sr_weaken (l' := [(0, .int .u8 c_0), (20, .bool true)]) (.cons rfl (.cons rfl (.nil _))) (K31 true _ ⟨by rw [hg30]; rfl, rfl⟩)
     ·refine sr_evg (b := false) (e := 17) rfl rfl hg30 (v := .int .u8 c_0) (ev_move rfl) (by decide) ?_
      refine sr_evg (b := false) (e := 17) rfl rfl hg30 (v := .bool (c_0 == 46)) (ev_eq rfl rfl) (by decide) ?_
      refine sr_ev (v := .bool (c_0 == 46)) (ev_pick_f rfl hg30 rfl) (by decide) ?_
      exact sr_weaken (l' := [(0, .int .u8 c_0), (20, .bool (c_0 == 46))]) (.cons rfl (.cons rfl (.nil _))) (K31 (c_0 == 46) _ ⟨by rw [hg30]; rfl, rfl⟩)
   ·intro K24
    rcases Bool.eq_false_or_eq_true (z7 || (c_0 == 45)) with hg23 | hg23
    ·refine sr_pass (e := 13) rfl rfl (by rw [hg23]; rfl) (by decide) ?_
     refine sr_pass (e := 13) rfl rfl (by rw [hg23]; rfl) (by decide) ?_
     refine sr_ev (v := .bool true) (ev_pick_t rfl hg23 rfl) (by decide) ?_
     exact sr_weaken (l' := [(0, .int .u8 c_0), (16, .bool true)]) (.cons rfl (.cons rfl (.nil _))) (K24 true _ ⟨by rw [hg23]; rfl, rfl⟩)
    ·refine sr_evg (b := false) (e := 13) rfl rfl hg23 (v := .int .u8 c_0) (ev_move rfl) (by decide) ?_
     refine sr_evg (b := false) (e := 13) rfl rfl hg23 (v := .bool (c_0 == 95)) (ev_eq rfl rfl) (by decide) ?_
     refine sr_ev (v := .bool (c_0 == 95)) (ev_pick_f rfl hg23 rfl) (by decide) ?_
     exact sr_weaken (l' := [(0, .int .u8 c_0), (16, .bool (c_0 == 95))]) (.cons rfl (.cons rfl (.nil _))) (K24 (c_0 == 95) _ ⟨by rw [hg23]; rfl, rfl⟩)
  ·intro K17
   rcases Bool.eq_false_or_eq_true z7 with hg16 | hg16
   ·refine sr_pass (e := 9) rfl rfl (by rw [hg16]; rfl) (by decide) ?_
    refine sr_pass (e := 9) rfl rfl (by rw [hg16]; rfl) (by decide) ?_
    refine sr_ev (v := .bool true) (ev_pick_t rfl hg16 rfl) (by decide) ?_
    exact sr_weaken (l' := [(0, .int .u8 c_0), (12, .bool true)]) (.cons rfl (.cons rfl (.nil _))) (K17 true _ ⟨by rw [hg16]; rfl, rfl⟩)
   ·refine sr_evg (b := false) (e := 9) rfl rfl hg16 (v := .int .u8 c_0) (ev_move rfl) (by decide) ?_
    refine sr_evg (b := false) (e := 9) rfl rfl hg16 (v := .bool (c_0 == 45)) (ev_eq rfl rfl) (by decide) ?_
    refine sr_ev (v := .bool (c_0 == 45)) (ev_pick_f rfl hg16 rfl) (by decide) ?_
    exact sr_weaken (l' := [(0, .int .u8 c_0), (12, .bool (c_0 == 45))]) (.cons rfl (.cons rfl (.nil _))) (K17 (c_0 == 45) _ ⟨by rw [hg16]; rfl, rfl⟩)
 ·intro K6
  clear hS
  have hj8 := Below.refl w3.heap.size w3
  rcases Bool.eq_false_or_eq_true y1 with hg5 | hg5
  ·have hS := ite_true' hz9 hg5
   refine sr_pass (e := 5) rfl rfl (by rw [hg5]; rfl) (by decide) ?_
   refine sr_pass (e := 5) rfl rfl (by rw [hg5]; rfl) (by decide) ?_
   refine sr_ev (v := .bool true) (ev_pick_t rfl hg5 rfl) (by decide) ?_
   exact sr_weaken (l' := [(0, .int .u8 c_0), (8, .bool true)]) (.cons rfl (.cons rfl (.nil _))) (K6 true _ ⟨(Option.some.inj hS).symm, hj8⟩)
  ·have hS := ite_false' hz9 hg5
   refine sr_evg (b := false) (e := 5) rfl rfl hg5 (v := .int .u8 c_0) (ev_move rfl) (by decide) ?_
   obtain ⟨y12, hy13, hS⟩ := bind_some' hS
   refine sr_callg (b := false) (e := 5) rfl rfl hg5 (vs := [.int .u8 c_0]) rfl Tryd.call58 rfl (fold_digit_ok _ (hg.below hb) hy13) (by decide) ?_
   rintro _ w14 ⟨rfl, hbw15⟩
   replace hb := hb.trans (hbw15.mono hb.size)
   replace hj8 := hj8.trans (hbw15.mono hj8.size)
   refine sr_ev (v := .bool y12) (ev_pick_f rfl hg5 rfl) (by decide) ?_
   exact sr_weaken (l' := [(0, .int .u8 c_0), (8, .bool y12)]) (.cons rfl (.cons rfl (.nil _))) (K6 y12 _ ⟨(Option.some.inj hS).symm, hj8⟩)
theorem fold_made__Word_1_L1_ok {w0 : World} (hg : Gs w0) : ∀ (n : Nat), ∀ {r : Bool} {s_0 : Str} {t_7 : Int} {t_8 : Int}, fold_made__Word_1_L1 n s_0 t_7 t_8 = some r → ∀ {w : World}, (Below w0.heap.size w0 w) → KE Tryd.prog 55 (Ret (fun v w' => v = .bool r ∧ Below w0.heap.size w0 w')) 25 [.code (sub (bodyOf Tryd.f55) [2, 1, 2, 2, 1]), .inLoop (sub (bodyOf Tryd.f55) [2, 1, 2, 2, 1]), .inBlock 0, .code (sub (bodyOf Tryd.f55) [2, 2])] [(0, str s_0), (1, .func (.func 56) #[] #[]), (7, .int .i64 t_7), (8, .int .i64 t_8)] w := by
 intro n
 induction n with
 | zero => intro r s_0 t_7 t_8 hS; cases hS
 | succ n ih =>
  have hr0 : ∀ {r : Bool} {s_0 : Str} {t_7 : Int} {t_8 : Int}, fold_made__Word_1_L1 n s_0 t_7 t_8 = some r → ∀ {w : World}, (Below w0.heap.size w0 w) → KE Tryd.prog 55 (Ret (fun v w' => v = .bool r ∧ Below w0.heap.size w0 w')) 25 [.inLoop (sub (bodyOf Tryd.f55) [2, 1, 2, 2, 1]), .inBlock 0, .code (sub (bodyOf Tryd.f55) [2, 2])] [(0, str s_0), (1, .func (.func 56) #[] #[]), (7, .int .i64 t_7), (8, .int .i64 t_8)] w := fun {r} {s_0} {t_7} {t_8} hS {w} hb => ke_inLoop (ih hS hb)
  clear ih
  intro r s_0 t_7 t_8 hS w hb
  unfold fold_made__Word_1_L1 at hS
  refine ke_seq ?_
  refine ke_region ?_
  refine sr_ev (v := .bool (decide (t_8 < t_7))) (ev_lt rfl rfl) (by decide) ?_
  refine sr_end (l' := [(0, str s_0), (1, .func (.func 56) #[] #[]), (7, .int .i64 t_7), (8, .int .i64 t_8), (9, .bool (decide (t_8 < t_7)))]) (.cons rfl (.cons rfl (.cons rfl (.cons rfl (.cons rfl (.nil _)))))) ?_
  refine ke_seq ?_
  refine ke_cond (t := decide (t_8 < t_7)) rfl (fun hc1 => ?_) (fun hc1 => ?_)
  ·replace hS := ite_true' hS hc1
   refine ke_skip ?_
   refine ke_seq ?_
   refine ke_block ?_
   refine ke_seq ?_
   refine ke_region ?_
   refine sr_ev (v := .int .i64 t_8) (ev_move rfl) (by decide) ?_
   refine sr_ev (v := .int .i64 t_8) (ev_assign rfl) (by decide) ?_
   refine sr_end (l' := [(0, str s_0), (1, .func (.func 56) #[] #[]), (5, .int .i64 t_8), (7, .int .i64 t_7), (8, .int .i64 t_8)]) (.cons rfl (.cons rfl (.cons rfl (.cons rfl (.cons rfl (.nil _)))))) ?_
   refine ke_seq ?_
   refine ke_region ?_
   refine sr_ev (v := .func (.func 56) #[] #[]) (ev_move rfl) (by decide) ?_
   refine sr_ev (v := str s_0) (ev_move rfl) (by decide) ?_
   refine sr_ev (v := .int .i64 t_8) (ev_move rfl) (by decide) ?_
   obtain ⟨hk2, hS⟩ := chk_some hS
   refine sr_ev (v := .int .u8 (byteAt s_0 t_8)) (ev_sindex Tryd.underlying9 rfl rfl hk2) (by decide) ?_
   obtain ⟨y3, hy4, hS⟩ := bind_some' hS
   refine sr_call (vs := [.int .u8 (byteAt s_0 t_8)]) rfl Tryd.call56 rfl (fold_Word_1_ok _ (hg.below hb) hy4) (by decide) ?_
   rintro _ w5 ⟨rfl, hbw6⟩
   replace hb := hb.trans (hbw6.mono hb.size)
   refine sr_ev (v := .bool (!y3)) (ev_not rfl) (by decide) ?_
   refine sr_end (l' := [(0, str s_0), (1, .func (.func 56) #[] #[]), (7, .int .i64 t_7), (8, .int .i64 t_8), (16, .bool (!y3))]) (.cons rfl (.cons rfl (.cons rfl (.cons rfl (.cons rfl (.nil _)))))) ?_
   refine ke_cond (t := !y3) rfl (fun hc7 => ?_) (fun hc7 => ?_)
   ·replace hS := ite_true' hS hc7
    refine ke_seq ?_
    refine ke_region ?_
    refine sr_ev (v := .bool false) (ev_assign rfl) (by decide) ?_
    refine sr_end (l' := [(4, .bool false)]) (.cons rfl (.nil _)) ?_
    cases hS
    exact ke_ret1 Tryd.func55 rfl rfl ⟨_, rfl, rfl, hb⟩
   ·replace hS := ite_false' hS hc7
    refine ke_skip ?_
    refine ke_inBlock ?_
    refine ke_region ?_
    refine sr_ev (v := .int .i64 (IntKind.i64.wrap (t_8 + 1))) (ev_add rfl rfl) (by decide) ?_
    refine sr_ev (v := .int .i64 (IntKind.i64.wrap (t_8 + 1))) (ev_move rfl) (by decide) ?_
    refine sr_end (l' := [(0, str s_0), (1, .func (.func 56) #[] #[]), (7, .int .i64 t_7), (8, .int .i64 (IntKind.i64.wrap (t_8 + 1)))]) (.cons rfl (.cons rfl (.cons rfl (.cons rfl (.nil _))))) ?_
    have hK := hr0 hS hb
    exact ke_weaken (l' := [(0, str s_0), (1, .func (.func 56) #[] #[]), (7, .int .i64 t_7), (8, .int .i64 (IntKind.i64.wrap (t_8 + 1)))]) (.cons rfl (.cons rfl (.cons rfl (.cons rfl (.nil _))))) hK
  ·replace hS := ite_false' hS hc1
   refine ke_exit (k' := _) rfl ?_
   refine ke_seq ?_
   refine ke_region ?_
   refine sr_ev (v := str s_0) (ev_move rfl) (by decide) ?_
   refine sr_ev (v := .bool (!(s_0 == ([])))) (ev_sne rfl rfl) (by decide) ?_
   refine sr_ev (v := .bool (!(s_0 == ([])))) (ev_move rfl) (by decide) ?_
   refine sr_join (m := 4) (C := fun (x : Bool) w1 => x = ((!(s_0 == ([]))) && (decide ((s_0.length : Int) ≤ 64))) ∧ w = w1) (l' := fun x => [(24, .bool x)]) ?_ ?_
   ·rintro _ _ ⟨rfl, rfl⟩
    refine sr_ev (v := .bool ((!(s_0 == ([]))) && (decide ((s_0.length : Int) ≤ 64)))) (ev_assign rfl) (by decide) ?_
    refine sr_end (l' := [(4, .bool ((!(s_0 == ([]))) && (decide ((s_0.length : Int) ≤ 64))))]) (.cons rfl (.nil _)) ?_
    cases hS
    exact ke_ret1 Tryd.func55 rfl rfl ⟨_, rfl, rfl, hb⟩
   ·intro K9
    rcases Bool.eq_false_or_eq_true (!(s_0 == ([]))) with hg8 | hg8
    ·refine sr_evg (b := true) (e := 20) rfl rfl hg8 (v := str s_0) (ev_move rfl) (by decide) ?_
     refine sr_evg (b := true) (e := 20) rfl rfl hg8 (v := .int .i64 (s_0.length : Int)) (ev_slen Tryd.underlying9 rfl) (by decide) ?_
     refine sr_evg (b := true) (e := 20) rfl rfl hg8 (v := .bool (decide ((s_0.length : Int) ≤ 64))) (ev_le rfl rfl) (by decide) ?_
     refine sr_ev (v := .bool (decide ((s_0.length : Int) ≤ 64))) (ev_pick_t rfl hg8 rfl) (by decide) ?_
     exact sr_weaken (l' := [(24, .bool (decide ((s_0.length : Int) ≤ 64)))]) (.cons rfl (.nil _)) (K9 (decide ((s_0.length : Int) ≤ 64)) _ ⟨by rw [hg8]; rfl, rfl⟩)
    ·refine sr_pass (e := 20) rfl rfl (by rw [hg8]; rfl) (by decide) ?_
     refine sr_pass (e := 20) rfl rfl (by rw [hg8]; rfl) (by decide) ?_
     refine sr_pass (e := 20) rfl rfl (by rw [hg8]; rfl) (by decide) ?_
     refine sr_ev (v := .bool false) (ev_pick_f rfl hg8 rfl) (by decide) ?_
     exact sr_weaken (l' := [(24, .bool false)]) (.cons rfl (.nil _)) (K9 false _ ⟨by rw [hg8]; rfl, rfl⟩)
theorem fold_made__Word_1_ok (w0 : World) (hg : Gs w0) {s_0 : Str} {r : Bool} (hS : fold_made__Word_1 s_0 = some r) :
  Calls Tryd.prog 55 #[str s_0, .func (.func 56) #[] #[]] w0 (Ret (fun v w' => v = .bool r ∧ Below w0.heap.size w0 w')) := by
 unfold fold_made__Word_1 at hS
 have hb := Below.refl w0.heap.size w0
 refine calls_of_ke Tryd.func55 rfl (n := 25) rfl rfl (l := [(0, str s_0), (1, .func (.func 56) #[] #[])]) rfl ?_
 refine ke_seq ?_
 refine ke_region ?_
 refine sr_ev (v := .bool false) (ev_assign rfl) (by decide) ?_
 refine sr_end (l' := [(0, str s_0), (1, .func (.func 56) #[] #[])]) (.cons rfl (.cons rfl (.nil _))) ?_
 refine ke_seq ?_
 refine ke_seq ?_
 refine ke_region ?_
 refine sr_ev (v := str s_0) (ev_move rfl) (by decide) ?_
 refine sr_ev (v := .int .i64 (s_0.length : Int)) (ev_slen Tryd.underlying9 rfl) (by decide) ?_
 refine sr_ev (v := .int .i64 0) (ev_move rfl) (by decide) ?_
 refine sr_end (l' := [(0, str s_0), (1, .func (.func 56) #[] #[]), (7, .int .i64 (s_0.length : Int)), (8, .int .i64 0)]) (.cons rfl (.cons rfl (.cons rfl (.cons rfl (.nil _))))) ?_
 refine ke_block ?_
 have hK := fold_made__Word_1_L1_ok hg _ hS hb
 exact ke_weaken (l' := [(0, str s_0), (1, .func (.func 56) #[] #[]), (7, .int .i64 (s_0.length : Int)), (8, .int .i64 0)]) (.cons rfl (.cons rfl (.cons rfl (.cons rfl (.nil _))))) (ke_loop hK)
theorem fold_Word_ok (w0 : World) (hg : Gs w0) {s_0 : Str} {r : Bool} (hS : fold_Word s_0 = some r) :
  Calls Tryd.prog 34 #[str s_0] w0 (Ret (fun v w' => v = .bool r ∧ Below w0.heap.size w0 w')) := by
 unfold fold_Word at hS
 have hb := Below.refl w0.heap.size w0
 refine calls_of_ke Tryd.func34 rfl (n := 5) rfl rfl (l := [(0, str s_0)]) rfl ?_
 refine ke_seq ?_
 refine ke_region ?_
 refine sr_ev (v := .bool false) (ev_assign rfl) (by decide) ?_
 refine sr_end (l' := [(0, str s_0)]) (.cons rfl (.nil _)) ?_
 refine ke_seq ?_
 refine ke_region ?_
 refine sr_ev (v := str s_0) (ev_move rfl) (by decide) ?_
 obtain ⟨y1, hy2, hS⟩ := bind_some' hS
 refine sr_call (vs := [str s_0, .func (.func 56) #[] #[]]) rfl Tryd.call55 rfl (fold_made__Word_1_ok _ (hg.below hb) hy2) (by decide) ?_
 rintro _ w3 ⟨rfl, hbw4⟩
 replace hb := hb.trans (hbw4.mono hb.size)
 refine sr_ev (v := .bool y1) (ev_assign rfl) (by decide) ?_
 refine sr_end (l' := [(2, .bool y1)]) (.cons rfl (.nil _)) ?_
 cases hS
 exact ke_ret1 Tryd.func34 rfl rfl ⟨_, rfl, rfl, hb⟩
theorem secret_isPassword_L1_ok {w0 : World} (hg : Gs w0) : ∀ (n : Nat), ∀ {r : Bool} {s_0 : Str} {t_5 : Int} {t_6 : Int}, secret_isPassword_L1 n s_0 t_5 t_6 = some r → ∀ {w : World}, (Below w0.heap.size w0 w) → KE Tryd.prog 35 (Ret (fun v w' => v = .bool r ∧ Below w0.heap.size w0 w')) 28 [.code (sub (bodyOf Tryd.f35) [2, 1, 2, 2, 1]), .inLoop (sub (bodyOf Tryd.f35) [2, 1, 2, 2, 1]), .inBlock 0, .code (sub (bodyOf Tryd.f35) [2, 2])] [(0, str s_0), (5, .int .i64 t_5), (6, .int .i64 t_6)] w := by
 intro n
 induction n with
 | zero => intro r s_0 t_5 t_6 hS; cases hS
 | succ n ih =>
  have hr0 : ∀ {r : Bool} {s_0 : Str} {t_5 : Int} {t_6 : Int}, secret_isPassword_L1 n s_0 t_5 t_6 = some r → ∀ {w : World}, (Below w0.heap.size w0 w) → KE Tryd.prog 35 (Ret (fun v w' => v = .bool r ∧ Below w0.heap.size w0 w')) 28 [.inLoop (sub (bodyOf Tryd.f35) [2, 1, 2, 2, 1]), .inBlock 0, .code (sub (bodyOf Tryd.f35) [2, 2])] [(0, str s_0), (5, .int .i64 t_5), (6, .int .i64 t_6)] w := fun {r} {s_0} {t_5} {t_6} hS {w} hb => ke_inLoop (ih hS hb)
  clear ih
  intro r s_0 t_5 t_6 hS w hb
  unfold secret_isPassword_L1 at hS
  refine ke_seq ?_
  refine ke_region ?_
  refine sr_ev (v := .bool (decide (t_6 < t_5))) (ev_lt rfl rfl) (by decide) ?_
  refine sr_end (l' := [(0, str s_0), (5, .int .i64 t_5), (6, .int .i64 t_6), (7, .bool (decide (t_6 < t_5)))]) (.cons rfl (.cons rfl (.cons rfl (.cons rfl (.nil _))))) ?_
  refine ke_seq ?_
  refine ke_cond (t := decide (t_6 < t_5)) rfl (fun hc1 => ?_) (fun hc1 => ?_)
  ·replace hS := ite_true' hS hc1
   refine ke_skip ?_
   refine ke_seq ?_
   refine ke_block ?_
   refine ke_seq ?_
   refine ke_region ?_
   refine sr_ev (v := .int .i64 t_6) (ev_move rfl) (by decide) ?_
   refine sr_ev (v := .int .i64 t_6) (ev_assign rfl) (by decide) ?_
   refine sr_end (l' := [(0, str s_0), (3, .int .i64 t_6), (5, .int .i64 t_5), (6, .int .i64 t_6)]) (.cons rfl (.cons rfl (.cons rfl (.cons rfl (.nil _))))) ?_
   refine ke_seq ?_
   refine ke_region ?_
   refine sr_ev (v := str s_0) (ev_move rfl) (by decide) ?_
   refine sr_ev (v := .int .i64 t_6) (ev_move rfl) (by decide) ?_
   obtain ⟨hk2, hS⟩ := chk_some hS
   refine sr_ev (v := .int .u8 (byteAt s_0 t_6)) (ev_sindex Tryd.underlying9 rfl rfl hk2) (by decide) ?_
   refine sr_ev (v := .bool (decide ((byteAt s_0 t_6) < 32))) (ev_lt rfl rfl) (by decide) ?_
   refine sr_ev (v := .bool (decide ((byteAt s_0 t_6) < 32))) (ev_move rfl) (by decide) ?_
   obtain ⟨z5, hz7, hS⟩ := bind_some' hS
   refine sr_join (m := 5) (C := fun (x : Bool) w1 => z5 = x ∧ Below w.heap.size w w1) (l' := fun x => [(0, str s_0), (5, .int .i64 t_5), (6, .int .i64 t_6), (18, .bool x)]) ?_ ?_
   ·rintro _ w8 ⟨rfl, hbw9⟩
    replace hb := hb.trans (hbw9.mono hb.size)
    refine sr_end (l' := [(0, str s_0), (5, .int .i64 t_5), (6, .int .i64 t_6), (18, .bool z5)]) (.cons rfl (.cons rfl (.cons rfl (.cons rfl (.nil _))))) ?_
    refine ke_cond (t := z5) rfl (fun hc11 => ?_) (fun hc11 => ?_)
    ·replace hS := ite_true' hS hc11
     refine ke_seq ?_
     refine ke_region ?_
     refine sr_ev (v := .bool false) (ev_assign rfl) (by decide) ?_
     refine sr_end (l' := [(2, .bool false)]) (.cons rfl (.nil _)) ?_
     cases hS
     exact ke_ret1 Tryd.func35 rfl rfl ⟨_, rfl, rfl, hb⟩
    ·replace hS := ite_false' hS hc11
     refine ke_skip ?_
     refine ke_inBlock ?_
     refine ke_region ?_
     refine sr_ev (v := .int .i64 (IntKind.i64.wrap (t_6 + 1))) (ev_add rfl rfl) (by decide) ?_
     refine sr_ev (v := .int .i64 (IntKind.i64.wrap (t_6 + 1))) (ev_move rfl) (by decide) ?_
     refine sr_end (l' := [(0, str s_0), (5, .int .i64 t_5), (6, .int .i64 (IntKind.i64.wrap (t_6 + 1)))]) (.cons rfl (.cons rfl (.cons rfl (.nil _)))) ?_
     have hK := hr0 hS hb
     exact ke_weaken (l' := [(0, str s_0), (5, .int .i64 t_5), (6, .int .i64 (IntKind.i64.wrap (t_6 + 1)))]) (.cons rfl (.cons rfl (.cons rfl (.nil _)))) hK
   ·intro K4
    clear hS
    have hj6 := Below.refl w.heap.size w
    rcases Bool.eq_false_or_eq_true (decide ((byteAt s_0 t_6) < 32)) with hg3 | hg3
    ·have hS := ite_true' hz7 hg3
     refine sr_pass (e := 13) rfl rfl (by rw [hg3]; rfl) (by decide) ?_
     refine sr_pass (e := 13) rfl rfl (by rw [hg3]; rfl) (by decide) ?_
     refine sr_pass (e := 13) rfl rfl (by rw [hg3]; rfl) (by decide) ?_
     refine sr_pass (e := 13) rfl rfl (by rw [hg3]; rfl) (by decide) ?_
     refine sr_ev (v := .bool true) (ev_pick_t rfl hg3 rfl) (by decide) ?_
     exact sr_weaken (l' := [(0, str s_0), (5, .int .i64 t_5), (6, .int .i64 t_6), (18, .bool true)]) (.cons rfl (.cons rfl (.cons rfl (.cons rfl (.nil _))))) (K4 true _ ⟨(Option.some.inj hS).symm, hj6⟩)
    ·have hS := ite_false' hz7 hg3
     refine sr_evg (b := false) (e := 13) rfl rfl hg3 (v := str s_0) (ev_move rfl) (by decide) ?_
     refine sr_evg (b := false) (e := 13) rfl rfl hg3 (v := .int .i64 t_6) (ev_move rfl) (by decide) ?_
     obtain ⟨hk10, hS⟩ := chk_some hS
     refine sr_evg (b := false) (e := 13) rfl rfl hg3 (v := .int .u8 (byteAt s_0 t_6)) (ev_sindex Tryd.underlying9 rfl rfl hk10) (by decide) ?_
     refine sr_evg (b := false) (e := 13) rfl rfl hg3 (v := .bool (decide ((byteAt s_0 t_6) > 126))) (ev_gt rfl rfl) (by decide) ?_
     refine sr_ev (v := .bool (decide ((byteAt s_0 t_6) > 126))) (ev_pick_f rfl hg3 rfl) (by decide) ?_
     exact sr_weaken (l' := [(0, str s_0), (5, .int .i64 t_5), (6, .int .i64 t_6), (18, .bool (decide ((byteAt s_0 t_6) > 126)))]) (.cons rfl (.cons rfl (.cons rfl (.cons rfl (.nil _))))) (K4 (decide ((byteAt s_0 t_6) > 126)) _ ⟨(Option.some.inj hS).symm, hj6⟩)
  ·replace hS := ite_false' hS hc1
   refine ke_exit (k' := _) rfl ?_
   refine ke_seq ?_
   refine ke_region ?_
   refine sr_ev (v := str s_0) (ev_move rfl) (by decide) ?_
   refine sr_ev (v := .int .i64 (s_0.length : Int)) (ev_slen Tryd.underlying9 rfl) (by decide) ?_
   refine sr_ev (v := .bool (decide ((s_0.length : Int) ≥ 8))) (ev_ge rfl rfl) (by decide) ?_
   refine sr_ev (v := .bool (decide ((s_0.length : Int) ≥ 8))) (ev_move rfl) (by decide) ?_
   refine sr_join (m := 4) (C := fun (x : Bool) w1 => x = ((decide ((s_0.length : Int) ≥ 8)) && (decide ((s_0.length : Int) ≤ 256))) ∧ w = w1) (l' := fun x => [(27, .bool x)]) ?_ ?_
   ·rintro _ _ ⟨rfl, rfl⟩
    refine sr_ev (v := .bool ((decide ((s_0.length : Int) ≥ 8)) && (decide ((s_0.length : Int) ≤ 256)))) (ev_assign rfl) (by decide) ?_
    refine sr_end (l' := [(2, .bool ((decide ((s_0.length : Int) ≥ 8)) && (decide ((s_0.length : Int) ≤ 256))))]) (.cons rfl (.nil _)) ?_
    cases hS
    exact ke_ret1 Tryd.func35 rfl rfl ⟨_, rfl, rfl, hb⟩
   ·intro K13
    rcases Bool.eq_false_or_eq_true (decide ((s_0.length : Int) ≥ 8)) with hg12 | hg12
    ·refine sr_evg (b := true) (e := 23) rfl rfl hg12 (v := str s_0) (ev_move rfl) (by decide) ?_
     refine sr_evg (b := true) (e := 23) rfl rfl hg12 (v := .int .i64 (s_0.length : Int)) (ev_slen Tryd.underlying9 rfl) (by decide) ?_
     refine sr_evg (b := true) (e := 23) rfl rfl hg12 (v := .bool (decide ((s_0.length : Int) ≤ 256))) (ev_le rfl rfl) (by decide) ?_
     refine sr_ev (v := .bool (decide ((s_0.length : Int) ≤ 256))) (ev_pick_t rfl hg12 rfl) (by decide) ?_
     exact sr_weaken (l' := [(27, .bool (decide ((s_0.length : Int) ≤ 256)))]) (.cons rfl (.nil _)) (K13 (decide ((s_0.length : Int) ≤ 256)) _ ⟨by rw [hg12]; rfl, rfl⟩)
    ·refine sr_pass (e := 23) rfl rfl (by rw [hg12]; rfl) (by decide) ?_
     refine sr_pass (e := 23) rfl rfl (by rw [hg12]; rfl) (by decide) ?_
     refine sr_pass (e := 23) rfl rfl (by rw [hg12]; rfl) (by decide) ?_
     refine sr_ev (v := .bool false) (ev_pick_f rfl hg12 rfl) (by decide) ?_
     exact sr_weaken (l' := [(27, .bool false)]) (.cons rfl (.nil _)) (K13 false _ ⟨by rw [hg12]; rfl, rfl⟩)
theorem secret_isPassword_ok (w0 : World) (hg : Gs w0) {s_0 : Str} {r : Bool} (hS : secret_isPassword s_0 = some r) :
  Calls Tryd.prog 35 #[str s_0] w0 (Ret (fun v w' => v = .bool r ∧ Below w0.heap.size w0 w')) := by
 unfold secret_isPassword at hS
 have hb := Below.refl w0.heap.size w0
 refine calls_of_ke Tryd.func35 rfl (n := 28) rfl rfl (l := [(0, str s_0)]) rfl ?_
 refine ke_seq ?_
 refine ke_region ?_
 refine sr_ev (v := .bool false) (ev_assign rfl) (by decide) ?_
 refine sr_end (l' := [(0, str s_0)]) (.cons rfl (.nil _)) ?_
 refine ke_seq ?_
 refine ke_seq ?_
 refine ke_region ?_
 refine sr_ev (v := str s_0) (ev_move rfl) (by decide) ?_
 refine sr_ev (v := .int .i64 (s_0.length : Int)) (ev_slen Tryd.underlying9 rfl) (by decide) ?_
 refine sr_ev (v := .int .i64 0) (ev_move rfl) (by decide) ?_
 refine sr_end (l' := [(0, str s_0), (5, .int .i64 (s_0.length : Int)), (6, .int .i64 0)]) (.cons rfl (.cons rfl (.cons rfl (.nil _)))) ?_
 refine ke_block ?_
 have hK := secret_isPassword_L1_ok hg _ hS hb
 exact ke_weaken (l' := [(0, str s_0), (5, .int .i64 (s_0.length : Int)), (6, .int .i64 0)]) (.cons rfl (.cons rfl (.cons rfl (.nil _)))) (ke_loop hK)
theorem digest_Sum_L1_ok {w0 : World} (hg : Gs w0) : ∀ (n : Nat), ∀ {r : Int} {s_0 : Str} {h_3 : Int} {t_6 : Int} {t_7 : Int}, digest_Sum_L1 n s_0 h_3 t_6 t_7 = some r → ∀ {w : World}, (Below w0.heap.size w0 w) → KE Tryd.prog 48 (Ret (fun v w' => v = .int .u64 r ∧ Below w0.heap.size w0 w')) 34 [.code (sub (bodyOf Tryd.f48) [2, 2, 1, 2, 2, 1]), .inLoop (sub (bodyOf Tryd.f48) [2, 2, 1, 2, 2, 1]), .inBlock 0, .code (sub (bodyOf Tryd.f48) [2, 2, 2])] [(0, str s_0), (3, .int .u64 h_3), (6, .int .i64 t_6), (7, .int .i64 t_7)] w := by
 intro n
 induction n with
 | zero => intro r s_0 h_3 t_6 t_7 hS; cases hS
 | succ n ih =>
  have hr0 : ∀ {r : Int} {s_0 : Str} {h_3 : Int} {t_6 : Int} {t_7 : Int}, digest_Sum_L1 n s_0 h_3 t_6 t_7 = some r → ∀ {w : World}, (Below w0.heap.size w0 w) → KE Tryd.prog 48 (Ret (fun v w' => v = .int .u64 r ∧ Below w0.heap.size w0 w')) 34 [.inLoop (sub (bodyOf Tryd.f48) [2, 2, 1, 2, 2, 1]), .inBlock 0, .code (sub (bodyOf Tryd.f48) [2, 2, 2])] [(0, str s_0), (3, .int .u64 h_3), (6, .int .i64 t_6), (7, .int .i64 t_7)] w := fun {r} {s_0} {h_3} {t_6} {t_7} hS {w} hb => ke_inLoop (ih hS hb)
  clear ih
  intro r s_0 h_3 t_6 t_7 hS w hb
  unfold digest_Sum_L1 at hS
  refine ke_seq ?_
  refine ke_region ?_
  refine sr_ev (v := .bool (decide (t_7 < t_6))) (ev_lt rfl rfl) (by decide) ?_
  refine sr_end (l' := [(0, str s_0), (3, .int .u64 h_3), (6, .int .i64 t_6), (7, .int .i64 t_7), (8, .bool (decide (t_7 < t_6)))]) (.cons rfl (.cons rfl (.cons rfl (.cons rfl (.cons rfl (.nil _)))))) ?_
  refine ke_seq ?_
  refine ke_cond (t := decide (t_7 < t_6)) rfl (fun hc1 => ?_) (fun hc1 => ?_)
  ·replace hS := ite_true' hS hc1
   refine ke_skip ?_
   refine ke_seq ?_
   refine ke_block ?_
   refine ke_seq ?_
   refine ke_region ?_
   refine sr_ev (v := .int .i64 t_7) (ev_move rfl) (by decide) ?_
   refine sr_ev (v := .int .i64 t_7) (ev_assign rfl) (by decide) ?_
   refine sr_end (l' := [(0, str s_0), (3, .int .u64 h_3), (4, .int .i64 t_7), (6, .int .i64 t_6), (7, .int .i64 t_7)]) (.cons rfl (.cons rfl (.cons rfl (.cons rfl (.cons rfl (.nil _)))))) ?_
   refine ke_region ?_
   refine sr_ev (v := .int .u64 h_3) (ev_move rfl) (by decide) ?_
   refine sr_ev (v := str s_0) (ev_move rfl) (by decide) ?_
   refine sr_ev (v := .int .i64 t_7) (ev_move rfl) (by decide) ?_
   obtain ⟨hk2, hS⟩ := chk_some hS
   refine sr_ev (v := .int .u8 (byteAt s_0 t_7)) (ev_sindex Tryd.underlying9 rfl rfl hk2) (by decide) ?_
   refine sr_ev (v := .int .u64 (IntKind.u64.wrap (byteAt s_0 t_7))) (ev_conv Tryd.underlying57 Tryd.underlying5 rfl) (by decide) ?_
   refine sr_ev (v := .int .u64 (bXor .u64 h_3 (IntKind.u64.wrap (byteAt s_0 t_7)))) (ev_xor rfl rfl) (by decide) ?_
   refine sr_ev (v := .int .u64 (IntKind.u64.wrap ((bXor .u64 h_3 (IntKind.u64.wrap (byteAt s_0 t_7))) * 1099511628211))) (ev_mul rfl rfl) (by decide) ?_
   refine sr_ev (v := .int .u64 (IntKind.u64.wrap ((bXor .u64 h_3 (IntKind.u64.wrap (byteAt s_0 t_7))) * 1099511628211))) (ev_assign rfl) (by decide) ?_
   refine sr_end (l' := [(0, str s_0), (3, .int .u64 (IntKind.u64.wrap ((bXor .u64 h_3 (IntKind.u64.wrap (byteAt s_0 t_7))) * 1099511628211))), (6, .int .i64 t_6), (7, .int .i64 t_7)]) (.cons rfl (.cons rfl (.cons rfl (.cons rfl (.nil _))))) ?_
   refine ke_inBlock ?_
   refine ke_region ?_
   refine sr_ev (v := .int .i64 (IntKind.i64.wrap (t_7 + 1))) (ev_add rfl rfl) (by decide) ?_
   refine sr_ev (v := .int .i64 (IntKind.i64.wrap (t_7 + 1))) (ev_move rfl) (by decide) ?_
   refine sr_end (l' := [(0, str s_0), (3, .int .u64 (IntKind.u64.wrap ((bXor .u64 h_3 (IntKind.u64.wrap (byteAt s_0 t_7))) * 1099511628211))), (6, .int .i64 t_6), (7, .int .i64 (IntKind.i64.wrap (t_7 + 1)))]) (.cons rfl (.cons rfl (.cons rfl (.cons rfl (.nil _))))) ?_
   have hK := hr0 hS hb
   exact ke_weaken (l' := [(0, str s_0), (3, .int .u64 (IntKind.u64.wrap ((bXor .u64 h_3 (IntKind.u64.wrap (byteAt s_0 t_7))) * 1099511628211))), (6, .int .i64 t_6), (7, .int .i64 (IntKind.i64.wrap (t_7 + 1)))]) (.cons rfl (.cons rfl (.cons rfl (.cons rfl (.nil _))))) hK
  ·replace hS := ite_false' hS hc1
   refine ke_exit (k' := _) rfl ?_
   refine ke_seq ?_
   refine ke_region ?_
   refine sr_ev (v := .int .u64 h_3) (ev_move rfl) (by decide) ?_
   refine sr_ev (v := .int .u64 h_3) (ev_move rfl) (by decide) ?_
   refine sr_ev (v := .int .u64 (bShr .u64 h_3 33)) (ev_shr rfl rfl (by decide)) (by decide) ?_
   refine sr_ev (v := .int .u64 (bXor .u64 h_3 (bShr .u64 h_3 33))) (ev_xor rfl rfl) (by decide) ?_
   refine sr_ev (v := .int .u64 (bXor .u64 h_3 (bShr .u64 h_3 33))) (ev_assign rfl) (by decide) ?_
   refine sr_end (l' := [(3, .int .u64 (bXor .u64 h_3 (bShr .u64 h_3 33)))]) (.cons rfl (.nil _)) ?_
   refine ke_seq ?_
   refine ke_region ?_
   refine sr_ev (v := .int .u64 (bXor .u64 h_3 (bShr .u64 h_3 33))) (ev_move rfl) (by decide) ?_
   refine sr_ev (v := .int .u64 (IntKind.u64.wrap ((bXor .u64 h_3 (bShr .u64 h_3 33)) * 18397679294719823053))) (ev_mul rfl rfl) (by decide) ?_
   refine sr_ev (v := .int .u64 (IntKind.u64.wrap ((bXor .u64 h_3 (bShr .u64 h_3 33)) * 18397679294719823053))) (ev_assign rfl) (by decide) ?_
   refine sr_end (l' := [(3, .int .u64 (IntKind.u64.wrap ((bXor .u64 h_3 (bShr .u64 h_3 33)) * 18397679294719823053)))]) (.cons rfl (.nil _)) ?_
   refine ke_seq ?_
   refine ke_region ?_
   refine sr_ev (v := .int .u64 (IntKind.u64.wrap ((bXor .u64 h_3 (bShr .u64 h_3 33)) * 18397679294719823053))) (ev_move rfl) (by decide) ?_
   refine sr_ev (v := .int .u64 (IntKind.u64.wrap ((bXor .u64 h_3 (bShr .u64 h_3 33)) * 18397679294719823053))) (ev_move rfl) (by decide) ?_
   refine sr_ev (v := .int .u64 (bShr .u64 (IntKind.u64.wrap ((bXor .u64 h_3 (bShr .u64 h_3 33)) * 18397679294719823053)) 33)) (ev_shr rfl rfl (by decide)) (by decide) ?_
   refine sr_ev (v := .int .u64 (bXor .u64 (IntKind.u64.wrap ((bXor .u64 h_3 (bShr .u64 h_3 33)) * 18397679294719823053)) (bShr .u64 (IntKind.u64.wrap ((bXor .u64 h_3 (bShr .u64 h_3 33)) * 18397679294719823053)) 33))) (ev_xor rfl rfl) (by decide) ?_
   refine sr_ev (v := .int .u64 (bXor .u64 (IntKind.u64.wrap ((bXor .u64 h_3 (bShr .u64 h_3 33)) * 18397679294719823053)) (bShr .u64 (IntKind.u64.wrap ((bXor .u64 h_3 (bShr .u64 h_3 33)) * 18397679294719823053)) 33))) (ev_assign rfl) (by decide) ?_
   refine sr_end (l' := [(3, .int .u64 (bXor .u64 (IntKind.u64.wrap ((bXor .u64 h_3 (bShr .u64 h_3 33)) * 18397679294719823053)) (bShr .u64 (IntKind.u64.wrap ((bXor .u64 h_3 (bShr .u64 h_3 33)) * 18397679294719823053)) 33)))]) (.cons rfl (.nil _)) ?_
   refine ke_seq ?_
   refine ke_region ?_
   refine sr_ev (v := .int .u64 (bXor .u64 (IntKind.u64.wrap ((bXor .u64 h_3 (bShr .u64 h_3 33)) * 18397679294719823053)) (bShr .u64 (IntKind.u64.wrap ((bXor .u64 h_3 (bShr .u64 h_3 33)) * 18397679294719823053)) 33))) (ev_move rfl) (by decide) ?_
   refine sr_ev (v := .int .u64 (IntKind.u64.wrap ((bXor .u64 (IntKind.u64.wrap ((bXor .u64 h_3 (bShr .u64 h_3 33)) * 18397679294719823053)) (bShr .u64 (IntKind.u64.wrap ((bXor .u64 h_3 (bShr .u64 h_3 33)) * 18397679294719823053)) 33)) * 14181476777654086739))) (ev_mul rfl rfl) (by decide) ?_
   refine sr_ev (v := .int .u64 (IntKind.u64.wrap ((bXor .u64 (IntKind.u64.wrap ((bXor .u64 h_3 (bShr .u64 h_3 33)) * 18397679294719823053)) (bShr .u64 (IntKind.u64.wrap ((bXor .u64 h_3 (bShr .u64 h_3 33)) * 18397679294719823053)) 33)) * 14181476777654086739))) (ev_assign rfl) (by decide) ?_
   refine sr_end (l' := [(3, .int .u64 (IntKind.u64.wrap ((bXor .u64 (IntKind.u64.wrap ((bXor .u64 h_3 (bShr .u64 h_3 33)) * 18397679294719823053)) (bShr .u64 (IntKind.u64.wrap ((bXor .u64 h_3 (bShr .u64 h_3 33)) * 18397679294719823053)) 33)) * 14181476777654086739)))]) (.cons rfl (.nil _)) ?_
   refine ke_seq ?_
   refine ke_region ?_
   refine sr_ev (v := .int .u64 (IntKind.u64.wrap ((bXor .u64 (IntKind.u64.wrap ((bXor .u64 h_3 (bShr .u64 h_3 33)) * 18397679294719823053)) (bShr .u64 (IntKind.u64.wrap ((bXor .u64 h_3 (bShr .u64 h_3 33)) * 18397679294719823053)) 33)) * 14181476777654086739))) (ev_move rfl) (by decide) ?_
   refine sr_ev (v := .int .u64 (IntKind.u64.wrap ((bXor .u64 (IntKind.u64.wrap ((bXor .u64 h_3 (bShr .u64 h_3 33)) * 18397679294719823053)) (bShr .u64 (IntKind.u64.wrap ((bXor .u64 h_3 (bShr .u64 h_3 33)) * 18397679294719823053)) 33)) * 14181476777654086739))) (ev_move rfl) (by decide) ?_
   refine sr_ev (v := .int .u64 (bShr .u64 (IntKind.u64.wrap ((bXor .u64 (IntKind.u64.wrap ((bXor .u64 h_3 (bShr .u64 h_3 33)) * 18397679294719823053)) (bShr .u64 (IntKind.u64.wrap ((bXor .u64 h_3 (bShr .u64 h_3 33)) * 18397679294719823053)) 33)) * 14181476777654086739)) 33)) (ev_shr rfl rfl (by decide)) (by decide) ?_
   refine sr_ev (v := .int .u64 (bXor .u64 (IntKind.u64.wrap ((bXor .u64 (IntKind.u64.wrap ((bXor .u64 h_3 (bShr .u64 h_3 33)) * 18397679294719823053)) (bShr .u64 (IntKind.u64.wrap ((bXor .u64 h_3 (bShr .u64 h_3 33)) * 18397679294719823053)) 33)) * 14181476777654086739)) (bShr .u64 (IntKind.u64.wrap ((bXor .u64 (IntKind.u64.wrap ((bXor .u64 h_3 (bShr .u64 h_3 33)) * 18397679294719823053)) (bShr .u64 (IntKind.u64.wrap ((bXor .u64 h_3 (bShr .u64 h_3 33)) * 18397679294719823053)) 33)) * 14181476777654086739)) 33))) (ev_xor rfl rfl) (by decide) ?_
   refine sr_ev (v := .int .u64 (bXor .u64 (IntKind.u64.wrap ((bXor .u64 (IntKind.u64.wrap ((bXor .u64 h_3 (bShr .u64 h_3 33)) * 18397679294719823053)) (bShr .u64 (IntKind.u64.wrap ((bXor .u64 h_3 (bShr .u64 h_3 33)) * 18397679294719823053)) 33)) * 14181476777654086739)) (bShr .u64 (IntKind.u64.wrap ((bXor .u64 (IntKind.u64.wrap ((bXor .u64 h_3 (bShr .u64 h_3 33)) * 18397679294719823053)) (bShr .u64 (IntKind.u64.wrap ((bXor .u64 h_3 (bShr .u64 h_3 33)) * 18397679294719823053)) 33)) * 14181476777654086739)) 33))) (ev_assign rfl) (by decide) ?_
   refine sr_end (l' := [(2, .int .u64 (bXor .u64 (IntKind.u64.wrap ((bXor .u64 (IntKind.u64.wrap ((bXor .u64 h_3 (bShr .u64 h_3 33)) * 18397679294719823053)) (bShr .u64 (IntKind.u64.wrap ((bXor .u64 h_3 (bShr .u64 h_3 33)) * 18397679294719823053)) 33)) * 14181476777654086739)) (bShr .u64 (IntKind.u64.wrap ((bXor .u64 (IntKind.u64.wrap ((bXor .u64 h_3 (bShr .u64 h_3 33)) * 18397679294719823053)) (bShr .u64 (IntKind.u64.wrap ((bXor .u64 h_3 (bShr .u64 h_3 33)) * 18397679294719823053)) 33)) * 14181476777654086739)) 33)))]) (.cons rfl (.nil _)) ?_
   cases hS
   exact ke_ret1 Tryd.func48 rfl rfl ⟨_, rfl, rfl, hb⟩
theorem digest_Sum_ok (w0 : World) (hg : Gs w0) {s_0 : Str} {r : Int} (hS : digest_Sum s_0 = some r) :
  Calls Tryd.prog 48 #[str s_0] w0 (Ret (fun v w' => v = .int .u64 r ∧ Below w0.heap.size w0 w')) := by
 unfold digest_Sum at hS
 have hb := Below.refl w0.heap.size w0
 refine calls_of_ke Tryd.func48 rfl (n := 34) rfl rfl (l := [(0, str s_0)]) rfl ?_
 refine ke_seq ?_
 refine ke_region ?_
 refine sr_ev (v := .int .u64 0) (ev_assign rfl) (by decide) ?_
 refine sr_end (l' := [(0, str s_0)]) (.cons rfl (.nil _)) ?_
 refine ke_seq ?_
 refine ke_region ?_
 refine sr_ev (v := .int .u64 14695981039346656037) (ev_assign rfl) (by decide) ?_
 refine sr_end (l' := [(0, str s_0), (3, .int .u64 14695981039346656037)]) (.cons rfl (.cons rfl (.nil _))) ?_
 refine ke_seq ?_
 refine ke_seq ?_
 refine ke_region ?_
 refine sr_ev (v := str s_0) (ev_move rfl) (by decide) ?_
 refine sr_ev (v := .int .i64 (s_0.length : Int)) (ev_slen Tryd.underlying9 rfl) (by decide) ?_
 refine sr_ev (v := .int .i64 0) (ev_move rfl) (by decide) ?_
 refine sr_end (l' := [(0, str s_0), (3, .int .u64 14695981039346656037), (6, .int .i64 (s_0.length : Int)), (7, .int .i64 0)]) (.cons rfl (.cons rfl (.cons rfl (.cons rfl (.nil _))))) ?_
 refine ke_block ?_
 have hK := digest_Sum_L1_ok hg _ hS hb
 exact ke_weaken (l' := [(0, str s_0), (3, .int .u64 14695981039346656037), (6, .int .i64 (s_0.length : Int)), (7, .int .i64 0)]) (.cons rfl (.cons rfl (.cons rfl (.cons rfl (.nil _))))) (ke_loop hK)
theorem digest_Hex_L1_ok {w0 : World} (hg : Gs w0) {A0 : Nat → Prop} (hA0 : ∀ b, A0 b → b < w0.heap.size) : ∀ (n : Nat), ∀ {r : Str} {n_0 : Int} {b_3 : List Int} {t_5 : Int} {gb_3 : Nat}, digest_Hex_L1 n n_0 b_3 t_5 = some r → ∀ {w : World} {A : Nat → Prop}, (Below w0.heap.size w0 w) → (∀ b, A b → b < w.heap.size) → (∀ b, A0 b → A b) → (Hp A w0.heap.size w [(gb_3, .cells (b_3.map (Value.int .u8)).toArray 83 (0, 0))]) → KE Tryd.prog 47 (Ret (fun v w' => v = str r ∧ Below w0.heap.size w0 w')) 21 [.code (sub (bodyOf Tryd.f47) [2, 2, 1, 2, 2, 1]), .inLoop (sub (bodyOf Tryd.f47) [2, 2, 1, 2, 2, 1]), .inBlock 0, .code (sub (bodyOf Tryd.f47) [2, 2, 2])] [(0, .int .u64 n_0), (3, .pointer (some ⟨gb_3, 0, none⟩)), (5, .int .i64 t_5)] w := by
 intro n
 induction n with
 | zero => intro r n_0 b_3 t_5 gb_3 hS; cases hS
 | succ n ih =>
  have hr0 : ∀ {r : Str} {n_0 : Int} {b_3 : List Int} {t_5 : Int} {gb_3 : Nat}, digest_Hex_L1 n n_0 b_3 t_5 = some r → ∀ {w : World} {A : Nat → Prop}, (Below w0.heap.size w0 w) → (∀ b, A b → b < w.heap.size) → (∀ b, A0 b → A b) → (Hp A w0.heap.size w [(gb_3, .cells (b_3.map (Value.int .u8)).toArray 83 (0, 0))]) → KE Tryd.prog 47 (Ret (fun v w' => v = str r ∧ Below w0.heap.size w0 w')) 21 [.inLoop (sub (bodyOf Tryd.f47) [2, 2, 1, 2, 2, 1]), .inBlock 0, .code (sub (bodyOf Tryd.f47) [2, 2, 2])] [(0, .int .u64 n_0), (3, .pointer (some ⟨gb_3, 0, none⟩)), (5, .int .i64 t_5)] w := fun {r} {n_0} {b_3} {t_5} {gb_3} hS {w} {A} hb hA hi hH => ke_inLoop (ih hS hb hA hi hH)
  clear ih
  intro r n_0 b_3 t_5 gb_3 hS w A hb hA hi hH
  unfold digest_Hex_L1 at hS
  refine ke_seq ?_
  refine ke_region ?_
  refine sr_ev (v := .bool (decide (t_5 < 16))) (ev_lt rfl rfl) (by decide) ?_
  refine sr_end (l' := [(0, .int .u64 n_0), (3, .pointer (some ⟨gb_3, 0, none⟩)), (5, .int .i64 t_5), (6, .bool (decide (t_5 < 16)))]) (.cons rfl (.cons rfl (.cons rfl (.cons rfl (.nil _))))) ?_
  refine ke_seq ?_
  refine ke_cond (t := decide (t_5 < 16)) rfl (fun hc8 => ?_) (fun hc8 => ?_)
  ·replace hS := ite_true' hS hc8
   refine ke_skip ?_
   refine ke_seq ?_
   refine ke_block ?_
   refine ke_seq ?_
   refine ke_region ?_
   refine sr_ev (v := .int .i64 t_5) (ev_move rfl) (by decide) ?_
   refine sr_ev (v := .int .i64 t_5) (ev_assign rfl) (by decide) ?_
   refine sr_end (l' := [(0, .int .u64 n_0), (3, .pointer (some ⟨gb_3, 0, none⟩)), (4, .int .i64 t_5), (5, .int .i64 t_5)]) (.cons rfl (.cons rfl (.cons rfl (.cons rfl (.nil _))))) ?_
   refine ke_region ?_
   refine sr_ev (v := .int .i64 t_5) (ev_move rfl) (by decide) ?_
   refine sr_ev (v := .int .i64 (IntKind.i64.wrap (15 - t_5))) (ev_sub rfl rfl) (by decide) ?_
   refine sr_ev (v := .int .u64 n_0) (ev_move rfl) (by decide) ?_
   refine sr_ev (v := .int .i64 t_5) (ev_move rfl) (by decide) ?_
   refine sr_ev (v := .int .i64 (IntKind.i64.wrap (4 * t_5))) (ev_mul rfl rfl) (by decide) ?_
   obtain ⟨hk9, hS⟩ := chk_some hS
   refine sr_ev (v := .int .u64 (bShr .u64 n_0 (IntKind.i64.wrap (4 * t_5)))) (ev_shr rfl rfl hk9) (by decide) ?_
   refine sr_ev (v := .int .u64 (bAnd .u64 (bShr .u64 n_0 (IntKind.i64.wrap (4 * t_5))) 15)) (ev_and rfl rfl) (by decide) ?_
   obtain ⟨hk10, hS⟩ := chk_some hS
   refine sr_ev (v := .pointer (some ⟨0, 0 + (bAnd .u64 (bShr .u64 n_0 (IntKind.i64.wrap (4 * t_5))) 15).toNat * 1, none⟩)) (ev_arrindex Tryd.underlying83 Tryd.info5 rfl rfl rfl hk10) (by decide) ?_
   obtain ⟨y11, hy12, hS⟩ := bind_some' hS
   refine sr_ev (v := .int .u8 y11) (ev_load Tryd.isAgg5 rfl ((hg.below hb).tab0 hy12)) (by decide) ?_
   obtain ⟨hk13, hS⟩ := chk_some hS
   refine sr_ev (v := .pointer (some ⟨gb_3, 0 + (IntKind.i64.wrap (15 - t_5)).toNat * 1, none⟩)) (ev_arrindex Tryd.underlying83 Tryd.info5 rfl rfl rfl hk13) (by decide) ?_
   obtain ⟨hk14, hS⟩ := chk_some hS
   refine sr_store_arr (j := 0) hH rfl Tryd.sizeOf5 rfl rfl hk14 ?_
   intro w15 hH1 hwr16
   replace hb := hwr16.below hb (hH.base _ (List.mem_of_getElem? (i := 0) rfl))
   replace hA := hwr16.lt hA
   replace hH : Hp A w0.heap.size w15 [(gb_3, .cells ((setAt b_3 (IntKind.i64.wrap (15 - t_5)) y11).map (Value.int .u8)).toArray 83 (0, 0))] := hH1
   clear hH1
   refine sr_end (l' := [(0, .int .u64 n_0), (3, .pointer (some ⟨gb_3, 0, none⟩)), (5, .int .i64 t_5)]) (.cons rfl (.cons rfl (.cons rfl (.nil _)))) ?_
   refine ke_inBlock ?_
   refine ke_region ?_
   refine sr_ev (v := .int .i64 (IntKind.i64.wrap (t_5 + 1))) (ev_add rfl rfl) (by decide) ?_
   refine sr_ev (v := .int .i64 (IntKind.i64.wrap (t_5 + 1))) (ev_move rfl) (by decide) ?_
   refine sr_end (l' := [(0, .int .u64 n_0), (3, .pointer (some ⟨gb_3, 0, none⟩)), (5, .int .i64 (IntKind.i64.wrap (t_5 + 1)))]) (.cons rfl (.cons rfl (.cons rfl (.nil _)))) ?_
   have hK := hr0 hS hb hA hi hH
   exact ke_weaken (l' := [(0, .int .u64 n_0), (3, .pointer (some ⟨gb_3, 0, none⟩)), (5, .int .i64 (IntKind.i64.wrap (t_5 + 1)))]) (.cons rfl (.cons rfl (.cons rfl (.nil _)))) hK
  ·replace hS := ite_false' hS hc8
   refine ke_exit (k' := _) rfl ?_
   refine ke_seq ?_
   refine ke_region ?_
   refine sr_ev (v := .slice (some ⟨gb_3, 0, none⟩) 16 16) (ev_arrslice Tryd.underlying83 Tryd.info5 rfl) (by decide) ?_
   obtain ⟨hk17, hS⟩ := chk_some hS
   refine sr_ev (v := str (bytesStr b_3)) (ev_arr2s (j := 0) hH rfl (by simpa using hk17) rfl Tryd.underlying80 Tryd.underlying5 Tryd.underlying9 rfl) (by decide) ?_
   refine sr_ev (v := str (bytesStr b_3)) (ev_assign rfl) (by decide) ?_
   refine sr_end (l' := [(2, str (bytesStr b_3))]) (.cons rfl (.nil _)) ?_
   cases hS
   exact ke_ret1 Tryd.func47 rfl rfl ⟨_, rfl, rfl, hb⟩
theorem digest_Hex_ok (w0 : World) (hg : Gs w0) {n_0 : Int} {r : Str} (hS : digest_Hex n_0 = some r) :
  Calls Tryd.prog 47 #[.int .u64 n_0] w0 (Ret (fun v w' => v = str r ∧ Below w0.heap.size w0 w')) := by
 unfold digest_Hex at hS
 have hb := Below.refl w0.heap.size w0
 obtain ⟨A0, hA0, hAe⟩ : ∃ A0 : Nat → Prop, (∀ b, A0 b → b < w0.heap.size) ∧ A0 = fun _ => False := ⟨_, fun _ h => h.elim, rfl⟩
 clear hAe
 have hA := hA0
 have hi : ∀ b, A0 b → A0 b := fun _ h => h
 have hH := Hp.nil A0 w0.heap.size w0
 refine calls_of_ke Tryd.func47 rfl (n := 21) rfl rfl (l := [(0, .int .u64 n_0)]) rfl ?_
 refine ke_seq ?_
 refine ke_region ?_
 refine sr_ev (v := str ([])) (ev_assign rfl) (by decide) ?_
 refine sr_end (l' := [(0, .int .u64 n_0)]) (.cons rfl (.nil _)) ?_
 refine ke_seq ?_
 refine ke_region ?_
 refine sr_alloc hH hb.size hA Tryd.zeroValue83 (by decide) ?_
 intro g1 A2 w3 hH1 hst4 hbw5 hinc6 hA1 hge7
 replace hb := hb.trans (hbw5.mono hb.size)
 replace hi := fun b hb => hinc6 b (hi b hb)
 replace hH : Hp A2 w0.heap.size w3 [(g1, .cells (([0, 0, 0, 0, 0, 0, 0, 0, 0, 0, 0, 0, 0, 0, 0, 0]).map (Value.int .u8)).toArray 83 (0, 0))] := hH1
 replace hA := hA1
 clear hH1 hA1
 refine sr_end (l' := [(0, .int .u64 n_0), (3, .pointer (some ⟨g1, 0, none⟩))]) (.cons rfl (.cons rfl (.nil _))) ?_
 refine ke_seq ?_
 refine ke_seq ?_
 refine ke_region ?_
 refine sr_ev (v := .int .i64 0) (ev_move rfl) (by decide) ?_
 refine sr_end (l' := [(0, .int .u64 n_0), (3, .pointer (some ⟨g1, 0, none⟩)), (5, .int .i64 0)]) (.cons rfl (.cons rfl (.cons rfl (.nil _)))) ?_
 refine ke_block ?_
 have hK := digest_Hex_L1_ok hg hA0 _ hS hb hA hi hH
 exact ke_weaken (l' := [(0, .int .u64 n_0), (3, .pointer (some ⟨g1, 0, none⟩)), (5, .int .i64 0)]) (.cons rfl (.cons rfl (.cons rfl (.nil _)))) (ke_loop hK)
theorem digest_Text_ok (w0 : World) (hg : Gs w0) {s_0 : Str} {r : Str} (hS : digest_Text s_0 = some r) :
  Calls Tryd.prog 20 #[str s_0] w0 (Ret (fun v w' => v = str r ∧ Below w0.heap.size w0 w')) := by
 unfold digest_Text at hS
 have hb := Below.refl w0.heap.size w0
 refine calls_of_ke Tryd.func20 rfl (n := 6) rfl rfl (l := [(0, str s_0)]) rfl ?_
 refine ke_seq ?_
 refine ke_region ?_
 refine sr_ev (v := str ([])) (ev_assign rfl) (by decide) ?_
 refine sr_end (l' := [(0, str s_0)]) (.cons rfl (.nil _)) ?_
 refine ke_seq ?_
 refine ke_region ?_
 refine sr_ev (v := str s_0) (ev_move rfl) (by decide) ?_
 obtain ⟨y1, hy2, hS⟩ := bind_some' hS
 refine sr_call (vs := [str s_0]) rfl Tryd.call48 rfl (digest_Sum_ok _ (hg.below hb) hy2) (by decide) ?_
 rintro _ w3 ⟨rfl, hbw4⟩
 replace hb := hb.trans (hbw4.mono hb.size)
 obtain ⟨y5, hy6, hS⟩ := bind_some' hS
 refine sr_call (vs := [.int .u64 y1]) rfl Tryd.call47 rfl (digest_Hex_ok _ (hg.below hb) hy6) (by decide) ?_
 rintro _ w7 ⟨rfl, hbw8⟩
 replace hb := hb.trans (hbw8.mono hb.size)
 refine sr_ev (v := str y5) (ev_assign rfl) (by decide) ?_
 refine sr_end (l' := [(2, str y5)]) (.cons rfl (.nil _)) ?_
 cases hS
 exact ke_ret1 Tryd.func20 rfl rfl ⟨_, rfl, rfl, hb⟩
theorem digest_Iterate_L1_ok {w0 : World} (hg : Gs w0) : ∀ (n : Nat), ∀ {r : Str} {salt_0 : Str} {h_7 : Str} {t_15 : Int} {t_16 : Int}, digest_Iterate_L1 n salt_0 h_7 t_15 t_16 = some r → ∀ {w : World}, (Below w0.heap.size w0 w) → KE Tryd.prog 33 (Ret (fun v w' => v = str r ∧ Below w0.heap.size w0 w')) 25 [.code (sub (bodyOf Tryd.f33) [2, 2, 1, 2, 2, 1]), .inLoop (sub (bodyOf Tryd.f33) [2, 2, 1, 2, 2, 1]), .inBlock 0, .code (sub (bodyOf Tryd.f33) [2, 2, 2])] [(0, str salt_0), (7, str h_7), (15, .int .i64 t_15), (16, .int .i64 t_16)] w := by
 intro n
 induction n with
 | zero => intro r salt_0 h_7 t_15 t_16 hS; cases hS
 | succ n ih =>
  have hr0 : ∀ {r : Str} {salt_0 : Str} {h_7 : Str} {t_15 : Int} {t_16 : Int}, digest_Iterate_L1 n salt_0 h_7 t_15 t_16 = some r → ∀ {w : World}, (Below w0.heap.size w0 w) → KE Tryd.prog 33 (Ret (fun v w' => v = str r ∧ Below w0.heap.size w0 w')) 25 [.inLoop (sub (bodyOf Tryd.f33) [2, 2, 1, 2, 2, 1]), .inBlock 0, .code (sub (bodyOf Tryd.f33) [2, 2, 2])] [(0, str salt_0), (7, str h_7), (15, .int .i64 t_15), (16, .int .i64 t_16)] w := fun {r} {salt_0} {h_7} {t_15} {t_16} hS {w} hb => ke_inLoop (ih hS hb)
  clear ih
  intro r salt_0 h_7 t_15 t_16 hS w hb
  unfold digest_Iterate_L1 at hS
  refine ke_seq ?_
  refine ke_region ?_
  refine sr_ev (v := .bool (decide (t_16 < t_15))) (ev_lt rfl rfl) (by decide) ?_
  refine sr_end (l' := [(0, str salt_0), (7, str h_7), (15, .int .i64 t_15), (16, .int .i64 t_16), (17, .bool (decide (t_16 < t_15)))]) (.cons rfl (.cons rfl (.cons rfl (.cons rfl (.cons rfl (.nil _)))))) ?_
  refine ke_seq ?_
  refine ke_cond (t := decide (t_16 < t_15)) rfl (fun hc7 => ?_) (fun hc7 => ?_)
  ·replace hS := ite_true' hS hc7
   refine ke_skip ?_
   refine ke_seq ?_
   refine ke_block ?_
   refine ke_region ?_
   refine sr_ev (v := str h_7) (ev_move rfl) (by decide) ?_
   obtain ⟨hk8, hS⟩ := chk_some hS
   refine sr_ev (v := str (h_7 ++ ([124]))) (ev_cat rfl rfl hk8) (by decide) ?_
   refine sr_ev (v := str salt_0) (ev_move rfl) (by decide) ?_
   obtain ⟨hk9, hS⟩ := chk_some hS
   refine sr_ev (v := str ((h_7 ++ ([124])) ++ salt_0)) (ev_cat rfl rfl hk9) (by decide) ?_
   obtain ⟨y10, hy11, hS⟩ := bind_some' hS
   refine sr_call (vs := [str ((h_7 ++ ([124])) ++ salt_0)]) rfl Tryd.call20 rfl (digest_Text_ok _ (hg.below hb) hy11) (by decide) ?_
   rintro _ w12 ⟨rfl, hbw13⟩
   replace hb := hb.trans (hbw13.mono hb.size)
   refine sr_ev (v := str y10) (ev_assign rfl) (by decide) ?_
   refine sr_end (l' := [(0, str salt_0), (7, str y10), (15, .int .i64 t_15), (16, .int .i64 t_16)]) (.cons rfl (.cons rfl (.cons rfl (.cons rfl (.nil _))))) ?_
   refine ke_inBlock ?_
   refine ke_region ?_
   refine sr_ev (v := .int .i64 (IntKind.i64.wrap (t_16 + 1))) (ev_add rfl rfl) (by decide) ?_
   refine sr_ev (v := .int .i64 (IntKind.i64.wrap (t_16 + 1))) (ev_move rfl) (by decide) ?_
   refine sr_end (l' := [(0, str salt_0), (7, str y10), (15, .int .i64 t_15), (16, .int .i64 (IntKind.i64.wrap (t_16 + 1)))]) (.cons rfl (.cons rfl (.cons rfl (.cons rfl (.nil _))))) ?_
   have hK := hr0 hS hb
   exact ke_weaken (l' := [(0, str salt_0), (7, str y10), (15, .int .i64 t_15), (16, .int .i64 (IntKind.i64.wrap (t_16 + 1)))]) (.cons rfl (.cons rfl (.cons rfl (.cons rfl (.nil _))))) hK
  ·replace hS := ite_false' hS hc7
   refine ke_exit (k' := _) rfl ?_
   refine ke_seq ?_
   refine ke_region ?_
   refine sr_ev (v := str h_7) (ev_move rfl) (by decide) ?_
   refine sr_ev (v := str h_7) (ev_assign rfl) (by decide) ?_
   refine sr_end (l' := [(6, str h_7)]) (.cons rfl (.nil _)) ?_
   cases hS
   exact ke_ret1 Tryd.func33 rfl rfl ⟨_, rfl, rfl, hb⟩
theorem digest_Iterate_ok (w0 : World) (hg : Gs w0) {salt_0 : Str} {s_1 : Str} {rounds_2 : Int} {r : Str} (hS : digest_Iterate salt_0 s_1 rounds_2 = some r) :
  Calls Tryd.prog 33 #[str salt_0, str s_1, .int .i64 rounds_2] w0 (Ret (fun v w' => v = str r ∧ Below w0.heap.size w0 w')) := by
 unfold digest_Iterate at hS
 have hb := Below.refl w0.heap.size w0
 refine calls_of_ke Tryd.func33 rfl (n := 25) rfl rfl (l := [(0, str salt_0), (1, str s_1), (2, .int .i64 rounds_2)]) rfl ?_
 refine ke_seq ?_
 refine ke_region ?_
 refine sr_ev (v := str ([])) (ev_assign rfl) (by decide) ?_
 refine sr_end (l' := [(0, str salt_0), (1, str s_1), (2, .int .i64 rounds_2)]) (.cons rfl (.cons rfl (.cons rfl (.nil _)))) ?_
 refine ke_seq ?_
 refine ke_region ?_
 refine sr_ev (v := str salt_0) (ev_move rfl) (by decide) ?_
 obtain ⟨hk1, hS⟩ := chk_some hS
 refine sr_ev (v := str (salt_0 ++ ([124]))) (ev_cat rfl rfl hk1) (by decide) ?_
 refine sr_ev (v := str s_1) (ev_move rfl) (by decide) ?_
 obtain ⟨hk2, hS⟩ := chk_some hS
 refine sr_ev (v := str ((salt_0 ++ ([124])) ++ s_1)) (ev_cat rfl rfl hk2) (by decide) ?_
 obtain ⟨y3, hy4, hS⟩ := bind_some' hS
 refine sr_call (vs := [str ((salt_0 ++ ([124])) ++ s_1)]) rfl Tryd.call20 rfl (digest_Text_ok _ (hg.below hb) hy4) (by decide) ?_
 rintro _ w5 ⟨rfl, hbw6⟩
 replace hb := hb.trans (hbw6.mono hb.size)
 refine sr_ev (v := str y3) (ev_assign rfl) (by decide) ?_
 refine sr_end (l' := [(0, str salt_0), (2, .int .i64 rounds_2), (7, str y3)]) (.cons rfl (.cons rfl (.cons rfl (.nil _)))) ?_
 refine ke_seq ?_
 refine ke_seq ?_
 refine ke_region ?_
 refine sr_ev (v := .int .i64 rounds_2) (ev_move rfl) (by decide) ?_
 refine sr_ev (v := .int .i64 (gmax rounds_2 0)) (ev_max rfl rfl) (by decide) ?_
 refine sr_ev (v := .int .i64 (gmin (gmax rounds_2 0) 64)) (ev_min rfl rfl) (by decide) ?_
 refine sr_ev (v := .int .i64 0) (ev_move rfl) (by decide) ?_
 refine sr_end (l' := [(0, str salt_0), (7, str y3), (15, .int .i64 (gmin (gmax rounds_2 0) 64)), (16, .int .i64 0)]) (.cons rfl (.cons rfl (.cons rfl (.cons rfl (.nil _))))) ?_
 refine ke_block ?_
 have hK := digest_Iterate_L1_ok hg _ hS hb
 exact ke_weaken (l' := [(0, str salt_0), (7, str y3), (15, .int .i64 (gmin (gmax rounds_2 0) 64)), (16, .int .i64 0)]) (.cons rfl (.cons rfl (.cons rfl (.cons rfl (.nil _))))) (ke_loop hK)
theorem secret_Make_ok (w0 : World) (hg : Gs w0) {password_0 : Str} {salt_1 : Str} {rounds_2 : Int} {r : api_Verifier × Int} (hS : secret_Make password_0 salt_1 rounds_2 = some r) :
  Calls Tryd.prog 10 #[str password_0, str salt_1, .int .i64 rounds_2] w0 (Ret (fun v w' => v = .tuple #[.agg #[str r.1.Salt, .int .i64 r.1.Rounds, str r.1.Hash], .int .i64 r.2] ∧ Below w0.heap.size w0 w')) := by
 unfold secret_Make at hS
 have hb := Below.refl w0.heap.size w0
 obtain ⟨A0, hA0, hAe⟩ : ∃ A0 : Nat → Prop, (∀ b, A0 b → b < w0.heap.size) ∧ A0 = fun _ => False := ⟨_, fun _ h => h.elim, rfl⟩
 clear hAe
 have hA := hA0
 have hi : ∀ b, A0 b → A0 b := fun _ h => h
 have hH := Hp.nil A0 w0.heap.size w0
 refine calls_of_ke Tryd.func10 rfl (n := 31) rfl rfl (l := [(0, str password_0), (1, str salt_1), (2, .int .i64 rounds_2)]) rfl ?_
 refine ke_seq ?_
 refine ke_region ?_
 refine sr_alloc hH hb.size hA Tryd.zeroValue25 (by decide) ?_
 intro g1 A2 w3 hH1 hst4 hbw5 hinc6 hA1 hge7
 replace hb := hb.trans (hbw5.mono hb.size)
 replace hi := fun b hb => hinc6 b (hi b hb)
 replace hH : Hp A2 w0.heap.size w3 [(g1, .cells #[str ([]), .int .i64 0, str ([])] 25 (0, 0))] := hH1
 replace hA := hA1
 clear hH1 hA1
 refine sr_ev (v := .int .i64 0) (ev_assign rfl) (by decide) ?_
 refine sr_end (l' := [(0, str password_0), (1, str salt_1), (2, .int .i64 rounds_2), (6, .pointer (some ⟨g1, 0, none⟩))]) (.cons rfl (.cons rfl (.cons rfl (.cons rfl (.nil _))))) ?_
 refine ke_seq ?_
 refine ke_seq ?_
 refine ke_region ?_
 refine sr_ev (v := str salt_1) (ev_move rfl) (by decide) ?_
 obtain ⟨y8, hy9, hS⟩ := bind_some' hS
 refine sr_call (vs := [str salt_1]) rfl Tryd.call34 rfl (fold_Word_ok _ (hg.below hb) hy9) (by decide) ?_
 rintro _ w10 ⟨rfl, hbw11⟩
 replace hb := hb.trans (hbw11.mono hb.size)
 replace hA := lt_mono hA hbw11.size
 replace hH := hH.below hbw11
 refine sr_ev (v := .bool (!y8)) (ev_not rfl) (by decide) ?_
 refine sr_ev (v := .bool (!y8)) (ev_move rfl) (by decide) ?_
 refine sr_join (m := 3) (C := fun (x : Bool) w1 => x = ((!y8) || (decide (rounds_2 < 1))) ∧ w10 = w1) (l' := fun x => [(0, str password_0), (1, str salt_1), (2, .int .i64 rounds_2), (6, .pointer (some ⟨g1, 0, none⟩)), (14, .bool x)]) ?_ ?_
 ·rintro _ _ ⟨rfl, rfl⟩
  refine sr_ev (v := .bool ((!y8) || (decide (rounds_2 < 1)))) (ev_move rfl) (by decide) ?_
  refine sr_join (m := 3) (C := fun (x : Bool) w1 => x = (((!y8) || (decide (rounds_2 < 1))) || (decide (rounds_2 > 64))) ∧ w10 = w1) (l' := fun x => [(0, str password_0), (1, str salt_1), (2, .int .i64 rounds_2), (6, .pointer (some ⟨g1, 0, none⟩)), (18, .bool x)]) ?_ ?_
  ·rintro _ _ ⟨rfl, rfl⟩
   refine sr_end (l' := [(0, str password_0), (1, str salt_1), (2, .int .i64 rounds_2), (6, .pointer (some ⟨g1, 0, none⟩)), (18, .bool (((!y8) || (decide (rounds_2 < 1))) || (decide (rounds_2 > 64))))]) (.cons rfl (.cons rfl (.cons rfl (.cons rfl (.cons rfl (.nil _)))))) ?_
   refine ke_cond (t := ((!y8) || (decide (rounds_2 < 1))) || (decide (rounds_2 > 64))) rfl (fun hc26 => ?_) (fun hc26 => ?_)
   ·replace hS := ite_true' hS hc26
    refine ke_seq ?_
    refine ke_region ?_
    refine sr_ev (v := .agg #[str ([]), .int .i64 0, str ([])]) (ev_build (vs := #[]) rfl (fun _ => by kernel_rfl)) (by decide) ?_
    refine sr_store (i := 0) (v := .agg #[str ([]), .int .i64 0, str ([])]) (vs := [str ([]), .int .i64 0, str ([])]) (cs' := #[str ([]), .int .i64 0, str ([])]) hH rfl rfl rfl rfl Tryd.sizeOf25 rfl rfl rfl ?_
    intro w27 hH1 hwr28
    replace hb := hwr28.below hb (hH.base _ (List.mem_of_getElem? (i := 0) rfl))
    replace hA := hwr28.lt hA
    replace hH : Hp A2 w0.heap.size w27 [(g1, .cells #[str ([]), .int .i64 0, str ([])] 25 (0, 0))] := hH1
    clear hH1
    refine sr_ev (v := .int .i64 2) (ev_assign rfl) (by decide) ?_
    refine sr_end (l' := [(6, .pointer (some ⟨g1, 0, none⟩)), (7, .int .i64 2)]) (.cons rfl (.cons rfl (.nil _))) ?_
    cases hS
    exact ke_ret (rs := [.cell 6 25, .tmp 7]) (vs := [.agg #[str ([]), .int .i64 0, str ([])], .int .i64 2]) Tryd.func10 rfl ⟨⟨_, rfl, run_loadVar_s Tryd.isAgg25 Tryd.sizeOf25 (hH.cells (i := 0) (vs := [str ([]), .int .i64 0, str ([])]) rfl rfl)⟩, rfl, trivial⟩ rfl ⟨_, rfl, rfl, hb⟩
   ·replace hS := ite_false' hS hc26
    refine ke_skip ?_
    refine ke_seq ?_
    refine ke_seq ?_
    refine ke_region ?_
    refine sr_ev (v := str password_0) (ev_move rfl) (by decide) ?_
    obtain ⟨y29, hy30, hS⟩ := bind_some' hS
    refine sr_call (vs := [str password_0]) rfl Tryd.call35 rfl (secret_isPassword_ok _ (hg.below hb) hy30) (by decide) ?_
    rintro _ w31 ⟨rfl, hbw32⟩
    replace hb := hb.trans (hbw32.mono hb.size)
    replace hA := lt_mono hA hbw32.size
    replace hH := hH.below hbw32
    refine sr_ev (v := .bool (!y29)) (ev_not rfl) (by decide) ?_
    refine sr_end (l' := [(0, str password_0), (1, str salt_1), (2, .int .i64 rounds_2), (6, .pointer (some ⟨g1, 0, none⟩)), (22, .bool (!y29))]) (.cons rfl (.cons rfl (.cons rfl (.cons rfl (.cons rfl (.nil _)))))) ?_
    refine ke_cond (t := !y29) rfl (fun hc33 => ?_) (fun hc33 => ?_)
    ·replace hS := ite_true' hS hc33
     refine ke_seq ?_
     refine ke_region ?_
     refine sr_ev (v := .agg #[str ([]), .int .i64 0, str ([])]) (ev_build (vs := #[]) rfl (fun _ => by kernel_rfl)) (by decide) ?_
     refine sr_store (i := 0) (v := .agg #[str ([]), .int .i64 0, str ([])]) (vs := [str ([]), .int .i64 0, str ([])]) (cs' := #[str ([]), .int .i64 0, str ([])]) hH rfl rfl rfl rfl Tryd.sizeOf25 rfl rfl rfl ?_
     intro w34 hH1 hwr35
     replace hb := hwr35.below hb (hH.base _ (List.mem_of_getElem? (i := 0) rfl))
     replace hA := hwr35.lt hA
     replace hH : Hp A2 w0.heap.size w34 [(g1, .cells #[str ([]), .int .i64 0, str ([])] 25 (0, 0))] := hH1
     clear hH1
     refine sr_ev (v := .int .i64 4) (ev_assign rfl) (by decide) ?_
     refine sr_end (l' := [(6, .pointer (some ⟨g1, 0, none⟩)), (7, .int .i64 4)]) (.cons rfl (.cons rfl (.nil _))) ?_
     cases hS
     exact ke_ret (rs := [.cell 6 25, .tmp 7]) (vs := [.agg #[str ([]), .int .i64 0, str ([])], .int .i64 4]) Tryd.func10 rfl ⟨⟨_, rfl, run_loadVar_s Tryd.isAgg25 Tryd.sizeOf25 (hH.cells (i := 0) (vs := [str ([]), .int .i64 0, str ([])]) rfl rfl)⟩, rfl, trivial⟩ rfl ⟨_, rfl, rfl, hb⟩
    ·replace hS := ite_false' hS hc33
     refine ke_skip ?_
     refine ke_seq ?_
     refine ke_region ?_
     refine sr_ev (v := str salt_1) (ev_move rfl) (by decide) ?_
     refine sr_ev (v := .int .i64 rounds_2) (ev_move rfl) (by decide) ?_
     refine sr_ev (v := str salt_1) (ev_move rfl) (by decide) ?_
     refine sr_ev (v := str password_0) (ev_move rfl) (by decide) ?_
     refine sr_ev (v := .int .i64 rounds_2) (ev_move rfl) (by decide) ?_
     obtain ⟨y36, hy37, hS⟩ := bind_some' hS
     refine sr_call (vs := [str salt_1, str password_0, .int .i64 rounds_2]) rfl Tryd.call33 rfl (digest_Iterate_ok _ (hg.below hb) hy37) (by decide) ?_
     rintro _ w38 ⟨rfl, hbw39⟩
     replace hb := hb.trans (hbw39.mono hb.size)
     replace hA := lt_mono hA hbw39.size
     replace hH := hH.below hbw39
     refine sr_ev (v := .agg #[str salt_1, .int .i64 rounds_2, str y36]) (ev_build (vs := #[(0, str salt_1), (1, .int .i64 rounds_2), (2, str y36)]) rfl (fun _ => by kernel_rfl)) (by decide) ?_
     refine sr_store (i := 0) (v := .agg #[str salt_1, .int .i64 rounds_2, str y36]) (vs := [str salt_1, .int .i64 rounds_2, str y36]) (cs' := #[str salt_1, .int .i64 rounds_2, str y36]) hH rfl rfl rfl rfl Tryd.sizeOf25 rfl rfl rfl ?_
     intro w40 hH1 hwr41
     replace hb := hwr41.below hb (hH.base _ (List.mem_of_getElem? (i := 0) rfl))
     replace hA := hwr41.lt hA
     replace hH : Hp A2 w0.heap.size w40 [(g1, .cells #[str salt_1, .int .i64 rounds_2, str y36] 25 (0, 0))] := hH1
     clear hH1
     refine sr_ev (v := .int .i64 0) (ev_assign rfl) (by decide) ?_
     refine sr_end (l' := [(6, .pointer (some ⟨g1, 0, none⟩)), (7, .int .i64 0)]) (.cons rfl (.cons rfl (.nil _))) ?_
     cases hS
     exact ke_ret (rs := [.cell 6 25, .tmp 7]) (vs := [.agg #[str salt_1, .int .i64 rounds_2, str y36], .int .i64 0]) Tryd.func10 rfl ⟨⟨_, rfl, run_loadVar_s Tryd.isAgg25 Tryd.sizeOf25 (hH.cells (i := 0) (vs := [str salt_1, .int .i64 rounds_2, str y36]) rfl rfl)⟩, rfl, trivial⟩ rfl ⟨_, rfl, rfl, hb⟩
  ·intro K20
   rcases Bool.eq_false_or_eq_true ((!y8) || (decide (rounds_2 < 1))) with hg19 | hg19
   ·refine sr_pass (e := 15) rfl rfl (by rw [hg19]; rfl) (by decide) ?_
    refine sr_pass (e := 15) rfl rfl (by rw [hg19]; rfl) (by decide) ?_
    refine sr_ev (v := .bool true) (ev_pick_t rfl hg19 rfl) (by decide) ?_
    exact sr_weaken (l' := [(0, str password_0), (1, str salt_1), (2, .int .i64 rounds_2), (6, .pointer (some ⟨g1, 0, none⟩)), (18, .bool true)]) (.cons rfl (.cons rfl (.cons rfl (.cons rfl (.cons rfl (.nil _)))))) (K20 true _ ⟨by rw [hg19]; rfl, rfl⟩)
   ·refine sr_evg (b := false) (e := 15) rfl rfl hg19 (v := .int .i64 rounds_2) (ev_move rfl) (by decide) ?_
    refine sr_evg (b := false) (e := 15) rfl rfl hg19 (v := .bool (decide (rounds_2 > 64))) (ev_gt rfl rfl) (by decide) ?_
    refine sr_ev (v := .bool (decide (rounds_2 > 64))) (ev_pick_f rfl hg19 rfl) (by decide) ?_
    exact sr_weaken (l' := [(0, str password_0), (1, str salt_1), (2, .int .i64 rounds_2), (6, .pointer (some ⟨g1, 0, none⟩)), (18, .bool (decide (rounds_2 > 64)))]) (.cons rfl (.cons rfl (.cons rfl (.cons rfl (.cons rfl (.nil _)))))) (K20 (decide (rounds_2 > 64)) _ ⟨by rw [hg19]; rfl, rfl⟩)
 ·intro K13
  rcases Bool.eq_false_or_eq_true (!y8) with hg12 | hg12
  ·refine sr_pass (e := 11) rfl rfl (by rw [hg12]; rfl) (by decide) ?_
   refine sr_pass (e := 11) rfl rfl (by rw [hg12]; rfl) (by decide) ?_
   refine sr_ev (v := .bool true) (ev_pick_t rfl hg12 rfl) (by decide) ?_
   exact sr_weaken (l' := [(0, str password_0), (1, str salt_1), (2, .int .i64 rounds_2), (6, .pointer (some ⟨g1, 0, none⟩)), (14, .bool true)]) (.cons rfl (.cons rfl (.cons rfl (.cons rfl (.cons rfl (.nil _)))))) (K13 true _ ⟨by rw [hg12]; rfl, rfl⟩)
  ·refine sr_evg (b := false) (e := 11) rfl rfl hg12 (v := .int .i64 rounds_2) (ev_move rfl) (by decide) ?_
   refine sr_evg (b := false) (e := 11) rfl rfl hg12 (v := .bool (decide (rounds_2 < 1))) (ev_lt rfl rfl) (by decide) ?_
   refine sr_ev (v := .bool (decide (rounds_2 < 1))) (ev_pick_f rfl hg12 rfl) (by decide) ?_
   exact sr_weaken (l' := [(0, str password_0), (1, str salt_1), (2, .int .i64 rounds_2), (6, .pointer (some ⟨g1, 0, none⟩)), (14, .bool (decide (rounds_2 < 1)))]) (.cons rfl (.cons rfl (.cons rfl (.cons rfl (.cons rfl (.nil _)))))) (K13 (decide (rounds_2 < 1)) _ ⟨by rw [hg12]; rfl, rfl⟩)
theorem clock_limited_ok (w0 : World) (hg : Gs w0) {t_0 : Int} {r : Int} (hS : clock_limited t_0 = some r) :
  Calls Tryd.prog 64 #[.int .i64 t_0] w0 (Ret (fun v w' => v = .int .i64 r ∧ Below w0.heap.size w0 w')) := by
 unfold clock_limited at hS
 have hb := Below.refl w0.heap.size w0
 refine calls_of_ke Tryd.func64 rfl (n := 6) rfl rfl (l := [(0, .int .i64 t_0)]) rfl ?_
 refine ke_seq ?_
 refine ke_region ?_
 refine sr_ev (v := .int .i64 0) (ev_assign rfl) (by decide) ?_
 refine sr_end (l' := [(0, .int .i64 t_0)]) (.cons rfl (.nil _)) ?_
 refine ke_seq ?_
 refine ke_region ?_
 refine sr_ev (v := .int .i64 t_0) (ev_move rfl) (by decide) ?_
 refine sr_ev (v := .int .i64 (gmax t_0 0)) (ev_max rfl rfl) (by decide) ?_
 refine sr_ev (v := .int .i64 (gmin (gmax t_0 0) 1099511627776)) (ev_min rfl rfl) (by decide) ?_
 refine sr_ev (v := .int .i64 (gmin (gmax t_0 0) 1099511627776)) (ev_assign rfl) (by decide) ?_
 refine sr_end (l' := [(2, .int .i64 (gmin (gmax t_0 0) 1099511627776))]) (.cons rfl (.nil _)) ?_
 cases hS
 exact ke_ret1 Tryd.func64 rfl rfl ⟨_, rfl, rfl, hb⟩
theorem clock_Add_ok (w0 : World) (hg : Gs w0) {t_0 : Int} {d_1 : Int} {r : Int} (hS : clock_Add t_0 d_1 = some r) :
  Calls Tryd.prog 49 #[.int .i64 t_0, .int .i64 d_1] w0 (Ret (fun v w' => v = .int .i64 r ∧ Below w0.heap.size w0 w')) := by
 unfold clock_Add at hS
 have hb := Below.refl w0.heap.size w0
 refine calls_of_ke Tryd.func49 rfl (n := 11) rfl rfl (l := [(0, .int .i64 t_0), (1, .int .i64 d_1)]) rfl ?_
 refine ke_seq ?_
 refine ke_region ?_
 refine sr_ev (v := .int .i64 0) (ev_assign rfl) (by decide) ?_
 refine sr_end (l' := [(0, .int .i64 t_0), (1, .int .i64 d_1)]) (.cons rfl (.cons rfl (.nil _))) ?_
 refine ke_seq ?_
 refine ke_region ?_
 refine sr_ev (v := .int .i64 t_0) (ev_move rfl) (by decide) ?_
 obtain ⟨y1, hy2, hS⟩ := bind_some' hS
 refine sr_call (vs := [.int .i64 t_0]) rfl Tryd.call64 rfl (clock_limited_ok _ (hg.below hb) hy2) (by decide) ?_
 rintro _ w3 ⟨rfl, hbw4⟩
 replace hb := hb.trans (hbw4.mono hb.size)
 refine sr_ev (v := .int .i64 d_1) (ev_move rfl) (by decide) ?_
 obtain ⟨y5, hy6, hS⟩ := bind_some' hS
 refine sr_call (vs := [.int .i64 d_1]) rfl Tryd.call64 rfl (clock_limited_ok _ (hg.below hb) hy6) (by decide) ?_
 rintro _ w7 ⟨rfl, hbw8⟩
 replace hb := hb.trans (hbw8.mono hb.size)
 refine sr_ev (v := .int .i64 (IntKind.i64.wrap (y1 + y5))) (ev_add rfl rfl) (by decide) ?_
 obtain ⟨y9, hy10, hS⟩ := bind_some' hS
 refine sr_call (vs := [.int .i64 (IntKind.i64.wrap (y1 + y5))]) rfl Tryd.call64 rfl (clock_limited_ok _ (hg.below hb) hy10) (by decide) ?_
 rintro _ w11 ⟨rfl, hbw12⟩
 replace hb := hb.trans (hbw12.mono hb.size)
 refine sr_ev (v := .int .i64 y9) (ev_assign rfl) (by decide) ?_
 refine sr_end (l' := [(4, .int .i64 y9)]) (.cons rfl (.nil _)) ?_
 cases hS
 exact ke_ret1 Tryd.func49 rfl rfl ⟨_, rfl, rfl, hb⟩
theorem secret_NewLocks_ok (w0 : World) (hg : Gs w0) {ρA : Tags} (hbd : ∀ b, ρA b ≠ 0 → b < w0.heap.size) (hz : Gz ρA) {o : Nat} (ho2 : 2 ≤ o) {most_0 : Int} {window_1 : Int} {lock_2 : Int} {r : (Option secret_Locks) × Int} (hS : secret_NewLocks most_0 window_1 lock_2 = some r) :
  Calls Tryd.prog 22 #[.int .i64 most_0, .int .i64 window_1, .int .i64 lock_2] w0 (Ret (fun v w' => ∃ ρ' zr0, v = .tuple #[zr0, .int .i64 r.2] ∧ PtrO secret_Locks.O (fun p => o + p) ρ' w' zr0 r.1 ∧ Tr ρA w0 (rng o 3) ρ' w')) := by
 unfold secret_NewLocks at hS
 have hb := enter_fr (ρ := ρA) (w := w0) (n := 3) ho2 hbd
 have hz := hz.enter (n := 3) ho2
 refine calls_of_ke Tryd.func22 rfl (n := 34) rfl rfl (l := [(0, .int .i64 most_0), (1, .int .i64 window_1), (2, .int .i64 lock_2)]) rfl ?_
 refine ke_seq ?_
 refine ke_region ?_
 refine sr_ev (v := .pointer none) (ev_assign rfl) (by decide) ?_
 refine sr_ev (v := .int .i64 0) (ev_assign rfl) (by decide) ?_
 refine sr_end (l' := [(0, .int .i64 most_0), (1, .int .i64 window_1), (2, .int .i64 lock_2)]) (.cons rfl (.cons rfl (.cons rfl (.nil _)))) ?_
 refine ke_seq ?_
 refine ke_region ?_
 refine sr_ev (v := .int .i64 window_1) (ev_move rfl) (by decide) ?_
 obtain ⟨y1, hy2, hS⟩ := bind_some' hS
 refine sr_call (vs := [.int .i64 window_1, .int .i64 0]) rfl Tryd.call49 rfl (clock_Add_ok _ (hg.fr hz hb) hy2) (by decide) ?_
 rintro _ w3 ⟨rfl, hbw4⟩
 have htr5 := Tr.of_below hbw4 hb.bd
 replace hb := hb.trans htr5
 refine sr_ev (v := .int .i64 lock_2) (ev_move rfl) (by decide) ?_
 obtain ⟨y6, hy7, hS⟩ := bind_some' hS
 refine sr_call (vs := [.int .i64 lock_2, .int .i64 0]) rfl Tryd.call49 rfl (clock_Add_ok _ (hg.fr hz hb) hy7) (by decide) ?_
 rintro _ w8 ⟨rfl, hbw9⟩
 have htr10 := Tr.of_below hbw9 hb.bd
 replace hb := hb.trans htr10
 refine sr_ev (v := .int .i64 y1) (ev_assign rfl) (by decide) ?_
 refine sr_ev (v := .int .i64 y6) (ev_assign rfl) (by decide) ?_
 refine sr_end (l' := [(0, .int .i64 most_0), (8, .int .i64 y1), (9, .int .i64 y6)]) (.cons rfl (.cons rfl (.cons rfl (.nil _)))) ?_
 refine ke_seq ?_
 refine ke_seq ?_
 refine ke_region ?_
 refine sr_ev (v := .int .i64 most_0) (ev_move rfl) (by decide) ?_
 refine sr_ev (v := .bool (decide (most_0 < 1))) (ev_lt rfl rfl) (by decide) ?_
 refine sr_ev (v := .bool (decide (most_0 < 1))) (ev_move rfl) (by decide) ?_
 refine sr_join (m := 3) (C := fun (x : Bool) w1 => x = ((decide (most_0 < 1)) || (decide (most_0 > 256))) ∧ w8 = w1) (l' := fun x => [(0, .int .i64 most_0), (8, .int .i64 y1), (9, .int .i64 y6), (19, .bool x)]) ?_ ?_
 ·rintro _ _ ⟨rfl, rfl⟩
  refine sr_ev (v := .bool ((decide (most_0 < 1)) || (decide (most_0 > 256)))) (ev_move rfl) (by decide) ?_
  refine sr_join (m := 3) (C := fun (x : Bool) w1 => x = (((decide (most_0 < 1)) || (decide (most_0 > 256))) || (decide (y1 < 1))) ∧ w8 = w1) (l' := fun x => [(0, .int .i64 most_0), (8, .int .i64 y1), (9, .int .i64 y6), (23, .bool x)]) ?_ ?_
  ·rintro _ _ ⟨rfl, rfl⟩
   refine sr_ev (v := .bool (((decide (most_0 < 1)) || (decide (most_0 > 256))) || (decide (y1 < 1)))) (ev_move rfl) (by decide) ?_
   refine sr_join (m := 3) (C := fun (x : Bool) w1 => x = ((((decide (most_0 < 1)) || (decide (most_0 > 256))) || (decide (y1 < 1))) || (decide (y6 < 1))) ∧ w8 = w1) (l' := fun x => [(0, .int .i64 most_0), (8, .int .i64 y1), (9, .int .i64 y6), (27, .bool x)]) ?_ ?_
   ·rintro _ _ ⟨rfl, rfl⟩
    refine sr_end (l' := [(0, .int .i64 most_0), (8, .int .i64 y1), (9, .int .i64 y6), (27, .bool ((((decide (most_0 < 1)) || (decide (most_0 > 256))) || (decide (y1 < 1))) || (decide (y6 < 1))))]) (.cons rfl (.cons rfl (.cons rfl (.cons rfl (.nil _))))) ?_
    refine ke_cond (t := (((decide (most_0 < 1)) || (decide (most_0 > 256))) || (decide (y1 < 1))) || (decide (y6 < 1))) rfl (fun hc35 => ?_) (fun hc35 => ?_)
    ·replace hS := ite_true' hS hc35
     refine ke_seq ?_
     refine ke_region ?_
     refine sr_ev (v := .pointer none) (ev_assign rfl) (by decide) ?_
     refine sr_ev (v := .int .i64 2) (ev_assign rfl) (by decide) ?_
     refine sr_end (l' := [(6, .pointer none), (7, .int .i64 2)]) (.cons rfl (.cons rfl (.nil _))) ?_
     cases hS
     exact ke_ret2 Tryd.func22 rfl rfl rfl ⟨_, rfl, leave ρA w0 o 3 (enter ρA o 3), _, rfl, PtrO.nil, (leave_tr ho2 hb)⟩
    ·replace hS := ite_false' hS hc35
     refine ke_skip ?_
     refine ke_seq ?_
     refine ke_region ?_
     refine sr_ev (v := .int .i64 most_0) (ev_move rfl) (by decide) ?_
     refine sr_ev (v := .int .i64 y1) (ev_move rfl) (by decide) ?_
     refine sr_ev (v := .int .i64 y6) (ev_move rfl) (by decide) ?_
     refine sr_makeMap (K := Str) (V := Option Nat) (ek := str) (c := ptrC) (agg := false) 33 (by decide) hb.bd rfl (by decide) ?_
     intro v36 ρ38 w39 h37 htr40
     replace hb := hb.trans htr40
     have hR42 : Recs secret_record.O 2 ρ38 35 w39 (some [] : GMap Str (Option Nat)) (some [] : GMap Str secret_record) := Recs.new
     refine sr_ev (v := .agg #[.int .i64 most_0, .int .i64 y1, .int .i64 y6, (.map (some v36))]) (ev_build (vs := #[(0, .int .i64 most_0), (1, .int .i64 y1), (2, .int .i64 y6), (3, (.map (some v36)))]) rfl (fun _ => by kernel_rfl)) (by decide) ?_
     refine sr_boxT 100 (by decide) hb.bd rfl (by decide) ?_
     intro g43 ρ44 w45 hB47 htr46
     replace h37 := h37.mv (htr46.mv (i := 33) rfl)
     replace hR42 := Recs.mv hR42 secret_record.objK (htr46.mv (i := 35) rfl) (by decide)
     replace hb := hb.trans htr46
     replace hB47 : Blk ρ44 100 w45 g43 (.cells #[.int .i64 most_0, .int .i64 y1, .int .i64 y6, (.map (some v36))] 67 (0, 0)) := hB47
     refine sr_ev (v := .pointer (some ⟨g43, 0, none⟩)) (ev_assign rfl) (by decide) ?_
     refine sr_ev (v := .int .i64 0) (ev_assign rfl) (by decide) ?_
     refine sr_end (l' := [(6, .pointer (some ⟨g43, 0, none⟩)), (7, .int .i64 0)]) (.cons rfl (.cons rfl (.nil _))) ?_
     have htr48 := rtg_tr (ρ := ρ44) (w := w45) (i := 33) 101 (by decide) hb.bd
     have hmv49 : Mv ρ44 w45 33 (rtg ρ44 33 101) w45 101 := rtg_mv (by decide)
     replace hB47 := hB47.mv (htr48.mv (i := 100) rfl)
     replace hR42 := Recs.mv hR42 secret_record.objK (htr48.mv (i := 35) rfl) (by decide)
     replace hb := hb.trans htr48
     replace h37 := h37.mv hmv49
     have htr50 := rtg_tr (ρ := (rtg ρ44 33 101)) (w := w45) (i := 35) 102 (by decide) hb.bd
     have hmv51 : Mv (rtg ρ44 33 101) w45 35 (rtg (rtg ρ44 33 101) 35 102) w45 102 := rtg_mv (by decide)
     replace hB47 := hB47.mv (htr50.mv (i := 100) rfl)
     replace h37 := h37.mv (htr50.mv (i := 101) rfl)
     replace hb := hb.trans htr50
     replace hR42 := Recs.mv hR42 secret_record.objK hmv51 (by decide)
     cases hS
     exact ke_ret2 Tryd.func22 rfl rfl rfl ⟨_, rfl, leave ρA w0 o 3 (rtg (rtg ρ44 33 101) 35 102), _, rfl, (PtrO.mk ⟨_, _, (hB47.mv (leave_mv (p := 0) (by decide) hb)), (h37.mv (leave_mv (p := 1) (by decide) hb)), (Recs.mv hR42 secret_record.objK (leave_mv (p := 2) (by decide) hb) (Nat.ne_of_gt (Nat.lt_of_lt_of_le (Nat.lt_of_lt_of_le Nat.zero_lt_two ho2) (Nat.le_add_right _ _))))⟩), (leave_tr ho2 hb)⟩
   ·intro K28
    rcases Bool.eq_false_or_eq_true (((decide (most_0 < 1)) || (decide (most_0 > 256))) || (decide (y1 < 1))) with hg27 | hg27
    all_goals try have hj30 : Tr (enter ρA o 3) w8 (fun _ => false) (enter ρA o 3) w8 := Tr.refl hb.bd
    ·refine sr_pass (e := 24) rfl rfl (by rw [hg27]; rfl) (by decide) ?_
     refine sr_pass (e := 24) rfl rfl (by rw [hg27]; rfl) (by decide) ?_
     refine sr_ev (v := .bool true) (ev_pick_t rfl hg27 rfl) (by decide) ?_
     exact sr_weaken (l' := [(0, .int .i64 most_0), (8, .int .i64 y1), (9, .int .i64 y6), (27, .bool true)]) (.cons rfl (.cons rfl (.cons rfl (.cons rfl (.nil _))))) (K28 true _ ⟨by first | (rw [hg27]; rfl) | rfl, rfl⟩)
    ·refine sr_evg (b := false) (e := 24) rfl rfl hg27 (v := .int .i64 y6) (ev_move rfl) (by decide) ?_
     refine sr_evg (b := false) (e := 24) rfl rfl hg27 (v := .bool (decide (y6 < 1))) (ev_lt rfl rfl) (by decide) ?_
     refine sr_ev (v := .bool (decide (y6 < 1))) (ev_pick_f rfl hg27 rfl) (by decide) ?_
     exact sr_weaken (l' := [(0, .int .i64 most_0), (8, .int .i64 y1), (9, .int .i64 y6), (27, .bool (decide (y6 < 1)))]) (.cons rfl (.cons rfl (.cons rfl (.cons rfl (.nil _))))) (K28 (decide (y6 < 1)) _ ⟨by first | (rw [hg27]; rfl) | rfl, rfl⟩)
  ·intro K20
   rcases Bool.eq_false_or_eq_true ((decide (most_0 < 1)) || (decide (most_0 > 256))) with hg19 | hg19
   all_goals try have hj22 : Tr (enter ρA o 3) w8 (fun _ => false) (enter ρA o 3) w8 := Tr.refl hb.bd
   ·refine sr_pass (e := 20) rfl rfl (by rw [hg19]; rfl) (by decide) ?_
    refine sr_pass (e := 20) rfl rfl (by rw [hg19]; rfl) (by decide) ?_
    refine sr_ev (v := .bool true) (ev_pick_t rfl hg19 rfl) (by decide) ?_
    exact sr_weaken (l' := [(0, .int .i64 most_0), (8, .int .i64 y1), (9, .int .i64 y6), (23, .bool true)]) (.cons rfl (.cons rfl (.cons rfl (.cons rfl (.nil _))))) (K20 true _ ⟨by first | (rw [hg19]; rfl) | rfl, rfl⟩)
   ·refine sr_evg (b := false) (e := 20) rfl rfl hg19 (v := .int .i64 y1) (ev_move rfl) (by decide) ?_
    refine sr_evg (b := false) (e := 20) rfl rfl hg19 (v := .bool (decide (y1 < 1))) (ev_lt rfl rfl) (by decide) ?_
    refine sr_ev (v := .bool (decide (y1 < 1))) (ev_pick_f rfl hg19 rfl) (by decide) ?_
    exact sr_weaken (l' := [(0, .int .i64 most_0), (8, .int .i64 y1), (9, .int .i64 y6), (23, .bool (decide (y1 < 1)))]) (.cons rfl (.cons rfl (.cons rfl (.cons rfl (.nil _))))) (K20 (decide (y1 < 1)) _ ⟨by first | (rw [hg19]; rfl) | rfl, rfl⟩)
 ·intro K12
  rcases Bool.eq_false_or_eq_true (decide (most_0 < 1)) with hg11 | hg11
  all_goals try have hj14 : Tr (enter ρA o 3) w8 (fun _ => false) (enter ρA o 3) w8 := Tr.refl hb.bd
  ·refine sr_pass (e := 16) rfl rfl (by rw [hg11]; rfl) (by decide) ?_
   refine sr_pass (e := 16) rfl rfl (by rw [hg11]; rfl) (by decide) ?_
   refine sr_ev (v := .bool true) (ev_pick_t rfl hg11 rfl) (by decide) ?_
   exact sr_weaken (l' := [(0, .int .i64 most_0), (8, .int .i64 y1), (9, .int .i64 y6), (19, .bool true)]) (.cons rfl (.cons rfl (.cons rfl (.cons rfl (.nil _))))) (K12 true _ ⟨by first | (rw [hg11]; rfl) | rfl, rfl⟩)
  ·refine sr_evg (b := false) (e := 16) rfl rfl hg11 (v := .int .i64 most_0) (ev_move rfl) (by decide) ?_
   refine sr_evg (b := false) (e := 16) rfl rfl hg11 (v := .bool (decide (most_0 > 256))) (ev_gt rfl rfl) (by decide) ?_
   refine sr_ev (v := .bool (decide (most_0 > 256))) (ev_pick_f rfl hg11 rfl) (by decide) ?_
   exact sr_weaken (l' := [(0, .int .i64 most_0), (8, .int .i64 y1), (9, .int .i64 y6), (19, .bool (decide (most_0 > 256)))]) (.cons rfl (.cons rfl (.cons rfl (.cons rfl (.nil _))))) (K12 (decide (most_0 > 256)) _ ⟨by first | (rw [hg11]; rfl) | rfl, rfl⟩)
theorem digest_ReadHex_B3_ok {w0 : World} (hg : Gs w0) (r0 : Str → Int → Int → Int → Option (Int × Int)) (r1 : Str → Int → Int → Int → Int → Int → Int → Option (Int × Int))
  (hr0 : ∀ {r : Int × Int} {s_0 : Str} {n_4 : Int} {t_13 : Int} {t_14 : Int}, r0 s_0 n_4 t_13 t_14 = some r → ∀ {w : World}, (Below w0.heap.size w0 w) → KE Tryd.prog 39 (Ret (fun v w' => v = .tuple #[.int .u64 r.1, .int .i64 r.2] ∧ Below w0.heap.size w0 w')) 38 [.inLoop (sub (bodyOf Tryd.f39) [2, 2, 2, 1, 2, 2, 1]), .inBlock 0, .code (sub (bodyOf Tryd.f39) [2, 2, 2, 2])] [(0, str s_0), (4, .int .u64 n_4), (13, .int .i64 t_13), (14, .int .i64 t_14)] w)
  (hr1 : ∀ {r : Int × Int} {s_0 : Str} {n_4 : Int} {i_5 : Int} {v_6 : Int} {t_13 : Int} {t_14 : Int} {t_18 : Int}, r1 s_0 n_4 i_5 v_6 t_13 t_14 t_18 = some r → ∀ {w : World}, (Below w0.heap.size w0 w) → KE Tryd.prog 39 (Ret (fun v w' => v = .tuple #[.int .u64 r.1, .int .i64 r.2] ∧ Below w0.heap.size w0 w')) 38 [.inLoop (sub (bodyOf Tryd.f39) [2, 2, 2, 1, 2, 2, 1, 2, 2, 1, 2, 2, 2, 1, 2, 2, 1]), .inBlock 2, .code (sub (bodyOf Tryd.f39) [2, 2, 2, 1, 2, 2, 1, 2, 2, 1, 2, 2, 2, 2]), .inBlock 1, .code (sub (bodyOf Tryd.f39) [2, 2, 2, 1, 2, 2, 1, 2, 2, 2]), .inLoop (sub (bodyOf Tryd.f39) [2, 2, 2, 1, 2, 2, 1]), .inBlock 0, .code (sub (bodyOf Tryd.f39) [2, 2, 2, 2])] [(0, str s_0), (4, .int .u64 n_4), (5, .int .i64 i_5), (6, .int .i64 v_6), (13, .int .i64 t_13), (14, .int .i64 t_14), (17, arrV .u8 tab_digest_digits), (18, .int .i64 t_18)] w) {r : Int × Int} {s_0 : Str} {n_4 : Int} {i_5 : Int} {v_6 : Int} {t_13 : Int} {t_14 : Int} {t_18 : Int} (hS : digest_ReadHex_B3 r0 r1 s_0 n_4 i_5 v_6 t_13 t_14 t_18 = some r) {w : World} (hb : Below w0.heap.size w0 w) :
  KE Tryd.prog 39 (Ret (fun v w' => v = .tuple #[.int .u64 r.1, .int .i64 r.2] ∧ Below w0.heap.size w0 w')) 38 [.inBlock 3, .code (sub (bodyOf Tryd.f39) [2, 2, 2, 1, 2, 2, 1, 2, 2, 1, 2, 2, 2, 1, 2, 2, 1, 2, 2, 2]), .inLoop (sub (bodyOf Tryd.f39) [2, 2, 2, 1, 2, 2, 1, 2, 2, 1, 2, 2, 2, 1, 2, 2, 1]), .inBlock 2, .code (sub (bodyOf Tryd.f39) [2, 2, 2, 1, 2, 2, 1, 2, 2, 1, 2, 2, 2, 2]), .inBlock 1, .code (sub (bodyOf Tryd.f39) [2, 2, 2, 1, 2, 2, 1, 2, 2, 2]), .inLoop (sub (bodyOf Tryd.f39) [2, 2, 2, 1, 2, 2, 1]), .inBlock 0, .code (sub (bodyOf Tryd.f39) [2, 2, 2, 2])] [(0, str s_0), (4, .int .u64 n_4), (5, .int .i64 i_5), (6, .int .i64 v_6), (13, .int .i64 t_13), (14, .int .i64 t_14), (17, arrV .u8 tab_digest_digits), (18, .int .i64 t_18)] w := by
 unfold digest_ReadHex_B3 at hS
 refine ke_inBlock ?_
 refine ke_region ?_
 refine sr_ev (v := .int .i64 (IntKind.i64.wrap (t_18 + 1))) (ev_add rfl rfl) (by decide) ?_
 refine sr_ev (v := .int .i64 (IntKind.i64.wrap (t_18 + 1))) (ev_move rfl) (by decide) ?_
 refine sr_end (l' := [(0, str s_0), (4, .int .u64 n_4), (5, .int .i64 i_5), (6, .int .i64 v_6), (13, .int .i64 t_13), (14, .int .i64 t_14), (17, arrV .u8 tab_digest_digits), (18, .int .i64 (IntKind.i64.wrap (t_18 + 1)))]) (.cons rfl (.cons rfl (.cons rfl (.cons rfl (.cons rfl (.cons rfl (.cons rfl (.cons rfl (.nil _))))))))) ?_
 have hK := hr1 hS hb
 exact ke_weaken (l' := [(0, str s_0), (4, .int .u64 n_4), (5, .int .i64 i_5), (6, .int .i64 v_6), (13, .int .i64 t_13), (14, .int .i64 t_14), (17, arrV .u8 tab_digest_digits), (18, .int .i64 (IntKind.i64.wrap (t_18 + 1)))]) (.cons rfl (.cons rfl (.cons rfl (.cons rfl (.cons rfl (.cons rfl (.cons rfl (.cons rfl (.nil _))))))))) hK
theorem digest_ReadHex_L2_ok {w0 : World} (hg : Gs w0) (r0 : Str → Int → Int → Int → Option (Int × Int))
  (hr0 : ∀ {r : Int × Int} {s_0 : Str} {n_4 : Int} {t_13 : Int} {t_14 : Int}, r0 s_0 n_4 t_13 t_14 = some r → ∀ {w : World}, (Below w0.heap.size w0 w) → KE Tryd.prog 39 (Ret (fun v w' => v = .tuple #[.int .u64 r.1, .int .i64 r.2] ∧ Below w0.heap.size w0 w')) 38 [.inLoop (sub (bodyOf Tryd.f39) [2, 2, 2, 1, 2, 2, 1]), .inBlock 0, .code (sub (bodyOf Tryd.f39) [2, 2, 2, 2])] [(0, str s_0), (4, .int .u64 n_4), (13, .int .i64 t_13), (14, .int .i64 t_14)] w) : ∀ (n : Nat), ∀ {r : Int × Int} {s_0 : Str} {n_4 : Int} {i_5 : Int} {v_6 : Int} {t_13 : Int} {t_14 : Int} {t_18 : Int}, digest_ReadHex_L2 r0 n s_0 n_4 i_5 v_6 t_13 t_14 t_18 = some r → ∀ {w : World}, (Below w0.heap.size w0 w) → KE Tryd.prog 39 (Ret (fun v w' => v = .tuple #[.int .u64 r.1, .int .i64 r.2] ∧ Below w0.heap.size w0 w')) 38 [.code (sub (bodyOf Tryd.f39) [2, 2, 2, 1, 2, 2, 1, 2, 2, 1, 2, 2, 2, 1, 2, 2, 1]), .inLoop (sub (bodyOf Tryd.f39) [2, 2, 2, 1, 2, 2, 1, 2, 2, 1, 2, 2, 2, 1, 2, 2, 1]), .inBlock 2, .code (sub (bodyOf Tryd.f39) [2, 2, 2, 1, 2, 2, 1, 2, 2, 1, 2, 2, 2, 2]), .inBlock 1, .code (sub (bodyOf Tryd.f39) [2, 2, 2, 1, 2, 2, 1, 2, 2, 2]), .inLoop (sub (bodyOf Tryd.f39) [2, 2, 2, 1, 2, 2, 1]), .inBlock 0, .code (sub (bodyOf Tryd.f39) [2, 2, 2, 2])] [(0, str s_0), (4, .int .u64 n_4), (5, .int .i64 i_5), (6, .int .i64 v_6), (13, .int .i64 t_13), (14, .int .i64 t_14), (17, arrV .u8 tab_digest_digits), (18, .int .i64 t_18)] w := by
 intro n
 induction n with
 | zero => intro r s_0 n_4 i_5 v_6 t_13 t_14 t_18 hS; cases hS
 | succ n ih =>
  have hr1 : ∀ {r : Int × Int} {s_0 : Str} {n_4 : Int} {i_5 : Int} {v_6 : Int} {t_13 : Int} {t_14 : Int} {t_18 : Int}, digest_ReadHex_L2 r0 n s_0 n_4 i_5 v_6 t_13 t_14 t_18 = some r → ∀ {w : World}, (Below w0.heap.size w0 w) → KE Tryd.prog 39 (Ret (fun v w' => v = .tuple #[.int .u64 r.1, .int .i64 r.2] ∧ Below w0.heap.size w0 w')) 38 [.inLoop (sub (bodyOf Tryd.f39) [2, 2, 2, 1, 2, 2, 1, 2, 2, 1, 2, 2, 2, 1, 2, 2, 1]), .inBlock 2, .code (sub (bodyOf Tryd.f39) [2, 2, 2, 1, 2, 2, 1, 2, 2, 1, 2, 2, 2, 2]), .inBlock 1, .code (sub (bodyOf Tryd.f39) [2, 2, 2, 1, 2, 2, 1, 2, 2, 2]), .inLoop (sub (bodyOf Tryd.f39) [2, 2, 2, 1, 2, 2, 1]), .inBlock 0, .code (sub (bodyOf Tryd.f39) [2, 2, 2, 2])] [(0, str s_0), (4, .int .u64 n_4), (5, .int .i64 i_5), (6, .int .i64 v_6), (13, .int .i64 t_13), (14, .int .i64 t_14), (17, arrV .u8 tab_digest_digits), (18, .int .i64 t_18)] w := fun {r} {s_0} {n_4} {i_5} {v_6} {t_13} {t_14} {t_18} hS {w} hb => ke_inLoop (ih hS hb)
  clear ih
  intro r s_0 n_4 i_5 v_6 t_13 t_14 t_18 hS w hb
  unfold digest_ReadHex_L2 at hS
  refine ke_seq ?_
  refine ke_region ?_
  refine sr_ev (v := .bool (decide (t_18 < 16))) (ev_lt rfl rfl) (by decide) ?_
  refine sr_end (l' := [(0, str s_0), (4, .int .u64 n_4), (5, .int .i64 i_5), (6, .int .i64 v_6), (13, .int .i64 t_13), (14, .int .i64 t_14), (17, arrV .u8 tab_digest_digits), (18, .int .i64 t_18), (19, .bool (decide (t_18 < 16)))]) (.cons rfl (.cons rfl (.cons rfl (.cons rfl (.cons rfl (.cons rfl (.cons rfl (.cons rfl (.cons rfl (.nil _)))))))))) ?_
  refine ke_seq ?_
  refine ke_cond (t := decide (t_18 < 16)) rfl (fun hc3 => ?_) (fun hc3 => ?_)
  ·replace hS := ite_true' hS hc3
   refine ke_skip ?_
   refine ke_seq ?_
   refine ke_block ?_
   refine ke_seq ?_
   refine ke_region ?_
   refine sr_ev (v := .int .i64 t_18) (ev_move rfl) (by decide) ?_
   obtain ⟨y4, hy5, hS⟩ := bind_some' hS
   refine sr_ev (v := .int .u8 y4) (ev_avindex Tryd.underlying83 Tryd.sizeOf5 Tryd.isAgg5 rfl rfl rfl hy5) (by decide) ?_
   refine sr_ev (v := .int .i64 t_18) (ev_assign rfl) (by decide) ?_
   refine sr_ev (v := .int .u8 y4) (ev_assign rfl) (by decide) ?_
   refine sr_end (l' := [(0, str s_0), (4, .int .u64 n_4), (5, .int .i64 i_5), (6, .int .i64 v_6), (7, .int .i64 t_18), (8, .int .u8 y4), (13, .int .i64 t_13), (14, .int .i64 t_14), (17, arrV .u8 tab_digest_digits), (18, .int .i64 t_18)]) (.cons rfl (.cons rfl (.cons rfl (.cons rfl (.cons rfl (.cons rfl (.cons rfl (.cons rfl (.cons rfl (.cons rfl (.nil _))))))))))) ?_
   refine ke_seq ?_
   refine ke_region ?_
   refine sr_ev (v := .int .u8 y4) (ev_move rfl) (by decide) ?_
   refine sr_ev (v := str s_0) (ev_move rfl) (by decide) ?_
   refine sr_ev (v := .int .i64 i_5) (ev_move rfl) (by decide) ?_
   obtain ⟨hk6, hS⟩ := chk_some hS
   refine sr_ev (v := .int .u8 (byteAt s_0 i_5)) (ev_sindex Tryd.underlying9 rfl rfl hk6) (by decide) ?_
   refine sr_ev (v := .bool (y4 == (byteAt s_0 i_5))) (ev_eq rfl rfl) (by decide) ?_
   refine sr_end (l' := [(0, str s_0), (4, .int .u64 n_4), (5, .int .i64 i_5), (6, .int .i64 v_6), (7, .int .i64 t_18), (13, .int .i64 t_13), (14, .int .i64 t_14), (17, arrV .u8 tab_digest_digits), (18, .int .i64 t_18), (26, .bool (y4 == (byteAt s_0 i_5)))]) (.cons rfl (.cons rfl (.cons rfl (.cons rfl (.cons rfl (.cons rfl (.cons rfl (.cons rfl (.cons rfl (.cons rfl (.nil _))))))))))) ?_
   refine ke_cond (t := y4 == (byteAt s_0 i_5)) rfl (fun hc7 => ?_) (fun hc7 => ?_)
   ·replace hS := ite_true' hS hc7
    refine ke_region ?_
    refine sr_ev (v := .int .i64 t_18) (ev_move rfl) (by decide) ?_
    refine sr_ev (v := .int .i64 t_18) (ev_assign rfl) (by decide) ?_
    refine sr_end (l' := [(0, str s_0), (4, .int .u64 n_4), (5, .int .i64 i_5), (6, .int .i64 t_18), (13, .int .i64 t_13), (14, .int .i64 t_14), (17, arrV .u8 tab_digest_digits), (18, .int .i64 t_18)]) (.cons rfl (.cons rfl (.cons rfl (.cons rfl (.cons rfl (.cons rfl (.cons rfl (.cons rfl (.nil _))))))))) ?_
    have hK := digest_ReadHex_B3_ok hg _ _ hr0 hr1 hS hb
    exact ke_weaken (l' := [(0, str s_0), (4, .int .u64 n_4), (5, .int .i64 i_5), (6, .int .i64 t_18), (13, .int .i64 t_13), (14, .int .i64 t_14), (17, arrV .u8 tab_digest_digits), (18, .int .i64 t_18)]) (.cons rfl (.cons rfl (.cons rfl (.cons rfl (.cons rfl (.cons rfl (.cons rfl (.cons rfl (.nil _))))))))) hK
   ·replace hS := ite_false' hS hc7
    refine ke_skip ?_
    have hK := digest_ReadHex_B3_ok hg _ _ hr0 hr1 hS hb
    exact ke_weaken (l' := [(0, str s_0), (4, .int .u64 n_4), (5, .int .i64 i_5), (6, .int .i64 v_6), (13, .int .i64 t_13), (14, .int .i64 t_14), (17, arrV .u8 tab_digest_digits), (18, .int .i64 t_18)]) (.cons rfl (.cons rfl (.cons rfl (.cons rfl (.cons rfl (.cons rfl (.cons rfl (.cons rfl (.nil _))))))))) hK
  ·replace hS := ite_false' hS hc3
   refine ke_exit (k' := _) rfl ?_
   refine ke_seq ?_
   refine ke_seq ?_
   refine ke_region ?_
   refine sr_ev (v := .int .i64 v_6) (ev_move rfl) (by decide) ?_
   refine sr_ev (v := .bool (decide (v_6 < 0))) (ev_lt rfl rfl) (by decide) ?_
   refine sr_end (l' := [(0, str s_0), (4, .int .u64 n_4), (6, .int .i64 v_6), (13, .int .i64 t_13), (14, .int .i64 t_14), (30, .bool (decide (v_6 < 0)))]) (.cons rfl (.cons rfl (.cons rfl (.cons rfl (.cons rfl (.cons rfl (.nil _))))))) ?_
   refine ke_cond (t := decide (v_6 < 0)) rfl (fun hc8 => ?_) (fun hc8 => ?_)
   ·replace hS := ite_true' hS hc8
    refine ke_seq ?_
    refine ke_region ?_
    refine sr_ev (v := .int .u64 0) (ev_assign rfl) (by decide) ?_
    refine sr_ev (v := .int .i64 4) (ev_assign rfl) (by decide) ?_
    refine sr_end (l' := [(2, .int .u64 0), (3, .int .i64 4)]) (.cons rfl (.cons rfl (.nil _))) ?_
    cases hS
    exact ke_ret2 Tryd.func39 rfl rfl rfl ⟨_, rfl, rfl, hb⟩
   ·replace hS := ite_false' hS hc8
    refine ke_skip ?_
    refine ke_region ?_
    refine sr_ev (v := .int .u64 n_4) (ev_move rfl) (by decide) ?_
    refine sr_ev (v := .int .u64 (bShl .u64 n_4 4)) (ev_shl rfl rfl (by decide)) (by decide) ?_
    refine sr_ev (v := .int .i64 v_6) (ev_move rfl) (by decide) ?_
    refine sr_ev (v := .int .u64 (IntKind.u64.wrap v_6)) (ev_conv Tryd.underlying57 Tryd.underlying3 rfl) (by decide) ?_
    refine sr_ev (v := .int .u64 (bOr .u64 (bShl .u64 n_4 4) (IntKind.u64.wrap v_6))) (ev_or rfl rfl) (by decide) ?_
    refine sr_ev (v := .int .u64 (bOr .u64 (bShl .u64 n_4 4) (IntKind.u64.wrap v_6))) (ev_assign rfl) (by decide) ?_
    refine sr_end (l' := [(0, str s_0), (4, .int .u64 (bOr .u64 (bShl .u64 n_4 4) (IntKind.u64.wrap v_6))), (13, .int .i64 t_13), (14, .int .i64 t_14)]) (.cons rfl (.cons rfl (.cons rfl (.cons rfl (.nil _))))) ?_
    refine ke_inBlock ?_
    refine ke_region ?_
    refine sr_ev (v := .int .i64 (IntKind.i64.wrap (t_14 + 1))) (ev_add rfl rfl) (by decide) ?_
    refine sr_ev (v := .int .i64 (IntKind.i64.wrap (t_14 + 1))) (ev_move rfl) (by decide) ?_
    refine sr_end (l' := [(0, str s_0), (4, .int .u64 (bOr .u64 (bShl .u64 n_4 4) (IntKind.u64.wrap v_6))), (13, .int .i64 t_13), (14, .int .i64 (IntKind.i64.wrap (t_14 + 1)))]) (.cons rfl (.cons rfl (.cons rfl (.cons rfl (.nil _))))) ?_
    have hK := hr0 hS hb
    exact ke_weaken (l' := [(0, str s_0), (4, .int .u64 (bOr .u64 (bShl .u64 n_4 4) (IntKind.u64.wrap v_6))), (13, .int .i64 t_13), (14, .int .i64 (IntKind.i64.wrap (t_14 + 1)))]) (.cons rfl (.cons rfl (.cons rfl (.cons rfl (.nil _))))) hK
theorem digest_ReadHex_L1_ok {w0 : World} (hg : Gs w0) : ∀ (n : Nat), ∀ {r : Int × Int} {s_0 : Str} {n_4 : Int} {t_13 : Int} {t_14 : Int}, digest_ReadHex_L1 n s_0 n_4 t_13 t_14 = some r → ∀ {w : World}, (Below w0.heap.size w0 w) → KE Tryd.prog 39 (Ret (fun v w' => v = .tuple #[.int .u64 r.1, .int .i64 r.2] ∧ Below w0.heap.size w0 w')) 38 [.code (sub (bodyOf Tryd.f39) [2, 2, 2, 1, 2, 2, 1]), .inLoop (sub (bodyOf Tryd.f39) [2, 2, 2, 1, 2, 2, 1]), .inBlock 0, .code (sub (bodyOf Tryd.f39) [2, 2, 2, 2])] [(0, str s_0), (4, .int .u64 n_4), (13, .int .i64 t_13), (14, .int .i64 t_14)] w := by
 intro n
 induction n with
 | zero => intro r s_0 n_4 t_13 t_14 hS; cases hS
 | succ n ih =>
  have hr0 : ∀ {r : Int × Int} {s_0 : Str} {n_4 : Int} {t_13 : Int} {t_14 : Int}, digest_ReadHex_L1 n s_0 n_4 t_13 t_14 = some r → ∀ {w : World}, (Below w0.heap.size w0 w) → KE Tryd.prog 39 (Ret (fun v w' => v = .tuple #[.int .u64 r.1, .int .i64 r.2] ∧ Below w0.heap.size w0 w')) 38 [.inLoop (sub (bodyOf Tryd.f39) [2, 2, 2, 1, 2, 2, 1]), .inBlock 0, .code (sub (bodyOf Tryd.f39) [2, 2, 2, 2])] [(0, str s_0), (4, .int .u64 n_4), (13, .int .i64 t_13), (14, .int .i64 t_14)] w := fun {r} {s_0} {n_4} {t_13} {t_14} hS {w} hb => ke_inLoop (ih hS hb)
  clear ih
  intro r s_0 n_4 t_13 t_14 hS w hb
  unfold digest_ReadHex_L1 at hS
  refine ke_seq ?_
  refine ke_region ?_
  refine sr_ev (v := .bool (decide (t_14 < t_13))) (ev_lt rfl rfl) (by decide) ?_
  refine sr_end (l' := [(0, str s_0), (4, .int .u64 n_4), (13, .int .i64 t_13), (14, .int .i64 t_14), (15, .bool (decide (t_14 < t_13)))]) (.cons rfl (.cons rfl (.cons rfl (.cons rfl (.cons rfl (.nil _)))))) ?_
  refine ke_seq ?_
  refine ke_cond (t := decide (t_14 < t_13)) rfl (fun hc2 => ?_) (fun hc2 => ?_)
  ·replace hS := ite_true' hS hc2
   refine ke_skip ?_
   refine ke_seq ?_
   refine ke_block ?_
   refine ke_seq ?_
   refine ke_region ?_
   refine sr_ev (v := .int .i64 t_14) (ev_move rfl) (by decide) ?_
   refine sr_ev (v := .int .i64 t_14) (ev_assign rfl) (by decide) ?_
   refine sr_end (l' := [(0, str s_0), (4, .int .u64 n_4), (5, .int .i64 t_14), (13, .int .i64 t_13), (14, .int .i64 t_14)]) (.cons rfl (.cons rfl (.cons rfl (.cons rfl (.cons rfl (.nil _)))))) ?_
   refine ke_seq ?_
   refine ke_region ?_
   refine sr_ev (v := .int .i64 (-1)) (ev_assign rfl) (by decide) ?_
   refine sr_end (l' := [(0, str s_0), (4, .int .u64 n_4), (5, .int .i64 t_14), (6, .int .i64 (-1)), (13, .int .i64 t_13), (14, .int .i64 t_14)]) (.cons rfl (.cons rfl (.cons rfl (.cons rfl (.cons rfl (.cons rfl (.nil _))))))) ?_
   refine ke_seq ?_
   refine ke_seq ?_
   refine ke_region ?_
   refine sr_ev (v := arrV .u8 tab_digest_digits) (ev_globload Tryd.isAgg83 Tryd.sizeOf83 (fun i x hx => (hg.below hb).tab0 hx)) (by decide) ?_
   refine sr_ev (v := .int .i64 0) (ev_move rfl) (by decide) ?_
   refine sr_end (l' := [(0, str s_0), (4, .int .u64 n_4), (5, .int .i64 t_14), (6, .int .i64 (-1)), (13, .int .i64 t_13), (14, .int .i64 t_14), (17, arrV .u8 tab_digest_digits), (18, .int .i64 0)]) (.cons rfl (.cons rfl (.cons rfl (.cons rfl (.cons rfl (.cons rfl (.cons rfl (.cons rfl (.nil _))))))))) ?_
   refine ke_block ?_
   have hK := digest_ReadHex_L2_ok hg _ hr0 _ hS hb
   exact ke_weaken (l' := [(0, str s_0), (4, .int .u64 n_4), (5, .int .i64 t_14), (6, .int .i64 (-1)), (13, .int .i64 t_13), (14, .int .i64 t_14), (17, arrV .u8 tab_digest_digits), (18, .int .i64 0)]) (.cons rfl (.cons rfl (.cons rfl (.cons rfl (.cons rfl (.cons rfl (.cons rfl (.cons rfl (.nil _))))))))) (ke_loop hK)
  ·replace hS := ite_false' hS hc2
   refine ke_exit (k' := _) rfl ?_
   refine ke_seq ?_
   refine ke_region ?_
   refine sr_ev (v := .int .u64 n_4) (ev_move rfl) (by decide) ?_
   refine sr_ev (v := .int .u64 n_4) (ev_assign rfl) (by decide) ?_
   refine sr_ev (v := .int .i64 0) (ev_assign rfl) (by decide) ?_
   refine sr_end (l' := [(2, .int .u64 n_4), (3, .int .i64 0)]) (.cons rfl (.cons rfl (.nil _))) ?_
   cases hS
   exact ke_ret2 Tryd.func39 rfl rfl rfl ⟨_, rfl, rfl, hb⟩
theorem digest_ReadHex_ok (w0 : World) (hg : Gs w0) {s_0 : Str} {r : Int × Int} (hS : digest_ReadHex s_0 = some r) :
  Calls Tryd.prog 39 #[str s_0] w0 (Ret (fun v w' => v = .tuple #[.int .u64 r.1, .int .i64 r.2] ∧ Below w0.heap.size w0 w')) := by
 unfold digest_ReadHex at hS
 have hb := Below.refl w0.heap.size w0
 refine calls_of_ke Tryd.func39 rfl (n := 38) rfl rfl (l := [(0, str s_0)]) rfl ?_
 refine ke_seq ?_
 refine ke_region ?_
 refine sr_ev (v := .int .u64 0) (ev_assign rfl) (by decide) ?_
 refine sr_ev (v := .int .i64 0) (ev_assign rfl) (by decide) ?_
 refine sr_end (l' := [(0, str s_0)]) (.cons rfl (.nil _)) ?_
 refine ke_seq ?_
 refine ke_seq ?_
 refine ke_region ?_
 refine sr_ev (v := str s_0) (ev_move rfl) (by decide) ?_
 refine sr_ev (v := .int .i64 (s_0.length : Int)) (ev_slen Tryd.underlying9 rfl) (by decide) ?_
 refine sr_ev (v := .bool ((s_0.length : Int) != 16)) (ev_ne rfl rfl) (by decide) ?_
 refine sr_end (l' := [(0, str s_0), (11, .bool ((s_0.length : Int) != 16))]) (.cons rfl (.cons rfl (.nil _))) ?_
 refine ke_cond (t := (s_0.length : Int) != 16) rfl (fun hc1 => ?_) (fun hc1 => ?_)
 ·replace hS := ite_true' hS hc1
  refine ke_seq ?_
  refine ke_region ?_
  refine sr_ev (v := .int .u64 0) (ev_assign rfl) (by decide) ?_
  refine sr_ev (v := .int .i64 4) (ev_assign rfl) (by decide) ?_
  refine sr_end (l' := [(2, .int .u64 0), (3, .int .i64 4)]) (.cons rfl (.cons rfl (.nil _))) ?_
  cases hS
  exact ke_ret2 Tryd.func39 rfl rfl rfl ⟨_, rfl, rfl, hb⟩
 ·replace hS := ite_false' hS hc1
  refine ke_skip ?_
  refine ke_seq ?_
  refine ke_region ?_
  refine sr_ev (v := .int .u64 0) (ev_assign rfl) (by decide) ?_
  refine sr_end (l' := [(0, str s_0), (4, .int .u64 0)]) (.cons rfl (.cons rfl (.nil _))) ?_
  refine ke_seq ?_
  refine ke_seq ?_
  refine ke_region ?_
  refine sr_ev (v := str s_0) (ev_move rfl) (by decide) ?_
  refine sr_ev (v := .int .i64 (s_0.length : Int)) (ev_slen Tryd.underlying9 rfl) (by decide) ?_
  refine sr_ev (v := .int .i64 0) (ev_move rfl) (by decide) ?_
  refine sr_end (l' := [(0, str s_0), (4, .int .u64 0), (13, .int .i64 (s_0.length : Int)), (14, .int .i64 0)]) (.cons rfl (.cons rfl (.cons rfl (.cons rfl (.nil _))))) ?_
  refine ke_block ?_
  have hK := digest_ReadHex_L1_ok hg _ hS hb
  exact ke_weaken (l' := [(0, str s_0), (4, .int .u64 0), (13, .int .i64 (s_0.length : Int)), (14, .int .i64 0)]) (.cons rfl (.cons rfl (.cons rfl (.cons rfl (.nil _))))) (ke_loop hK)
theorem secret_Valid_ok (w0 : World) (hg : Gs w0) {v_0 : api_Verifier} {r : Bool} (hS : secret_Valid v_0 = some r) :
  Calls Tryd.prog 12 #[.agg #[str v_0.Salt, .int .i64 v_0.Rounds, str v_0.Hash]] w0 (Ret (fun v w' => v = .bool r ∧ Below w0.heap.size w0 w')) := by
 unfold secret_Valid at hS
 have hb := Below.refl w0.heap.size w0
 obtain ⟨A0, hA0, hAe⟩ : ∃ A0 : Nat → Prop, (∀ b, A0 b → b < w0.heap.size) ∧ A0 = fun _ => False := ⟨_, fun _ h => h.elim, rfl⟩
 clear hAe
 have hA := hA0
 have hi : ∀ b, A0 b → A0 b := fun _ h => h
 have hH := Hp.nil A0 w0.heap.size w0
 refine calls_of_ke Tryd.func12 rfl (n := 28) rfl rfl (l := [(0, .agg #[str v_0.Salt, .int .i64 v_0.Rounds, str v_0.Hash])]) rfl ?_
 refine ke_seq ?_
 refine ke_region ?_
 refine sr_box hH hb.size hA rfl (by decide) ?_
 intro g1 A2 w3 hH1 hst4 hbw5 hinc6 hA1 hge7
 replace hb := hb.trans (hbw5.mono hb.size)
 replace hi := fun b hb => hinc6 b (hi b hb)
 replace hH : Hp A2 w0.heap.size w3 [(g1, .cells #[str v_0.Salt, .int .i64 v_0.Rounds, str v_0.Hash] 25 (0, 0))] := hH1
 replace hA := hA1
 clear hH1 hA1
 refine sr_ev (v := .bool false) (ev_assign rfl) (by decide) ?_
 refine sr_end (l' := [(1, .pointer (some ⟨g1, 0, none⟩))]) (.cons rfl (.nil _)) ?_
 refine ke_seq ?_
 refine ke_region ?_
 refine sr_ev (v := .pointer (some ⟨g1, 2, none⟩)) (ev_fieldAddr (i := 2) Tryd.underlying25 rfl Tryd.info9 rfl rfl) (by decide) ?_
 refine sr_ev (v := str v_0.Hash) (ev_load Tryd.isAgg9 rfl (hH.cell (i := 0) rfl rfl)) (by decide) ?_
 obtain ⟨y8, hy9, hS⟩ := bind_some' hS
 refine sr_call (vs := [str v_0.Hash]) rfl Tryd.call39 rfl (digest_ReadHex_ok _ (hg.below hb) hy9) (by decide) ?_
 rintro _ w10 ⟨rfl, hbw11⟩
 replace hb := hb.trans (hbw11.mono hb.size)
 replace hA := lt_mono hA hbw11.size
 replace hH := hH.below hbw11
 refine sr_ev (v := .tuple #[.int .u64 y8.1, .int .i64 y8.2]) (ev_move rfl) (by decide) ?_
 refine sr_ev (v := .int .u64 y8.1) (ev_extract rfl rfl) (by decide) ?_
 refine sr_ev (v := .int .i64 y8.2) (ev_extract rfl rfl) (by decide) ?_
 refine sr_ev (v := .int .u64 y8.1) (ev_assign rfl) (by decide) ?_
 refine sr_ev (v := .int .i64 y8.2) (ev_assign rfl) (by decide) ?_
 refine sr_end (l' := [(1, .pointer (some ⟨g1, 0, none⟩)), (4, .int .i64 y8.2)]) (.cons rfl (.cons rfl (.nil _))) ?_
 refine ke_seq ?_
 refine ke_region ?_
 refine sr_ev (v := .pointer (some ⟨g1, 0, none⟩)) (ev_fieldAddr (i := 0) Tryd.underlying25 rfl Tryd.info9 rfl rfl) (by decide) ?_
 refine sr_ev (v := str v_0.Salt) (ev_load Tryd.isAgg9 rfl (hH.cell (i := 0) rfl rfl)) (by decide) ?_
 obtain ⟨y12, hy13, hS⟩ := bind_some' hS
 refine sr_call (vs := [str v_0.Salt]) rfl Tryd.call34 rfl (fold_Word_ok _ (hg.below hb) hy13) (by decide) ?_
 rintro _ w14 ⟨rfl, hbw15⟩
 replace hb := hb.trans (hbw15.mono hb.size)
 replace hA := lt_mono hA hbw15.size
 replace hH := hH.below hbw15
 refine sr_ev (v := .bool y12) (ev_move rfl) (by decide) ?_
 refine sr_join (m := 4) (C := fun (x : Bool) w1 => x = (y12 && (decide (v_0.Rounds ≥ 1))) ∧ w14 = w1) (l' := fun x => [(1, .pointer (some ⟨g1, 0, none⟩)), (4, .int .i64 y8.2), (18, .bool x)]) ?_ ?_
 ·rintro _ _ ⟨rfl, rfl⟩
  refine sr_ev (v := .bool (y12 && (decide (v_0.Rounds ≥ 1)))) (ev_move rfl) (by decide) ?_
  refine sr_join (m := 4) (C := fun (x : Bool) w1 => x = ((y12 && (decide (v_0.Rounds ≥ 1))) && (decide (v_0.Rounds ≤ 64))) ∧ w14 = w1) (l' := fun x => [(4, .int .i64 y8.2), (23, .bool x)]) ?_ ?_
  ·rintro _ _ ⟨rfl, rfl⟩
   refine sr_ev (v := .bool ((y12 && (decide (v_0.Rounds ≥ 1))) && (decide (v_0.Rounds ≤ 64)))) (ev_move rfl) (by decide) ?_
   refine sr_join (m := 3) (C := fun (x : Bool) w1 => x = (((y12 && (decide (v_0.Rounds ≥ 1))) && (decide (v_0.Rounds ≤ 64))) && (y8.2 == 0)) ∧ w14 = w1) (l' := fun x => [(27, .bool x)]) ?_ ?_
   ·rintro _ _ ⟨rfl, rfl⟩
    refine sr_ev (v := .bool (((y12 && (decide (v_0.Rounds ≥ 1))) && (decide (v_0.Rounds ≤ 64))) && (y8.2 == 0))) (ev_assign rfl) (by decide) ?_
    refine sr_end (l' := [(2, .bool (((y12 && (decide (v_0.Rounds ≥ 1))) && (decide (v_0.Rounds ≤ 64))) && (y8.2 == 0)))]) (.cons rfl (.nil _)) ?_
    cases hS
    exact ke_ret1 Tryd.func12 rfl rfl ⟨_, rfl, rfl, hb⟩
   ·intro K31
    rcases Bool.eq_false_or_eq_true ((y12 && (decide (v_0.Rounds ≥ 1))) && (decide (v_0.Rounds ≤ 64))) with hg30 | hg30
    ·refine sr_evg (b := true) (e := 24) rfl rfl hg30 (v := .int .i64 y8.2) (ev_move rfl) (by decide) ?_
     refine sr_evg (b := true) (e := 24) rfl rfl hg30 (v := .bool (y8.2 == 0)) (ev_eq rfl rfl) (by decide) ?_
     refine sr_ev (v := .bool (y8.2 == 0)) (ev_pick_t rfl hg30 rfl) (by decide) ?_
     exact sr_weaken (l' := [(27, .bool (y8.2 == 0))]) (.cons rfl (.nil _)) (K31 (y8.2 == 0) _ ⟨by rw [hg30]; rfl, rfl⟩)
    ·refine sr_pass (e := 24) rfl rfl (by rw [hg30]; rfl) (by decide) ?_
     refine sr_pass (e := 24) rfl rfl (by rw [hg30]; rfl) (by decide) ?_
     refine sr_ev (v := .bool false) (ev_pick_f rfl hg30 rfl) (by decide) ?_
     exact sr_weaken (l' := [(27, .bool false)]) (.cons rfl (.nil _)) (K31 false _ ⟨by rw [hg30]; rfl, rfl⟩)
  ·intro K24
   rcases Bool.eq_false_or_eq_true (y12 && (decide (v_0.Rounds ≥ 1))) with hg23 | hg23
   ·refine sr_evg (b := true) (e := 19) rfl rfl hg23 (v := .pointer (some ⟨g1, 1, none⟩)) (ev_fieldAddr (i := 1) Tryd.underlying25 rfl Tryd.info3 rfl rfl) (by decide) ?_
    refine sr_evg (b := true) (e := 19) rfl rfl hg23 (v := .int .i64 v_0.Rounds) (ev_load Tryd.isAgg3 rfl (hH.cell (i := 0) rfl rfl)) (by decide) ?_
    refine sr_evg (b := true) (e := 19) rfl rfl hg23 (v := .bool (decide (v_0.Rounds ≤ 64))) (ev_le rfl rfl) (by decide) ?_
    refine sr_ev (v := .bool (decide (v_0.Rounds ≤ 64))) (ev_pick_t rfl hg23 rfl) (by decide) ?_
    exact sr_weaken (l' := [(4, .int .i64 y8.2), (23, .bool (decide (v_0.Rounds ≤ 64)))]) (.cons rfl (.cons rfl (.nil _))) (K24 (decide (v_0.Rounds ≤ 64)) _ ⟨by rw [hg23]; rfl, rfl⟩)
   ·refine sr_pass (e := 19) rfl rfl (by rw [hg23]; rfl) (by decide) ?_
    refine sr_pass (e := 19) rfl rfl (by rw [hg23]; rfl) (by decide) ?_
    refine sr_pass (e := 19) rfl rfl (by rw [hg23]; rfl) (by decide) ?_
    refine sr_ev (v := .bool false) (ev_pick_f rfl hg23 rfl) (by decide) ?_
    exact sr_weaken (l' := [(4, .int .i64 y8.2), (23, .bool false)]) (.cons rfl (.cons rfl (.nil _))) (K24 false _ ⟨by rw [hg23]; rfl, rfl⟩)
 ·intro K17
  rcases Bool.eq_false_or_eq_true y12 with hg16 | hg16
  ·refine sr_evg (b := true) (e := 14) rfl rfl hg16 (v := .pointer (some ⟨g1, 1, none⟩)) (ev_fieldAddr (i := 1) Tryd.underlying25 rfl Tryd.info3 rfl rfl) (by decide) ?_
   refine sr_evg (b := true) (e := 14) rfl rfl hg16 (v := .int .i64 v_0.Rounds) (ev_load Tryd.isAgg3 rfl (hH.cell (i := 0) rfl rfl)) (by decide) ?_
   refine sr_evg (b := true) (e := 14) rfl rfl hg16 (v := .bool (decide (v_0.Rounds ≥ 1))) (ev_ge rfl rfl) (by decide) ?_
   refine sr_ev (v := .bool (decide (v_0.Rounds ≥ 1))) (ev_pick_t rfl hg16 rfl) (by decide) ?_
   exact sr_weaken (l' := [(1, .pointer (some ⟨g1, 0, none⟩)), (4, .int .i64 y8.2), (18, .bool (decide (v_0.Rounds ≥ 1)))]) (.cons rfl (.cons rfl (.cons rfl (.nil _)))) (K17 (decide (v_0.Rounds ≥ 1)) _ ⟨by rw [hg16]; rfl, rfl⟩)
  ·refine sr_pass (e := 14) rfl rfl (by rw [hg16]; rfl) (by decide) ?_
   refine sr_pass (e := 14) rfl rfl (by rw [hg16]; rfl) (by decide) ?_
   refine sr_pass (e := 14) rfl rfl (by rw [hg16]; rfl) (by decide) ?_
   refine sr_ev (v := .bool false) (ev_pick_f rfl hg16 rfl) (by decide) ?_
   exact sr_weaken (l' := [(1, .pointer (some ⟨g1, 0, none⟩)), (4, .int .i64 y8.2), (18, .bool false)]) (.cons rfl (.cons rfl (.cons rfl (.nil _)))) (K17 false _ ⟨by rw [hg16]; rfl, rfl⟩)
theorem secret_Check_ok (w0 : World) (hg : Gs w0) {v_0 : api_Verifier} {password_1 : Str} {r : Bool} (hS : secret_Check v_0 password_1 = some r) :
  Calls Tryd.prog 14 #[.agg #[str v_0.Salt, .int .i64 v_0.Rounds, str v_0.Hash], str password_1] w0 (Ret (fun v w' => v = .bool r ∧ Below w0.heap.size w0 w')) := by
 unfold secret_Check at hS
 have hb := Below.refl w0.heap.size w0
 obtain ⟨A0, hA0, hAe⟩ : ∃ A0 : Nat → Prop, (∀ b, A0 b → b < w0.heap.size) ∧ A0 = fun _ => False := ⟨_, fun _ h => h.elim, rfl⟩
 clear hAe
 have hA := hA0
 have hi : ∀ b, A0 b → A0 b := fun _ h => h
 have hH := Hp.nil A0 w0.heap.size w0
 refine calls_of_ke Tryd.func14 rfl (n := 22) rfl rfl (l := [(0, .agg #[str v_0.Salt, .int .i64 v_0.Rounds, str v_0.Hash]), (1, str password_1)]) rfl ?_
 refine ke_seq ?_
 refine ke_region ?_
 refine sr_box hH hb.size hA rfl (by decide) ?_
 intro g1 A2 w3 hH1 hst4 hbw5 hinc6 hA1 hge7
 replace hb := hb.trans (hbw5.mono hb.size)
 replace hi := fun b hb => hinc6 b (hi b hb)
 replace hH : Hp A2 w0.heap.size w3 [(g1, .cells #[str v_0.Salt, .int .i64 v_0.Rounds, str v_0.Hash] 25 (0, 0))] := hH1
 replace hA := hA1
 clear hH1 hA1
 refine sr_ev (v := .bool false) (ev_assign rfl) (by decide) ?_
 refine sr_end (l' := [(1, str password_1), (2, .pointer (some ⟨g1, 0, none⟩))]) (.cons rfl (.cons rfl (.nil _))) ?_
 refine ke_seq ?_
 refine ke_region_q Tryd.mixed (by kernel_rfl) ?_
 refine sq_ev (v := .agg #[str v_0.Salt, .int .i64 v_0.Rounds, str v_0.Hash]) (fun w1 hw1 => ev_loads Tryd.isAgg25 Tryd.sizeOf25 rfl ((hH.below hw1).cells (i := 0) (vs := [str v_0.Salt, .int .i64 v_0.Rounds, str v_0.Hash]) rfl rfl)) (by decide) ?_
 obtain ⟨y10, hy11, hS⟩ := bind_some' hS
 refine sq_call (v := .bool y10) (vs := [.agg #[str v_0.Salt, .int .i64 v_0.Rounds, str v_0.Hash]]) rfl Tryd.call12 rfl (fun w1 hw1 => (secret_Valid_ok _ (hg.below (hb.trans (hw1.mono hb.size))) hy11)) (by decide) ?_
 refine sq_ev (v := .bool y10) (fun w1 hw1 => ev_move rfl) (by decide) ?_
 obtain ⟨z16, hz18, hS⟩ := bind_some' hS
 refine sq_join (m := 3) (C := fun (x : Bool) => z16 = x) (l' := fun x => [(1, str password_1), (2, .pointer (some ⟨g1, 0, none⟩)), (10, .bool x)]) ?_ ?_
 ·rintro _ rfl
  refine sq_ev (v := .bool z16) (fun w1 hw1 => ev_move rfl) (by decide) ?_
  obtain ⟨z27, hz29, hS⟩ := bind_some' hS
  refine sq_join (m := 10) (C := fun (x : Bool) => z27 = x) (l' := fun x => [(21, .bool x)]) ?_ ?_
  ·rintro _ rfl
   refine sq_ev (v := .bool z27) (fun w1 hw1 => ev_assign rfl) (by decide) ?_
   refine sq_end (l' := [(4, .bool z27)]) (.cons rfl (.nil _)) (fun w9 hw8 => ?_)
   replace hb := hb.trans (hw8.mono hb.size)
   replace hA := lt_mono hA hw8.size
   replace hH := hH.below hw8
   cases hS
   exact ke_ret1 Tryd.func14 rfl rfl ⟨_, rfl, rfl, hb⟩
  ·intro K26
   clear hS
   rcases Bool.eq_false_or_eq_true z16 with hg25 | hg25
   ·have hS := ite_true' hz29 hg25
    refine sq_evg (b := true) (e := 11) rfl rfl hg25 (v := .pointer (some ⟨g1, 2, none⟩)) (fun w1 hw1 => ev_fieldAddr (i := 2) Tryd.underlying25 rfl Tryd.info9 rfl rfl) (by decide) ?_
    refine sq_evg (b := true) (e := 11) rfl rfl hg25 (v := str v_0.Hash) (fun w1 hw1 => ev_load Tryd.isAgg9 rfl ((hH.below hw1).cell (i := 0) rfl rfl)) (by decide) ?_
    refine sq_evg (b := true) (e := 11) rfl rfl hg25 (v := .pointer (some ⟨g1, 0, none⟩)) (fun w1 hw1 => ev_fieldAddr (i := 0) Tryd.underlying25 rfl Tryd.info9 rfl rfl) (by decide) ?_
    refine sq_evg (b := true) (e := 11) rfl rfl hg25 (v := str v_0.Salt) (fun w1 hw1 => ev_load Tryd.isAgg9 rfl ((hH.below hw1).cell (i := 0) rfl rfl)) (by decide) ?_
    refine sq_evg (b := true) (e := 11) rfl rfl hg25 (v := str password_1) (fun w1 hw1 => ev_move rfl) (by decide) ?_
    refine sq_evg (b := true) (e := 11) rfl rfl hg25 (v := .pointer (some ⟨g1, 1, none⟩)) (fun w1 hw1 => ev_fieldAddr (i := 1) Tryd.underlying25 rfl Tryd.info3 rfl rfl) (by decide) ?_
    refine sq_evg (b := true) (e := 11) rfl rfl hg25 (v := .int .i64 v_0.Rounds) (fun w1 hw1 => ev_load Tryd.isAgg3 rfl ((hH.below hw1).cell (i := 0) rfl rfl)) (by decide) ?_
    obtain ⟨y32, hy33, hS⟩ := bind_some' hS
    refine sq_callg (b := true) (e := 11) rfl rfl hg25 (v := str y32) (vs := [str v_0.Salt, str password_1, .int .i64 v_0.Rounds]) rfl Tryd.call33 rfl (fun w1 hw1 => (digest_Iterate_ok _ (hg.below (hb.trans (hw1.mono hb.size))) hy33)) (by decide) ?_
    refine sq_evg (b := true) (e := 11) rfl rfl hg25 (v := .bool (v_0.Hash == y32)) (fun w1 hw1 => ev_seq rfl rfl) (by decide) ?_
    refine sq_ev (v := .bool (v_0.Hash == y32)) (fun w1 hw1 => ev_pick_t rfl hg25 rfl) (by decide) ?_
    exact sq_weaken (l' := [(21, .bool (v_0.Hash == y32))]) (.cons rfl (.nil _)) (K26 (v_0.Hash == y32) (Option.some.inj hS).symm)
   ·have hS := ite_false' hz29 hg25
    refine sq_pass (e := 11) rfl rfl (by rw [hg25]; rfl) (by decide) ?_
    refine sq_pass (e := 11) rfl rfl (by rw [hg25]; rfl) (by decide) ?_
    refine sq_pass (e := 11) rfl rfl (by rw [hg25]; rfl) (by decide) ?_
    refine sq_pass (e := 11) rfl rfl (by rw [hg25]; rfl) (by decide) ?_
    refine sq_pass (e := 11) rfl rfl (by rw [hg25]; rfl) (by decide) ?_
    refine sq_pass (e := 11) rfl rfl (by rw [hg25]; rfl) (by decide) ?_
    refine sq_pass (e := 11) rfl rfl (by rw [hg25]; rfl) (by decide) ?_
    refine sq_pass (e := 11) rfl rfl (by rw [hg25]; rfl) (by decide) ?_
    refine sq_pass (e := 11) rfl rfl (by rw [hg25]; rfl) (by decide) ?_
    refine sq_ev (v := .bool false) (fun w1 hw1 => ev_pick_f rfl hg25 rfl) (by decide) ?_
    exact sq_weaken (l' := [(21, .bool false)]) (.cons rfl (.nil _)) (K26 false (Option.some.inj hS).symm)
 ·intro K15
  clear hS
  rcases Bool.eq_false_or_eq_true y10 with hg14 | hg14
  ·have hS := ite_true' hz18 hg14
   refine sq_evg (b := true) (e := 7) rfl rfl hg14 (v := str password_1) (fun w1 hw1 => ev_move rfl) (by decide) ?_
   obtain ⟨y21, hy22, hS⟩ := bind_some' hS
   refine sq_callg (b := true) (e := 7) rfl rfl hg14 (v := .bool y21) (vs := [str password_1]) rfl Tryd.call35 rfl (fun w1 hw1 => (secret_isPassword_ok _ (hg.below (hb.trans (hw1.mono hb.size))) hy22)) (by decide) ?_
   refine sq_ev (v := .bool y21) (fun w1 hw1 => ev_pick_t rfl hg14 rfl) (by decide) ?_
   exact sq_weaken (l' := [(1, str password_1), (2, .pointer (some ⟨g1, 0, none⟩)), (10, .bool y21)]) (.cons rfl (.cons rfl (.cons rfl (.nil _)))) (K15 y21 (Option.some.inj hS).symm)
  ·have hS := ite_false' hz18 hg14
   refine sq_pass (e := 7) rfl rfl (by rw [hg14]; rfl) (by decide) ?_
   refine sq_pass (e := 7) rfl rfl (by rw [hg14]; rfl) (by decide) ?_
   refine sq_ev (v := .bool false) (fun w1 hw1 => ev_pick_f rfl hg14 rfl) (by decide) ?_
   exact sq_weaken (l' := [(1, str password_1), (2, .pointer (some ⟨g1, 0, none⟩)), (10, .bool false)]) (.cons rfl (.cons rfl (.cons rfl (.nil _)))) (K15 false (Option.some.inj hS).symm)
theorem secret_class_ok (w0 : World) (hg : Gs w0) {c_0 : Int} {r : Int} (hS : secret_class c_0 = some r) :
  Calls Tryd.prog 41 #[.int .u8 c_0] w0 (Ret (fun v w' => v = .int .i64 r ∧ Below w0.heap.size w0 w')) := by
 unfold secret_class at hS
 have hb := Below.refl w0.heap.size w0
 refine calls_of_ke Tryd.func41 rfl (n := 24) rfl rfl (l := [(0, .int .u8 c_0)]) rfl ?_
 refine ke_seq ?_
 refine ke_region ?_
 refine sr_ev (v := .int .i64 0) (ev_assign rfl) (by decide) ?_
 refine sr_end (l' := [(0, .int .u8 c_0)]) (.cons rfl (.nil _)) ?_
 refine ke_seq ?_
 refine ke_block ?_
 refine ke_seq ?_
 refine ke_region ?_
 refine sr_ev (v := .int .u8 c_0) (ev_move rfl) (by decide) ?_
 refine sr_ev (v := .bool (decide (c_0 ≥ 97))) (ev_ge rfl rfl) (by decide) ?_
 refine sr_ev (v := .bool (decide (c_0 ≥ 97))) (ev_move rfl) (by decide) ?_
 refine sr_join (m := 3) (C := fun (x : Bool) w1 => x = ((decide (c_0 ≥ 97)) && (decide (c_0 ≤ 122))) ∧ w0 = w1) (l' := fun x => [(0, .int .u8 c_0), (9, .bool x)]) ?_ ?_
 ·rintro _ _ ⟨rfl, rfl⟩
  refine sr_ev (v := .bool ((decide (c_0 ≥ 97)) && (decide (c_0 ≤ 122)))) (ev_assign rfl) (by decide) ?_
  refine sr_end (l' := [(0, .int .u8 c_0), (3, .bool ((decide (c_0 ≥ 97)) && (decide (c_0 ≤ 122))))]) (.cons rfl (.cons rfl (.nil _))) ?_
  refine ke_cond (t := (decide (c_0 ≥ 97)) && (decide (c_0 ≤ 122))) rfl (fun hc8 => ?_) (fun hc8 => ?_)
  ·replace hS := ite_true' hS hc8
   refine ke_seq ?_
   refine ke_region ?_
   refine sr_ev (v := .int .i64 0) (ev_assign rfl) (by decide) ?_
   refine sr_end (l' := [(2, .int .i64 0)]) (.cons rfl (.nil _)) ?_
   cases hS
   exact ke_ret1 Tryd.func41 rfl rfl ⟨_, rfl, rfl, hb⟩
  ·replace hS := ite_false' hS hc8
   refine ke_seq ?_
   refine ke_region ?_
   refine sr_ev (v := .int .u8 c_0) (ev_move rfl) (by decide) ?_
   refine sr_ev (v := .bool (decide (c_0 ≥ 65))) (ev_ge rfl rfl) (by decide) ?_
   refine sr_ev (v := .bool (decide (c_0 ≥ 65))) (ev_move rfl) (by decide) ?_
   refine sr_join (m := 3) (C := fun (x : Bool) w1 => x = ((decide (c_0 ≥ 65)) && (decide (c_0 ≤ 90))) ∧ w0 = w1) (l' := fun x => [(0, .int .u8 c_0), (16, .bool x)]) ?_ ?_
   ·rintro _ _ ⟨rfl, rfl⟩
    refine sr_ev (v := .bool ((decide (c_0 ≥ 65)) && (decide (c_0 ≤ 90)))) (ev_assign rfl) (by decide) ?_
    refine sr_end (l' := [(0, .int .u8 c_0), (10, .bool ((decide (c_0 ≥ 65)) && (decide (c_0 ≤ 90))))]) (.cons rfl (.cons rfl (.nil _))) ?_
    refine ke_cond (t := (decide (c_0 ≥ 65)) && (decide (c_0 ≤ 90))) rfl (fun hc16 => ?_) (fun hc16 => ?_)
    ·replace hS := ite_true' hS hc16
     refine ke_seq ?_
     refine ke_region ?_
     refine sr_ev (v := .int .i64 1) (ev_assign rfl) (by decide) ?_
     refine sr_end (l' := [(2, .int .i64 1)]) (.cons rfl (.nil _)) ?_
     cases hS
     exact ke_ret1 Tryd.func41 rfl rfl ⟨_, rfl, rfl, hb⟩
    ·replace hS := ite_false' hS hc16
     refine ke_seq ?_
     refine ke_region ?_
     refine sr_ev (v := .int .u8 c_0) (ev_move rfl) (by decide) ?_
     refine sr_ev (v := .bool (decide (c_0 ≥ 48))) (ev_ge rfl rfl) (by decide) ?_
     refine sr_ev (v := .bool (decide (c_0 ≥ 48))) (ev_move rfl) (by decide) ?_
     refine sr_join (m := 3) (C := fun (x : Bool) w1 => x = ((decide (c_0 ≥ 48)) && (decide (c_0 ≤ 57))) ∧ w0 = w1) (l' := fun x => [(23, .bool x)]) ?_ ?_
     ·rintro _ _ ⟨rfl, rfl⟩
      refine sr_ev (v := .bool ((decide (c_0 ≥ 48)) && (decide (c_0 ≤ 57)))) (ev_assign rfl) (by decide) ?_
      refine sr_end (l' := [(17, .bool ((decide (c_0 ≥ 48)) && (decide (c_0 ≤ 57))))]) (.cons rfl (.nil _)) ?_
      refine ke_cond (t := (decide (c_0 ≥ 48)) && (decide (c_0 ≤ 57))) rfl (fun hc24 => ?_) (fun hc24 => ?_)
      ·replace hS := ite_true' hS hc24
       refine ke_seq ?_
       refine ke_region ?_
       refine sr_ev (v := .int .i64 2) (ev_assign rfl) (by decide) ?_
       refine sr_end (l' := [(2, .int .i64 2)]) (.cons rfl (.nil _)) ?_
       cases hS
       exact ke_ret1 Tryd.func41 rfl rfl ⟨_, rfl, rfl, hb⟩
      ·replace hS := ite_false' hS hc24
       refine ke_skip ?_
       refine ke_inBlock ?_
       refine ke_seq ?_
       refine ke_region ?_
       refine sr_ev (v := .int .i64 3) (ev_assign rfl) (by decide) ?_
       refine sr_end (l' := [(2, .int .i64 3)]) (.cons rfl (.nil _)) ?_
       cases hS
       exact ke_ret1 Tryd.func41 rfl rfl ⟨_, rfl, rfl, hb⟩
     ·intro K18
      rcases Bool.eq_false_or_eq_true (decide (c_0 ≥ 48)) with hg17 | hg17
      ·refine sr_evg (b := true) (e := 20) rfl rfl hg17 (v := .int .u8 c_0) (ev_move rfl) (by decide) ?_
       refine sr_evg (b := true) (e := 20) rfl rfl hg17 (v := .bool (decide (c_0 ≤ 57))) (ev_le rfl rfl) (by decide) ?_
       refine sr_ev (v := .bool (decide (c_0 ≤ 57))) (ev_pick_t rfl hg17 rfl) (by decide) ?_
       exact sr_weaken (l' := [(23, .bool (decide (c_0 ≤ 57)))]) (.cons rfl (.nil _)) (K18 (decide (c_0 ≤ 57)) _ ⟨by rw [hg17]; rfl, rfl⟩)
      ·refine sr_pass (e := 20) rfl rfl (by rw [hg17]; rfl) (by decide) ?_
       refine sr_pass (e := 20) rfl rfl (by rw [hg17]; rfl) (by decide) ?_
       refine sr_ev (v := .bool false) (ev_pick_f rfl hg17 rfl) (by decide) ?_
       exact sr_weaken (l' := [(23, .bool false)]) (.cons rfl (.nil _)) (K18 false _ ⟨by rw [hg17]; rfl, rfl⟩)
   ·intro K10
    rcases Bool.eq_false_or_eq_true (decide (c_0 ≥ 65)) with hg9 | hg9
    ·refine sr_evg (b := true) (e := 13) rfl rfl hg9 (v := .int .u8 c_0) (ev_move rfl) (by decide) ?_
     refine sr_evg (b := true) (e := 13) rfl rfl hg9 (v := .bool (decide (c_0 ≤ 90))) (ev_le rfl rfl) (by decide) ?_
     refine sr_ev (v := .bool (decide (c_0 ≤ 90))) (ev_pick_t rfl hg9 rfl) (by decide) ?_
     exact sr_weaken (l' := [(0, .int .u8 c_0), (16, .bool (decide (c_0 ≤ 90)))]) (.cons rfl (.cons rfl (.nil _))) (K10 (decide (c_0 ≤ 90)) _ ⟨by rw [hg9]; rfl, rfl⟩)
    ·refine sr_pass (e := 13) rfl rfl (by rw [hg9]; rfl) (by decide) ?_
     refine sr_pass (e := 13) rfl rfl (by rw [hg9]; rfl) (by decide) ?_
     refine sr_ev (v := .bool false) (ev_pick_f rfl hg9 rfl) (by decide) ?_
     exact sr_weaken (l' := [(0, .int .u8 c_0), (16, .bool false)]) (.cons rfl (.cons rfl (.nil _))) (K10 false _ ⟨by rw [hg9]; rfl, rfl⟩)
 ·intro K2
  rcases Bool.eq_false_or_eq_true (decide (c_0 ≥ 97)) with hg1 | hg1
  ·refine sr_evg (b := true) (e := 6) rfl rfl hg1 (v := .int .u8 c_0) (ev_move rfl) (by decide) ?_
   refine sr_evg (b := true) (e := 6) rfl rfl hg1 (v := .bool (decide (c_0 ≤ 122))) (ev_le rfl rfl) (by decide) ?_
   refine sr_ev (v := .bool (decide (c_0 ≤ 122))) (ev_pick_t rfl hg1 rfl) (by decide) ?_
   exact sr_weaken (l' := [(0, .int .u8 c_0), (9, .bool (decide (c_0 ≤ 122)))]) (.cons rfl (.cons rfl (.nil _))) (K2 (decide (c_0 ≤ 122)) _ ⟨by rw [hg1]; rfl, rfl⟩)
  ·refine sr_pass (e := 6) rfl rfl (by rw [hg1]; rfl) (by decide) ?_
   refine sr_pass (e := 6) rfl rfl (by rw [hg1]; rfl) (by decide) ?_
   refine sr_ev (v := .bool false) (ev_pick_f rfl hg1 rfl) (by decide) ?_
   exact sr_weaken (l' := [(0, .int .u8 c_0), (9, .bool false)]) (.cons rfl (.cons rfl (.nil _))) (K2 false _ ⟨by rw [hg1]; rfl, rfl⟩)
theorem fold_Lower_B2_ok {w0 : World} (hg : Gs w0) {A0 : Nat → Prop} (hA0 : ∀ b, A0 b → b < w0.heap.size) (r0 : List Int → Int → Int → Option (Str))
  (hr0 : ∀ {r : Str} {b_3 : List Int} {t_8 : Int} {t_9 : Int} {gb_3 : Nat} {eb_3 : List Value} {vb_3 : Value}, r0 b_3 t_8 t_9 = some r → ∀ {w : World} {A : Nat → Prop}, (Below w0.heap.size w0 w) → (∀ b, A b → b < w.heap.size) → (∀ b, A0 b → A b) → (Hp A w0.heap.size w [(gb_3, rowObj (Value.int .u8) b_3 eb_3 5)]) → (RwV vb_3 gb_3 b_3.length) → KE Tryd.prog 43 (Ret (fun v w' => v = str r ∧ Below w0.heap.size w0 w')) 26 [.inLoop (sub (bodyOf Tryd.f43) [2, 2, 1, 2, 2, 1]), .inBlock 0, .code (sub (bodyOf Tryd.f43) [2, 2, 2])] [(3, vb_3), (8, .int .i64 t_8), (9, .int .i64 t_9)] w) {r : Str} {b_3 : List Int} {t_8 : Int} {t_9 : Int} {gb_3 : Nat} {eb_3 : List Value} {vb_3 : Value} (hS : fold_Lower_B2 r0 b_3 t_8 t_9 = some r) {w : World} {A : Nat → Prop} (hb : Below w0.heap.size w0 w) (hA : ∀ b, A b → b < w.heap.size) (hi : ∀ b, A0 b → A b) (hH : Hp A w0.heap.size w [(gb_3, rowObj (Value.int .u8) b_3 eb_3 5)]) (hb_3 : RwV vb_3 gb_3 b_3.length) :
  KE Tryd.prog 43 (Ret (fun v w' => v = str r ∧ Below w0.heap.size w0 w')) 26 [.inBlock 1, .code (sub (bodyOf Tryd.f43) [2, 2, 1, 2, 2, 1, 2, 2, 2]), .inLoop (sub (bodyOf Tryd.f43) [2, 2, 1, 2, 2, 1]), .inBlock 0, .code (sub (bodyOf Tryd.f43) [2, 2, 2])] [(3, vb_3), (8, .int .i64 t_8), (9, .int .i64 t_9)] w := by
 unfold fold_Lower_B2 at hS
 refine ke_inBlock ?_
 refine ke_region ?_
 refine sr_ev (v := .int .i64 (IntKind.i64.wrap (t_9 + 1))) (ev_add rfl rfl) (by decide) ?_
 refine sr_ev (v := .int .i64 (IntKind.i64.wrap (t_9 + 1))) (ev_move rfl) (by decide) ?_
 refine sr_end (l' := [(3, vb_3), (8, .int .i64 t_8), (9, .int .i64 (IntKind.i64.wrap (t_9 + 1)))]) (.cons rfl (.cons rfl (.cons rfl (.nil _)))) ?_
 have hK := hr0 hS hb hA hi hH hb_3
 exact ke_weaken (l' := [(3, vb_3), (8, .int .i64 t_8), (9, .int .i64 (IntKind.i64.wrap (t_9 + 1)))]) (.cons rfl (.cons rfl (.cons rfl (.nil _)))) hK
theorem fold_Lower_L1_ok {w0 : World} (hg : Gs w0) {A0 : Nat → Prop} (hA0 : ∀ b, A0 b → b < w0.heap.size) : ∀ (n : Nat), ∀ {r : Str} {b_3 : List Int} {t_8 : Int} {t_9 : Int} {gb_3 : Nat} {eb_3 : List Value} {vb_3 : Value}, fold_Lower_L1 n b_3 t_8 t_9 = some r → ∀ {w : World} {A : Nat → Prop}, (Below w0.heap.size w0 w) → (∀ b, A b → b < w.heap.size) → (∀ b, A0 b → A b) → (Hp A w0.heap.size w [(gb_3, rowObj (Value.int .u8) b_3 eb_3 5)]) → (RwV vb_3 gb_3 b_3.length) → KE Tryd.prog 43 (Ret (fun v w' => v = str r ∧ Below w0.heap.size w0 w')) 26 [.code (sub (bodyOf Tryd.f43) [2, 2, 1, 2, 2, 1]), .inLoop (sub (bodyOf Tryd.f43) [2, 2, 1, 2, 2, 1]), .inBlock 0, .code (sub (bodyOf Tryd.f43) [2, 2, 2])] [(3, vb_3), (8, .int .i64 t_8), (9, .int .i64 t_9)] w := by
 intro n
 induction n with
 | zero => intro r b_3 t_8 t_9 gb_3 eb_3 vb_3 hS; cases hS
 | succ n ih =>
  have hr0 : ∀ {r : Str} {b_3 : List Int} {t_8 : Int} {t_9 : Int} {gb_3 : Nat} {eb_3 : List Value} {vb_3 : Value}, fold_Lower_L1 n b_3 t_8 t_9 = some r → ∀ {w : World} {A : Nat → Prop}, (Below w0.heap.size w0 w) → (∀ b, A b → b < w.heap.size) → (∀ b, A0 b → A b) → (Hp A w0.heap.size w [(gb_3, rowObj (Value.int .u8) b_3 eb_3 5)]) → (RwV vb_3 gb_3 b_3.length) → KE Tryd.prog 43 (Ret (fun v w' => v = str r ∧ Below w0.heap.size w0 w')) 26 [.inLoop (sub (bodyOf Tryd.f43) [2, 2, 1, 2, 2, 1]), .inBlock 0, .code (sub (bodyOf Tryd.f43) [2, 2, 2])] [(3, vb_3), (8, .int .i64 t_8), (9, .int .i64 t_9)] w := fun {r} {b_3} {t_8} {t_9} {gb_3} {eb_3} {vb_3} hS {w} {A} hb hA hi hH hb_3 => ke_inLoop (ih hS hb hA hi hH hb_3)
  clear ih
  intro r b_3 t_8 t_9 gb_3 eb_3 vb_3 hS w A hb hA hi hH hb_3
  unfold fold_Lower_L1 at hS
  refine ke_seq ?_
  refine ke_region ?_
  refine sr_ev (v := .bool (decide (t_9 < t_8))) (ev_lt rfl rfl) (by decide) ?_
  refine sr_end (l' := [(3, vb_3), (8, .int .i64 t_8), (9, .int .i64 t_9), (10, .bool (decide (t_9 < t_8)))]) (.cons rfl (.cons rfl (.cons rfl (.cons rfl (.nil _))))) ?_
  refine ke_seq ?_
  refine ke_cond (t := decide (t_9 < t_8)) rfl (fun hc12 => ?_) (fun hc12 => ?_)
  ·replace hS := ite_true' hS hc12
   refine ke_skip ?_
   refine ke_seq ?_
   refine ke_block ?_
   refine ke_seq ?_
   refine ke_region ?_
   refine sr_ev (v := .int .i64 t_9) (ev_move rfl) (by decide) ?_
   refine sr_ev (v := .int .i64 t_9) (ev_assign rfl) (by decide) ?_
   refine sr_end (l' := [(3, vb_3), (4, .int .i64 t_9), (8, .int .i64 t_8), (9, .int .i64 t_9)]) (.cons rfl (.cons rfl (.cons rfl (.cons rfl (.nil _))))) ?_
   refine ke_seq ?_
   refine ke_region ?_
   refine sr_ev (v := vb_3) (ev_move rfl) (by decide) ?_
   refine sr_ev (v := .int .i64 t_9) (ev_move rfl) (by decide) ?_
   obtain ⟨hk13, hS⟩ := chk_some hS
   refine sr_ev (v := .pointer (some ⟨gb_3, 0 + t_9.toNat * 1, none⟩)) (ev_rowindex hb_3 Tryd.underlying80 Tryd.info5 rfl rfl rfl hk13) (by decide) ?_
   obtain ⟨y14, hy15, hS⟩ := bind_some' hS
   refine sr_ev (v := .int .u8 y14) (ev_load Tryd.isAgg5 rfl (hH.rcell (j := 0) rfl hy15)) (by decide) ?_
   obtain ⟨y16, hy17, hS⟩ := bind_some' hS
   refine sr_call (vs := [.int .u8 y14]) rfl Tryd.call63 rfl (fold_upper_ok _ (hg.below hb) hy17) (by decide) ?_
   rintro _ w18 ⟨rfl, hbw19⟩
   replace hb := hb.trans (hbw19.mono hb.size)
   replace hA := lt_mono hA hbw19.size
   replace hH := hH.below hbw19
   refine sr_end (l' := [(3, vb_3), (4, .int .i64 t_9), (8, .int .i64 t_8), (9, .int .i64 t_9), (16, .bool y16)]) (.cons rfl (.cons rfl (.cons rfl (.cons rfl (.cons rfl (.nil _)))))) ?_
   refine ke_cond (t := y16) rfl (fun hc20 => ?_) (fun hc20 => ?_)
   ·replace hS := ite_true' hS hc20
    refine ke_region ?_
    refine sr_ev (v := vb_3) (ev_move rfl) (by decide) ?_
    refine sr_ev (v := .int .i64 t_9) (ev_move rfl) (by decide) ?_
    obtain ⟨hk21, hS⟩ := chk_some hS
    refine sr_ev (v := .pointer (some ⟨gb_3, 0 + t_9.toNat * 1, none⟩)) (ev_rowindex hb_3 Tryd.underlying80 Tryd.info5 rfl rfl rfl hk21) (by decide) ?_
    obtain ⟨y22, hy23, hS⟩ := bind_some' hS
    refine sr_ev (v := .int .u8 y22) (ev_load Tryd.isAgg5 rfl (hH.rcell (j := 0) rfl hy23)) (by decide) ?_
    refine sr_ev (v := .int .u8 (IntKind.u8.wrap (y22 + 32))) (ev_add rfl rfl) (by decide) ?_
    obtain ⟨hk24, hS⟩ := chk_some hS
    refine sr_ev (v := .pointer (some ⟨gb_3, 0 + t_9.toNat * 1, none⟩)) (ev_rowindex hb_3 Tryd.underlying80 Tryd.info5 rfl rfl rfl hk24) (by decide) ?_
    obtain ⟨hk25, hS⟩ := chk_some hS
    refine sr_store_row (j := 0) hH rfl Tryd.sizeOf5 rfl rfl hk25 ?_
    intro w26 hH1 hwr27
    replace hb := hwr27.below hb (hH.base _ (List.mem_of_getElem? (i := 0) rfl))
    replace hA := hwr27.lt hA
    replace hH : Hp A w0.heap.size w26 [(gb_3, rowObj (Value.int .u8) (setAt b_3 t_9 (IntKind.u8.wrap (y22 + 32))) eb_3 5)] := hH1
    clear hH1
    replace hb_3 := hb_3.set (i := t_9) (u := IntKind.u8.wrap (y22 + 32))
    refine sr_end (l' := [(3, vb_3), (8, .int .i64 t_8), (9, .int .i64 t_9)]) (.cons rfl (.cons rfl (.cons rfl (.nil _)))) ?_
    have hK := fold_Lower_B2_ok hg hA0 _ hr0 hS hb hA hi hH hb_3
    exact ke_weaken (l' := [(3, vb_3), (8, .int .i64 t_8), (9, .int .i64 t_9)]) (.cons rfl (.cons rfl (.cons rfl (.nil _)))) hK
   ·replace hS := ite_false' hS hc20
    refine ke_skip ?_
    have hK := fold_Lower_B2_ok hg hA0 _ hr0 hS hb hA hi hH hb_3
    exact ke_weaken (l' := [(3, vb_3), (8, .int .i64 t_8), (9, .int .i64 t_9)]) (.cons rfl (.cons rfl (.cons rfl (.nil _)))) hK
  ·replace hS := ite_false' hS hc12
   refine ke_exit (k' := _) rfl ?_
   refine ke_seq ?_
   refine ke_region ?_
   refine sr_ev (v := vb_3) (ev_move rfl) (by decide) ?_
   refine sr_ev (v := str (bytesStr b_3)) (ev_row2s (j := 0) hb_3 hH rfl Tryd.underlying80 Tryd.underlying5 Tryd.underlying9 rfl) (by decide) ?_
   refine sr_ev (v := str (bytesStr b_3)) (ev_assign rfl) (by decide) ?_
   refine sr_end (l' := [(2, str (bytesStr b_3))]) (.cons rfl (.nil _)) ?_
   cases hS
   exact ke_ret1 Tryd.func43 rfl rfl ⟨_, rfl, rfl, hb⟩
theorem fold_Lower_ok (w0 : World) (hg : Gs w0) {s_0 : Str} {r : Str} (hS : fold_Lower s_0 = some r) :
  Calls Tryd.prog 43 #[str s_0] w0 (Ret (fun v w' => v = str r ∧ Below w0.heap.size w0 w')) := by
 unfold fold_Lower at hS
 have hb := Below.refl w0.heap.size w0
 obtain ⟨A0, hA0, hAe⟩ : ∃ A0 : Nat → Prop, (∀ b, A0 b → b < w0.heap.size) ∧ A0 = fun _ => False := ⟨_, fun _ h => h.elim, rfl⟩
 clear hAe
 have hA := hA0
 have hi : ∀ b, A0 b → A0 b := fun _ h => h
 have hH := Hp.nil A0 w0.heap.size w0
 refine calls_of_ke Tryd.func43 rfl (n := 26) rfl rfl (l := [(0, str s_0)]) rfl ?_
 refine ke_seq ?_
 refine ke_region ?_
 refine sr_ev (v := str ([])) (ev_assign rfl) (by decide) ?_
 refine sr_end (l' := [(0, str s_0)]) (.cons rfl (.nil _)) ?_
 refine ke_seq ?_
 refine ke_region ?_
 refine sr_ev (v := str s_0) (ev_move rfl) (by decide) ?_
 obtain ⟨hk11, hS⟩ := chk_some hS
 refine sr_s2b hH hb.size hA Tryd.underlying9 Tryd.underlying80 Tryd.underlying5 hk11 rfl (by decide) ?_
 intro g1 v2 ex3 A4 w5 hH1 hv10 hst6 hbw7 hinc8 hA1 hge9
 replace hb := hb.trans (hbw7.mono hb.size)
 replace hi := fun b hb => hinc8 b (hi b hb)
 replace hH : Hp A4 w0.heap.size w5 [(g1, rowObj (Value.int .u8) (strBytes s_0) ex3 5)] := hH1
 replace hA := hA1
 clear hH1 hA1
 refine sr_ev (v := v2) (ev_assign rfl) (by decide) ?_
 refine sr_end (l' := [(3, v2)]) (.cons rfl (.nil _)) ?_
 refine ke_seq ?_
 refine ke_seq ?_
 refine ke_region ?_
 refine sr_ev (v := v2) (ev_move rfl) (by decide) ?_
 refine sr_ev (v := .int .i64 ((strBytes s_0).length : Int)) (ev_rowlen Tryd.underlying80 rfl hv10) (by decide) ?_
 refine sr_ev (v := .int .i64 0) (ev_move rfl) (by decide) ?_
 refine sr_end (l' := [(3, v2), (8, .int .i64 ((strBytes s_0).length : Int)), (9, .int .i64 0)]) (.cons rfl (.cons rfl (.cons rfl (.nil _)))) ?_
 refine ke_block ?_
 have hK := fold_Lower_L1_ok hg hA0 _ hS hb hA hi hH hv10
 exact ke_weaken (l' := [(3, v2), (8, .int .i64 ((strBytes s_0).length : Int)), (9, .int .i64 0)]) (.cons rfl (.cons rfl (.cons rfl (.nil _)))) (ke_loop hK)
theorem secret_Quality_L1_ok {w0 : World} (hg : Gs w0) {A0 : Nat → Prop} (hA0 : ∀ b, A0 b → b < w0.heap.size) : ∀ (n : Nat), ∀ {r : Int} {password_0 : Str} {user_1 : Str} {has_5 : List Int} {t_11 : Int} {t_12 : Int} {ghas_5 : Nat}, secret_Quality_L1 n password_0 user_1 has_5 t_11 t_12 = some r → ∀ {w : World} {A : Nat → Prop}, (Below w0.heap.size w0 w) → (∀ b, A b → b < w.heap.size) → (∀ b, A0 b → A b) → (Hp A w0.heap.size w [(ghas_5, .cells (has_5.map (Value.int .i64)).toArray 60 (0, 0))]) → KE Tryd.prog 18 (Ret (fun v w' => v = .int .i64 r ∧ Below w0.heap.size w0 w')) 43 [.code (sub (bodyOf Tryd.f18) [2, 2, 2, 1, 2, 2, 1]), .inLoop (sub (bodyOf Tryd.f18) [2, 2, 2, 1, 2, 2, 1]), .inBlock 0, .code (sub (bodyOf Tryd.f18) [2, 2, 2, 2])] [(0, str password_0), (1, str user_1), (5, .pointer (some ⟨ghas_5, 0, none⟩)), (11, .int .i64 t_11), (12, .int .i64 t_12)] w := by
 intro n
 induction n with
 | zero => intro r password_0 user_1 has_5 t_11 t_12 ghas_5 hS; cases hS
 | succ n ih =>
  have hr0 : ∀ {r : Int} {password_0 : Str} {user_1 : Str} {has_5 : List Int} {t_11 : Int} {t_12 : Int} {ghas_5 : Nat}, secret_Quality_L1 n password_0 user_1 has_5 t_11 t_12 = some r → ∀ {w : World} {A : Nat → Prop}, (Below w0.heap.size w0 w) → (∀ b, A b → b < w.heap.size) → (∀ b, A0 b → A b) → (Hp A w0.heap.size w [(ghas_5, .cells (has_5.map (Value.int .i64)).toArray 60 (0, 0))]) → KE Tryd.prog 18 (Ret (fun v w' => v = .int .i64 r ∧ Below w0.heap.size w0 w')) 43 [.inLoop (sub (bodyOf Tryd.f18) [2, 2, 2, 1, 2, 2, 1]), .inBlock 0, .code (sub (bodyOf Tryd.f18) [2, 2, 2, 2])] [(0, str password_0), (1, str user_1), (5, .pointer (some ⟨ghas_5, 0, none⟩)), (11, .int .i64 t_11), (12, .int .i64 t_12)] w := fun {r} {password_0} {user_1} {has_5} {t_11} {t_12} {ghas_5} hS {w} {A} hb hA hi hH => ke_inLoop (ih hS hb hA hi hH)
  clear ih
  intro r password_0 user_1 has_5 t_11 t_12 ghas_5 hS w A hb hA hi hH
  unfold secret_Quality_L1 at hS
  refine ke_seq ?_
  refine ke_region ?_
  refine sr_ev (v := .bool (decide (t_12 < t_11))) (ev_lt rfl rfl) (by decide) ?_
  refine sr_end (l' := [(0, str password_0), (1, str user_1), (5, .pointer (some ⟨ghas_5, 0, none⟩)), (11, .int .i64 t_11), (12, .int .i64 t_12), (13, .bool (decide (t_12 < t_11)))]) (.cons rfl (.cons rfl (.cons rfl (.cons rfl (.cons rfl (.cons rfl (.nil _))))))) ?_
  refine ke_seq ?_
  refine ke_cond (t := decide (t_12 < t_11)) rfl (fun hc13 => ?_) (fun hc13 => ?_)
  ·replace hS := ite_true' hS hc13
   refine ke_skip ?_
   refine ke_seq ?_
   refine ke_block ?_
   refine ke_seq ?_
   refine ke_region ?_
   refine sr_ev (v := .int .i64 t_12) (ev_move rfl) (by decide) ?_
   refine sr_ev (v := .int .i64 t_12) (ev_assign rfl) (by decide) ?_
   refine sr_end (l' := [(0, str password_0), (1, str user_1), (5, .pointer (some ⟨ghas_5, 0, none⟩)), (6, .int .i64 t_12), (11, .int .i64 t_11), (12, .int .i64 t_12)]) (.cons rfl (.cons rfl (.cons rfl (.cons rfl (.cons rfl (.cons rfl (.nil _))))))) ?_
   refine ke_region ?_
   refine sr_ev (v := str password_0) (ev_move rfl) (by decide) ?_
   refine sr_ev (v := .int .i64 t_12) (ev_move rfl) (by decide) ?_
   obtain ⟨hk14, hS⟩ := chk_some hS
   refine sr_ev (v := .int .u8 (byteAt password_0 t_12)) (ev_sindex Tryd.underlying9 rfl rfl hk14) (by decide) ?_
   obtain ⟨y15, hy16, hS⟩ := bind_some' hS
   refine sr_call (vs := [.int .u8 (byteAt password_0 t_12)]) rfl Tryd.call41 rfl (secret_class_ok _ (hg.below hb) hy16) (by decide) ?_
   rintro _ w17 ⟨rfl, hbw18⟩
   replace hb := hb.trans (hbw18.mono hb.size)
   replace hA := lt_mono hA hbw18.size
   replace hH := hH.below hbw18
   obtain ⟨hk19, hS⟩ := chk_some hS
   refine sr_ev (v := .pointer (some ⟨ghas_5, 0 + y15.toNat * 1, none⟩)) (ev_arrindex Tryd.underlying60 Tryd.info3 rfl rfl rfl hk19) (by decide) ?_
   obtain ⟨hk20, hS⟩ := chk_some hS
   refine sr_store_arr (j := 0) hH rfl Tryd.sizeOf3 rfl rfl hk20 ?_
   intro w21 hH1 hwr22
   replace hb := hwr22.below hb (hH.base _ (List.mem_of_getElem? (i := 0) rfl))
   replace hA := hwr22.lt hA
   replace hH : Hp A w0.heap.size w21 [(ghas_5, .cells ((setAt has_5 y15 1).map (Value.int .i64)).toArray 60 (0, 0))] := hH1
   clear hH1
   refine sr_end (l' := [(0, str password_0), (1, str user_1), (5, .pointer (some ⟨ghas_5, 0, none⟩)), (11, .int .i64 t_11), (12, .int .i64 t_12)]) (.cons rfl (.cons rfl (.cons rfl (.cons rfl (.cons rfl (.nil _)))))) ?_
   refine ke_inBlock ?_
   refine ke_region ?_
   refine sr_ev (v := .int .i64 (IntKind.i64.wrap (t_12 + 1))) (ev_add rfl rfl) (by decide) ?_
   refine sr_ev (v := .int .i64 (IntKind.i64.wrap (t_12 + 1))) (ev_move rfl) (by decide) ?_
   refine sr_end (l' := [(0, str password_0), (1, str user_1), (5, .pointer (some ⟨ghas_5, 0, none⟩)), (11, .int .i64 t_11), (12, .int .i64 (IntKind.i64.wrap (t_12 + 1)))]) (.cons rfl (.cons rfl (.cons rfl (.cons rfl (.cons rfl (.nil _)))))) ?_
   have hK := hr0 hS hb hA hi hH
   exact ke_weaken (l' := [(0, str password_0), (1, str user_1), (5, .pointer (some ⟨ghas_5, 0, none⟩)), (11, .int .i64 t_11), (12, .int .i64 (IntKind.i64.wrap (t_12 + 1)))]) (.cons rfl (.cons rfl (.cons rfl (.cons rfl (.cons rfl (.nil _)))))) hK
  ·replace hS := ite_false' hS hc13
   refine ke_exit (k' := _) rfl ?_
   refine ke_seq ?_
   refine ke_seq ?_
   refine ke_region ?_
   refine sr_ev (v := .pointer (some ⟨ghas_5, 0 + (0 : Int).toNat * 1, none⟩)) (ev_arrindex Tryd.underlying60 Tryd.info3 rfl rfl rfl (by decide)) (by decide) ?_
   obtain ⟨y23, hy24, hS⟩ := bind_some' hS
   refine sr_ev (v := .int .i64 y23) (ev_load Tryd.isAgg3 rfl (hH.acell (j := 0) rfl hy24)) (by decide) ?_
   refine sr_ev (v := .pointer (some ⟨ghas_5, 0 + (1 : Int).toNat * 1, none⟩)) (ev_arrindex Tryd.underlying60 Tryd.info3 rfl rfl rfl (by decide)) (by decide) ?_
   obtain ⟨y25, hy26, hS⟩ := bind_some' hS
   refine sr_ev (v := .int .i64 y25) (ev_load Tryd.isAgg3 rfl (hH.acell (j := 0) rfl hy26)) (by decide) ?_
   refine sr_ev (v := .int .i64 (IntKind.i64.wrap (y23 + y25))) (ev_add rfl rfl) (by decide) ?_
   refine sr_ev (v := .pointer (some ⟨ghas_5, 0 + (2 : Int).toNat * 1, none⟩)) (ev_arrindex Tryd.underlying60 Tryd.info3 rfl rfl rfl (by decide)) (by decide) ?_
   obtain ⟨y27, hy28, hS⟩ := bind_some' hS
   refine sr_ev (v := .int .i64 y27) (ev_load Tryd.isAgg3 rfl (hH.acell (j := 0) rfl hy28)) (by decide) ?_
   refine sr_ev (v := .int .i64 (IntKind.i64.wrap ((IntKind.i64.wrap (y23 + y25)) + y27))) (ev_add rfl rfl) (by decide) ?_
   refine sr_ev (v := .pointer (some ⟨ghas_5, 0 + (3 : Int).toNat * 1, none⟩)) (ev_arrindex Tryd.underlying60 Tryd.info3 rfl rfl rfl (by decide)) (by decide) ?_
   obtain ⟨y29, hy30, hS⟩ := bind_some' hS
   refine sr_ev (v := .int .i64 y29) (ev_load Tryd.isAgg3 rfl (hH.acell (j := 0) rfl hy30)) (by decide) ?_
   refine sr_ev (v := .int .i64 (IntKind.i64.wrap ((IntKind.i64.wrap ((IntKind.i64.wrap (y23 + y25)) + y27)) + y29))) (ev_add rfl rfl) (by decide) ?_
   refine sr_ev (v := .bool (decide ((IntKind.i64.wrap ((IntKind.i64.wrap ((IntKind.i64.wrap (y23 + y25)) + y27)) + y29)) < 3))) (ev_lt rfl rfl) (by decide) ?_
   refine sr_end (l' := [(0, str password_0), (1, str user_1), (32, .bool (decide ((IntKind.i64.wrap ((IntKind.i64.wrap ((IntKind.i64.wrap (y23 + y25)) + y27)) + y29)) < 3)))]) (.cons rfl (.cons rfl (.cons rfl (.nil _)))) ?_
   refine ke_cond (t := decide ((IntKind.i64.wrap ((IntKind.i64.wrap ((IntKind.i64.wrap (y23 + y25)) + y27)) + y29)) < 3)) rfl (fun hc31 => ?_) (fun hc31 => ?_)
   ·replace hS := ite_true' hS hc31
    refine ke_seq ?_
    refine ke_region ?_
    refine sr_ev (v := .int .i64 11) (ev_assign rfl) (by decide) ?_
    refine sr_end (l' := [(4, .int .i64 11)]) (.cons rfl (.nil _)) ?_
    cases hS
    exact ke_ret1 Tryd.func18 rfl rfl ⟨_, rfl, rfl, hb⟩
   ·replace hS := ite_false' hS hc31
    refine ke_skip ?_
    refine ke_seq ?_
    refine ke_seq ?_
    refine ke_region ?_
    refine sr_ev (v := str user_1) (ev_move rfl) (by decide) ?_
    refine sr_ev (v := .int .i64 (user_1.length : Int)) (ev_slen Tryd.underlying9 rfl) (by decide) ?_
    refine sr_ev (v := .bool (decide ((user_1.length : Int) ≥ 3))) (ev_ge rfl rfl) (by decide) ?_
    refine sr_ev (v := .bool (decide ((user_1.length : Int) ≥ 3))) (ev_move rfl) (by decide) ?_
    obtain ⟨z34, hz36, hS⟩ := bind_some' hS
    refine sr_join (m := 6) (C := fun (x : Bool) w1 => z34 = x ∧ Below w.heap.size w w1) (l' := fun x => [(42, .bool x)]) ?_ ?_
    ·rintro _ w37 ⟨rfl, hbw38⟩
     replace hb := hb.trans (hbw38.mono hb.size)
     replace hA := lt_mono hA hbw38.size
     replace hH := hH.below hbw38
     refine sr_end (l' := [(42, .bool z34)]) (.cons rfl (.nil _)) ?_
     refine ke_cond (t := z34) rfl (fun hc51 => ?_) (fun hc51 => ?_)
     ·replace hS := ite_true' hS hc51
      refine ke_seq ?_
      refine ke_region ?_
      refine sr_ev (v := .int .i64 11) (ev_assign rfl) (by decide) ?_
      refine sr_end (l' := [(4, .int .i64 11)]) (.cons rfl (.nil _)) ?_
      cases hS
      exact ke_ret1 Tryd.func18 rfl rfl ⟨_, rfl, rfl, hb⟩
     ·replace hS := ite_false' hS hc51
      refine ke_skip ?_
      refine ke_seq ?_
      refine ke_region ?_
      refine sr_ev (v := .int .i64 0) (ev_assign rfl) (by decide) ?_
      refine sr_end (l' := [(4, .int .i64 0)]) (.cons rfl (.nil _)) ?_
      cases hS
      exact ke_ret1 Tryd.func18 rfl rfl ⟨_, rfl, rfl, hb⟩
    ·intro K33
     clear hS
     have hj35 := Below.refl w.heap.size w
     rcases Bool.eq_false_or_eq_true (decide ((user_1.length : Int) ≥ 3)) with hg32 | hg32
     ·have hS := ite_true' hz36 hg32
      refine sr_evg (b := true) (e := 36) rfl rfl hg32 (v := str password_0) (ev_move rfl) (by decide) ?_
      obtain ⟨y39, hy40, hS⟩ := bind_some' hS
      refine sr_callg (b := true) (e := 36) rfl rfl hg32 (vs := [str password_0]) rfl Tryd.call43 rfl (fold_Lower_ok _ (hg.below hb) hy40) (by decide) ?_
      rintro _ w41 ⟨rfl, hbw42⟩
      replace hb := hb.trans (hbw42.mono hb.size)
      replace hj35 := hj35.trans (hbw42.mono hj35.size)
      replace hA := lt_mono hA hbw42.size
      replace hH := hH.below hbw42
      refine sr_evg (b := true) (e := 36) rfl rfl hg32 (v := str user_1) (ev_move rfl) (by decide) ?_
      obtain ⟨y43, hy44, hS⟩ := bind_some' hS
      refine sr_callg (b := true) (e := 36) rfl rfl hg32 (vs := [str user_1]) rfl Tryd.call43 rfl (fold_Lower_ok _ (hg.below hb) hy44) (by decide) ?_
      rintro _ w45 ⟨rfl, hbw46⟩
      replace hb := hb.trans (hbw46.mono hb.size)
      replace hj35 := hj35.trans (hbw46.mono hj35.size)
      replace hA := lt_mono hA hbw46.size
      replace hH := hH.below hbw46
      obtain ⟨y47, hy48, hS⟩ := bind_some' hS
      refine sr_callg (b := true) (e := 36) rfl rfl hg32 (vs := [str y39, str y43]) rfl Tryd.call42 rfl (lib_Contains_ok _ (hg.below hb) hy48) (by decide) ?_
      rintro _ w49 ⟨rfl, hbw50⟩
      replace hb := hb.trans (hbw50.mono hb.size)
      replace hj35 := hj35.trans (hbw50.mono hj35.size)
      replace hA := lt_mono hA hbw50.size
      replace hH := hH.below hbw50
      refine sr_ev (v := .bool y47) (ev_pick_t rfl hg32 rfl) (by decide) ?_
      exact sr_weaken (l' := [(42, .bool y47)]) (.cons rfl (.nil _)) (K33 y47 _ ⟨(Option.some.inj hS).symm, hj35⟩)
     ·have hS := ite_false' hz36 hg32
      refine sr_pass (e := 36) rfl rfl (by rw [hg32]; rfl) (by decide) ?_
      refine sr_pass (e := 36) rfl rfl (by rw [hg32]; rfl) (by decide) ?_
      refine sr_pass (e := 36) rfl rfl (by rw [hg32]; rfl) (by decide) ?_
      refine sr_pass (e := 36) rfl rfl (by rw [hg32]; rfl) (by decide) ?_
      refine sr_pass (e := 36) rfl rfl (by rw [hg32]; rfl) (by decide) ?_
      refine sr_ev (v := .bool false) (ev_pick_f rfl hg32 rfl) (by decide) ?_
      exact sr_weaken (l' := [(42, .bool false)]) (.cons rfl (.nil _)) (K33 false _ ⟨(Option.some.inj hS).symm, hj35⟩)
theorem secret_Quality_ok (w0 : World) (hg : Gs w0) {password_0 : Str} {user_1 : Str} {r : Int} (hS : secret_Quality password_0 user_1 = some r) :
  Calls Tryd.prog 18 #[str password_0, str user_1] w0 (Ret (fun v w' => v = .int .i64 r ∧ Below w0.heap.size w0 w')) := by
 unfold secret_Quality at hS
 have hb := Below.refl w0.heap.size w0
 obtain ⟨A0, hA0, hAe⟩ : ∃ A0 : Nat → Prop, (∀ b, A0 b → b < w0.heap.size) ∧ A0 = fun _ => False := ⟨_, fun _ h => h.elim, rfl⟩
 clear hAe
 have hA := hA0
 have hi : ∀ b, A0 b → A0 b := fun _ h => h
 have hH := Hp.nil A0 w0.heap.size w0
 refine calls_of_ke Tryd.func18 rfl (n := 43) rfl rfl (l := [(0, str password_0), (1, str user_1)]) rfl ?_
 refine ke_seq ?_
 refine ke_region ?_
 refine sr_ev (v := .int .i64 0) (ev_assign rfl) (by decide) ?_
 refine sr_end (l' := [(0, str password_0), (1, str user_1)]) (.cons rfl (.cons rfl (.nil _))) ?_
 refine ke_seq ?_
 refine ke_seq ?_
 refine ke_region ?_
 refine sr_ev (v := str password_0) (ev_move rfl) (by decide) ?_
 obtain ⟨y1, hy2, hS⟩ := bind_some' hS
 refine sr_call (vs := [str password_0]) rfl Tryd.call35 rfl (secret_isPassword_ok _ (hg.below hb) hy2) (by decide) ?_
 rintro _ w3 ⟨rfl, hbw4⟩
 replace hb := hb.trans (hbw4.mono hb.size)
 replace hA := lt_mono hA hbw4.size
 replace hH := hH.below hbw4
 refine sr_ev (v := .bool (!y1)) (ev_not rfl) (by decide) ?_
 refine sr_end (l' := [(0, str password_0), (1, str user_1), (9, .bool (!y1))]) (.cons rfl (.cons rfl (.cons rfl (.nil _)))) ?_
 refine ke_cond (t := !y1) rfl (fun hc5 => ?_) (fun hc5 => ?_)
 ·replace hS := ite_true' hS hc5
  refine ke_seq ?_
  refine ke_region ?_
  refine sr_ev (v := .int .i64 4) (ev_assign rfl) (by decide) ?_
  refine sr_end (l' := [(4, .int .i64 4)]) (.cons rfl (.nil _)) ?_
  cases hS
  exact ke_ret1 Tryd.func18 rfl rfl ⟨_, rfl, rfl, hb⟩
 ·replace hS := ite_false' hS hc5
  refine ke_skip ?_
  refine ke_seq ?_
  refine ke_region ?_
  refine sr_alloc hH hb.size hA Tryd.zeroValue60 (by decide) ?_
  intro g6 A7 w8 hH1 hst9 hbw10 hinc11 hA1 hge12
  replace hb := hb.trans (hbw10.mono hb.size)
  replace hi := fun b hb => hinc11 b (hi b hb)
  replace hH : Hp A7 w0.heap.size w8 [(g6, .cells (([0, 0, 0, 0]).map (Value.int .i64)).toArray 60 (0, 0))] := hH1
  replace hA := hA1
  clear hH1 hA1
  refine sr_end (l' := [(0, str password_0), (1, str user_1), (5, .pointer (some ⟨g6, 0, none⟩))]) (.cons rfl (.cons rfl (.cons rfl (.nil _)))) ?_
  refine ke_seq ?_
  refine ke_seq ?_
  refine ke_region ?_
  refine sr_ev (v := str password_0) (ev_move rfl) (by decide) ?_
  refine sr_ev (v := .int .i64 (password_0.length : Int)) (ev_slen Tryd.underlying9 rfl) (by decide) ?_
  refine sr_ev (v := .int .i64 0) (ev_move rfl) (by decide) ?_
  refine sr_end (l' := [(0, str password_0), (1, str user_1), (5, .pointer (some ⟨g6, 0, none⟩)), (11, .int .i64 (password_0.length : Int)), (12, .int .i64 0)]) (.cons rfl (.cons rfl (.cons rfl (.cons rfl (.cons rfl (.nil _)))))) ?_
  refine ke_block ?_
  have hK := secret_Quality_L1_ok hg hA0 _ hS hb hA hi hH
  exact ke_weaken (l' := [(0, str password_0), (1, str user_1), (5, .pointer (some ⟨g6, 0, none⟩)), (11, .int .i64 (password_0.length : Int)), (12, .int .i64 0)]) (.cons rfl (.cons rfl (.cons rfl (.cons rfl (.cons rfl (.nil _)))))) (ke_loop hK)
theorem secret_Locks_count_B2_ok {w0 : World} (hg : Gs w0) {ρA : Tags} (hbd : ∀ b, ρA b ≠ 0 → b < w0.heap.size) (hz : Gz (flat1 ρA)) (r0 : secret_Locks → Int → Int → List Int → Int → Int → Option (Int))
  (hr0 : ∀ {r : Int} {ok_0 : secret_Locks} {now_2 : Int} {n_7 : Int} {t_13 : List Int} {t_14 : Int} {t_15 : Int} {gk_0 : Nat} {vt_13 : Value}, r0 ok_0 now_2 n_7 t_13 t_14 t_15 = some r → ∀ {ρ : Tags} {w : World}, (Fr (flat1 ρA) w0 ρ w) → (secret_Locks.O (fun _ => 1) ρ w gk_0 ok_0) → (OffT (intC .i64) 3 ρ 1 w vt_13 t_13) → KE Tryd.prog 51 (Ret (fun v w' => v = .int .i64 r ∧ Below w0.heap.size w0 w')) 36 [.inLoop (sub (bodyOf Tryd.f51) [2, 2, 1, 2, 2, 1]), .inBlock 0, .code (sub (bodyOf Tryd.f51) [2, 2, 2])] [(0, .pointer (some ⟨gk_0, 0, none⟩)), (2, .int .i64 now_2), (7, .int .i64 n_7), (13, vt_13), (14, .int .i64 t_14), (15, .int .i64 t_15)] w) {r : Int} {ok_0 : secret_Locks} {now_2 : Int} {n_7 : Int} {t_13 : List Int} {t_14 : Int} {t_15 : Int} {gk_0 : Nat} {vt_13 : Value} (hS : secret_Locks_count_B2 r0 ok_0 now_2 n_7 t_13 t_14 t_15 = some r) {ρ : Tags} {w : World} (hb : Fr (flat1 ρA) w0 ρ w) (hok_0 : secret_Locks.O (fun _ => 1) ρ w gk_0 ok_0) (ht_13 : OffT (intC .i64) 3 ρ 1 w vt_13 t_13) :
  KE Tryd.prog 51 (Ret (fun v w' => v = .int .i64 r ∧ Below w0.heap.size w0 w')) 36 [.inBlock 1, .code (sub (bodyOf Tryd.f51) [2, 2, 1, 2, 2, 1, 2, 2, 2]), .inLoop (sub (bodyOf Tryd.f51) [2, 2, 1, 2, 2, 1]), .inBlock 0, .code (sub (bodyOf Tryd.f51) [2, 2, 2])] [(0, .pointer (some ⟨gk_0, 0, none⟩)), (2, .int .i64 now_2), (7, .int .i64 n_7), (13, vt_13), (14, .int .i64 t_14), (15, .int .i64 t_15)] w := by
 unfold secret_Locks_count_B2 at hS
 obtain ⟨v31, lp33, hB35, h32, hR34⟩ := hok_0
 replace hB35 : Blk ρ 1 w gk_0 (.cells #[.int .i64 ok_0.most, .int .i64 ok_0.window, .int .i64 ok_0.lock, v31] 67 (0, 0)) := hB35
 replace h32 : MapT str ptrC false ρ 1 w v31 lp33 := h32
 replace hR34 : Recs secret_record.O 2 ρ 1 w lp33 ok_0.users := hR34
 refine ke_inBlock ?_
 refine ke_region ?_
 refine sr_ev (v := .int .i64 (IntKind.i64.wrap (t_15 + 1))) (ev_add rfl rfl) (by decide) ?_
 refine sr_ev (v := .int .i64 (IntKind.i64.wrap (t_15 + 1))) (ev_move rfl) (by decide) ?_
 refine sr_end (l' := [(0, .pointer (some ⟨gk_0, 0, none⟩)), (2, .int .i64 now_2), (7, .int .i64 n_7), (13, vt_13), (14, .int .i64 t_14), (15, .int .i64 (IntKind.i64.wrap (t_15 + 1)))]) (.cons rfl (.cons rfl (.cons rfl (.cons rfl (.cons rfl (.cons rfl (.nil _))))))) ?_
 have hK := hr0 hS hb ⟨_, _, hB35, h32, hR34⟩ ht_13
 exact ke_weaken (l' := [(0, .pointer (some ⟨gk_0, 0, none⟩)), (2, .int .i64 now_2), (7, .int .i64 n_7), (13, vt_13), (14, .int .i64 t_14), (15, .int .i64 (IntKind.i64.wrap (t_15 + 1)))]) (.cons rfl (.cons rfl (.cons rfl (.cons rfl (.cons rfl (.cons rfl (.nil _))))))) hK
theorem secret_Locks_count_L1_ok {w0 : World} (hg : Gs w0) {ρA : Tags} (hbd : ∀ b, ρA b ≠ 0 → b < w0.heap.size) (hz : Gz (flat1 ρA)) : ∀ (n : Nat), ∀ {r : Int} {ok_0 : secret_Locks} {now_2 : Int} {n_7 : Int} {t_13 : List Int} {t_14 : Int} {t_15 : Int} {gk_0 : Nat} {vt_13 : Value}, secret_Locks_count_L1 n ok_0 now_2 n_7 t_13 t_14 t_15 = some r → ∀ {ρ : Tags} {w : World}, (Fr (flat1 ρA) w0 ρ w) → (secret_Locks.O (fun _ => 1) ρ w gk_0 ok_0) → (OffT (intC .i64) 3 ρ 1 w vt_13 t_13) → KE Tryd.prog 51 (Ret (fun v w' => v = .int .i64 r ∧ Below w0.heap.size w0 w')) 36 [.code (sub (bodyOf Tryd.f51) [2, 2, 1, 2, 2, 1]), .inLoop (sub (bodyOf Tryd.f51) [2, 2, 1, 2, 2, 1]), .inBlock 0, .code (sub (bodyOf Tryd.f51) [2, 2, 2])] [(0, .pointer (some ⟨gk_0, 0, none⟩)), (2, .int .i64 now_2), (7, .int .i64 n_7), (13, vt_13), (14, .int .i64 t_14), (15, .int .i64 t_15)] w := by
 intro n
 induction n with
 | zero => intro r ok_0 now_2 n_7 t_13 t_14 t_15 gk_0 vt_13 hS; cases hS
 | succ n ih =>
  have hr0 : ∀ {r : Int} {ok_0 : secret_Locks} {now_2 : Int} {n_7 : Int} {t_13 : List Int} {t_14 : Int} {t_15 : Int} {gk_0 : Nat} {vt_13 : Value}, secret_Locks_count_L1 n ok_0 now_2 n_7 t_13 t_14 t_15 = some r → ∀ {ρ : Tags} {w : World}, (Fr (flat1 ρA) w0 ρ w) → (secret_Locks.O (fun _ => 1) ρ w gk_0 ok_0) → (OffT (intC .i64) 3 ρ 1 w vt_13 t_13) → KE Tryd.prog 51 (Ret (fun v w' => v = .int .i64 r ∧ Below w0.heap.size w0 w')) 36 [.inLoop (sub (bodyOf Tryd.f51) [2, 2, 1, 2, 2, 1]), .inBlock 0, .code (sub (bodyOf Tryd.f51) [2, 2, 2])] [(0, .pointer (some ⟨gk_0, 0, none⟩)), (2, .int .i64 now_2), (7, .int .i64 n_7), (13, vt_13), (14, .int .i64 t_14), (15, .int .i64 t_15)] w := fun {r} {ok_0} {now_2} {n_7} {t_13} {t_14} {t_15} {gk_0} {vt_13} hS {ρ} {w} hb hok_0 ht_13 => ke_inLoop (ih hS hb hok_0 ht_13)
  clear ih
  intro r ok_0 now_2 n_7 t_13 t_14 t_15 gk_0 vt_13 hS ρ w hb hok_0 ht_13
  unfold secret_Locks_count_L1 at hS
  obtain ⟨v9, lp11, hB13, h10, hR12⟩ := hok_0
  replace hB13 : Blk ρ 1 w gk_0 (.cells #[.int .i64 ok_0.most, .int .i64 ok_0.window, .int .i64 ok_0.lock, v9] 67 (0, 0)) := hB13
  replace h10 : MapT str ptrC false ρ 1 w v9 lp11 := h10
  replace hR12 : Recs secret_record.O 2 ρ 1 w lp11 ok_0.users := hR12
  refine ke_seq ?_
  refine ke_region ?_
  refine sr_ev (v := .bool (decide (t_15 < t_14))) (ev_lt rfl rfl) (by decide) ?_
  refine sr_end (l' := [(0, .pointer (some ⟨gk_0, 0, none⟩)), (2, .int .i64 now_2), (7, .int .i64 n_7), (13, vt_13), (14, .int .i64 t_14), (15, .int .i64 t_15), (16, .bool (decide (t_15 < t_14)))]) (.cons rfl (.cons rfl (.cons rfl (.cons rfl (.cons rfl (.cons rfl (.cons rfl (.nil _)))))))) ?_
  refine ke_seq ?_
  refine ke_cond (t := decide (t_15 < t_14)) rfl (fun hc14 => ?_) (fun hc14 => ?_)
  ·replace hS := ite_true' hS hc14
   refine ke_skip ?_
   refine ke_seq ?_
   refine ke_block ?_
   refine ke_seq ?_
   refine ke_region ?_
   obtain ⟨y15, hy16, hS⟩ := bind_some' hS
   obtain ⟨b17, o18, cs20, hq21, he19⟩ := (ht_13.sl).elem (P := Tryd.prog) Tryd.underlying73 Tryd.info3 rfl hy16
   obtain rfl : cs20 = [.int .i64 y15] := he19.rd
   refine sr_ev (v := .pointer (some ⟨b17, o18, none⟩)) (hq21 w rfl rfl) (by decide) ?_
   refine sr_ev (v := .int .i64 y15) (ev_load Tryd.isAgg3 rfl (he19.cell 0 _ rfl)) (by decide) ?_
   refine sr_ev (v := .int .i64 y15) (ev_assign rfl) (by decide) ?_
   refine sr_end (l' := [(0, .pointer (some ⟨gk_0, 0, none⟩)), (2, .int .i64 now_2), (7, .int .i64 n_7), (9, .int .i64 y15), (13, vt_13), (14, .int .i64 t_14), (15, .int .i64 t_15)]) (.cons rfl (.cons rfl (.cons rfl (.cons rfl (.cons rfl (.cons rfl (.cons rfl (.nil _)))))))) ?_
   refine ke_seq ?_
   refine ke_region ?_
   refine sr_ev (v := .int .i64 y15) (ev_move rfl) (by decide) ?_
   refine sr_ev (v := .int .i64 now_2) (ev_move rfl) (by decide) ?_
   refine sr_ev (v := .bool (decide (y15 ≤ now_2))) (ev_le rfl rfl) (by decide) ?_
   refine sr_ev (v := .bool (decide (y15 ≤ now_2))) (ev_move rfl) (by decide) ?_
   refine sr_join (m := 9) (C := fun (x : Bool) w1 => x = ((decide (y15 ≤ now_2)) && (decide ((IntKind.i64.wrap (now_2 - y15)) < ok_0.window))) ∧ w = w1) (l' := fun x => [(0, .pointer (some ⟨gk_0, 0, none⟩)), (2, .int .i64 now_2), (7, .int .i64 n_7), (13, vt_13), (14, .int .i64 t_14), (15, .int .i64 t_15), (31, .bool x)]) ?_ ?_
   ·rintro _ _ ⟨rfl, rfl⟩
    refine sr_end (l' := [(0, .pointer (some ⟨gk_0, 0, none⟩)), (2, .int .i64 now_2), (7, .int .i64 n_7), (13, vt_13), (14, .int .i64 t_14), (15, .int .i64 t_15), (31, .bool ((decide (y15 ≤ now_2)) && (decide ((IntKind.i64.wrap (now_2 - y15)) < ok_0.window))))]) (.cons rfl (.cons rfl (.cons rfl (.cons rfl (.cons rfl (.cons rfl (.cons rfl (.nil _)))))))) ?_
    refine ke_cond (t := (decide (y15 ≤ now_2)) && (decide ((IntKind.i64.wrap (now_2 - y15)) < ok_0.window))) rfl (fun hc30 => ?_) (fun hc30 => ?_)
    ·replace hS := ite_true' hS hc30
     refine ke_region ?_
     refine sr_ev (v := .int .i64 n_7) (ev_move rfl) (by decide) ?_
     refine sr_ev (v := .int .i64 (IntKind.i64.wrap (n_7 + 1))) (ev_add rfl rfl) (by decide) ?_
     refine sr_ev (v := .int .i64 (IntKind.i64.wrap (n_7 + 1))) (ev_assign rfl) (by decide) ?_
     refine sr_end (l' := [(0, .pointer (some ⟨gk_0, 0, none⟩)), (2, .int .i64 now_2), (7, .int .i64 (IntKind.i64.wrap (n_7 + 1))), (13, vt_13), (14, .int .i64 t_14), (15, .int .i64 t_15)]) (.cons rfl (.cons rfl (.cons rfl (.cons rfl (.cons rfl (.cons rfl (.nil _))))))) ?_
     have hK := secret_Locks_count_B2_ok hg hbd hz _ hr0 hS hb ⟨_, _, hB13, h10, hR12⟩ ht_13
     exact ke_weaken (l' := [(0, .pointer (some ⟨gk_0, 0, none⟩)), (2, .int .i64 now_2), (7, .int .i64 (IntKind.i64.wrap (n_7 + 1))), (13, vt_13), (14, .int .i64 t_14), (15, .int .i64 t_15)]) (.cons rfl (.cons rfl (.cons rfl (.cons rfl (.cons rfl (.cons rfl (.nil _))))))) hK
    ·replace hS := ite_false' hS hc30
     refine ke_skip ?_
     have hK := secret_Locks_count_B2_ok hg hbd hz _ hr0 hS hb ⟨_, _, hB13, h10, hR12⟩ ht_13
     exact ke_weaken (l' := [(0, .pointer (some ⟨gk_0, 0, none⟩)), (2, .int .i64 now_2), (7, .int .i64 n_7), (13, vt_13), (14, .int .i64 t_14), (15, .int .i64 t_15)]) (.cons rfl (.cons rfl (.cons rfl (.cons rfl (.cons rfl (.cons rfl (.nil _))))))) hK
   ·intro K23
    rcases Bool.eq_false_or_eq_true (decide (y15 ≤ now_2)) with hg22 | hg22
    all_goals try have hj25 : Tr ρ w (fun _ => false) ρ w := Tr.refl hb.bd
    ·refine sr_evg (b := true) (e := 22) rfl rfl hg22 (v := .int .i64 now_2) (ev_move rfl) (by decide) ?_
     refine sr_evg (b := true) (e := 22) rfl rfl hg22 (v := .int .i64 y15) (ev_move rfl) (by decide) ?_
     refine sr_evg (b := true) (e := 22) rfl rfl hg22 (v := .int .i64 (IntKind.i64.wrap (now_2 - y15))) (ev_sub rfl rfl) (by decide) ?_
     refine sr_evg (b := true) (e := 22) rfl rfl hg22 (v := .pointer (some ⟨gk_0, 0, none⟩)) (ev_move rfl) (by decide) ?_
     refine sr_evg (b := true) (e := 22) rfl rfl hg22 (v := .pointer (some ⟨gk_0, 0, none⟩)) (ev_nilCheck rfl) (by decide) ?_
     refine sr_evg (b := true) (e := 22) rfl rfl hg22 (v := .pointer (some ⟨gk_0, 1, none⟩)) (ev_fieldAddr (i := 1) Tryd.underlying67 rfl Tryd.info3 rfl rfl) (by decide) ?_
     refine sr_evg (b := true) (e := 22) rfl rfl hg22 (v := .int .i64 ok_0.window) (ev_load Tryd.isAgg3 rfl (hB13.cell rfl)) (by decide) ?_
     refine sr_evg (b := true) (e := 22) rfl rfl hg22 (v := .bool (decide ((IntKind.i64.wrap (now_2 - y15)) < ok_0.window))) (ev_lt rfl rfl) (by decide) ?_
     refine sr_ev (v := .bool (decide ((IntKind.i64.wrap (now_2 - y15)) < ok_0.window))) (ev_pick_t rfl hg22 rfl) (by decide) ?_
     exact sr_weaken (l' := [(0, .pointer (some ⟨gk_0, 0, none⟩)), (2, .int .i64 now_2), (7, .int .i64 n_7), (13, vt_13), (14, .int .i64 t_14), (15, .int .i64 t_15), (31, .bool (decide ((IntKind.i64.wrap (now_2 - y15)) < ok_0.window)))]) (.cons rfl (.cons rfl (.cons rfl (.cons rfl (.cons rfl (.cons rfl (.cons rfl (.nil _)))))))) (K23 (decide ((IntKind.i64.wrap (now_2 - y15)) < ok_0.window)) _ ⟨by first | (rw [hg22]; rfl) | rfl, rfl⟩)
    ·refine sr_pass (e := 22) rfl rfl (by rw [hg22]; rfl) (by decide) ?_
     refine sr_pass (e := 22) rfl rfl (by rw [hg22]; rfl) (by decide) ?_
     refine sr_pass (e := 22) rfl rfl (by rw [hg22]; rfl) (by decide) ?_
     refine sr_pass (e := 22) rfl rfl (by rw [hg22]; rfl) (by decide) ?_
     refine sr_pass (e := 22) rfl rfl (by rw [hg22]; rfl) (by decide) ?_
     refine sr_pass (e := 22) rfl rfl (by rw [hg22]; rfl) (by decide) ?_
     refine sr_pass (e := 22) rfl rfl (by rw [hg22]; rfl) (by decide) ?_
     refine sr_pass (e := 22) rfl rfl (by rw [hg22]; rfl) (by decide) ?_
     refine sr_ev (v := .bool false) (ev_pick_f rfl hg22 rfl) (by decide) ?_
     exact sr_weaken (l' := [(0, .pointer (some ⟨gk_0, 0, none⟩)), (2, .int .i64 now_2), (7, .int .i64 n_7), (13, vt_13), (14, .int .i64 t_14), (15, .int .i64 t_15), (31, .bool false)]) (.cons rfl (.cons rfl (.cons rfl (.cons rfl (.cons rfl (.cons rfl (.cons rfl (.nil _)))))))) (K23 false _ ⟨by first | (rw [hg22]; rfl) | rfl, rfl⟩)
  ·replace hS := ite_false' hS hc14
   refine ke_exit (k' := _) rfl ?_
   refine ke_seq ?_
   refine ke_region ?_
   refine sr_ev (v := .int .i64 n_7) (ev_move rfl) (by decide) ?_
   refine sr_ev (v := .int .i64 n_7) (ev_assign rfl) (by decide) ?_
   refine sr_end (l' := [(6, .int .i64 n_7)]) (.cons rfl (.nil _)) ?_
   cases hS
   exact ke_ret1 Tryd.func51 rfl rfl ⟨_, rfl, rfl, (hb.below (flat1_le _))⟩
theorem secret_Locks_count_ok (w0 : World) (hg : Gs w0) {ρA : Tags} (hbd : ∀ b, ρA b ≠ 0 → b < w0.heap.size) (hz : Gz ρA) {τ0 : Nat → Nat} (hτ0 : ∀ p, 1 ≤ τ0 p) {τ1 : Nat → Nat} (hτ1 : ∀ p, 1 ≤ τ1 p) {k_0 : secret_Locks} {r_1 : secret_record} {now_2 : Int} {gk_0 : Nat} {gr_1 : Nat} {r : Int} (ho0 : secret_Locks.O τ0 ρA w0 gk_0 k_0) (ho1 : secret_record.O τ1 ρA w0 gr_1 r_1) (hS : secret_Locks_count k_0 r_1 now_2 = some r) :
  Calls Tryd.prog 51 #[.pointer (some ⟨gk_0, 0, none⟩), .pointer (some ⟨gr_1, 0, none⟩), .int .i64 now_2] w0 (Ret (fun v w' => v = .int .i64 r ∧ Below w0.heap.size w0 w')) := by
 unfold secret_Locks_count at hS
 have hb := flat1_fr (ρ := ρA) (w := w0) hbd
 have hz := hz.flat1
 obtain ⟨v1, lp3, hB5, h2, hR4⟩ := ho0
 replace hB5 := hB5.mv (flat1_mv (hτ0 0))
 replace h2 := h2.mv (flat1_mv (hτ0 1))
 replace hR4 := Recs.mv hR4 secret_record.objK (flat1_mv (hτ0 2)) (by decide)
 replace hB5 : Blk (flat1 ρA) 1 w0 gk_0 (.cells #[.int .i64 k_0.most, .int .i64 k_0.window, .int .i64 k_0.lock, v1] 67 (0, 0)) := hB5
 replace h2 : MapT str ptrC false (flat1 ρA) 1 w0 v1 lp3 := h2
 replace hR4 : Recs secret_record.O 2 (flat1 ρA) 1 w0 lp3 k_0.users := hR4
 obtain ⟨v6, hB8, h7⟩ := ho1
 replace hB8 := hB8.mv (flat1_mv (hτ1 0))
 replace h7 := h7.mv (flat1_mv (hτ1 1)) (by decide)
 replace hB8 : Blk (flat1 ρA) 1 w0 gr_1 (.cells #[v6, .int .i64 r_1.until_] 75 (0, 0)) := hB8
 replace h7 : OffT (intC .i64) 3 (flat1 ρA) 1 w0 v6 r_1.times := h7
 refine calls_of_ke Tryd.func51 rfl (n := 36) rfl rfl (l := [(0, .pointer (some ⟨gk_0, 0, none⟩)), (1, .pointer (some ⟨gr_1, 0, none⟩)), (2, .int .i64 now_2)]) rfl ?_
 refine ke_seq ?_
 refine ke_region ?_
 refine sr_ev (v := .int .i64 0) (ev_assign rfl) (by decide) ?_
 refine sr_end (l' := [(0, .pointer (some ⟨gk_0, 0, none⟩)), (1, .pointer (some ⟨gr_1, 0, none⟩)), (2, .int .i64 now_2)]) (.cons rfl (.cons rfl (.cons rfl (.nil _)))) ?_
 refine ke_seq ?_
 refine ke_region ?_
 refine sr_ev (v := .int .i64 0) (ev_assign rfl) (by decide) ?_
 refine sr_end (l' := [(0, .pointer (some ⟨gk_0, 0, none⟩)), (1, .pointer (some ⟨gr_1, 0, none⟩)), (2, .int .i64 now_2), (7, .int .i64 0)]) (.cons rfl (.cons rfl (.cons rfl (.cons rfl (.nil _))))) ?_
 refine ke_seq ?_
 refine ke_seq ?_
 refine ke_region ?_
 refine sr_ev (v := .pointer (some ⟨gr_1, 0, none⟩)) (ev_move rfl) (by decide) ?_
 refine sr_ev (v := .pointer (some ⟨gr_1, 0, none⟩)) (ev_nilCheck rfl) (by decide) ?_
 refine sr_ev (v := .pointer (some ⟨gr_1, 0, none⟩)) (ev_fieldAddr (i := 0) Tryd.underlying75 rfl Tryd.info73 rfl rfl) (by decide) ?_
 refine sr_ev (v := v6) (ev_load Tryd.isAgg73 rfl (hB8.cell rfl)) (by decide) ?_
 refine sr_ev (v := .int .i64 (r_1.times.length : Int)) (ev_sllenW Tryd.underlying73 rfl h7.asSl) (by decide) ?_
 refine sr_ev (v := .int .i64 0) (ev_move rfl) (by decide) ?_
 refine sr_end (l' := [(0, .pointer (some ⟨gk_0, 0, none⟩)), (2, .int .i64 now_2), (7, .int .i64 0), (13, v6), (14, .int .i64 (r_1.times.length : Int)), (15, .int .i64 0)]) (.cons rfl (.cons rfl (.cons rfl (.cons rfl (.cons rfl (.cons rfl (.nil _))))))) ?_
 refine ke_block ?_
 have hK := secret_Locks_count_L1_ok hg hbd hz _ hS hb ⟨_, _, hB5, h2, hR4⟩ h7
 exact ke_weaken (l' := [(0, .pointer (some ⟨gk_0, 0, none⟩)), (2, .int .i64 now_2), (7, .int .i64 0), (13, v6), (14, .int .i64 (r_1.times.length : Int)), (15, .int .i64 0)]) (.cons rfl (.cons rfl (.cons rfl (.cons rfl (.cons rfl (.cons rfl (.nil _))))))) (ke_loop hK)
theorem secret_Locks_Fail_B2_ok {w0 : World} (hg : Gs w0) {ρA : Tags} (hbd : ∀ b, ρA b ≠ 0 → b < w0.heap.size) {o : Nat} (ho2 : 2 ≤ o) {gk_0 : Nat} (hz : Gz (enter ρA o 3)) {r : secret_Locks} {ok_0 : secret_Locks} {t_7 : Int} {locked_8 : Bool} {r_6k : Str} {v79 : Value} {lp81 : GMap Str (Option Nat)} {vr_6 : Value} (hS : secret_Locks_Fail_B2 ok_0 t_7 locked_8 r_6k = some r) {ρ : Tags} {w : World} (hb : Fr (enter ρA o 3) w0 ρ w) (hBk_0 : Blk ρ 100 w gk_0 (.cells #[.int .i64 ok_0.most, .int .i64 ok_0.window, .int .i64 ok_0.lock, v79] 67 (0, 0))) (h80 : MapT str ptrC false ρ 101 w v79 lp81) (hR82 : Recs secret_record.O 2 ρ 102 w lp81 ok_0.users) (hpr_6 : vr_6 = pval (mgetD lp81 r_6k none)) :
  KE Tryd.prog 24 (Ret (fun v w' => ∃ ρ', v = .tuple #[] ∧ secret_Locks.O (fun p => o + p) ρ' w' gk_0 r ∧ Tr ρA w0 (rng o 3) ρ' w')) 103 [.code (sub (bodyOf Tryd.f24) [2, 2, 2, 2, 2, 2, 2])] [(0, .pointer (some ⟨gk_0, 0, none⟩)), (6, vr_6), (7, .int .i64 t_7), (8, .bool locked_8)] w := by
 unfold secret_Locks_Fail_B2 at hS
 refine ke_seq ?_
 refine ke_region_q Tryd.mixed (by kernel_rfl) ?_
 refine sq_ev (v := .bool locked_8) (fun w1 hw1 => ev_move rfl) (by decide) ?_
 refine sq_ev (v := .bool locked_8) (fun w1 hw1 => ev_move rfl) (by decide) ?_
 obtain ⟨z88, hz90, hS⟩ := bind_some' hS
 refine sq_join (m := 10) (C := fun (x : Bool) => z88 = x) (l' := fun x => [(0, .pointer (some ⟨gk_0, 0, none⟩)), (6, vr_6), (7, .int .i64 t_7), (88, .bool x)]) ?_ ?_
 ·rintro _ rfl
  refine sq_end (l' := [(0, .pointer (some ⟨gk_0, 0, none⟩)), (6, vr_6), (7, .int .i64 t_7), (88, .bool z88)]) (.cons rfl (.cons rfl (.cons rfl (.cons rfl (.nil _))))) (fun w85 hw84 => ?_)
  have htr105 := Tr.of_below hw84 hb.bd
  replace hBk_0 := hBk_0.mv (htr105.mv (i := 100) rfl)
  replace h80 := h80.mv (htr105.mv (i := 101) rfl)
  replace hR82 := Recs.mv hR82 secret_record.objK (htr105.mv (i := 102) rfl) (by decide)
  replace hb := hb.trans htr105
  refine ke_cond (t := z88) rfl (fun hc106 => ?_) (fun hc106 => ?_)
  ·replace hS := ite_true' hS hc106
   obtain ⟨y107, hy108, hS⟩ := bind_some' hS
   obtain ⟨g109, ρ111, hfb112, hvb110, ⟨v115, hB117, h116⟩, hR113, htr114⟩ := Recs.openX hR82 secret_record.objK 200 (by decide) (by decide) (by decide) hb.bd hy108
   obtain rfl := hpr_6.trans hvb110
   replace hBk_0 := hBk_0.mv (htr114.mv (i := 100) rfl)
   replace h80 := h80.mv (htr114.mv (i := 101) rfl)
   replace hb := hb.trans htr114
   replace hB117 : Blk ρ111 200 w85 g109 (.cells #[v115, .int .i64 y107.until_] 75 (0, 0)) := hB117
   replace h116 : OffT (intC .i64) 3 ρ111 201 w85 v115 y107.times := h116
   refine ke_region_j (ρ := ρ111) (fun t => ([200] : List Nat).contains t) 15 Tryd.mixed (fun w119 hw118 => ?_)
   have htr120 := Tr.of_below hw118 hb.bd
   replace hB117 := hB117.mv (htr120.mv (i := 200) rfl)
   replace h116 := h116.mv (htr120.mv (i := 201) rfl) (by decide)
   replace hBk_0 := hBk_0.mv (htr120.mv (i := 100) rfl)
   replace h80 := h80.mv (htr120.mv (i := 101) rfl)
   replace hR113 := RecsH.mv hR113 secret_record.objK (htr120.mv (i := 102) rfl) (by decide)
   replace hb := hb.trans htr120
   refine dj_H 0 (v := .pointer (some ⟨g109, 0, none⟩)) (by kernel_rfl) (by kernel_rfl) rfl (fun _ _ _ h => h) (sj_refl hb.bd rfl rfl) (fun w1 ρ1 hw1 => ev_move rfl) (by decide) ?_
   refine dj_H 1 (v := .pointer (some ⟨g109, 0, none⟩)) (by kernel_rfl) (by kernel_rfl) rfl (fun _ _ _ h => h) (sj_refl hb.bd rfl rfl) (fun w1 ρ1 hw1 => ev_move rfl) (by decide) ?_
   refine dj_H 2 (v := .pointer (some ⟨g109, 0, none⟩)) (by kernel_rfl) (by kernel_rfl) rfl (fun _ _ _ h => h) (sj_refl hb.bd rfl rfl) (fun w1 ρ1 hw1 => ev_nilCheck rfl) (by decide) ?_
   refine dj_H 3 (v := .pointer (some ⟨g109, 1, none⟩)) (by kernel_rfl) (by kernel_rfl) rfl (fun _ _ _ h => h) (sj_refl hb.bd rfl rfl) (fun w1 ρ1 hw1 => ev_fieldAddr (i := 1) Tryd.underlying75 rfl Tryd.info3 rfl rfl) (by decide) ?_
   refine dj_H 5 (v := .int .i64 t_7) (by kernel_rfl) (by kernel_rfl) rfl (fun _ _ _ h => h) (sj_refl hb.bd rfl rfl) (fun w1 ρ1 hw1 => ev_move rfl) (by decide) ?_
   refine dj_H 6 (v := .pointer (some ⟨gk_0, 0, none⟩)) (by kernel_rfl) (by kernel_rfl) rfl (fun _ _ _ h => h) (sj_refl hb.bd rfl rfl) (fun w1 ρ1 hw1 => ev_move rfl) (by decide) ?_
   refine dj_H 7 (v := .pointer (some ⟨gk_0, 0, none⟩)) (by kernel_rfl) (by kernel_rfl) rfl (fun _ _ _ h => h) (sj_refl hb.bd rfl rfl) (fun w1 ρ1 hw1 => ev_nilCheck rfl) (by decide) ?_
   refine dj_H 8 (v := .pointer (some ⟨gk_0, 2, none⟩)) (by kernel_rfl) (by kernel_rfl) rfl (fun _ _ _ h => h) (sj_refl hb.bd rfl rfl) (fun w1 ρ1 hw1 => ev_fieldAddr (i := 2) Tryd.underlying67 rfl Tryd.info3 rfl rfl) (by decide) ?_
   refine dj_H 9 (v := .int .i64 ok_0.lock) (by kernel_rfl) (by kernel_rfl) rfl (fun _ _ _ h => h) (sj_refl hb.bd rfl rfl) (fun w1 ρ1 hw1 => ev_load Tryd.isAgg3 rfl ((hBk_0.mv (hw1.mv (i := 100) rfl)).cell rfl)) (by decide) ?_
   obtain ⟨y153, hy154, hS⟩ := bind_some' hS
   refine dj_all [4, 10] (by kernel_rfl) (fun i hi => ?_)
   simp only [List.mem_cons, List.not_mem_nil, or_false] at hi
   rcases hi with rfl | rfl
   ·refine ⟨_, rfl, ?_⟩
    have jt161 : Tr ρ111 w119 (fun t => ([200] : List Nat).contains t) ρ111 w119 := (Tr.refl hb.bd).weak (fun _ _ => rfl) rfl rfl
    refine sr_ev (v := .int .i64 y107.until_) (ev_load Tryd.isAgg3 rfl (hB117.cell rfl)) (by decide) ?_
    refine dj_next (l' := [(89, .pointer (some ⟨g109, 0, none⟩)), (93, .int .i64 y107.until_), (94, .int .i64 t_7), (98, .int .i64 ok_0.lock)]) rfl (.cons rfl (.cons rfl (.cons rfl (.cons rfl (.nil _))))) jt161 (by intro t h; simp [rng] at h ⊢ <;> omega) rfl rfl ?_
    refine dj_E 10 (by kernel_rfl) rfl ?_
    have jt162 : Tr ρ111 w119 (fun t => ([200] : List Nat).contains t) ρ111 w119 := (Tr.refl hb.bd).weak (fun _ _ => rfl) rfl rfl
    refine sr_call (vs := [.int .i64 t_7, .int .i64 ok_0.lock]) rfl Tryd.call49 rfl (clock_Add_ok _ (hg.fr hz hb) hy154) (by decide) ?_
    rintro _ w165 ⟨rfl, hbw166⟩
    have htr167 := Tr.of_below hbw166 hb.bd
    replace hB117 := hB117.mv (htr167.mv (i := 200) rfl)
    replace h116 := h116.mv (htr167.mv (i := 201) rfl) (by decide)
    replace hBk_0 := hBk_0.mv (htr167.mv (i := 100) rfl)
    replace h80 := h80.mv (htr167.mv (i := 101) rfl)
    replace hR113 := RecsH.mv hR113 secret_record.objK (htr167.mv (i := 102) rfl) (by decide)
    replace hb := hb.trans htr167
    replace jt162 := (jt162.trans htr167).weak (J' := (fun t => ([200] : List Nat).contains t)) (by intro t h; simp [rng] at h ⊢ <;> omega) rfl rfl
    refine dj_next (l' := [(89, .pointer (some ⟨g109, 0, none⟩)), (93, .int .i64 y107.until_), (99, .int .i64 y153)]) rfl (.cons rfl (.cons rfl (.cons rfl (.nil _)))) jt162 (by intro t h; simp [rng] at h ⊢ <;> omega) rfl rfl ?_
    refine dj_H 11 (v := .int .i64 (gmax y107.until_ y153)) (by kernel_rfl) (by kernel_rfl) rfl (fun _ _ _ h => h) (sj_refl hb.bd rfl rfl) (fun w1 ρ1 hw1 => ev_max rfl rfl) (by decide) ?_
    refine dj_H 12 (v := .pointer (some ⟨g109, 0, none⟩)) (by kernel_rfl) (by kernel_rfl) rfl (fun _ _ _ h => h) (sj_refl hb.bd rfl rfl) (fun w1 ρ1 hw1 => ev_nilCheck rfl) (by decide) ?_
    refine dj_H 13 (v := .pointer (some ⟨g109, 1, none⟩)) (by kernel_rfl) (by kernel_rfl) rfl (fun _ _ _ h => h) (sj_refl hb.bd rfl rfl) (fun w1 ρ1 hw1 => ev_fieldAddr (i := 1) Tryd.underlying75 rfl Tryd.info3 rfl rfl) (by decide) ?_
    refine dj_E 14 (by kernel_rfl) rfl ?_
    have jt168 : Tr ρ111 w165 (fun t => ([200] : List Nat).contains t) ρ111 w165 := (Tr.refl hb.bd).weak (fun _ _ => rfl) rfl rfl
    refine sr_storeT (v := .int .i64 (gmax y107.until_ y153)) (vs := [.int .i64 (gmax y107.until_ y153)]) (cs' := #[v115, .int .i64 (gmax y107.until_ y153)]) hB117 (by decide) hb.bd rfl rfl rfl Tryd.sizeOf3 rfl rfl rfl ?_
    intro w169 hB1171 htr170
    replace h116 := h116.mv (htr170.mv (i := 201) rfl) (by decide)
    replace hBk_0 := hBk_0.mv (htr170.mv (i := 100) rfl)
    replace h80 := h80.mv (htr170.mv (i := 101) rfl)
    replace hR113 := RecsH.mv hR113 secret_record.objK (htr170.mv (i := 102) rfl) (by decide)
    replace hb := hb.trans htr170
    replace jt168 := (jt168.trans htr170).weak (J' := (fun t => ([200] : List Nat).contains t)) (by intro t h; simp [rng] at h ⊢ <;> omega) rfl rfl
    replace hB117 : Blk ρ111 200 w169 g109 (.cells #[v115, .int .i64 (gmax y107.until_ y153)] 75 (0, 0)) := hB1171
    clear hB1171
    refine dj_next (l' := []) rfl (.nil _) jt168 (by intro t h; simp [rng] at h ⊢ <;> omega) rfl rfl ?_
    refine dj_done rfl (by kernel_rfl) ?_
    refine ke_weaken (l' := []) (.nil _) ?_
    obtain ⟨hR171, htr172⟩ := RecsH.close hR113 secret_record.objK 200 (by decide) (by decide) (by decide) hb.bd hfb112 (x := (secret_record.mk y107.times (gmax y107.until_ y153))) ⟨_, hB117, h116⟩
    replace hBk_0 := hBk_0.mv (htr172.mv (i := 100) rfl)
    replace h80 := h80.mv (htr172.mv (i := 101) rfl)
    replace hb := hb.trans htr172
    cases hS
    exact ke_end0 Tryd.func24 rfl ⟨_, rfl, leave ρA w0 o 3 (closeTags ρ111 2 102 200), rfl, ⟨_, _, (hBk_0.mv (leave_mv (p := 0) (by decide) hb)), (h80.mv (leave_mv (p := 1) (by decide) hb)), (Recs.mv hR171 secret_record.objK (leave_mv (p := 2) (by decide) hb) (Nat.ne_of_gt (Nat.lt_of_lt_of_le (Nat.lt_of_lt_of_le Nat.zero_lt_two ho2) (Nat.le_add_right _ _))))⟩, (leave_tr ho2 hb)⟩
   ·refine ⟨_, rfl, ?_⟩
    have jt173 : Tr ρ111 w119 (fun t => ([200] : List Nat).contains t) ρ111 w119 := (Tr.refl hb.bd).weak (fun _ _ => rfl) rfl rfl
    refine sr_call (vs := [.int .i64 t_7, .int .i64 ok_0.lock]) rfl Tryd.call49 rfl (clock_Add_ok _ (hg.fr hz hb) hy154) (by decide) ?_
    rintro _ w176 ⟨rfl, hbw177⟩
    have htr178 := Tr.of_below hbw177 hb.bd
    replace hB117 := hB117.mv (htr178.mv (i := 200) rfl)
    replace h116 := h116.mv (htr178.mv (i := 201) rfl) (by decide)
    replace hBk_0 := hBk_0.mv (htr178.mv (i := 100) rfl)
    replace h80 := h80.mv (htr178.mv (i := 101) rfl)
    replace hR113 := RecsH.mv hR113 secret_record.objK (htr178.mv (i := 102) rfl) (by decide)
    replace hb := hb.trans htr178
    replace jt173 := (jt173.trans htr178).weak (J' := (fun t => ([200] : List Nat).contains t)) (by intro t h; simp [rng] at h ⊢ <;> omega) rfl rfl
    refine dj_next (l' := [(89, .pointer (some ⟨g109, 0, none⟩)), (92, .pointer (some ⟨g109, 1, none⟩)), (99, .int .i64 y153)]) rfl (.cons rfl (.cons rfl (.cons rfl (.nil _)))) jt173 (by intro t h; simp [rng] at h ⊢ <;> omega) rfl rfl ?_
    refine dj_E 4 (by kernel_rfl) rfl ?_
    have jt179 : Tr ρ111 w176 (fun t => ([200] : List Nat).contains t) ρ111 w176 := (Tr.refl hb.bd).weak (fun _ _ => rfl) rfl rfl
    refine sr_ev (v := .int .i64 y107.until_) (ev_load Tryd.isAgg3 rfl (hB117.cell rfl)) (by decide) ?_
    refine dj_next (l' := [(89, .pointer (some ⟨g109, 0, none⟩)), (93, .int .i64 y107.until_), (99, .int .i64 y153)]) rfl (.cons rfl (.cons rfl (.cons rfl (.nil _)))) jt179 (by intro t h; simp [rng] at h ⊢ <;> omega) rfl rfl ?_
    refine dj_H 11 (v := .int .i64 (gmax y107.until_ y153)) (by kernel_rfl) (by kernel_rfl) rfl (fun _ _ _ h => h) (sj_refl hb.bd rfl rfl) (fun w1 ρ1 hw1 => ev_max rfl rfl) (by decide) ?_
    refine dj_H 12 (v := .pointer (some ⟨g109, 0, none⟩)) (by kernel_rfl) (by kernel_rfl) rfl (fun _ _ _ h => h) (sj_refl hb.bd rfl rfl) (fun w1 ρ1 hw1 => ev_nilCheck rfl) (by decide) ?_
    refine dj_H 13 (v := .pointer (some ⟨g109, 1, none⟩)) (by kernel_rfl) (by kernel_rfl) rfl (fun _ _ _ h => h) (sj_refl hb.bd rfl rfl) (fun w1 ρ1 hw1 => ev_fieldAddr (i := 1) Tryd.underlying75 rfl Tryd.info3 rfl rfl) (by decide) ?_
    refine dj_E 14 (by kernel_rfl) rfl ?_
    have jt180 : Tr ρ111 w176 (fun t => ([200] : List Nat).contains t) ρ111 w176 := (Tr.refl hb.bd).weak (fun _ _ => rfl) rfl rfl
    refine sr_storeT (v := .int .i64 (gmax y107.until_ y153)) (vs := [.int .i64 (gmax y107.until_ y153)]) (cs' := #[v115, .int .i64 (gmax y107.until_ y153)]) hB117 (by decide) hb.bd rfl rfl rfl Tryd.sizeOf3 rfl rfl rfl ?_
    intro w181 hB1171 htr182
    replace h116 := h116.mv (htr182.mv (i := 201) rfl) (by decide)
    replace hBk_0 := hBk_0.mv (htr182.mv (i := 100) rfl)
    replace h80 := h80.mv (htr182.mv (i := 101) rfl)
    replace hR113 := RecsH.mv hR113 secret_record.objK (htr182.mv (i := 102) rfl) (by decide)
    replace hb := hb.trans htr182
    replace jt180 := (jt180.trans htr182).weak (J' := (fun t => ([200] : List Nat).contains t)) (by intro t h; simp [rng] at h ⊢ <;> omega) rfl rfl
    replace hB117 : Blk ρ111 200 w181 g109 (.cells #[v115, .int .i64 (gmax y107.until_ y153)] 75 (0, 0)) := hB1171
    clear hB1171
    refine dj_next (l' := []) rfl (.nil _) jt180 (by intro t h; simp [rng] at h ⊢ <;> omega) rfl rfl ?_
    refine dj_done rfl (by kernel_rfl) ?_
    refine ke_weaken (l' := []) (.nil _) ?_
    obtain ⟨hR183, htr184⟩ := RecsH.close hR113 secret_record.objK 200 (by decide) (by decide) (by decide) hb.bd hfb112 (x := (secret_record.mk y107.times (gmax y107.until_ y153))) ⟨_, hB117, h116⟩
    replace hBk_0 := hBk_0.mv (htr184.mv (i := 100) rfl)
    replace h80 := h80.mv (htr184.mv (i := 101) rfl)
    replace hb := hb.trans htr184
    cases hS
    exact ke_end0 Tryd.func24 rfl ⟨_, rfl, leave ρA w0 o 3 (closeTags ρ111 2 102 200), rfl, ⟨_, _, (hBk_0.mv (leave_mv (p := 0) (by decide) hb)), (h80.mv (leave_mv (p := 1) (by decide) hb)), (Recs.mv hR183 secret_record.objK (leave_mv (p := 2) (by decide) hb) (Nat.ne_of_gt (Nat.lt_of_lt_of_le (Nat.lt_of_lt_of_le Nat.zero_lt_two ho2) (Nat.le_add_right _ _))))⟩, (leave_tr ho2 hb)⟩
  ·replace hS := ite_false' hS hc106
   refine ke_skip ?_
   cases hS
   exact ke_end0 Tryd.func24 rfl ⟨_, rfl, leave ρA w0 o 3 ρ, rfl, ⟨_, _, (hBk_0.mv (leave_mv (p := 0) (by decide) hb)), (h80.mv (leave_mv (p := 1) (by decide) hb)), (Recs.mv hR82 secret_record.objK (leave_mv (p := 2) (by decide) hb) (Nat.ne_of_gt (Nat.lt_of_lt_of_le (Nat.lt_of_lt_of_le Nat.zero_lt_two ho2) (Nat.le_add_right _ _))))⟩, (leave_tr ho2 hb)⟩
 ·intro K87
  clear hS
  rcases Bool.eq_false_or_eq_true locked_8 with hg86 | hg86
  ·have hS := ite_true' hz90 hg86
   refine sq_pass (e := 78) rfl rfl (by rw [hg86]; rfl) (by decide) ?_
   refine sq_pass (e := 78) rfl rfl (by rw [hg86]; rfl) (by decide) ?_
   refine sq_pass (e := 78) rfl rfl (by rw [hg86]; rfl) (by decide) ?_
   refine sq_pass (e := 78) rfl rfl (by rw [hg86]; rfl) (by decide) ?_
   refine sq_pass (e := 78) rfl rfl (by rw [hg86]; rfl) (by decide) ?_
   refine sq_pass (e := 78) rfl rfl (by rw [hg86]; rfl) (by decide) ?_
   refine sq_pass (e := 78) rfl rfl (by rw [hg86]; rfl) (by decide) ?_
   refine sq_pass (e := 78) rfl rfl (by rw [hg86]; rfl) (by decide) ?_
   refine sq_pass (e := 78) rfl rfl (by rw [hg86]; rfl) (by decide) ?_
   refine sq_ev (v := .bool true) (fun w1 hw1 => ev_pick_t rfl hg86 rfl) (by decide) ?_
   exact sq_weaken (l' := [(0, .pointer (some ⟨gk_0, 0, none⟩)), (6, vr_6), (7, .int .i64 t_7), (88, .bool true)]) (.cons rfl (.cons rfl (.cons rfl (.cons rfl (.nil _))))) (K87 true (Option.some.inj hS).symm)
  ·have hS := ite_false' hz90 hg86
   refine sq_evg (b := false) (e := 78) rfl rfl hg86 (v := .pointer (some ⟨gk_0, 0, none⟩)) (fun w1 hw1 => ev_move rfl) (by decide) ?_
   refine sq_evg (b := false) (e := 78) rfl rfl hg86 (v := vr_6) (fun w1 hw1 => ev_move rfl) (by decide) ?_
   refine sq_evg (b := false) (e := 78) rfl rfl hg86 (v := .int .i64 t_7) (fun w1 hw1 => ev_move rfl) (by decide) ?_
   obtain ⟨y93, hy94, hS⟩ := bind_some' hS
   obtain ⟨g95, hvb96, ⟨v97, hB99, h98⟩⟩ := Recs.peekX hR82 secret_record.objK (by decide) hy94
   obtain rfl := hpr_6.trans hvb96
   replace hB99 : Blk ρ 102 w g95 (.cells #[v97, .int .i64 y93.until_] 75 (0, 0)) := hB99
   replace h98 : OffT (intC .i64) 3 ρ 102 w v97 y93.times := h98
   obtain ⟨y100, hy101, hS⟩ := bind_some' hS
   refine sq_callg (b := false) (e := 78) rfl rfl hg86 (v := .int .i64 y100) (vs := [.pointer (some ⟨gk_0, 0, none⟩), .pointer (some ⟨g95, 0, none⟩), .int .i64 t_7]) rfl Tryd.call51 rfl (fun w1 hw1 => (secret_Locks_count_ok _ ((hg.fr hz hb).below hw1) (ρA := ρ) (fun b h => Nat.lt_of_lt_of_le (hb.bd b h) hw1.size) (hz.fr hg hb) (τ0 := (fun p => 100 + p)) (fun p => Nat.le_add_right_of_le (by decide)) (τ1 := (fun _ => 102)) (fun _ => by decide) (⟨_, _, (hBk_0.mv (Mv.of_below (i := 100) (ρ := ρ) hw1)), (h80.mv (Mv.of_below (i := 101) (ρ := ρ) hw1)), (Recs.mv hR82 secret_record.objK (Mv.of_below (i := 102) (ρ := ρ) hw1) (by decide))⟩ : secret_Locks.O (fun p => 100 + p) ρ w1 gk_0 ok_0) (⟨_, (hB99.mv (Mv.of_below (i := 102) (ρ := ρ) hw1)), (h98.mv (Mv.of_below (i := 102) (ρ := ρ) hw1) (by decide))⟩ : secret_record.O (fun _ => 102) ρ w1 g95 y93) hy101)) (by decide) ?_
   refine sq_evg (b := false) (e := 78) rfl rfl hg86 (v := .pointer (some ⟨gk_0, 0, none⟩)) (fun w1 hw1 => ev_move rfl) (by decide) ?_
   refine sq_evg (b := false) (e := 78) rfl rfl hg86 (v := .pointer (some ⟨gk_0, 0, none⟩)) (fun w1 hw1 => ev_nilCheck rfl) (by decide) ?_
   refine sq_evg (b := false) (e := 78) rfl rfl hg86 (v := .pointer (some ⟨gk_0, 0, none⟩)) (fun w1 hw1 => ev_fieldAddr (i := 0) Tryd.underlying67 rfl Tryd.info3 rfl rfl) (by decide) ?_
   refine sq_evg (b := false) (e := 78) rfl rfl hg86 (v := .int .i64 ok_0.most) (fun w1 hw1 => ev_load Tryd.isAgg3 rfl ((hBk_0.mv (Mv.of_below (i := 100) (ρ := ρ) hw1)).cell rfl)) (by decide) ?_
   refine sq_evg (b := false) (e := 78) rfl rfl hg86 (v := .bool (decide (y100 ≥ ok_0.most))) (fun w1 hw1 => ev_ge rfl rfl) (by decide) ?_
   refine sq_ev (v := .bool (decide (y100 ≥ ok_0.most))) (fun w1 hw1 => ev_pick_f rfl hg86 rfl) (by decide) ?_
   exact sq_weaken (l' := [(0, .pointer (some ⟨gk_0, 0, none⟩)), (6, (.pointer (some ⟨g95, 0, none⟩))), (7, .int .i64 t_7), (88, .bool (decide (y100 ≥ ok_0.most)))]) (.cons rfl (.cons rfl (.cons rfl (.cons rfl (.nil _))))) (K87 (decide (y100 ≥ ok_0.most)) (Option.some.inj hS).symm)
theorem secret_Locks_Fail_B1_ok {w0 : World} (hg : Gs w0) {ρA : Tags} (hbd : ∀ b, ρA b ≠ 0 → b < w0.heap.size) {o : Nat} (ho2 : 2 ≤ o) {gk_0 : Nat} (hz : Gz (enter ρA o 3)) {r : secret_Locks} {ok_0 : secret_Locks} {now_2 : Int} {r_6k : Str} {v36 : Value} {lp38 : GMap Str (Option Nat)} {vr_6 : Value} (hS : secret_Locks_Fail_B1 ok_0 now_2 r_6k = some r) {ρ : Tags} {w : World} (hb : Fr (enter ρA o 3) w0 ρ w) (hBk_0 : Blk ρ 100 w gk_0 (.cells #[.int .i64 ok_0.most, .int .i64 ok_0.window, .int .i64 ok_0.lock, v36] 67 (0, 0))) (h37 : MapT str ptrC false ρ 101 w v36 lp38) (hR39 : Recs secret_record.O 2 ρ 102 w lp38 ok_0.users) (hpr_6 : vr_6 = pval (mgetD lp38 r_6k none)) :
  KE Tryd.prog 24 (Ret (fun v w' => ∃ ρ', v = .tuple #[] ∧ secret_Locks.O (fun p => o + p) ρ' w' gk_0 r ∧ Tr ρA w0 (rng o 3) ρ' w')) 103 [.code (sub (bodyOf Tryd.f24) [2, 2, 2])] [(0, .pointer (some ⟨gk_0, 0, none⟩)), (2, .int .i64 now_2), (6, vr_6)] w := by
 unfold secret_Locks_Fail_B1 at hS
 refine ke_seq ?_
 refine ke_region ?_
 refine sr_ev (v := .int .i64 now_2) (ev_move rfl) (by decide) ?_
 obtain ⟨y41, hy42, hS⟩ := bind_some' hS
 refine sr_call (vs := [.int .i64 now_2, .int .i64 0]) rfl Tryd.call49 rfl (clock_Add_ok _ (hg.fr hz hb) hy42) (by decide) ?_
 rintro _ w43 ⟨rfl, hbw44⟩
 have htr45 := Tr.of_below hbw44 hb.bd
 replace hBk_0 := hBk_0.mv (htr45.mv (i := 100) rfl)
 replace h37 := h37.mv (htr45.mv (i := 101) rfl)
 replace hR39 := Recs.mv hR39 secret_record.objK (htr45.mv (i := 102) rfl) (by decide)
 replace hb := hb.trans htr45
 refine sr_ev (v := .int .i64 y41) (ev_assign rfl) (by decide) ?_
 refine sr_end (l' := [(0, .pointer (some ⟨gk_0, 0, none⟩)), (6, vr_6), (7, .int .i64 y41)]) (.cons rfl (.cons rfl (.cons rfl (.nil _)))) ?_
 refine ke_seq ?_
 refine ke_region ?_
 refine sr_ev (v := .int .i64 y41) (ev_move rfl) (by decide) ?_
 refine sr_ev (v := vr_6) (ev_move rfl) (by decide) ?_
 obtain ⟨y46, hy47, hS⟩ := bind_some' hS
 obtain ⟨g48, ρ50, hfb51, hvb49, ⟨v54, hB56, h55⟩, hR52, htr53⟩ := Recs.openX hR39 secret_record.objK 200 (by decide) (by decide) (by decide) hb.bd hy47
 obtain rfl := hpr_6.trans hvb49
 replace hBk_0 := hBk_0.mv (htr53.mv (i := 100) rfl)
 replace h37 := h37.mv (htr53.mv (i := 101) rfl)
 replace hb := hb.trans htr53
 replace hB56 : Blk ρ50 200 w43 g48 (.cells #[v54, .int .i64 y46.until_] 75 (0, 0)) := hB56
 replace h55 : OffT (intC .i64) 3 ρ50 201 w43 v54 y46.times := h55
 refine sr_ev (v := .pointer (some ⟨g48, 0, none⟩)) (ev_nilCheck rfl) (by decide) ?_
 refine sr_ev (v := .pointer (some ⟨g48, 1, none⟩)) (ev_fieldAddr (i := 1) Tryd.underlying75 rfl Tryd.info3 rfl rfl) (by decide) ?_
 refine sr_ev (v := .int .i64 y46.until_) (ev_load Tryd.isAgg3 rfl (hB56.cell rfl)) (by decide) ?_
 refine sr_ev (v := .bool (decide (y41 < y46.until_))) (ev_lt rfl rfl) (by decide) ?_
 refine sr_ev (v := .bool (decide (y41 < y46.until_))) (ev_assign rfl) (by decide) ?_
 refine sr_end (l' := [(0, .pointer (some ⟨gk_0, 0, none⟩)), (6, .pointer (some ⟨g48, 0, none⟩)), (7, .int .i64 y41), (8, .bool (decide (y41 < y46.until_)))]) (.cons rfl (.cons rfl (.cons rfl (.cons rfl (.nil _))))) ?_
 refine ke_seq ?_
 refine ke_region ?_
 refine sr_ev (v := .pointer (some ⟨g48, 0, none⟩)) (ev_move rfl) (by decide) ?_
 refine sr_ev (v := .pointer (some ⟨g48, 0, none⟩)) (ev_move rfl) (by decide) ?_
 refine sr_ev (v := .pointer (some ⟨g48, 0, none⟩)) (ev_nilCheck rfl) (by decide) ?_
 refine sr_ev (v := .pointer (some ⟨g48, 0, none⟩)) (ev_fieldAddr (i := 0) Tryd.underlying75 rfl Tryd.info73 rfl rfl) (by decide) ?_
 refine sr_ev (v := v54) (ev_load Tryd.isAgg73 rfl (hB56.cell rfl)) (by decide) ?_
 refine sr_ev (v := .int .i64 y41) (ev_move rfl) (by decide) ?_
 refine sr_litT (c := (intC .i64)) (ρ := ρ50) (E := 3) (xs := [y41]) (vs := #[(0, .int .i64 y41)]) (cs := #[.int .i64 y41]) (css := [[.int .i64 y41]]) rfl (fun _ => by kernel_rfl) rfl ⟨rfl, trivial⟩ rfl (by decide) hb.bd (by decide) ?_
 intro v57 w59 h58 hbw61
 have htr60 := Tr.of_below hbw61 hb.bd
 replace h55 := h55.mv (htr60.mv (i := 201) rfl) (by decide)
 replace hB56 := hB56.mv (htr60.mv (i := 200) rfl)
 replace hBk_0 := hBk_0.mv (htr60.mv (i := 100) rfl)
 replace h37 := h37.mv (htr60.mv (i := 101) rfl)
 replace hR52 := RecsH.mv hR52 secret_record.objK (htr60.mv (i := 102) rfl) (by decide)
 replace hb := hb.trans htr60
 obtain ⟨hk62, hS⟩ := chk_some hS
 refine sr_appendO (i := 201) (c := (intC .i64)) (ρ := ρ50) (E := 3) (xs := y46.times) (ys := ([y41] : List Int)) h55 ((SlT.of_sl (i := 0) h58)).x Tryd.underlying73 Tryd.info3 rfl rfl rfl (by decide) (by decide) (by decide) hb.bd hk62 rfl rfl (by decide) ?_
 intro v63 ρ65 w66 h64 htr67
 replace hB56 := hB56.mv (htr67.mv (i := 200) rfl)
 replace hBk_0 := hBk_0.mv (htr67.mv (i := 100) rfl)
 replace h37 := h37.mv (htr67.mv (i := 101) rfl)
 replace hR52 := RecsH.mv hR52 secret_record.objK (htr67.mv (i := 102) rfl) (by decide)
 replace hb := hb.trans htr67
 refine sr_ev (v := .pointer (some ⟨g48, 0, none⟩)) (ev_nilCheck rfl) (by decide) ?_
 refine sr_ev (v := .pointer (some ⟨g48, 0, none⟩)) (ev_fieldAddr (i := 0) Tryd.underlying75 rfl Tryd.info73 rfl rfl) (by decide) ?_
 refine sr_storeT (v := v63) (vs := [v63]) (cs' := #[v63, .int .i64 y46.until_]) hB56 (by decide) hb.bd rfl rfl (one_cells (OffT.oneCell h64)) Tryd.sizeOf73 rfl (by first | rfl | (simp only [List.all_cons, List.all_nil, OffT.oneCell h64]; done) | (simp only [List.all_cons, List.all_nil, OffT.oneCell h64]; rfl)) rfl ?_
 intro w68 hB561 htr69
 replace h64 := h64.mv (htr69.mv (i := 201) rfl) (by decide)
 replace hBk_0 := hBk_0.mv (htr69.mv (i := 100) rfl)
 replace h37 := h37.mv (htr69.mv (i := 101) rfl)
 replace hR52 := RecsH.mv hR52 secret_record.objK (htr69.mv (i := 102) rfl) (by decide)
 replace hb := hb.trans htr69
 replace hB56 : Blk ρ65 200 w68 g48 (.cells #[v63, .int .i64 y46.until_] 75 (0, 0)) := hB561
 clear hB561
 refine sr_end (l' := [(0, .pointer (some ⟨gk_0, 0, none⟩)), (6, .pointer (some ⟨g48, 0, none⟩)), (7, .int .i64 y41), (8, .bool (decide (y41 < y46.until_)))]) (.cons rfl (.cons rfl (.cons rfl (.cons rfl (.nil _))))) ?_
 refine ke_seq ?_
 refine ke_seq ?_
 refine ke_region ?_
 refine sr_ev (v := .pointer (some ⟨g48, 0, none⟩)) (ev_move rfl) (by decide) ?_
 refine sr_ev (v := .pointer (some ⟨g48, 0, none⟩)) (ev_nilCheck rfl) (by decide) ?_
 refine sr_ev (v := .pointer (some ⟨g48, 0, none⟩)) (ev_fieldAddr (i := 0) Tryd.underlying75 rfl Tryd.info73 rfl rfl) (by decide) ?_
 refine sr_ev (v := v63) (ev_load Tryd.isAgg73 rfl (hB56.cell rfl)) (by decide) ?_
 refine sr_ev (v := .int .i64 ((y46.times ++ ([y41] : List Int)).length : Int)) (ev_sllenW Tryd.underlying73 rfl h64.asSl) (by decide) ?_
 refine sr_ev (v := .bool (decide (((y46.times ++ ([y41] : List Int)).length : Int) > 256))) (ev_gt rfl rfl) (by decide) ?_
 refine sr_end (l' := [(0, .pointer (some ⟨gk_0, 0, none⟩)), (6, .pointer (some ⟨g48, 0, none⟩)), (7, .int .i64 y41), (8, .bool (decide (y41 < y46.until_))), (68, .bool (decide (((y46.times ++ ([y41] : List Int)).length : Int) > 256)))]) (.cons rfl (.cons rfl (.cons rfl (.cons rfl (.cons rfl (.nil _)))))) ?_
 refine ke_cond (t := decide (((y46.times ++ ([y41] : List Int)).length : Int) > 256)) rfl (fun hc70 => ?_) (fun hc70 => ?_)
 ·replace hS := ite_true' hS hc70
  refine ke_region ?_
  refine sr_ev (v := .pointer (some ⟨g48, 0, none⟩)) (ev_move rfl) (by decide) ?_
  refine sr_ev (v := .pointer (some ⟨g48, 0, none⟩)) (ev_move rfl) (by decide) ?_
  refine sr_ev (v := .pointer (some ⟨g48, 0, none⟩)) (ev_nilCheck rfl) (by decide) ?_
  refine sr_ev (v := .pointer (some ⟨g48, 0, none⟩)) (ev_fieldAddr (i := 0) Tryd.underlying75 rfl Tryd.info73 rfl rfl) (by decide) ?_
  refine sr_ev (v := v63) (ev_load Tryd.isAgg73 rfl (hB56.cell rfl)) (by decide) ?_
  obtain ⟨hk71, hS⟩ := chk_some hS
  obtain ⟨v72, h73, hq74⟩ := (h64).cutT_l (P := Tryd.prog) Tryd.underlying73 Tryd.info3 rfl hk71
  refine sr_ev (v := v72) (hq74 w68 rfl rfl) (by decide) ?_
  refine sr_ev (v := .pointer (some ⟨g48, 0, none⟩)) (ev_nilCheck rfl) (by decide) ?_
  refine sr_ev (v := .pointer (some ⟨g48, 0, none⟩)) (ev_fieldAddr (i := 0) Tryd.underlying75 rfl Tryd.info73 rfl rfl) (by decide) ?_
  refine sr_storeT (v := v72) (vs := [v72]) (cs' := #[v72, .int .i64 y46.until_]) hB56 (by decide) hb.bd rfl rfl (one_cells (OffT.oneCell h73)) Tryd.sizeOf73 rfl (by first | rfl | (simp only [List.all_cons, List.all_nil, OffT.oneCell h73]; done) | (simp only [List.all_cons, List.all_nil, OffT.oneCell h73]; rfl)) rfl ?_
  intro w75 hB561 htr76
  replace h73 := h73.mv (htr76.mv (i := 201) rfl) (by decide)
  replace hBk_0 := hBk_0.mv (htr76.mv (i := 100) rfl)
  replace h37 := h37.mv (htr76.mv (i := 101) rfl)
  replace hR52 := RecsH.mv hR52 secret_record.objK (htr76.mv (i := 102) rfl) (by decide)
  replace hb := hb.trans htr76
  replace hB56 : Blk ρ65 200 w75 g48 (.cells #[v72, .int .i64 y46.until_] 75 (0, 0)) := hB561
  clear hB561
  refine sr_end (l' := [(0, .pointer (some ⟨gk_0, 0, none⟩)), (6, .pointer (some ⟨g48, 0, none⟩)), (7, .int .i64 y41), (8, .bool (decide (y41 < y46.until_)))]) (.cons rfl (.cons rfl (.cons rfl (.cons rfl (.nil _))))) ?_
  obtain ⟨hR77, htr78⟩ := RecsH.close hR52 secret_record.objK 200 (by decide) (by decide) (by decide) hb.bd hfb51 (x := (secret_record.mk (cut (y46.times ++ ([y41] : List Int)) 1 ((y46.times ++ ([y41] : List Int)).length)) y46.until_)) ⟨_, hB56, h73⟩
  replace hBk_0 := hBk_0.mv (htr78.mv (i := 100) rfl)
  replace h37 := h37.mv (htr78.mv (i := 101) rfl)
  replace hb := hb.trans htr78
  have hK := secret_Locks_Fail_B2_ok hg hbd ho2 hz hS hb hBk_0 h37 hR77 hvb49.symm
  exact ke_weaken (l' := [(0, .pointer (some ⟨gk_0, 0, none⟩)), (6, (.pointer (some ⟨g48, 0, none⟩))), (7, .int .i64 y41), (8, .bool (decide (y41 < y46.until_)))]) (.cons rfl (.cons rfl (.cons rfl (.cons rfl (.nil _))))) hK
 ·replace hS := ite_false' hS hc70
  refine ke_skip ?_
  obtain ⟨hR185, htr186⟩ := RecsH.close hR52 secret_record.objK 200 (by decide) (by decide) (by decide) hb.bd hfb51 (x := (secret_record.mk (y46.times ++ ([y41] : List Int)) y46.until_)) ⟨_, hB56, h64⟩
  replace hBk_0 := hBk_0.mv (htr186.mv (i := 100) rfl)
  replace h37 := h37.mv (htr186.mv (i := 101) rfl)
  replace hb := hb.trans htr186
  have hK := secret_Locks_Fail_B2_ok hg hbd ho2 hz hS hb hBk_0 h37 hR185 hvb49.symm
  exact ke_weaken (l' := [(0, .pointer (some ⟨gk_0, 0, none⟩)), (6, (.pointer (some ⟨g48, 0, none⟩))), (7, .int .i64 y41), (8, .bool (decide (y41 < y46.until_)))]) (.cons rfl (.cons rfl (.cons rfl (.cons rfl (.nil _))))) hK
theorem secret_Locks_Fail_ok (w0 : World) (hg : Gs w0) {ρA : Tags} (hbd : ∀ b, ρA b ≠ 0 → b < w0.heap.size) (hz : Gz ρA) {o : Nat} (ho2 : 2 ≤ o) {k_0 : secret_Locks} {user_1 : Str} {now_2 : Int} {gk_0 : Nat} {r : secret_Locks} (ho0 : secret_Locks.O (fun p => o + p) ρA w0 gk_0 k_0) (hS : secret_Locks_Fail k_0 user_1 now_2 = some r) :
  Calls Tryd.prog 24 #[.pointer (some ⟨gk_0, 0, none⟩), str user_1, .int .i64 now_2] w0 (Ret (fun v w' => ∃ ρ', v = .tuple #[] ∧ secret_Locks.O (fun p => o + p) ρ' w' gk_0 r ∧ Tr ρA w0 (rng o 3) ρ' w')) := by
 unfold secret_Locks_Fail at hS
 have hb := enter_fr (ρ := ρA) (w := w0) (n := 3) ho2 hbd
 have hz := hz.enter (n := 3) ho2
 obtain ⟨v1, lp3, hB5, h2, hR4⟩ := ho0
 replace hB5 := hB5.mv (enter_mv (p := 0) (n := 3) (by decide) ho2)
 replace h2 := h2.mv (enter_mv (p := 1) (n := 3) (by decide) ho2)
 replace hR4 := Recs.mv hR4 secret_record.objK (enter_mv (p := 2) (n := 3) (by decide) ho2) (by decide)
 replace hB5 : Blk (enter ρA o 3) 100 w0 gk_0 (.cells #[.int .i64 k_0.most, .int .i64 k_0.window, .int .i64 k_0.lock, v1] 67 (0, 0)) := hB5
 replace h2 : MapT str ptrC false (enter ρA o 3) 101 w0 v1 lp3 := h2
 replace hR4 : Recs secret_record.O 2 (enter ρA o 3) 102 w0 lp3 k_0.users := hR4
 refine calls_of_ke Tryd.func24 rfl (n := 103) rfl rfl (l := [(0, .pointer (some ⟨gk_0, 0, none⟩)), (1, str user_1), (2, .int .i64 now_2)]) rfl ?_
 refine ke_seq ?_
 refine ke_seq ?_
 refine ke_region ?_
 refine sr_ev (v := .pointer (some ⟨gk_0, 0, none⟩)) (ev_move rfl) (by decide) ?_
 refine sr_ev (v := .bool false) (ev_peqT_some Tryd.underlying39 rfl rfl) (by decide) ?_
 refine sr_ev (v := .bool false) (ev_move rfl) (by decide) ?_
 refine sr_evg (b := false) (e := 11) rfl rfl rfl (v := .pointer (some ⟨gk_0, 0, none⟩)) (ev_move rfl) (by decide) ?_
 refine sr_evg (b := false) (e := 11) rfl rfl rfl (v := .pointer (some ⟨gk_0, 0, none⟩)) (ev_nilCheck rfl) (by decide) ?_
 refine sr_evg (b := false) (e := 11) rfl rfl rfl (v := .pointer (some ⟨gk_0, 3, none⟩)) (ev_fieldAddr (i := 3) Tryd.underlying67 rfl Tryd.info65 rfl rfl) (by decide) ?_
 refine sr_evg (b := false) (e := 11) rfl rfl rfl (v := v1) (ev_load Tryd.isAgg65 rfl (hB5.cell rfl)) (by decide) ?_
 refine sr_evg (b := false) (e := 11) rfl rfl rfl (v := .bool k_0.users.isNone) (ev_pmNil h2 hR4 Tryd.underlying65 w0 rfl rfl) (by decide) ?_
 refine sr_ev (v := .bool k_0.users.isNone) (ev_pick_f rfl rfl rfl) (by decide) ?_
 refine sr_ev (v := .bool k_0.users.isNone) (ev_move rfl) (by decide) ?_
 obtain ⟨z8, hz10, hS⟩ := bind_some' hS
 refine sr_join (m := 4) (C := fun (z : Bool) w1 => z8 = z ∧ ∃ ρ1, Tr (enter ρA o 3) w0 (fun _ => false) ρ1 w1) (l' := fun z => [(0, .pointer (some ⟨gk_0, 0, none⟩)), (1, str user_1), (2, .int .i64 now_2), (22, .bool z)]) ?_ ?_
 ·rintro _ w11 ⟨rfl, ρ12, hj9⟩
  replace hB5 := hB5.mv (hj9.mv (i := 100) rfl)
  replace h2 := h2.mv (hj9.mv (i := 101) rfl)
  replace hR4 := Recs.mv hR4 secret_record.objK (hj9.mv (i := 102) rfl) (by decide)
  replace hb := hb.trans hj9
  refine sr_end (l' := [(0, .pointer (some ⟨gk_0, 0, none⟩)), (1, str user_1), (2, .int .i64 now_2), (22, .bool z8)]) (.cons rfl (.cons rfl (.cons rfl (.cons rfl (.nil _))))) ?_
  refine ke_cond (t := z8) rfl (fun hc19 => ?_) (fun hc19 => ?_)
  ·replace hS := ite_true' hS hc19
   cases hS
   exact ke_ret0 Tryd.func24 rfl ⟨_, rfl, leave ρA w0 o 3 ρ12, rfl, ⟨_, _, (hB5.mv (leave_mv (p := 0) (by decide) hb)), (h2.mv (leave_mv (p := 1) (by decide) hb)), (Recs.mv hR4 secret_record.objK (leave_mv (p := 2) (by decide) hb) (Nat.ne_of_gt (Nat.lt_of_lt_of_le (Nat.lt_of_lt_of_le Nat.zero_lt_two ho2) (Nat.le_add_right _ _))))⟩, (leave_tr ho2 hb)⟩
  ·replace hS := ite_false' hS hc19
   refine ke_skip ?_
   refine ke_seq ?_
   refine ke_region ?_
   refine sr_ev (v := .pointer (some ⟨gk_0, 0, none⟩)) (ev_move rfl) (by decide) ?_
   refine sr_ev (v := .pointer (some ⟨gk_0, 0, none⟩)) (ev_nilCheck rfl) (by decide) ?_
   refine sr_ev (v := .pointer (some ⟨gk_0, 3, none⟩)) (ev_fieldAddr (i := 3) Tryd.underlying67 rfl Tryd.info65 rfl rfl) (by decide) ?_
   refine sr_ev (v := v1) (ev_load Tryd.isAgg65 rfl (hB5.cell rfl)) (by decide) ?_
   refine sr_ev (v := str user_1) (ev_move rfl) (by decide) ?_
   refine sr_ev (v := (pval (mgetD lp3 user_1 none))) (ev_pmLook h2 Tryd.keyB9 Tryd.underlying65 Tryd.zeroValue72 (Mv.of_below (i := 101) (ρ := ρ12) (Below.refl _ _)) rfl rfl) (by decide) ?_
   refine sr_ev (v := (pval (mgetD lp3 user_1 none))) (ev_assign rfl) (by decide) ?_
   refine sr_end (l' := [(0, .pointer (some ⟨gk_0, 0, none⟩)), (1, str user_1), (2, .int .i64 now_2), (6, (pval (mgetD lp3 user_1 none)))]) (.cons rfl (.cons rfl (.cons rfl (.cons rfl (.nil _))))) ?_
   refine ke_seq ?_
   refine ke_seq ?_
   refine ke_region ?_
   refine sr_ev (v := (pval (mgetD lp3 user_1 none))) (ev_move rfl) (by decide) ?_
   refine sr_ev (v := .bool ((mgetP k_0.users user_1).isNone)) (pptr_eq (p := mgetD lp3 user_1 none) rfl (RecsX.ptrNil hR4 user_1) Tryd.underlying72 rfl rfl) (by decide) ?_
   refine sr_end (l' := [(0, .pointer (some ⟨gk_0, 0, none⟩)), (1, str user_1), (2, .int .i64 now_2), (6, (pval (mgetD lp3 user_1 none))), (30, .bool ((mgetP k_0.users user_1).isNone))]) (.cons rfl (.cons rfl (.cons rfl (.cons rfl (.cons rfl (.nil _)))))) ?_
   refine ke_cond (t := (mgetP k_0.users user_1).isNone) rfl (fun hc20 => ?_) (fun hc20 => ?_)
   ·replace hS := ite_true' hS hc20
    refine ke_seq ?_
    refine ke_seq ?_
    refine ke_region ?_
    refine sr_ev (v := .pointer (some ⟨gk_0, 0, none⟩)) (ev_move rfl) (by decide) ?_
    refine sr_ev (v := .pointer (some ⟨gk_0, 0, none⟩)) (ev_nilCheck rfl) (by decide) ?_
    refine sr_ev (v := .pointer (some ⟨gk_0, 3, none⟩)) (ev_fieldAddr (i := 3) Tryd.underlying67 rfl Tryd.info65 rfl rfl) (by decide) ?_
    refine sr_ev (v := v1) (ev_load Tryd.isAgg65 rfl (hB5.cell rfl)) (by decide) ?_
    refine sr_ev (v := .int .i64 (mlen k_0.users)) (ev_pmLen h2 hR4 Tryd.underlying65 (Mv.of_below (i := 101) (ρ := ρ12) (Below.refl _ _)) rfl) (by decide) ?_
    refine sr_ev (v := .bool (decide ((mlen k_0.users) ≥ 256))) (ev_ge rfl rfl) (by decide) ?_
    refine sr_end (l' := [(0, .pointer (some ⟨gk_0, 0, none⟩)), (1, str user_1), (2, .int .i64 now_2), (36, .bool (decide ((mlen k_0.users) ≥ 256)))]) (.cons rfl (.cons rfl (.cons rfl (.cons rfl (.nil _))))) ?_
    refine ke_cond (t := decide ((mlen k_0.users) ≥ 256)) rfl (fun hc21 => ?_) (fun hc21 => ?_)
    ·replace hS := ite_true' hS hc21
     cases hS
     exact ke_ret0 Tryd.func24 rfl ⟨_, rfl, leave ρA w0 o 3 ρ12, rfl, ⟨_, _, (hB5.mv (leave_mv (p := 0) (by decide) hb)), (h2.mv (leave_mv (p := 1) (by decide) hb)), (Recs.mv hR4 secret_record.objK (leave_mv (p := 2) (by decide) hb) (Nat.ne_of_gt (Nat.lt_of_lt_of_le (Nat.lt_of_lt_of_le Nat.zero_lt_two ho2) (Nat.le_add_right _ _))))⟩, (leave_tr ho2 hb)⟩
    ·replace hS := ite_false' hS hc21
     refine ke_skip ?_
     refine ke_seq ?_
     refine ke_region ?_
     refine sr_ev (v := .agg #[(.slice none 0 0), .int .i64 0]) (ev_build (vs := #[]) rfl (fun _ => by kernel_rfl)) (by decide) ?_
     refine sr_boxT 200 (by decide) hb.bd rfl (by decide) ?_
     intro g22 ρ23 w24 hB26 htr25
     replace hB5 := hB5.mv (htr25.mv (i := 100) rfl)
     replace h2 := h2.mv (htr25.mv (i := 101) rfl)
     replace hR4 := Recs.mv hR4 secret_record.objK (htr25.mv (i := 102) rfl) (by decide)
     replace hb := hb.trans htr25
     replace hB26 : Blk ρ23 200 w24 g22 (.cells #[(.slice none 0 0), .int .i64 0] 75 (0, 0)) := hB26
     refine sr_ev (v := .pointer (some ⟨g22, 0, none⟩)) (ev_assign rfl) (by decide) ?_
     refine sr_end (l' := [(0, .pointer (some ⟨gk_0, 0, none⟩)), (1, str user_1), (2, .int .i64 now_2), (6, .pointer (some ⟨g22, 0, none⟩))]) (.cons rfl (.cons rfl (.cons rfl (.cons rfl (.nil _))))) ?_
     refine ke_region ?_
     refine sr_ev (v := .pointer (some ⟨gk_0, 0, none⟩)) (ev_move rfl) (by decide) ?_
     refine sr_ev (v := .pointer (some ⟨gk_0, 0, none⟩)) (ev_nilCheck rfl) (by decide) ?_
     refine sr_ev (v := .pointer (some ⟨gk_0, 3, none⟩)) (ev_fieldAddr (i := 3) Tryd.underlying67 rfl Tryd.info65 rfl rfl) (by decide) ?_
     refine sr_ev (v := v1) (ev_load Tryd.isAgg65 rfl (hB5.cell rfl)) (by decide) ?_
     refine sr_ev (v := str user_1) (ev_move rfl) (by decide) ?_
     refine sr_ev (v := .pointer (some ⟨g22, 0, none⟩)) (ev_move rfl) (by decide) ?_
     obtain ⟨hk27, hS⟩ := chk_some hS
     have hs30 := (RecsX.isSome hR4).trans hk27
     have hR31 := Recs.putX hR4 hk27 user_1 g22 (secret_record.mk ([] : List Int) 0)
     have hfb32 := find_mput hs30 user_1 (some g22)
     have hvb33 := pval_put hs30 user_1 g22
     refine sr_mapPut (k := user_1) (d := some g22) (u := .pointer (some ⟨g22, 0, none⟩)) (cs := [.pointer (some ⟨g22, 0, none⟩)]) h2 hs30 Tryd.keyB9 Tryd.underlying65 (by decide) hb.bd rfl rfl rfl rfl rfl ?_
     intro w28 h21 htr29
     replace hR31 := RecsH.mv hR31 secret_record.objK (htr29.mv (i := 102) rfl) (by decide)
     replace hB26 := hB26.mv (htr29.mv (i := 200) rfl)
     replace hB5 := hB5.mv (htr29.mv (i := 100) rfl)
     replace hb := hb.trans htr29
     replace h2 := h21
     clear h21
     refine sr_end (l' := [(0, .pointer (some ⟨gk_0, 0, none⟩)), (2, .int .i64 now_2), (6, .pointer (some ⟨g22, 0, none⟩))]) (.cons rfl (.cons rfl (.cons rfl (.nil _)))) ?_
     obtain ⟨hR34, htr35⟩ := RecsH.close hR31 secret_record.objK 200 (by decide) (by decide) (by decide) hb.bd hfb32 (x := (secret_record.mk ([] : List Int) 0)) ⟨_, hB26, OffT.nil⟩
     replace hB5 := hB5.mv (htr35.mv (i := 100) rfl)
     replace h2 := h2.mv (htr35.mv (i := 101) rfl)
     replace hb := hb.trans htr35
     have hK := secret_Locks_Fail_B1_ok hg hbd ho2 hz hS hb hB5 h2 hR34 hvb33.symm
     exact ke_weaken (l' := [(0, .pointer (some ⟨gk_0, 0, none⟩)), (2, .int .i64 now_2), (6, (.pointer (some ⟨g22, 0, none⟩)))]) (.cons rfl (.cons rfl (.cons rfl (.nil _)))) hK
   ·replace hS := ite_false' hS hc20
    refine ke_skip ?_
    have hK := secret_Locks_Fail_B1_ok hg hbd ho2 hz hS hb hB5 h2 hR4 rfl
    exact ke_weaken (l' := [(0, .pointer (some ⟨gk_0, 0, none⟩)), (2, .int .i64 now_2), (6, (pval (mgetD lp3 user_1 none)))]) (.cons rfl (.cons rfl (.cons rfl (.nil _)))) hK
 ·intro K7
  clear hS
  have hj9 : Tr (enter ρA o 3) w0 (fun _ => false) (enter ρA o 3) w0 := (Tr.refl hb.bd).weak (fun _ _ => rfl) rfl rfl
  rcases Bool.eq_false_or_eq_true k_0.users.isNone with hg6 | hg6
  ·have hS := ite_true' hz10 hg6
   refine sr_pass (e := 18) rfl rfl (by rw [hg6]; rfl) (by decide) ?_
   refine sr_pass (e := 18) rfl rfl (by rw [hg6]; rfl) (by decide) ?_
   refine sr_pass (e := 18) rfl rfl (by rw [hg6]; rfl) (by decide) ?_
   refine sr_ev (v := .bool true) (ev_pick_t rfl hg6 rfl) (by decide) ?_
   exact sr_weaken (l' := [(0, .pointer (some ⟨gk_0, 0, none⟩)), (1, str user_1), (2, .int .i64 now_2), (22, .bool true)]) (.cons rfl (.cons rfl (.cons rfl (.cons rfl (.nil _))))) (K7 true _ ⟨(Option.some.inj hS).symm, _, hj9⟩)
  ·have hS := ite_false' hz10 hg6
   refine sr_evg (b := false) (e := 18) rfl rfl hg6 (v := str user_1) (ev_move rfl) (by decide) ?_
   obtain ⟨y14, hy15, hS⟩ := bind_some' hS
   refine sr_callg (b := false) (e := 18) rfl rfl hg6 (vs := [str user_1]) rfl Tryd.call34 rfl (fold_Word_ok _ (hg.fr hz hb) hy15) (by decide) ?_
   rintro _ w16 ⟨rfl, hbw17⟩
   have htr18 := Tr.of_below hbw17 hb.bd
   replace hB5 := hB5.mv (htr18.mv (i := 100) rfl)
   replace h2 := h2.mv (htr18.mv (i := 101) rfl)
   replace hR4 := Recs.mv hR4 secret_record.objK (htr18.mv (i := 102) rfl) (by decide)
   replace hb := hb.trans htr18
   replace hj9 := (hj9.trans htr18).weak (J' := (fun _ => false)) (by intro t h; simp [rng] at h ⊢ <;> omega) rfl rfl
   refine sr_evg (b := false) (e := 18) rfl rfl hg6 (v := .bool (!y14)) (ev_not rfl) (by decide) ?_
   refine sr_ev (v := .bool (!y14)) (ev_pick_f rfl hg6 rfl) (by decide) ?_
   exact sr_weaken (l' := [(0, .pointer (some ⟨gk_0, 0, none⟩)), (1, str user_1), (2, .int .i64 now_2), (22, .bool (!y14))]) (.cons rfl (.cons rfl (.cons rfl (.cons rfl (.nil _))))) (K7 (!y14) _ ⟨(Option.some.inj hS).symm, _, hj9⟩)
theorem secret_Locks_Locked_ok (w0 : World) (hg : Gs w0) {ρA : Tags} (hbd : ∀ b, ρA b ≠ 0 → b < w0.heap.size) (hz : Gz ρA) {τ0 : Nat → Nat} (hτ0 : ∀ p, 1 ≤ τ0 p) {k_0 : secret_Locks} {user_1 : Str} {now_2 : Int} {gk_0 : Nat} {r : Bool} (ho0 : secret_Locks.O τ0 ρA w0 gk_0 k_0) (hS : secret_Locks_Locked k_0 user_1 now_2 = some r) :
  Calls Tryd.prog 28 #[.pointer (some ⟨gk_0, 0, none⟩), str user_1, .int .i64 now_2] w0 (Ret (fun v w' => v = .bool r ∧ Below w0.heap.size w0 w')) := by
 unfold secret_Locks_Locked at hS
 have hb := flat1_fr (ρ := ρA) (w := w0) hbd
 have hz := hz.flat1
 obtain ⟨v1, lp3, hB5, h2, hR4⟩ := ho0
 replace hB5 := hB5.mv (flat1_mv (hτ0 0))
 replace h2 := h2.mv (flat1_mv (hτ0 1))
 replace hR4 := Recs.mv hR4 secret_record.objK (flat1_mv (hτ0 2)) (by decide)
 replace hB5 : Blk (flat1 ρA) 1 w0 gk_0 (.cells #[.int .i64 k_0.most, .int .i64 k_0.window, .int .i64 k_0.lock, v1] 67 (0, 0)) := hB5
 replace h2 : MapT str ptrC false (flat1 ρA) 1 w0 v1 lp3 := h2
 replace hR4 : Recs secret_record.O 2 (flat1 ρA) 1 w0 lp3 k_0.users := hR4
 refine calls_of_ke Tryd.func28 rfl (n := 32) rfl rfl (l := [(0, .pointer (some ⟨gk_0, 0, none⟩)), (1, str user_1), (2, .int .i64 now_2)]) rfl ?_
 refine ke_seq ?_
 refine ke_region ?_
 refine sr_ev (v := .bool false) (ev_assign rfl) (by decide) ?_
 refine sr_end (l' := [(0, .pointer (some ⟨gk_0, 0, none⟩)), (1, str user_1), (2, .int .i64 now_2)]) (.cons rfl (.cons rfl (.cons rfl (.nil _)))) ?_
 refine ke_seq ?_
 refine ke_region_q Tryd.mixed (by kernel_rfl) ?_
 refine sq_ev (v := .pointer (some ⟨gk_0, 0, none⟩)) (fun w1 hw1 => ev_move rfl) (by decide) ?_
 refine sq_ev (v := .bool true) (fun w1 hw1 => ev_pneT_some Tryd.underlying39 rfl rfl) (by decide) ?_
 refine sq_ev (v := .bool true) (fun w1 hw1 => ev_move rfl) (by decide) ?_
 refine sq_evg (b := true) (e := 9) rfl rfl rfl (v := .pointer (some ⟨gk_0, 0, none⟩)) (fun w1 hw1 => ev_move rfl) (by decide) ?_
 refine sq_evg (b := true) (e := 9) rfl rfl rfl (v := .pointer (some ⟨gk_0, 0, none⟩)) (fun w1 hw1 => ev_nilCheck rfl) (by decide) ?_
 refine sq_evg (b := true) (e := 9) rfl rfl rfl (v := .pointer (some ⟨gk_0, 3, none⟩)) (fun w1 hw1 => ev_fieldAddr (i := 3) Tryd.underlying67 rfl Tryd.info65 rfl rfl) (by decide) ?_
 refine sq_evg (b := true) (e := 9) rfl rfl rfl (v := v1) (fun w1 hw1 => ev_load Tryd.isAgg65 rfl ((hB5.mv (Mv.of_below (i := 1) (ρ := (flat1 ρA)) hw1)).cell rfl)) (by decide) ?_
 refine sq_evg (b := true) (e := 9) rfl rfl rfl (v := str user_1) (fun w1 hw1 => ev_move rfl) (by decide) ?_
 refine sq_evg (b := true) (e := 9) rfl rfl rfl (v := (pval (mgetD lp3 user_1 none))) (fun w1 hw1 => ev_pmLook h2 Tryd.keyB9 Tryd.underlying65 Tryd.zeroValue72 (Mv.of_below (i := 1) (ρ := (flat1 ρA)) hw1) rfl rfl) (by decide) ?_
 refine sq_evg (b := true) (e := 9) rfl rfl rfl (v := .bool (!(mgetP k_0.users user_1).isNone)) (fun w1 hw1 => pptr_ne (p := mgetD lp3 user_1 none) rfl (RecsX.ptrNil hR4 user_1) Tryd.underlying72 rfl rfl) (by decide) ?_
 refine sq_ev (v := .bool (!(mgetP k_0.users user_1).isNone)) (fun w1 hw1 => ev_pick_t rfl rfl rfl) (by decide) ?_
 refine sq_ev (v := .bool (!(mgetP k_0.users user_1).isNone)) (fun w1 hw1 => ev_move rfl) (by decide) ?_
 obtain ⟨z10, hz12, hS⟩ := bind_some' hS
 refine sq_join (m := 13) (C := fun (x : Bool) => z10 = x) (l' := fun x => [(31, .bool x)]) ?_ ?_
 ·rintro _ rfl
  refine sq_ev (v := .bool z10) (fun w1 hw1 => ev_assign rfl) (by decide) ?_
  refine sq_end (l' := [(6, .bool z10)]) (.cons rfl (.nil _)) (fun w7 hw6 => ?_)
  have htr27 := Tr.of_below hw6 hb.bd
  replace hb := hb.trans htr27
  cases hS
  exact ke_ret1 Tryd.func28 rfl rfl ⟨_, rfl, rfl, (hb.below (flat1_le _))⟩
 ·intro K9
  clear hS
  rcases Bool.eq_false_or_eq_true (!(mgetP k_0.users user_1).isNone) with hg8 | hg8
  ·have hS := ite_true' hz12 hg8
   refine sq_evg (b := true) (e := 18) rfl rfl hg8 (v := .int .i64 now_2) (fun w1 hw1 => ev_move rfl) (by decide) ?_
   obtain ⟨y15, hy16, hS⟩ := bind_some' hS
   refine sq_callg (b := true) (e := 18) rfl rfl hg8 (v := .int .i64 y15) (vs := [.int .i64 now_2, .int .i64 0]) rfl Tryd.call49 rfl (fun w1 hw1 => (clock_Add_ok _ ((hg.fr hz hb).below hw1) hy16)) (by decide) ?_
   refine sq_evg (b := true) (e := 18) rfl rfl hg8 (v := .pointer (some ⟨gk_0, 0, none⟩)) (fun w1 hw1 => ev_move rfl) (by decide) ?_
   refine sq_evg (b := true) (e := 18) rfl rfl hg8 (v := .pointer (some ⟨gk_0, 0, none⟩)) (fun w1 hw1 => ev_nilCheck rfl) (by decide) ?_
   refine sq_evg (b := true) (e := 18) rfl rfl hg8 (v := .pointer (some ⟨gk_0, 3, none⟩)) (fun w1 hw1 => ev_fieldAddr (i := 3) Tryd.underlying67 rfl Tryd.info65 rfl rfl) (by decide) ?_
   refine sq_evg (b := true) (e := 18) rfl rfl hg8 (v := v1) (fun w1 hw1 => ev_load Tryd.isAgg65 rfl ((hB5.mv (Mv.of_below (i := 1) (ρ := (flat1 ρA)) hw1)).cell rfl)) (by decide) ?_
   refine sq_evg (b := true) (e := 18) rfl rfl hg8 (v := str user_1) (fun w1 hw1 => ev_move rfl) (by decide) ?_
   refine sq_evg (b := true) (e := 18) rfl rfl hg8 (v := (pval (mgetD lp3 user_1 none))) (fun w1 hw1 => ev_pmLook h2 Tryd.keyB9 Tryd.underlying65 Tryd.zeroValue72 (Mv.of_below (i := 1) (ρ := (flat1 ρA)) hw1) rfl rfl) (by decide) ?_
   obtain ⟨y20, hy21, hS⟩ := bind_some' hS
   obtain ⟨g22, hvb23, ⟨v24, hB26, h25⟩⟩ := Recs.peekX hR4 secret_record.objK (by decide) hy21
   try rw [hvb23]
   replace hB26 : Blk (flat1 ρA) 1 w0 g22 (.cells #[v24, .int .i64 y20.until_] 75 (0, 0)) := hB26
   replace h25 : OffT (intC .i64) 3 (flat1 ρA) 1 w0 v24 y20.times := h25
   refine sq_evg (b := true) (e := 18) rfl rfl hg8 (v := .pointer (some ⟨g22, 0, none⟩)) (fun w1 hw1 => ev_nilCheck rfl) (by decide) ?_
   refine sq_evg (b := true) (e := 18) rfl rfl hg8 (v := .pointer (some ⟨g22, 1, none⟩)) (fun w1 hw1 => ev_fieldAddr (i := 1) Tryd.underlying75 rfl Tryd.info3 rfl rfl) (by decide) ?_
   refine sq_evg (b := true) (e := 18) rfl rfl hg8 (v := .int .i64 y20.until_) (fun w1 hw1 => ev_load Tryd.isAgg3 rfl ((hB26.mv (Mv.of_below (i := 1) (ρ := (flat1 ρA)) hw1)).cell rfl)) (by decide) ?_
   refine sq_evg (b := true) (e := 18) rfl rfl hg8 (v := .bool (decide (y15 < y20.until_))) (fun w1 hw1 => ev_lt rfl rfl) (by decide) ?_
   refine sq_ev (v := .bool (decide (y15 < y20.until_))) (fun w1 hw1 => ev_pick_t rfl hg8 rfl) (by decide) ?_
   exact sq_weaken (l' := [(31, .bool (decide (y15 < y20.until_)))]) (.cons rfl (.nil _)) (K9 (decide (y15 < y20.until_)) (Option.some.inj hS).symm)
  ·have hS := ite_false' hz12 hg8
   refine sq_pass (e := 18) rfl rfl (by rw [hg8]; rfl) (by decide) ?_
   refine sq_pass (e := 18) rfl rfl (by rw [hg8]; rfl) (by decide) ?_
   refine sq_pass (e := 18) rfl rfl (by rw [hg8]; rfl) (by decide) ?_
   refine sq_pass (e := 18) rfl rfl (by rw [hg8]; rfl) (by decide) ?_
   refine sq_pass (e := 18) rfl rfl (by rw [hg8]; rfl) (by decide) ?_
   refine sq_pass (e := 18) rfl rfl (by rw [hg8]; rfl) (by decide) ?_
   refine sq_pass (e := 18) rfl rfl (by rw [hg8]; rfl) (by decide) ?_
   refine sq_pass (e := 18) rfl rfl (by rw [hg8]; rfl) (by decide) ?_
   refine sq_pass (e := 18) rfl rfl (by rw [hg8]; rfl) (by decide) ?_
   refine sq_pass (e := 18) rfl rfl (by rw [hg8]; rfl) (by decide) ?_
   refine sq_pass (e := 18) rfl rfl (by rw [hg8]; rfl) (by decide) ?_
   refine sq_pass (e := 18) rfl rfl (by rw [hg8]; rfl) (by decide) ?_
   refine sq_ev (v := .bool false) (fun w1 hw1 => ev_pick_f rfl hg8 rfl) (by decide) ?_
   exact sq_weaken (l' := [(31, .bool false)]) (.cons rfl (.nil _)) (K9 false (Option.some.inj hS).symm)
theorem secret_Locks_Failures_ok (w0 : World) (hg : Gs w0) {ρA : Tags} (hbd : ∀ b, ρA b ≠ 0 → b < w0.heap.size) (hz : Gz ρA) {τ0 : Nat → Nat} (hτ0 : ∀ p, 1 ≤ τ0 p) {k_0 : secret_Locks} {user_1 : Str} {now_2 : Int} {gk_0 : Nat} {r : Int} (ho0 : secret_Locks.O τ0 ρA w0 gk_0 k_0) (hS : secret_Locks_Failures k_0 user_1 now_2 = some r) :
  Calls Tryd.prog 30 #[.pointer (some ⟨gk_0, 0, none⟩), str user_1, .int .i64 now_2] w0 (Ret (fun v w' => v = .int .i64 r ∧ Below w0.heap.size w0 w')) := by
 unfold secret_Locks_Failures at hS
 have hb := flat1_fr (ρ := ρA) (w := w0) hbd
 have hz := hz.flat1
 obtain ⟨v1, lp3, hB5, h2, hR4⟩ := ho0
 replace hB5 := hB5.mv (flat1_mv (hτ0 0))
 replace h2 := h2.mv (flat1_mv (hτ0 1))
 replace hR4 := Recs.mv hR4 secret_record.objK (flat1_mv (hτ0 2)) (by decide)
 replace hB5 : Blk (flat1 ρA) 1 w0 gk_0 (.cells #[.int .i64 k_0.most, .int .i64 k_0.window, .int .i64 k_0.lock, v1] 67 (0, 0)) := hB5
 replace h2 : MapT str ptrC false (flat1 ρA) 1 w0 v1 lp3 := h2
 replace hR4 : Recs secret_record.O 2 (flat1 ρA) 1 w0 lp3 k_0.users := hR4
 refine calls_of_ke Tryd.func30 rfl (n := 28) rfl rfl (l := [(0, .pointer (some ⟨gk_0, 0, none⟩)), (1, str user_1), (2, .int .i64 now_2)]) rfl ?_
 refine ke_seq ?_
 refine ke_region ?_
 refine sr_ev (v := .int .i64 0) (ev_assign rfl) (by decide) ?_
 refine sr_end (l' := [(0, .pointer (some ⟨gk_0, 0, none⟩)), (1, str user_1), (2, .int .i64 now_2)]) (.cons rfl (.cons rfl (.cons rfl (.nil _)))) ?_
 refine ke_seq ?_
 refine ke_seq ?_
 refine ke_region ?_
 refine sr_ev (v := .pointer (some ⟨gk_0, 0, none⟩)) (ev_move rfl) (by decide) ?_
 refine sr_ev (v := .bool false) (ev_peqT_some Tryd.underlying39 rfl rfl) (by decide) ?_
 refine sr_ev (v := .bool false) (ev_move rfl) (by decide) ?_
 refine sr_evg (b := false) (e := 9) rfl rfl rfl (v := .pointer (some ⟨gk_0, 0, none⟩)) (ev_move rfl) (by decide) ?_
 refine sr_evg (b := false) (e := 9) rfl rfl rfl (v := .pointer (some ⟨gk_0, 0, none⟩)) (ev_nilCheck rfl) (by decide) ?_
 refine sr_evg (b := false) (e := 9) rfl rfl rfl (v := .pointer (some ⟨gk_0, 3, none⟩)) (ev_fieldAddr (i := 3) Tryd.underlying67 rfl Tryd.info65 rfl rfl) (by decide) ?_
 refine sr_evg (b := false) (e := 9) rfl rfl rfl (v := v1) (ev_load Tryd.isAgg65 rfl (hB5.cell rfl)) (by decide) ?_
 refine sr_evg (b := false) (e := 9) rfl rfl rfl (v := str user_1) (ev_move rfl) (by decide) ?_
 refine sr_evg (b := false) (e := 9) rfl rfl rfl (v := (pval (mgetD lp3 user_1 none))) (ev_pmLook h2 Tryd.keyB9 Tryd.underlying65 Tryd.zeroValue72 (Mv.of_below (i := 1) (ρ := (flat1 ρA)) (Below.refl _ _)) rfl rfl) (by decide) ?_
 refine sr_evg (b := false) (e := 9) rfl rfl rfl (v := .bool ((mgetP k_0.users user_1).isNone)) (pptr_eq (p := mgetD lp3 user_1 none) rfl (RecsX.ptrNil hR4 user_1) Tryd.underlying72 rfl rfl) (by decide) ?_
 refine sr_ev (v := .bool ((mgetP k_0.users user_1).isNone)) (ev_pick_f rfl rfl rfl) (by decide) ?_
 refine sr_end (l' := [(0, .pointer (some ⟨gk_0, 0, none⟩)), (1, str user_1), (2, .int .i64 now_2), (17, .bool ((mgetP k_0.users user_1).isNone))]) (.cons rfl (.cons rfl (.cons rfl (.cons rfl (.nil _))))) ?_
 refine ke_cond (t := (mgetP k_0.users user_1).isNone) rfl (fun hc6 => ?_) (fun hc6 => ?_)
 ·replace hS := ite_true' hS hc6
  refine ke_seq ?_
  refine ke_region ?_
  refine sr_ev (v := .int .i64 0) (ev_assign rfl) (by decide) ?_
  refine sr_end (l' := [(6, .int .i64 0)]) (.cons rfl (.nil _)) ?_
  cases hS
  exact ke_ret1 Tryd.func30 rfl rfl ⟨_, rfl, rfl, (hb.below (flat1_le _))⟩
 ·replace hS := ite_false' hS hc6
  refine ke_skip ?_
  refine ke_seq ?_
  refine ke_region_q Tryd.mixed (by kernel_rfl) ?_
  refine sq_ev (v := .pointer (some ⟨gk_0, 0, none⟩)) (fun w1 hw1 => ev_move rfl) (by decide) ?_
  refine sq_ev (v := .pointer (some ⟨gk_0, 0, none⟩)) (fun w1 hw1 => ev_move rfl) (by decide) ?_
  refine sq_ev (v := .pointer (some ⟨gk_0, 0, none⟩)) (fun w1 hw1 => ev_nilCheck rfl) (by decide) ?_
  refine sq_ev (v := .pointer (some ⟨gk_0, 3, none⟩)) (fun w1 hw1 => ev_fieldAddr (i := 3) Tryd.underlying67 rfl Tryd.info65 rfl rfl) (by decide) ?_
  refine sq_ev (v := v1) (fun w1 hw1 => ev_load Tryd.isAgg65 rfl ((hB5.mv (Mv.of_below (i := 1) (ρ := (flat1 ρA)) hw1)).cell rfl)) (by decide) ?_
  refine sq_ev (v := str user_1) (fun w1 hw1 => ev_move rfl) (by decide) ?_
  refine sq_ev (v := (pval (mgetD lp3 user_1 none))) (fun w1 hw1 => ev_pmLook h2 Tryd.keyB9 Tryd.underlying65 Tryd.zeroValue72 (Mv.of_below (i := 1) (ρ := (flat1 ρA)) hw1) rfl rfl) (by decide) ?_
  refine sq_ev (v := .int .i64 now_2) (fun w1 hw1 => ev_move rfl) (by decide) ?_
  obtain ⟨y9, hy10, hS⟩ := bind_some' hS
  refine sq_call (v := .int .i64 y9) (vs := [.int .i64 now_2, .int .i64 0]) rfl Tryd.call49 rfl (fun w1 hw1 => (clock_Add_ok _ ((hg.fr hz hb).below hw1) hy10)) (by decide) ?_
  obtain ⟨y14, hy15, hS⟩ := bind_some' hS
  obtain ⟨g16, hvb17, ⟨v18, hB20, h19⟩⟩ := Recs.peekX hR4 secret_record.objK (by decide) hy15
  try rw [hvb17]
  replace hB20 : Blk (flat1 ρA) 1 w0 g16 (.cells #[v18, .int .i64 y14.until_] 75 (0, 0)) := hB20
  replace h19 : OffT (intC .i64) 3 (flat1 ρA) 1 w0 v18 y14.times := h19
  obtain ⟨y21, hy22, hS⟩ := bind_some' hS
  refine sq_call (v := .int .i64 y21) (vs := [.pointer (some ⟨gk_0, 0, none⟩), .pointer (some ⟨g16, 0, none⟩), .int .i64 y9]) rfl Tryd.call51 rfl (fun w1 hw1 => (secret_Locks_count_ok _ ((hg.fr hz hb).below hw1) (ρA := (flat1 ρA)) (fun b h => Nat.lt_of_lt_of_le (hb.bd b h) hw1.size) (hz.fr hg hb) (τ0 := (fun _ => 1)) (fun _ => by decide) (τ1 := (fun _ => 1)) (fun _ => by decide) (⟨_, _, (hB5.mv (Mv.of_below (i := 1) (ρ := (flat1 ρA)) hw1)), (h2.mv (Mv.of_below (i := 1) (ρ := (flat1 ρA)) hw1)), (Recs.mv hR4 secret_record.objK (Mv.of_below (i := 1) (ρ := (flat1 ρA)) hw1) (by decide))⟩ : secret_Locks.O (fun _ => 1) (flat1 ρA) w1 gk_0 k_0) (⟨_, (hB20.mv (Mv.of_below (i := 1) (ρ := (flat1 ρA)) hw1)), (h19.mv (Mv.of_below (i := 1) (ρ := (flat1 ρA)) hw1) (by decide))⟩ : secret_record.O (fun _ => 1) (flat1 ρA) w1 g16 y14) hy22)) (by decide) ?_
  refine sq_ev (v := .int .i64 y21) (fun w1 hw1 => ev_assign rfl) (by decide) ?_
  refine sq_end (l' := [(6, .int .i64 y21)]) (.cons rfl (.nil _)) (fun w8 hw7 => ?_)
  have htr26 := Tr.of_below hw7 hb.bd
  replace hb := hb.trans htr26
  cases hS
  exact ke_ret1 Tryd.func30 rfl rfl ⟨_, rfl, rfl, (hb.below (flat1_le _))⟩
theorem secret_Reused_L1_ok {w0 : World} (hg : Gs w0) {A0 : Nat → Prop} (hA0 : ∀ b, A0 b → b < w0.heap.size) : ∀ (n : Nat), ∀ {r : Bool} {password_1 : Str} {t_7 : List api_Verifier} {t_8 : Int} {t_9 : Int} {vt_7 : Value}, secret_Reused_L1 n password_1 t_7 t_8 t_9 = some r → ∀ {w : World} {A : Nat → Prop}, (Below w0.heap.size w0 w) → (∀ b, A b → b < w.heap.size) → (∀ b, A0 b → A b) → (Hp A w0.heap.size w []) → (SlR api_Verifier.c A w vt_7 t_7) → KE Tryd.prog 16 (Ret (fun v w' => v = .bool r ∧ Below w0.heap.size w0 w')) 17 [.code (sub (bodyOf Tryd.f16) [2, 1, 2, 2, 1]), .inLoop (sub (bodyOf Tryd.f16) [2, 1, 2, 2, 1]), .inBlock 0, .code (sub (bodyOf Tryd.f16) [2, 2])] [(1, str password_1), (7, vt_7), (8, .int .i64 t_8), (9, .int .i64 t_9)] w := by
 intro n
 induction n with
 | zero => intro r password_1 t_7 t_8 t_9 vt_7 hS; cases hS
 | succ n ih =>
  have hr0 : ∀ {r : Bool} {password_1 : Str} {t_7 : List api_Verifier} {t_8 : Int} {t_9 : Int} {vt_7 : Value}, secret_Reused_L1 n password_1 t_7 t_8 t_9 = some r → ∀ {w : World} {A : Nat → Prop}, (Below w0.heap.size w0 w) → (∀ b, A b → b < w.heap.size) → (∀ b, A0 b → A b) → (Hp A w0.heap.size w []) → (SlR api_Verifier.c A w vt_7 t_7) → KE Tryd.prog 16 (Ret (fun v w' => v = .bool r ∧ Below w0.heap.size w0 w')) 17 [.inLoop (sub (bodyOf Tryd.f16) [2, 1, 2, 2, 1]), .inBlock 0, .code (sub (bodyOf Tryd.f16) [2, 2])] [(1, str password_1), (7, vt_7), (8, .int .i64 t_8), (9, .int .i64 t_9)] w := fun {r} {password_1} {t_7} {t_8} {t_9} {vt_7} hS {w} {A} hb hA hi hH ht_7 => ke_inLoop (ih hS hb hA hi hH ht_7)
  clear ih
  intro r password_1 t_7 t_8 t_9 vt_7 hS w A hb hA hi hH ht_7
  unfold secret_Reused_L1 at hS
  refine ke_seq ?_
  refine ke_region ?_
  refine sr_ev (v := .bool (decide (t_9 < t_8))) (ev_lt rfl rfl) (by decide) ?_
  refine sr_end (l' := [(1, str password_1), (7, vt_7), (8, .int .i64 t_8), (9, .int .i64 t_9), (10, .bool (decide (t_9 < t_8)))]) (.cons rfl (.cons rfl (.cons rfl (.cons rfl (.cons rfl (.nil _)))))) ?_
  refine ke_seq ?_
  refine ke_cond (t := decide (t_9 < t_8)) rfl (fun hc3 => ?_) (fun hc3 => ?_)
  ·replace hS := ite_true' hS hc3
   refine ke_skip ?_
   refine ke_seq ?_
   refine ke_block ?_
   refine ke_seq ?_
   refine ke_region ?_
   obtain ⟨y4, hy5, hS⟩ := bind_some' hS
   refine sr_index ht_7 Tryd.underlying22 Tryd.info25 rfl rfl rfl hy5 (by decide) ?_
   intro b6 o7 cs9 he8
   obtain rfl : cs9 = [str y4.Salt, .int .i64 y4.Rounds, str y4.Hash] := he8.rd
   refine sr_ev (v := .agg #[str y4.Salt, .int .i64 y4.Rounds, str y4.Hash]) (ev_loads Tryd.isAgg25 Tryd.sizeOf25 rfl he8.cell) (by decide) ?_
   refine sr_alloc hH hb.size hA Tryd.zeroValue25 (by decide) ?_
   intro g10 A11 w12 hH1 hst13 hbw14 hinc15 hA1 hge16
   replace hb := hb.trans (hbw14.mono hb.size)
   replace hi := fun b hb => hinc15 b (hi b hb)
   replace ht_7 := ht_7.step hst13
   replace hH : Hp A11 w0.heap.size w12 [(g10, .cells #[str ([]), .int .i64 0, str ([])] 25 (0, 0))] := hH1
   replace hA := hA1
   clear hH1 hA1
   refine sr_store (i := 0) (v := .agg #[str y4.Salt, .int .i64 y4.Rounds, str y4.Hash]) (vs := [str y4.Salt, .int .i64 y4.Rounds, str y4.Hash]) (cs' := #[str y4.Salt, .int .i64 y4.Rounds, str y4.Hash]) hH rfl rfl rfl rfl Tryd.sizeOf25 rfl rfl rfl ?_
   intro w17 hH1 hwr18
   replace hb := hwr18.below hb (hH.base _ (List.mem_of_getElem? (i := 0) rfl))
   replace hA := hwr18.lt hA
   replace ht_7 := ht_7.step hwr18.st
   replace hH : Hp A11 w0.heap.size w17 [(g10, .cells #[str y4.Salt, .int .i64 y4.Rounds, str y4.Hash] 25 (0, 0))] := hH1
   clear hH1
   refine sr_end (l' := [(1, str password_1), (6, .pointer (some ⟨g10, 0, none⟩)), (7, vt_7), (8, .int .i64 t_8), (9, .int .i64 t_9)]) (.cons rfl (.cons rfl (.cons rfl (.cons rfl (.cons rfl (.nil _)))))) ?_
   refine ke_seq ?_
   refine ke_region ?_
   refine sr_ev (v := .agg #[str y4.Salt, .int .i64 y4.Rounds, str y4.Hash]) (ev_loads Tryd.isAgg25 Tryd.sizeOf25 rfl (hH.cells (i := 0) (vs := [str y4.Salt, .int .i64 y4.Rounds, str y4.Hash]) rfl rfl)) (by decide) ?_
   refine sr_ev (v := str password_1) (ev_move rfl) (by decide) ?_
   obtain ⟨y19, hy20, hS⟩ := bind_some' hS
   refine sr_call (vs := [.agg #[str y4.Salt, .int .i64 y4.Rounds, str y4.Hash], str password_1]) rfl Tryd.call14 rfl (secret_Check_ok _ (hg.below hb) hy20) (by decide) ?_
   rintro _ w21 ⟨rfl, hbw22⟩
   replace hb := hb.trans (hbw22.mono hb.size)
   replace hA := lt_mono hA hbw22.size
   replace hH := hH.below hbw22
   replace ht_7 := ht_7.below hbw22
   refine sr_end (l' := [(1, str password_1), (7, vt_7), (8, .int .i64 t_8), (9, .int .i64 t_9), (15, .bool y19)]) (.cons rfl (.cons rfl (.cons rfl (.cons rfl (.cons rfl (.nil _)))))) ?_
   refine ke_cond (t := y19) rfl (fun hc23 => ?_) (fun hc23 => ?_)
   ·replace hS := ite_true' hS hc23
    refine ke_seq ?_
    refine ke_region ?_
    refine sr_ev (v := .bool true) (ev_assign rfl) (by decide) ?_
    refine sr_end (l' := [(4, .bool true)]) (.cons rfl (.nil _)) ?_
    cases hS
    exact ke_ret1 Tryd.func16 rfl rfl ⟨_, rfl, rfl, hb⟩
   ·replace hS := ite_false' hS hc23
    refine ke_skip ?_
    refine ke_inBlock ?_
    refine ke_region ?_
    refine sr_ev (v := .int .i64 (IntKind.i64.wrap (t_9 + 1))) (ev_add rfl rfl) (by decide) ?_
    refine sr_ev (v := .int .i64 (IntKind.i64.wrap (t_9 + 1))) (ev_move rfl) (by decide) ?_
    refine sr_end (l' := [(1, str password_1), (7, vt_7), (8, .int .i64 t_8), (9, .int .i64 (IntKind.i64.wrap (t_9 + 1)))]) (.cons rfl (.cons rfl (.cons rfl (.cons rfl (.nil _))))) ?_
    have hK := hr0 hS hb hA hi (hH.sub (.cons _ .slnil)) ht_7
    exact ke_weaken (l' := [(1, str password_1), (7, vt_7), (8, .int .i64 t_8), (9, .int .i64 (IntKind.i64.wrap (t_9 + 1)))]) (.cons rfl (.cons rfl (.cons rfl (.cons rfl (.nil _))))) hK
  ·replace hS := ite_false' hS hc3
   refine ke_exit (k' := _) rfl ?_
   refine ke_seq ?_
   refine ke_region ?_
   refine sr_ev (v := .bool false) (ev_assign rfl) (by decide) ?_
   refine sr_end (l' := [(4, .bool false)]) (.cons rfl (.nil _)) ?_
   cases hS
   exact ke_ret1 Tryd.func16 rfl rfl ⟨_, rfl, rfl, hb⟩
theorem secret_Reused_ok {A0 : Nat → Prop} (w0 : World) (hg : Gs w0) {l_0 : List api_Verifier} {password_1 : Str} {v1 : Value} {r : Bool} (h2 : SlR api_Verifier.c A0 w0 v1 l_0) (hS : secret_Reused l_0 password_1 = some r) :
  Calls Tryd.prog 16 #[v1, str password_1] w0 (Ret (fun v w' => v = .bool r ∧ Below w0.heap.size w0 w')) := by
 unfold secret_Reused at hS
 have hb := Below.refl w0.heap.size w0
 replace h2 := h2.weak (A' := fun _ => False) (fun _ h => h.elim)
 obtain ⟨A0, hA0, hAe⟩ : ∃ A0 : Nat → Prop, (∀ b, A0 b → b < w0.heap.size) ∧ A0 = fun _ => False := ⟨_, fun _ h => h.elim, rfl⟩
 rw [← hAe] at h2
 clear hAe
 have hA := hA0
 have hi : ∀ b, A0 b → A0 b := fun _ h => h
 have hH := Hp.nil A0 w0.heap.size w0
 refine calls_of_ke Tryd.func16 rfl (n := 17) rfl rfl (l := [(0, v1), (1, str password_1)]) rfl ?_
 refine ke_seq ?_
 refine ke_region ?_
 refine sr_ev (v := .bool false) (ev_assign rfl) (by decide) ?_
 refine sr_end (l' := [(0, v1), (1, str password_1)]) (.cons rfl (.cons rfl (.nil _))) ?_
 refine ke_seq ?_
 refine ke_seq ?_
 refine ke_region ?_
 refine sr_ev (v := v1) (ev_move rfl) (by decide) ?_
 refine sr_ev (v := .int .i64 (l_0.length : Int)) (ev_sllen Tryd.underlying22 rfl h2) (by decide) ?_
 refine sr_ev (v := .int .i64 0) (ev_move rfl) (by decide) ?_
 refine sr_end (l' := [(1, str password_1), (7, v1), (8, .int .i64 (l_0.length : Int)), (9, .int .i64 0)]) (.cons rfl (.cons rfl (.cons rfl (.cons rfl (.nil _))))) ?_
 refine ke_block ?_
 have hK := secret_Reused_L1_ok hg hA0 _ hS hb hA hi hH h2
 exact ke_weaken (l' := [(1, str password_1), (7, v1), (8, .int .i64 (l_0.length : Int)), (9, .int .i64 0)]) (.cons rfl (.cons rfl (.cons rfl (.cons rfl (.nil _))))) (ke_loop hK)

end YteifnoehmfjogaaDoor
end Go.Proofs
