/- Own work: a part of the proofs of this seat. -/
import Derived.Test.YtlmnhekpgjgndaaDoorProg
import Derived.Test.YtlmnhekpgjgndaaDoorShelf
import Derived.Test.YtlmnhekpgjgndaaDoorKwCS
import Derived.KernelRfl
set_option linter.unusedVariables false
set_option maxHeartbeats 8000000
namespace Go.Proofs
namespace YtlmnhekpgjgndaaDoor
open Go Go.KW Go.KW.S Go.RowKit
theorem Tryd.mixed : Tryd.prog.follows .mixedOrders = true := by kernel_rfl
theorem Tryd.info0 : Tryd.prog.info? 0 = some Tryd.t0 := by kernel_rfl
theorem Tryd.info1 : Tryd.prog.info? 1 = some Tryd.t1 := by kernel_rfl
theorem Tryd.info2 : Tryd.prog.info? 2 = some Tryd.t2 := by kernel_rfl
theorem Tryd.info3 : Tryd.prog.info? 3 = some Tryd.t3 := by kernel_rfl
theorem Tryd.info4 : Tryd.prog.info? 4 = some Tryd.t4 := by kernel_rfl
theorem Tryd.info5 : Tryd.prog.info? 5 = some Tryd.t5 := by kernel_rfl
theorem Tryd.info6 : Tryd.prog.info? 6 = some Tryd.t6 := by kernel_rfl
theorem Tryd.info7 : Tryd.prog.info? 7 = some Tryd.t7 := by kernel_rfl
theorem Tryd.info8 : Tryd.prog.info? 8 = some Tryd.t8 := by kernel_rfl
theorem Tryd.info9 : Tryd.prog.info? 9 = some Tryd.t9 := by kernel_rfl
theorem Tryd.info10 : Tryd.prog.info? 10 = some Tryd.t10 := by kernel_rfl
theorem Tryd.info11 : Tryd.prog.info? 11 = some Tryd.t11 := by kernel_rfl
theorem Tryd.info12 : Tryd.prog.info? 12 = some Tryd.t12 := by kernel_rfl
theorem Tryd.info13 : Tryd.prog.info? 13 = some Tryd.t13 := by kernel_rfl
theorem Tryd.info14 : Tryd.prog.info? 14 = some Tryd.t14 := by kernel_rfl
theorem Tryd.info15 : Tryd.prog.info? 15 = some Tryd.t15 := by kernel_rfl
theorem Tryd.info16 : Tryd.prog.info? 16 = some Tryd.t16 := by kernel_rfl
theorem Tryd.info17 : Tryd.prog.info? 17 = some Tryd.t17 := by kernel_rfl
theorem Tryd.info18 : Tryd.prog.info? 18 = some Tryd.t18 := by kernel_rfl
theorem Tryd.info19 : Tryd.prog.info? 19 = some Tryd.t19 := by kernel_rfl
theorem Tryd.info20 : Tryd.prog.info? 20 = some Tryd.t20 := by kernel_rfl
theorem Tryd.info21 : Tryd.prog.info? 21 = some Tryd.t21 := by kernel_rfl
theorem Tryd.info22 : Tryd.prog.info? 22 = some Tryd.t22 := by kernel_rfl
theorem Tryd.info23 : Tryd.prog.info? 23 = some Tryd.t23 := by kernel_rfl
theorem Tryd.info24 : Tryd.prog.info? 24 = some Tryd.t24 := by kernel_rfl
theorem Tryd.info25 : Tryd.prog.info? 25 = some Tryd.t25 := by kernel_rfl
theorem Tryd.info26 : Tryd.prog.info? 26 = some Tryd.t26 := by kernel_rfl
theorem Tryd.info27 : Tryd.prog.info? 27 = some Tryd.t27 := by kernel_rfl
theorem Tryd.info28 : Tryd.prog.info? 28 = some Tryd.t28 := by kernel_rfl
theorem Tryd.info29 : Tryd.prog.info? 29 = some Tryd.t29 := by kernel_rfl
theorem Tryd.info30 : Tryd.prog.info? 30 = some Tryd.t30 := by kernel_rfl
theorem Tryd.info31 : Tryd.prog.info? 31 = some Tryd.t31 := by kernel_rfl
theorem Tryd.info32 : Tryd.prog.info? 32 = some Tryd.t32 := by kernel_rfl
theorem Tryd.info33 : Tryd.prog.info? 33 = some Tryd.t33 := by kernel_rfl
theorem Tryd.info34 : Tryd.prog.info? 34 = some Tryd.t34 := by kernel_rfl
theorem Tryd.info35 : Tryd.prog.info? 35 = some Tryd.t35 := by kernel_rfl
theorem Tryd.info36 : Tryd.prog.info? 36 = some Tryd.t36 := by kernel_rfl
theorem Tryd.info37 : Tryd.prog.info? 37 = some Tryd.t37 := by kernel_rfl
theorem Tryd.info38 : Tryd.prog.info? 38 = some Tryd.t38 := by kernel_rfl
theorem Tryd.info39 : Tryd.prog.info? 39 = some Tryd.t39 := by kernel_rfl
theorem Tryd.info40 : Tryd.prog.info? 40 = some Tryd.t40 := by kernel_rfl
theorem Tryd.info41 : Tryd.prog.info? 41 = some Tryd.t41 := by kernel_rfl
theorem Tryd.info42 : Tryd.prog.info? 42 = some Tryd.t42 := by kernel_rfl
theorem Tryd.info43 : Tryd.prog.info? 43 = some Tryd.t43 := by kernel_rfl
theorem Tryd.info44 : Tryd.prog.info? 44 = some Tryd.t44 := by kernel_rfl
theorem Tryd.info45 : Tryd.prog.info? 45 = some Tryd.t45 := by kernel_rfl
theorem Tryd.info46 : Tryd.prog.info? 46 = some Tryd.t46 := by kernel_rfl
theorem Tryd.info47 : Tryd.prog.info? 47 = some Tryd.t47 := by kernel_rfl
theorem Tryd.info48 : Tryd.prog.info? 48 = some Tryd.t48 := by kernel_rfl
theorem Tryd.info49 : Tryd.prog.info? 49 = some Tryd.t49 := by kernel_rfl
theorem Tryd.info50 : Tryd.prog.info? 50 = some Tryd.t50 := by kernel_rfl
theorem Tryd.info51 : Tryd.prog.info? 51 = some Tryd.t51 := by kernel_rfl
theorem Tryd.info52 : Tryd.prog.info? 52 = some Tryd.t52 := by kernel_rfl
theorem Tryd.info53 : Tryd.prog.info? 53 = some Tryd.t53 := by kernel_rfl
theorem Tryd.info54 : Tryd.prog.info? 54 = some Tryd.t54 := by kernel_rfl
theorem Tryd.info55 : Tryd.prog.info? 55 = some Tryd.t55 := by kernel_rfl
theorem Tryd.info56 : Tryd.prog.info? 56 = some Tryd.t56 := by kernel_rfl
theorem Tryd.info57 : Tryd.prog.info? 57 = some Tryd.t57 := by kernel_rfl
theorem Tryd.info58 : Tryd.prog.info? 58 = some Tryd.t58 := by kernel_rfl
theorem Tryd.info59 : Tryd.prog.info? 59 = some Tryd.t59 := by kernel_rfl
theorem Tryd.info60 : Tryd.prog.info? 60 = some Tryd.t60 := by kernel_rfl
theorem Tryd.info61 : Tryd.prog.info? 61 = some Tryd.t61 := by kernel_rfl
theorem Tryd.info62 : Tryd.prog.info? 62 = some Tryd.t62 := by kernel_rfl
theorem Tryd.info63 : Tryd.prog.info? 63 = some Tryd.t63 := by kernel_rfl
theorem Tryd.info64 : Tryd.prog.info? 64 = some Tryd.t64 := by kernel_rfl
theorem Tryd.info65 : Tryd.prog.info? 65 = some Tryd.t65 := by kernel_rfl
theorem Tryd.info66 : Tryd.prog.info? 66 = some Tryd.t66 := by kernel_rfl
theorem Tryd.info67 : Tryd.prog.info? 67 = some Tryd.t67 := by kernel_rfl
theorem Tryd.info68 : Tryd.prog.info? 68 = some Tryd.t68 := by kernel_rfl
theorem Tryd.info69 : Tryd.prog.info? 69 = some Tryd.t69 := by kernel_rfl
theorem Tryd.info70 : Tryd.prog.info? 70 = some Tryd.t70 := by kernel_rfl
theorem Tryd.info71 : Tryd.prog.info? 71 = some Tryd.t71 := by kernel_rfl
theorem Tryd.info72 : Tryd.prog.info? 72 = some Tryd.t72 := by kernel_rfl
theorem Tryd.info73 : Tryd.prog.info? 73 = some Tryd.t73 := by kernel_rfl
theorem Tryd.info74 : Tryd.prog.info? 74 = some Tryd.t74 := by kernel_rfl
theorem Tryd.info75 : Tryd.prog.info? 75 = some Tryd.t75 := by kernel_rfl
theorem Tryd.info76 : Tryd.prog.info? 76 = some Tryd.t76 := by kernel_rfl
theorem Tryd.info77 : Tryd.prog.info? 77 = some Tryd.t77 := by kernel_rfl
theorem Tryd.info78 : Tryd.prog.info? 78 = some Tryd.t78 := by kernel_rfl
theorem Tryd.info79 : Tryd.prog.info? 79 = some Tryd.t79 := by kernel_rfl
theorem Tryd.info80 : Tryd.prog.info? 80 = some Tryd.t80 := by kernel_rfl
theorem Tryd.info81 : Tryd.prog.info? 81 = some Tryd.t81 := by kernel_rfl
theorem Tryd.info82 : Tryd.prog.info? 82 = some Tryd.t82 := by kernel_rfl
theorem Tryd.info83 : Tryd.prog.info? 83 = some Tryd.t83 := by kernel_rfl
theorem Tryd.info84 : Tryd.prog.info? 84 = some Tryd.t84 := by kernel_rfl
theorem Tryd.info85 : Tryd.prog.info? 85 = some Tryd.t85 := by kernel_rfl
theorem Tryd.info86 : Tryd.prog.info? 86 = some Tryd.t86 := by kernel_rfl
theorem Tryd.info87 : Tryd.prog.info? 87 = some Tryd.t87 := by kernel_rfl
theorem Tryd.info88 : Tryd.prog.info? 88 = some Tryd.t88 := by kernel_rfl
theorem Tryd.info89 : Tryd.prog.info? 89 = some Tryd.t89 := by kernel_rfl
theorem Tryd.info90 : Tryd.prog.info? 90 = some Tryd.t90 := by kernel_rfl
theorem Tryd.info91 : Tryd.prog.info? 91 = some Tryd.t91 := by kernel_rfl
theorem Tryd.info92 : Tryd.prog.info? 92 = some Tryd.t92 := by kernel_rfl
theorem Tryd.info93 : Tryd.prog.info? 93 = some Tryd.t93 := by kernel_rfl
theorem Tryd.info94 : Tryd.prog.info? 94 = some Tryd.t94 := by kernel_rfl
theorem Tryd.info95 : Tryd.prog.info? 95 = some Tryd.t95 := by kernel_rfl
theorem Tryd.info96 : Tryd.prog.info? 96 = some Tryd.t96 := by kernel_rfl
theorem Tryd.info97 : Tryd.prog.info? 97 = some Tryd.t97 := by kernel_rfl
theorem Tryd.info98 : Tryd.prog.info? 98 = some Tryd.t98 := by kernel_rfl
theorem Tryd.info99 : Tryd.prog.info? 99 = some Tryd.t99 := by kernel_rfl
theorem Tryd.info100 : Tryd.prog.info? 100 = some Tryd.t100 := by kernel_rfl
theorem Tryd.info101 : Tryd.prog.info? 101 = some Tryd.t101 := by kernel_rfl
theorem Tryd.info102 : Tryd.prog.info? 102 = some Tryd.t102 := by kernel_rfl
theorem Tryd.info103 : Tryd.prog.info? 103 = some Tryd.t103 := by kernel_rfl
theorem Tryd.info104 : Tryd.prog.info? 104 = some Tryd.t104 := by kernel_rfl
theorem Tryd.info105 : Tryd.prog.info? 105 = some Tryd.t105 := by kernel_rfl
theorem Tryd.info106 : Tryd.prog.info? 106 = some Tryd.t106 := by kernel_rfl
theorem Tryd.info107 : Tryd.prog.info? 107 = some Tryd.t107 := by kernel_rfl
theorem Tryd.info108 : Tryd.prog.info? 108 = some Tryd.t108 := by kernel_rfl
theorem Tryd.info109 : Tryd.prog.info? 109 = some Tryd.t109 := by kernel_rfl
theorem Tryd.info110 : Tryd.prog.info? 110 = some Tryd.t110 := by kernel_rfl
theorem Tryd.info111 : Tryd.prog.info? 111 = some Tryd.t111 := by kernel_rfl
theorem Tryd.info112 : Tryd.prog.info? 112 = some Tryd.t112 := by kernel_rfl
structure Gs (w : World) : Prop where
  iv0_ : ∃ m, w.cell? ⟨0, 0, none⟩ = some (.int .i64 m)
theorem Gs.below {w w' : World} (h : Gs w) (s : Below w.heap.size w w') : Gs w' := ⟨h.iv0_.imp fun _ hm => cell_below hm s⟩
theorem lib_Sort_ok {w : World} {A : Nat → Prop} {B : Nat} {E : TypeId} {xs ys : List Str} {v : Value} (hv : OwnS strC E A B w v xs) (hB : B ≤ w.heap.size) (hS : lib_Sort xs = some ys) :
    Calls Tryd.prog 35 #[v] w (Ret fun u w' => u = .tuple #[] ∧ OwnS strC E A B w' v ys ∧ St A w A w' ∧ Below B w w' ∧ (∀ b, b < w.heap.size → v.ownBlock ≠ some b → w'.heap[b]? = w.heap[b]?)) :=
  sort_ok (fun p c w => Any.slices_Sort_string_none Tryd.lays190 p c w) (fun blk off cap ss w h1 h2 h3 => Tryd.slices_Sort_string blk off cap ss w h1 h2 h3) hv hB hS
theorem lib_Contains_ok (w0 : World) (hg : Gs w0) {s t : Str} {r : Bool} (hS : lib_Contains s t = some r) : Calls Tryd.prog 45 #[str s, str t] w0 (Ret fun v w' => v = .bool r ∧ Below w0.heap.size w0 w') :=
  contains_ok (gm := 0) (fun s t m w hs hm => Tryd.strings_Contains s t m w hs hm) hg.iv0_ hS
theorem lib_Join_ok (w0 : World) (hg : Gs w0) {A0 : Nat → Prop} {xs : List Str} {v : Value} (hv : SlR strC A0 w0 v xs) {sep r : Str} (hS : lib_Join xs sep = some r) : Calls Tryd.prog 30 #[v, str sep] w0 (Ret fun u w' => u = str r ∧ Below w0.heap.size w0 w') :=
  join_ok (fun p c sep w => Any.strings_Join_none Tryd.lays156 Tryd.Builder_Extra_156 p c sep w) (fun bk o c xs sep w h1 h2 h3 h4 h5 => Tryd.strings_Join bk o c xs sep w h1 h2 h3 h4 h5) hv hS
theorem lib_Split_ok (w0 : World) (hg : Gs w0) {A0 : Nat → Prop} (hA0 : ∀ b, A0 b → b < w0.heap.size) {s t : Str} {r : List Str} (hS : lib_Split s t = some r) : Calls Tryd.prog 31 #[str s, str t] w0 (Ret fun v w' => ∃ x1, v = x1 ∧ SlR strC A0 w' x1 r ∧ Below w0.heap.size w0 w') :=
  split_ok (gm := 0) (fun s t m w hs hm h1 => Tryd.strings_Split s t m w hs hm h1) hA0 hg.iv0_ hS
theorem law29_few_L1_ok {w0 : World} (hg : Gs w0) {A0 : Nat → Prop} (hA0 : ∀ b, A0 b → b < w0.heap.size) : ∀ (n : Nat), ∀ {r : Bool} {l_0 : List Str} {i_3 : Int} {vl_0 : Value}, law29_few_L1 n l_0 i_3 = some r → ∀ {w : World} {A : Nat → Prop}, (Below w0.heap.size w0 w) → (∀ b, A b → b < w.heap.size) → (∀ b, A0 b → A b) → (Hp A w0.heap.size w []) → (SlR strC A w vl_0 l_0) → KE Tryd.prog 10 (Ret (fun v w' => v = .bool r ∧ Below w0.heap.size w0 w')) 23 [.code (sub (bodyOf Tryd.f10) [2, 1, 2, 2, 1]), .inLoop (sub (bodyOf Tryd.f10) [2, 1, 2, 2, 1]), .inBlock 0, .code (sub (bodyOf Tryd.f10) [2, 2])] [(0, vl_0), (3, .int .i64 i_3)] w := by
  intro n
  induction n with
  | zero => intro r l_0 i_3 vl_0 hS; cases hS
  | succ n ih =>
    have hr0 : ∀ {r : Bool} {l_0 : List Str} {i_3 : Int} {vl_0 : Value}, law29_few_L1 n l_0 i_3 = some r → ∀ {w : World} {A : Nat → Prop}, (Below w0.heap.size w0 w) → (∀ b, A b → b < w.heap.size) → (∀ b, A0 b → A b) → (Hp A w0.heap.size w []) → (SlR strC A w vl_0 l_0) → KE Tryd.prog 10 (Ret (fun v w' => v = .bool r ∧ Below w0.heap.size w0 w')) 23 [.inLoop (sub (bodyOf Tryd.f10) [2, 1, 2, 2, 1]), .inBlock 0, .code (sub (bodyOf Tryd.f10) [2, 2])] [(0, vl_0), (3, .int .i64 i_3)] w := fun {r} {l_0} {i_3} {vl_0} hS {w} {A} hb hA hi hH hl_0 => ke_inLoop (ih hS hb hA hi hH hl_0)
    clear ih
    intro r l_0 i_3 vl_0 hS w A hb hA hi hH hl_0
    unfold law29_few_L1 at hS
    refine ke_seq ?_
    refine ke_seq ?_
    refine ke_region ?_
    refine sr_ev (v := .int .i64 i_3) (ev_move rfl) (by decide) ?_
    refine sr_ev (v := vl_0) (ev_move rfl) (by decide) ?_
    refine sr_ev (v := .int .i64 (l_0.length : Int)) (ev_sllen Tryd.underlying22 rfl hl_0) (by decide) ?_
    refine sr_ev (v := .bool (decide (i_3 < (l_0.length : Int)))) (ev_lt rfl rfl) (by decide) ?_
    refine sr_ev (v := .bool (decide (i_3 < (l_0.length : Int)))) (ev_move rfl) (by decide) ?_
    refine sr_join (m := 3) (C := fun (x : Bool) w1 => x = ((decide (i_3 < (l_0.length : Int))) && (decide (i_3 < 20))) ∧ w = w1) (l' := fun x => [(0, vl_0), (3, .int .i64 i_3), (11, .bool x)]) ?_ ?_
    · rintro _ _ ⟨rfl, rfl⟩
      refine sr_end (l' := [(0, vl_0), (3, .int .i64 i_3), (11, .bool ((decide (i_3 < (l_0.length : Int))) && (decide (i_3 < 20))))]) (.cons rfl (.cons rfl (.cons rfl (.nil _)))) ?_
      refine ke_cond (t := (decide (i_3 < (l_0.length : Int))) && (decide (i_3 < 20))) rfl (fun hc10 => ?_) (fun hc10 => ?_)
      · replace hS := ite_true' hS hc10
        refine ke_skip ?_
        refine ke_seq ?_
        refine ke_block ?_
        refine ke_seq ?_
        refine ke_region ?_
        refine sr_ev (v := vl_0) (ev_move rfl) (by decide) ?_
        refine sr_ev (v := .int .i64 i_3) (ev_move rfl) (by decide) ?_
        obtain ⟨y11, hy12, hS⟩ := bind_some' hS
        refine sr_index hl_0 Tryd.underlying22 Tryd.info9 rfl rfl rfl hy12 (by decide) ?_
        intro b13 o14 cs16 he15
        obtain rfl : cs16 = [str y11] := he15.rd
        refine sr_ev (v := str y11) (ev_load Tryd.isAgg9 rfl (he15.cell 0 _ rfl)) (by decide) ?_
        refine sr_ev (v := .int .i64 (y11.length : Int)) (ev_slen Tryd.underlying9 rfl) (by decide) ?_
        refine sr_ev (v := .bool (decide ((y11.length : Int) > 200))) (ev_gt rfl rfl) (by decide) ?_
        refine sr_end (l' := [(0, vl_0), (3, .int .i64 i_3), (19, .bool (decide ((y11.length : Int) > 200)))]) (.cons rfl (.cons rfl (.cons rfl (.nil _)))) ?_
        refine ke_cond (t := decide ((y11.length : Int) > 200)) rfl (fun hc17 => ?_) (fun hc17 => ?_)
        · replace hS := ite_true' hS hc17
          refine ke_seq ?_
          refine ke_region ?_
          refine sr_ev (v := .bool false) (ev_assign rfl) (by decide) ?_
          refine sr_end (l' := [(2, .bool false)]) (.cons rfl (.nil _)) ?_
          cases hS
          exact ke_ret1 Tryd.func10 rfl rfl ⟨_, rfl, rfl, hb⟩
        · replace hS := ite_false' hS hc17
          refine ke_skip ?_
          refine ke_inBlock ?_
          refine ke_region ?_
          refine sr_ev (v := .int .i64 i_3) (ev_move rfl) (by decide) ?_
          refine sr_ev (v := .int .i64 (IntKind.i64.wrap (i_3 + 1))) (ev_add rfl rfl) (by decide) ?_
          refine sr_ev (v := .int .i64 (IntKind.i64.wrap (i_3 + 1))) (ev_assign rfl) (by decide) ?_
          refine sr_end (l' := [(0, vl_0), (3, .int .i64 (IntKind.i64.wrap (i_3 + 1)))]) (.cons rfl (.cons rfl (.nil _))) ?_
          have hK := hr0 hS hb hA hi hH hl_0
          exact ke_weaken (l' := [(0, vl_0), (3, .int .i64 (IntKind.i64.wrap (i_3 + 1)))]) (.cons rfl (.cons rfl (.nil _))) hK
      · replace hS := ite_false' hS hc10
        refine ke_exit (k' := _) rfl ?_
        refine ke_seq ?_
        refine ke_region ?_
        refine sr_ev (v := vl_0) (ev_move rfl) (by decide) ?_
        refine sr_ev (v := .int .i64 (l_0.length : Int)) (ev_sllen Tryd.underlying22 rfl hl_0) (by decide) ?_
        refine sr_ev (v := .bool (decide ((l_0.length : Int) ≤ 20))) (ev_le rfl rfl) (by decide) ?_
        refine sr_ev (v := .bool (decide ((l_0.length : Int) ≤ 20))) (ev_assign rfl) (by decide) ?_
        refine sr_end (l' := [(2, .bool (decide ((l_0.length : Int) ≤ 20)))]) (.cons rfl (.nil _)) ?_
        cases hS
        exact ke_ret1 Tryd.func10 rfl rfl ⟨_, rfl, rfl, hb⟩
    · intro K4
      rcases Bool.eq_false_or_eq_true (decide (i_3 < (l_0.length : Int))) with hg3 | hg3
      · refine sr_evg (b := true) (e := 8) rfl rfl hg3 (v := .int .i64 i_3) (ev_move rfl) (by decide) ?_
        refine sr_evg (b := true) (e := 8) rfl rfl hg3 (v := .bool (decide (i_3 < 20))) (ev_lt rfl rfl) (by decide) ?_
        refine sr_ev (v := .bool (decide (i_3 < 20))) (ev_pick_t rfl hg3 rfl) (by decide) ?_
        exact sr_weaken (l' := [(0, vl_0), (3, .int .i64 i_3), (11, .bool (decide (i_3 < 20)))]) (.cons rfl (.cons rfl (.cons rfl (.nil _)))) (K4 (decide (i_3 < 20)) _ ⟨by rw [hg3]; rfl, rfl⟩)
      · refine sr_pass (e := 8) rfl rfl (by rw [hg3]; rfl) (by decide) ?_
        refine sr_pass (e := 8) rfl rfl (by rw [hg3]; rfl) (by decide) ?_
        refine sr_ev (v := .bool false) (ev_pick_f rfl hg3 rfl) (by decide) ?_
        exact sr_weaken (l' := [(0, vl_0), (3, .int .i64 i_3), (11, .bool false)]) (.cons rfl (.cons rfl (.cons rfl (.nil _)))) (K4 false _ ⟨by rw [hg3]; rfl, rfl⟩)
theorem law29_few_ok {A0 : Nat → Prop} (w0 : World) (hg : Gs w0) {l_0 : List Str} {v1 : Value} {r : Bool} (h2 : SlR strC A0 w0 v1 l_0) (hS : law29_few l_0 = some r) :
    Calls Tryd.prog 10 #[v1] w0 (Ret (fun v w' => v = .bool r ∧ Below w0.heap.size w0 w')) := by
  unfold law29_few at hS
  have hb := Below.refl w0.heap.size w0
  replace h2 := h2.weak (A' := fun _ => False) (fun _ h => h.elim)
  obtain ⟨A0, hA0, hAe⟩ : ∃ A0 : Nat → Prop, (∀ b, A0 b → b < w0.heap.size) ∧ A0 = fun _ => False := ⟨_, fun _ h => h.elim, rfl⟩
  rw [← hAe] at h2
  clear hAe
  have hA := hA0
  have hi : ∀ b, A0 b → A0 b := fun _ h => h
  have hH := Hp.nil A0 w0.heap.size w0
  refine calls_of_ke Tryd.func10 rfl (n := 23) rfl rfl (l := [(0, v1)]) rfl ?_
  refine ke_seq ?_
  refine ke_region ?_
  refine sr_ev (v := .bool false) (ev_assign rfl) (by decide) ?_
  refine sr_end (l' := [(0, v1)]) (.cons rfl (.nil _)) ?_
  refine ke_seq ?_
  refine ke_seq ?_
  refine ke_region ?_
  refine sr_ev (v := .int .i64 0) (ev_assign rfl) (by decide) ?_
  refine sr_end (l' := [(0, v1), (3, .int .i64 0)]) (.cons rfl (.cons rfl (.nil _))) ?_
  refine ke_block ?_
  have hK := law29_few_L1_ok hg hA0 _ hS hb hA hi hH h2
  exact ke_weaken (l' := [(0, v1), (3, .int .i64 0)]) (.cons rfl (.cons rfl (.nil _))) (ke_loop hK)
theorem fold_upper_ok (w0 : World) (hg : Gs w0) {c_0 : Int} {r : Bool} (hS : fold_upper c_0 = some r) :
    Calls Tryd.prog 79 #[.int .u8 c_0] w0 (Ret (fun v w' => v = .bool r ∧ Below w0.heap.size w0 w')) := by
  unfold fold_upper at hS
  have hb := Below.refl w0.heap.size w0
  refine calls_of_ke Tryd.func79 rfl (n := 9) rfl rfl (l := [(0, .int .u8 c_0)]) rfl ?_
  refine ke_seq ?_
  refine ke_region ?_
  refine sr_ev (v := .bool false) (ev_assign rfl) (by decide) ?_
  refine sr_end (l' := [(0, .int .u8 c_0)]) (.cons rfl (.nil _)) ?_
  refine ke_seq ?_
  refine ke_region ?_
  refine sr_ev (v := .int .u8 c_0) (ev_move rfl) (by decide) ?_
  refine sr_ev (v := .bool (decide (c_0 ≥ 65))) (ev_ge rfl rfl) (by decide) ?_
  refine sr_ev (v := .bool (decide (c_0 ≥ 65))) (ev_move rfl) (by decide) ?_
  refine sr_join (m := 3) (C := fun (x : Bool) w1 => x = ((decide (c_0 ≥ 65)) && (decide (c_0 ≤ 90))) ∧ w0 = w1) (l' := fun x => [(8, .bool x)]) ?_ ?_
  · rintro _ _ ⟨rfl, rfl⟩
    refine sr_ev (v := .bool ((decide (c_0 ≥ 65)) && (decide (c_0 ≤ 90)))) (ev_assign rfl) (by decide) ?_
    refine sr_end (l' := [(2, .bool ((decide (c_0 ≥ 65)) && (decide (c_0 ≤ 90))))]) (.cons rfl (.nil _)) ?_
    cases hS
    exact ke_ret1 Tryd.func79 rfl rfl ⟨_, rfl, rfl, hb⟩
  · intro K2
    rcases Bool.eq_false_or_eq_true (decide (c_0 ≥ 65)) with hg1 | hg1
    · refine sr_evg (b := true) (e := 5) rfl rfl hg1 (v := .int .u8 c_0) (ev_move rfl) (by decide) ?_
      refine sr_evg (b := true) (e := 5) rfl rfl hg1 (v := .bool (decide (c_0 ≤ 90))) (ev_le rfl rfl) (by decide) ?_
      refine sr_ev (v := .bool (decide (c_0 ≤ 90))) (ev_pick_t rfl hg1 rfl) (by decide) ?_
      exact sr_weaken (l' := [(8, .bool (decide (c_0 ≤ 90)))]) (.cons rfl (.nil _)) (K2 (decide (c_0 ≤ 90)) _ ⟨by rw [hg1]; rfl, rfl⟩)
    · refine sr_pass (e := 5) rfl rfl (by rw [hg1]; rfl) (by decide) ?_
      refine sr_pass (e := 5) rfl rfl (by rw [hg1]; rfl) (by decide) ?_
      refine sr_ev (v := .bool false) (ev_pick_f rfl hg1 rfl) (by decide) ?_
      exact sr_weaken (l' := [(8, .bool false)]) (.cons rfl (.nil _)) (K2 false _ ⟨by rw [hg1]; rfl, rfl⟩)
theorem fold_letter_ok (w0 : World) (hg : Gs w0) {c_0 : Int} {r : Bool} (hS : fold_letter c_0 = some r) :
    Calls Tryd.prog 58 #[.int .u8 c_0] w0 (Ret (fun v w' => v = .bool r ∧ Below w0.heap.size w0 w')) := by
  unfold fold_letter at hS
  have hb := Below.refl w0.heap.size w0
  refine calls_of_ke Tryd.func58 rfl (n := 13) rfl rfl (l := [(0, .int .u8 c_0)]) rfl ?_
  refine ke_seq ?_
  refine ke_region ?_
  refine sr_ev (v := .bool false) (ev_assign rfl) (by decide) ?_
  refine sr_end (l' := [(0, .int .u8 c_0)]) (.cons rfl (.nil _)) ?_
  refine ke_seq ?_
  refine ke_region ?_
  refine sr_ev (v := .int .u8 c_0) (ev_move rfl) (by decide) ?_
  obtain ⟨y1, hy2, hS⟩ := bind_some' hS
  refine sr_call (vs := [.int .u8 c_0]) rfl Tryd.call79 rfl (fold_upper_ok _ (hg.below hb) hy2) (by decide) ?_
  rintro _ w3 ⟨rfl, hbw4⟩
  replace hb := hb.trans (hbw4.mono hb.size)
  refine sr_ev (v := .bool y1) (ev_move rfl) (by decide) ?_
  refine sr_join (m := 7) (C := fun (x : Bool) w1 => x = (y1 || ((decide (c_0 ≥ 97)) && (decide (c_0 ≤ 122)))) ∧ w3 = w1) (l' := fun x => [(12, .bool x)]) ?_ ?_
  · rintro _ _ ⟨rfl, rfl⟩
    refine sr_ev (v := .bool (y1 || ((decide (c_0 ≥ 97)) && (decide (c_0 ≤ 122))))) (ev_assign rfl) (by decide) ?_
    refine sr_end (l' := [(2, .bool (y1 || ((decide (c_0 ≥ 97)) && (decide (c_0 ≤ 122)))))]) (.cons rfl (.nil _)) ?_
    cases hS
    exact ke_ret1 Tryd.func58 rfl rfl ⟨_, rfl, rfl, hb⟩
  · intro K6
    rcases Bool.eq_false_or_eq_true y1 with hg5 | hg5
    · refine sr_pass (e := 5) rfl rfl (by rw [hg5]; rfl) (by decide) ?_
      refine sr_pass (e := 5) rfl rfl (by rw [hg5]; rfl) (by decide) ?_
      refine sr_pass (e := 5) rfl rfl (by rw [hg5]; rfl) (by decide) ?_
      refine sr_pass_undef (e := 8) rfl rfl (by decide) ?_
      refine sr_pass_undef (e := 8) rfl rfl (by decide) ?_
      refine sr_pass (e := 5) rfl rfl (by rw [hg5]; rfl) (by decide) ?_
      refine sr_ev (v := .bool true) (ev_pick_t rfl hg5 rfl) (by decide) ?_
      exact sr_weaken (l' := [(12, .bool true)]) (.cons rfl (.nil _)) (K6 true _ ⟨by rw [hg5]; rfl, rfl⟩)
    · refine sr_evg (b := false) (e := 5) rfl rfl hg5 (v := .int .u8 c_0) (ev_move rfl) (by decide) ?_
      refine sr_evg (b := false) (e := 5) rfl rfl hg5 (v := .bool (decide (c_0 ≥ 97))) (ev_ge rfl rfl) (by decide) ?_
      refine sr_evg (b := false) (e := 5) rfl rfl hg5 (v := .bool (decide (c_0 ≥ 97))) (ev_move rfl) (by decide) ?_
      refine sr_join (m := 3) (C := fun (x : Bool) w1 => x = ((decide (c_0 ≥ 97)) && (decide (c_0 ≤ 122))) ∧ w3 = w1) (l' := fun x => [(5, .bool y1), (11, .bool x)]) ?_ ?_
      · rintro _ _ ⟨rfl, rfl⟩
        refine sr_ev (v := .bool ((decide (c_0 ≥ 97)) && (decide (c_0 ≤ 122)))) (ev_pick_f rfl hg5 rfl) (by decide) ?_
        exact sr_weaken (l' := [(12, .bool ((decide (c_0 ≥ 97)) && (decide (c_0 ≤ 122))))]) (.cons rfl (.nil _)) (K6 ((decide (c_0 ≥ 97)) && (decide (c_0 ≤ 122))) _ ⟨by rw [hg5]; rfl, rfl⟩)
      · intro K13
        rcases Bool.eq_false_or_eq_true (decide (c_0 ≥ 97)) with hg12 | hg12
        · refine sr_evg (b := true) (e := 8) rfl rfl hg12 (v := .int .u8 c_0) (ev_move rfl) (by decide) ?_
          refine sr_evg (b := true) (e := 8) rfl rfl hg12 (v := .bool (decide (c_0 ≤ 122))) (ev_le rfl rfl) (by decide) ?_
          refine sr_evg (b := false) (e := 5) rfl rfl hg5 (v := .bool (decide (c_0 ≤ 122))) (ev_pick_t rfl hg12 rfl) (by decide) ?_
          exact sr_weaken (l' := [(5, .bool y1), (11, .bool (decide (c_0 ≤ 122)))]) (.cons rfl (.cons rfl (.nil _))) (K13 (decide (c_0 ≤ 122)) _ ⟨by rw [hg12]; rfl, rfl⟩)
        · refine sr_pass (e := 8) rfl rfl (by rw [hg12]; rfl) (by decide) ?_
          refine sr_pass (e := 8) rfl rfl (by rw [hg12]; rfl) (by decide) ?_
          refine sr_evg (b := false) (e := 5) rfl rfl hg5 (v := .bool false) (ev_pick_f rfl hg12 rfl) (by decide) ?_
          exact sr_weaken (l' := [(5, .bool y1), (11, .bool false)]) (.cons rfl (.cons rfl (.nil _))) (K13 false _ ⟨by rw [hg12]; rfl, rfl⟩)
theorem fold_digit_ok (w0 : World) (hg : Gs w0) {c_0 : Int} {r : Bool} (hS : fold_digit c_0 = some r) :
    Calls Tryd.prog 59 #[.int .u8 c_0] w0 (Ret (fun v w' => v = .bool r ∧ Below w0.heap.size w0 w')) := by
  unfold fold_digit at hS
  have hb := Below.refl w0.heap.size w0
  refine calls_of_ke Tryd.func59 rfl (n := 9) rfl rfl (l := [(0, .int .u8 c_0)]) rfl ?_
  refine ke_seq ?_
  refine ke_region ?_
  refine sr_ev (v := .bool false) (ev_assign rfl) (by decide) ?_
  refine sr_end (l' := [(0, .int .u8 c_0)]) (.cons rfl (.nil _)) ?_
  refine ke_seq ?_
  refine ke_region ?_
  refine sr_ev (v := .int .u8 c_0) (ev_move rfl) (by decide) ?_
  refine sr_ev (v := .bool (decide (c_0 ≥ 48))) (ev_ge rfl rfl) (by decide) ?_
  refine sr_ev (v := .bool (decide (c_0 ≥ 48))) (ev_move rfl) (by decide) ?_
  refine sr_join (m := 3) (C := fun (x : Bool) w1 => x = ((decide (c_0 ≥ 48)) && (decide (c_0 ≤ 57))) ∧ w0 = w1) (l' := fun x => [(8, .bool x)]) ?_ ?_
  · rintro _ _ ⟨rfl, rfl⟩
    refine sr_ev (v := .bool ((decide (c_0 ≥ 48)) && (decide (c_0 ≤ 57)))) (ev_assign rfl) (by decide) ?_
    refine sr_end (l' := [(2, .bool ((decide (c_0 ≥ 48)) && (decide (c_0 ≤ 57))))]) (.cons rfl (.nil _)) ?_
    cases hS
    exact ke_ret1 Tryd.func59 rfl rfl ⟨_, rfl, rfl, hb⟩
  · intro K2
    rcases Bool.eq_false_or_eq_true (decide (c_0 ≥ 48)) with hg1 | hg1
    · refine sr_evg (b := true) (e := 5) rfl rfl hg1 (v := .int .u8 c_0) (ev_move rfl) (by decide) ?_
      refine sr_evg (b := true) (e := 5) rfl rfl hg1 (v := .bool (decide (c_0 ≤ 57))) (ev_le rfl rfl) (by decide) ?_
      refine sr_ev (v := .bool (decide (c_0 ≤ 57))) (ev_pick_t rfl hg1 rfl) (by decide) ?_
      exact sr_weaken (l' := [(8, .bool (decide (c_0 ≤ 57)))]) (.cons rfl (.nil _)) (K2 (decide (c_0 ≤ 57)) _ ⟨by rw [hg1]; rfl, rfl⟩)
    · refine sr_pass (e := 5) rfl rfl (by rw [hg1]; rfl) (by decide) ?_
      refine sr_pass (e := 5) rfl rfl (by rw [hg1]; rfl) (by decide) ?_
      refine sr_ev (v := .bool false) (ev_pick_f rfl hg1 rfl) (by decide) ?_
      exact sr_weaken (l' := [(8, .bool false)]) (.cons rfl (.nil _)) (K2 false _ ⟨by rw [hg1]; rfl, rfl⟩)
theorem fold_Word_1_ok (w0 : World) (hg : Gs w0) {c_0 : Int} {r : Bool} (hS : fold_Word_1 c_0 = some r) :
    Calls Tryd.prog 57 #[.int .u8 c_0] w0 (Ret (fun v w' => v = .bool r ∧ Below w0.heap.size w0 w')) := by
  unfold fold_Word_1 at hS
  have hb := Below.refl w0.heap.size w0
  refine calls_of_ke Tryd.func57 rfl (n := 25) rfl rfl (l := [(0, .int .u8 c_0)]) rfl ?_
  refine ke_seq ?_
  refine ke_region ?_
  refine sr_ev (v := .bool false) (ev_assign rfl) (by decide) ?_
  refine sr_end (l' := [(0, .int .u8 c_0)]) (.cons rfl (.nil _)) ?_
  refine ke_seq ?_
  refine ke_region ?_
  refine sr_ev (v := .int .u8 c_0) (ev_move rfl) (by decide) ?_
  obtain ⟨y1, hy2, hS⟩ := bind_some' hS
  refine sr_call (vs := [.int .u8 c_0]) rfl Tryd.call58 rfl (fold_letter_ok _ (hg.below hb) hy2) (by decide) ?_
  rintro _ w3 ⟨rfl, hbw4⟩
  replace hb := hb.trans (hbw4.mono hb.size)
  refine sr_ev (v := .bool y1) (ev_move rfl) (by decide) ?_
  obtain ⟨z7, hz9, hS⟩ := bind_some' hS
  refine sr_join (m := 3) (C := fun (x : Bool) w1 => z7 = x ∧ Below w3.heap.size w3 w1) (l' := fun x => [(0, .int .u8 c_0), (8, .bool x)]) ?_ ?_
  · rintro _ w10 ⟨rfl, hbw11⟩
    replace hb := hb.trans (hbw11.mono hb.size)
    refine sr_ev (v := .bool z7) (ev_move rfl) (by decide) ?_
    refine sr_join (m := 3) (C := fun (x : Bool) w1 => x = (z7 || (c_0 == 45)) ∧ w10 = w1) (l' := fun x => [(0, .int .u8 c_0), (12, .bool x)]) ?_ ?_
    · rintro _ _ ⟨rfl, rfl⟩
      refine sr_ev (v := .bool (z7 || (c_0 == 45))) (ev_move rfl) (by decide) ?_
      refine sr_join (m := 3) (C := fun (x : Bool) w1 => x = ((z7 || (c_0 == 45)) || (c_0 == 95)) ∧ w10 = w1) (l' := fun x => [(0, .int .u8 c_0), (16, .bool x)]) ?_ ?_
      · rintro _ _ ⟨rfl, rfl⟩
        refine sr_ev (v := .bool ((z7 || (c_0 == 45)) || (c_0 == 95))) (ev_move rfl) (by decide) ?_
        refine sr_join (m := 3) (C := fun (x : Bool) w1 => x = (((z7 || (c_0 == 45)) || (c_0 == 95)) || (c_0 == 46)) ∧ w10 = w1) (l' := fun x => [(0, .int .u8 c_0), (20, .bool x)]) ?_ ?_
        · rintro _ _ ⟨rfl, rfl⟩
          refine sr_ev (v := .bool (((z7 || (c_0 == 45)) || (c_0 == 95)) || (c_0 == 46))) (ev_move rfl) (by decide) ?_
          refine sr_join (m := 3) (C := fun (x : Bool) w1 => x = ((((z7 || (c_0 == 45)) || (c_0 == 95)) || (c_0 == 46)) || (c_0 == 58)) ∧ w10 = w1) (l' := fun x => [(24, .bool x)]) ?_ ?_
          · rintro _ _ ⟨rfl, rfl⟩
            refine sr_ev (v := .bool ((((z7 || (c_0 == 45)) || (c_0 == 95)) || (c_0 == 46)) || (c_0 == 58))) (ev_assign rfl) (by decide) ?_
            refine sr_end (l' := [(2, .bool ((((z7 || (c_0 == 45)) || (c_0 == 95)) || (c_0 == 46)) || (c_0 == 58)))]) (.cons rfl (.nil _)) ?_
            cases hS
            exact ke_ret1 Tryd.func57 rfl rfl ⟨_, rfl, rfl, hb⟩
          · intro K38
            rcases Bool.eq_false_or_eq_true (((z7 || (c_0 == 45)) || (c_0 == 95)) || (c_0 == 46)) with hg37 | hg37
            · refine sr_pass (e := 21) rfl rfl (by rw [hg37]; rfl) (by decide) ?_
              refine sr_pass (e := 21) rfl rfl (by rw [hg37]; rfl) (by decide) ?_
              refine sr_ev (v := .bool true) (ev_pick_t rfl hg37 rfl) (by decide) ?_
              exact sr_weaken (l' := [(24, .bool true)]) (.cons rfl (.nil _)) (K38 true _ ⟨by rw [hg37]; rfl, rfl⟩)
            · refine sr_evg (b := false) (e := 21) rfl rfl hg37 (v := .int .u8 c_0) (ev_move rfl) (by decide) ?_
              refine sr_evg (b := false) (e := 21) rfl rfl hg37 (v := .bool (c_0 == 58)) (ev_eq rfl rfl) (by decide) ?_
              refine sr_ev (v := .bool (c_0 == 58)) (ev_pick_f rfl hg37 rfl) (by decide) ?_
              exact sr_weaken (l' := [(24, .bool (c_0 == 58))]) (.cons rfl (.nil _)) (K38 (c_0 == 58) _ ⟨by rw [hg37]; rfl, rfl⟩)
        · intro K31
          rcases Bool.eq_false_or_eq_true ((z7 || (c_0 == 45)) || (c_0 == 95)) with hg30 | hg30
          · refine sr_pass (e := 17) rfl rfl (by rw [hg30]; rfl) (by decide) ?_
            refine sr_pass (e := 17) rfl rfl (by rw [hg30]; rfl) (by decide) ?_
            refine sr_ev (v := .bool true) (ev_pick_t rfl hg30 rfl) (by decide) ?_
            exact sr_weaken (l' := [(0, .int .u8 c_0), (20, .bool true)]) (.cons rfl (.cons rfl (.nil _))) (K31 true _ ⟨by rw [hg30]; rfl, rfl⟩)
          · refine sr_evg (b := false) (e := 17) rfl rfl hg30 (v := .int .u8 c_0) (ev_move rfl) (by decide) ?_
            refine sr_evg (b := false) (e := 17) rfl rfl hg30 (v := .bool (c_0 == 46)) (ev_eq rfl rfl) (by decide) ?_
            refine sr_ev (v := .bool (c_0 == 46)) (ev_pick_f rfl hg30 rfl) (by decide) ?_
            exact sr_weaken (l' := [(0, .int .u8 c_0), (20, .bool (c_0 == 46))]) (.cons rfl (.cons rfl (.nil _))) (K31 (c_0 == 46) _ ⟨by rw [hg30]; rfl, rfl⟩)
      · intro K24
        rcases Bool.eq_false_or_eq_true (z7 || (c_0 == 45)) with hg23 | hg23
        · refine sr_pass (e := 13) rfl rfl (by rw [hg23]; rfl) (by decide) ?_
          refine sr_pass (e := 13) rfl rfl (by rw [hg23]; rfl) (by decide) ?_
          refine sr_ev (v := .bool true) (ev_pick_t rfl hg23 rfl) (by decide) ?_
          exact sr_weaken (l' := [(0, .int .u8 c_0), (16, .bool true)]) (.cons rfl (.cons rfl (.nil _))) (K24 true _ ⟨by rw [hg23]; rfl, rfl⟩)
        · refine sr_evg (b := false) (e := 13) rfl rfl hg23 (v := .int .u8 c_0) (ev_move rfl) (by decide) ?_
          refine sr_evg (b := false) (e := 13) rfl rfl hg23 (v := .bool (c_0 == 95)) (ev_eq rfl rfl) (by decide) ?_
          refine sr_ev (v := .bool (c_0 == 95)) (ev_pick_f rfl hg23 rfl) (by decide) ?_
          exact sr_weaken (l' := [(0, .int .u8 c_0), (16, .bool (c_0 == 95))]) (.cons rfl (.cons rfl (.nil _))) (K24 (c_0 == 95) _ ⟨by rw [hg23]; rfl, rfl⟩)
    · intro K17
      rcases Bool.eq_false_or_eq_true z7 with hg16 | hg16
      · refine sr_pass (e := 9) rfl rfl (by rw [hg16]; rfl) (by decide) ?_
        refine sr_pass (e := 9) rfl rfl (by rw [hg16]; rfl) (by decide) ?_
        refine sr_ev (v := .bool true) (ev_pick_t rfl hg16 rfl) (by decide) ?_
        exact sr_weaken (l' := [(0, .int .u8 c_0), (12, .bool true)]) (.cons rfl (.cons rfl (.nil _))) (K17 true _ ⟨by rw [hg16]; rfl, rfl⟩)
      · refine sr_evg (b := false) (e := 9) rfl rfl hg16 (v := .int .u8 c_0) (ev_move rfl) (by decide) ?_
        refine sr_evg (b := false) (e := 9) rfl rfl hg16 (v := .bool (c_0 == 45)) (ev_eq rfl rfl) (by decide) ?_
        refine sr_ev (v := .bool (c_0 == 45)) (ev_pick_f rfl hg16 rfl) (by decide) ?_
        exact sr_weaken (l' := [(0, .int .u8 c_0), (12, .bool (c_0 == 45))]) (.cons rfl (.cons rfl (.nil _))) (K17 (c_0 == 45) _ ⟨by rw [hg16]; rfl, rfl⟩)
  · intro K6
    clear hS
    have hj8 := Below.refl w3.heap.size w3
    rcases Bool.eq_false_or_eq_true y1 with hg5 | hg5
    · have hS := ite_true' hz9 hg5
      refine sr_pass (e := 5) rfl rfl (by rw [hg5]; rfl) (by decide) ?_
      refine sr_pass (e := 5) rfl rfl (by rw [hg5]; rfl) (by decide) ?_
      refine sr_ev (v := .bool true) (ev_pick_t rfl hg5 rfl) (by decide) ?_
      exact sr_weaken (l' := [(0, .int .u8 c_0), (8, .bool true)]) (.cons rfl (.cons rfl (.nil _))) (K6 true _ ⟨(Option.some.inj hS).symm, hj8⟩)
    · have hS := ite_false' hz9 hg5
      refine sr_evg (b := false) (e := 5) rfl rfl hg5 (v := .int .u8 c_0) (ev_move rfl) (by decide) ?_
      obtain ⟨y12, hy13, hS⟩ := bind_some' hS
      refine sr_callg (b := false) (e := 5) rfl rfl hg5 (vs := [.int .u8 c_0]) rfl Tryd.call59 rfl (fold_digit_ok _ (hg.below hb) hy13) (by decide) ?_
      rintro _ w14 ⟨rfl, hbw15⟩
      replace hb := hb.trans (hbw15.mono hb.size)
      replace hj8 := hj8.trans (hbw15.mono hj8.size)
      refine sr_ev (v := .bool y12) (ev_pick_f rfl hg5 rfl) (by decide) ?_
      exact sr_weaken (l' := [(0, .int .u8 c_0), (8, .bool y12)]) (.cons rfl (.cons rfl (.nil _))) (K6 y12 _ ⟨(Option.some.inj hS).symm, hj8⟩)
theorem fold_made__Word_1_L1_ok {w0 : World} (hg : Gs w0) : ∀ (n : Nat), ∀ {r : Bool} {s_0 : Str} {t_7 : Int} {t_8 : Int}, fold_made__Word_1_L1 n s_0 t_7 t_8 = some r → ∀ {w : World}, (Below w0.heap.size w0 w) → KE Tryd.prog 56 (Ret (fun v w' => v = .bool r ∧ Below w0.heap.size w0 w')) 25 [.code (sub (bodyOf Tryd.f56) [2, 1, 2, 2, 1]), .inLoop (sub (bodyOf Tryd.f56) [2, 1, 2, 2, 1]), .inBlock 0, .code (sub (bodyOf Tryd.f56) [2, 2])] [(0, str s_0), (1, .func (.func 57) #[] #[]), (7, .int .i64 t_7), (8, .int .i64 t_8)] w := by
  intro n
  induction n with
  | zero => intro r s_0 t_7 t_8 hS; cases hS
  | succ n ih =>
    have hr0 : ∀ {r : Bool} {s_0 : Str} {t_7 : Int} {t_8 : Int}, fold_made__Word_1_L1 n s_0 t_7 t_8 = some r → ∀ {w : World}, (Below w0.heap.size w0 w) → KE Tryd.prog 56 (Ret (fun v w' => v = .bool r ∧ Below w0.heap.size w0 w')) 25 [.inLoop (sub (bodyOf Tryd.f56) [2, 1, 2, 2, 1]), .inBlock 0, .code (sub (bodyOf Tryd.f56) [2, 2])] [(0, str s_0), (1, .func (.func 57) #[] #[]), (7, .int .i64 t_7), (8, .int .i64 t_8)] w := fun {r} {s_0} {t_7} {t_8} hS {w} hb => ke_inLoop (ih hS hb)
    clear ih
    intro r s_0 t_7 t_8 hS w hb
    unfold fold_made__Word_1_L1 at hS
    refine ke_seq ?_
    refine ke_region ?_
    refine sr_ev (v := .bool (decide (t_8 < t_7))) (ev_lt rfl rfl) (by decide) ?_
    refine sr_end (l' := [(0, str s_0), (1, .func (.func 57) #[] #[]), (7, .int .i64 t_7), (8, .int .i64 t_8), (9, .bool (decide (t_8 < t_7)))]) (.cons rfl (.cons rfl (.cons rfl (.cons rfl (.cons rfl (.nil _)))))) ?_
    refine ke_seq ?_
    refine ke_cond (t := decide (t_8 < t_7)) rfl (fun hc1 => ?_) (fun hc1 => ?_)
    · replace hS := ite_true' hS hc1
      refine ke_skip ?_
      refine ke_seq ?_
      refine ke_block ?_
      refine ke_seq ?_
      refine ke_region ?_
      refine sr_ev (v := .int .i64 t_8) (ev_move rfl) (by decide) ?_
      refine sr_ev (v := .int .i64 t_8) (ev_assign rfl) (by decide) ?_
      refine sr_end (l' := [(0, str s_0), (1, .func (.func 57) #[] #[]), (5, .int .i64 t_8), (7, .int .i64 t_7), (8, .int .i64 t_8)]) (.cons rfl (.cons rfl (.cons rfl (.cons rfl (.cons rfl (.nil _)))))) ?_
      refine ke_seq ?_
      refine ke_region ?_
      refine sr_ev (v := .func (.func 57) #[] #[]) (ev_move rfl) (by decide) ?_
      refine sr_ev (v := str s_0) (ev_move rfl) (by decide) ?_
      refine sr_ev (v := .int .i64 t_8) (ev_move rfl) (by decide) ?_
      obtain ⟨hk2, hS⟩ := chk_some hS
      refine sr_ev (v := .int .u8 (byteAt s_0 t_8)) (ev_sindex Tryd.underlying9 rfl rfl hk2) (by decide) ?_
      obtain ⟨y3, hy4, hS⟩ := bind_some' hS
      refine sr_call (vs := [.int .u8 (byteAt s_0 t_8)]) rfl Tryd.call57 rfl (fold_Word_1_ok _ (hg.below hb) hy4) (by decide) ?_
      rintro _ w5 ⟨rfl, hbw6⟩
      replace hb := hb.trans (hbw6.mono hb.size)
      refine sr_ev (v := .bool (!y3)) (ev_not rfl) (by decide) ?_
      refine sr_end (l' := [(0, str s_0), (1, .func (.func 57) #[] #[]), (7, .int .i64 t_7), (8, .int .i64 t_8), (16, .bool (!y3))]) (.cons rfl (.cons rfl (.cons rfl (.cons rfl (.cons rfl (.nil _)))))) ?_
      refine ke_cond (t := !y3) rfl (fun hc7 => ?_) (fun hc7 => ?_)
      · replace hS := ite_true' hS hc7
        refine ke_seq ?_
        refine ke_region ?_
        refine sr_ev (v := .bool false) (ev_assign rfl) (by decide) ?_
        refine sr_end (l' := [(4, .bool false)]) (.cons rfl (.nil _)) ?_
        cases hS
        exact ke_ret1 Tryd.func56 rfl rfl ⟨_, rfl, rfl, hb⟩
      · replace hS := ite_false' hS hc7
        refine ke_skip ?_
        refine ke_inBlock ?_
        refine ke_region ?_
        refine sr_ev (v := .int .i64 (IntKind.i64.wrap (t_8 + 1))) (ev_add rfl rfl) (by decide) ?_
        refine sr_ev (v := .int .i64 (IntKind.i64.wrap (t_8 + 1))) (ev_move rfl) (by decide) ?_
        refine sr_end (l' := [(0, str s_0), (1, .func (.func 57) #[] #[]), (7, .int .i64 t_7), (8, .int .i64 (IntKind.i64.wrap (t_8 + 1)))]) (.cons rfl (.cons rfl (.cons rfl (.cons rfl (.nil _))))) ?_
        have hK := hr0 hS hb
        exact ke_weaken (l' := [(0, str s_0), (1, .func (.func 57) #[] #[]), (7, .int .i64 t_7), (8, .int .i64 (IntKind.i64.wrap (t_8 + 1)))]) (.cons rfl (.cons rfl (.cons rfl (.cons rfl (.nil _))))) hK
    · replace hS := ite_false' hS hc1
      refine ke_exit (k' := _) rfl ?_
      refine ke_seq ?_
      refine ke_region ?_
      refine sr_ev (v := str s_0) (ev_move rfl) (by decide) ?_
      refine sr_ev (v := .bool (!(s_0 == ([])))) (ev_sne rfl rfl) (by decide) ?_
      refine sr_ev (v := .bool (!(s_0 == ([])))) (ev_move rfl) (by decide) ?_
      refine sr_join (m := 4) (C := fun (x : Bool) w1 => x = ((!(s_0 == ([]))) && (decide ((s_0.length : Int) ≤ 64))) ∧ w = w1) (l' := fun x => [(24, .bool x)]) ?_ ?_
      · rintro _ _ ⟨rfl, rfl⟩
        refine sr_ev (v := .bool ((!(s_0 == ([]))) && (decide ((s_0.length : Int) ≤ 64)))) (ev_assign rfl) (by decide) ?_
        refine sr_end (l' := [(4, .bool ((!(s_0 == ([]))) && (decide ((s_0.length : Int) ≤ 64))))]) (.cons rfl (.nil _)) ?_
        cases hS
        exact ke_ret1 Tryd.func56 rfl rfl ⟨_, rfl, rfl, hb⟩
      · intro K9
        rcases Bool.eq_false_or_eq_true (!(s_0 == ([]))) with hg8 | hg8
        · refine sr_evg (b := true) (e := 20) rfl rfl hg8 (v := str s_0) (ev_move rfl) (by decide) ?_
          refine sr_evg (b := true) (e := 20) rfl rfl hg8 (v := .int .i64 (s_0.length : Int)) (ev_slen Tryd.underlying9 rfl) (by decide) ?_
          refine sr_evg (b := true) (e := 20) rfl rfl hg8 (v := .bool (decide ((s_0.length : Int) ≤ 64))) (ev_le rfl rfl) (by decide) ?_
          refine sr_ev (v := .bool (decide ((s_0.length : Int) ≤ 64))) (ev_pick_t rfl hg8 rfl) (by decide) ?_
          exact sr_weaken (l' := [(24, .bool (decide ((s_0.length : Int) ≤ 64)))]) (.cons rfl (.nil _)) (K9 (decide ((s_0.length : Int) ≤ 64)) _ ⟨by rw [hg8]; rfl, rfl⟩)
        · refine sr_pass (e := 20) rfl rfl (by rw [hg8]; rfl) (by decide) ?_
          refine sr_pass (e := 20) rfl rfl (by rw [hg8]; rfl) (by decide) ?_
          refine sr_pass (e := 20) rfl rfl (by rw [hg8]; rfl) (by decide) ?_
          refine sr_ev (v := .bool false) (ev_pick_f rfl hg8 rfl) (by decide) ?_
          exact sr_weaken (l' := [(24, .bool false)]) (.cons rfl (.nil _)) (K9 false _ ⟨by rw [hg8]; rfl, rfl⟩)
theorem fold_made__Word_1_ok (w0 : World) (hg : Gs w0) {s_0 : Str} {r : Bool} (hS : fold_made__Word_1 s_0 = some r) :
    Calls Tryd.prog 56 #[str s_0, .func (.func 57) #[] #[]] w0 (Ret (fun v w' => v = .bool r ∧ Below w0.heap.size w0 w')) := by
  unfold fold_made__Word_1 at hS
  have hb := Below.refl w0.heap.size w0
  refine calls_of_ke Tryd.func56 rfl (n := 25) rfl rfl (l := [(0, str s_0), (1, .func (.func 57) #[] #[])]) rfl ?_
  refine ke_seq ?_
  refine ke_region ?_
  refine sr_ev (v := .bool false) (ev_assign rfl) (by decide) ?_
  refine sr_end (l' := [(0, str s_0), (1, .func (.func 57) #[] #[])]) (.cons rfl (.cons rfl (.nil _))) ?_
  refine ke_seq ?_
  refine ke_seq ?_
  refine ke_region ?_
  refine sr_ev (v := str s_0) (ev_move rfl) (by decide) ?_
  refine sr_ev (v := .int .i64 (s_0.length : Int)) (ev_slen Tryd.underlying9 rfl) (by decide) ?_
  refine sr_ev (v := .int .i64 0) (ev_move rfl) (by decide) ?_
  refine sr_end (l' := [(0, str s_0), (1, .func (.func 57) #[] #[]), (7, .int .i64 (s_0.length : Int)), (8, .int .i64 0)]) (.cons rfl (.cons rfl (.cons rfl (.cons rfl (.nil _))))) ?_
  refine ke_block ?_
  have hK := fold_made__Word_1_L1_ok hg _ hS hb
  exact ke_weaken (l' := [(0, str s_0), (1, .func (.func 57) #[] #[]), (7, .int .i64 (s_0.length : Int)), (8, .int .i64 0)]) (.cons rfl (.cons rfl (.cons rfl (.cons rfl (.nil _))))) (ke_loop hK)
theorem fold_Word_ok (w0 : World) (hg : Gs w0) {s_0 : Str} {r : Bool} (hS : fold_Word s_0 = some r) :
    Calls Tryd.prog 44 #[str s_0] w0 (Ret (fun v w' => v = .bool r ∧ Below w0.heap.size w0 w')) := by
  unfold fold_Word at hS
  have hb := Below.refl w0.heap.size w0
  refine calls_of_ke Tryd.func44 rfl (n := 5) rfl rfl (l := [(0, str s_0)]) rfl ?_
  refine ke_seq ?_
  refine ke_region ?_
  refine sr_ev (v := .bool false) (ev_assign rfl) (by decide) ?_
  refine sr_end (l' := [(0, str s_0)]) (.cons rfl (.nil _)) ?_
  refine ke_seq ?_
  refine ke_region ?_
  refine sr_ev (v := str s_0) (ev_move rfl) (by decide) ?_
  obtain ⟨y1, hy2, hS⟩ := bind_some' hS
  refine sr_call (vs := [str s_0, .func (.func 57) #[] #[]]) rfl Tryd.call56 rfl (fold_made__Word_1_ok _ (hg.below hb) hy2) (by decide) ?_
  rintro _ w3 ⟨rfl, hbw4⟩
  replace hb := hb.trans (hbw4.mono hb.size)
  refine sr_ev (v := .bool y1) (ev_assign rfl) (by decide) ?_
  refine sr_end (l' := [(2, .bool y1)]) (.cons rfl (.nil _)) ?_
  cases hS
  exact ke_ret1 Tryd.func44 rfl rfl ⟨_, rfl, rfl, hb⟩
theorem scope_valid_ok (w0 : World) (hg : Gs w0) {s_0 : Str} {r : Bool} (hS : scope_valid s_0 = some r) :
    Calls Tryd.prog 32 #[str s_0] w0 (Ret (fun v w' => v = .bool r ∧ Below w0.heap.size w0 w')) := by
  unfold scope_valid at hS
  have hb := Below.refl w0.heap.size w0
  refine calls_of_ke Tryd.func32 rfl (n := 23) rfl rfl (l := [(0, str s_0)]) rfl ?_
  refine ke_seq ?_
  refine ke_region ?_
  refine sr_ev (v := .bool false) (ev_assign rfl) (by decide) ?_
  refine sr_end (l' := [(0, str s_0)]) (.cons rfl (.nil _)) ?_
  refine ke_seq ?_
  refine ke_region ?_
  refine sr_ev (v := str s_0) (ev_move rfl) (by decide) ?_
  obtain ⟨y1, hy2, hS⟩ := bind_some' hS
  refine sr_call (vs := [str s_0]) rfl Tryd.call44 rfl (fold_Word_ok _ (hg.below hb) hy2) (by decide) ?_
  rintro _ w3 ⟨rfl, hbw4⟩
  replace hb := hb.trans (hbw4.mono hb.size)
  refine sr_ev (v := .bool y1) (ev_move rfl) (by decide) ?_
  obtain ⟨z7, hz9, hS⟩ := bind_some' hS
  refine sr_join (m := 4) (C := fun (x : Bool) w1 => z7 = x ∧ Below w3.heap.size w3 w1) (l' := fun x => [(0, str s_0), (9, .bool x)]) ?_ ?_
  · rintro _ w10 ⟨rfl, hbw11⟩
    replace hb := hb.trans (hbw11.mono hb.size)
    refine sr_ev (v := .bool z7) (ev_move rfl) (by decide) ?_
    obtain ⟨z15, hz17, hS⟩ := bind_some' hS
    refine sr_join (m := 7) (C := fun (x : Bool) w1 => z15 = x ∧ Below w10.heap.size w10 w1) (l' := fun x => [(0, str s_0), (17, .bool x)]) ?_ ?_
    · rintro _ w18 ⟨rfl, hbw19⟩
      replace hb := hb.trans (hbw19.mono hb.size)
      refine sr_ev (v := .bool z15) (ev_move rfl) (by decide) ?_
      obtain ⟨z23, hz25, hS⟩ := bind_some' hS
      refine sr_join (m := 4) (C := fun (x : Bool) w1 => z23 = x ∧ Below w18.heap.size w18 w1) (l' := fun x => [(22, .bool x)]) ?_ ?_
      · rintro _ w26 ⟨rfl, hbw27⟩
        replace hb := hb.trans (hbw27.mono hb.size)
        refine sr_ev (v := .bool z23) (ev_assign rfl) (by decide) ?_
        refine sr_end (l' := [(2, .bool z23)]) (.cons rfl (.nil _)) ?_
        cases hS
        exact ke_ret1 Tryd.func32 rfl rfl ⟨_, rfl, rfl, hb⟩
      · intro K22
        clear hS
        have hj24 := Below.refl w18.heap.size w18
        rcases Bool.eq_false_or_eq_true z15 with hg21 | hg21
        · have hS := ite_true' hz25 hg21
          refine sr_evg (b := true) (e := 18) rfl rfl hg21 (v := str s_0) (ev_move rfl) (by decide) ?_
          obtain ⟨y28, hy29, hS⟩ := bind_some' hS
          refine sr_callg (b := true) (e := 18) rfl rfl hg21 (vs := [str s_0, str ([46, 46])]) rfl Tryd.call45 rfl (lib_Contains_ok _ (hg.below hb) hy29) (by decide) ?_
          rintro _ w30 ⟨rfl, hbw31⟩
          replace hb := hb.trans (hbw31.mono hb.size)
          replace hj24 := hj24.trans (hbw31.mono hj24.size)
          refine sr_evg (b := true) (e := 18) rfl rfl hg21 (v := .bool (!y28)) (ev_not rfl) (by decide) ?_
          refine sr_ev (v := .bool (!y28)) (ev_pick_t rfl hg21 rfl) (by decide) ?_
          exact sr_weaken (l' := [(22, .bool (!y28))]) (.cons rfl (.nil _)) (K22 (!y28) _ ⟨(Option.some.inj hS).symm, hj24⟩)
        · have hS := ite_false' hz25 hg21
          refine sr_pass (e := 18) rfl rfl (by rw [hg21]; rfl) (by decide) ?_
          refine sr_pass (e := 18) rfl rfl (by rw [hg21]; rfl) (by decide) ?_
          refine sr_pass (e := 18) rfl rfl (by rw [hg21]; rfl) (by decide) ?_
          refine sr_ev (v := .bool false) (ev_pick_f rfl hg21 rfl) (by decide) ?_
          exact sr_weaken (l' := [(22, .bool false)]) (.cons rfl (.nil _)) (K22 false _ ⟨(Option.some.inj hS).symm, hj24⟩)
    · intro K14
      clear hS
      have hj16 := Below.refl w10.heap.size w10
      rcases Bool.eq_false_or_eq_true z7 with hg13 | hg13
      · have hS := ite_true' hz17 hg13
        refine sr_evg (b := true) (e := 10) rfl rfl hg13 (v := str s_0) (ev_move rfl) (by decide) ?_
        refine sr_evg (b := true) (e := 10) rfl rfl hg13 (v := str s_0) (ev_move rfl) (by decide) ?_
        refine sr_evg (b := true) (e := 10) rfl rfl hg13 (v := .int .i64 (s_0.length : Int)) (ev_slen Tryd.underlying9 rfl) (by decide) ?_
        refine sr_evg (b := true) (e := 10) rfl rfl hg13 (v := .int .i64 (IntKind.i64.wrap ((s_0.length : Int) - 1))) (ev_sub rfl rfl) (by decide) ?_
        obtain ⟨hk20, hS⟩ := chk_some hS
        refine sr_evg (b := true) (e := 10) rfl rfl hg13 (v := .int .u8 (byteAt s_0 (IntKind.i64.wrap ((s_0.length : Int) - 1)))) (ev_sindex Tryd.underlying9 rfl rfl hk20) (by decide) ?_
        refine sr_evg (b := true) (e := 10) rfl rfl hg13 (v := .bool ((byteAt s_0 (IntKind.i64.wrap ((s_0.length : Int) - 1))) != 46)) (ev_ne rfl rfl) (by decide) ?_
        refine sr_ev (v := .bool ((byteAt s_0 (IntKind.i64.wrap ((s_0.length : Int) - 1))) != 46)) (ev_pick_t rfl hg13 rfl) (by decide) ?_
        exact sr_weaken (l' := [(0, str s_0), (17, .bool ((byteAt s_0 (IntKind.i64.wrap ((s_0.length : Int) - 1))) != 46))]) (.cons rfl (.cons rfl (.nil _))) (K14 ((byteAt s_0 (IntKind.i64.wrap ((s_0.length : Int) - 1))) != 46) _ ⟨(Option.some.inj hS).symm, hj16⟩)
      · have hS := ite_false' hz17 hg13
        refine sr_pass (e := 10) rfl rfl (by rw [hg13]; rfl) (by decide) ?_
        refine sr_pass (e := 10) rfl rfl (by rw [hg13]; rfl) (by decide) ?_
        refine sr_pass (e := 10) rfl rfl (by rw [hg13]; rfl) (by decide) ?_
        refine sr_pass (e := 10) rfl rfl (by rw [hg13]; rfl) (by decide) ?_
        refine sr_pass (e := 10) rfl rfl (by rw [hg13]; rfl) (by decide) ?_
        refine sr_pass (e := 10) rfl rfl (by rw [hg13]; rfl) (by decide) ?_
        refine sr_ev (v := .bool false) (ev_pick_f rfl hg13 rfl) (by decide) ?_
        exact sr_weaken (l' := [(0, str s_0), (17, .bool false)]) (.cons rfl (.cons rfl (.nil _))) (K14 false _ ⟨(Option.some.inj hS).symm, hj16⟩)
  · intro K6
    clear hS
    have hj8 := Below.refl w3.heap.size w3
    rcases Bool.eq_false_or_eq_true y1 with hg5 | hg5
    · have hS := ite_true' hz9 hg5
      refine sr_evg (b := true) (e := 5) rfl rfl hg5 (v := str s_0) (ev_move rfl) (by decide) ?_
      obtain ⟨hk12, hS⟩ := chk_some hS
      refine sr_evg (b := true) (e := 5) rfl rfl hg5 (v := .int .u8 (byteAt s_0 0)) (ev_sindex Tryd.underlying9 rfl rfl hk12) (by decide) ?_
      refine sr_evg (b := true) (e := 5) rfl rfl hg5 (v := .bool ((byteAt s_0 0) != 46)) (ev_ne rfl rfl) (by decide) ?_
      refine sr_ev (v := .bool ((byteAt s_0 0) != 46)) (ev_pick_t rfl hg5 rfl) (by decide) ?_
      exact sr_weaken (l' := [(0, str s_0), (9, .bool ((byteAt s_0 0) != 46))]) (.cons rfl (.cons rfl (.nil _))) (K6 ((byteAt s_0 0) != 46) _ ⟨(Option.some.inj hS).symm, hj8⟩)
    · have hS := ite_false' hz9 hg5
      refine sr_pass (e := 5) rfl rfl (by rw [hg5]; rfl) (by decide) ?_
      refine sr_pass (e := 5) rfl rfl (by rw [hg5]; rfl) (by decide) ?_
      refine sr_pass (e := 5) rfl rfl (by rw [hg5]; rfl) (by decide) ?_
      refine sr_ev (v := .bool false) (ev_pick_f rfl hg5 rfl) (by decide) ?_
      exact sr_weaken (l' := [(0, str s_0), (9, .bool false)]) (.cons rfl (.cons rfl (.nil _))) (K6 false _ ⟨(Option.some.inj hS).symm, hj8⟩)
theorem slices_Index_string_string_L1_ok {w0 : World} (hg : Gs w0) {A0 : Nat → Prop} (hA0 : ∀ b, A0 b → b < w0.heap.size) : ∀ (n : Nat), ∀ {r : Int} {s_0 : List Str} {v_1 : Str} {t_7 : Int} {t_8 : Int} {vs_0 : Value}, slices_Index_string_string_L1 n s_0 v_1 t_7 t_8 = some r → ∀ {w : World} {A : Nat → Prop}, (Below w0.heap.size w0 w) → (∀ b, A b → b < w.heap.size) → (∀ b, A0 b → A b) → (Hp A w0.heap.size w []) → (SlR strC A w vs_0 s_0) → KE Tryd.prog 46 (Ret (fun v w' => v = .int .i64 r ∧ Below w0.heap.size w0 w')) 19 [.code (sub (bodyOf Tryd.f46) [2, 1, 2, 2, 1]), .inLoop (sub (bodyOf Tryd.f46) [2, 1, 2, 2, 1]), .inBlock 0, .code (sub (bodyOf Tryd.f46) [2, 2])] [(0, vs_0), (1, str v_1), (7, .int .i64 t_7), (8, .int .i64 t_8)] w := by
  intro n
  induction n with
  | zero => intro r s_0 v_1 t_7 t_8 vs_0 hS; cases hS
  | succ n ih =>
    have hr0 : ∀ {r : Int} {s_0 : List Str} {v_1 : Str} {t_7 : Int} {t_8 : Int} {vs_0 : Value}, slices_Index_string_string_L1 n s_0 v_1 t_7 t_8 = some r → ∀ {w : World} {A : Nat → Prop}, (Below w0.heap.size w0 w) → (∀ b, A b → b < w.heap.size) → (∀ b, A0 b → A b) → (Hp A w0.heap.size w []) → (SlR strC A w vs_0 s_0) → KE Tryd.prog 46 (Ret (fun v w' => v = .int .i64 r ∧ Below w0.heap.size w0 w')) 19 [.inLoop (sub (bodyOf Tryd.f46) [2, 1, 2, 2, 1]), .inBlock 0, .code (sub (bodyOf Tryd.f46) [2, 2])] [(0, vs_0), (1, str v_1), (7, .int .i64 t_7), (8, .int .i64 t_8)] w := fun {r} {s_0} {v_1} {t_7} {t_8} {vs_0} hS {w} {A} hb hA hi hH hs_0 => ke_inLoop (ih hS hb hA hi hH hs_0)
    clear ih
    intro r s_0 v_1 t_7 t_8 vs_0 hS w A hb hA hi hH hs_0
    unfold slices_Index_string_string_L1 at hS
    refine ke_seq ?_
    refine ke_region ?_
    refine sr_ev (v := .bool (decide (t_8 < t_7))) (ev_lt rfl rfl) (by decide) ?_
    refine sr_end (l' := [(0, vs_0), (1, str v_1), (7, .int .i64 t_7), (8, .int .i64 t_8), (9, .bool (decide (t_8 < t_7)))]) (.cons rfl (.cons rfl (.cons rfl (.cons rfl (.cons rfl (.nil _)))))) ?_
    refine ke_seq ?_
    refine ke_cond (t := decide (t_8 < t_7)) rfl (fun hc3 => ?_) (fun hc3 => ?_)
    · replace hS := ite_true' hS hc3
      refine ke_skip ?_
      refine ke_seq ?_
      refine ke_block ?_
      refine ke_seq ?_
      refine ke_region ?_
      refine sr_ev (v := .int .i64 t_8) (ev_move rfl) (by decide) ?_
      refine sr_ev (v := .int .i64 t_8) (ev_assign rfl) (by decide) ?_
      refine sr_end (l' := [(0, vs_0), (1, str v_1), (5, .int .i64 t_8), (7, .int .i64 t_7), (8, .int .i64 t_8)]) (.cons rfl (.cons rfl (.cons rfl (.cons rfl (.cons rfl (.nil _)))))) ?_
      refine ke_seq ?_
      refine ke_region ?_
      refine sr_ev (v := str v_1) (ev_move rfl) (by decide) ?_
      refine sr_ev (v := vs_0) (ev_move rfl) (by decide) ?_
      refine sr_ev (v := .int .i64 t_8) (ev_move rfl) (by decide) ?_
      obtain ⟨y4, hy5, hS⟩ := bind_some' hS
      refine sr_index hs_0 Tryd.underlying22 Tryd.info9 rfl rfl rfl hy5 (by decide) ?_
      intro b6 o7 cs9 he8
      obtain rfl : cs9 = [str y4] := he8.rd
      refine sr_ev (v := str y4) (ev_load Tryd.isAgg9 rfl (he8.cell 0 _ rfl)) (by decide) ?_
      refine sr_ev (v := .bool (v_1 == y4)) (ev_seq rfl rfl) (by decide) ?_
      refine sr_end (l' := [(0, vs_0), (1, str v_1), (5, .int .i64 t_8), (7, .int .i64 t_7), (8, .int .i64 t_8), (16, .bool (v_1 == y4))]) (.cons rfl (.cons rfl (.cons rfl (.cons rfl (.cons rfl (.cons rfl (.nil _))))))) ?_
      refine ke_cond (t := v_1 == y4) rfl (fun hc10 => ?_) (fun hc10 => ?_)
      · replace hS := ite_true' hS hc10
        refine ke_seq ?_
        refine ke_region ?_
        refine sr_ev (v := .int .i64 t_8) (ev_move rfl) (by decide) ?_
        refine sr_ev (v := .int .i64 t_8) (ev_assign rfl) (by decide) ?_
        refine sr_end (l' := [(4, .int .i64 t_8)]) (.cons rfl (.nil _)) ?_
        cases hS
        exact ke_ret1 Tryd.func46 rfl rfl ⟨_, rfl, rfl, hb⟩
      · replace hS := ite_false' hS hc10
        refine ke_skip ?_
        refine ke_inBlock ?_
        refine ke_region ?_
        refine sr_ev (v := .int .i64 (IntKind.i64.wrap (t_8 + 1))) (ev_add rfl rfl) (by decide) ?_
        refine sr_ev (v := .int .i64 (IntKind.i64.wrap (t_8 + 1))) (ev_move rfl) (by decide) ?_
        refine sr_end (l' := [(0, vs_0), (1, str v_1), (7, .int .i64 t_7), (8, .int .i64 (IntKind.i64.wrap (t_8 + 1)))]) (.cons rfl (.cons rfl (.cons rfl (.cons rfl (.nil _))))) ?_
        have hK := hr0 hS hb hA hi hH hs_0
        exact ke_weaken (l' := [(0, vs_0), (1, str v_1), (7, .int .i64 t_7), (8, .int .i64 (IntKind.i64.wrap (t_8 + 1)))]) (.cons rfl (.cons rfl (.cons rfl (.cons rfl (.nil _))))) hK
    · replace hS := ite_false' hS hc3
      refine ke_exit (k' := _) rfl ?_
      refine ke_seq ?_
      refine ke_region ?_
      refine sr_ev (v := .int .i64 (-1)) (ev_assign rfl) (by decide) ?_
      refine sr_end (l' := [(4, .int .i64 (-1))]) (.cons rfl (.nil _)) ?_
      cases hS
      exact ke_ret1 Tryd.func46 rfl rfl ⟨_, rfl, rfl, hb⟩
theorem slices_Index_string_string_ok {A0 : Nat → Prop} (w0 : World) (hg : Gs w0) {s_0 : List Str} {v_1 : Str} {v1 : Value} {r : Int} (h2 : SlR strC A0 w0 v1 s_0) (hS : slices_Index_string_string s_0 v_1 = some r) :
    Calls Tryd.prog 46 #[v1, str v_1] w0 (Ret (fun v w' => v = .int .i64 r ∧ Below w0.heap.size w0 w')) := by
  unfold slices_Index_string_string at hS
  have hb := Below.refl w0.heap.size w0
  replace h2 := h2.weak (A' := fun _ => False) (fun _ h => h.elim)
  obtain ⟨A0, hA0, hAe⟩ : ∃ A0 : Nat → Prop, (∀ b, A0 b → b < w0.heap.size) ∧ A0 = fun _ => False := ⟨_, fun _ h => h.elim, rfl⟩
  rw [← hAe] at h2
  clear hAe
  have hA := hA0
  have hi : ∀ b, A0 b → A0 b := fun _ h => h
  have hH := Hp.nil A0 w0.heap.size w0
  refine calls_of_ke Tryd.func46 rfl (n := 19) rfl rfl (l := [(0, v1), (1, str v_1)]) rfl ?_
  refine ke_seq ?_
  refine ke_region ?_
  refine sr_ev (v := .int .i64 0) (ev_assign rfl) (by decide) ?_
  refine sr_end (l' := [(0, v1), (1, str v_1)]) (.cons rfl (.cons rfl (.nil _))) ?_
  refine ke_seq ?_
  refine ke_seq ?_
  refine ke_region ?_
  refine sr_ev (v := v1) (ev_move rfl) (by decide) ?_
  refine sr_ev (v := .int .i64 (s_0.length : Int)) (ev_sllen Tryd.underlying22 rfl h2) (by decide) ?_
  refine sr_ev (v := .int .i64 0) (ev_move rfl) (by decide) ?_
  refine sr_end (l' := [(0, v1), (1, str v_1), (7, .int .i64 (s_0.length : Int)), (8, .int .i64 0)]) (.cons rfl (.cons rfl (.cons rfl (.cons rfl (.nil _))))) ?_
  refine ke_block ?_
  have hK := slices_Index_string_string_L1_ok hg hA0 _ hS hb hA hi hH h2
  exact ke_weaken (l' := [(0, v1), (1, str v_1), (7, .int .i64 (s_0.length : Int)), (8, .int .i64 0)]) (.cons rfl (.cons rfl (.cons rfl (.cons rfl (.nil _))))) (ke_loop hK)
theorem slices_Contains_string_string_ok {A0 : Nat → Prop} (w0 : World) (hg : Gs w0) {s_0 : List Str} {v_1 : Str} {v1 : Value} {r : Bool} (h2 : SlR strC A0 w0 v1 s_0) (hS : slices_Contains_string_string s_0 v_1 = some r) :
    Calls Tryd.prog 33 #[v1, str v_1] w0 (Ret (fun v w' => v = .bool r ∧ Below w0.heap.size w0 w')) := by
  unfold slices_Contains_string_string at hS
  have hb := Below.refl w0.heap.size w0
  replace h2 := h2.weak (A' := fun _ => False) (fun _ h => h.elim)
  obtain ⟨A0, hA0, hAe⟩ : ∃ A0 : Nat → Prop, (∀ b, A0 b → b < w0.heap.size) ∧ A0 = fun _ => False := ⟨_, fun _ h => h.elim, rfl⟩
  rw [← hAe] at h2
  clear hAe
  have hA := hA0
  have hi : ∀ b, A0 b → A0 b := fun _ h => h
  have hH := Hp.nil A0 w0.heap.size w0
  refine calls_of_ke Tryd.func33 rfl (n := 9) rfl rfl (l := [(0, v1), (1, str v_1)]) rfl ?_
  refine ke_seq ?_
  refine ke_region ?_
  refine sr_ev (v := .bool false) (ev_assign rfl) (by decide) ?_
  refine sr_end (l' := [(0, v1), (1, str v_1)]) (.cons rfl (.cons rfl (.nil _))) ?_
  refine ke_seq ?_
  refine ke_region ?_
  refine sr_ev (v := v1) (ev_move rfl) (by decide) ?_
  refine sr_ev (v := str v_1) (ev_move rfl) (by decide) ?_
  obtain ⟨y3, hy4, hS⟩ := bind_some' hS
  refine sr_call (vs := [v1, str v_1]) rfl Tryd.call46 rfl (slices_Index_string_string_ok _ (hg.below hb) h2 hy4) (by decide) ?_
  rintro _ w5 ⟨rfl, hbw6⟩
  replace hb := hb.trans (hbw6.mono hb.size)
  replace hA := lt_mono hA hbw6.size
  replace hH := hH.below hbw6
  refine sr_ev (v := .bool (decide (y3 ≥ 0))) (ev_ge rfl rfl) (by decide) ?_
  refine sr_ev (v := .bool (decide (y3 ≥ 0))) (ev_assign rfl) (by decide) ?_
  refine sr_end (l' := [(4, .bool (decide (y3 ≥ 0)))]) (.cons rfl (.nil _)) ?_
  cases hS
  exact ke_ret1 Tryd.func33 rfl rfl ⟨_, rfl, rfl, hb⟩
theorem scope_Check_L1_ok {w0 : World} (hg : Gs w0) {A0 : Nat → Prop} (hA0 : ∀ b, A0 b → b < w0.heap.size) : ∀ (n : Nat), ∀ {r : Int} {l_0 : List Str} {t_8 : List Str} {t_9 : Int} {t_10 : Int} {vl_0 : Value} {vt_8 : Value}, scope_Check_L1 n l_0 t_8 t_9 t_10 = some r → ∀ {w : World} {A : Nat → Prop}, (Below w0.heap.size w0 w) → (∀ b, A b → b < w.heap.size) → (∀ b, A0 b → A b) → (Hp A w0.heap.size w []) → (SlR strC A w vl_0 l_0) → (SlR strC A w vt_8 t_8) → KE Tryd.prog 16 (Ret (fun v w' => v = .int .i64 r ∧ Below w0.heap.size w0 w')) 24 [.code (sub (bodyOf Tryd.f16) [2, 2, 1, 2, 2, 1]), .inLoop (sub (bodyOf Tryd.f16) [2, 2, 1, 2, 2, 1]), .inBlock 0, .code (sub (bodyOf Tryd.f16) [2, 2, 2])] [(0, vl_0), (8, vt_8), (9, .int .i64 t_9), (10, .int .i64 t_10)] w := by
  intro n
  induction n with
  | zero => intro r l_0 t_8 t_9 t_10 vl_0 vt_8 hS; cases hS
  | succ n ih =>
    have hr0 : ∀ {r : Int} {l_0 : List Str} {t_8 : List Str} {t_9 : Int} {t_10 : Int} {vl_0 : Value} {vt_8 : Value}, scope_Check_L1 n l_0 t_8 t_9 t_10 = some r → ∀ {w : World} {A : Nat → Prop}, (Below w0.heap.size w0 w) → (∀ b, A b → b < w.heap.size) → (∀ b, A0 b → A b) → (Hp A w0.heap.size w []) → (SlR strC A w vl_0 l_0) → (SlR strC A w vt_8 t_8) → KE Tryd.prog 16 (Ret (fun v w' => v = .int .i64 r ∧ Below w0.heap.size w0 w')) 24 [.inLoop (sub (bodyOf Tryd.f16) [2, 2, 1, 2, 2, 1]), .inBlock 0, .code (sub (bodyOf Tryd.f16) [2, 2, 2])] [(0, vl_0), (8, vt_8), (9, .int .i64 t_9), (10, .int .i64 t_10)] w := fun {r} {l_0} {t_8} {t_9} {t_10} {vl_0} {vt_8} hS {w} {A} hb hA hi hH hl_0 ht_8 => ke_inLoop (ih hS hb hA hi hH hl_0 ht_8)
    clear ih
    intro r l_0 t_8 t_9 t_10 vl_0 vt_8 hS w A hb hA hi hH hl_0 ht_8
    unfold scope_Check_L1 at hS
    refine ke_seq ?_
    refine ke_region ?_
    refine sr_ev (v := .bool (decide (t_10 < t_9))) (ev_lt rfl rfl) (by decide) ?_
    refine sr_end (l' := [(0, vl_0), (8, vt_8), (9, .int .i64 t_9), (10, .int .i64 t_10), (11, .bool (decide (t_10 < t_9)))]) (.cons rfl (.cons rfl (.cons rfl (.cons rfl (.cons rfl (.nil _)))))) ?_
    refine ke_seq ?_
    refine ke_cond (t := decide (t_10 < t_9)) rfl (fun hc4 => ?_) (fun hc4 => ?_)
    · replace hS := ite_true' hS hc4
      refine ke_skip ?_
      refine ke_seq ?_
      refine ke_block ?_
      refine ke_seq ?_
      refine ke_region ?_
      refine sr_ev (v := .int .i64 t_10) (ev_move rfl) (by decide) ?_
      obtain ⟨y5, hy6, hS⟩ := bind_some' hS
      refine sr_index ht_8 Tryd.underlying22 Tryd.info9 rfl rfl rfl hy6 (by decide) ?_
      intro b7 o8 cs10 he9
      obtain rfl : cs10 = [str y5] := he9.rd
      refine sr_ev (v := str y5) (ev_load Tryd.isAgg9 rfl (he9.cell 0 _ rfl)) (by decide) ?_
      refine sr_ev (v := .int .i64 t_10) (ev_assign rfl) (by decide) ?_
      refine sr_ev (v := str y5) (ev_assign rfl) (by decide) ?_
      refine sr_end (l' := [(0, vl_0), (3, .int .i64 t_10), (4, str y5), (8, vt_8), (9, .int .i64 t_9), (10, .int .i64 t_10)]) (.cons rfl (.cons rfl (.cons rfl (.cons rfl (.cons rfl (.cons rfl (.nil _))))))) ?_
      refine ke_seq ?_
      refine ke_seq ?_
      refine ke_region ?_
      refine sr_ev (v := str y5) (ev_move rfl) (by decide) ?_
      obtain ⟨y11, hy12, hS⟩ := bind_some' hS
      refine sr_call (vs := [str y5]) rfl Tryd.call32 rfl (scope_valid_ok _ (hg.below hb) hy12) (by decide) ?_
      rintro _ w13 ⟨rfl, hbw14⟩
      replace hb := hb.trans (hbw14.mono hb.size)
      replace hA := lt_mono hA hbw14.size
      replace hH := hH.below hbw14
      replace hl_0 := hl_0.below hbw14
      replace ht_8 := ht_8.below hbw14
      refine sr_ev (v := .bool (!y11)) (ev_not rfl) (by decide) ?_
      refine sr_end (l' := [(0, vl_0), (3, .int .i64 t_10), (4, str y5), (8, vt_8), (9, .int .i64 t_9), (10, .int .i64 t_10), (17, .bool (!y11))]) (.cons rfl (.cons rfl (.cons rfl (.cons rfl (.cons rfl (.cons rfl (.cons rfl (.nil _)))))))) ?_
      refine ke_cond (t := !y11) rfl (fun hc15 => ?_) (fun hc15 => ?_)
      · replace hS := ite_true' hS hc15
        refine ke_seq ?_
        refine ke_region ?_
        refine sr_ev (v := .int .i64 5) (ev_assign rfl) (by decide) ?_
        refine sr_end (l' := [(2, .int .i64 5)]) (.cons rfl (.nil _)) ?_
        cases hS
        exact ke_ret1 Tryd.func16 rfl rfl ⟨_, rfl, rfl, hb⟩
      · replace hS := ite_false' hS hc15
        refine ke_skip ?_
        refine ke_seq ?_
        refine ke_region ?_
        refine sr_ev (v := vl_0) (ev_move rfl) (by decide) ?_
        refine sr_ev (v := .int .i64 t_10) (ev_move rfl) (by decide) ?_
        obtain ⟨hk16, hS⟩ := chk_some hS
        refine sr_slice_h hl_0 Tryd.underlying22 Tryd.info9 rfl rfl rfl  hk16 (by decide) ?_
        intro v17 h18
        refine sr_ev (v := str y5) (ev_move rfl) (by decide) ?_
        obtain ⟨y19, hy20, hS⟩ := bind_some' hS
        refine sr_call (vs := [v17, str y5]) rfl Tryd.call33 rfl (slices_Contains_string_string_ok _ (hg.below hb) h18 hy20) (by decide) ?_
        rintro _ w21 ⟨rfl, hbw22⟩
        replace hb := hb.trans (hbw22.mono hb.size)
        replace hA := lt_mono hA hbw22.size
        replace hH := hH.below hbw22
        replace hl_0 := hl_0.below hbw22
        replace ht_8 := ht_8.below hbw22
        refine sr_end (l' := [(0, vl_0), (8, vt_8), (9, .int .i64 t_9), (10, .int .i64 t_10), (22, .bool y19)]) (.cons rfl (.cons rfl (.cons rfl (.cons rfl (.cons rfl (.nil _)))))) ?_
        refine ke_cond (t := y19) rfl (fun hc23 => ?_) (fun hc23 => ?_)
        · replace hS := ite_true' hS hc23
          refine ke_seq ?_
          refine ke_region ?_
          refine sr_ev (v := .int .i64 7) (ev_assign rfl) (by decide) ?_
          refine sr_end (l' := [(2, .int .i64 7)]) (.cons rfl (.nil _)) ?_
          cases hS
          exact ke_ret1 Tryd.func16 rfl rfl ⟨_, rfl, rfl, hb⟩
        · replace hS := ite_false' hS hc23
          refine ke_skip ?_
          refine ke_inBlock ?_
          refine ke_region ?_
          refine sr_ev (v := .int .i64 (IntKind.i64.wrap (t_10 + 1))) (ev_add rfl rfl) (by decide) ?_
          refine sr_ev (v := .int .i64 (IntKind.i64.wrap (t_10 + 1))) (ev_move rfl) (by decide) ?_
          refine sr_end (l' := [(0, vl_0), (8, vt_8), (9, .int .i64 t_9), (10, .int .i64 (IntKind.i64.wrap (t_10 + 1)))]) (.cons rfl (.cons rfl (.cons rfl (.cons rfl (.nil _))))) ?_
          have hK := hr0 hS hb hA hi hH hl_0 ht_8
          exact ke_weaken (l' := [(0, vl_0), (8, vt_8), (9, .int .i64 t_9), (10, .int .i64 (IntKind.i64.wrap (t_10 + 1)))]) (.cons rfl (.cons rfl (.cons rfl (.cons rfl (.nil _))))) hK
    · replace hS := ite_false' hS hc4
      refine ke_exit (k' := _) rfl ?_
      refine ke_seq ?_
      refine ke_region ?_
      refine sr_ev (v := .int .i64 0) (ev_assign rfl) (by decide) ?_
      refine sr_end (l' := [(2, .int .i64 0)]) (.cons rfl (.nil _)) ?_
      cases hS
      exact ke_ret1 Tryd.func16 rfl rfl ⟨_, rfl, rfl, hb⟩
theorem scope_Check_ok {A0 : Nat → Prop} (w0 : World) (hg : Gs w0) {l_0 : List Str} {v1 : Value} {r : Int} (h2 : SlR strC A0 w0 v1 l_0) (hS : scope_Check l_0 = some r) :
    Calls Tryd.prog 16 #[v1] w0 (Ret (fun v w' => v = .int .i64 r ∧ Below w0.heap.size w0 w')) := by
  unfold scope_Check at hS
  have hb := Below.refl w0.heap.size w0
  replace h2 := h2.weak (A' := fun _ => False) (fun _ h => h.elim)
  obtain ⟨A0, hA0, hAe⟩ : ∃ A0 : Nat → Prop, (∀ b, A0 b → b < w0.heap.size) ∧ A0 = fun _ => False := ⟨_, fun _ h => h.elim, rfl⟩
  rw [← hAe] at h2
  clear hAe
  have hA := hA0
  have hi : ∀ b, A0 b → A0 b := fun _ h => h
  have hH := Hp.nil A0 w0.heap.size w0
  refine calls_of_ke Tryd.func16 rfl (n := 24) rfl rfl (l := [(0, v1)]) rfl ?_
  refine ke_seq ?_
  refine ke_region ?_
  refine sr_ev (v := .int .i64 0) (ev_assign rfl) (by decide) ?_
  refine sr_end (l' := [(0, v1)]) (.cons rfl (.nil _)) ?_
  refine ke_seq ?_
  refine ke_seq ?_
  refine ke_region ?_
  refine sr_ev (v := v1) (ev_move rfl) (by decide) ?_
  refine sr_ev (v := .int .i64 (l_0.length : Int)) (ev_sllen Tryd.underlying22 rfl h2) (by decide) ?_
  refine sr_ev (v := .bool (decide ((l_0.length : Int) > 16))) (ev_gt rfl rfl) (by decide) ?_
  refine sr_end (l' := [(0, v1), (7, .bool (decide ((l_0.length : Int) > 16)))]) (.cons rfl (.cons rfl (.nil _))) ?_
  refine ke_cond (t := decide ((l_0.length : Int) > 16)) rfl (fun hc3 => ?_) (fun hc3 => ?_)
  · replace hS := ite_true' hS hc3
    refine ke_seq ?_
    refine ke_region ?_
    refine sr_ev (v := .int .i64 3) (ev_assign rfl) (by decide) ?_
    refine sr_end (l' := [(2, .int .i64 3)]) (.cons rfl (.nil _)) ?_
    cases hS
    exact ke_ret1 Tryd.func16 rfl rfl ⟨_, rfl, rfl, hb⟩
  · replace hS := ite_false' hS hc3
    refine ke_skip ?_
    refine ke_seq ?_
    refine ke_seq ?_
    refine ke_region ?_
    refine sr_ev (v := v1) (ev_move rfl) (by decide) ?_
    refine sr_ev (v := .int .i64 (l_0.length : Int)) (ev_sllen Tryd.underlying22 rfl h2) (by decide) ?_
    refine sr_ev (v := .int .i64 0) (ev_move rfl) (by decide) ?_
    refine sr_end (l' := [(0, v1), (8, v1), (9, .int .i64 (l_0.length : Int)), (10, .int .i64 0)]) (.cons rfl (.cons rfl (.cons rfl (.cons rfl (.nil _))))) ?_
    refine ke_block ?_
    have hK := scope_Check_L1_ok hg hA0 _ hS hb hA hi hH h2 h2
    exact ke_weaken (l' := [(0, v1), (8, v1), (9, .int .i64 (l_0.length : Int)), (10, .int .i64 0)]) (.cons rfl (.cons rfl (.cons rfl (.cons rfl (.nil _))))) (ke_loop hK)
theorem scope_Parse_ok {A0 : Nat → Prop} (w0 : World) (hg : Gs w0) {s_0 : Str} {r : (List Str) × Int} (hA0 : ∀ b, A0 b → b < w0.heap.size) (hS : scope_Parse s_0 = some r) :
    Calls Tryd.prog 14 #[str s_0] w0 (Ret (fun v w' => ∃ x1, v = .tuple #[x1, .int .i64 r.2] ∧ SlR strC A0 w' x1 r.1 ∧ Below w0.heap.size w0 w')) := by
  unfold scope_Parse at hS
  have hb := Below.refl w0.heap.size w0
  have hA := hA0
  have hi : ∀ b, A0 b → A0 b := fun _ h => h
  have hH := Hp.nil A0 w0.heap.size w0
  refine calls_of_ke Tryd.func14 rfl (n := 16) rfl rfl (l := [(0, str s_0)]) rfl ?_
  refine ke_seq ?_
  refine ke_region ?_
  refine sr_ev (v := .slice none 0 0) (ev_assign rfl) (by decide) ?_
  refine sr_ev (v := .int .i64 0) (ev_assign rfl) (by decide) ?_
  refine sr_end (l' := [(0, str s_0)]) (.cons rfl (.nil _)) ?_
  refine ke_seq ?_
  refine ke_seq ?_
  refine ke_region ?_
  refine sr_ev (v := str s_0) (ev_move rfl) (by decide) ?_
  refine sr_ev (v := .bool (s_0 == ([]))) (ev_seq rfl rfl) (by decide) ?_
  refine sr_end (l' := [(0, str s_0), (7, .bool (s_0 == ([])))]) (.cons rfl (.cons rfl (.nil _))) ?_
  refine ke_cond (t := s_0 == ([])) rfl (fun hc3 => ?_) (fun hc3 => ?_)
  · replace hS := ite_true' hS hc3
    refine ke_seq ?_
    refine ke_region ?_
    refine sr_ev (v := .slice none 0 0) (ev_assign rfl) (by decide) ?_
    refine sr_ev (v := .int .i64 0) (ev_assign rfl) (by decide) ?_
    refine sr_end (l' := [(2, .slice none 0 0), (3, .int .i64 0)]) (.cons rfl (.cons rfl (.nil _))) ?_
    cases hS
    exact ke_ret2 Tryd.func14 rfl rfl rfl ⟨_, rfl, _, rfl, SlR.nil, hb⟩
  · replace hS := ite_false' hS hc3
    refine ke_skip ?_
    refine ke_seq ?_
    refine ke_region ?_
    refine sr_ev (v := str s_0) (ev_move rfl) (by decide) ?_
    obtain ⟨y4, hy5, hS⟩ := bind_some' hS
    refine sr_call (vs := [str s_0, str ([32])]) rfl Tryd.call31 rfl (lib_Split_ok _ (hg.below hb) hA hy5) (by decide) ?_
    rintro v8 w6 ⟨_, rfl, h9, hbw7⟩
    replace hb := hb.trans (hbw7.mono hb.size)
    replace hA := lt_mono hA hbw7.size
    replace hH := hH.below hbw7
    refine sr_ev (v := v8) (ev_assign rfl) (by decide) ?_
    refine sr_end (l' := [(4, v8)]) (.cons rfl (.nil _)) ?_
    refine ke_seq ?_
    refine ke_seq ?_
    refine ke_region ?_
    refine sr_ev (v := v8) (ev_move rfl) (by decide) ?_
    obtain ⟨y10, hy11, hS⟩ := bind_some' hS
    refine sr_call (vs := [v8]) rfl Tryd.call16 rfl (scope_Check_ok _ (hg.below hb) h9 hy11) (by decide) ?_
    rintro _ w12 ⟨rfl, hbw13⟩
    replace hb := hb.trans (hbw13.mono hb.size)
    replace hA := lt_mono hA hbw13.size
    replace hH := hH.below hbw13
    replace h9 := h9.below hbw13
    refine sr_ev (v := .int .i64 y10) (ev_assign rfl) (by decide) ?_
    refine sr_end (l' := [(4, v8), (5, .int .i64 y10)]) (.cons rfl (.cons rfl (.nil _))) ?_
    refine ke_seq ?_
    refine ke_region ?_
    refine sr_ev (v := .int .i64 y10) (ev_move rfl) (by decide) ?_
    refine sr_ev (v := .bool (y10 != 0)) (ev_ne rfl rfl) (by decide) ?_
    refine sr_end (l' := [(4, v8), (5, .int .i64 y10), (13, .bool (y10 != 0))]) (.cons rfl (.cons rfl (.cons rfl (.nil _)))) ?_
    refine ke_cond (t := y10 != 0) rfl (fun hc14 => ?_) (fun hc14 => ?_)
    · replace hS := ite_true' hS hc14
      refine ke_seq ?_
      refine ke_region ?_
      refine sr_ev (v := .int .i64 y10) (ev_move rfl) (by decide) ?_
      refine sr_ev (v := .slice none 0 0) (ev_assign rfl) (by decide) ?_
      refine sr_ev (v := .int .i64 y10) (ev_assign rfl) (by decide) ?_
      refine sr_end (l' := [(2, .slice none 0 0), (3, .int .i64 y10)]) (.cons rfl (.cons rfl (.nil _))) ?_
      cases hS
      exact ke_ret2 Tryd.func14 rfl rfl rfl ⟨_, rfl, _, rfl, SlR.nil, hb⟩
    · replace hS := ite_false' hS hc14
      refine ke_skip ?_
      refine ke_seq ?_
      refine ke_region ?_
      refine sr_ev (v := v8) (ev_move rfl) (by decide) ?_
      refine sr_ev (v := v8) (ev_assign rfl) (by decide) ?_
      refine sr_ev (v := .int .i64 0) (ev_assign rfl) (by decide) ?_
      refine sr_end (l' := [(2, v8), (3, .int .i64 0)]) (.cons rfl (.cons rfl (.nil _))) ?_
      cases hS
      exact ke_ret2 Tryd.func14 rfl rfl rfl ⟨_, rfl, _, rfl, h9.weak hi, hb⟩
theorem scope_Text_ok {A0 : Nat → Prop} (w0 : World) (hg : Gs w0) {l_0 : List Str} {v1 : Value} {r : Str × Int} (h2 : SlR strC A0 w0 v1 l_0) (hS : scope_Text l_0 = some r) :
    Calls Tryd.prog 12 #[v1] w0 (Ret (fun v w' => v = .tuple #[str r.1, .int .i64 r.2] ∧ Below w0.heap.size w0 w')) := by
  unfold scope_Text at hS
  have hb := Below.refl w0.heap.size w0
  replace h2 := h2.weak (A' := fun _ => False) (fun _ h => h.elim)
  obtain ⟨A0, hA0, hAe⟩ : ∃ A0 : Nat → Prop, (∀ b, A0 b → b < w0.heap.size) ∧ A0 = fun _ => False := ⟨_, fun _ h => h.elim, rfl⟩
  rw [← hAe] at h2
  clear hAe
  have hA := hA0
  have hi : ∀ b, A0 b → A0 b := fun _ h => h
  have hH := Hp.nil A0 w0.heap.size w0
  refine calls_of_ke Tryd.func12 rfl (n := 12) rfl rfl (l := [(0, v1)]) rfl ?_
  refine ke_seq ?_
  refine ke_region ?_
  refine sr_ev (v := str ([])) (ev_assign rfl) (by decide) ?_
  refine sr_ev (v := .int .i64 0) (ev_assign rfl) (by decide) ?_
  refine sr_end (l' := [(0, v1)]) (.cons rfl (.nil _)) ?_
  refine ke_seq ?_
  refine ke_seq ?_
  refine ke_region ?_
  refine sr_ev (v := v1) (ev_move rfl) (by decide) ?_
  obtain ⟨y3, hy4, hS⟩ := bind_some' hS
  refine sr_call (vs := [v1]) rfl Tryd.call16 rfl (scope_Check_ok _ (hg.below hb) h2 hy4) (by decide) ?_
  rintro _ w5 ⟨rfl, hbw6⟩
  replace hb := hb.trans (hbw6.mono hb.size)
  replace hA := lt_mono hA hbw6.size
  replace hH := hH.below hbw6
  replace h2 := h2.below hbw6
  refine sr_ev (v := .int .i64 y3) (ev_assign rfl) (by decide) ?_
  refine sr_end (l' := [(0, v1), (4, .int .i64 y3)]) (.cons rfl (.cons rfl (.nil _))) ?_
  refine ke_seq ?_
  refine ke_region ?_
  refine sr_ev (v := .int .i64 y3) (ev_move rfl) (by decide) ?_
  refine sr_ev (v := .bool (y3 != 0)) (ev_ne rfl rfl) (by decide) ?_
  refine sr_end (l' := [(0, v1), (4, .int .i64 y3), (8, .bool (y3 != 0))]) (.cons rfl (.cons rfl (.cons rfl (.nil _)))) ?_
  refine ke_cond (t := y3 != 0) rfl (fun hc7 => ?_) (fun hc7 => ?_)
  · replace hS := ite_true' hS hc7
    refine ke_seq ?_
    refine ke_region ?_
    refine sr_ev (v := .int .i64 y3) (ev_move rfl) (by decide) ?_
    refine sr_ev (v := str ([])) (ev_assign rfl) (by decide) ?_
    refine sr_ev (v := .int .i64 y3) (ev_assign rfl) (by decide) ?_
    refine sr_end (l' := [(2, str ([])), (3, .int .i64 y3)]) (.cons rfl (.cons rfl (.nil _))) ?_
    cases hS
    exact ke_ret2 Tryd.func12 rfl rfl rfl ⟨_, rfl, rfl, hb⟩
  · replace hS := ite_false' hS hc7
    refine ke_skip ?_
    refine ke_seq ?_
    refine ke_region ?_
    refine sr_ev (v := v1) (ev_move rfl) (by decide) ?_
    obtain ⟨y8, hy9, hS⟩ := bind_some' hS
    refine sr_call (vs := [v1, str ([32])]) rfl Tryd.call30 rfl (lib_Join_ok _ (hg.below hb) h2 hy9) (by decide) ?_
    rintro _ w10 ⟨rfl, hbw11⟩
    replace hb := hb.trans (hbw11.mono hb.size)
    replace hA := lt_mono hA hbw11.size
    replace hH := hH.below hbw11
    refine sr_ev (v := str y8) (ev_assign rfl) (by decide) ?_
    refine sr_ev (v := .int .i64 0) (ev_assign rfl) (by decide) ?_
    refine sr_end (l' := [(2, str y8), (3, .int .i64 0)]) (.cons rfl (.cons rfl (.nil _))) ?_
    cases hS
    exact ke_ret2 Tryd.func12 rfl rfl rfl ⟨_, rfl, rfl, hb⟩
theorem internal_stringslite_HasPrefix_ok (w0 : World) (hg : Gs w0) {s_0 : Str} {prefix_1 : Str} {r : Bool} (hS : internal_stringslite_HasPrefix s_0 prefix_1 = some r) :
    Calls Tryd.prog 50 #[str s_0, str prefix_1] w0 (Ret (fun v w' => v = .bool r ∧ Below w0.heap.size w0 w')) := by
  unfold internal_stringslite_HasPrefix at hS
  have hb := Below.refl w0.heap.size w0
  refine calls_of_ke Tryd.func50 rfl (n := 18) rfl rfl (l := [(0, str s_0), (1, str prefix_1)]) rfl ?_
  refine ke_seq ?_
  refine ke_region ?_
  refine sr_ev (v := .bool false) (ev_assign rfl) (by decide) ?_
  refine sr_end (l' := [(0, str s_0), (1, str prefix_1)]) (.cons rfl (.cons rfl (.nil _))) ?_
  refine ke_seq ?_
  refine ke_region ?_
  refine sr_ev (v := str s_0) (ev_move rfl) (by decide) ?_
  refine sr_ev (v := .int .i64 (s_0.length : Int)) (ev_slen Tryd.underlying9 rfl) (by decide) ?_
  refine sr_ev (v := str prefix_1) (ev_move rfl) (by decide) ?_
  refine sr_ev (v := .int .i64 (prefix_1.length : Int)) (ev_slen Tryd.underlying9 rfl) (by decide) ?_
  refine sr_ev (v := .bool (decide ((s_0.length : Int) ≥ (prefix_1.length : Int)))) (ev_ge rfl rfl) (by decide) ?_
  refine sr_ev (v := .bool (decide ((s_0.length : Int) ≥ (prefix_1.length : Int)))) (ev_move rfl) (by decide) ?_
  obtain ⟨z3, hz5, hS⟩ := bind_some' hS
  refine sr_join (m := 7) (C := fun (x : Bool) w1 => z3 = x ∧ Below w0.heap.size w0 w1) (l' := fun x => [(17, .bool x)]) ?_ ?_
  · rintro _ w6 ⟨rfl, hbw7⟩
    replace hb := hb.trans (hbw7.mono hb.size)
    refine sr_ev (v := .bool z3) (ev_assign rfl) (by decide) ?_
    refine sr_end (l' := [(4, .bool z3)]) (.cons rfl (.nil _)) ?_
    cases hS
    exact ke_ret1 Tryd.func50 rfl rfl ⟨_, rfl, rfl, hb⟩
  · intro K2
    clear hS
    have hj4 := Below.refl w0.heap.size w0
    rcases Bool.eq_false_or_eq_true (decide ((s_0.length : Int) ≥ (prefix_1.length : Int))) with hg1 | hg1
    · have hS := ite_true' hz5 hg1
      refine sr_evg (b := true) (e := 10) rfl rfl hg1 (v := str s_0) (ev_move rfl) (by decide) ?_
      refine sr_evg (b := true) (e := 10) rfl rfl hg1 (v := str prefix_1) (ev_move rfl) (by decide) ?_
      refine sr_evg (b := true) (e := 10) rfl rfl hg1 (v := .int .i64 (prefix_1.length : Int)) (ev_slen Tryd.underlying9 rfl) (by decide) ?_
      obtain ⟨hk8, hS⟩ := chk_some hS
      refine sr_evg (b := true) (e := 10) rfl rfl hg1 (v := str (cut s_0 0 (prefix_1.length : Int))) (ev_sslice_to Tryd.underlying9 rfl rfl hk8) (by decide) ?_
      refine sr_evg (b := true) (e := 10) rfl rfl hg1 (v := str prefix_1) (ev_move rfl) (by decide) ?_
      refine sr_evg (b := true) (e := 10) rfl rfl hg1 (v := .bool ((cut s_0 0 (prefix_1.length : Int)) == prefix_1)) (ev_seq rfl rfl) (by decide) ?_
      refine sr_ev (v := .bool ((cut s_0 0 (prefix_1.length : Int)) == prefix_1)) (ev_pick_t rfl hg1 rfl) (by decide) ?_
      exact sr_weaken (l' := [(17, .bool ((cut s_0 0 (prefix_1.length : Int)) == prefix_1))]) (.cons rfl (.nil _)) (K2 ((cut s_0 0 (prefix_1.length : Int)) == prefix_1) _ ⟨(Option.some.inj hS).symm, hj4⟩)
    · have hS := ite_false' hz5 hg1
      refine sr_pass (e := 10) rfl rfl (by rw [hg1]; rfl) (by decide) ?_
      refine sr_pass (e := 10) rfl rfl (by rw [hg1]; rfl) (by decide) ?_
      refine sr_pass (e := 10) rfl rfl (by rw [hg1]; rfl) (by decide) ?_
      refine sr_pass (e := 10) rfl rfl (by rw [hg1]; rfl) (by decide) ?_
      refine sr_pass (e := 10) rfl rfl (by rw [hg1]; rfl) (by decide) ?_
      refine sr_pass (e := 10) rfl rfl (by rw [hg1]; rfl) (by decide) ?_
      refine sr_ev (v := .bool false) (ev_pick_f rfl hg1 rfl) (by decide) ?_
      exact sr_weaken (l' := [(17, .bool false)]) (.cons rfl (.nil _)) (K2 false _ ⟨(Option.some.inj hS).symm, hj4⟩)
theorem strings_HasPrefix_ok (w0 : World) (hg : Gs w0) {s_0 : Str} {prefix_1 : Str} {r : Bool} (hS : strings_HasPrefix s_0 prefix_1 = some r) :
    Calls Tryd.prog 37 #[str s_0, str prefix_1] w0 (Ret (fun v w' => v = .bool r ∧ Below w0.heap.size w0 w')) := by
  unfold strings_HasPrefix at hS
  have hb := Below.refl w0.heap.size w0
  refine calls_of_ke Tryd.func37 rfl (n := 8) rfl rfl (l := [(0, str s_0), (1, str prefix_1)]) rfl ?_
  refine ke_seq ?_
  refine ke_region ?_
  refine sr_ev (v := .bool false) (ev_assign rfl) (by decide) ?_
  refine sr_end (l' := [(0, str s_0), (1, str prefix_1)]) (.cons rfl (.cons rfl (.nil _))) ?_
  refine ke_seq ?_
  refine ke_region ?_
  refine sr_ev (v := str s_0) (ev_move rfl) (by decide) ?_
  refine sr_ev (v := str prefix_1) (ev_move rfl) (by decide) ?_
  obtain ⟨y1, hy2, hS⟩ := bind_some' hS
  refine sr_call (vs := [str s_0, str prefix_1]) rfl Tryd.call50 rfl (internal_stringslite_HasPrefix_ok _ (hg.below hb) hy2) (by decide) ?_
  rintro _ w3 ⟨rfl, hbw4⟩
  replace hb := hb.trans (hbw4.mono hb.size)
  refine sr_ev (v := .bool y1) (ev_assign rfl) (by decide) ?_
  refine sr_end (l' := [(4, .bool y1)]) (.cons rfl (.nil _)) ?_
  cases hS
  exact ke_ret1 Tryd.func37 rfl rfl ⟨_, rfl, rfl, hb⟩
theorem scope_Implies_ok (w0 : World) (hg : Gs w0) {a_0 : Str} {b_1 : Str} {r : Bool} (hS : scope_Implies a_0 b_1 = some r) :
    Calls Tryd.prog 21 #[str a_0, str b_1] w0 (Ret (fun v w' => v = .bool r ∧ Below w0.heap.size w0 w')) := by
  unfold scope_Implies at hS
  have hb := Below.refl w0.heap.size w0
  refine calls_of_ke Tryd.func21 rfl (n := 22) rfl rfl (l := [(0, str a_0), (1, str b_1)]) rfl ?_
  refine ke_seq ?_
  refine ke_region ?_
  refine sr_ev (v := .bool false) (ev_assign rfl) (by decide) ?_
  refine sr_end (l' := [(0, str a_0), (1, str b_1)]) (.cons rfl (.cons rfl (.nil _))) ?_
  refine ke_seq ?_
  refine ke_region ?_
  refine sr_ev (v := str a_0) (ev_move rfl) (by decide) ?_
  obtain ⟨y1, hy2, hS⟩ := bind_some' hS
  refine sr_call (vs := [str a_0]) rfl Tryd.call32 rfl (scope_valid_ok _ (hg.below hb) hy2) (by decide) ?_
  rintro _ w3 ⟨rfl, hbw4⟩
  replace hb := hb.trans (hbw4.mono hb.size)
  refine sr_ev (v := .bool y1) (ev_move rfl) (by decide) ?_
  obtain ⟨z7, hz9, hS⟩ := bind_some' hS
  refine sr_join (m := 3) (C := fun (x : Bool) w1 => z7 = x ∧ Below w3.heap.size w3 w1) (l' := fun x => [(0, str a_0), (1, str b_1), (10, .bool x)]) ?_ ?_
  · rintro _ w10 ⟨rfl, hbw11⟩
    replace hb := hb.trans (hbw11.mono hb.size)
    refine sr_ev (v := .bool z7) (ev_move rfl) (by decide) ?_
    obtain ⟨z18, hz20, hS⟩ := bind_some' hS
    refine sr_join (m := 10) (C := fun (x : Bool) w1 => z18 = x ∧ Below w10.heap.size w10 w1) (l' := fun x => [(21, .bool x)]) ?_ ?_
    · rintro _ w21 ⟨rfl, hbw22⟩
      replace hb := hb.trans (hbw22.mono hb.size)
      refine sr_ev (v := .bool z18) (ev_assign rfl) (by decide) ?_
      refine sr_end (l' := [(4, .bool z18)]) (.cons rfl (.nil _)) ?_
      cases hS
      exact ke_ret1 Tryd.func21 rfl rfl ⟨_, rfl, rfl, hb⟩
    · intro K17
      clear hS
      have hj19 := Below.refl w10.heap.size w10
      rcases Bool.eq_false_or_eq_true z7 with hg16 | hg16
      · have hS := ite_true' hz20 hg16
        refine sr_evg (b := true) (e := 11) rfl rfl hg16 (v := str a_0) (ev_move rfl) (by decide) ?_
        refine sr_evg (b := true) (e := 11) rfl rfl hg16 (v := str b_1) (ev_move rfl) (by decide) ?_
        refine sr_evg (b := true) (e := 11) rfl rfl hg16 (v := .bool (a_0 == b_1)) (ev_seq rfl rfl) (by decide) ?_
        refine sr_evg (b := true) (e := 11) rfl rfl hg16 (v := .bool (a_0 == b_1)) (ev_move rfl) (by decide) ?_
        obtain ⟨z25, hz27, hS⟩ := bind_some' hS
        refine sr_join (m := 5) (C := fun (x : Bool) w1 => z25 = x ∧ Below w10.heap.size w10 w1) (l' := fun x => [(11, .bool z7), (20, .bool x)]) ?_ ?_
        · rintro _ w28 ⟨rfl, hbw29⟩
          replace hb := hb.trans (hbw29.mono hb.size)
          replace hj19 := hj19.trans (hbw29.mono hj19.size)
          refine sr_ev (v := .bool z25) (ev_pick_t rfl hg16 rfl) (by decide) ?_
          exact sr_weaken (l' := [(21, .bool z25)]) (.cons rfl (.nil _)) (K17 z25 _ ⟨(Option.some.inj hS).symm, hj19⟩)
        · intro K24
          clear hS
          have hj26 := Below.refl w10.heap.size w10
          rcases Bool.eq_false_or_eq_true (a_0 == b_1) with hg23 | hg23
          · have hS := ite_true' hz27 hg23
            refine sr_pass (e := 15) rfl rfl (by rw [hg23]; rfl) (by decide) ?_
            refine sr_pass (e := 15) rfl rfl (by rw [hg23]; rfl) (by decide) ?_
            refine sr_pass (e := 15) rfl rfl (by rw [hg23]; rfl) (by decide) ?_
            refine sr_pass (e := 15) rfl rfl (by rw [hg23]; rfl) (by decide) ?_
            refine sr_evg (b := true) (e := 11) rfl rfl hg16 (v := .bool true) (ev_pick_t rfl hg23 rfl) (by decide) ?_
            exact sr_weaken (l' := [(11, .bool z7), (20, .bool true)]) (.cons rfl (.cons rfl (.nil _))) (K24 true _ ⟨(Option.some.inj hS).symm, hj26⟩)
          · have hS := ite_false' hz27 hg23
            refine sr_evg (b := false) (e := 15) rfl rfl hg23 (v := str b_1) (ev_move rfl) (by decide) ?_
            refine sr_evg (b := false) (e := 15) rfl rfl hg23 (v := str a_0) (ev_move rfl) (by decide) ?_
            obtain ⟨hk30, hS⟩ := chk_some hS
            refine sr_evg (b := false) (e := 15) rfl rfl hg23 (v := str (a_0 ++ ([46]))) (ev_cat rfl rfl hk30) (by decide) ?_
            obtain ⟨y31, hy32, hS⟩ := bind_some' hS
            refine sr_callg (b := false) (e := 15) rfl rfl hg23 (vs := [str b_1, str (a_0 ++ ([46]))]) rfl Tryd.call37 rfl (strings_HasPrefix_ok _ (hg.below hb) hy32) (by decide) ?_
            rintro _ w33 ⟨rfl, hbw34⟩
            replace hb := hb.trans (hbw34.mono hb.size)
            replace hj19 := hj19.trans (hbw34.mono hj19.size)
            replace hj26 := hj26.trans (hbw34.mono hj26.size)
            refine sr_evg (b := true) (e := 11) rfl rfl hg16 (v := .bool y31) (ev_pick_f rfl hg23 rfl) (by decide) ?_
            exact sr_weaken (l' := [(11, .bool z7), (20, .bool y31)]) (.cons rfl (.cons rfl (.nil _))) (K24 y31 _ ⟨(Option.some.inj hS).symm, hj26⟩)
      · have hS := ite_false' hz20 hg16
        refine sr_pass (e := 11) rfl rfl (by rw [hg16]; rfl) (by decide) ?_
        refine sr_pass (e := 11) rfl rfl (by rw [hg16]; rfl) (by decide) ?_
        refine sr_pass (e := 11) rfl rfl (by rw [hg16]; rfl) (by decide) ?_
        refine sr_pass (e := 11) rfl rfl (by rw [hg16]; rfl) (by decide) ?_
        refine sr_pass_undef (e := 15) rfl rfl (by decide) ?_
        refine sr_pass_undef (e := 15) rfl rfl (by decide) ?_
        refine sr_pass_undef (e := 15) rfl rfl (by decide) ?_
        refine sr_pass_undef (e := 15) rfl rfl (by decide) ?_
        refine sr_pass (e := 11) rfl rfl (by rw [hg16]; rfl) (by decide) ?_
        refine sr_ev (v := .bool false) (ev_pick_f rfl hg16 rfl) (by decide) ?_
        exact sr_weaken (l' := [(21, .bool false)]) (.cons rfl (.nil _)) (K17 false _ ⟨(Option.some.inj hS).symm, hj19⟩)
  · intro K6
    clear hS
    have hj8 := Below.refl w3.heap.size w3
    rcases Bool.eq_false_or_eq_true y1 with hg5 | hg5
    · have hS := ite_true' hz9 hg5
      refine sr_evg (b := true) (e := 7) rfl rfl hg5 (v := str b_1) (ev_move rfl) (by decide) ?_
      obtain ⟨y12, hy13, hS⟩ := bind_some' hS
      refine sr_callg (b := true) (e := 7) rfl rfl hg5 (vs := [str b_1]) rfl Tryd.call32 rfl (scope_valid_ok _ (hg.below hb) hy13) (by decide) ?_
      rintro _ w14 ⟨rfl, hbw15⟩
      replace hb := hb.trans (hbw15.mono hb.size)
      replace hj8 := hj8.trans (hbw15.mono hj8.size)
      refine sr_ev (v := .bool y12) (ev_pick_t rfl hg5 rfl) (by decide) ?_
      exact sr_weaken (l' := [(0, str a_0), (1, str b_1), (10, .bool y12)]) (.cons rfl (.cons rfl (.cons rfl (.nil _)))) (K6 y12 _ ⟨(Option.some.inj hS).symm, hj8⟩)
    · have hS := ite_false' hz9 hg5
      refine sr_pass (e := 7) rfl rfl (by rw [hg5]; rfl) (by decide) ?_
      refine sr_pass (e := 7) rfl rfl (by rw [hg5]; rfl) (by decide) ?_
      refine sr_ev (v := .bool false) (ev_pick_f rfl hg5 rfl) (by decide) ?_
      exact sr_weaken (l' := [(0, str a_0), (1, str b_1), (10, .bool false)]) (.cons rfl (.cons rfl (.cons rfl (.nil _)))) (K6 false _ ⟨(Option.some.inj hS).symm, hj8⟩)
theorem scope_Sorted_B2_ok {w0 : World} (hg : Gs w0) {A0 : Nat → Prop} (hA0 : ∀ b, A0 b → b < w0.heap.size) (r0 : List Str → List Str → List Str → Int → Int → Option (List Str))
    (hr0 : ∀ {r : List Str} {l_0 : List Str} {out_3 : List Str} {t_8 : List Str} {t_9 : Int} {t_10 : Int} {vl_0 : Value} {vout_3 : Value} {vt_8 : Value}, r0 l_0 out_3 t_8 t_9 t_10 = some r → ∀ {w : World} {A : Nat → Prop}, (Below w0.heap.size w0 w) → (∀ b, A b → b < w.heap.size) → (∀ b, A0 b → A b) → (Hp A w0.heap.size w []) → (SlR strC A w vl_0 l_0) → (OwnS strC 9 A w0.heap.size w vout_3 out_3) → (Dj vout_3 []) → (SlR strC A w vt_8 t_8) → KE Tryd.prog 19 (Ret (fun v w' => ∃ x1, v = x1 ∧ SlR strC A0 w' x1 r ∧ Below w0.heap.size w0 w')) 48 [.inLoop (sub (bodyOf Tryd.f19) [2, 1, 2, 2, 1, 2, 2, 1]), .inBlock 0, .code (sub (bodyOf Tryd.f19) [2, 1, 2, 2, 2]), .inScope (sub (bodyOf Tryd.f19) [2, 1])] [(0, vl_0), (3, vout_3), (8, vt_8), (9, .int .i64 t_9), (10, .int .i64 t_10)] w) {r : List Str} {l_0 : List Str} {out_3 : List Str} {t_8 : List Str} {t_9 : Int} {t_10 : Int} {vl_0 : Value} {vout_3 : Value} {vt_8 : Value} (hS : scope_Sorted_B2 r0 l_0 out_3 t_8 t_9 t_10 = some r) {w : World} {A : Nat → Prop} (hb : Below w0.heap.size w0 w) (hA : ∀ b, A b → b < w.heap.size) (hi : ∀ b, A0 b → A b) (hH : Hp A w0.heap.size w []) (hl_0 : SlR strC A w vl_0 l_0) (hout_3 : OwnS strC 9 A w0.heap.size w vout_3 out_3) (dout_3 : Dj vout_3 []) (ht_8 : SlR strC A w vt_8 t_8) :
    KE Tryd.prog 19 (Ret (fun v w' => ∃ x1, v = x1 ∧ SlR strC A0 w' x1 r ∧ Below w0.heap.size w0 w')) 48 [.code (sub (bodyOf Tryd.f19) [2, 1, 2, 2, 1, 2, 2, 1, 2, 2, 2]), .inLoop (sub (bodyOf Tryd.f19) [2, 1, 2, 2, 1, 2, 2, 1]), .inBlock 0, .code (sub (bodyOf Tryd.f19) [2, 1, 2, 2, 2]), .inScope (sub (bodyOf Tryd.f19) [2, 1])] [(0, vl_0), (3, vout_3), (8, vt_8), (9, .int .i64 t_9), (10, .int .i64 t_10)] w := by
  unfold scope_Sorted_B2 at hS
  refine ke_region ?_
  refine sr_ev (v := .int .i64 (IntKind.i64.wrap (t_10 + 1))) (ev_add rfl rfl) (by decide) ?_
  refine sr_ev (v := .int .i64 (IntKind.i64.wrap (t_10 + 1))) (ev_move rfl) (by decide) ?_
  refine sr_end (l' := [(0, vl_0), (3, vout_3), (8, vt_8), (9, .int .i64 t_9), (10, .int .i64 (IntKind.i64.wrap (t_10 + 1)))]) (.cons rfl (.cons rfl (.cons rfl (.cons rfl (.cons rfl (.nil _)))))) ?_
  have hK := hr0 hS hb hA hi hH hl_0 hout_3 dout_3 ht_8
  exact ke_weaken (l' := [(0, vl_0), (3, vout_3), (8, vt_8), (9, .int .i64 t_9), (10, .int .i64 (IntKind.i64.wrap (t_10 + 1)))]) (.cons rfl (.cons rfl (.cons rfl (.cons rfl (.cons rfl (.nil _)))))) hK
theorem scope_Sorted_L3_ok {w0 : World} (hg : Gs w0) {A0 : Nat → Prop} (hA0 : ∀ b, A0 b → b < w0.heap.size) (r0 : List Str → List Str → List Str → Int → Int → Option (List Str))
    (hr0 : ∀ {r : List Str} {l_0 : List Str} {out_3 : List Str} {t_8 : List Str} {t_9 : Int} {t_10 : Int} {vl_0 : Value} {vout_3 : Value} {vt_8 : Value}, r0 l_0 out_3 t_8 t_9 t_10 = some r → ∀ {w : World} {A : Nat → Prop}, (Below w0.heap.size w0 w) → (∀ b, A b → b < w.heap.size) → (∀ b, A0 b → A b) → (Hp A w0.heap.size w []) → (SlR strC A w vl_0 l_0) → (OwnS strC 9 A w0.heap.size w vout_3 out_3) → (Dj vout_3 []) → (SlR strC A w vt_8 t_8) → KE Tryd.prog 19 (Ret (fun v w' => ∃ x1, v = x1 ∧ SlR strC A0 w' x1 r ∧ Below w0.heap.size w0 w')) 48 [.inLoop (sub (bodyOf Tryd.f19) [2, 1, 2, 2, 1, 2, 2, 1]), .inBlock 0, .code (sub (bodyOf Tryd.f19) [2, 1, 2, 2, 2]), .inScope (sub (bodyOf Tryd.f19) [2, 1])] [(0, vl_0), (3, vout_3), (8, vt_8), (9, .int .i64 t_9), (10, .int .i64 t_10)] w) : ∀ (n : Nat), ∀ {r : List Str} {l_0 : List Str} {out_3 : List Str} {s_5 : Str} {t_8 : List Str} {t_9 : Int} {t_10 : Int} {t_25 : List Str} {t_26 : Int} {t_27 : Int} {vl_0 : Value} {vout_3 : Value} {vt_8 : Value} {vt_25 : Value}, scope_Sorted_L3 r0 n l_0 out_3 s_5 t_8 t_9 t_10 t_25 t_26 t_27 = some r → ∀ {w : World} {A : Nat → Prop}, (Below w0.heap.size w0 w) → (∀ b, A b → b < w.heap.size) → (∀ b, A0 b → A b) → (Hp A w0.heap.size w []) → (SlR strC A w vl_0 l_0) → (OwnS strC 9 A w0.heap.size w vout_3 out_3) → (Dj vout_3 []) → (SlR strC A w vt_8 t_8) → (SlR strC A w vt_25 t_25) → KE Tryd.prog 19 (Ret (fun v w' => ∃ x1, v = x1 ∧ SlR strC A0 w' x1 r ∧ Below w0.heap.size w0 w')) 48 [.code (sub (bodyOf Tryd.f19) [2, 1, 2, 2, 1, 2, 2, 1, 2, 2, 1, 2, 2, 2, 1, 2, 2, 1]), .inLoop (sub (bodyOf Tryd.f19) [2, 1, 2, 2, 1, 2, 2, 1, 2, 2, 1, 2, 2, 2, 1, 2, 2, 1]), .inBlock 2, .code (sub (bodyOf Tryd.f19) [2, 1, 2, 2, 1, 2, 2, 1, 2, 2, 1, 2, 2, 2, 2]), .inBlock 1, .code (sub (bodyOf Tryd.f19) [2, 1, 2, 2, 1, 2, 2, 1, 2, 2, 2]), .inLoop (sub (bodyOf Tryd.f19) [2, 1, 2, 2, 1, 2, 2, 1]), .inBlock 0, .code (sub (bodyOf Tryd.f19) [2, 1, 2, 2, 2]), .inScope (sub (bodyOf Tryd.f19) [2, 1])] [(0, vl_0), (3, vout_3), (5, str s_5), (8, vt_8), (9, .int .i64 t_9), (10, .int .i64 t_10), (25, vt_25), (26, .int .i64 t_26), (27, .int .i64 t_27)] w := by
  intro n
  induction n with
  | zero => intro r l_0 out_3 s_5 t_8 t_9 t_10 t_25 t_26 t_27 vl_0 vout_3 vt_8 vt_25 hS; cases hS
  | succ n ih =>
    have hr1 : ∀ {r : List Str} {l_0 : List Str} {out_3 : List Str} {s_5 : Str} {t_8 : List Str} {t_9 : Int} {t_10 : Int} {t_25 : List Str} {t_26 : Int} {t_27 : Int} {vl_0 : Value} {vout_3 : Value} {vt_8 : Value} {vt_25 : Value}, scope_Sorted_L3 r0 n l_0 out_3 s_5 t_8 t_9 t_10 t_25 t_26 t_27 = some r → ∀ {w : World} {A : Nat → Prop}, (Below w0.heap.size w0 w) → (∀ b, A b → b < w.heap.size) → (∀ b, A0 b → A b) → (Hp A w0.heap.size w []) → (SlR strC A w vl_0 l_0) → (OwnS strC 9 A w0.heap.size w vout_3 out_3) → (Dj vout_3 []) → (SlR strC A w vt_8 t_8) → (SlR strC A w vt_25 t_25) → KE Tryd.prog 19 (Ret (fun v w' => ∃ x1, v = x1 ∧ SlR strC A0 w' x1 r ∧ Below w0.heap.size w0 w')) 48 [.inLoop (sub (bodyOf Tryd.f19) [2, 1, 2, 2, 1, 2, 2, 1, 2, 2, 1, 2, 2, 2, 1, 2, 2, 1]), .inBlock 2, .code (sub (bodyOf Tryd.f19) [2, 1, 2, 2, 1, 2, 2, 1, 2, 2, 1, 2, 2, 2, 2]), .inBlock 1, .code (sub (bodyOf Tryd.f19) [2, 1, 2, 2, 1, 2, 2, 1, 2, 2, 2]), .inLoop (sub (bodyOf Tryd.f19) [2, 1, 2, 2, 1, 2, 2, 1]), .inBlock 0, .code (sub (bodyOf Tryd.f19) [2, 1, 2, 2, 2]), .inScope (sub (bodyOf Tryd.f19) [2, 1])] [(0, vl_0), (3, vout_3), (5, str s_5), (8, vt_8), (9, .int .i64 t_9), (10, .int .i64 t_10), (25, vt_25), (26, .int .i64 t_26), (27, .int .i64 t_27)] w := fun {r} {l_0} {out_3} {s_5} {t_8} {t_9} {t_10} {t_25} {t_26} {t_27} {vl_0} {vout_3} {vt_8} {vt_25} hS {w} {A} hb hA hi hH hl_0 hout_3 dout_3 ht_8 ht_25 => ke_inLoop (ih hS hb hA hi hH hl_0 hout_3 dout_3 ht_8 ht_25)
    clear ih
    intro r l_0 out_3 s_5 t_8 t_9 t_10 t_25 t_26 t_27 vl_0 vout_3 vt_8 vt_25 hS w A hb hA hi hH hl_0 hout_3 dout_3 ht_8 ht_25
    unfold scope_Sorted_L3 at hS
    refine ke_seq ?_
    refine ke_region ?_
    refine sr_ev (v := .bool (decide (t_27 < t_26))) (ev_lt rfl rfl) (by decide) ?_
    refine sr_end (l' := [(0, vl_0), (3, vout_3), (5, str s_5), (8, vt_8), (9, .int .i64 t_9), (10, .int .i64 t_10), (25, vt_25), (26, .int .i64 t_26), (27, .int .i64 t_27), (28, .bool (decide (t_27 < t_26)))]) (.cons rfl (.cons rfl (.cons rfl (.cons rfl (.cons rfl (.cons rfl (.cons rfl (.cons rfl (.cons rfl (.cons rfl (.nil _))))))))))) ?_
    refine ke_seq ?_
    refine ke_cond (t := decide (t_27 < t_26)) rfl (fun hc37 => ?_) (fun hc37 => ?_)
    · replace hS := ite_true' hS hc37
      refine ke_skip ?_
      refine ke_seq ?_
      refine ke_block ?_
      refine ke_seq ?_
      refine ke_region ?_
      obtain ⟨y38, hy39, hS⟩ := bind_some' hS
      refine sr_index ht_25 Tryd.underlying22 Tryd.info9 rfl rfl rfl hy39 (by decide) ?_
      intro b40 o41 cs43 he42
      obtain rfl : cs43 = [str y38] := he42.rd
      refine sr_ev (v := str y38) (ev_load Tryd.isAgg9 rfl (he42.cell 0 _ rfl)) (by decide) ?_
      refine sr_ev (v := str y38) (ev_assign rfl) (by decide) ?_
      refine sr_end (l' := [(0, vl_0), (3, vout_3), (5, str s_5), (7, str y38), (8, vt_8), (9, .int .i64 t_9), (10, .int .i64 t_10), (25, vt_25), (26, .int .i64 t_26), (27, .int .i64 t_27)]) (.cons rfl (.cons rfl (.cons rfl (.cons rfl (.cons rfl (.cons rfl (.cons rfl (.cons rfl (.cons rfl (.cons rfl (.nil _))))))))))) ?_
      refine ke_seq ?_
      refine ke_region ?_
      refine sr_ev (v := str y38) (ev_move rfl) (by decide) ?_
      refine sr_ev (v := str s_5) (ev_move rfl) (by decide) ?_
      refine sr_ev (v := .bool (!(y38 == s_5))) (ev_sne rfl rfl) (by decide) ?_
      refine sr_ev (v := .bool (!(y38 == s_5))) (ev_move rfl) (by decide) ?_
      obtain ⟨z46, hz48, hS⟩ := bind_some' hS
      refine sr_join (m := 4) (C := fun (x : Bool) w1 => z46 = x ∧ Below w.heap.size w w1) (l' := fun x => [(0, vl_0), (3, vout_3), (5, str s_5), (8, vt_8), (9, .int .i64 t_9), (10, .int .i64 t_10), (25, vt_25), (26, .int .i64 t_26), (27, .int .i64 t_27), (38, .bool x)]) ?_ ?_
      · rintro _ w49 ⟨rfl, hbw50⟩
        replace hb := hb.trans (hbw50.mono hb.size)
        replace hA := lt_mono hA hbw50.size
        replace hH := hH.below hbw50
        replace hl_0 := hl_0.below hbw50
        replace hout_3 := hout_3.below hbw50
        replace ht_8 := ht_8.below hbw50
        replace ht_25 := ht_25.below hbw50
        refine sr_end (l' := [(0, vl_0), (3, vout_3), (5, str s_5), (8, vt_8), (9, .int .i64 t_9), (10, .int .i64 t_10), (25, vt_25), (26, .int .i64 t_26), (27, .int .i64 t_27), (38, .bool z46)]) (.cons rfl (.cons rfl (.cons rfl (.cons rfl (.cons rfl (.cons rfl (.cons rfl (.cons rfl (.cons rfl (.cons rfl (.nil _))))))))))) ?_
        refine ke_cond (t := z46) rfl (fun hc55 => ?_) (fun hc55 => ?_)
        · replace hS := ite_true' hS hc55
          refine ke_exit (k' := _) rfl ?_
          have hK := scope_Sorted_B2_ok hg hA0 _ hr0 hS hb hA hi hH hl_0 hout_3 dout_3 ht_8
          exact ke_weaken (l' := [(0, vl_0), (3, vout_3), (8, vt_8), (9, .int .i64 t_9), (10, .int .i64 t_10)]) (.cons rfl (.cons rfl (.cons rfl (.cons rfl (.cons rfl (.nil _)))))) hK
        · replace hS := ite_false' hS hc55
          refine ke_skip ?_
          refine ke_inBlock ?_
          refine ke_region ?_
          refine sr_ev (v := .int .i64 (IntKind.i64.wrap (t_27 + 1))) (ev_add rfl rfl) (by decide) ?_
          refine sr_ev (v := .int .i64 (IntKind.i64.wrap (t_27 + 1))) (ev_move rfl) (by decide) ?_
          refine sr_end (l' := [(0, vl_0), (3, vout_3), (5, str s_5), (8, vt_8), (9, .int .i64 t_9), (10, .int .i64 t_10), (25, vt_25), (26, .int .i64 t_26), (27, .int .i64 (IntKind.i64.wrap (t_27 + 1)))]) (.cons rfl (.cons rfl (.cons rfl (.cons rfl (.cons rfl (.cons rfl (.cons rfl (.cons rfl (.cons rfl (.nil _)))))))))) ?_
          have hK := hr1 hS hb hA hi hH hl_0 hout_3 dout_3 ht_8 ht_25
          exact ke_weaken (l' := [(0, vl_0), (3, vout_3), (5, str s_5), (8, vt_8), (9, .int .i64 t_9), (10, .int .i64 t_10), (25, vt_25), (26, .int .i64 t_26), (27, .int .i64 (IntKind.i64.wrap (t_27 + 1)))]) (.cons rfl (.cons rfl (.cons rfl (.cons rfl (.cons rfl (.cons rfl (.cons rfl (.cons rfl (.cons rfl (.nil _)))))))))) hK
      · intro K45
        clear hS
        have hj47 := Below.refl w.heap.size w
        rcases Bool.eq_false_or_eq_true (!(y38 == s_5)) with hg44 | hg44
        · have hS := ite_true' hz48 hg44
          refine sr_evg (b := true) (e := 34) rfl rfl hg44 (v := str y38) (ev_move rfl) (by decide) ?_
          refine sr_evg (b := true) (e := 34) rfl rfl hg44 (v := str s_5) (ev_move rfl) (by decide) ?_
          obtain ⟨y51, hy52, hS⟩ := bind_some' hS
          refine sr_callg (b := true) (e := 34) rfl rfl hg44 (vs := [str y38, str s_5]) rfl Tryd.call21 rfl (scope_Implies_ok _ (hg.below hb) hy52) (by decide) ?_
          rintro _ w53 ⟨rfl, hbw54⟩
          replace hb := hb.trans (hbw54.mono hb.size)
          replace hj47 := hj47.trans (hbw54.mono hj47.size)
          replace hA := lt_mono hA hbw54.size
          replace hH := hH.below hbw54
          replace hl_0 := hl_0.below hbw54
          replace hout_3 := hout_3.below hbw54
          replace ht_8 := ht_8.below hbw54
          replace ht_25 := ht_25.below hbw54
          refine sr_ev (v := .bool y51) (ev_pick_t rfl hg44 rfl) (by decide) ?_
          exact sr_weaken (l' := [(0, vl_0), (3, vout_3), (5, str s_5), (8, vt_8), (9, .int .i64 t_9), (10, .int .i64 t_10), (25, vt_25), (26, .int .i64 t_26), (27, .int .i64 t_27), (38, .bool y51)]) (.cons rfl (.cons rfl (.cons rfl (.cons rfl (.cons rfl (.cons rfl (.cons rfl (.cons rfl (.cons rfl (.cons rfl (.nil _))))))))))) (K45 y51 _ ⟨(Option.some.inj hS).symm, hj47⟩)
        · have hS := ite_false' hz48 hg44
          refine sr_pass (e := 34) rfl rfl (by rw [hg44]; rfl) (by decide) ?_
          refine sr_pass (e := 34) rfl rfl (by rw [hg44]; rfl) (by decide) ?_
          refine sr_pass (e := 34) rfl rfl (by rw [hg44]; rfl) (by decide) ?_
          refine sr_ev (v := .bool false) (ev_pick_f rfl hg44 rfl) (by decide) ?_
          exact sr_weaken (l' := [(0, vl_0), (3, vout_3), (5, str s_5), (8, vt_8), (9, .int .i64 t_9), (10, .int .i64 t_10), (25, vt_25), (26, .int .i64 t_26), (27, .int .i64 t_27), (38, .bool false)]) (.cons rfl (.cons rfl (.cons rfl (.cons rfl (.cons rfl (.cons rfl (.cons rfl (.cons rfl (.cons rfl (.cons rfl (.nil _))))))))))) (K45 false _ ⟨(Option.some.inj hS).symm, hj47⟩)
    · replace hS := ite_false' hS hc37
      refine ke_exit (k' := _) rfl ?_
      refine ke_region ?_
      refine sr_ev (v := vout_3) (ev_move rfl) (by decide) ?_
      refine sr_ev (v := str s_5) (ev_move rfl) (by decide) ?_
      refine sr_lit (c := strC) (A := A) (E := 9) (xs := [s_5]) (vs := #[(0, str s_5)]) (cs := #[str s_5]) (css := [[str s_5]]) rfl (fun _ => by kernel_rfl) rfl ⟨rfl, trivial⟩ rfl (by decide) hA (by decide) ?_
      intro v56 w58 h57 hbw59
      replace hb := hb.trans (hbw59.mono hb.size)
      replace hA := lt_mono hA hbw59.size
      replace hH := hH.below hbw59
      replace hl_0 := hl_0.below hbw59
      replace ht_8 := ht_8.below hbw59
      replace hout_3 := hout_3.below hbw59
      obtain ⟨hk60, hS⟩ := chk_some hS
      refine sr_append (c := strC) (A := A) (B := w0.heap.size) (E := 9) (xs := out_3) (ys := ([s_5] : List Str)) hout_3 h57 Tryd.underlying22 Tryd.info9 rfl rfl rfl (by decide) (by decide) hA hb.size hk60 rfl rfl (by decide) ?_
      intro v61 A63 w64 h62 hst65 hbB66 hinc67 hA1 hoth68 hold
      have dj69 : Dj v61 [] := fun p hp e => by rcases hold _ e with h | h; exact dout_3 p hp h; have := hH.lt hp; omega
      replace hb := hb.trans hbB66
      replace hi := fun b hb => hinc67 b (hi b hb)
      replace hH := hH.keep hinc67 (fun p hp => hoth68 _ (hH.lt hp) (dout_3 p hp))
      replace hA := hA1
      clear hA1
      replace hl_0 := hl_0.step hst65
      replace ht_8 := ht_8.step hst65
      refine sr_ev (v := v61) (ev_assign rfl) (by decide) ?_
      refine sr_end (l' := [(0, vl_0), (3, v61), (8, vt_8), (9, .int .i64 t_9), (10, .int .i64 t_10)]) (.cons rfl (.cons rfl (.cons rfl (.cons rfl (.cons rfl (.nil _)))))) ?_
      refine ke_inBlock ?_
      have hK := scope_Sorted_B2_ok hg hA0 _ hr0 hS hb hA hi hH hl_0 h62 dj69 ht_8
      exact ke_weaken (l' := [(0, vl_0), (3, v61), (8, vt_8), (9, .int .i64 t_9), (10, .int .i64 t_10)]) (.cons rfl (.cons rfl (.cons rfl (.cons rfl (.cons rfl (.nil _)))))) hK
theorem scope_Sorted_L1_ok {w0 : World} (hg : Gs w0) {A0 : Nat → Prop} (hA0 : ∀ b, A0 b → b < w0.heap.size) : ∀ (n : Nat), ∀ {r : List Str} {l_0 : List Str} {out_3 : List Str} {t_8 : List Str} {t_9 : Int} {t_10 : Int} {vl_0 : Value} {vout_3 : Value} {vt_8 : Value}, scope_Sorted_L1 n l_0 out_3 t_8 t_9 t_10 = some r → ∀ {w : World} {A : Nat → Prop}, (Below w0.heap.size w0 w) → (∀ b, A b → b < w.heap.size) → (∀ b, A0 b → A b) → (Hp A w0.heap.size w []) → (SlR strC A w vl_0 l_0) → (OwnS strC 9 A w0.heap.size w vout_3 out_3) → (Dj vout_3 []) → (SlR strC A w vt_8 t_8) → KE Tryd.prog 19 (Ret (fun v w' => ∃ x1, v = x1 ∧ SlR strC A0 w' x1 r ∧ Below w0.heap.size w0 w')) 48 [.code (sub (bodyOf Tryd.f19) [2, 1, 2, 2, 1, 2, 2, 1]), .inLoop (sub (bodyOf Tryd.f19) [2, 1, 2, 2, 1, 2, 2, 1]), .inBlock 0, .code (sub (bodyOf Tryd.f19) [2, 1, 2, 2, 2]), .inScope (sub (bodyOf Tryd.f19) [2, 1])] [(0, vl_0), (3, vout_3), (8, vt_8), (9, .int .i64 t_9), (10, .int .i64 t_10)] w := by
  intro n
  induction n with
  | zero => intro r l_0 out_3 t_8 t_9 t_10 vl_0 vout_3 vt_8 hS; cases hS
  | succ n ih =>
    have hr0 : ∀ {r : List Str} {l_0 : List Str} {out_3 : List Str} {t_8 : List Str} {t_9 : Int} {t_10 : Int} {vl_0 : Value} {vout_3 : Value} {vt_8 : Value}, scope_Sorted_L1 n l_0 out_3 t_8 t_9 t_10 = some r → ∀ {w : World} {A : Nat → Prop}, (Below w0.heap.size w0 w) → (∀ b, A b → b < w.heap.size) → (∀ b, A0 b → A b) → (Hp A w0.heap.size w []) → (SlR strC A w vl_0 l_0) → (OwnS strC 9 A w0.heap.size w vout_3 out_3) → (Dj vout_3 []) → (SlR strC A w vt_8 t_8) → KE Tryd.prog 19 (Ret (fun v w' => ∃ x1, v = x1 ∧ SlR strC A0 w' x1 r ∧ Below w0.heap.size w0 w')) 48 [.inLoop (sub (bodyOf Tryd.f19) [2, 1, 2, 2, 1, 2, 2, 1]), .inBlock 0, .code (sub (bodyOf Tryd.f19) [2, 1, 2, 2, 2]), .inScope (sub (bodyOf Tryd.f19) [2, 1])] [(0, vl_0), (3, vout_3), (8, vt_8), (9, .int .i64 t_9), (10, .int .i64 t_10)] w := fun {r} {l_0} {out_3} {t_8} {t_9} {t_10} {vl_0} {vout_3} {vt_8} hS {w} {A} hb hA hi hH hl_0 hout_3 dout_3 ht_8 => ke_inLoop (ih hS hb hA hi hH hl_0 hout_3 dout_3 ht_8)
    clear ih
    intro r l_0 out_3 t_8 t_9 t_10 vl_0 vout_3 vt_8 hS w A hb hA hi hH hl_0 hout_3 dout_3 ht_8
    unfold scope_Sorted_L1 at hS
    refine ke_seq ?_
    refine ke_region ?_
    refine sr_ev (v := .bool (decide (t_10 < t_9))) (ev_lt rfl rfl) (by decide) ?_
    refine sr_end (l' := [(0, vl_0), (3, vout_3), (8, vt_8), (9, .int .i64 t_9), (10, .int .i64 t_10), (11, .bool (decide (t_10 < t_9)))]) (.cons rfl (.cons rfl (.cons rfl (.cons rfl (.cons rfl (.cons rfl (.nil _))))))) ?_
    refine ke_seq ?_
    refine ke_cond (t := decide (t_10 < t_9)) rfl (fun hc7 => ?_) (fun hc7 => ?_)
    · replace hS := ite_true' hS hc7
      refine ke_skip ?_
      refine ke_seq ?_
      refine ke_block ?_
      refine ke_seq ?_
      refine ke_region ?_
      refine sr_ev (v := .int .i64 t_10) (ev_move rfl) (by decide) ?_
      obtain ⟨y8, hy9, hS⟩ := bind_some' hS
      refine sr_index ht_8 Tryd.underlying22 Tryd.info9 rfl rfl rfl hy9 (by decide) ?_
      intro b10 o11 cs13 he12
      obtain rfl : cs13 = [str y8] := he12.rd
      refine sr_ev (v := str y8) (ev_load Tryd.isAgg9 rfl (he12.cell 0 _ rfl)) (by decide) ?_
      refine sr_ev (v := .int .i64 t_10) (ev_assign rfl) (by decide) ?_
      refine sr_ev (v := str y8) (ev_assign rfl) (by decide) ?_
      refine sr_end (l' := [(0, vl_0), (3, vout_3), (4, .int .i64 t_10), (5, str y8), (8, vt_8), (9, .int .i64 t_9), (10, .int .i64 t_10)]) (.cons rfl (.cons rfl (.cons rfl (.cons rfl (.cons rfl (.cons rfl (.cons rfl (.nil _)))))))) ?_
      refine ke_seq ?_
      refine ke_seq ?_
      refine ke_region ?_
      refine sr_ev (v := str y8) (ev_move rfl) (by decide) ?_
      obtain ⟨y14, hy15, hS⟩ := bind_some' hS
      refine sr_call (vs := [str y8]) rfl Tryd.call32 rfl (scope_valid_ok _ (hg.below hb) hy15) (by decide) ?_
      rintro _ w16 ⟨rfl, hbw17⟩
      replace hb := hb.trans (hbw17.mono hb.size)
      replace hA := lt_mono hA hbw17.size
      replace hH := hH.below hbw17
      replace hl_0 := hl_0.below hbw17
      replace hout_3 := hout_3.below hbw17
      replace ht_8 := ht_8.below hbw17
      refine sr_ev (v := .bool (!y14)) (ev_not rfl) (by decide) ?_
      refine sr_ev (v := .bool (!y14)) (ev_move rfl) (by decide) ?_
      obtain ⟨z20, hz22, hS⟩ := bind_some' hS
      refine sr_join (m := 6) (C := fun (x : Bool) w1 => z20 = x ∧ Below w16.heap.size w16 w1) (l' := fun x => [(0, vl_0), (3, vout_3), (5, str y8), (8, vt_8), (9, .int .i64 t_9), (10, .int .i64 t_10), (24, .bool x)]) ?_ ?_
      · rintro _ w23 ⟨rfl, hbw24⟩
        replace hb := hb.trans (hbw24.mono hb.size)
        replace hA := lt_mono hA hbw24.size
        replace hH := hH.below hbw24
        replace hl_0 := hl_0.below hbw24
        replace hout_3 := hout_3.below hbw24
        replace ht_8 := ht_8.below hbw24
        refine sr_end (l' := [(0, vl_0), (3, vout_3), (5, str y8), (8, vt_8), (9, .int .i64 t_9), (10, .int .i64 t_10), (24, .bool z20)]) (.cons rfl (.cons rfl (.cons rfl (.cons rfl (.cons rfl (.cons rfl (.cons rfl (.nil _)))))))) ?_
        refine ke_cond (t := z20) rfl (fun hc32 => ?_) (fun hc32 => ?_)
        · replace hS := ite_true' hS hc32
          refine ke_exit (k' := _) rfl ?_
          have hK := scope_Sorted_B2_ok hg hA0 _ hr0 hS hb hA hi hH hl_0 hout_3 dout_3 ht_8
          exact ke_weaken (l' := [(0, vl_0), (3, vout_3), (8, vt_8), (9, .int .i64 t_9), (10, .int .i64 t_10)]) (.cons rfl (.cons rfl (.cons rfl (.cons rfl (.cons rfl (.nil _)))))) hK
        · replace hS := ite_false' hS hc32
          refine ke_skip ?_
          refine ke_seq ?_
          refine ke_seq ?_
          refine ke_region ?_
          refine sr_ev (v := vl_0) (ev_move rfl) (by decide) ?_
          refine sr_ev (v := .int .i64 (l_0.length : Int)) (ev_sllen Tryd.underlying22 rfl hl_0) (by decide) ?_
          refine sr_ev (v := .int .i64 0) (ev_move rfl) (by decide) ?_
          refine sr_end (l' := [(0, vl_0), (3, vout_3), (5, str y8), (8, vt_8), (9, .int .i64 t_9), (10, .int .i64 t_10), (25, vl_0), (26, .int .i64 (l_0.length : Int)), (27, .int .i64 0)]) (.cons rfl (.cons rfl (.cons rfl (.cons rfl (.cons rfl (.cons rfl (.cons rfl (.cons rfl (.cons rfl (.nil _)))))))))) ?_
          refine ke_block ?_
          have hK := scope_Sorted_L3_ok hg hA0 _ hr0 _ hS hb hA hi hH hl_0 hout_3 dout_3 ht_8 hl_0
          exact ke_weaken (l' := [(0, vl_0), (3, vout_3), (5, str y8), (8, vt_8), (9, .int .i64 t_9), (10, .int .i64 t_10), (25, vl_0), (26, .int .i64 (l_0.length : Int)), (27, .int .i64 0)]) (.cons rfl (.cons rfl (.cons rfl (.cons rfl (.cons rfl (.cons rfl (.cons rfl (.cons rfl (.cons rfl (.nil _)))))))))) (ke_loop hK)
      · intro K19
        clear hS
        have hj21 := Below.refl w16.heap.size w16
        rcases Bool.eq_false_or_eq_true (!y14) with hg18 | hg18
        · have hS := ite_true' hz22 hg18
          refine sr_pass (e := 18) rfl rfl (by rw [hg18]; rfl) (by decide) ?_
          refine sr_pass (e := 18) rfl rfl (by rw [hg18]; rfl) (by decide) ?_
          refine sr_pass (e := 18) rfl rfl (by rw [hg18]; rfl) (by decide) ?_
          refine sr_pass (e := 18) rfl rfl (by rw [hg18]; rfl) (by decide) ?_
          refine sr_pass (e := 18) rfl rfl (by rw [hg18]; rfl) (by decide) ?_
          refine sr_ev (v := .bool true) (ev_pick_t rfl hg18 rfl) (by decide) ?_
          exact sr_weaken (l' := [(0, vl_0), (3, vout_3), (5, str y8), (8, vt_8), (9, .int .i64 t_9), (10, .int .i64 t_10), (24, .bool true)]) (.cons rfl (.cons rfl (.cons rfl (.cons rfl (.cons rfl (.cons rfl (.cons rfl (.nil _)))))))) (K19 true _ ⟨(Option.some.inj hS).symm, hj21⟩)
        · have hS := ite_false' hz22 hg18
          refine sr_evg (b := false) (e := 18) rfl rfl hg18 (v := vl_0) (ev_move rfl) (by decide) ?_
          refine sr_evg (b := false) (e := 18) rfl rfl hg18 (v := .int .i64 t_10) (ev_move rfl) (by decide) ?_
          obtain ⟨hk25, hS⟩ := chk_some hS
          refine sr_unguard rfl rfl hg18 ?_
          refine sr_slice_h hl_0 Tryd.underlying22 Tryd.info9 rfl rfl rfl  hk25 (by decide) ?_
          intro v26 h27
          refine sr_evg (b := false) (e := 18) rfl rfl hg18 (v := str y8) (ev_move rfl) (by decide) ?_
          obtain ⟨y28, hy29, hS⟩ := bind_some' hS
          refine sr_callg (b := false) (e := 18) rfl rfl hg18 (vs := [v26, str y8]) rfl Tryd.call33 rfl (slices_Contains_string_string_ok _ (hg.below hb) h27 hy29) (by decide) ?_
          rintro _ w30 ⟨rfl, hbw31⟩
          replace hb := hb.trans (hbw31.mono hb.size)
          replace hj21 := hj21.trans (hbw31.mono hj21.size)
          replace hA := lt_mono hA hbw31.size
          replace hH := hH.below hbw31
          replace hl_0 := hl_0.below hbw31
          replace hout_3 := hout_3.below hbw31
          replace ht_8 := ht_8.below hbw31
          refine sr_ev (v := .bool y28) (ev_pick_f rfl hg18 rfl) (by decide) ?_
          exact sr_weaken (l' := [(0, vl_0), (3, vout_3), (5, str y8), (8, vt_8), (9, .int .i64 t_9), (10, .int .i64 t_10), (24, .bool y28)]) (.cons rfl (.cons rfl (.cons rfl (.cons rfl (.cons rfl (.cons rfl (.cons rfl (.nil _)))))))) (K19 y28 _ ⟨(Option.some.inj hS).symm, hj21⟩)
    · replace hS := ite_false' hS hc7
      refine ke_exit (k' := _) rfl ?_
      refine ke_seq ?_
      refine ke_region ?_
      refine sr_ev (v := vout_3) (ev_move rfl) (by decide) ?_
      obtain ⟨y74, hy75, hS⟩ := bind_some' hS
      refine sr_call (vs := [vout_3]) rfl Tryd.call35 rfl (lib_Sort_ok hout_3 hb.size hy75) (by decide) ?_
      rintro _ w77 ⟨rfl, h76, hst78, hbB79, hoth80⟩
      replace hb := hb.trans hbB79
      replace hH := hH.keep (fun _ h => h) (fun p hp => hoth80 _ (hH.lt hp) (dout_3 p hp))
      replace hA := lt_mono hA hst78.size
      refine sr_end (l' := [(3, vout_3)]) (.cons rfl (.nil _)) ?_
      refine ke_seq ?_
      refine ke_region ?_
      refine sr_ev (v := vout_3) (ev_move rfl) (by decide) ?_
      refine sr_ev (v := vout_3) (ev_assign rfl) (by decide) ?_
      refine sr_end (l' := [(2, vout_3)]) (.cons rfl (.nil _)) ?_
      cases hS
      exact ke_ret1 Tryd.func19 rfl rfl ⟨_, rfl, _, rfl, h76.toSl (fun b hb => ⟨hi b hb, hA0 b hb⟩), hb⟩
theorem scope_Sorted_ok {A0 : Nat → Prop} (w0 : World) (hg : Gs w0) {l_0 : List Str} {v1 : Value} {r : List Str} (h2 : SlR strC A0 w0 v1 l_0) (hA0 : ∀ b, A0 b → b < w0.heap.size) (hS : scope_Sorted l_0 = some r) :
    Calls Tryd.prog 19 #[v1] w0 (Ret (fun v w' => ∃ x1, v = x1 ∧ SlR strC A0 w' x1 r ∧ Below w0.heap.size w0 w')) := by
  unfold scope_Sorted at hS
  have hb := Below.refl w0.heap.size w0
  have hA := hA0
  have hi : ∀ b, A0 b → A0 b := fun _ h => h
  have hH := Hp.nil A0 w0.heap.size w0
  refine calls_of_ke Tryd.func19 rfl (n := 48) rfl rfl (l := [(0, v1)]) rfl ?_
  refine ke_seq ?_
  refine ke_region ?_
  refine sr_ev (v := .slice none 0 0) (ev_assign rfl) (by decide) ?_
  refine sr_end (l' := [(0, v1)]) (.cons rfl (.nil _)) ?_
  refine ke_scope ?_
  refine ke_seq ?_
  refine ke_region ?_
  refine sr_ev (v := .slice none 0 0) (ev_assign rfl) (by decide) ?_
  refine sr_end (l' := [(0, v1), (3, .slice none 0 0)]) (.cons rfl (.cons rfl (.nil _))) ?_
  refine ke_seq ?_
  refine ke_label ?_
  refine ke_seq ?_
  refine ke_seq ?_
  refine ke_region ?_
  refine sr_ev (v := v1) (ev_move rfl) (by decide) ?_
  refine sr_ev (v := .int .i64 (l_0.length : Int)) (ev_sllen Tryd.underlying22 rfl h2) (by decide) ?_
  refine sr_ev (v := .int .i64 0) (ev_move rfl) (by decide) ?_
  refine sr_end (l' := [(0, v1), (3, .slice none 0 0), (8, v1), (9, .int .i64 (l_0.length : Int)), (10, .int .i64 0)]) (.cons rfl (.cons rfl (.cons rfl (.cons rfl (.cons rfl (.nil _)))))) ?_
  refine ke_block ?_
  have hK := scope_Sorted_L1_ok hg hA0 _ hS hb hA hi hH h2 OwnS.nil (Dj.nil _) h2
  exact ke_weaken (l' := [(0, v1), (3, (.slice none 0 0)), (8, v1), (9, .int .i64 (l_0.length : Int)), (10, .int .i64 0)]) (.cons rfl (.cons rfl (.cons rfl (.cons rfl (.cons rfl (.nil _)))))) (ke_loop hK)
theorem ref03_Same_L1_ok {w0 : World} (hg : Gs w0) {A0 : Nat → Prop} (hA0 : ∀ b, A0 b → b < w0.heap.size) : ∀ (n : Nat), ∀ {r : Bool} {a_0 : List Str} {b_1 : List Str} {i_5 : Int} {va_0 : Value} {vb_1 : Value}, ref03_Same_L1 n a_0 b_1 i_5 = some r → ∀ {w : World} {A : Nat → Prop}, (Below w0.heap.size w0 w) → (∀ b, A b → b < w.heap.size) → (∀ b, A0 b → A b) → (Hp A w0.heap.size w []) → (SlR strC A w va_0 a_0) → (SlR strC A w vb_1 b_1) → KE Tryd.prog 18 (Ret (fun v w' => v = .bool r ∧ Below w0.heap.size w0 w')) 26 [.code (sub (bodyOf Tryd.f18) [2, 2, 1, 2, 2, 1]), .inLoop (sub (bodyOf Tryd.f18) [2, 2, 1, 2, 2, 1]), .inBlock 0, .code (sub (bodyOf Tryd.f18) [2, 2, 2])] [(0, va_0), (1, vb_1), (5, .int .i64 i_5)] w := by
  intro n
  induction n with
  | zero => intro r a_0 b_1 i_5 va_0 vb_1 hS; cases hS
  | succ n ih =>
    have hr0 : ∀ {r : Bool} {a_0 : List Str} {b_1 : List Str} {i_5 : Int} {va_0 : Value} {vb_1 : Value}, ref03_Same_L1 n a_0 b_1 i_5 = some r → ∀ {w : World} {A : Nat → Prop}, (Below w0.heap.size w0 w) → (∀ b, A b → b < w.heap.size) → (∀ b, A0 b → A b) → (Hp A w0.heap.size w []) → (SlR strC A w va_0 a_0) → (SlR strC A w vb_1 b_1) → KE Tryd.prog 18 (Ret (fun v w' => v = .bool r ∧ Below w0.heap.size w0 w')) 26 [.inLoop (sub (bodyOf Tryd.f18) [2, 2, 1, 2, 2, 1]), .inBlock 0, .code (sub (bodyOf Tryd.f18) [2, 2, 2])] [(0, va_0), (1, vb_1), (5, .int .i64 i_5)] w := fun {r} {a_0} {b_1} {i_5} {va_0} {vb_1} hS {w} {A} hb hA hi hH ha_0 hb_1 => ke_inLoop (ih hS hb hA hi hH ha_0 hb_1)
    clear ih
    intro r a_0 b_1 i_5 va_0 vb_1 hS w A hb hA hi hH ha_0 hb_1
    unfold ref03_Same_L1 at hS
    refine ke_seq ?_
    refine ke_seq ?_
    refine ke_region ?_
    refine sr_ev (v := .int .i64 i_5) (ev_move rfl) (by decide) ?_
    refine sr_ev (v := va_0) (ev_move rfl) (by decide) ?_
    refine sr_ev (v := .int .i64 (a_0.length : Int)) (ev_sllen Tryd.underlying22 rfl ha_0) (by decide) ?_
    refine sr_ev (v := .bool (decide (i_5 < (a_0.length : Int)))) (ev_lt rfl rfl) (by decide) ?_
    refine sr_end (l' := [(0, va_0), (1, vb_1), (5, .int .i64 i_5), (14, .bool (decide (i_5 < (a_0.length : Int))))]) (.cons rfl (.cons rfl (.cons rfl (.cons rfl (.nil _))))) ?_
    refine ke_cond (t := decide (i_5 < (a_0.length : Int))) rfl (fun hc6 => ?_) (fun hc6 => ?_)
    · replace hS := ite_true' hS hc6
      refine ke_skip ?_
      refine ke_seq ?_
      refine ke_block ?_
      refine ke_seq ?_
      refine ke_region_q Tryd.mixed (by kernel_rfl) ?_
      refine sq_ev (v := va_0) (fun w1 hw1 => ev_move rfl) (by decide) ?_
      refine sq_ev (v := .int .i64 i_5) (fun w1 hw1 => ev_move rfl) (by decide) ?_
      obtain ⟨y9, hy10, hS⟩ := bind_some' hS
      obtain ⟨b11, o12, cs14, he13, hixhe13⟩ := ha_0.elem Tryd.underlying22 Tryd.info9 rfl (P := Tryd.prog) hy10
      obtain rfl : cs14 = [str y9] := he13.rd
      refine sq_ev (v := .pointer (some ⟨b11, o12, none⟩)) (fun w1 hw1 => hixhe13 w1 hw1 rfl rfl) (by decide) ?_
      refine sq_ev (v := str y9) (fun w1 hw1 => ev_load Tryd.isAgg9 rfl ((he13.step (.of_below hw1) (Nat.succ_pos _)).cell 0 _ rfl)) (by decide) ?_
      refine sq_ev (v := vb_1) (fun w1 hw1 => ev_move rfl) (by decide) ?_
      refine sq_ev (v := .int .i64 i_5) (fun w1 hw1 => ev_move rfl) (by decide) ?_
      obtain ⟨y15, hy16, hS⟩ := bind_some' hS
      obtain ⟨b17, o18, cs20, he19, hixhe19⟩ := hb_1.elem Tryd.underlying22 Tryd.info9 rfl (P := Tryd.prog) hy16
      obtain rfl : cs20 = [str y15] := he19.rd
      refine sq_ev (v := .pointer (some ⟨b17, o18, none⟩)) (fun w1 hw1 => hixhe19 w1 hw1 rfl rfl) (by decide) ?_
      refine sq_ev (v := str y15) (fun w1 hw1 => ev_load Tryd.isAgg9 rfl ((he19.step (.of_below hw1) (Nat.succ_pos _)).cell 0 _ rfl)) (by decide) ?_
      refine sq_ev (v := .bool (!(y9 == y15))) (fun w1 hw1 => ev_sne rfl rfl) (by decide) ?_
      refine sq_end (l' := [(0, va_0), (1, vb_1), (5, .int .i64 i_5), (25, .bool (!(y9 == y15)))]) (.cons rfl (.cons rfl (.cons rfl (.cons rfl (.nil _))))) (fun w8 hw7 => ?_)
      replace hb := hb.trans (hw7.mono hb.size)
      replace hA := lt_mono hA hw7.size
      replace hH := hH.below hw7
      replace ha_0 := ha_0.below hw7
      replace hb_1 := hb_1.below hw7
      refine ke_cond (t := !(y9 == y15)) rfl (fun hc21 => ?_) (fun hc21 => ?_)
      · replace hS := ite_true' hS hc21
        refine ke_seq ?_
        refine ke_region ?_
        refine sr_ev (v := .bool false) (ev_assign rfl) (by decide) ?_
        refine sr_end (l' := [(4, .bool false)]) (.cons rfl (.nil _)) ?_
        cases hS
        exact ke_ret1 Tryd.func18 rfl rfl ⟨_, rfl, rfl, hb⟩
      · replace hS := ite_false' hS hc21
        refine ke_skip ?_
        refine ke_inBlock ?_
        refine ke_region ?_
        refine sr_ev (v := .int .i64 i_5) (ev_move rfl) (by decide) ?_
        refine sr_ev (v := .int .i64 (IntKind.i64.wrap (i_5 + 1))) (ev_add rfl rfl) (by decide) ?_
        refine sr_ev (v := .int .i64 (IntKind.i64.wrap (i_5 + 1))) (ev_assign rfl) (by decide) ?_
        refine sr_end (l' := [(0, va_0), (1, vb_1), (5, .int .i64 (IntKind.i64.wrap (i_5 + 1)))]) (.cons rfl (.cons rfl (.cons rfl (.nil _)))) ?_
        have hK := hr0 hS hb hA hi hH ha_0 hb_1
        exact ke_weaken (l' := [(0, va_0), (1, vb_1), (5, .int .i64 (IntKind.i64.wrap (i_5 + 1)))]) (.cons rfl (.cons rfl (.cons rfl (.nil _)))) hK
    · replace hS := ite_false' hS hc6
      refine ke_exit (k' := _) rfl ?_
      refine ke_seq ?_
      refine ke_region ?_
      refine sr_ev (v := .bool true) (ev_assign rfl) (by decide) ?_
      refine sr_end (l' := [(4, .bool true)]) (.cons rfl (.nil _)) ?_
      cases hS
      exact ke_ret1 Tryd.func18 rfl rfl ⟨_, rfl, rfl, hb⟩
theorem ref03_Same_ok {A0 : Nat → Prop} (w0 : World) (hg : Gs w0) {a_0 : List Str} {b_1 : List Str} {v1 : Value} {v3 : Value} {r : Bool} (h2 : SlR strC A0 w0 v1 a_0) (h4 : SlR strC A0 w0 v3 b_1) (hS : ref03_Same a_0 b_1 = some r) :
    Calls Tryd.prog 18 #[v1, v3] w0 (Ret (fun v w' => v = .bool r ∧ Below w0.heap.size w0 w')) := by
  unfold ref03_Same at hS
  have hb := Below.refl w0.heap.size w0
  replace h2 := h2.weak (A' := fun _ => False) (fun _ h => h.elim)
  replace h4 := h4.weak (A' := fun _ => False) (fun _ h => h.elim)
  obtain ⟨A0, hA0, hAe⟩ : ∃ A0 : Nat → Prop, (∀ b, A0 b → b < w0.heap.size) ∧ A0 = fun _ => False := ⟨_, fun _ h => h.elim, rfl⟩
  rw [← hAe] at h2
  rw [← hAe] at h4
  clear hAe
  have hA := hA0
  have hi : ∀ b, A0 b → A0 b := fun _ h => h
  have hH := Hp.nil A0 w0.heap.size w0
  refine calls_of_ke Tryd.func18 rfl (n := 26) rfl rfl (l := [(0, v1), (1, v3)]) rfl ?_
  refine ke_seq ?_
  refine ke_region ?_
  refine sr_ev (v := .bool false) (ev_assign rfl) (by decide) ?_
  refine sr_end (l' := [(0, v1), (1, v3)]) (.cons rfl (.cons rfl (.nil _))) ?_
  refine ke_seq ?_
  refine ke_seq ?_
  refine ke_region ?_
  refine sr_ev (v := v1) (ev_move rfl) (by decide) ?_
  refine sr_ev (v := .int .i64 (a_0.length : Int)) (ev_sllen Tryd.underlying22 rfl h2) (by decide) ?_
  refine sr_ev (v := v3) (ev_move rfl) (by decide) ?_
  refine sr_ev (v := .int .i64 (b_1.length : Int)) (ev_sllen Tryd.underlying22 rfl h4) (by decide) ?_
  refine sr_ev (v := .bool ((a_0.length : Int) != (b_1.length : Int))) (ev_ne rfl rfl) (by decide) ?_
  refine sr_end (l' := [(0, v1), (1, v3), (10, .bool ((a_0.length : Int) != (b_1.length : Int)))]) (.cons rfl (.cons rfl (.cons rfl (.nil _)))) ?_
  refine ke_cond (t := (a_0.length : Int) != (b_1.length : Int)) rfl (fun hc5 => ?_) (fun hc5 => ?_)
  · replace hS := ite_true' hS hc5
    refine ke_seq ?_
    refine ke_region ?_
    refine sr_ev (v := .bool false) (ev_assign rfl) (by decide) ?_
    refine sr_end (l' := [(4, .bool false)]) (.cons rfl (.nil _)) ?_
    cases hS
    exact ke_ret1 Tryd.func18 rfl rfl ⟨_, rfl, rfl, hb⟩
  · replace hS := ite_false' hS hc5
    refine ke_skip ?_
    refine ke_seq ?_
    refine ke_seq ?_
    refine ke_region ?_
    refine sr_ev (v := .int .i64 0) (ev_assign rfl) (by decide) ?_
    refine sr_end (l' := [(0, v1), (1, v3), (5, .int .i64 0)]) (.cons rfl (.cons rfl (.cons rfl (.nil _)))) ?_
    refine ke_block ?_
    have hK := ref03_Same_L1_ok hg hA0 _ hS hb hA hi hH h2 h4
    exact ke_weaken (l' := [(0, v1), (1, v3), (5, .int .i64 0)]) (.cons rfl (.cons rfl (.cons rfl (.nil _)))) (ke_loop hK)
theorem scope_covered_L1_ok {w0 : World} (hg : Gs w0) {A0 : Nat → Prop} (hA0 : ∀ b, A0 b → b < w0.heap.size) : ∀ (n : Nat), ∀ {r : Bool} {s_0 : Str} {t_7 : List Str} {t_8 : Int} {t_9 : Int} {vt_7 : Value}, scope_covered_L1 n s_0 t_7 t_8 t_9 = some r → ∀ {w : World} {A : Nat → Prop}, (Below w0.heap.size w0 w) → (∀ b, A b → b < w.heap.size) → (∀ b, A0 b → A b) → (Hp A w0.heap.size w []) → (SlR strC A w vt_7 t_7) → KE Tryd.prog 38 (Ret (fun v w' => v = .bool r ∧ Below w0.heap.size w0 w')) 17 [.code (sub (bodyOf Tryd.f38) [2, 1, 2, 2, 1]), .inLoop (sub (bodyOf Tryd.f38) [2, 1, 2, 2, 1]), .inBlock 0, .code (sub (bodyOf Tryd.f38) [2, 2])] [(0, str s_0), (7, vt_7), (8, .int .i64 t_8), (9, .int .i64 t_9)] w := by
  intro n
  induction n with
  | zero => intro r s_0 t_7 t_8 t_9 vt_7 hS; cases hS
  | succ n ih =>
    have hr0 : ∀ {r : Bool} {s_0 : Str} {t_7 : List Str} {t_8 : Int} {t_9 : Int} {vt_7 : Value}, scope_covered_L1 n s_0 t_7 t_8 t_9 = some r → ∀ {w : World} {A : Nat → Prop}, (Below w0.heap.size w0 w) → (∀ b, A b → b < w.heap.size) → (∀ b, A0 b → A b) → (Hp A w0.heap.size w []) → (SlR strC A w vt_7 t_7) → KE Tryd.prog 38 (Ret (fun v w' => v = .bool r ∧ Below w0.heap.size w0 w')) 17 [.inLoop (sub (bodyOf Tryd.f38) [2, 1, 2, 2, 1]), .inBlock 0, .code (sub (bodyOf Tryd.f38) [2, 2])] [(0, str s_0), (7, vt_7), (8, .int .i64 t_8), (9, .int .i64 t_9)] w := fun {r} {s_0} {t_7} {t_8} {t_9} {vt_7} hS {w} {A} hb hA hi hH ht_7 => ke_inLoop (ih hS hb hA hi hH ht_7)
    clear ih
    intro r s_0 t_7 t_8 t_9 vt_7 hS w A hb hA hi hH ht_7
    unfold scope_covered_L1 at hS
    refine ke_seq ?_
    refine ke_region ?_
    refine sr_ev (v := .bool (decide (t_9 < t_8))) (ev_lt rfl rfl) (by decide) ?_
    refine sr_end (l' := [(0, str s_0), (7, vt_7), (8, .int .i64 t_8), (9, .int .i64 t_9), (10, .bool (decide (t_9 < t_8)))]) (.cons rfl (.cons rfl (.cons rfl (.cons rfl (.cons rfl (.nil _)))))) ?_
    refine ke_seq ?_
    refine ke_cond (t := decide (t_9 < t_8)) rfl (fun hc3 => ?_) (fun hc3 => ?_)
    · replace hS := ite_true' hS hc3
      refine ke_skip ?_
      refine ke_seq ?_
      refine ke_block ?_
      refine ke_seq ?_
      refine ke_region ?_
      obtain ⟨y4, hy5, hS⟩ := bind_some' hS
      refine sr_index ht_7 Tryd.underlying22 Tryd.info9 rfl rfl rfl hy5 (by decide) ?_
      intro b6 o7 cs9 he8
      obtain rfl : cs9 = [str y4] := he8.rd
      refine sr_ev (v := str y4) (ev_load Tryd.isAgg9 rfl (he8.cell 0 _ rfl)) (by decide) ?_
      refine sr_ev (v := str y4) (ev_assign rfl) (by decide) ?_
      refine sr_end (l' := [(0, str s_0), (6, str y4), (7, vt_7), (8, .int .i64 t_8), (9, .int .i64 t_9)]) (.cons rfl (.cons rfl (.cons rfl (.cons rfl (.cons rfl (.nil _)))))) ?_
      refine ke_seq ?_
      refine ke_region ?_
      refine sr_ev (v := str y4) (ev_move rfl) (by decide) ?_
      refine sr_ev (v := str s_0) (ev_move rfl) (by decide) ?_
      obtain ⟨y10, hy11, hS⟩ := bind_some' hS
      refine sr_call (vs := [str y4, str s_0]) rfl Tryd.call21 rfl (scope_Implies_ok _ (hg.below hb) hy11) (by decide) ?_
      rintro _ w12 ⟨rfl, hbw13⟩
      replace hb := hb.trans (hbw13.mono hb.size)
      replace hA := lt_mono hA hbw13.size
      replace hH := hH.below hbw13
      replace ht_7 := ht_7.below hbw13
      refine sr_end (l' := [(0, str s_0), (7, vt_7), (8, .int .i64 t_8), (9, .int .i64 t_9), (15, .bool y10)]) (.cons rfl (.cons rfl (.cons rfl (.cons rfl (.cons rfl (.nil _)))))) ?_
      refine ke_cond (t := y10) rfl (fun hc14 => ?_) (fun hc14 => ?_)
      · replace hS := ite_true' hS hc14
        refine ke_seq ?_
        refine ke_region ?_
        refine sr_ev (v := .bool true) (ev_assign rfl) (by decide) ?_
        refine sr_end (l' := [(4, .bool true)]) (.cons rfl (.nil _)) ?_
        cases hS
        exact ke_ret1 Tryd.func38 rfl rfl ⟨_, rfl, rfl, hb⟩
      · replace hS := ite_false' hS hc14
        refine ke_skip ?_
        refine ke_inBlock ?_
        refine ke_region ?_
        refine sr_ev (v := .int .i64 (IntKind.i64.wrap (t_9 + 1))) (ev_add rfl rfl) (by decide) ?_
        refine sr_ev (v := .int .i64 (IntKind.i64.wrap (t_9 + 1))) (ev_move rfl) (by decide) ?_
        refine sr_end (l' := [(0, str s_0), (7, vt_7), (8, .int .i64 t_8), (9, .int .i64 (IntKind.i64.wrap (t_9 + 1)))]) (.cons rfl (.cons rfl (.cons rfl (.cons rfl (.nil _))))) ?_
        have hK := hr0 hS hb hA hi hH ht_7
        exact ke_weaken (l' := [(0, str s_0), (7, vt_7), (8, .int .i64 t_8), (9, .int .i64 (IntKind.i64.wrap (t_9 + 1)))]) (.cons rfl (.cons rfl (.cons rfl (.cons rfl (.nil _))))) hK
    · replace hS := ite_false' hS hc3
      refine ke_exit (k' := _) rfl ?_
      refine ke_seq ?_
      refine ke_region ?_
      refine sr_ev (v := .bool false) (ev_assign rfl) (by decide) ?_
      refine sr_end (l' := [(4, .bool false)]) (.cons rfl (.nil _)) ?_
      cases hS
      exact ke_ret1 Tryd.func38 rfl rfl ⟨_, rfl, rfl, hb⟩
theorem scope_covered_ok {A0 : Nat → Prop} (w0 : World) (hg : Gs w0) {s_0 : Str} {l_1 : List Str} {v1 : Value} {r : Bool} (h2 : SlR strC A0 w0 v1 l_1) (hS : scope_covered s_0 l_1 = some r) :
    Calls Tryd.prog 38 #[str s_0, v1] w0 (Ret (fun v w' => v = .bool r ∧ Below w0.heap.size w0 w')) := by
  unfold scope_covered at hS
  have hb := Below.refl w0.heap.size w0
  replace h2 := h2.weak (A' := fun _ => False) (fun _ h => h.elim)
  obtain ⟨A0, hA0, hAe⟩ : ∃ A0 : Nat → Prop, (∀ b, A0 b → b < w0.heap.size) ∧ A0 = fun _ => False := ⟨_, fun _ h => h.elim, rfl⟩
  rw [← hAe] at h2
  clear hAe
  have hA := hA0
  have hi : ∀ b, A0 b → A0 b := fun _ h => h
  have hH := Hp.nil A0 w0.heap.size w0
  refine calls_of_ke Tryd.func38 rfl (n := 17) rfl rfl (l := [(0, str s_0), (1, v1)]) rfl ?_
  refine ke_seq ?_
  refine ke_region ?_
  refine sr_ev (v := .bool false) (ev_assign rfl) (by decide) ?_
  refine sr_end (l' := [(0, str s_0), (1, v1)]) (.cons rfl (.cons rfl (.nil _))) ?_
  refine ke_seq ?_
  refine ke_seq ?_
  refine ke_region ?_
  refine sr_ev (v := v1) (ev_move rfl) (by decide) ?_
  refine sr_ev (v := .int .i64 (l_1.length : Int)) (ev_sllen Tryd.underlying22 rfl h2) (by decide) ?_
  refine sr_ev (v := .int .i64 0) (ev_move rfl) (by decide) ?_
  refine sr_end (l' := [(0, str s_0), (7, v1), (8, .int .i64 (l_1.length : Int)), (9, .int .i64 0)]) (.cons rfl (.cons rfl (.cons rfl (.cons rfl (.nil _))))) ?_
  refine ke_block ?_
  have hK := scope_covered_L1_ok hg hA0 _ hS hb hA hi hH h2
  exact ke_weaken (l' := [(0, str s_0), (7, v1), (8, .int .i64 (l_1.length : Int)), (9, .int .i64 0)]) (.cons rfl (.cons rfl (.cons rfl (.cons rfl (.nil _))))) (ke_loop hK)
theorem scope_Within_L1_ok {w0 : World} (hg : Gs w0) {A0 : Nat → Prop} (hA0 : ∀ b, A0 b → b < w0.heap.size) : ∀ (n : Nat), ∀ {r : Bool} {b_1 : List Str} {t_7 : List Str} {t_8 : Int} {t_9 : Int} {vb_1 : Value} {vt_7 : Value}, scope_Within_L1 n b_1 t_7 t_8 t_9 = some r → ∀ {w : World} {A : Nat → Prop}, (Below w0.heap.size w0 w) → (∀ b, A b → b < w.heap.size) → (∀ b, A0 b → A b) → (Hp A w0.heap.size w []) → (SlR strC A w vb_1 b_1) → (SlR strC A w vt_7 t_7) → KE Tryd.prog 23 (Ret (fun v w' => v = .bool r ∧ Below w0.heap.size w0 w')) 18 [.code (sub (bodyOf Tryd.f23) [2, 1, 2, 2, 1]), .inLoop (sub (bodyOf Tryd.f23) [2, 1, 2, 2, 1]), .inBlock 0, .code (sub (bodyOf Tryd.f23) [2, 2])] [(1, vb_1), (7, vt_7), (8, .int .i64 t_8), (9, .int .i64 t_9)] w := by
  intro n
  induction n with
  | zero => intro r b_1 t_7 t_8 t_9 vb_1 vt_7 hS; cases hS
  | succ n ih =>
    have hr0 : ∀ {r : Bool} {b_1 : List Str} {t_7 : List Str} {t_8 : Int} {t_9 : Int} {vb_1 : Value} {vt_7 : Value}, scope_Within_L1 n b_1 t_7 t_8 t_9 = some r → ∀ {w : World} {A : Nat → Prop}, (Below w0.heap.size w0 w) → (∀ b, A b → b < w.heap.size) → (∀ b, A0 b → A b) → (Hp A w0.heap.size w []) → (SlR strC A w vb_1 b_1) → (SlR strC A w vt_7 t_7) → KE Tryd.prog 23 (Ret (fun v w' => v = .bool r ∧ Below w0.heap.size w0 w')) 18 [.inLoop (sub (bodyOf Tryd.f23) [2, 1, 2, 2, 1]), .inBlock 0, .code (sub (bodyOf Tryd.f23) [2, 2])] [(1, vb_1), (7, vt_7), (8, .int .i64 t_8), (9, .int .i64 t_9)] w := fun {r} {b_1} {t_7} {t_8} {t_9} {vb_1} {vt_7} hS {w} {A} hb hA hi hH hb_1 ht_7 => ke_inLoop (ih hS hb hA hi hH hb_1 ht_7)
    clear ih
    intro r b_1 t_7 t_8 t_9 vb_1 vt_7 hS w A hb hA hi hH hb_1 ht_7
    unfold scope_Within_L1 at hS
    refine ke_seq ?_
    refine ke_region ?_
    refine sr_ev (v := .bool (decide (t_9 < t_8))) (ev_lt rfl rfl) (by decide) ?_
    refine sr_end (l' := [(1, vb_1), (7, vt_7), (8, .int .i64 t_8), (9, .int .i64 t_9), (10, .bool (decide (t_9 < t_8)))]) (.cons rfl (.cons rfl (.cons rfl (.cons rfl (.cons rfl (.nil _)))))) ?_
    refine ke_seq ?_
    refine ke_cond (t := decide (t_9 < t_8)) rfl (fun hc5 => ?_) (fun hc5 => ?_)
    · replace hS := ite_true' hS hc5
      refine ke_skip ?_
      refine ke_seq ?_
      refine ke_block ?_
      refine ke_seq ?_
      refine ke_region ?_
      obtain ⟨y6, hy7, hS⟩ := bind_some' hS
      refine sr_index ht_7 Tryd.underlying22 Tryd.info9 rfl rfl rfl hy7 (by decide) ?_
      intro b8 o9 cs11 he10
      obtain rfl : cs11 = [str y6] := he10.rd
      refine sr_ev (v := str y6) (ev_load Tryd.isAgg9 rfl (he10.cell 0 _ rfl)) (by decide) ?_
      refine sr_ev (v := str y6) (ev_assign rfl) (by decide) ?_
      refine sr_end (l' := [(1, vb_1), (6, str y6), (7, vt_7), (8, .int .i64 t_8), (9, .int .i64 t_9)]) (.cons rfl (.cons rfl (.cons rfl (.cons rfl (.cons rfl (.nil _)))))) ?_
      refine ke_seq ?_
      refine ke_region ?_
      refine sr_ev (v := str y6) (ev_move rfl) (by decide) ?_
      refine sr_ev (v := vb_1) (ev_move rfl) (by decide) ?_
      obtain ⟨y12, hy13, hS⟩ := bind_some' hS
      refine sr_call (vs := [str y6, vb_1]) rfl Tryd.call38 rfl (scope_covered_ok _ (hg.below hb) hb_1 hy13) (by decide) ?_
      rintro _ w14 ⟨rfl, hbw15⟩
      replace hb := hb.trans (hbw15.mono hb.size)
      replace hA := lt_mono hA hbw15.size
      replace hH := hH.below hbw15
      replace hb_1 := hb_1.below hbw15
      replace ht_7 := ht_7.below hbw15
      refine sr_ev (v := .bool (!y12)) (ev_not rfl) (by decide) ?_
      refine sr_end (l' := [(1, vb_1), (7, vt_7), (8, .int .i64 t_8), (9, .int .i64 t_9), (16, .bool (!y12))]) (.cons rfl (.cons rfl (.cons rfl (.cons rfl (.cons rfl (.nil _)))))) ?_
      refine ke_cond (t := !y12) rfl (fun hc16 => ?_) (fun hc16 => ?_)
      · replace hS := ite_true' hS hc16
        refine ke_seq ?_
        refine ke_region ?_
        refine sr_ev (v := .bool false) (ev_assign rfl) (by decide) ?_
        refine sr_end (l' := [(4, .bool false)]) (.cons rfl (.nil _)) ?_
        cases hS
        exact ke_ret1 Tryd.func23 rfl rfl ⟨_, rfl, rfl, hb⟩
      · replace hS := ite_false' hS hc16
        refine ke_skip ?_
        refine ke_inBlock ?_
        refine ke_region ?_
        refine sr_ev (v := .int .i64 (IntKind.i64.wrap (t_9 + 1))) (ev_add rfl rfl) (by decide) ?_
        refine sr_ev (v := .int .i64 (IntKind.i64.wrap (t_9 + 1))) (ev_move rfl) (by decide) ?_
        refine sr_end (l' := [(1, vb_1), (7, vt_7), (8, .int .i64 t_8), (9, .int .i64 (IntKind.i64.wrap (t_9 + 1)))]) (.cons rfl (.cons rfl (.cons rfl (.cons rfl (.nil _))))) ?_
        have hK := hr0 hS hb hA hi hH hb_1 ht_7
        exact ke_weaken (l' := [(1, vb_1), (7, vt_7), (8, .int .i64 t_8), (9, .int .i64 (IntKind.i64.wrap (t_9 + 1)))]) (.cons rfl (.cons rfl (.cons rfl (.cons rfl (.nil _))))) hK
    · replace hS := ite_false' hS hc5
      refine ke_exit (k' := _) rfl ?_
      refine ke_seq ?_
      refine ke_region ?_
      refine sr_ev (v := .bool true) (ev_assign rfl) (by decide) ?_
      refine sr_end (l' := [(4, .bool true)]) (.cons rfl (.nil _)) ?_
      cases hS
      exact ke_ret1 Tryd.func23 rfl rfl ⟨_, rfl, rfl, hb⟩
theorem scope_Within_ok {A0 : Nat → Prop} (w0 : World) (hg : Gs w0) {a_0 : List Str} {b_1 : List Str} {v1 : Value} {v3 : Value} {r : Bool} (h2 : SlR strC A0 w0 v1 a_0) (h4 : SlR strC A0 w0 v3 b_1) (hS : scope_Within a_0 b_1 = some r) :
    Calls Tryd.prog 23 #[v1, v3] w0 (Ret (fun v w' => v = .bool r ∧ Below w0.heap.size w0 w')) := by
  unfold scope_Within at hS
  have hb := Below.refl w0.heap.size w0
  replace h2 := h2.weak (A' := fun _ => False) (fun _ h => h.elim)
  replace h4 := h4.weak (A' := fun _ => False) (fun _ h => h.elim)
  obtain ⟨A0, hA0, hAe⟩ : ∃ A0 : Nat → Prop, (∀ b, A0 b → b < w0.heap.size) ∧ A0 = fun _ => False := ⟨_, fun _ h => h.elim, rfl⟩
  rw [← hAe] at h2
  rw [← hAe] at h4
  clear hAe
  have hA := hA0
  have hi : ∀ b, A0 b → A0 b := fun _ h => h
  have hH := Hp.nil A0 w0.heap.size w0
  refine calls_of_ke Tryd.func23 rfl (n := 18) rfl rfl (l := [(0, v1), (1, v3)]) rfl ?_
  refine ke_seq ?_
  refine ke_region ?_
  refine sr_ev (v := .bool false) (ev_assign rfl) (by decide) ?_
  refine sr_end (l' := [(0, v1), (1, v3)]) (.cons rfl (.cons rfl (.nil _))) ?_
  refine ke_seq ?_
  refine ke_seq ?_
  refine ke_region ?_
  refine sr_ev (v := v1) (ev_move rfl) (by decide) ?_
  refine sr_ev (v := .int .i64 (a_0.length : Int)) (ev_sllen Tryd.underlying22 rfl h2) (by decide) ?_
  refine sr_ev (v := .int .i64 0) (ev_move rfl) (by decide) ?_
  refine sr_end (l' := [(1, v3), (7, v1), (8, .int .i64 (a_0.length : Int)), (9, .int .i64 0)]) (.cons rfl (.cons rfl (.cons rfl (.cons rfl (.nil _))))) ?_
  refine ke_block ?_
  have hK := scope_Within_L1_ok hg hA0 _ hS hb hA hi hH h4 h2
  exact ke_weaken (l' := [(1, v3), (7, v1), (8, .int .i64 (a_0.length : Int)), (9, .int .i64 0)]) (.cons rfl (.cons rfl (.cons rfl (.cons rfl (.nil _))))) (ke_loop hK)
theorem scope_Common_B2_ok {w0 : World} (hg : Gs w0) {A0 : Nat → Prop} (hA0 : ∀ b, A0 b → b < w0.heap.size) (r0 : List Str → List Str → List Str → List Str → Int → Int → Option (List Str))
    (hr0 : ∀ {r : List Str} {a_0 : List Str} {b_1 : List Str} {out_5 : List Str} {t_10 : List Str} {t_11 : Int} {t_12 : Int} {va_0 : Value} {vb_1 : Value} {vout_5 : Value} {vt_10 : Value}, r0 a_0 b_1 out_5 t_10 t_11 t_12 = some r → ∀ {w : World} {A : Nat → Prop}, (Below w0.heap.size w0 w) → (∀ b, A b → b < w.heap.size) → (∀ b, A0 b → A b) → (Hp A w0.heap.size w []) → (SlR strC A w va_0 a_0) → (SlR strC A w vb_1 b_1) → (OwnS strC 9 A w0.heap.size w vout_5 out_5) → (Dj vout_5 []) → (SlR strC A w vt_10 t_10) → KE Tryd.prog 25 (Ret (fun v w' => ∃ x1, v = x1 ∧ SlR strC A0 w' x1 r ∧ Below w0.heap.size w0 w')) 40 [.inLoop (sub (bodyOf Tryd.f25) [2, 2, 1, 2, 2, 1]), .inBlock 0, .code (sub (bodyOf Tryd.f25) [2, 2, 2])] [(0, va_0), (1, vb_1), (5, vout_5), (10, vt_10), (11, .int .i64 t_11), (12, .int .i64 t_12)] w) {r : List Str} {a_0 : List Str} {b_1 : List Str} {out_5 : List Str} {t_10 : List Str} {t_11 : Int} {t_12 : Int} {va_0 : Value} {vb_1 : Value} {vout_5 : Value} {vt_10 : Value} (hS : scope_Common_B2 r0 a_0 b_1 out_5 t_10 t_11 t_12 = some r) {w : World} {A : Nat → Prop} (hb : Below w0.heap.size w0 w) (hA : ∀ b, A b → b < w.heap.size) (hi : ∀ b, A0 b → A b) (hH : Hp A w0.heap.size w []) (ha_0 : SlR strC A w va_0 a_0) (hb_1 : SlR strC A w vb_1 b_1) (hout_5 : OwnS strC 9 A w0.heap.size w vout_5 out_5) (dout_5 : Dj vout_5 []) (ht_10 : SlR strC A w vt_10 t_10) :
    KE Tryd.prog 25 (Ret (fun v w' => ∃ x1, v = x1 ∧ SlR strC A0 w' x1 r ∧ Below w0.heap.size w0 w')) 40 [.inBlock 1, .code (sub (bodyOf Tryd.f25) [2, 2, 1, 2, 2, 1, 2, 2, 2]), .inLoop (sub (bodyOf Tryd.f25) [2, 2, 1, 2, 2, 1]), .inBlock 0, .code (sub (bodyOf Tryd.f25) [2, 2, 2])] [(0, va_0), (1, vb_1), (5, vout_5), (10, vt_10), (11, .int .i64 t_11), (12, .int .i64 t_12)] w := by
  unfold scope_Common_B2 at hS
  refine ke_inBlock ?_
  refine ke_region ?_
  refine sr_ev (v := .int .i64 (IntKind.i64.wrap (t_12 + 1))) (ev_add rfl rfl) (by decide) ?_
  refine sr_ev (v := .int .i64 (IntKind.i64.wrap (t_12 + 1))) (ev_move rfl) (by decide) ?_
  refine sr_end (l' := [(0, va_0), (1, vb_1), (5, vout_5), (10, vt_10), (11, .int .i64 t_11), (12, .int .i64 (IntKind.i64.wrap (t_12 + 1)))]) (.cons rfl (.cons rfl (.cons rfl (.cons rfl (.cons rfl (.cons rfl (.nil _))))))) ?_
  have hK := hr0 hS hb hA hi hH ha_0 hb_1 hout_5 dout_5 ht_10
  exact ke_weaken (l' := [(0, va_0), (1, vb_1), (5, vout_5), (10, vt_10), (11, .int .i64 t_11), (12, .int .i64 (IntKind.i64.wrap (t_12 + 1)))]) (.cons rfl (.cons rfl (.cons rfl (.cons rfl (.cons rfl (.cons rfl (.nil _))))))) hK
theorem scope_Common_B4_ok {w0 : World} (hg : Gs w0) {A0 : Nat → Prop} (hA0 : ∀ b, A0 b → b < w0.heap.size) (r0 : List Str → List Str → List Str → List Str → Int → Int → Option (List Str)) (r1 : List Str → List Str → List Str → Int → Int → Option (List Str))
    (hr0 : ∀ {r : List Str} {a_0 : List Str} {b_1 : List Str} {out_5 : List Str} {t_10 : List Str} {t_11 : Int} {t_12 : Int} {va_0 : Value} {vb_1 : Value} {vout_5 : Value} {vt_10 : Value}, r0 a_0 b_1 out_5 t_10 t_11 t_12 = some r → ∀ {w : World} {A : Nat → Prop}, (Below w0.heap.size w0 w) → (∀ b, A b → b < w.heap.size) → (∀ b, A0 b → A b) → (Hp A w0.heap.size w []) → (SlR strC A w va_0 a_0) → (SlR strC A w vb_1 b_1) → (OwnS strC 9 A w0.heap.size w vout_5 out_5) → (Dj vout_5 []) → (SlR strC A w vt_10 t_10) → KE Tryd.prog 25 (Ret (fun v w' => ∃ x1, v = x1 ∧ SlR strC A0 w' x1 r ∧ Below w0.heap.size w0 w')) 40 [.inLoop (sub (bodyOf Tryd.f25) [2, 2, 1, 2, 2, 1]), .inBlock 0, .code (sub (bodyOf Tryd.f25) [2, 2, 2])] [(0, va_0), (1, vb_1), (5, vout_5), (10, vt_10), (11, .int .i64 t_11), (12, .int .i64 t_12)] w)
    (hr1 : ∀ {r : List Str} {a_0 : List Str} {out_5 : List Str} {t_24 : List Str} {t_25 : Int} {t_26 : Int} {va_0 : Value} {vout_5 : Value} {vt_24 : Value}, r1 a_0 out_5 t_24 t_25 t_26 = some r → ∀ {w : World} {A : Nat → Prop}, (Below w0.heap.size w0 w) → (∀ b, A b → b < w.heap.size) → (∀ b, A0 b → A b) → (Hp A w0.heap.size w []) → (SlR strC A w va_0 a_0) → (OwnS strC 9 A w0.heap.size w vout_5 out_5) → (Dj vout_5 []) → (SlR strC A w vt_24 t_24) → KE Tryd.prog 25 (Ret (fun v w' => ∃ x1, v = x1 ∧ SlR strC A0 w' x1 r ∧ Below w0.heap.size w0 w')) 40 [.inLoop (sub (bodyOf Tryd.f25) [2, 2, 2, 1, 2, 2, 1]), .inBlock 2, .code (sub (bodyOf Tryd.f25) [2, 2, 2, 2])] [(0, va_0), (5, vout_5), (24, vt_24), (25, .int .i64 t_25), (26, .int .i64 t_26)] w) {r : List Str} {a_0 : List Str} {out_5 : List Str} {t_24 : List Str} {t_25 : Int} {t_26 : Int} {va_0 : Value} {vout_5 : Value} {vt_24 : Value} (hS : scope_Common_B4 r0 r1 a_0 out_5 t_24 t_25 t_26 = some r) {w : World} {A : Nat → Prop} (hb : Below w0.heap.size w0 w) (hA : ∀ b, A b → b < w.heap.size) (hi : ∀ b, A0 b → A b) (hH : Hp A w0.heap.size w []) (ha_0 : SlR strC A w va_0 a_0) (hout_5 : OwnS strC 9 A w0.heap.size w vout_5 out_5) (dout_5 : Dj vout_5 []) (ht_24 : SlR strC A w vt_24 t_24) :
    KE Tryd.prog 25 (Ret (fun v w' => ∃ x1, v = x1 ∧ SlR strC A0 w' x1 r ∧ Below w0.heap.size w0 w')) 40 [.inBlock 3, .code (sub (bodyOf Tryd.f25) [2, 2, 2, 1, 2, 2, 1, 2, 2, 2]), .inLoop (sub (bodyOf Tryd.f25) [2, 2, 2, 1, 2, 2, 1]), .inBlock 2, .code (sub (bodyOf Tryd.f25) [2, 2, 2, 2])] [(0, va_0), (5, vout_5), (24, vt_24), (25, .int .i64 t_25), (26, .int .i64 t_26)] w := by
  unfold scope_Common_B4 at hS
  refine ke_inBlock ?_
  refine ke_region ?_
  refine sr_ev (v := .int .i64 (IntKind.i64.wrap (t_26 + 1))) (ev_add rfl rfl) (by decide) ?_
  refine sr_ev (v := .int .i64 (IntKind.i64.wrap (t_26 + 1))) (ev_move rfl) (by decide) ?_
  refine sr_end (l' := [(0, va_0), (5, vout_5), (24, vt_24), (25, .int .i64 t_25), (26, .int .i64 (IntKind.i64.wrap (t_26 + 1)))]) (.cons rfl (.cons rfl (.cons rfl (.cons rfl (.cons rfl (.nil _)))))) ?_
  have hK := hr1 hS hb hA hi hH ha_0 hout_5 dout_5 ht_24
  exact ke_weaken (l' := [(0, va_0), (5, vout_5), (24, vt_24), (25, .int .i64 t_25), (26, .int .i64 (IntKind.i64.wrap (t_26 + 1)))]) (.cons rfl (.cons rfl (.cons rfl (.cons rfl (.cons rfl (.nil _)))))) hK
theorem scope_Common_L3_ok {w0 : World} (hg : Gs w0) {A0 : Nat → Prop} (hA0 : ∀ b, A0 b → b < w0.heap.size) (r0 : List Str → List Str → List Str → List Str → Int → Int → Option (List Str))
    (hr0 : ∀ {r : List Str} {a_0 : List Str} {b_1 : List Str} {out_5 : List Str} {t_10 : List Str} {t_11 : Int} {t_12 : Int} {va_0 : Value} {vb_1 : Value} {vout_5 : Value} {vt_10 : Value}, r0 a_0 b_1 out_5 t_10 t_11 t_12 = some r → ∀ {w : World} {A : Nat → Prop}, (Below w0.heap.size w0 w) → (∀ b, A b → b < w.heap.size) → (∀ b, A0 b → A b) → (Hp A w0.heap.size w []) → (SlR strC A w va_0 a_0) → (SlR strC A w vb_1 b_1) → (OwnS strC 9 A w0.heap.size w vout_5 out_5) → (Dj vout_5 []) → (SlR strC A w vt_10 t_10) → KE Tryd.prog 25 (Ret (fun v w' => ∃ x1, v = x1 ∧ SlR strC A0 w' x1 r ∧ Below w0.heap.size w0 w')) 40 [.inLoop (sub (bodyOf Tryd.f25) [2, 2, 1, 2, 2, 1]), .inBlock 0, .code (sub (bodyOf Tryd.f25) [2, 2, 2])] [(0, va_0), (1, vb_1), (5, vout_5), (10, vt_10), (11, .int .i64 t_11), (12, .int .i64 t_12)] w) : ∀ (n : Nat), ∀ {r : List Str} {a_0 : List Str} {out_5 : List Str} {t_24 : List Str} {t_25 : Int} {t_26 : Int} {va_0 : Value} {vout_5 : Value} {vt_24 : Value}, scope_Common_L3 r0 n a_0 out_5 t_24 t_25 t_26 = some r → ∀ {w : World} {A : Nat → Prop}, (Below w0.heap.size w0 w) → (∀ b, A b → b < w.heap.size) → (∀ b, A0 b → A b) → (Hp A w0.heap.size w []) → (SlR strC A w va_0 a_0) → (OwnS strC 9 A w0.heap.size w vout_5 out_5) → (Dj vout_5 []) → (SlR strC A w vt_24 t_24) → KE Tryd.prog 25 (Ret (fun v w' => ∃ x1, v = x1 ∧ SlR strC A0 w' x1 r ∧ Below w0.heap.size w0 w')) 40 [.code (sub (bodyOf Tryd.f25) [2, 2, 2, 1, 2, 2, 1]), .inLoop (sub (bodyOf Tryd.f25) [2, 2, 2, 1, 2, 2, 1]), .inBlock 2, .code (sub (bodyOf Tryd.f25) [2, 2, 2, 2])] [(0, va_0), (5, vout_5), (24, vt_24), (25, .int .i64 t_25), (26, .int .i64 t_26)] w := by
  intro n
  induction n with
  | zero => intro r a_0 out_5 t_24 t_25 t_26 va_0 vout_5 vt_24 hS; cases hS
  | succ n ih =>
    have hr1 : ∀ {r : List Str} {a_0 : List Str} {out_5 : List Str} {t_24 : List Str} {t_25 : Int} {t_26 : Int} {va_0 : Value} {vout_5 : Value} {vt_24 : Value}, scope_Common_L3 r0 n a_0 out_5 t_24 t_25 t_26 = some r → ∀ {w : World} {A : Nat → Prop}, (Below w0.heap.size w0 w) → (∀ b, A b → b < w.heap.size) → (∀ b, A0 b → A b) → (Hp A w0.heap.size w []) → (SlR strC A w va_0 a_0) → (OwnS strC 9 A w0.heap.size w vout_5 out_5) → (Dj vout_5 []) → (SlR strC A w vt_24 t_24) → KE Tryd.prog 25 (Ret (fun v w' => ∃ x1, v = x1 ∧ SlR strC A0 w' x1 r ∧ Below w0.heap.size w0 w')) 40 [.inLoop (sub (bodyOf Tryd.f25) [2, 2, 2, 1, 2, 2, 1]), .inBlock 2, .code (sub (bodyOf Tryd.f25) [2, 2, 2, 2])] [(0, va_0), (5, vout_5), (24, vt_24), (25, .int .i64 t_25), (26, .int .i64 t_26)] w := fun {r} {a_0} {out_5} {t_24} {t_25} {t_26} {va_0} {vout_5} {vt_24} hS {w} {A} hb hA hi hH ha_0 hout_5 dout_5 ht_24 => ke_inLoop (ih hS hb hA hi hH ha_0 hout_5 dout_5 ht_24)
    clear ih
    intro r a_0 out_5 t_24 t_25 t_26 va_0 vout_5 vt_24 hS w A hb hA hi hH ha_0 hout_5 dout_5 ht_24
    unfold scope_Common_L3 at hS
    refine ke_seq ?_
    refine ke_region ?_
    refine sr_ev (v := .bool (decide (t_26 < t_25))) (ev_lt rfl rfl) (by decide) ?_
    refine sr_end (l' := [(0, va_0), (5, vout_5), (24, vt_24), (25, .int .i64 t_25), (26, .int .i64 t_26), (27, .bool (decide (t_26 < t_25)))]) (.cons rfl (.cons rfl (.cons rfl (.cons rfl (.cons rfl (.cons rfl (.nil _))))))) ?_
    refine ke_seq ?_
    refine ke_cond (t := decide (t_26 < t_25)) rfl (fun hc39 => ?_) (fun hc39 => ?_)
    · replace hS := ite_true' hS hc39
      refine ke_skip ?_
      refine ke_seq ?_
      refine ke_block ?_
      refine ke_seq ?_
      refine ke_region ?_
      obtain ⟨y40, hy41, hS⟩ := bind_some' hS
      refine sr_index ht_24 Tryd.underlying22 Tryd.info9 rfl rfl rfl hy41 (by decide) ?_
      intro b42 o43 cs45 he44
      obtain rfl : cs45 = [str y40] := he44.rd
      refine sr_ev (v := str y40) (ev_load Tryd.isAgg9 rfl (he44.cell 0 _ rfl)) (by decide) ?_
      refine sr_ev (v := str y40) (ev_assign rfl) (by decide) ?_
      refine sr_end (l' := [(0, va_0), (5, vout_5), (9, str y40), (24, vt_24), (25, .int .i64 t_25), (26, .int .i64 t_26)]) (.cons rfl (.cons rfl (.cons rfl (.cons rfl (.cons rfl (.cons rfl (.nil _))))))) ?_
      refine ke_seq ?_
      refine ke_region ?_
      refine sr_ev (v := str y40) (ev_move rfl) (by decide) ?_
      refine sr_ev (v := va_0) (ev_move rfl) (by decide) ?_
      obtain ⟨y46, hy47, hS⟩ := bind_some' hS
      refine sr_call (vs := [str y40, va_0]) rfl Tryd.call38 rfl (scope_covered_ok _ (hg.below hb) ha_0 hy47) (by decide) ?_
      rintro _ w48 ⟨rfl, hbw49⟩
      replace hb := hb.trans (hbw49.mono hb.size)
      replace hA := lt_mono hA hbw49.size
      replace hH := hH.below hbw49
      replace ha_0 := ha_0.below hbw49
      replace hout_5 := hout_5.below hbw49
      replace ht_24 := ht_24.below hbw49
      refine sr_end (l' := [(0, va_0), (5, vout_5), (9, str y40), (24, vt_24), (25, .int .i64 t_25), (26, .int .i64 t_26), (32, .bool y46)]) (.cons rfl (.cons rfl (.cons rfl (.cons rfl (.cons rfl (.cons rfl (.cons rfl (.nil _)))))))) ?_
      refine ke_cond (t := y46) rfl (fun hc50 => ?_) (fun hc50 => ?_)
      · replace hS := ite_true' hS hc50
        refine ke_region ?_
        refine sr_ev (v := vout_5) (ev_move rfl) (by decide) ?_
        refine sr_ev (v := str y40) (ev_move rfl) (by decide) ?_
        refine sr_lit (c := strC) (A := A) (E := 9) (xs := [y40]) (vs := #[(0, str y40)]) (cs := #[str y40]) (css := [[str y40]]) rfl (fun _ => by kernel_rfl) rfl ⟨rfl, trivial⟩ rfl (by decide) hA (by decide) ?_
        intro v51 w53 h52 hbw54
        replace hb := hb.trans (hbw54.mono hb.size)
        replace hA := lt_mono hA hbw54.size
        replace hH := hH.below hbw54
        replace ha_0 := ha_0.below hbw54
        replace ht_24 := ht_24.below hbw54
        replace hout_5 := hout_5.below hbw54
        obtain ⟨hk55, hS⟩ := chk_some hS
        refine sr_append (c := strC) (A := A) (B := w0.heap.size) (E := 9) (xs := out_5) (ys := ([y40] : List Str)) hout_5 h52 Tryd.underlying22 Tryd.info9 rfl rfl rfl (by decide) (by decide) hA hb.size hk55 rfl rfl (by decide) ?_
        intro v56 A58 w59 h57 hst60 hbB61 hinc62 hA1 hoth63 hold
        have dj64 : Dj v56 [] := fun p hp e => by rcases hold _ e with h | h; exact dout_5 p hp h; have := hH.lt hp; omega
        replace hb := hb.trans hbB61
        replace hi := fun b hb => hinc62 b (hi b hb)
        replace hH := hH.keep hinc62 (fun p hp => hoth63 _ (hH.lt hp) (dout_5 p hp))
        replace hA := hA1
        clear hA1
        replace ha_0 := ha_0.step hst60
        replace ht_24 := ht_24.step hst60
        refine sr_ev (v := v56) (ev_assign rfl) (by decide) ?_
        refine sr_end (l' := [(0, va_0), (5, v56), (24, vt_24), (25, .int .i64 t_25), (26, .int .i64 t_26)]) (.cons rfl (.cons rfl (.cons rfl (.cons rfl (.cons rfl (.nil _)))))) ?_
        have hK := scope_Common_B4_ok hg hA0 _ _ hr0 hr1 hS hb hA hi hH ha_0 h57 dj64 ht_24
        exact ke_weaken (l' := [(0, va_0), (5, v56), (24, vt_24), (25, .int .i64 t_25), (26, .int .i64 t_26)]) (.cons rfl (.cons rfl (.cons rfl (.cons rfl (.cons rfl (.nil _)))))) hK
      · replace hS := ite_false' hS hc50
        refine ke_skip ?_
        have hK := scope_Common_B4_ok hg hA0 _ _ hr0 hr1 hS hb hA hi hH ha_0 hout_5 dout_5 ht_24
        exact ke_weaken (l' := [(0, va_0), (5, vout_5), (24, vt_24), (25, .int .i64 t_25), (26, .int .i64 t_26)]) (.cons rfl (.cons rfl (.cons rfl (.cons rfl (.cons rfl (.nil _)))))) hK
    · replace hS := ite_false' hS hc39
      refine ke_exit (k' := _) rfl ?_
      refine ke_seq ?_
      refine ke_region ?_
      refine sr_ev (v := vout_5) (ev_move rfl) (by decide) ?_
      replace hout_5 := hout_5.toSl (fun b hb => ⟨hi b hb, hA0 b hb⟩)
      replace hH := Hp.nil A0 w0.heap.size w
      replace hA := lt_mono hA0 hb.size
      replace hi : ∀ b, A0 b → A0 b := fun _ h => h
      obtain ⟨y67, hy68, hS⟩ := bind_some' hS
      refine sr_call (vs := [vout_5]) rfl Tryd.call19 rfl (scope_Sorted_ok _ (hg.below hb) hout_5 hA hy68) (by decide) ?_
      rintro v71 w69 ⟨_, rfl, h72, hbw70⟩
      replace hb := hb.trans (hbw70.mono hb.size)
      replace hA := lt_mono hA hbw70.size
      replace hH := hH.below hbw70
      refine sr_ev (v := v71) (ev_assign rfl) (by decide) ?_
      refine sr_end (l' := [(4, v71)]) (.cons rfl (.nil _)) ?_
      cases hS
      exact ke_ret1 Tryd.func25 rfl rfl ⟨_, rfl, _, rfl, h72.weak hi, hb⟩
theorem scope_Common_L1_ok {w0 : World} (hg : Gs w0) {A0 : Nat → Prop} (hA0 : ∀ b, A0 b → b < w0.heap.size) : ∀ (n : Nat), ∀ {r : List Str} {a_0 : List Str} {b_1 : List Str} {out_5 : List Str} {t_10 : List Str} {t_11 : Int} {t_12 : Int} {va_0 : Value} {vb_1 : Value} {vout_5 : Value} {vt_10 : Value}, scope_Common_L1 n a_0 b_1 out_5 t_10 t_11 t_12 = some r → ∀ {w : World} {A : Nat → Prop}, (Below w0.heap.size w0 w) → (∀ b, A b → b < w.heap.size) → (∀ b, A0 b → A b) → (Hp A w0.heap.size w []) → (SlR strC A w va_0 a_0) → (SlR strC A w vb_1 b_1) → (OwnS strC 9 A w0.heap.size w vout_5 out_5) → (Dj vout_5 []) → (SlR strC A w vt_10 t_10) → KE Tryd.prog 25 (Ret (fun v w' => ∃ x1, v = x1 ∧ SlR strC A0 w' x1 r ∧ Below w0.heap.size w0 w')) 40 [.code (sub (bodyOf Tryd.f25) [2, 2, 1, 2, 2, 1]), .inLoop (sub (bodyOf Tryd.f25) [2, 2, 1, 2, 2, 1]), .inBlock 0, .code (sub (bodyOf Tryd.f25) [2, 2, 2])] [(0, va_0), (1, vb_1), (5, vout_5), (10, vt_10), (11, .int .i64 t_11), (12, .int .i64 t_12)] w := by
  intro n
  induction n with
  | zero => intro r a_0 b_1 out_5 t_10 t_11 t_12 va_0 vb_1 vout_5 vt_10 hS; cases hS
  | succ n ih =>
    have hr0 : ∀ {r : List Str} {a_0 : List Str} {b_1 : List Str} {out_5 : List Str} {t_10 : List Str} {t_11 : Int} {t_12 : Int} {va_0 : Value} {vb_1 : Value} {vout_5 : Value} {vt_10 : Value}, scope_Common_L1 n a_0 b_1 out_5 t_10 t_11 t_12 = some r → ∀ {w : World} {A : Nat → Prop}, (Below w0.heap.size w0 w) → (∀ b, A b → b < w.heap.size) → (∀ b, A0 b → A b) → (Hp A w0.heap.size w []) → (SlR strC A w va_0 a_0) → (SlR strC A w vb_1 b_1) → (OwnS strC 9 A w0.heap.size w vout_5 out_5) → (Dj vout_5 []) → (SlR strC A w vt_10 t_10) → KE Tryd.prog 25 (Ret (fun v w' => ∃ x1, v = x1 ∧ SlR strC A0 w' x1 r ∧ Below w0.heap.size w0 w')) 40 [.inLoop (sub (bodyOf Tryd.f25) [2, 2, 1, 2, 2, 1]), .inBlock 0, .code (sub (bodyOf Tryd.f25) [2, 2, 2])] [(0, va_0), (1, vb_1), (5, vout_5), (10, vt_10), (11, .int .i64 t_11), (12, .int .i64 t_12)] w := fun {r} {a_0} {b_1} {out_5} {t_10} {t_11} {t_12} {va_0} {vb_1} {vout_5} {vt_10} hS {w} {A} hb hA hi hH ha_0 hb_1 hout_5 dout_5 ht_10 => ke_inLoop (ih hS hb hA hi hH ha_0 hb_1 hout_5 dout_5 ht_10)
    clear ih
    intro r a_0 b_1 out_5 t_10 t_11 t_12 va_0 vb_1 vout_5 vt_10 hS w A hb hA hi hH ha_0 hb_1 hout_5 dout_5 ht_10
    unfold scope_Common_L1 at hS
    refine ke_seq ?_
    refine ke_region ?_
    refine sr_ev (v := .bool (decide (t_12 < t_11))) (ev_lt rfl rfl) (by decide) ?_
    refine sr_end (l' := [(0, va_0), (1, vb_1), (5, vout_5), (10, vt_10), (11, .int .i64 t_11), (12, .int .i64 t_12), (13, .bool (decide (t_12 < t_11)))]) (.cons rfl (.cons rfl (.cons rfl (.cons rfl (.cons rfl (.cons rfl (.cons rfl (.nil _)))))))) ?_
    refine ke_seq ?_
    refine ke_cond (t := decide (t_12 < t_11)) rfl (fun hc9 => ?_) (fun hc9 => ?_)
    · replace hS := ite_true' hS hc9
      refine ke_skip ?_
      refine ke_seq ?_
      refine ke_block ?_
      refine ke_seq ?_
      refine ke_region ?_
      obtain ⟨y10, hy11, hS⟩ := bind_some' hS
      refine sr_index ht_10 Tryd.underlying22 Tryd.info9 rfl rfl rfl hy11 (by decide) ?_
      intro b12 o13 cs15 he14
      obtain rfl : cs15 = [str y10] := he14.rd
      refine sr_ev (v := str y10) (ev_load Tryd.isAgg9 rfl (he14.cell 0 _ rfl)) (by decide) ?_
      refine sr_ev (v := str y10) (ev_assign rfl) (by decide) ?_
      refine sr_end (l' := [(0, va_0), (1, vb_1), (5, vout_5), (7, str y10), (10, vt_10), (11, .int .i64 t_11), (12, .int .i64 t_12)]) (.cons rfl (.cons rfl (.cons rfl (.cons rfl (.cons rfl (.cons rfl (.cons rfl (.nil _)))))))) ?_
      refine ke_seq ?_
      refine ke_region ?_
      refine sr_ev (v := str y10) (ev_move rfl) (by decide) ?_
      refine sr_ev (v := vb_1) (ev_move rfl) (by decide) ?_
      obtain ⟨y16, hy17, hS⟩ := bind_some' hS
      refine sr_call (vs := [str y10, vb_1]) rfl Tryd.call38 rfl (scope_covered_ok _ (hg.below hb) hb_1 hy17) (by decide) ?_
      rintro _ w18 ⟨rfl, hbw19⟩
      replace hb := hb.trans (hbw19.mono hb.size)
      replace hA := lt_mono hA hbw19.size
      replace hH := hH.below hbw19
      replace ha_0 := ha_0.below hbw19
      replace hb_1 := hb_1.below hbw19
      replace hout_5 := hout_5.below hbw19
      replace ht_10 := ht_10.below hbw19
      refine sr_end (l' := [(0, va_0), (1, vb_1), (5, vout_5), (7, str y10), (10, vt_10), (11, .int .i64 t_11), (12, .int .i64 t_12), (18, .bool y16)]) (.cons rfl (.cons rfl (.cons rfl (.cons rfl (.cons rfl (.cons rfl (.cons rfl (.cons rfl (.nil _))))))))) ?_
      refine ke_cond (t := y16) rfl (fun hc20 => ?_) (fun hc20 => ?_)
      · replace hS := ite_true' hS hc20
        refine ke_region ?_
        refine sr_ev (v := vout_5) (ev_move rfl) (by decide) ?_
        refine sr_ev (v := str y10) (ev_move rfl) (by decide) ?_
        refine sr_lit (c := strC) (A := A) (E := 9) (xs := [y10]) (vs := #[(0, str y10)]) (cs := #[str y10]) (css := [[str y10]]) rfl (fun _ => by kernel_rfl) rfl ⟨rfl, trivial⟩ rfl (by decide) hA (by decide) ?_
        intro v21 w23 h22 hbw24
        replace hb := hb.trans (hbw24.mono hb.size)
        replace hA := lt_mono hA hbw24.size
        replace hH := hH.below hbw24
        replace ha_0 := ha_0.below hbw24
        replace hb_1 := hb_1.below hbw24
        replace ht_10 := ht_10.below hbw24
        replace hout_5 := hout_5.below hbw24
        obtain ⟨hk25, hS⟩ := chk_some hS
        refine sr_append (c := strC) (A := A) (B := w0.heap.size) (E := 9) (xs := out_5) (ys := ([y10] : List Str)) hout_5 h22 Tryd.underlying22 Tryd.info9 rfl rfl rfl (by decide) (by decide) hA hb.size hk25 rfl rfl (by decide) ?_
        intro v26 A28 w29 h27 hst30 hbB31 hinc32 hA1 hoth33 hold
        have dj34 : Dj v26 [] := fun p hp e => by rcases hold _ e with h | h; exact dout_5 p hp h; have := hH.lt hp; omega
        replace hb := hb.trans hbB31
        replace hi := fun b hb => hinc32 b (hi b hb)
        replace hH := hH.keep hinc32 (fun p hp => hoth33 _ (hH.lt hp) (dout_5 p hp))
        replace hA := hA1
        clear hA1
        replace ha_0 := ha_0.step hst30
        replace hb_1 := hb_1.step hst30
        replace ht_10 := ht_10.step hst30
        refine sr_ev (v := v26) (ev_assign rfl) (by decide) ?_
        refine sr_end (l' := [(0, va_0), (1, vb_1), (5, v26), (10, vt_10), (11, .int .i64 t_11), (12, .int .i64 t_12)]) (.cons rfl (.cons rfl (.cons rfl (.cons rfl (.cons rfl (.cons rfl (.nil _))))))) ?_
        have hK := scope_Common_B2_ok hg hA0 _ hr0 hS hb hA hi hH ha_0 hb_1 h27 dj34 ht_10
        exact ke_weaken (l' := [(0, va_0), (1, vb_1), (5, v26), (10, vt_10), (11, .int .i64 t_11), (12, .int .i64 t_12)]) (.cons rfl (.cons rfl (.cons rfl (.cons rfl (.cons rfl (.cons rfl (.nil _))))))) hK
      · replace hS := ite_false' hS hc20
        refine ke_skip ?_
        have hK := scope_Common_B2_ok hg hA0 _ hr0 hS hb hA hi hH ha_0 hb_1 hout_5 dout_5 ht_10
        exact ke_weaken (l' := [(0, va_0), (1, vb_1), (5, vout_5), (10, vt_10), (11, .int .i64 t_11), (12, .int .i64 t_12)]) (.cons rfl (.cons rfl (.cons rfl (.cons rfl (.cons rfl (.cons rfl (.nil _))))))) hK
    · replace hS := ite_false' hS hc9
      refine ke_exit (k' := _) rfl ?_
      refine ke_seq ?_
      refine ke_seq ?_
      refine ke_region ?_
      refine sr_ev (v := vb_1) (ev_move rfl) (by decide) ?_
      refine sr_ev (v := .int .i64 (b_1.length : Int)) (ev_sllen Tryd.underlying22 rfl hb_1) (by decide) ?_
      refine sr_ev (v := .int .i64 0) (ev_move rfl) (by decide) ?_
      refine sr_end (l' := [(0, va_0), (5, vout_5), (24, vb_1), (25, .int .i64 (b_1.length : Int)), (26, .int .i64 0)]) (.cons rfl (.cons rfl (.cons rfl (.cons rfl (.cons rfl (.nil _)))))) ?_
      refine ke_block ?_
      have hK := scope_Common_L3_ok hg hA0 _ hr0 _ hS hb hA hi hH ha_0 hout_5 dout_5 hb_1
      exact ke_weaken (l' := [(0, va_0), (5, vout_5), (24, vb_1), (25, .int .i64 (b_1.length : Int)), (26, .int .i64 0)]) (.cons rfl (.cons rfl (.cons rfl (.cons rfl (.cons rfl (.nil _)))))) (ke_loop hK)
theorem scope_Common_ok {A0 : Nat → Prop} (w0 : World) (hg : Gs w0) {a_0 : List Str} {b_1 : List Str} {v1 : Value} {v3 : Value} {r : List Str} (h2 : SlR strC A0 w0 v1 a_0) (h4 : SlR strC A0 w0 v3 b_1) (hA0 : ∀ b, A0 b → b < w0.heap.size) (hS : scope_Common a_0 b_1 = some r) :
    Calls Tryd.prog 25 #[v1, v3] w0 (Ret (fun v w' => ∃ x1, v = x1 ∧ SlR strC A0 w' x1 r ∧ Below w0.heap.size w0 w')) := by
  unfold scope_Common at hS
  have hb := Below.refl w0.heap.size w0
  have hA := hA0
  have hi : ∀ b, A0 b → A0 b := fun _ h => h
  have hH := Hp.nil A0 w0.heap.size w0
  refine calls_of_ke Tryd.func25 rfl (n := 40) rfl rfl (l := [(0, v1), (1, v3)]) rfl ?_
  refine ke_seq ?_
  refine ke_region ?_
  refine sr_ev (v := .slice none 0 0) (ev_assign rfl) (by decide) ?_
  refine sr_end (l' := [(0, v1), (1, v3)]) (.cons rfl (.cons rfl (.nil _))) ?_
  refine ke_seq ?_
  refine ke_region ?_
  refine sr_ev (v := .slice none 0 0) (ev_assign rfl) (by decide) ?_
  refine sr_end (l' := [(0, v1), (1, v3), (5, .slice none 0 0)]) (.cons rfl (.cons rfl (.cons rfl (.nil _)))) ?_
  refine ke_seq ?_
  refine ke_seq ?_
  refine ke_region ?_
  refine sr_ev (v := v1) (ev_move rfl) (by decide) ?_
  refine sr_ev (v := .int .i64 (a_0.length : Int)) (ev_sllen Tryd.underlying22 rfl h2) (by decide) ?_
  refine sr_ev (v := .int .i64 0) (ev_move rfl) (by decide) ?_
  refine sr_end (l' := [(0, v1), (1, v3), (5, .slice none 0 0), (10, v1), (11, .int .i64 (a_0.length : Int)), (12, .int .i64 0)]) (.cons rfl (.cons rfl (.cons rfl (.cons rfl (.cons rfl (.cons rfl (.nil _))))))) ?_
  refine ke_block ?_
  have hK := scope_Common_L1_ok hg hA0 _ hS hb hA hi hH h2 h4 OwnS.nil (Dj.nil _) h2
  exact ke_weaken (l' := [(0, v1), (1, v3), (5, (.slice none 0 0)), (10, v1), (11, .int .i64 (a_0.length : Int)), (12, .int .i64 0)]) (.cons rfl (.cons rfl (.cons rfl (.cons rfl (.cons rfl (.cons rfl (.nil _))))))) (ke_loop hK)
theorem scope_Minus_B2_ok {w0 : World} (hg : Gs w0) {A0 : Nat → Prop} (hA0 : ∀ b, A0 b → b < w0.heap.size) (r0 : List Str → List Str → List Str → Int → Int → Option (List Str))
    (hr0 : ∀ {r : List Str} {b_1 : List Str} {out_5 : List Str} {t_8 : List Str} {t_9 : Int} {t_10 : Int} {vb_1 : Value} {vout_5 : Value} {vt_8 : Value}, r0 b_1 out_5 t_8 t_9 t_10 = some r → ∀ {w : World} {A : Nat → Prop}, (Below w0.heap.size w0 w) → (∀ b, A b → b < w.heap.size) → (∀ b, A0 b → A b) → (Hp A w0.heap.size w []) → (SlR strC A w vb_1 b_1) → (OwnS strC 9 A w0.heap.size w vout_5 out_5) → (Dj vout_5 []) → (SlR strC A w vt_8 t_8) → KE Tryd.prog 27 (Ret (fun v w' => ∃ x1, v = x1 ∧ SlR strC A0 w' x1 r ∧ Below w0.heap.size w0 w')) 25 [.inLoop (sub (bodyOf Tryd.f27) [2, 2, 1, 2, 2, 1]), .inBlock 0, .code (sub (bodyOf Tryd.f27) [2, 2, 2])] [(1, vb_1), (5, vout_5), (8, vt_8), (9, .int .i64 t_9), (10, .int .i64 t_10)] w) {r : List Str} {b_1 : List Str} {out_5 : List Str} {t_8 : List Str} {t_9 : Int} {t_10 : Int} {vb_1 : Value} {vout_5 : Value} {vt_8 : Value} (hS : scope_Minus_B2 r0 b_1 out_5 t_8 t_9 t_10 = some r) {w : World} {A : Nat → Prop} (hb : Below w0.heap.size w0 w) (hA : ∀ b, A b → b < w.heap.size) (hi : ∀ b, A0 b → A b) (hH : Hp A w0.heap.size w []) (hb_1 : SlR strC A w vb_1 b_1) (hout_5 : OwnS strC 9 A w0.heap.size w vout_5 out_5) (dout_5 : Dj vout_5 []) (ht_8 : SlR strC A w vt_8 t_8) :
    KE Tryd.prog 27 (Ret (fun v w' => ∃ x1, v = x1 ∧ SlR strC A0 w' x1 r ∧ Below w0.heap.size w0 w')) 25 [.inBlock 1, .code (sub (bodyOf Tryd.f27) [2, 2, 1, 2, 2, 1, 2, 2, 2]), .inLoop (sub (bodyOf Tryd.f27) [2, 2, 1, 2, 2, 1]), .inBlock 0, .code (sub (bodyOf Tryd.f27) [2, 2, 2])] [(1, vb_1), (5, vout_5), (8, vt_8), (9, .int .i64 t_9), (10, .int .i64 t_10)] w := by
  unfold scope_Minus_B2 at hS
  refine ke_inBlock ?_
  refine ke_region ?_
  refine sr_ev (v := .int .i64 (IntKind.i64.wrap (t_10 + 1))) (ev_add rfl rfl) (by decide) ?_
  refine sr_ev (v := .int .i64 (IntKind.i64.wrap (t_10 + 1))) (ev_move rfl) (by decide) ?_
  refine sr_end (l' := [(1, vb_1), (5, vout_5), (8, vt_8), (9, .int .i64 t_9), (10, .int .i64 (IntKind.i64.wrap (t_10 + 1)))]) (.cons rfl (.cons rfl (.cons rfl (.cons rfl (.cons rfl (.nil _)))))) ?_
  have hK := hr0 hS hb hA hi hH hb_1 hout_5 dout_5 ht_8
  exact ke_weaken (l' := [(1, vb_1), (5, vout_5), (8, vt_8), (9, .int .i64 t_9), (10, .int .i64 (IntKind.i64.wrap (t_10 + 1)))]) (.cons rfl (.cons rfl (.cons rfl (.cons rfl (.cons rfl (.nil _)))))) hK
theorem scope_Minus_L1_ok {w0 : World} (hg : Gs w0) {A0 : Nat → Prop} (hA0 : ∀ b, A0 b → b < w0.heap.size) : ∀ (n : Nat), ∀ {r : List Str} {b_1 : List Str} {out_5 : List Str} {t_8 : List Str} {t_9 : Int} {t_10 : Int} {vb_1 : Value} {vout_5 : Value} {vt_8 : Value}, scope_Minus_L1 n b_1 out_5 t_8 t_9 t_10 = some r → ∀ {w : World} {A : Nat → Prop}, (Below w0.heap.size w0 w) → (∀ b, A b → b < w.heap.size) → (∀ b, A0 b → A b) → (Hp A w0.heap.size w []) → (SlR strC A w vb_1 b_1) → (OwnS strC 9 A w0.heap.size w vout_5 out_5) → (Dj vout_5 []) → (SlR strC A w vt_8 t_8) → KE Tryd.prog 27 (Ret (fun v w' => ∃ x1, v = x1 ∧ SlR strC A0 w' x1 r ∧ Below w0.heap.size w0 w')) 25 [.code (sub (bodyOf Tryd.f27) [2, 2, 1, 2, 2, 1]), .inLoop (sub (bodyOf Tryd.f27) [2, 2, 1, 2, 2, 1]), .inBlock 0, .code (sub (bodyOf Tryd.f27) [2, 2, 2])] [(1, vb_1), (5, vout_5), (8, vt_8), (9, .int .i64 t_9), (10, .int .i64 t_10)] w := by
  intro n
  induction n with
  | zero => intro r b_1 out_5 t_8 t_9 t_10 vb_1 vout_5 vt_8 hS; cases hS
  | succ n ih =>
    have hr0 : ∀ {r : List Str} {b_1 : List Str} {out_5 : List Str} {t_8 : List Str} {t_9 : Int} {t_10 : Int} {vb_1 : Value} {vout_5 : Value} {vt_8 : Value}, scope_Minus_L1 n b_1 out_5 t_8 t_9 t_10 = some r → ∀ {w : World} {A : Nat → Prop}, (Below w0.heap.size w0 w) → (∀ b, A b → b < w.heap.size) → (∀ b, A0 b → A b) → (Hp A w0.heap.size w []) → (SlR strC A w vb_1 b_1) → (OwnS strC 9 A w0.heap.size w vout_5 out_5) → (Dj vout_5 []) → (SlR strC A w vt_8 t_8) → KE Tryd.prog 27 (Ret (fun v w' => ∃ x1, v = x1 ∧ SlR strC A0 w' x1 r ∧ Below w0.heap.size w0 w')) 25 [.inLoop (sub (bodyOf Tryd.f27) [2, 2, 1, 2, 2, 1]), .inBlock 0, .code (sub (bodyOf Tryd.f27) [2, 2, 2])] [(1, vb_1), (5, vout_5), (8, vt_8), (9, .int .i64 t_9), (10, .int .i64 t_10)] w := fun {r} {b_1} {out_5} {t_8} {t_9} {t_10} {vb_1} {vout_5} {vt_8} hS {w} {A} hb hA hi hH hb_1 hout_5 dout_5 ht_8 => ke_inLoop (ih hS hb hA hi hH hb_1 hout_5 dout_5 ht_8)
    clear ih
    intro r b_1 out_5 t_8 t_9 t_10 vb_1 vout_5 vt_8 hS w A hb hA hi hH hb_1 hout_5 dout_5 ht_8
    unfold scope_Minus_L1 at hS
    refine ke_seq ?_
    refine ke_region ?_
    refine sr_ev (v := .bool (decide (t_10 < t_9))) (ev_lt rfl rfl) (by decide) ?_
    refine sr_end (l' := [(1, vb_1), (5, vout_5), (8, vt_8), (9, .int .i64 t_9), (10, .int .i64 t_10), (11, .bool (decide (t_10 < t_9)))]) (.cons rfl (.cons rfl (.cons rfl (.cons rfl (.cons rfl (.cons rfl (.nil _))))))) ?_
    refine ke_seq ?_
    refine ke_cond (t := decide (t_10 < t_9)) rfl (fun hc9 => ?_) (fun hc9 => ?_)
    · replace hS := ite_true' hS hc9
      refine ke_skip ?_
      refine ke_seq ?_
      refine ke_block ?_
      refine ke_seq ?_
      refine ke_region ?_
      obtain ⟨y10, hy11, hS⟩ := bind_some' hS
      refine sr_index ht_8 Tryd.underlying22 Tryd.info9 rfl rfl rfl hy11 (by decide) ?_
      intro b12 o13 cs15 he14
      obtain rfl : cs15 = [str y10] := he14.rd
      refine sr_ev (v := str y10) (ev_load Tryd.isAgg9 rfl (he14.cell 0 _ rfl)) (by decide) ?_
      refine sr_ev (v := str y10) (ev_assign rfl) (by decide) ?_
      refine sr_end (l' := [(1, vb_1), (5, vout_5), (7, str y10), (8, vt_8), (9, .int .i64 t_9), (10, .int .i64 t_10)]) (.cons rfl (.cons rfl (.cons rfl (.cons rfl (.cons rfl (.cons rfl (.nil _))))))) ?_
      refine ke_seq ?_
      refine ke_region ?_
      refine sr_ev (v := str y10) (ev_move rfl) (by decide) ?_
      refine sr_ev (v := vb_1) (ev_move rfl) (by decide) ?_
      obtain ⟨y16, hy17, hS⟩ := bind_some' hS
      refine sr_call (vs := [str y10, vb_1]) rfl Tryd.call38 rfl (scope_covered_ok _ (hg.below hb) hb_1 hy17) (by decide) ?_
      rintro _ w18 ⟨rfl, hbw19⟩
      replace hb := hb.trans (hbw19.mono hb.size)
      replace hA := lt_mono hA hbw19.size
      replace hH := hH.below hbw19
      replace hb_1 := hb_1.below hbw19
      replace hout_5 := hout_5.below hbw19
      replace ht_8 := ht_8.below hbw19
      refine sr_ev (v := .bool (!y16)) (ev_not rfl) (by decide) ?_
      refine sr_end (l' := [(1, vb_1), (5, vout_5), (7, str y10), (8, vt_8), (9, .int .i64 t_9), (10, .int .i64 t_10), (17, .bool (!y16))]) (.cons rfl (.cons rfl (.cons rfl (.cons rfl (.cons rfl (.cons rfl (.cons rfl (.nil _)))))))) ?_
      refine ke_cond (t := !y16) rfl (fun hc20 => ?_) (fun hc20 => ?_)
      · replace hS := ite_true' hS hc20
        refine ke_region ?_
        refine sr_ev (v := vout_5) (ev_move rfl) (by decide) ?_
        refine sr_ev (v := str y10) (ev_move rfl) (by decide) ?_
        refine sr_lit (c := strC) (A := A) (E := 9) (xs := [y10]) (vs := #[(0, str y10)]) (cs := #[str y10]) (css := [[str y10]]) rfl (fun _ => by kernel_rfl) rfl ⟨rfl, trivial⟩ rfl (by decide) hA (by decide) ?_
        intro v21 w23 h22 hbw24
        replace hb := hb.trans (hbw24.mono hb.size)
        replace hA := lt_mono hA hbw24.size
        replace hH := hH.below hbw24
        replace hb_1 := hb_1.below hbw24
        replace ht_8 := ht_8.below hbw24
        replace hout_5 := hout_5.below hbw24
        obtain ⟨hk25, hS⟩ := chk_some hS
        refine sr_append (c := strC) (A := A) (B := w0.heap.size) (E := 9) (xs := out_5) (ys := ([y10] : List Str)) hout_5 h22 Tryd.underlying22 Tryd.info9 rfl rfl rfl (by decide) (by decide) hA hb.size hk25 rfl rfl (by decide) ?_
        intro v26 A28 w29 h27 hst30 hbB31 hinc32 hA1 hoth33 hold
        have dj34 : Dj v26 [] := fun p hp e => by rcases hold _ e with h | h; exact dout_5 p hp h; have := hH.lt hp; omega
        replace hb := hb.trans hbB31
        replace hi := fun b hb => hinc32 b (hi b hb)
        replace hH := hH.keep hinc32 (fun p hp => hoth33 _ (hH.lt hp) (dout_5 p hp))
        replace hA := hA1
        clear hA1
        replace hb_1 := hb_1.step hst30
        replace ht_8 := ht_8.step hst30
        refine sr_ev (v := v26) (ev_assign rfl) (by decide) ?_
        refine sr_end (l' := [(1, vb_1), (5, v26), (8, vt_8), (9, .int .i64 t_9), (10, .int .i64 t_10)]) (.cons rfl (.cons rfl (.cons rfl (.cons rfl (.cons rfl (.nil _)))))) ?_
        have hK := scope_Minus_B2_ok hg hA0 _ hr0 hS hb hA hi hH hb_1 h27 dj34 ht_8
        exact ke_weaken (l' := [(1, vb_1), (5, v26), (8, vt_8), (9, .int .i64 t_9), (10, .int .i64 t_10)]) (.cons rfl (.cons rfl (.cons rfl (.cons rfl (.cons rfl (.nil _)))))) hK
      · replace hS := ite_false' hS hc20
        refine ke_skip ?_
        have hK := scope_Minus_B2_ok hg hA0 _ hr0 hS hb hA hi hH hb_1 hout_5 dout_5 ht_8
        exact ke_weaken (l' := [(1, vb_1), (5, vout_5), (8, vt_8), (9, .int .i64 t_9), (10, .int .i64 t_10)]) (.cons rfl (.cons rfl (.cons rfl (.cons rfl (.cons rfl (.nil _)))))) hK
    · replace hS := ite_false' hS hc9
      refine ke_exit (k' := _) rfl ?_
      refine ke_seq ?_
      refine ke_region ?_
      refine sr_ev (v := vout_5) (ev_move rfl) (by decide) ?_
      replace hout_5 := hout_5.toSl (fun b hb => ⟨hi b hb, hA0 b hb⟩)
      replace hH := Hp.nil A0 w0.heap.size w
      replace hA := lt_mono hA0 hb.size
      replace hi : ∀ b, A0 b → A0 b := fun _ h => h
      obtain ⟨y37, hy38, hS⟩ := bind_some' hS
      refine sr_call (vs := [vout_5]) rfl Tryd.call19 rfl (scope_Sorted_ok _ (hg.below hb) hout_5 hA hy38) (by decide) ?_
      rintro v41 w39 ⟨_, rfl, h42, hbw40⟩
      replace hb := hb.trans (hbw40.mono hb.size)
      replace hA := lt_mono hA hbw40.size
      replace hH := hH.below hbw40
      refine sr_ev (v := v41) (ev_assign rfl) (by decide) ?_
      refine sr_end (l' := [(4, v41)]) (.cons rfl (.nil _)) ?_
      cases hS
      exact ke_ret1 Tryd.func27 rfl rfl ⟨_, rfl, _, rfl, h42.weak hi, hb⟩
theorem scope_Minus_ok {A0 : Nat → Prop} (w0 : World) (hg : Gs w0) {a_0 : List Str} {b_1 : List Str} {v1 : Value} {v3 : Value} {r : List Str} (h2 : SlR strC A0 w0 v1 a_0) (h4 : SlR strC A0 w0 v3 b_1) (hA0 : ∀ b, A0 b → b < w0.heap.size) (hS : scope_Minus a_0 b_1 = some r) :
    Calls Tryd.prog 27 #[v1, v3] w0 (Ret (fun v w' => ∃ x1, v = x1 ∧ SlR strC A0 w' x1 r ∧ Below w0.heap.size w0 w')) := by
  unfold scope_Minus at hS
  have hb := Below.refl w0.heap.size w0
  have hA := hA0
  have hi : ∀ b, A0 b → A0 b := fun _ h => h
  have hH := Hp.nil A0 w0.heap.size w0
  refine calls_of_ke Tryd.func27 rfl (n := 25) rfl rfl (l := [(0, v1), (1, v3)]) rfl ?_
  refine ke_seq ?_
  refine ke_region ?_
  refine sr_ev (v := .slice none 0 0) (ev_assign rfl) (by decide) ?_
  refine sr_end (l' := [(0, v1), (1, v3)]) (.cons rfl (.cons rfl (.nil _))) ?_
  refine ke_seq ?_
  refine ke_region ?_
  refine sr_ev (v := .slice none 0 0) (ev_assign rfl) (by decide) ?_
  refine sr_end (l' := [(0, v1), (1, v3), (5, .slice none 0 0)]) (.cons rfl (.cons rfl (.cons rfl (.nil _)))) ?_
  refine ke_seq ?_
  refine ke_seq ?_
  refine ke_region ?_
  refine sr_ev (v := v1) (ev_move rfl) (by decide) ?_
  refine sr_ev (v := .int .i64 (a_0.length : Int)) (ev_sllen Tryd.underlying22 rfl h2) (by decide) ?_
  refine sr_ev (v := .int .i64 0) (ev_move rfl) (by decide) ?_
  refine sr_end (l' := [(1, v3), (5, .slice none 0 0), (8, v1), (9, .int .i64 (a_0.length : Int)), (10, .int .i64 0)]) (.cons rfl (.cons rfl (.cons rfl (.cons rfl (.cons rfl (.nil _)))))) ?_
  refine ke_block ?_
  have hK := scope_Minus_L1_ok hg hA0 _ hS hb hA hi hH h4 OwnS.nil (Dj.nil _) h2
  exact ke_weaken (l' := [(1, v3), (5, (.slice none 0 0)), (8, v1), (9, .int .i64 (a_0.length : Int)), (10, .int .i64 0)]) (.cons rfl (.cons rfl (.cons rfl (.cons rfl (.cons rfl (.nil _)))))) (ke_loop hK)
theorem law29_awake_ok (w0 : World) (hg : Gs w0) {r : Bool} (hS : law29_awake = some r) :
    Calls Tryd.prog 11 #[] w0 (Ret (fun v w' => v = .bool r ∧ Below w0.heap.size w0 w')) := by
  unfold law29_awake at hS
  have hb := Below.refl w0.heap.size w0
  obtain ⟨A0, hA0, hAe⟩ : ∃ A0 : Nat → Prop, (∀ b, A0 b → b < w0.heap.size) ∧ A0 = fun _ => False := ⟨_, fun _ h => h.elim, rfl⟩
  clear hAe
  have hA := hA0
  have hi : ∀ b, A0 b → A0 b := fun _ h => h
  have hH := Hp.nil A0 w0.heap.size w0
  refine calls_of_ke Tryd.func11 rfl (n := 82) rfl rfl (l := []) rfl ?_
  refine ke_seq ?_
  refine ke_region ?_
  refine sr_ev (v := .bool false) (ev_assign rfl) (by decide) ?_
  refine sr_end (l' := []) (.nil _) ?_
  refine ke_seq ?_
  refine ke_region ?_
  obtain ⟨y1, hy2, hS⟩ := bind_some' hS
  refine sr_call (vs := [str ([97, 32, 98, 46, 99])]) rfl Tryd.call14 rfl (scope_Parse_ok _ (hg.below hb) hA hy2) (by decide) ?_
  rintro _ w3 ⟨v5, rfl, h6, hbw4⟩
  replace hb := hb.trans (hbw4.mono hb.size)
  replace hA := lt_mono hA hbw4.size
  replace hH := hH.below hbw4
  refine sr_ev (v := .tuple #[v5, .int .i64 y1.2]) (ev_move rfl) (by decide) ?_
  refine sr_ev (v := v5) (ev_extract rfl rfl) (by decide) ?_
  refine sr_ev (v := .int .i64 y1.2) (ev_extract rfl rfl) (by decide) ?_
  refine sr_ev (v := v5) (ev_assign rfl) (by decide) ?_
  refine sr_ev (v := .int .i64 y1.2) (ev_assign rfl) (by decide) ?_
  refine sr_end (l' := [(1, v5), (2, .int .i64 y1.2)]) (.cons rfl (.cons rfl (.nil _))) ?_
  refine ke_seq ?_
  refine ke_region ?_
  obtain ⟨y7, hy8, hS⟩ := bind_some' hS
  refine sr_call (vs := [str ([32, 97])]) rfl Tryd.call14 rfl (scope_Parse_ok _ (hg.below hb) hA hy8) (by decide) ?_
  rintro _ w9 ⟨v11, rfl, h12, hbw10⟩
  replace hb := hb.trans (hbw10.mono hb.size)
  replace hA := lt_mono hA hbw10.size
  replace hH := hH.below hbw10
  replace h6 := h6.below hbw10
  refine sr_ev (v := .tuple #[v11, .int .i64 y7.2]) (ev_move rfl) (by decide) ?_
  refine sr_ev (v := v11) (ev_extract rfl rfl) (by decide) ?_
  refine sr_ev (v := .int .i64 y7.2) (ev_extract rfl rfl) (by decide) ?_
  refine sr_ev (v := v11) (ev_assign rfl) (by decide) ?_
  refine sr_ev (v := .int .i64 y7.2) (ev_assign rfl) (by decide) ?_
  refine sr_end (l' := [(1, v5), (2, .int .i64 y1.2), (4, .int .i64 y7.2)]) (.cons rfl (.cons rfl (.cons rfl (.nil _)))) ?_
  refine ke_seq ?_
  refine ke_region ?_
  refine sr_ev (v := v5) (ev_move rfl) (by decide) ?_
  obtain ⟨y13, hy14, hS⟩ := bind_some' hS
  refine sr_call (vs := [v5]) rfl Tryd.call12 rfl (scope_Text_ok _ (hg.below hb) h6 hy14) (by decide) ?_
  rintro _ w15 ⟨rfl, hbw16⟩
  replace hb := hb.trans (hbw16.mono hb.size)
  replace hA := lt_mono hA hbw16.size
  replace hH := hH.below hbw16
  refine sr_ev (v := .tuple #[str y13.1, .int .i64 y13.2]) (ev_move rfl) (by decide) ?_
  refine sr_ev (v := str y13.1) (ev_extract rfl rfl) (by decide) ?_
  refine sr_ev (v := .int .i64 y13.2) (ev_extract rfl rfl) (by decide) ?_
  refine sr_ev (v := str y13.1) (ev_assign rfl) (by decide) ?_
  refine sr_ev (v := .int .i64 y13.2) (ev_assign rfl) (by decide) ?_
  refine sr_end (l' := [(2, .int .i64 y1.2), (4, .int .i64 y7.2), (5, str y13.1), (6, .int .i64 y13.2)]) (.cons rfl (.cons rfl (.cons rfl (.cons rfl (.nil _))))) ?_
  refine ke_seq ?_
  refine ke_region ?_
  refine sr_lit (c := strC) (A := A0) (E := 9) (xs := [[109, 97, 105, 108], [102, 105, 108, 101, 115, 46, 120]]) (vs := #[(0, str ([109, 97, 105, 108])), (1, str ([102, 105, 108, 101, 115, 46, 120]))]) (cs := #[str ([109, 97, 105, 108]), str ([102, 105, 108, 101, 115, 46, 120])]) (css := [[str ([109, 97, 105, 108])], [str ([102, 105, 108, 101, 115, 46, 120])]]) rfl (fun _ => by kernel_rfl) rfl ⟨rfl, ⟨rfl, trivial⟩⟩ rfl (by decide) hA (by decide) ?_
  intro v17 w19 h18 hbw20
  replace hb := hb.trans (hbw20.mono hb.size)
  replace hA := lt_mono hA hbw20.size
  replace hH := hH.below hbw20
  refine sr_lit (c := strC) (A := A0) (E := 9) (xs := [[109, 97, 105, 108, 46, 114, 101, 97, 100], [102, 105, 108, 101, 115]]) (vs := #[(0, str ([109, 97, 105, 108, 46, 114, 101, 97, 100])), (1, str ([102, 105, 108, 101, 115]))]) (cs := #[str ([109, 97, 105, 108, 46, 114, 101, 97, 100]), str ([102, 105, 108, 101, 115])]) (css := [[str ([109, 97, 105, 108, 46, 114, 101, 97, 100])], [str ([102, 105, 108, 101, 115])]]) rfl (fun _ => by kernel_rfl) rfl ⟨rfl, ⟨rfl, trivial⟩⟩ rfl (by decide) hA (by decide) ?_
  intro v21 w23 h22 hbw24
  replace hb := hb.trans (hbw24.mono hb.size)
  replace hA := lt_mono hA hbw24.size
  replace hH := hH.below hbw24
  replace h18 := h18.below hbw24
  refine sr_ev (v := v17) (ev_assign rfl) (by decide) ?_
  refine sr_ev (v := v21) (ev_assign rfl) (by decide) ?_
  refine sr_end (l' := [(2, .int .i64 y1.2), (4, .int .i64 y7.2), (5, str y13.1), (6, .int .i64 y13.2), (7, v17), (8, v21)]) (.cons rfl (.cons rfl (.cons rfl (.cons rfl (.cons rfl (.cons rfl (.nil _))))))) ?_
  refine ke_seq ?_
  refine ke_seq ?_
  refine ke_region ?_
  refine sr_ev (v := .int .i64 y1.2) (ev_move rfl) (by decide) ?_
  refine sr_ev (v := .bool (y1.2 != 0)) (ev_ne rfl rfl) (by decide) ?_
  refine sr_ev (v := .bool (y1.2 != 0)) (ev_move rfl) (by decide) ?_
  refine sr_join (m := 3) (C := fun (x : Bool) w1 => x = ((y1.2 != 0) || (y7.2 != 5)) ∧ w23 = w1) (l' := fun x => [(5, str y13.1), (6, .int .i64 y13.2), (7, v17), (8, v21), (29, .bool x)]) ?_ ?_
  · rintro _ _ ⟨rfl, rfl⟩
    refine sr_ev (v := .bool ((y1.2 != 0) || (y7.2 != 5))) (ev_move rfl) (by decide) ?_
    refine sr_join (m := 3) (C := fun (x : Bool) w1 => x = (((y1.2 != 0) || (y7.2 != 5)) || (y13.2 != 0)) ∧ w23 = w1) (l' := fun x => [(5, str y13.1), (7, v17), (8, v21), (33, .bool x)]) ?_ ?_
    · rintro _ _ ⟨rfl, rfl⟩
      refine sr_ev (v := .bool (((y1.2 != 0) || (y7.2 != 5)) || (y13.2 != 0))) (ev_move rfl) (by decide) ?_
      refine sr_join (m := 3) (C := fun (x : Bool) w1 => x = ((((y1.2 != 0) || (y7.2 != 5)) || (y13.2 != 0)) || (!(y13.1 == ([97, 32, 98, 46, 99])))) ∧ w23 = w1) (l' := fun x => [(7, v17), (8, v21), (37, .bool x)]) ?_ ?_
      · rintro _ _ ⟨rfl, rfl⟩
        refine sr_ev (v := .bool ((((y1.2 != 0) || (y7.2 != 5)) || (y13.2 != 0)) || (!(y13.1 == ([97, 32, 98, 46, 99]))))) (ev_move rfl) (by decide) ?_
        obtain ⟨z48, hz50, hS⟩ := bind_some' hS
        refine sr_join (m := 4) (C := fun (x : Bool) w1 => z48 = x ∧ Below w23.heap.size w23 w1) (l' := fun x => [(7, v17), (8, v21), (42, .bool x)]) ?_ ?_
        · rintro _ w51 ⟨rfl, hbw52⟩
          replace hb := hb.trans (hbw52.mono hb.size)
          replace hA := lt_mono hA hbw52.size
          replace hH := hH.below hbw52
          replace h18 := h18.below hbw52
          replace h22 := h22.below hbw52
          refine sr_ev (v := .bool z48) (ev_move rfl) (by decide) ?_
          obtain ⟨z63, hz65, hS⟩ := bind_some' hS
          refine sr_join (m := 4) (C := fun (x : Bool) w1 => z63 = x ∧ Below w51.heap.size w51 w1) (l' := fun x => [(7, v17), (8, v21), (47, .bool x)]) ?_ ?_
          · rintro _ w66 ⟨rfl, hbw67⟩
            replace hb := hb.trans (hbw67.mono hb.size)
            replace hA := lt_mono hA hbw67.size
            replace hH := hH.below hbw67
            replace h18 := h18.below hbw67
            replace h22 := h22.below hbw67
            refine sr_end (l' := [(7, v17), (8, v21), (47, .bool z63)]) (.cons rfl (.cons rfl (.cons rfl (.nil _)))) ?_
            refine ke_cond (t := z63) rfl (fun hc76 => ?_) (fun hc76 => ?_)
            · replace hS := ite_true' hS hc76
              refine ke_seq ?_
              refine ke_region ?_
              refine sr_ev (v := .bool false) (ev_assign rfl) (by decide) ?_
              refine sr_end (l' := [(0, .bool false)]) (.cons rfl (.nil _)) ?_
              cases hS
              exact ke_ret1 Tryd.func11 rfl rfl ⟨_, rfl, rfl, hb⟩
            · replace hS := ite_false' hS hc76
              refine ke_skip ?_
              refine ke_seq ?_
              refine ke_region ?_
              refine sr_lit (c := strC) (A := A0) (E := 9) (xs := [[109, 97, 105, 108, 46, 114, 101, 97, 100], [97], [109, 97, 105, 108]]) (vs := #[(0, str ([109, 97, 105, 108, 46, 114, 101, 97, 100])), (1, str ([97])), (2, str ([109, 97, 105, 108]))]) (cs := #[str ([109, 97, 105, 108, 46, 114, 101, 97, 100]), str ([97]), str ([109, 97, 105, 108])]) (css := [[str ([109, 97, 105, 108, 46, 114, 101, 97, 100])], [str ([97])], [str ([109, 97, 105, 108])]]) rfl (fun _ => by kernel_rfl) rfl ⟨rfl, ⟨rfl, ⟨rfl, trivial⟩⟩⟩ rfl (by decide) hA (by decide) ?_
              intro v77 w79 h78 hbw80
              replace hb := hb.trans (hbw80.mono hb.size)
              replace hA := lt_mono hA hbw80.size
              replace hH := hH.below hbw80
              replace h18 := h18.below hbw80
              replace h22 := h22.below hbw80
              obtain ⟨y81, hy82, hS⟩ := bind_some' hS
              refine sr_call (vs := [v77]) rfl Tryd.call19 rfl (scope_Sorted_ok _ (hg.below hb) h78 hA hy82) (by decide) ?_
              rintro v85 w83 ⟨_, rfl, h86, hbw84⟩
              replace hb := hb.trans (hbw84.mono hb.size)
              replace hA := lt_mono hA hbw84.size
              replace hH := hH.below hbw84
              replace h18 := h18.below hbw84
              replace h22 := h22.below hbw84
              refine sr_lit (c := strC) (A := A0) (E := 9) (xs := [[97], [109, 97, 105, 108]]) (vs := #[(0, str ([97])), (1, str ([109, 97, 105, 108]))]) (cs := #[str ([97]), str ([109, 97, 105, 108])]) (css := [[str ([97])], [str ([109, 97, 105, 108])]]) rfl (fun _ => by kernel_rfl) rfl ⟨rfl, ⟨rfl, trivial⟩⟩ rfl (by decide) hA (by decide) ?_
              intro v87 w89 h88 hbw90
              replace hb := hb.trans (hbw90.mono hb.size)
              replace hA := lt_mono hA hbw90.size
              replace hH := hH.below hbw90
              replace h18 := h18.below hbw90
              replace h22 := h22.below hbw90
              replace h86 := h86.below hbw90
              obtain ⟨y91, hy92, hS⟩ := bind_some' hS
              refine sr_call (vs := [v85, v87]) rfl Tryd.call18 rfl (ref03_Same_ok _ (hg.below hb) h86 h88 hy92) (by decide) ?_
              rintro _ w93 ⟨rfl, hbw94⟩
              replace hb := hb.trans (hbw94.mono hb.size)
              replace hA := lt_mono hA hbw94.size
              replace hH := hH.below hbw94
              replace h18 := h18.below hbw94
              replace h22 := h22.below hbw94
              refine sr_ev (v := .bool y91) (ev_move rfl) (by decide) ?_
              obtain ⟨z97, hz99, hS⟩ := bind_some' hS
              refine sr_join (m := 2) (C := fun (x : Bool) w1 => z97 = x ∧ Below w93.heap.size w93 w1) (l' := fun x => [(7, v17), (8, v21), (54, .bool x)]) ?_ ?_
              · rintro _ w100 ⟨rfl, hbw101⟩
                replace hb := hb.trans (hbw101.mono hb.size)
                replace hA := lt_mono hA hbw101.size
                replace hH := hH.below hbw101
                replace h18 := h18.below hbw101
                replace h22 := h22.below hbw101
                refine sr_ev (v := .bool z97) (ev_move rfl) (by decide) ?_
                obtain ⟨z108, hz110, hS⟩ := bind_some' hS
                refine sr_join (m := 3) (C := fun (x : Bool) w1 => z108 = x ∧ Below w100.heap.size w100 w1) (l' := fun x => [(7, v17), (8, v21), (58, .bool x)]) ?_ ?_
                · rintro _ w111 ⟨rfl, hbw112⟩
                  replace hb := hb.trans (hbw112.mono hb.size)
                  replace hA := lt_mono hA hbw112.size
                  replace hH := hH.below hbw112
                  replace h18 := h18.below hbw112
                  replace h22 := h22.below hbw112
                  refine sr_ev (v := .bool z108) (ev_move rfl) (by decide) ?_
                  obtain ⟨z119, hz121, hS⟩ := bind_some' hS
                  refine sr_join (m := 2) (C := fun (x : Bool) w1 => z119 = x ∧ Below w111.heap.size w111 w1) (l' := fun x => [(7, v17), (8, v21), (61, .bool x)]) ?_ ?_
                  · rintro _ w122 ⟨rfl, hbw123⟩
                    replace hb := hb.trans (hbw123.mono hb.size)
                    replace hA := lt_mono hA hbw123.size
                    replace hH := hH.below hbw123
                    replace h18 := h18.below hbw123
                    replace h22 := h22.below hbw123
                    refine sr_ev (v := .bool z119) (ev_move rfl) (by decide) ?_
                    obtain ⟨z130, hz132, hS⟩ := bind_some' hS
                    refine sr_join (m := 5) (C := fun (x : Bool) w1 => z130 = x ∧ Below w122.heap.size w122 w1) (l' := fun x => [(7, v17), (8, v21), (67, .bool x)]) ?_ ?_
                    · rintro _ w133 ⟨rfl, hbw134⟩
                      replace hb := hb.trans (hbw134.mono hb.size)
                      replace hA := lt_mono hA hbw134.size
                      replace hH := hH.below hbw134
                      replace h18 := h18.below hbw134
                      replace h22 := h22.below hbw134
                      refine sr_ev (v := .bool z130) (ev_move rfl) (by decide) ?_
                      obtain ⟨z141, hz143, hS⟩ := bind_some' hS
                      refine sr_join (m := 6) (C := fun (x : Bool) w1 => z141 = x ∧ Below w133.heap.size w133 w1) (l' := fun x => [(7, v17), (8, v21), (74, .bool x)]) ?_ ?_
                      · rintro _ w144 ⟨rfl, hbw145⟩
                        replace hb := hb.trans (hbw145.mono hb.size)
                        replace hA := lt_mono hA hbw145.size
                        replace hH := hH.below hbw145
                        replace h18 := h18.below hbw145
                        replace h22 := h22.below hbw145
                        refine sr_ev (v := .bool z141) (ev_move rfl) (by decide) ?_
                        obtain ⟨z162, hz164, hS⟩ := bind_some' hS
                        refine sr_join (m := 6) (C := fun (x : Bool) w1 => z162 = x ∧ Below w144.heap.size w144 w1) (l' := fun x => [(81, .bool x)]) ?_ ?_
                        · rintro _ w165 ⟨rfl, hbw166⟩
                          replace hb := hb.trans (hbw166.mono hb.size)
                          replace hA := lt_mono hA hbw166.size
                          replace hH := hH.below hbw166
                          refine sr_ev (v := .bool z162) (ev_assign rfl) (by decide) ?_
                          refine sr_end (l' := [(0, .bool z162)]) (.cons rfl (.nil _)) ?_
                          cases hS
                          exact ke_ret1 Tryd.func11 rfl rfl ⟨_, rfl, rfl, hb⟩
                        · intro K161
                          clear hS
                          have hj163 := Below.refl w144.heap.size w144
                          rcases Bool.eq_false_or_eq_true z141 with hg160 | hg160
                          · have hS := ite_true' hz164 hg160
                            refine sr_evg (b := true) (e := 75) rfl rfl hg160 (v := v17) (ev_move rfl) (by decide) ?_
                            refine sr_evg (b := true) (e := 75) rfl rfl hg160 (v := v21) (ev_move rfl) (by decide) ?_
                            obtain ⟨y167, hy168, hS⟩ := bind_some' hS
                            refine sr_callg (b := true) (e := 75) rfl rfl hg160 (vs := [v17, v21]) rfl Tryd.call27 rfl (scope_Minus_ok _ (hg.below hb) h18 h22 hA hy168) (by decide) ?_
                            rintro v171 w169 ⟨_, rfl, h172, hbw170⟩
                            replace hb := hb.trans (hbw170.mono hb.size)
                            replace hj163 := hj163.trans (hbw170.mono hj163.size)
                            replace hA := lt_mono hA hbw170.size
                            replace hH := hH.below hbw170
                            refine sr_unguard rfl rfl hg160 ?_
                            refine sr_lit (c := strC) (A := A0) (E := 9) (xs := [[109, 97, 105, 108]]) (vs := #[(0, str ([109, 97, 105, 108]))]) (cs := #[str ([109, 97, 105, 108])]) (css := [[str ([109, 97, 105, 108])]]) rfl (fun _ => by kernel_rfl) rfl ⟨rfl, trivial⟩ rfl (by decide) hA (by decide) ?_
                            intro v173 w175 h174 hbw176
                            replace hb := hb.trans (hbw176.mono hb.size)
                            replace hj163 := hj163.trans (hbw176.mono hj163.size)
                            replace hA := lt_mono hA hbw176.size
                            replace hH := hH.below hbw176
                            replace h172 := h172.below hbw176
                            obtain ⟨y177, hy178, hS⟩ := bind_some' hS
                            refine sr_callg (b := true) (e := 75) rfl rfl hg160 (vs := [v171, v173]) rfl Tryd.call18 rfl (ref03_Same_ok _ (hg.below hb) h172 h174 hy178) (by decide) ?_
                            rintro _ w179 ⟨rfl, hbw180⟩
                            replace hb := hb.trans (hbw180.mono hb.size)
                            replace hj163 := hj163.trans (hbw180.mono hj163.size)
                            replace hA := lt_mono hA hbw180.size
                            replace hH := hH.below hbw180
                            refine sr_ev (v := .bool y177) (ev_pick_t rfl hg160 rfl) (by decide) ?_
                            exact sr_weaken (l' := [(81, .bool y177)]) (.cons rfl (.nil _)) (K161 y177 _ ⟨(Option.some.inj hS).symm, hj163⟩)
                          · have hS := ite_false' hz164 hg160
                            refine sr_pass (e := 75) rfl rfl (by rw [hg160]; rfl) (by decide) ?_
                            refine sr_pass (e := 75) rfl rfl (by rw [hg160]; rfl) (by decide) ?_
                            refine sr_pass (e := 75) rfl rfl (by rw [hg160]; rfl) (by decide) ?_
                            refine sr_pass (e := 75) rfl rfl (by rw [hg160]; rfl) (by decide) ?_
                            refine sr_pass (e := 75) rfl rfl (by rw [hg160]; rfl) (by decide) ?_
                            refine sr_ev (v := .bool false) (ev_pick_f rfl hg160 rfl) (by decide) ?_
                            exact sr_weaken (l' := [(81, .bool false)]) (.cons rfl (.nil _)) (K161 false _ ⟨(Option.some.inj hS).symm, hj163⟩)
                      · intro K140
                        clear hS
                        have hj142 := Below.refl w133.heap.size w133
                        rcases Bool.eq_false_or_eq_true z130 with hg139 | hg139
                        · have hS := ite_true' hz143 hg139
                          refine sr_evg (b := true) (e := 68) rfl rfl hg139 (v := v17) (ev_move rfl) (by decide) ?_
                          refine sr_evg (b := true) (e := 68) rfl rfl hg139 (v := v21) (ev_move rfl) (by decide) ?_
                          obtain ⟨y146, hy147, hS⟩ := bind_some' hS
                          refine sr_callg (b := true) (e := 68) rfl rfl hg139 (vs := [v17, v21]) rfl Tryd.call25 rfl (scope_Common_ok _ (hg.below hb) h18 h22 hA hy147) (by decide) ?_
                          rintro v150 w148 ⟨_, rfl, h151, hbw149⟩
                          replace hb := hb.trans (hbw149.mono hb.size)
                          replace hj142 := hj142.trans (hbw149.mono hj142.size)
                          replace hA := lt_mono hA hbw149.size
                          replace hH := hH.below hbw149
                          replace h18 := h18.below hbw149
                          replace h22 := h22.below hbw149
                          refine sr_unguard rfl rfl hg139 ?_
                          refine sr_lit (c := strC) (A := A0) (E := 9) (xs := [[102, 105, 108, 101, 115, 46, 120], [109, 97, 105, 108, 46, 114, 101, 97, 100]]) (vs := #[(0, str ([102, 105, 108, 101, 115, 46, 120])), (1, str ([109, 97, 105, 108, 46, 114, 101, 97, 100]))]) (cs := #[str ([102, 105, 108, 101, 115, 46, 120]), str ([109, 97, 105, 108, 46, 114, 101, 97, 100])]) (css := [[str ([102, 105, 108, 101, 115, 46, 120])], [str ([109, 97, 105, 108, 46, 114, 101, 97, 100])]]) rfl (fun _ => by kernel_rfl) rfl ⟨rfl, ⟨rfl, trivial⟩⟩ rfl (by decide) hA (by decide) ?_
                          intro v152 w154 h153 hbw155
                          replace hb := hb.trans (hbw155.mono hb.size)
                          replace hj142 := hj142.trans (hbw155.mono hj142.size)
                          replace hA := lt_mono hA hbw155.size
                          replace hH := hH.below hbw155
                          replace h18 := h18.below hbw155
                          replace h22 := h22.below hbw155
                          replace h151 := h151.below hbw155
                          obtain ⟨y156, hy157, hS⟩ := bind_some' hS
                          refine sr_callg (b := true) (e := 68) rfl rfl hg139 (vs := [v150, v152]) rfl Tryd.call18 rfl (ref03_Same_ok _ (hg.below hb) h151 h153 hy157) (by decide) ?_
                          rintro _ w158 ⟨rfl, hbw159⟩
                          replace hb := hb.trans (hbw159.mono hb.size)
                          replace hj142 := hj142.trans (hbw159.mono hj142.size)
                          replace hA := lt_mono hA hbw159.size
                          replace hH := hH.below hbw159
                          replace h18 := h18.below hbw159
                          replace h22 := h22.below hbw159
                          refine sr_ev (v := .bool y156) (ev_pick_t rfl hg139 rfl) (by decide) ?_
                          exact sr_weaken (l' := [(7, v17), (8, v21), (74, .bool y156)]) (.cons rfl (.cons rfl (.cons rfl (.nil _)))) (K140 y156 _ ⟨(Option.some.inj hS).symm, hj142⟩)
                        · have hS := ite_false' hz143 hg139
                          refine sr_pass (e := 68) rfl rfl (by rw [hg139]; rfl) (by decide) ?_
                          refine sr_pass (e := 68) rfl rfl (by rw [hg139]; rfl) (by decide) ?_
                          refine sr_pass (e := 68) rfl rfl (by rw [hg139]; rfl) (by decide) ?_
                          refine sr_pass (e := 68) rfl rfl (by rw [hg139]; rfl) (by decide) ?_
                          refine sr_pass (e := 68) rfl rfl (by rw [hg139]; rfl) (by decide) ?_
                          refine sr_ev (v := .bool false) (ev_pick_f rfl hg139 rfl) (by decide) ?_
                          exact sr_weaken (l' := [(7, v17), (8, v21), (74, .bool false)]) (.cons rfl (.cons rfl (.cons rfl (.nil _)))) (K140 false _ ⟨(Option.some.inj hS).symm, hj142⟩)
                    · intro K129
                      clear hS
                      have hj131 := Below.refl w122.heap.size w122
                      rcases Bool.eq_false_or_eq_true z119 with hg128 | hg128
                      · have hS := ite_true' hz132 hg128
                        refine sr_evg (b := true) (e := 62) rfl rfl hg128 (v := v17) (ev_move rfl) (by decide) ?_
                        refine sr_evg (b := true) (e := 62) rfl rfl hg128 (v := v21) (ev_move rfl) (by decide) ?_
                        obtain ⟨y135, hy136, hS⟩ := bind_some' hS
                        refine sr_callg (b := true) (e := 62) rfl rfl hg128 (vs := [v17, v21]) rfl Tryd.call23 rfl (scope_Within_ok _ (hg.below hb) h18 h22 hy136) (by decide) ?_
                        rintro _ w137 ⟨rfl, hbw138⟩
                        replace hb := hb.trans (hbw138.mono hb.size)
                        replace hj131 := hj131.trans (hbw138.mono hj131.size)
                        replace hA := lt_mono hA hbw138.size
                        replace hH := hH.below hbw138
                        replace h18 := h18.below hbw138
                        replace h22 := h22.below hbw138
                        refine sr_evg (b := true) (e := 62) rfl rfl hg128 (v := .bool (!y135)) (ev_not rfl) (by decide) ?_
                        refine sr_ev (v := .bool (!y135)) (ev_pick_t rfl hg128 rfl) (by decide) ?_
                        exact sr_weaken (l' := [(7, v17), (8, v21), (67, .bool (!y135))]) (.cons rfl (.cons rfl (.cons rfl (.nil _)))) (K129 (!y135) _ ⟨(Option.some.inj hS).symm, hj131⟩)
                      · have hS := ite_false' hz132 hg128
                        refine sr_pass (e := 62) rfl rfl (by rw [hg128]; rfl) (by decide) ?_
                        refine sr_pass (e := 62) rfl rfl (by rw [hg128]; rfl) (by decide) ?_
                        refine sr_pass (e := 62) rfl rfl (by rw [hg128]; rfl) (by decide) ?_
                        refine sr_pass (e := 62) rfl rfl (by rw [hg128]; rfl) (by decide) ?_
                        refine sr_ev (v := .bool false) (ev_pick_f rfl hg128 rfl) (by decide) ?_
                        exact sr_weaken (l' := [(7, v17), (8, v21), (67, .bool false)]) (.cons rfl (.cons rfl (.cons rfl (.nil _)))) (K129 false _ ⟨(Option.some.inj hS).symm, hj131⟩)
                  · intro K118
                    clear hS
                    have hj120 := Below.refl w111.heap.size w111
                    rcases Bool.eq_false_or_eq_true z108 with hg117 | hg117
                    · have hS := ite_true' hz121 hg117
                      obtain ⟨y124, hy125, hS⟩ := bind_some' hS
                      refine sr_callg (b := true) (e := 59) rfl rfl hg117 (vs := [(.slice none 0 0), (.slice none 0 0)]) rfl Tryd.call23 rfl (scope_Within_ok _ (hg.below hb) (SlR.nil (A := A0)) (SlR.nil (A := A0)) hy125) (by decide) ?_
                      rintro _ w126 ⟨rfl, hbw127⟩
                      replace hb := hb.trans (hbw127.mono hb.size)
                      replace hj120 := hj120.trans (hbw127.mono hj120.size)
                      replace hA := lt_mono hA hbw127.size
                      replace hH := hH.below hbw127
                      replace h18 := h18.below hbw127
                      replace h22 := h22.below hbw127
                      refine sr_ev (v := .bool y124) (ev_pick_t rfl hg117 rfl) (by decide) ?_
                      exact sr_weaken (l' := [(7, v17), (8, v21), (61, .bool y124)]) (.cons rfl (.cons rfl (.cons rfl (.nil _)))) (K118 y124 _ ⟨(Option.some.inj hS).symm, hj120⟩)
                    · have hS := ite_false' hz121 hg117
                      refine sr_pass (e := 59) rfl rfl (by rw [hg117]; rfl) (by decide) ?_
                      refine sr_ev (v := .bool false) (ev_pick_f rfl hg117 rfl) (by decide) ?_
                      exact sr_weaken (l' := [(7, v17), (8, v21), (61, .bool false)]) (.cons rfl (.cons rfl (.cons rfl (.nil _)))) (K118 false _ ⟨(Option.some.inj hS).symm, hj120⟩)
                · intro K107
                  clear hS
                  have hj109 := Below.refl w100.heap.size w100
                  rcases Bool.eq_false_or_eq_true z97 with hg106 | hg106
                  · have hS := ite_true' hz110 hg106
                    obtain ⟨y113, hy114, hS⟩ := bind_some' hS
                    refine sr_callg (b := true) (e := 55) rfl rfl hg106 (vs := [str ([109, 97, 105, 108]), str ([109, 97, 105, 108, 98, 111, 120])]) rfl Tryd.call21 rfl (scope_Implies_ok _ (hg.below hb) hy114) (by decide) ?_
                    rintro _ w115 ⟨rfl, hbw116⟩
                    replace hb := hb.trans (hbw116.mono hb.size)
                    replace hj109 := hj109.trans (hbw116.mono hj109.size)
                    replace hA := lt_mono hA hbw116.size
                    replace hH := hH.below hbw116
                    replace h18 := h18.below hbw116
                    replace h22 := h22.below hbw116
                    refine sr_evg (b := true) (e := 55) rfl rfl hg106 (v := .bool (!y113)) (ev_not rfl) (by decide) ?_
                    refine sr_ev (v := .bool (!y113)) (ev_pick_t rfl hg106 rfl) (by decide) ?_
                    exact sr_weaken (l' := [(7, v17), (8, v21), (58, .bool (!y113))]) (.cons rfl (.cons rfl (.cons rfl (.nil _)))) (K107 (!y113) _ ⟨(Option.some.inj hS).symm, hj109⟩)
                  · have hS := ite_false' hz110 hg106
                    refine sr_pass (e := 55) rfl rfl (by rw [hg106]; rfl) (by decide) ?_
                    refine sr_pass (e := 55) rfl rfl (by rw [hg106]; rfl) (by decide) ?_
                    refine sr_ev (v := .bool false) (ev_pick_f rfl hg106 rfl) (by decide) ?_
                    exact sr_weaken (l' := [(7, v17), (8, v21), (58, .bool false)]) (.cons rfl (.cons rfl (.cons rfl (.nil _)))) (K107 false _ ⟨(Option.some.inj hS).symm, hj109⟩)
              · intro K96
                clear hS
                have hj98 := Below.refl w93.heap.size w93
                rcases Bool.eq_false_or_eq_true y91 with hg95 | hg95
                · have hS := ite_true' hz99 hg95
                  obtain ⟨y102, hy103, hS⟩ := bind_some' hS
                  refine sr_callg (b := true) (e := 52) rfl rfl hg95 (vs := [str ([109, 97, 105, 108]), str ([109, 97, 105, 108, 46, 114, 101, 97, 100])]) rfl Tryd.call21 rfl (scope_Implies_ok _ (hg.below hb) hy103) (by decide) ?_
                  rintro _ w104 ⟨rfl, hbw105⟩
                  replace hb := hb.trans (hbw105.mono hb.size)
                  replace hj98 := hj98.trans (hbw105.mono hj98.size)
                  replace hA := lt_mono hA hbw105.size
                  replace hH := hH.below hbw105
                  replace h18 := h18.below hbw105
                  replace h22 := h22.below hbw105
                  refine sr_ev (v := .bool y102) (ev_pick_t rfl hg95 rfl) (by decide) ?_
                  exact sr_weaken (l' := [(7, v17), (8, v21), (54, .bool y102)]) (.cons rfl (.cons rfl (.cons rfl (.nil _)))) (K96 y102 _ ⟨(Option.some.inj hS).symm, hj98⟩)
                · have hS := ite_false' hz99 hg95
                  refine sr_pass (e := 52) rfl rfl (by rw [hg95]; rfl) (by decide) ?_
                  refine sr_ev (v := .bool false) (ev_pick_f rfl hg95 rfl) (by decide) ?_
                  exact sr_weaken (l' := [(7, v17), (8, v21), (54, .bool false)]) (.cons rfl (.cons rfl (.cons rfl (.nil _)))) (K96 false _ ⟨(Option.some.inj hS).symm, hj98⟩)
          · intro K62
            clear hS
            have hj64 := Below.refl w51.heap.size w51
            rcases Bool.eq_false_or_eq_true z48 with hg61 | hg61
            · have hS := ite_true' hz65 hg61
              refine sr_pass (e := 43) rfl rfl (by rw [hg61]; rfl) (by decide) ?_
              refine sr_pass (e := 43) rfl rfl (by rw [hg61]; rfl) (by decide) ?_
              refine sr_pass (e := 43) rfl rfl (by rw [hg61]; rfl) (by decide) ?_
              refine sr_ev (v := .bool true) (ev_pick_t rfl hg61 rfl) (by decide) ?_
              exact sr_weaken (l' := [(7, v17), (8, v21), (47, .bool true)]) (.cons rfl (.cons rfl (.cons rfl (.nil _)))) (K62 true _ ⟨(Option.some.inj hS).symm, hj64⟩)
            · have hS := ite_false' hz65 hg61
              refine sr_unguard rfl rfl hg61 ?_
              refine sr_make (c := strC) (A := A0) (E := 9) (xs := [[], [], [], [], [], [], [], [], [], [], [], [], [], [], [], [], []]) (cs := #[str ([]), str ([]), str ([]), str ([]), str ([]), str ([]), str ([]), str ([]), str ([]), str ([]), str ([]), str ([]), str ([]), str ([]), str ([]), str ([]), str ([])]) (css := [[str ([])], [str ([])], [str ([])], [str ([])], [str ([])], [str ([])], [str ([])], [str ([])], [str ([])], [str ([])], [str ([])], [str ([])], [str ([])], [str ([])], [str ([])], [str ([])], [str ([])]]) rfl rfl (fun _ => by kernel_rfl) rfl ⟨rfl, ⟨rfl, ⟨rfl, ⟨rfl, ⟨rfl, ⟨rfl, ⟨rfl, ⟨rfl, ⟨rfl, ⟨rfl, ⟨rfl, ⟨rfl, ⟨rfl, ⟨rfl, ⟨rfl, ⟨rfl, ⟨rfl, trivial⟩⟩⟩⟩⟩⟩⟩⟩⟩⟩⟩⟩⟩⟩⟩⟩⟩ rfl (by decide) hA (by decide) ?_
              intro v68 w70 h69 hbw71
              replace hb := hb.trans (hbw71.mono hb.size)
              replace hj64 := hj64.trans (hbw71.mono hj64.size)
              replace hA := lt_mono hA hbw71.size
              replace hH := hH.below hbw71
              replace h18 := h18.below hbw71
              replace h22 := h22.below hbw71
              obtain ⟨y72, hy73, hS⟩ := bind_some' hS
              refine sr_callg (b := false) (e := 43) rfl rfl hg61 (vs := [v68]) rfl Tryd.call16 rfl (scope_Check_ok _ (hg.below hb) h69 hy73) (by decide) ?_
              rintro _ w74 ⟨rfl, hbw75⟩
              replace hb := hb.trans (hbw75.mono hb.size)
              replace hj64 := hj64.trans (hbw75.mono hj64.size)
              replace hA := lt_mono hA hbw75.size
              replace hH := hH.below hbw75
              replace h18 := h18.below hbw75
              replace h22 := h22.below hbw75
              refine sr_evg (b := false) (e := 43) rfl rfl hg61 (v := .bool (y72 != 3)) (ev_ne rfl rfl) (by decide) ?_
              refine sr_ev (v := .bool (y72 != 3)) (ev_pick_f rfl hg61 rfl) (by decide) ?_
              exact sr_weaken (l' := [(7, v17), (8, v21), (47, .bool (y72 != 3))]) (.cons rfl (.cons rfl (.cons rfl (.nil _)))) (K62 (y72 != 3) _ ⟨(Option.some.inj hS).symm, hj64⟩)
        · intro K47
          clear hS
          have hj49 := Below.refl w23.heap.size w23
          rcases Bool.eq_false_or_eq_true ((((y1.2 != 0) || (y7.2 != 5)) || (y13.2 != 0)) || (!(y13.1 == ([97, 32, 98, 46, 99])))) with hg46 | hg46
          · have hS := ite_true' hz50 hg46
            refine sr_pass (e := 38) rfl rfl (by rw [hg46]; rfl) (by decide) ?_
            refine sr_pass (e := 38) rfl rfl (by rw [hg46]; rfl) (by decide) ?_
            refine sr_pass (e := 38) rfl rfl (by rw [hg46]; rfl) (by decide) ?_
            refine sr_ev (v := .bool true) (ev_pick_t rfl hg46 rfl) (by decide) ?_
            exact sr_weaken (l' := [(7, v17), (8, v21), (42, .bool true)]) (.cons rfl (.cons rfl (.cons rfl (.nil _)))) (K47 true _ ⟨(Option.some.inj hS).symm, hj49⟩)
          · have hS := ite_false' hz50 hg46
            refine sr_unguard rfl rfl hg46 ?_
            refine sr_lit (c := strC) (A := A0) (E := 9) (xs := [[97, 46, 46, 98]]) (vs := #[(0, str ([97, 46, 46, 98]))]) (cs := #[str ([97, 46, 46, 98])]) (css := [[str ([97, 46, 46, 98])]]) rfl (fun _ => by kernel_rfl) rfl ⟨rfl, trivial⟩ rfl (by decide) hA (by decide) ?_
            intro v53 w55 h54 hbw56
            replace hb := hb.trans (hbw56.mono hb.size)
            replace hj49 := hj49.trans (hbw56.mono hj49.size)
            replace hA := lt_mono hA hbw56.size
            replace hH := hH.below hbw56
            replace h18 := h18.below hbw56
            replace h22 := h22.below hbw56
            obtain ⟨y57, hy58, hS⟩ := bind_some' hS
            refine sr_callg (b := false) (e := 38) rfl rfl hg46 (vs := [v53]) rfl Tryd.call16 rfl (scope_Check_ok _ (hg.below hb) h54 hy58) (by decide) ?_
            rintro _ w59 ⟨rfl, hbw60⟩
            replace hb := hb.trans (hbw60.mono hb.size)
            replace hj49 := hj49.trans (hbw60.mono hj49.size)
            replace hA := lt_mono hA hbw60.size
            replace hH := hH.below hbw60
            replace h18 := h18.below hbw60
            replace h22 := h22.below hbw60
            refine sr_evg (b := false) (e := 38) rfl rfl hg46 (v := .bool (y57 != 5)) (ev_ne rfl rfl) (by decide) ?_
            refine sr_ev (v := .bool (y57 != 5)) (ev_pick_f rfl hg46 rfl) (by decide) ?_
            exact sr_weaken (l' := [(7, v17), (8, v21), (42, .bool (y57 != 5))]) (.cons rfl (.cons rfl (.cons rfl (.nil _)))) (K47 (y57 != 5) _ ⟨(Option.some.inj hS).symm, hj49⟩)
      · intro K40
        rcases Bool.eq_false_or_eq_true (((y1.2 != 0) || (y7.2 != 5)) || (y13.2 != 0)) with hg39 | hg39
        · refine sr_pass (e := 34) rfl rfl (by rw [hg39]; rfl) (by decide) ?_
          refine sr_pass (e := 34) rfl rfl (by rw [hg39]; rfl) (by decide) ?_
          refine sr_ev (v := .bool true) (ev_pick_t rfl hg39 rfl) (by decide) ?_
          exact sr_weaken (l' := [(7, v17), (8, v21), (37, .bool true)]) (.cons rfl (.cons rfl (.cons rfl (.nil _)))) (K40 true _ ⟨by rw [hg39]; rfl, rfl⟩)
        · refine sr_evg (b := false) (e := 34) rfl rfl hg39 (v := str y13.1) (ev_move rfl) (by decide) ?_
          refine sr_evg (b := false) (e := 34) rfl rfl hg39 (v := .bool (!(y13.1 == ([97, 32, 98, 46, 99])))) (ev_sne rfl rfl) (by decide) ?_
          refine sr_ev (v := .bool (!(y13.1 == ([97, 32, 98, 46, 99])))) (ev_pick_f rfl hg39 rfl) (by decide) ?_
          exact sr_weaken (l' := [(7, v17), (8, v21), (37, .bool (!(y13.1 == ([97, 32, 98, 46, 99]))))]) (.cons rfl (.cons rfl (.cons rfl (.nil _)))) (K40 (!(y13.1 == ([97, 32, 98, 46, 99]))) _ ⟨by rw [hg39]; rfl, rfl⟩)
    · intro K33
      rcases Bool.eq_false_or_eq_true ((y1.2 != 0) || (y7.2 != 5)) with hg32 | hg32
      · refine sr_pass (e := 30) rfl rfl (by rw [hg32]; rfl) (by decide) ?_
        refine sr_pass (e := 30) rfl rfl (by rw [hg32]; rfl) (by decide) ?_
        refine sr_ev (v := .bool true) (ev_pick_t rfl hg32 rfl) (by decide) ?_
        exact sr_weaken (l' := [(5, str y13.1), (7, v17), (8, v21), (33, .bool true)]) (.cons rfl (.cons rfl (.cons rfl (.cons rfl (.nil _))))) (K33 true _ ⟨by rw [hg32]; rfl, rfl⟩)
      · refine sr_evg (b := false) (e := 30) rfl rfl hg32 (v := .int .i64 y13.2) (ev_move rfl) (by decide) ?_
        refine sr_evg (b := false) (e := 30) rfl rfl hg32 (v := .bool (y13.2 != 0)) (ev_ne rfl rfl) (by decide) ?_
        refine sr_ev (v := .bool (y13.2 != 0)) (ev_pick_f rfl hg32 rfl) (by decide) ?_
        exact sr_weaken (l' := [(5, str y13.1), (7, v17), (8, v21), (33, .bool (y13.2 != 0))]) (.cons rfl (.cons rfl (.cons rfl (.cons rfl (.nil _))))) (K33 (y13.2 != 0) _ ⟨by rw [hg32]; rfl, rfl⟩)
  · intro K26
    rcases Bool.eq_false_or_eq_true (y1.2 != 0) with hg25 | hg25
    · refine sr_pass (e := 26) rfl rfl (by rw [hg25]; rfl) (by decide) ?_
      refine sr_pass (e := 26) rfl rfl (by rw [hg25]; rfl) (by decide) ?_
      refine sr_ev (v := .bool true) (ev_pick_t rfl hg25 rfl) (by decide) ?_
      exact sr_weaken (l' := [(5, str y13.1), (6, .int .i64 y13.2), (7, v17), (8, v21), (29, .bool true)]) (.cons rfl (.cons rfl (.cons rfl (.cons rfl (.cons rfl (.nil _)))))) (K26 true _ ⟨by rw [hg25]; rfl, rfl⟩)
    · refine sr_evg (b := false) (e := 26) rfl rfl hg25 (v := .int .i64 y7.2) (ev_move rfl) (by decide) ?_
      refine sr_evg (b := false) (e := 26) rfl rfl hg25 (v := .bool (y7.2 != 5)) (ev_ne rfl rfl) (by decide) ?_
      refine sr_ev (v := .bool (y7.2 != 5)) (ev_pick_f rfl hg25 rfl) (by decide) ?_
      exact sr_weaken (l' := [(5, str y13.1), (6, .int .i64 y13.2), (7, v17), (8, v21), (29, .bool (y7.2 != 5))]) (.cons rfl (.cons rfl (.cons rfl (.cons rfl (.cons rfl (.nil _)))))) (K26 (y7.2 != 5) _ ⟨by rw [hg25]; rfl, rfl⟩)
theorem ref01_letter_ok (w0 : World) (hg : Gs w0) {c_0 : Int} {r : Bool} (hS : ref01_letter c_0 = some r) :
    Calls Tryd.prog 60 #[.int .u8 c_0] w0 (Ret (fun v w' => v = .bool r ∧ Below w0.heap.size w0 w')) := by
  unfold ref01_letter at hS
  have hb := Below.refl w0.heap.size w0
  refine calls_of_ke Tryd.func60 rfl (n := 17) rfl rfl (l := [(0, .int .u8 c_0)]) rfl ?_
  refine ke_seq ?_
  refine ke_region ?_
  refine sr_ev (v := .bool false) (ev_assign rfl) (by decide) ?_
  refine sr_end (l' := [(0, .int .u8 c_0)]) (.cons rfl (.nil _)) ?_
  refine ke_seq ?_
  refine ke_region ?_
  refine sr_ev (v := .int .u8 c_0) (ev_move rfl) (by decide) ?_
  refine sr_ev (v := .bool (decide (c_0 ≥ 97))) (ev_ge rfl rfl) (by decide) ?_
  refine sr_ev (v := .bool (decide (c_0 ≥ 97))) (ev_move rfl) (by decide) ?_
  refine sr_join (m := 3) (C := fun (x : Bool) w1 => x = ((decide (c_0 ≥ 97)) && (decide (c_0 ≤ 122))) ∧ w0 = w1) (l' := fun x => [(0, .int .u8 c_0), (8, .bool x)]) ?_ ?_
  · rintro _ _ ⟨rfl, rfl⟩
    refine sr_ev (v := .bool ((decide (c_0 ≥ 97)) && (decide (c_0 ≤ 122)))) (ev_move rfl) (by decide) ?_
    refine sr_join (m := 7) (C := fun (x : Bool) w1 => x = (((decide (c_0 ≥ 97)) && (decide (c_0 ≤ 122))) || ((decide (c_0 ≥ 65)) && (decide (c_0 ≤ 90)))) ∧ w0 = w1) (l' := fun x => [(16, .bool x)]) ?_ ?_
    · rintro _ _ ⟨rfl, rfl⟩
      refine sr_ev (v := .bool (((decide (c_0 ≥ 97)) && (decide (c_0 ≤ 122))) || ((decide (c_0 ≥ 65)) && (decide (c_0 ≤ 90))))) (ev_assign rfl) (by decide) ?_
      refine sr_end (l' := [(2, .bool (((decide (c_0 ≥ 97)) && (decide (c_0 ≤ 122))) || ((decide (c_0 ≥ 65)) && (decide (c_0 ≤ 90)))))]) (.cons rfl (.nil _)) ?_
      cases hS
      exact ke_ret1 Tryd.func60 rfl rfl ⟨_, rfl, rfl, hb⟩
    · intro K9
      rcases Bool.eq_false_or_eq_true ((decide (c_0 ≥ 97)) && (decide (c_0 ≤ 122))) with hg8 | hg8
      · refine sr_pass (e := 9) rfl rfl (by rw [hg8]; rfl) (by decide) ?_
        refine sr_pass (e := 9) rfl rfl (by rw [hg8]; rfl) (by decide) ?_
        refine sr_pass (e := 9) rfl rfl (by rw [hg8]; rfl) (by decide) ?_
        refine sr_pass_undef (e := 12) rfl rfl (by decide) ?_
        refine sr_pass_undef (e := 12) rfl rfl (by decide) ?_
        refine sr_pass (e := 9) rfl rfl (by rw [hg8]; rfl) (by decide) ?_
        refine sr_ev (v := .bool true) (ev_pick_t rfl hg8 rfl) (by decide) ?_
        exact sr_weaken (l' := [(16, .bool true)]) (.cons rfl (.nil _)) (K9 true _ ⟨by rw [hg8]; rfl, rfl⟩)
      · refine sr_evg (b := false) (e := 9) rfl rfl hg8 (v := .int .u8 c_0) (ev_move rfl) (by decide) ?_
        refine sr_evg (b := false) (e := 9) rfl rfl hg8 (v := .bool (decide (c_0 ≥ 65))) (ev_ge rfl rfl) (by decide) ?_
        refine sr_evg (b := false) (e := 9) rfl rfl hg8 (v := .bool (decide (c_0 ≥ 65))) (ev_move rfl) (by decide) ?_
        refine sr_join (m := 3) (C := fun (x : Bool) w1 => x = ((decide (c_0 ≥ 65)) && (decide (c_0 ≤ 90))) ∧ w0 = w1) (l' := fun x => [(9, .bool ((decide (c_0 ≥ 97)) && (decide (c_0 ≤ 122)))), (15, .bool x)]) ?_ ?_
        · rintro _ _ ⟨rfl, rfl⟩
          refine sr_ev (v := .bool ((decide (c_0 ≥ 65)) && (decide (c_0 ≤ 90)))) (ev_pick_f rfl hg8 rfl) (by decide) ?_
          exact sr_weaken (l' := [(16, .bool ((decide (c_0 ≥ 65)) && (decide (c_0 ≤ 90))))]) (.cons rfl (.nil _)) (K9 ((decide (c_0 ≥ 65)) && (decide (c_0 ≤ 90))) _ ⟨by rw [hg8]; rfl, rfl⟩)
        · intro K16
          rcases Bool.eq_false_or_eq_true (decide (c_0 ≥ 65)) with hg15 | hg15
          · refine sr_evg (b := true) (e := 12) rfl rfl hg15 (v := .int .u8 c_0) (ev_move rfl) (by decide) ?_
            refine sr_evg (b := true) (e := 12) rfl rfl hg15 (v := .bool (decide (c_0 ≤ 90))) (ev_le rfl rfl) (by decide) ?_
            refine sr_evg (b := false) (e := 9) rfl rfl hg8 (v := .bool (decide (c_0 ≤ 90))) (ev_pick_t rfl hg15 rfl) (by decide) ?_
            exact sr_weaken (l' := [(9, .bool ((decide (c_0 ≥ 97)) && (decide (c_0 ≤ 122)))), (15, .bool (decide (c_0 ≤ 90)))]) (.cons rfl (.cons rfl (.nil _))) (K16 (decide (c_0 ≤ 90)) _ ⟨by rw [hg15]; rfl, rfl⟩)
          · refine sr_pass (e := 12) rfl rfl (by rw [hg15]; rfl) (by decide) ?_
            refine sr_pass (e := 12) rfl rfl (by rw [hg15]; rfl) (by decide) ?_
            refine sr_evg (b := false) (e := 9) rfl rfl hg8 (v := .bool false) (ev_pick_f rfl hg15 rfl) (by decide) ?_
            exact sr_weaken (l' := [(9, .bool ((decide (c_0 ≥ 97)) && (decide (c_0 ≤ 122)))), (15, .bool false)]) (.cons rfl (.cons rfl (.nil _))) (K16 false _ ⟨by rw [hg15]; rfl, rfl⟩)
  · intro K2
    rcases Bool.eq_false_or_eq_true (decide (c_0 ≥ 97)) with hg1 | hg1
    · refine sr_evg (b := true) (e := 5) rfl rfl hg1 (v := .int .u8 c_0) (ev_move rfl) (by decide) ?_
      refine sr_evg (b := true) (e := 5) rfl rfl hg1 (v := .bool (decide (c_0 ≤ 122))) (ev_le rfl rfl) (by decide) ?_
      refine sr_ev (v := .bool (decide (c_0 ≤ 122))) (ev_pick_t rfl hg1 rfl) (by decide) ?_
      exact sr_weaken (l' := [(0, .int .u8 c_0), (8, .bool (decide (c_0 ≤ 122)))]) (.cons rfl (.cons rfl (.nil _))) (K2 (decide (c_0 ≤ 122)) _ ⟨by rw [hg1]; rfl, rfl⟩)
    · refine sr_pass (e := 5) rfl rfl (by rw [hg1]; rfl) (by decide) ?_
      refine sr_pass (e := 5) rfl rfl (by rw [hg1]; rfl) (by decide) ?_
      refine sr_ev (v := .bool false) (ev_pick_f rfl hg1 rfl) (by decide) ?_
      exact sr_weaken (l' := [(0, .int .u8 c_0), (8, .bool false)]) (.cons rfl (.cons rfl (.nil _))) (K2 false _ ⟨by rw [hg1]; rfl, rfl⟩)
theorem ref01_digit_ok (w0 : World) (hg : Gs w0) {c_0 : Int} {r : Bool} (hS : ref01_digit c_0 = some r) :
    Calls Tryd.prog 61 #[.int .u8 c_0] w0 (Ret (fun v w' => v = .bool r ∧ Below w0.heap.size w0 w')) := by
  unfold ref01_digit at hS
  have hb := Below.refl w0.heap.size w0
  refine calls_of_ke Tryd.func61 rfl (n := 9) rfl rfl (l := [(0, .int .u8 c_0)]) rfl ?_
  refine ke_seq ?_
  refine ke_region ?_
  refine sr_ev (v := .bool false) (ev_assign rfl) (by decide) ?_
  refine sr_end (l' := [(0, .int .u8 c_0)]) (.cons rfl (.nil _)) ?_
  refine ke_seq ?_
  refine ke_region ?_
  refine sr_ev (v := .int .u8 c_0) (ev_move rfl) (by decide) ?_
  refine sr_ev (v := .bool (decide (c_0 ≥ 48))) (ev_ge rfl rfl) (by decide) ?_
  refine sr_ev (v := .bool (decide (c_0 ≥ 48))) (ev_move rfl) (by decide) ?_
  refine sr_join (m := 3) (C := fun (x : Bool) w1 => x = ((decide (c_0 ≥ 48)) && (decide (c_0 ≤ 57))) ∧ w0 = w1) (l' := fun x => [(8, .bool x)]) ?_ ?_
  · rintro _ _ ⟨rfl, rfl⟩
    refine sr_ev (v := .bool ((decide (c_0 ≥ 48)) && (decide (c_0 ≤ 57)))) (ev_assign rfl) (by decide) ?_
    refine sr_end (l' := [(2, .bool ((decide (c_0 ≥ 48)) && (decide (c_0 ≤ 57))))]) (.cons rfl (.nil _)) ?_
    cases hS
    exact ke_ret1 Tryd.func61 rfl rfl ⟨_, rfl, rfl, hb⟩
  · intro K2
    rcases Bool.eq_false_or_eq_true (decide (c_0 ≥ 48)) with hg1 | hg1
    · refine sr_evg (b := true) (e := 5) rfl rfl hg1 (v := .int .u8 c_0) (ev_move rfl) (by decide) ?_
      refine sr_evg (b := true) (e := 5) rfl rfl hg1 (v := .bool (decide (c_0 ≤ 57))) (ev_le rfl rfl) (by decide) ?_
      refine sr_ev (v := .bool (decide (c_0 ≤ 57))) (ev_pick_t rfl hg1 rfl) (by decide) ?_
      exact sr_weaken (l' := [(8, .bool (decide (c_0 ≤ 57)))]) (.cons rfl (.nil _)) (K2 (decide (c_0 ≤ 57)) _ ⟨by rw [hg1]; rfl, rfl⟩)
    · refine sr_pass (e := 5) rfl rfl (by rw [hg1]; rfl) (by decide) ?_
      refine sr_pass (e := 5) rfl rfl (by rw [hg1]; rfl) (by decide) ?_
      refine sr_ev (v := .bool false) (ev_pick_f rfl hg1 rfl) (by decide) ?_
      exact sr_weaken (l' := [(8, .bool false)]) (.cons rfl (.nil _)) (K2 false _ ⟨by rw [hg1]; rfl, rfl⟩)
theorem ref01_Word_L1_ok {w0 : World} (hg : Gs w0) : ∀ (n : Nat), ∀ {r : Bool} {s_0 : Str} {i_3 : Int}, ref01_Word_L1 n s_0 i_3 = some r → ∀ {w : World}, (Below w0.heap.size w0 w) → KE Tryd.prog 47 (Ret (fun v w' => v = .bool r ∧ Below w0.heap.size w0 w')) 54 [.code (sub (bodyOf Tryd.f47) [2, 1, 2, 2, 1]), .inLoop (sub (bodyOf Tryd.f47) [2, 1, 2, 2, 1]), .inBlock 0, .code (sub (bodyOf Tryd.f47) [2, 2])] [(0, str s_0), (3, .int .i64 i_3)] w := by
  intro n
  induction n with
  | zero => intro r s_0 i_3 hS; cases hS
  | succ n ih =>
    have hr0 : ∀ {r : Bool} {s_0 : Str} {i_3 : Int}, ref01_Word_L1 n s_0 i_3 = some r → ∀ {w : World}, (Below w0.heap.size w0 w) → KE Tryd.prog 47 (Ret (fun v w' => v = .bool r ∧ Below w0.heap.size w0 w')) 54 [.inLoop (sub (bodyOf Tryd.f47) [2, 1, 2, 2, 1]), .inBlock 0, .code (sub (bodyOf Tryd.f47) [2, 2])] [(0, str s_0), (3, .int .i64 i_3)] w := fun {r} {s_0} {i_3} hS {w} hb => ke_inLoop (ih hS hb)
    clear ih
    intro r s_0 i_3 hS w hb
    unfold ref01_Word_L1 at hS
    refine ke_seq ?_
    refine ke_seq ?_
    refine ke_region ?_
    refine sr_ev (v := .int .i64 i_3) (ev_move rfl) (by decide) ?_
    refine sr_ev (v := str s_0) (ev_move rfl) (by decide) ?_
    refine sr_ev (v := .int .i64 (s_0.length : Int)) (ev_slen Tryd.underlying9 rfl) (by decide) ?_
    refine sr_ev (v := .bool (decide (i_3 < (s_0.length : Int)))) (ev_lt rfl rfl) (by decide) ?_
    refine sr_end (l' := [(0, str s_0), (3, .int .i64 i_3), (7, .bool (decide (i_3 < (s_0.length : Int))))]) (.cons rfl (.cons rfl (.cons rfl (.nil _)))) ?_
    refine ke_cond (t := decide (i_3 < (s_0.length : Int))) rfl (fun hc1 => ?_) (fun hc1 => ?_)
    · replace hS := ite_true' hS hc1
      refine ke_skip ?_
      refine ke_seq ?_
      refine ke_block ?_
      refine ke_seq ?_
      refine ke_region ?_
      refine sr_ev (v := str s_0) (ev_move rfl) (by decide) ?_
      refine sr_ev (v := .int .i64 i_3) (ev_move rfl) (by decide) ?_
      obtain ⟨hk2, hS⟩ := chk_some hS
      refine sr_ev (v := .int .u8 (byteAt s_0 i_3)) (ev_sindex Tryd.underlying9 rfl rfl hk2) (by decide) ?_
      obtain ⟨y3, hy4, hS⟩ := bind_some' hS
      refine sr_call (vs := [.int .u8 (byteAt s_0 i_3)]) rfl Tryd.call60 rfl (ref01_letter_ok _ (hg.below hb) hy4) (by decide) ?_
      rintro _ w5 ⟨rfl, hbw6⟩
      replace hb := hb.trans (hbw6.mono hb.size)
      refine sr_ev (v := .bool (!y3)) (ev_not rfl) (by decide) ?_
      refine sr_ev (v := .bool (!y3)) (ev_move rfl) (by decide) ?_
      obtain ⟨z9, hz11, hS⟩ := bind_some' hS
      refine sr_join (m := 6) (C := fun (x : Bool) w1 => z9 = x ∧ Below w5.heap.size w5 w1) (l' := fun x => [(0, str s_0), (3, .int .i64 i_3), (21, .bool x)]) ?_ ?_
      · rintro _ w12 ⟨rfl, hbw13⟩
        replace hb := hb.trans (hbw13.mono hb.size)
        refine sr_ev (v := .bool z9) (ev_move rfl) (by decide) ?_
        obtain ⟨z21, hz23, hS⟩ := bind_some' hS
        refine sr_join (m := 5) (C := fun (x : Bool) w1 => z21 = x ∧ Below w12.heap.size w12 w1) (l' := fun x => [(0, str s_0), (3, .int .i64 i_3), (27, .bool x)]) ?_ ?_
        · rintro _ w24 ⟨rfl, hbw25⟩
          replace hb := hb.trans (hbw25.mono hb.size)
          refine sr_ev (v := .bool z21) (ev_move rfl) (by decide) ?_
          obtain ⟨z29, hz31, hS⟩ := bind_some' hS
          refine sr_join (m := 5) (C := fun (x : Bool) w1 => z29 = x ∧ Below w24.heap.size w24 w1) (l' := fun x => [(0, str s_0), (3, .int .i64 i_3), (33, .bool x)]) ?_ ?_
          · rintro _ w32 ⟨rfl, hbw33⟩
            replace hb := hb.trans (hbw33.mono hb.size)
            refine sr_ev (v := .bool z29) (ev_move rfl) (by decide) ?_
            obtain ⟨z37, hz39, hS⟩ := bind_some' hS
            refine sr_join (m := 5) (C := fun (x : Bool) w1 => z37 = x ∧ Below w32.heap.size w32 w1) (l' := fun x => [(0, str s_0), (3, .int .i64 i_3), (39, .bool x)]) ?_ ?_
            · rintro _ w40 ⟨rfl, hbw41⟩
              replace hb := hb.trans (hbw41.mono hb.size)
              refine sr_ev (v := .bool z37) (ev_move rfl) (by decide) ?_
              obtain ⟨z45, hz47, hS⟩ := bind_some' hS
              refine sr_join (m := 5) (C := fun (x : Bool) w1 => z45 = x ∧ Below w40.heap.size w40 w1) (l' := fun x => [(0, str s_0), (3, .int .i64 i_3), (45, .bool x)]) ?_ ?_
              · rintro _ w48 ⟨rfl, hbw49⟩
                replace hb := hb.trans (hbw49.mono hb.size)
                refine sr_end (l' := [(0, str s_0), (3, .int .i64 i_3), (45, .bool z45)]) (.cons rfl (.cons rfl (.cons rfl (.nil _)))) ?_
                refine ke_cond (t := z45) rfl (fun hc51 => ?_) (fun hc51 => ?_)
                · replace hS := ite_true' hS hc51
                  refine ke_seq ?_
                  refine ke_region ?_
                  refine sr_ev (v := .bool false) (ev_assign rfl) (by decide) ?_
                  refine sr_end (l' := [(2, .bool false)]) (.cons rfl (.nil _)) ?_
                  cases hS
                  exact ke_ret1 Tryd.func47 rfl rfl ⟨_, rfl, rfl, hb⟩
                · replace hS := ite_false' hS hc51
                  refine ke_skip ?_
                  refine ke_inBlock ?_
                  refine ke_region ?_
                  refine sr_ev (v := .int .i64 i_3) (ev_move rfl) (by decide) ?_
                  refine sr_ev (v := .int .i64 (IntKind.i64.wrap (i_3 + 1))) (ev_add rfl rfl) (by decide) ?_
                  refine sr_ev (v := .int .i64 (IntKind.i64.wrap (i_3 + 1))) (ev_assign rfl) (by decide) ?_
                  refine sr_end (l' := [(0, str s_0), (3, .int .i64 (IntKind.i64.wrap (i_3 + 1)))]) (.cons rfl (.cons rfl (.nil _))) ?_
                  have hK := hr0 hS hb
                  exact ke_weaken (l' := [(0, str s_0), (3, .int .i64 (IntKind.i64.wrap (i_3 + 1)))]) (.cons rfl (.cons rfl (.nil _))) hK
              · intro K44
                clear hS
                have hj46 := Below.refl w40.heap.size w40
                rcases Bool.eq_false_or_eq_true z37 with hg43 | hg43
                · have hS := ite_true' hz47 hg43
                  refine sr_evg (b := true) (e := 40) rfl rfl hg43 (v := str s_0) (ev_move rfl) (by decide) ?_
                  refine sr_evg (b := true) (e := 40) rfl rfl hg43 (v := .int .i64 i_3) (ev_move rfl) (by decide) ?_
                  obtain ⟨hk50, hS⟩ := chk_some hS
                  refine sr_evg (b := true) (e := 40) rfl rfl hg43 (v := .int .u8 (byteAt s_0 i_3)) (ev_sindex Tryd.underlying9 rfl rfl hk50) (by decide) ?_
                  refine sr_evg (b := true) (e := 40) rfl rfl hg43 (v := .bool ((byteAt s_0 i_3) != 58)) (ev_ne rfl rfl) (by decide) ?_
                  refine sr_ev (v := .bool ((byteAt s_0 i_3) != 58)) (ev_pick_t rfl hg43 rfl) (by decide) ?_
                  exact sr_weaken (l' := [(0, str s_0), (3, .int .i64 i_3), (45, .bool ((byteAt s_0 i_3) != 58))]) (.cons rfl (.cons rfl (.cons rfl (.nil _)))) (K44 ((byteAt s_0 i_3) != 58) _ ⟨(Option.some.inj hS).symm, hj46⟩)
                · have hS := ite_false' hz47 hg43
                  refine sr_pass (e := 40) rfl rfl (by rw [hg43]; rfl) (by decide) ?_
                  refine sr_pass (e := 40) rfl rfl (by rw [hg43]; rfl) (by decide) ?_
                  refine sr_pass (e := 40) rfl rfl (by rw [hg43]; rfl) (by decide) ?_
                  refine sr_pass (e := 40) rfl rfl (by rw [hg43]; rfl) (by decide) ?_
                  refine sr_ev (v := .bool false) (ev_pick_f rfl hg43 rfl) (by decide) ?_
                  exact sr_weaken (l' := [(0, str s_0), (3, .int .i64 i_3), (45, .bool false)]) (.cons rfl (.cons rfl (.cons rfl (.nil _)))) (K44 false _ ⟨(Option.some.inj hS).symm, hj46⟩)
            · intro K36
              clear hS
              have hj38 := Below.refl w32.heap.size w32
              rcases Bool.eq_false_or_eq_true z29 with hg35 | hg35
              · have hS := ite_true' hz39 hg35
                refine sr_evg (b := true) (e := 34) rfl rfl hg35 (v := str s_0) (ev_move rfl) (by decide) ?_
                refine sr_evg (b := true) (e := 34) rfl rfl hg35 (v := .int .i64 i_3) (ev_move rfl) (by decide) ?_
                obtain ⟨hk42, hS⟩ := chk_some hS
                refine sr_evg (b := true) (e := 34) rfl rfl hg35 (v := .int .u8 (byteAt s_0 i_3)) (ev_sindex Tryd.underlying9 rfl rfl hk42) (by decide) ?_
                refine sr_evg (b := true) (e := 34) rfl rfl hg35 (v := .bool ((byteAt s_0 i_3) != 46)) (ev_ne rfl rfl) (by decide) ?_
                refine sr_ev (v := .bool ((byteAt s_0 i_3) != 46)) (ev_pick_t rfl hg35 rfl) (by decide) ?_
                exact sr_weaken (l' := [(0, str s_0), (3, .int .i64 i_3), (39, .bool ((byteAt s_0 i_3) != 46))]) (.cons rfl (.cons rfl (.cons rfl (.nil _)))) (K36 ((byteAt s_0 i_3) != 46) _ ⟨(Option.some.inj hS).symm, hj38⟩)
              · have hS := ite_false' hz39 hg35
                refine sr_pass (e := 34) rfl rfl (by rw [hg35]; rfl) (by decide) ?_
                refine sr_pass (e := 34) rfl rfl (by rw [hg35]; rfl) (by decide) ?_
                refine sr_pass (e := 34) rfl rfl (by rw [hg35]; rfl) (by decide) ?_
                refine sr_pass (e := 34) rfl rfl (by rw [hg35]; rfl) (by decide) ?_
                refine sr_ev (v := .bool false) (ev_pick_f rfl hg35 rfl) (by decide) ?_
                exact sr_weaken (l' := [(0, str s_0), (3, .int .i64 i_3), (39, .bool false)]) (.cons rfl (.cons rfl (.cons rfl (.nil _)))) (K36 false _ ⟨(Option.some.inj hS).symm, hj38⟩)
          · intro K28
            clear hS
            have hj30 := Below.refl w24.heap.size w24
            rcases Bool.eq_false_or_eq_true z21 with hg27 | hg27
            · have hS := ite_true' hz31 hg27
              refine sr_evg (b := true) (e := 28) rfl rfl hg27 (v := str s_0) (ev_move rfl) (by decide) ?_
              refine sr_evg (b := true) (e := 28) rfl rfl hg27 (v := .int .i64 i_3) (ev_move rfl) (by decide) ?_
              obtain ⟨hk34, hS⟩ := chk_some hS
              refine sr_evg (b := true) (e := 28) rfl rfl hg27 (v := .int .u8 (byteAt s_0 i_3)) (ev_sindex Tryd.underlying9 rfl rfl hk34) (by decide) ?_
              refine sr_evg (b := true) (e := 28) rfl rfl hg27 (v := .bool ((byteAt s_0 i_3) != 95)) (ev_ne rfl rfl) (by decide) ?_
              refine sr_ev (v := .bool ((byteAt s_0 i_3) != 95)) (ev_pick_t rfl hg27 rfl) (by decide) ?_
              exact sr_weaken (l' := [(0, str s_0), (3, .int .i64 i_3), (33, .bool ((byteAt s_0 i_3) != 95))]) (.cons rfl (.cons rfl (.cons rfl (.nil _)))) (K28 ((byteAt s_0 i_3) != 95) _ ⟨(Option.some.inj hS).symm, hj30⟩)
            · have hS := ite_false' hz31 hg27
              refine sr_pass (e := 28) rfl rfl (by rw [hg27]; rfl) (by decide) ?_
              refine sr_pass (e := 28) rfl rfl (by rw [hg27]; rfl) (by decide) ?_
              refine sr_pass (e := 28) rfl rfl (by rw [hg27]; rfl) (by decide) ?_
              refine sr_pass (e := 28) rfl rfl (by rw [hg27]; rfl) (by decide) ?_
              refine sr_ev (v := .bool false) (ev_pick_f rfl hg27 rfl) (by decide) ?_
              exact sr_weaken (l' := [(0, str s_0), (3, .int .i64 i_3), (33, .bool false)]) (.cons rfl (.cons rfl (.cons rfl (.nil _)))) (K28 false _ ⟨(Option.some.inj hS).symm, hj30⟩)
        · intro K20
          clear hS
          have hj22 := Below.refl w12.heap.size w12
          rcases Bool.eq_false_or_eq_true z9 with hg19 | hg19
          · have hS := ite_true' hz23 hg19
            refine sr_evg (b := true) (e := 22) rfl rfl hg19 (v := str s_0) (ev_move rfl) (by decide) ?_
            refine sr_evg (b := true) (e := 22) rfl rfl hg19 (v := .int .i64 i_3) (ev_move rfl) (by decide) ?_
            obtain ⟨hk26, hS⟩ := chk_some hS
            refine sr_evg (b := true) (e := 22) rfl rfl hg19 (v := .int .u8 (byteAt s_0 i_3)) (ev_sindex Tryd.underlying9 rfl rfl hk26) (by decide) ?_
            refine sr_evg (b := true) (e := 22) rfl rfl hg19 (v := .bool ((byteAt s_0 i_3) != 45)) (ev_ne rfl rfl) (by decide) ?_
            refine sr_ev (v := .bool ((byteAt s_0 i_3) != 45)) (ev_pick_t rfl hg19 rfl) (by decide) ?_
            exact sr_weaken (l' := [(0, str s_0), (3, .int .i64 i_3), (27, .bool ((byteAt s_0 i_3) != 45))]) (.cons rfl (.cons rfl (.cons rfl (.nil _)))) (K20 ((byteAt s_0 i_3) != 45) _ ⟨(Option.some.inj hS).symm, hj22⟩)
          · have hS := ite_false' hz23 hg19
            refine sr_pass (e := 22) rfl rfl (by rw [hg19]; rfl) (by decide) ?_
            refine sr_pass (e := 22) rfl rfl (by rw [hg19]; rfl) (by decide) ?_
            refine sr_pass (e := 22) rfl rfl (by rw [hg19]; rfl) (by decide) ?_
            refine sr_pass (e := 22) rfl rfl (by rw [hg19]; rfl) (by decide) ?_
            refine sr_ev (v := .bool false) (ev_pick_f rfl hg19 rfl) (by decide) ?_
            exact sr_weaken (l' := [(0, str s_0), (3, .int .i64 i_3), (27, .bool false)]) (.cons rfl (.cons rfl (.cons rfl (.nil _)))) (K20 false _ ⟨(Option.some.inj hS).symm, hj22⟩)
      · intro K8
        clear hS
        have hj10 := Below.refl w5.heap.size w5
        rcases Bool.eq_false_or_eq_true (!y3) with hg7 | hg7
        · have hS := ite_true' hz11 hg7
          refine sr_evg (b := true) (e := 15) rfl rfl hg7 (v := str s_0) (ev_move rfl) (by decide) ?_
          refine sr_evg (b := true) (e := 15) rfl rfl hg7 (v := .int .i64 i_3) (ev_move rfl) (by decide) ?_
          obtain ⟨hk14, hS⟩ := chk_some hS
          refine sr_evg (b := true) (e := 15) rfl rfl hg7 (v := .int .u8 (byteAt s_0 i_3)) (ev_sindex Tryd.underlying9 rfl rfl hk14) (by decide) ?_
          obtain ⟨y15, hy16, hS⟩ := bind_some' hS
          refine sr_callg (b := true) (e := 15) rfl rfl hg7 (vs := [.int .u8 (byteAt s_0 i_3)]) rfl Tryd.call61 rfl (ref01_digit_ok _ (hg.below hb) hy16) (by decide) ?_
          rintro _ w17 ⟨rfl, hbw18⟩
          replace hb := hb.trans (hbw18.mono hb.size)
          replace hj10 := hj10.trans (hbw18.mono hj10.size)
          refine sr_evg (b := true) (e := 15) rfl rfl hg7 (v := .bool (!y15)) (ev_not rfl) (by decide) ?_
          refine sr_ev (v := .bool (!y15)) (ev_pick_t rfl hg7 rfl) (by decide) ?_
          exact sr_weaken (l' := [(0, str s_0), (3, .int .i64 i_3), (21, .bool (!y15))]) (.cons rfl (.cons rfl (.cons rfl (.nil _)))) (K8 (!y15) _ ⟨(Option.some.inj hS).symm, hj10⟩)
        · have hS := ite_false' hz11 hg7
          refine sr_pass (e := 15) rfl rfl (by rw [hg7]; rfl) (by decide) ?_
          refine sr_pass (e := 15) rfl rfl (by rw [hg7]; rfl) (by decide) ?_
          refine sr_pass (e := 15) rfl rfl (by rw [hg7]; rfl) (by decide) ?_
          refine sr_pass (e := 15) rfl rfl (by rw [hg7]; rfl) (by decide) ?_
          refine sr_pass (e := 15) rfl rfl (by rw [hg7]; rfl) (by decide) ?_
          refine sr_ev (v := .bool false) (ev_pick_f rfl hg7 rfl) (by decide) ?_
          exact sr_weaken (l' := [(0, str s_0), (3, .int .i64 i_3), (21, .bool false)]) (.cons rfl (.cons rfl (.cons rfl (.nil _)))) (K8 false _ ⟨(Option.some.inj hS).symm, hj10⟩)
    · replace hS := ite_false' hS hc1
      refine ke_exit (k' := _) rfl ?_
      refine ke_seq ?_
      refine ke_region ?_
      refine sr_ev (v := str s_0) (ev_move rfl) (by decide) ?_
      refine sr_ev (v := .int .i64 (s_0.length : Int)) (ev_slen Tryd.underlying9 rfl) (by decide) ?_
      refine sr_ev (v := .bool (decide ((s_0.length : Int) ≥ 1))) (ev_ge rfl rfl) (by decide) ?_
      refine sr_ev (v := .bool (decide ((s_0.length : Int) ≥ 1))) (ev_move rfl) (by decide) ?_
      refine sr_join (m := 4) (C := fun (x : Bool) w1 => x = ((decide ((s_0.length : Int) ≥ 1)) && (decide ((s_0.length : Int) ≤ 64))) ∧ w = w1) (l' := fun x => [(53, .bool x)]) ?_ ?_
      · rintro _ _ ⟨rfl, rfl⟩
        refine sr_ev (v := .bool ((decide ((s_0.length : Int) ≥ 1)) && (decide ((s_0.length : Int) ≤ 64)))) (ev_assign rfl) (by decide) ?_
        refine sr_end (l' := [(2, .bool ((decide ((s_0.length : Int) ≥ 1)) && (decide ((s_0.length : Int) ≤ 64))))]) (.cons rfl (.nil _)) ?_
        cases hS
        exact ke_ret1 Tryd.func47 rfl rfl ⟨_, rfl, rfl, hb⟩
      · intro K53
        rcases Bool.eq_false_or_eq_true (decide ((s_0.length : Int) ≥ 1)) with hg52 | hg52
        · refine sr_evg (b := true) (e := 49) rfl rfl hg52 (v := str s_0) (ev_move rfl) (by decide) ?_
          refine sr_evg (b := true) (e := 49) rfl rfl hg52 (v := .int .i64 (s_0.length : Int)) (ev_slen Tryd.underlying9 rfl) (by decide) ?_
          refine sr_evg (b := true) (e := 49) rfl rfl hg52 (v := .bool (decide ((s_0.length : Int) ≤ 64))) (ev_le rfl rfl) (by decide) ?_
          refine sr_ev (v := .bool (decide ((s_0.length : Int) ≤ 64))) (ev_pick_t rfl hg52 rfl) (by decide) ?_
          exact sr_weaken (l' := [(53, .bool (decide ((s_0.length : Int) ≤ 64)))]) (.cons rfl (.nil _)) (K53 (decide ((s_0.length : Int) ≤ 64)) _ ⟨by rw [hg52]; rfl, rfl⟩)
        · refine sr_pass (e := 49) rfl rfl (by rw [hg52]; rfl) (by decide) ?_
          refine sr_pass (e := 49) rfl rfl (by rw [hg52]; rfl) (by decide) ?_
          refine sr_pass (e := 49) rfl rfl (by rw [hg52]; rfl) (by decide) ?_
          refine sr_ev (v := .bool false) (ev_pick_f rfl hg52 rfl) (by decide) ?_
          exact sr_weaken (l' := [(53, .bool false)]) (.cons rfl (.nil _)) (K53 false _ ⟨by rw [hg52]; rfl, rfl⟩)
theorem ref01_Word_ok (w0 : World) (hg : Gs w0) {s_0 : Str} {r : Bool} (hS : ref01_Word s_0 = some r) :
    Calls Tryd.prog 47 #[str s_0] w0 (Ret (fun v w' => v = .bool r ∧ Below w0.heap.size w0 w')) := by
  unfold ref01_Word at hS
  have hb := Below.refl w0.heap.size w0
  refine calls_of_ke Tryd.func47 rfl (n := 54) rfl rfl (l := [(0, str s_0)]) rfl ?_
  refine ke_seq ?_
  refine ke_region ?_
  refine sr_ev (v := .bool false) (ev_assign rfl) (by decide) ?_
  refine sr_end (l' := [(0, str s_0)]) (.cons rfl (.nil _)) ?_
  refine ke_seq ?_
  refine ke_seq ?_
  refine ke_region ?_
  refine sr_ev (v := .int .i64 0) (ev_assign rfl) (by decide) ?_
  refine sr_end (l' := [(0, str s_0), (3, .int .i64 0)]) (.cons rfl (.cons rfl (.nil _))) ?_
  refine ke_block ?_
  have hK := ref01_Word_L1_ok hg _ hS hb
  exact ke_weaken (l' := [(0, str s_0), (3, .int .i64 0)]) (.cons rfl (.cons rfl (.nil _))) (ke_loop hK)
theorem ref29_Valid_L1_ok {w0 : World} (hg : Gs w0) : ∀ (n : Nat), ∀ {r : Bool} {s_0 : Str} {i_3 : Int}, ref29_Valid_L1 n s_0 i_3 = some r → ∀ {w : World}, (Below w0.heap.size w0 w) → KE Tryd.prog 34 (Ret (fun v w' => v = .bool r ∧ Below w0.heap.size w0 w')) 37 [.code (sub (bodyOf Tryd.f34) [2, 2, 1, 2, 2, 1]), .inLoop (sub (bodyOf Tryd.f34) [2, 2, 1, 2, 2, 1]), .inBlock 0, .code (sub (bodyOf Tryd.f34) [2, 2, 2])] [(0, str s_0), (3, .int .i64 i_3)] w := by
  intro n
  induction n with
  | zero => intro r s_0 i_3 hS; cases hS
  | succ n ih =>
    have hr0 : ∀ {r : Bool} {s_0 : Str} {i_3 : Int}, ref29_Valid_L1 n s_0 i_3 = some r → ∀ {w : World}, (Below w0.heap.size w0 w) → KE Tryd.prog 34 (Ret (fun v w' => v = .bool r ∧ Below w0.heap.size w0 w')) 37 [.inLoop (sub (bodyOf Tryd.f34) [2, 2, 1, 2, 2, 1]), .inBlock 0, .code (sub (bodyOf Tryd.f34) [2, 2, 2])] [(0, str s_0), (3, .int .i64 i_3)] w := fun {r} {s_0} {i_3} hS {w} hb => ke_inLoop (ih hS hb)
    clear ih
    intro r s_0 i_3 hS w hb
    unfold ref29_Valid_L1 at hS
    refine ke_seq ?_
    refine ke_seq ?_
    refine ke_region ?_
    refine sr_ev (v := .int .i64 i_3) (ev_move rfl) (by decide) ?_
    refine sr_ev (v := str s_0) (ev_move rfl) (by decide) ?_
    refine sr_ev (v := .int .i64 (s_0.length : Int)) (ev_slen Tryd.underlying9 rfl) (by decide) ?_
    refine sr_ev (v := .bool (decide (i_3 < (s_0.length : Int)))) (ev_lt rfl rfl) (by decide) ?_
    refine sr_end (l' := [(0, str s_0), (3, .int .i64 i_3), (23, .bool (decide (i_3 < (s_0.length : Int))))]) (.cons rfl (.cons rfl (.cons rfl (.nil _)))) ?_
    refine ke_cond (t := decide (i_3 < (s_0.length : Int))) rfl (fun hc22 => ?_) (fun hc22 => ?_)
    · replace hS := ite_true' hS hc22
      refine ke_skip ?_
      refine ke_seq ?_
      refine ke_block ?_
      refine ke_seq ?_
      refine ke_region ?_
      refine sr_ev (v := str s_0) (ev_move rfl) (by decide) ?_
      refine sr_ev (v := .int .i64 i_3) (ev_move rfl) (by decide) ?_
      obtain ⟨hk23, hS⟩ := chk_some hS
      refine sr_ev (v := .int .u8 (byteAt s_0 i_3)) (ev_sindex Tryd.underlying9 rfl rfl hk23) (by decide) ?_
      refine sr_ev (v := .bool ((byteAt s_0 i_3) == 46)) (ev_eq rfl rfl) (by decide) ?_
      refine sr_ev (v := .bool ((byteAt s_0 i_3) == 46)) (ev_move rfl) (by decide) ?_
      obtain ⟨z26, hz28, hS⟩ := bind_some' hS
      refine sr_join (m := 6) (C := fun (x : Bool) w1 => z26 = x ∧ Below w.heap.size w w1) (l' := fun x => [(0, str s_0), (3, .int .i64 i_3), (36, .bool x)]) ?_ ?_
      · rintro _ w29 ⟨rfl, hbw30⟩
        replace hb := hb.trans (hbw30.mono hb.size)
        refine sr_end (l' := [(0, str s_0), (3, .int .i64 i_3), (36, .bool z26)]) (.cons rfl (.cons rfl (.cons rfl (.nil _)))) ?_
        refine ke_cond (t := z26) rfl (fun hc32 => ?_) (fun hc32 => ?_)
        · replace hS := ite_true' hS hc32
          refine ke_seq ?_
          refine ke_region ?_
          refine sr_ev (v := .bool false) (ev_assign rfl) (by decide) ?_
          refine sr_end (l' := [(2, .bool false)]) (.cons rfl (.nil _)) ?_
          cases hS
          exact ke_ret1 Tryd.func34 rfl rfl ⟨_, rfl, rfl, hb⟩
        · replace hS := ite_false' hS hc32
          refine ke_skip ?_
          refine ke_inBlock ?_
          refine ke_region ?_
          refine sr_ev (v := .int .i64 i_3) (ev_move rfl) (by decide) ?_
          refine sr_ev (v := .int .i64 (IntKind.i64.wrap (i_3 + 1))) (ev_add rfl rfl) (by decide) ?_
          refine sr_ev (v := .int .i64 (IntKind.i64.wrap (i_3 + 1))) (ev_assign rfl) (by decide) ?_
          refine sr_end (l' := [(0, str s_0), (3, .int .i64 (IntKind.i64.wrap (i_3 + 1)))]) (.cons rfl (.cons rfl (.nil _))) ?_
          have hK := hr0 hS hb
          exact ke_weaken (l' := [(0, str s_0), (3, .int .i64 (IntKind.i64.wrap (i_3 + 1)))]) (.cons rfl (.cons rfl (.nil _))) hK
      · intro K25
        clear hS
        have hj27 := Below.refl w.heap.size w
        rcases Bool.eq_false_or_eq_true ((byteAt s_0 i_3) == 46) with hg24 | hg24
        · have hS := ite_true' hz28 hg24
          refine sr_evg (b := true) (e := 30) rfl rfl hg24 (v := str s_0) (ev_move rfl) (by decide) ?_
          refine sr_evg (b := true) (e := 30) rfl rfl hg24 (v := .int .i64 i_3) (ev_move rfl) (by decide) ?_
          refine sr_evg (b := true) (e := 30) rfl rfl hg24 (v := .int .i64 (IntKind.i64.wrap (i_3 - 1))) (ev_sub rfl rfl) (by decide) ?_
          obtain ⟨hk31, hS⟩ := chk_some hS
          refine sr_evg (b := true) (e := 30) rfl rfl hg24 (v := .int .u8 (byteAt s_0 (IntKind.i64.wrap (i_3 - 1)))) (ev_sindex Tryd.underlying9 rfl rfl hk31) (by decide) ?_
          refine sr_evg (b := true) (e := 30) rfl rfl hg24 (v := .bool ((byteAt s_0 (IntKind.i64.wrap (i_3 - 1))) == 46)) (ev_eq rfl rfl) (by decide) ?_
          refine sr_ev (v := .bool ((byteAt s_0 (IntKind.i64.wrap (i_3 - 1))) == 46)) (ev_pick_t rfl hg24 rfl) (by decide) ?_
          exact sr_weaken (l' := [(0, str s_0), (3, .int .i64 i_3), (36, .bool ((byteAt s_0 (IntKind.i64.wrap (i_3 - 1))) == 46))]) (.cons rfl (.cons rfl (.cons rfl (.nil _)))) (K25 ((byteAt s_0 (IntKind.i64.wrap (i_3 - 1))) == 46) _ ⟨(Option.some.inj hS).symm, hj27⟩)
        · have hS := ite_false' hz28 hg24
          refine sr_pass (e := 30) rfl rfl (by rw [hg24]; rfl) (by decide) ?_
          refine sr_pass (e := 30) rfl rfl (by rw [hg24]; rfl) (by decide) ?_
          refine sr_pass (e := 30) rfl rfl (by rw [hg24]; rfl) (by decide) ?_
          refine sr_pass (e := 30) rfl rfl (by rw [hg24]; rfl) (by decide) ?_
          refine sr_pass (e := 30) rfl rfl (by rw [hg24]; rfl) (by decide) ?_
          refine sr_ev (v := .bool false) (ev_pick_f rfl hg24 rfl) (by decide) ?_
          exact sr_weaken (l' := [(0, str s_0), (3, .int .i64 i_3), (36, .bool false)]) (.cons rfl (.cons rfl (.cons rfl (.nil _)))) (K25 false _ ⟨(Option.some.inj hS).symm, hj27⟩)
    · replace hS := ite_false' hS hc22
      refine ke_exit (k' := _) rfl ?_
      refine ke_seq ?_
      refine ke_region ?_
      refine sr_ev (v := .bool true) (ev_assign rfl) (by decide) ?_
      refine sr_end (l' := [(2, .bool true)]) (.cons rfl (.nil _)) ?_
      cases hS
      exact ke_ret1 Tryd.func34 rfl rfl ⟨_, rfl, rfl, hb⟩
theorem ref29_Valid_ok (w0 : World) (hg : Gs w0) {s_0 : Str} {r : Bool} (hS : ref29_Valid s_0 = some r) :
    Calls Tryd.prog 34 #[str s_0] w0 (Ret (fun v w' => v = .bool r ∧ Below w0.heap.size w0 w')) := by
  unfold ref29_Valid at hS
  have hb := Below.refl w0.heap.size w0
  refine calls_of_ke Tryd.func34 rfl (n := 37) rfl rfl (l := [(0, str s_0)]) rfl ?_
  refine ke_seq ?_
  refine ke_region ?_
  refine sr_ev (v := .bool false) (ev_assign rfl) (by decide) ?_
  refine sr_end (l' := [(0, str s_0)]) (.cons rfl (.nil _)) ?_
  refine ke_seq ?_
  refine ke_seq ?_
  refine ke_region ?_
  refine sr_ev (v := str s_0) (ev_move rfl) (by decide) ?_
  obtain ⟨y1, hy2, hS⟩ := bind_some' hS
  refine sr_call (vs := [str s_0]) rfl Tryd.call47 rfl (ref01_Word_ok _ (hg.below hb) hy2) (by decide) ?_
  rintro _ w3 ⟨rfl, hbw4⟩
  replace hb := hb.trans (hbw4.mono hb.size)
  refine sr_ev (v := .bool (!y1)) (ev_not rfl) (by decide) ?_
  refine sr_ev (v := .bool (!y1)) (ev_move rfl) (by decide) ?_
  obtain ⟨z7, hz9, hS⟩ := bind_some' hS
  refine sr_join (m := 4) (C := fun (x : Bool) w1 => z7 = x ∧ Below w3.heap.size w3 w1) (l' := fun x => [(0, str s_0), (11, .bool x)]) ?_ ?_
  · rintro _ w10 ⟨rfl, hbw11⟩
    replace hb := hb.trans (hbw11.mono hb.size)
    refine sr_ev (v := .bool z7) (ev_move rfl) (by decide) ?_
    obtain ⟨z15, hz17, hS⟩ := bind_some' hS
    refine sr_join (m := 7) (C := fun (x : Bool) w1 => z15 = x ∧ Below w10.heap.size w10 w1) (l' := fun x => [(0, str s_0), (19, .bool x)]) ?_ ?_
    · rintro _ w18 ⟨rfl, hbw19⟩
      replace hb := hb.trans (hbw19.mono hb.size)
      refine sr_end (l' := [(0, str s_0), (19, .bool z15)]) (.cons rfl (.cons rfl (.nil _))) ?_
      refine ke_cond (t := z15) rfl (fun hc21 => ?_) (fun hc21 => ?_)
      · replace hS := ite_true' hS hc21
        refine ke_seq ?_
        refine ke_region ?_
        refine sr_ev (v := .bool false) (ev_assign rfl) (by decide) ?_
        refine sr_end (l' := [(2, .bool false)]) (.cons rfl (.nil _)) ?_
        cases hS
        exact ke_ret1 Tryd.func34 rfl rfl ⟨_, rfl, rfl, hb⟩
      · replace hS := ite_false' hS hc21
        refine ke_skip ?_
        refine ke_seq ?_
        refine ke_seq ?_
        refine ke_region ?_
        refine sr_ev (v := .int .i64 1) (ev_assign rfl) (by decide) ?_
        refine sr_end (l' := [(0, str s_0), (3, .int .i64 1)]) (.cons rfl (.cons rfl (.nil _))) ?_
        refine ke_block ?_
        have hK := ref29_Valid_L1_ok hg _ hS hb
        exact ke_weaken (l' := [(0, str s_0), (3, .int .i64 1)]) (.cons rfl (.cons rfl (.nil _))) (ke_loop hK)
    · intro K14
      clear hS
      have hj16 := Below.refl w10.heap.size w10
      rcases Bool.eq_false_or_eq_true z7 with hg13 | hg13
      · have hS := ite_true' hz17 hg13
        refine sr_pass (e := 12) rfl rfl (by rw [hg13]; rfl) (by decide) ?_
        refine sr_pass (e := 12) rfl rfl (by rw [hg13]; rfl) (by decide) ?_
        refine sr_pass (e := 12) rfl rfl (by rw [hg13]; rfl) (by decide) ?_
        refine sr_pass (e := 12) rfl rfl (by rw [hg13]; rfl) (by decide) ?_
        refine sr_pass (e := 12) rfl rfl (by rw [hg13]; rfl) (by decide) ?_
        refine sr_pass (e := 12) rfl rfl (by rw [hg13]; rfl) (by decide) ?_
        refine sr_ev (v := .bool true) (ev_pick_t rfl hg13 rfl) (by decide) ?_
        exact sr_weaken (l' := [(0, str s_0), (19, .bool true)]) (.cons rfl (.cons rfl (.nil _))) (K14 true _ ⟨(Option.some.inj hS).symm, hj16⟩)
      · have hS := ite_false' hz17 hg13
        refine sr_evg (b := false) (e := 12) rfl rfl hg13 (v := str s_0) (ev_move rfl) (by decide) ?_
        refine sr_evg (b := false) (e := 12) rfl rfl hg13 (v := str s_0) (ev_move rfl) (by decide) ?_
        refine sr_evg (b := false) (e := 12) rfl rfl hg13 (v := .int .i64 (s_0.length : Int)) (ev_slen Tryd.underlying9 rfl) (by decide) ?_
        refine sr_evg (b := false) (e := 12) rfl rfl hg13 (v := .int .i64 (IntKind.i64.wrap ((s_0.length : Int) - 1))) (ev_sub rfl rfl) (by decide) ?_
        obtain ⟨hk20, hS⟩ := chk_some hS
        refine sr_evg (b := false) (e := 12) rfl rfl hg13 (v := .int .u8 (byteAt s_0 (IntKind.i64.wrap ((s_0.length : Int) - 1)))) (ev_sindex Tryd.underlying9 rfl rfl hk20) (by decide) ?_
        refine sr_evg (b := false) (e := 12) rfl rfl hg13 (v := .bool ((byteAt s_0 (IntKind.i64.wrap ((s_0.length : Int) - 1))) == 46)) (ev_eq rfl rfl) (by decide) ?_
        refine sr_ev (v := .bool ((byteAt s_0 (IntKind.i64.wrap ((s_0.length : Int) - 1))) == 46)) (ev_pick_f rfl hg13 rfl) (by decide) ?_
        exact sr_weaken (l' := [(0, str s_0), (19, .bool ((byteAt s_0 (IntKind.i64.wrap ((s_0.length : Int) - 1))) == 46))]) (.cons rfl (.cons rfl (.nil _))) (K14 ((byteAt s_0 (IntKind.i64.wrap ((s_0.length : Int) - 1))) == 46) _ ⟨(Option.some.inj hS).symm, hj16⟩)
  · intro K6
    clear hS
    have hj8 := Below.refl w3.heap.size w3
    rcases Bool.eq_false_or_eq_true (!y1) with hg5 | hg5
    · have hS := ite_true' hz9 hg5
      refine sr_pass (e := 7) rfl rfl (by rw [hg5]; rfl) (by decide) ?_
      refine sr_pass (e := 7) rfl rfl (by rw [hg5]; rfl) (by decide) ?_
      refine sr_pass (e := 7) rfl rfl (by rw [hg5]; rfl) (by decide) ?_
      refine sr_ev (v := .bool true) (ev_pick_t rfl hg5 rfl) (by decide) ?_
      exact sr_weaken (l' := [(0, str s_0), (11, .bool true)]) (.cons rfl (.cons rfl (.nil _))) (K6 true _ ⟨(Option.some.inj hS).symm, hj8⟩)
    · have hS := ite_false' hz9 hg5
      refine sr_evg (b := false) (e := 7) rfl rfl hg5 (v := str s_0) (ev_move rfl) (by decide) ?_
      obtain ⟨hk12, hS⟩ := chk_some hS
      refine sr_evg (b := false) (e := 7) rfl rfl hg5 (v := .int .u8 (byteAt s_0 0)) (ev_sindex Tryd.underlying9 rfl rfl hk12) (by decide) ?_
      refine sr_evg (b := false) (e := 7) rfl rfl hg5 (v := .bool ((byteAt s_0 0) == 46)) (ev_eq rfl rfl) (by decide) ?_
      refine sr_ev (v := .bool ((byteAt s_0 0) == 46)) (ev_pick_f rfl hg5 rfl) (by decide) ?_
      exact sr_weaken (l' := [(0, str s_0), (11, .bool ((byteAt s_0 0) == 46))]) (.cons rfl (.cons rfl (.nil _))) (K6 ((byteAt s_0 0) == 46) _ ⟨(Option.some.inj hS).symm, hj8⟩)
theorem ref29_Check_L2_ok {w0 : World} (hg : Gs w0) {A0 : Nat → Prop} (hA0 : ∀ b, A0 b → b < w0.heap.size) (r0 : List Str → Int → Option (Int))
    (hr0 : ∀ {r : Int} {l_0 : List Str} {i_3 : Int} {vl_0 : Value}, r0 l_0 i_3 = some r → ∀ {w : World} {A : Nat → Prop}, (Below w0.heap.size w0 w) → (∀ b, A b → b < w.heap.size) → (∀ b, A0 b → A b) → (Hp A w0.heap.size w []) → (SlR strC A w vl_0 l_0) → KE Tryd.prog 17 (Ret (fun v w' => v = .int .i64 r ∧ Below w0.heap.size w0 w')) 34 [.inLoop (sub (bodyOf Tryd.f17) [2, 2, 1, 2, 2, 1]), .inBlock 0, .code (sub (bodyOf Tryd.f17) [2, 2, 2])] [(0, vl_0), (3, .int .i64 i_3)] w) : ∀ (n : Nat), ∀ {r : Int} {l_0 : List Str} {i_3 : Int} {k_4 : Int} {vl_0 : Value}, ref29_Check_L2 r0 n l_0 i_3 k_4 = some r → ∀ {w : World} {A : Nat → Prop}, (Below w0.heap.size w0 w) → (∀ b, A b → b < w.heap.size) → (∀ b, A0 b → A b) → (Hp A w0.heap.size w []) → (SlR strC A w vl_0 l_0) → KE Tryd.prog 17 (Ret (fun v w' => v = .int .i64 r ∧ Below w0.heap.size w0 w')) 34 [.code (sub (bodyOf Tryd.f17) [2, 2, 1, 2, 2, 1, 2, 1, 2, 2, 2, 2, 1]), .inLoop (sub (bodyOf Tryd.f17) [2, 2, 1, 2, 2, 1, 2, 1, 2, 2, 2, 2, 1]), .inBlock 2, .inBlock 1, .code (sub (bodyOf Tryd.f17) [2, 2, 1, 2, 2, 1, 2, 2]), .inLoop (sub (bodyOf Tryd.f17) [2, 2, 1, 2, 2, 1]), .inBlock 0, .code (sub (bodyOf Tryd.f17) [2, 2, 2])] [(0, vl_0), (3, .int .i64 i_3), (4, .int .i64 k_4)] w := by
  intro n
  induction n with
  | zero => intro r l_0 i_3 k_4 vl_0 hS; cases hS
  | succ n ih =>
    have hr1 : ∀ {r : Int} {l_0 : List Str} {i_3 : Int} {k_4 : Int} {vl_0 : Value}, ref29_Check_L2 r0 n l_0 i_3 k_4 = some r → ∀ {w : World} {A : Nat → Prop}, (Below w0.heap.size w0 w) → (∀ b, A b → b < w.heap.size) → (∀ b, A0 b → A b) → (Hp A w0.heap.size w []) → (SlR strC A w vl_0 l_0) → KE Tryd.prog 17 (Ret (fun v w' => v = .int .i64 r ∧ Below w0.heap.size w0 w')) 34 [.inLoop (sub (bodyOf Tryd.f17) [2, 2, 1, 2, 2, 1, 2, 1, 2, 2, 2, 2, 1]), .inBlock 2, .inBlock 1, .code (sub (bodyOf Tryd.f17) [2, 2, 1, 2, 2, 1, 2, 2]), .inLoop (sub (bodyOf Tryd.f17) [2, 2, 1, 2, 2, 1]), .inBlock 0, .code (sub (bodyOf Tryd.f17) [2, 2, 2])] [(0, vl_0), (3, .int .i64 i_3), (4, .int .i64 k_4)] w := fun {r} {l_0} {i_3} {k_4} {vl_0} hS {w} {A} hb hA hi hH hl_0 => ke_inLoop (ih hS hb hA hi hH hl_0)
    clear ih
    intro r l_0 i_3 k_4 vl_0 hS w A hb hA hi hH hl_0
    unfold ref29_Check_L2 at hS
    refine ke_seq ?_
    refine ke_seq ?_
    refine ke_region ?_
    refine sr_ev (v := .int .i64 k_4) (ev_move rfl) (by decide) ?_
    refine sr_ev (v := .int .i64 i_3) (ev_move rfl) (by decide) ?_
    refine sr_ev (v := .bool (decide (k_4 < i_3))) (ev_lt rfl rfl) (by decide) ?_
    refine sr_end (l' := [(0, vl_0), (3, .int .i64 i_3), (4, .int .i64 k_4), (22, .bool (decide (k_4 < i_3)))]) (.cons rfl (.cons rfl (.cons rfl (.cons rfl (.nil _))))) ?_
    refine ke_cond (t := decide (k_4 < i_3)) rfl (fun hc16 => ?_) (fun hc16 => ?_)
    · replace hS := ite_true' hS hc16
      refine ke_skip ?_
      refine ke_seq ?_
      refine ke_block ?_
      refine ke_seq ?_
      refine ke_region_q Tryd.mixed (by kernel_rfl) ?_
      refine sq_ev (v := vl_0) (fun w1 hw1 => ev_move rfl) (by decide) ?_
      refine sq_ev (v := .int .i64 k_4) (fun w1 hw1 => ev_move rfl) (by decide) ?_
      obtain ⟨y19, hy20, hS⟩ := bind_some' hS
      obtain ⟨b21, o22, cs24, he23, hixhe23⟩ := hl_0.elem Tryd.underlying22 Tryd.info9 rfl (P := Tryd.prog) hy20
      obtain rfl : cs24 = [str y19] := he23.rd
      refine sq_ev (v := .pointer (some ⟨b21, o22, none⟩)) (fun w1 hw1 => hixhe23 w1 hw1 rfl rfl) (by decide) ?_
      refine sq_ev (v := str y19) (fun w1 hw1 => ev_load Tryd.isAgg9 rfl ((he23.step (.of_below hw1) (Nat.succ_pos _)).cell 0 _ rfl)) (by decide) ?_
      refine sq_ev (v := vl_0) (fun w1 hw1 => ev_move rfl) (by decide) ?_
      refine sq_ev (v := .int .i64 i_3) (fun w1 hw1 => ev_move rfl) (by decide) ?_
      obtain ⟨y25, hy26, hS⟩ := bind_some' hS
      obtain ⟨b27, o28, cs30, he29, hixhe29⟩ := hl_0.elem Tryd.underlying22 Tryd.info9 rfl (P := Tryd.prog) hy26
      obtain rfl : cs30 = [str y25] := he29.rd
      refine sq_ev (v := .pointer (some ⟨b27, o28, none⟩)) (fun w1 hw1 => hixhe29 w1 hw1 rfl rfl) (by decide) ?_
      refine sq_ev (v := str y25) (fun w1 hw1 => ev_load Tryd.isAgg9 rfl ((he29.step (.of_below hw1) (Nat.succ_pos _)).cell 0 _ rfl)) (by decide) ?_
      refine sq_ev (v := .bool (y19 == y25)) (fun w1 hw1 => ev_seq rfl rfl) (by decide) ?_
      refine sq_end (l' := [(0, vl_0), (3, .int .i64 i_3), (4, .int .i64 k_4), (33, .bool (y19 == y25))]) (.cons rfl (.cons rfl (.cons rfl (.cons rfl (.nil _))))) (fun w18 hw17 => ?_)
      replace hb := hb.trans (hw17.mono hb.size)
      replace hA := lt_mono hA hw17.size
      replace hH := hH.below hw17
      replace hl_0 := hl_0.below hw17
      refine ke_cond (t := y19 == y25) rfl (fun hc31 => ?_) (fun hc31 => ?_)
      · replace hS := ite_true' hS hc31
        refine ke_seq ?_
        refine ke_region ?_
        refine sr_ev (v := .int .i64 7) (ev_assign rfl) (by decide) ?_
        refine sr_end (l' := [(2, .int .i64 7)]) (.cons rfl (.nil _)) ?_
        cases hS
        exact ke_ret1 Tryd.func17 rfl rfl ⟨_, rfl, rfl, hb⟩
      · replace hS := ite_false' hS hc31
        refine ke_skip ?_
        refine ke_inBlock ?_
        refine ke_region ?_
        refine sr_ev (v := .int .i64 k_4) (ev_move rfl) (by decide) ?_
        refine sr_ev (v := .int .i64 (IntKind.i64.wrap (k_4 + 1))) (ev_add rfl rfl) (by decide) ?_
        refine sr_ev (v := .int .i64 (IntKind.i64.wrap (k_4 + 1))) (ev_assign rfl) (by decide) ?_
        refine sr_end (l' := [(0, vl_0), (3, .int .i64 i_3), (4, .int .i64 (IntKind.i64.wrap (k_4 + 1)))]) (.cons rfl (.cons rfl (.cons rfl (.nil _)))) ?_
        have hK := hr1 hS hb hA hi hH hl_0
        exact ke_weaken (l' := [(0, vl_0), (3, .int .i64 i_3), (4, .int .i64 (IntKind.i64.wrap (k_4 + 1)))]) (.cons rfl (.cons rfl (.cons rfl (.nil _)))) hK
    · replace hS := ite_false' hS hc16
      refine ke_exit (k' := _) rfl ?_
      refine ke_inBlock ?_
      refine ke_region ?_
      refine sr_ev (v := .int .i64 i_3) (ev_move rfl) (by decide) ?_
      refine sr_ev (v := .int .i64 (IntKind.i64.wrap (i_3 + 1))) (ev_add rfl rfl) (by decide) ?_
      refine sr_ev (v := .int .i64 (IntKind.i64.wrap (i_3 + 1))) (ev_assign rfl) (by decide) ?_
      refine sr_end (l' := [(0, vl_0), (3, .int .i64 (IntKind.i64.wrap (i_3 + 1)))]) (.cons rfl (.cons rfl (.nil _))) ?_
      have hK := hr0 hS hb hA hi hH hl_0
      exact ke_weaken (l' := [(0, vl_0), (3, .int .i64 (IntKind.i64.wrap (i_3 + 1)))]) (.cons rfl (.cons rfl (.nil _))) hK
theorem ref29_Check_L1_ok {w0 : World} (hg : Gs w0) {A0 : Nat → Prop} (hA0 : ∀ b, A0 b → b < w0.heap.size) : ∀ (n : Nat), ∀ {r : Int} {l_0 : List Str} {i_3 : Int} {vl_0 : Value}, ref29_Check_L1 n l_0 i_3 = some r → ∀ {w : World} {A : Nat → Prop}, (Below w0.heap.size w0 w) → (∀ b, A b → b < w.heap.size) → (∀ b, A0 b → A b) → (Hp A w0.heap.size w []) → (SlR strC A w vl_0 l_0) → KE Tryd.prog 17 (Ret (fun v w' => v = .int .i64 r ∧ Below w0.heap.size w0 w')) 34 [.code (sub (bodyOf Tryd.f17) [2, 2, 1, 2, 2, 1]), .inLoop (sub (bodyOf Tryd.f17) [2, 2, 1, 2, 2, 1]), .inBlock 0, .code (sub (bodyOf Tryd.f17) [2, 2, 2])] [(0, vl_0), (3, .int .i64 i_3)] w := by
  intro n
  induction n with
  | zero => intro r l_0 i_3 vl_0 hS; cases hS
  | succ n ih =>
    have hr0 : ∀ {r : Int} {l_0 : List Str} {i_3 : Int} {vl_0 : Value}, ref29_Check_L1 n l_0 i_3 = some r → ∀ {w : World} {A : Nat → Prop}, (Below w0.heap.size w0 w) → (∀ b, A b → b < w.heap.size) → (∀ b, A0 b → A b) → (Hp A w0.heap.size w []) → (SlR strC A w vl_0 l_0) → KE Tryd.prog 17 (Ret (fun v w' => v = .int .i64 r ∧ Below w0.heap.size w0 w')) 34 [.inLoop (sub (bodyOf Tryd.f17) [2, 2, 1, 2, 2, 1]), .inBlock 0, .code (sub (bodyOf Tryd.f17) [2, 2, 2])] [(0, vl_0), (3, .int .i64 i_3)] w := fun {r} {l_0} {i_3} {vl_0} hS {w} {A} hb hA hi hH hl_0 => ke_inLoop (ih hS hb hA hi hH hl_0)
    clear ih
    intro r l_0 i_3 vl_0 hS w A hb hA hi hH hl_0
    unfold ref29_Check_L1 at hS
    refine ke_seq ?_
    refine ke_seq ?_
    refine ke_region ?_
    refine sr_ev (v := .int .i64 i_3) (ev_move rfl) (by decide) ?_
    refine sr_ev (v := vl_0) (ev_move rfl) (by decide) ?_
    refine sr_ev (v := .int .i64 (l_0.length : Int)) (ev_sllen Tryd.underlying22 rfl hl_0) (by decide) ?_
    refine sr_ev (v := .bool (decide (i_3 < (l_0.length : Int)))) (ev_lt rfl rfl) (by decide) ?_
    refine sr_end (l' := [(0, vl_0), (3, .int .i64 i_3), (11, .bool (decide (i_3 < (l_0.length : Int))))]) (.cons rfl (.cons rfl (.cons rfl (.nil _)))) ?_
    refine ke_cond (t := decide (i_3 < (l_0.length : Int))) rfl (fun hc4 => ?_) (fun hc4 => ?_)
    · replace hS := ite_true' hS hc4
      refine ke_skip ?_
      refine ke_seq ?_
      refine ke_block ?_
      refine ke_seq ?_
      refine ke_seq ?_
      refine ke_region ?_
      refine sr_ev (v := vl_0) (ev_move rfl) (by decide) ?_
      refine sr_ev (v := .int .i64 i_3) (ev_move rfl) (by decide) ?_
      obtain ⟨y5, hy6, hS⟩ := bind_some' hS
      refine sr_index hl_0 Tryd.underlying22 Tryd.info9 rfl rfl rfl hy6 (by decide) ?_
      intro b7 o8 cs10 he9
      obtain rfl : cs10 = [str y5] := he9.rd
      refine sr_ev (v := str y5) (ev_load Tryd.isAgg9 rfl (he9.cell 0 _ rfl)) (by decide) ?_
      obtain ⟨y11, hy12, hS⟩ := bind_some' hS
      refine sr_call (vs := [str y5]) rfl Tryd.call34 rfl (ref29_Valid_ok _ (hg.below hb) hy12) (by decide) ?_
      rintro _ w13 ⟨rfl, hbw14⟩
      replace hb := hb.trans (hbw14.mono hb.size)
      replace hA := lt_mono hA hbw14.size
      replace hH := hH.below hbw14
      replace hl_0 := hl_0.below hbw14
      refine sr_ev (v := .bool (!y11)) (ev_not rfl) (by decide) ?_
      refine sr_end (l' := [(0, vl_0), (3, .int .i64 i_3), (19, .bool (!y11))]) (.cons rfl (.cons rfl (.cons rfl (.nil _)))) ?_
      refine ke_cond (t := !y11) rfl (fun hc15 => ?_) (fun hc15 => ?_)
      · replace hS := ite_true' hS hc15
        refine ke_seq ?_
        refine ke_region ?_
        refine sr_ev (v := .int .i64 5) (ev_assign rfl) (by decide) ?_
        refine sr_end (l' := [(2, .int .i64 5)]) (.cons rfl (.nil _)) ?_
        cases hS
        exact ke_ret1 Tryd.func17 rfl rfl ⟨_, rfl, rfl, hb⟩
      · replace hS := ite_false' hS hc15
        refine ke_skip ?_
        refine ke_seq ?_
        refine ke_region ?_
        refine sr_ev (v := .int .i64 0) (ev_assign rfl) (by decide) ?_
        refine sr_end (l' := [(0, vl_0), (3, .int .i64 i_3), (4, .int .i64 0)]) (.cons rfl (.cons rfl (.cons rfl (.nil _)))) ?_
        refine ke_block ?_
        have hK := ref29_Check_L2_ok hg hA0 _ hr0 _ hS hb hA hi hH hl_0
        exact ke_weaken (l' := [(0, vl_0), (3, .int .i64 i_3), (4, .int .i64 0)]) (.cons rfl (.cons rfl (.cons rfl (.nil _)))) (ke_loop hK)
    · replace hS := ite_false' hS hc4
      refine ke_exit (k' := _) rfl ?_
      refine ke_seq ?_
      refine ke_region ?_
      refine sr_ev (v := .int .i64 0) (ev_assign rfl) (by decide) ?_
      refine sr_end (l' := [(2, .int .i64 0)]) (.cons rfl (.nil _)) ?_
      cases hS
      exact ke_ret1 Tryd.func17 rfl rfl ⟨_, rfl, rfl, hb⟩
theorem ref29_Check_ok {A0 : Nat → Prop} (w0 : World) (hg : Gs w0) {l_0 : List Str} {v1 : Value} {r : Int} (h2 : SlR strC A0 w0 v1 l_0) (hS : ref29_Check l_0 = some r) :
    Calls Tryd.prog 17 #[v1] w0 (Ret (fun v w' => v = .int .i64 r ∧ Below w0.heap.size w0 w')) := by
  unfold ref29_Check at hS
  have hb := Below.refl w0.heap.size w0
  replace h2 := h2.weak (A' := fun _ => False) (fun _ h => h.elim)
  obtain ⟨A0, hA0, hAe⟩ : ∃ A0 : Nat → Prop, (∀ b, A0 b → b < w0.heap.size) ∧ A0 = fun _ => False := ⟨_, fun _ h => h.elim, rfl⟩
  rw [← hAe] at h2
  clear hAe
  have hA := hA0
  have hi : ∀ b, A0 b → A0 b := fun _ h => h
  have hH := Hp.nil A0 w0.heap.size w0
  refine calls_of_ke Tryd.func17 rfl (n := 34) rfl rfl (l := [(0, v1)]) rfl ?_
  refine ke_seq ?_
  refine ke_region ?_
  refine sr_ev (v := .int .i64 0) (ev_assign rfl) (by decide) ?_
  refine sr_end (l' := [(0, v1)]) (.cons rfl (.nil _)) ?_
  refine ke_seq ?_
  refine ke_seq ?_
  refine ke_region ?_
  refine sr_ev (v := v1) (ev_move rfl) (by decide) ?_
  refine sr_ev (v := .int .i64 (l_0.length : Int)) (ev_sllen Tryd.underlying22 rfl h2) (by decide) ?_
  refine sr_ev (v := .bool (decide ((l_0.length : Int) > 16))) (ev_gt rfl rfl) (by decide) ?_
  refine sr_end (l' := [(0, v1), (7, .bool (decide ((l_0.length : Int) > 16)))]) (.cons rfl (.cons rfl (.nil _))) ?_
  refine ke_cond (t := decide ((l_0.length : Int) > 16)) rfl (fun hc3 => ?_) (fun hc3 => ?_)
  · replace hS := ite_true' hS hc3
    refine ke_seq ?_
    refine ke_region ?_
    refine sr_ev (v := .int .i64 3) (ev_assign rfl) (by decide) ?_
    refine sr_end (l' := [(2, .int .i64 3)]) (.cons rfl (.nil _)) ?_
    cases hS
    exact ke_ret1 Tryd.func17 rfl rfl ⟨_, rfl, rfl, hb⟩
  · replace hS := ite_false' hS hc3
    refine ke_skip ?_
    refine ke_seq ?_
    refine ke_seq ?_
    refine ke_region ?_
    refine sr_ev (v := .int .i64 0) (ev_assign rfl) (by decide) ?_
    refine sr_end (l' := [(0, v1), (3, .int .i64 0)]) (.cons rfl (.cons rfl (.nil _))) ?_
    refine ke_block ?_
    have hK := ref29_Check_L1_ok hg hA0 _ hS hb hA hi hH h2
    exact ke_weaken (l' := [(0, v1), (3, .int .i64 0)]) (.cons rfl (.cons rfl (.nil _))) (ke_loop hK)
theorem ref29_Text_B2_ok {w0 : World} (hg : Gs w0) {A0 : Nat → Prop} (hA0 : ∀ b, A0 b → b < w0.heap.size) (r0 : List Str → Str → Int → Option (Str × Int))
    (hr0 : ∀ {r : Str × Int} {l_0 : List Str} {s_5 : Str} {i_6 : Int} {vl_0 : Value}, r0 l_0 s_5 i_6 = some r → ∀ {w : World} {A : Nat → Prop}, (Below w0.heap.size w0 w) → (∀ b, A b → b < w.heap.size) → (∀ b, A0 b → A b) → (Hp A w0.heap.size w []) → (SlR strC A w vl_0 l_0) → KE Tryd.prog 13 (Ret (fun v w' => v = .tuple #[str r.1, .int .i64 r.2] ∧ Below w0.heap.size w0 w')) 29 [.inLoop (sub (bodyOf Tryd.f13) [2, 2, 2, 1, 2, 2, 1]), .inBlock 0, .code (sub (bodyOf Tryd.f13) [2, 2, 2, 2])] [(0, vl_0), (5, str s_5), (6, .int .i64 i_6)] w) {r : Str × Int} {l_0 : List Str} {s_5 : Str} {i_6 : Int} {vl_0 : Value} (hS : ref29_Text_B2 r0 l_0 s_5 i_6 = some r) {w : World} {A : Nat → Prop} (hb : Below w0.heap.size w0 w) (hA : ∀ b, A b → b < w.heap.size) (hi : ∀ b, A0 b → A b) (hH : Hp A w0.heap.size w []) (hl_0 : SlR strC A w vl_0 l_0) :
    KE Tryd.prog 13 (Ret (fun v w' => v = .tuple #[str r.1, .int .i64 r.2] ∧ Below w0.heap.size w0 w')) 29 [.code (sub (bodyOf Tryd.f13) [2, 2, 2, 1, 2, 2, 1, 2, 1, 2, 2]), .inBlock 1, .code (sub (bodyOf Tryd.f13) [2, 2, 2, 1, 2, 2, 1, 2, 2]), .inLoop (sub (bodyOf Tryd.f13) [2, 2, 2, 1, 2, 2, 1]), .inBlock 0, .code (sub (bodyOf Tryd.f13) [2, 2, 2, 2])] [(0, vl_0), (5, str s_5), (6, .int .i64 i_6)] w := by
  unfold ref29_Text_B2 at hS
  refine ke_region ?_
  refine sr_ev (v := str s_5) (ev_move rfl) (by decide) ?_
  refine sr_ev (v := vl_0) (ev_move rfl) (by decide) ?_
  refine sr_ev (v := .int .i64 i_6) (ev_move rfl) (by decide) ?_
  obtain ⟨y11, hy12, hS⟩ := bind_some' hS
  refine sr_index hl_0 Tryd.underlying22 Tryd.info9 rfl rfl rfl hy12 (by decide) ?_
  intro b13 o14 cs16 he15
  obtain rfl : cs16 = [str y11] := he15.rd
  refine sr_ev (v := str y11) (ev_load Tryd.isAgg9 rfl (he15.cell 0 _ rfl)) (by decide) ?_
  obtain ⟨hk17, hS⟩ := chk_some hS
  refine sr_ev (v := str (s_5 ++ y11)) (ev_cat rfl rfl hk17) (by decide) ?_
  refine sr_ev (v := str (s_5 ++ y11)) (ev_assign rfl) (by decide) ?_
  refine sr_end (l' := [(0, vl_0), (5, str (s_5 ++ y11)), (6, .int .i64 i_6)]) (.cons rfl (.cons rfl (.cons rfl (.nil _)))) ?_
  refine ke_inBlock ?_
  refine ke_region ?_
  refine sr_ev (v := .int .i64 i_6) (ev_move rfl) (by decide) ?_
  refine sr_ev (v := .int .i64 (IntKind.i64.wrap (i_6 + 1))) (ev_add rfl rfl) (by decide) ?_
  refine sr_ev (v := .int .i64 (IntKind.i64.wrap (i_6 + 1))) (ev_assign rfl) (by decide) ?_
  refine sr_end (l' := [(0, vl_0), (5, str (s_5 ++ y11)), (6, .int .i64 (IntKind.i64.wrap (i_6 + 1)))]) (.cons rfl (.cons rfl (.cons rfl (.nil _)))) ?_
  have hK := hr0 hS hb hA hi hH hl_0
  exact ke_weaken (l' := [(0, vl_0), (5, str (s_5 ++ y11)), (6, .int .i64 (IntKind.i64.wrap (i_6 + 1)))]) (.cons rfl (.cons rfl (.cons rfl (.nil _)))) hK
theorem ref29_Text_L1_ok {w0 : World} (hg : Gs w0) {A0 : Nat → Prop} (hA0 : ∀ b, A0 b → b < w0.heap.size) : ∀ (n : Nat), ∀ {r : Str × Int} {l_0 : List Str} {s_5 : Str} {i_6 : Int} {vl_0 : Value}, ref29_Text_L1 n l_0 s_5 i_6 = some r → ∀ {w : World} {A : Nat → Prop}, (Below w0.heap.size w0 w) → (∀ b, A b → b < w.heap.size) → (∀ b, A0 b → A b) → (Hp A w0.heap.size w []) → (SlR strC A w vl_0 l_0) → KE Tryd.prog 13 (Ret (fun v w' => v = .tuple #[str r.1, .int .i64 r.2] ∧ Below w0.heap.size w0 w')) 29 [.code (sub (bodyOf Tryd.f13) [2, 2, 2, 1, 2, 2, 1]), .inLoop (sub (bodyOf Tryd.f13) [2, 2, 2, 1, 2, 2, 1]), .inBlock 0, .code (sub (bodyOf Tryd.f13) [2, 2, 2, 2])] [(0, vl_0), (5, str s_5), (6, .int .i64 i_6)] w := by
  intro n
  induction n with
  | zero => intro r l_0 s_5 i_6 vl_0 hS; cases hS
  | succ n ih =>
    have hr0 : ∀ {r : Str × Int} {l_0 : List Str} {s_5 : Str} {i_6 : Int} {vl_0 : Value}, ref29_Text_L1 n l_0 s_5 i_6 = some r → ∀ {w : World} {A : Nat → Prop}, (Below w0.heap.size w0 w) → (∀ b, A b → b < w.heap.size) → (∀ b, A0 b → A b) → (Hp A w0.heap.size w []) → (SlR strC A w vl_0 l_0) → KE Tryd.prog 13 (Ret (fun v w' => v = .tuple #[str r.1, .int .i64 r.2] ∧ Below w0.heap.size w0 w')) 29 [.inLoop (sub (bodyOf Tryd.f13) [2, 2, 2, 1, 2, 2, 1]), .inBlock 0, .code (sub (bodyOf Tryd.f13) [2, 2, 2, 2])] [(0, vl_0), (5, str s_5), (6, .int .i64 i_6)] w := fun {r} {l_0} {s_5} {i_6} {vl_0} hS {w} {A} hb hA hi hH hl_0 => ke_inLoop (ih hS hb hA hi hH hl_0)
    clear ih
    intro r l_0 s_5 i_6 vl_0 hS w A hb hA hi hH hl_0
    unfold ref29_Text_L1 at hS
    refine ke_seq ?_
    refine ke_seq ?_
    refine ke_region ?_
    refine sr_ev (v := .int .i64 i_6) (ev_move rfl) (by decide) ?_
    refine sr_ev (v := vl_0) (ev_move rfl) (by decide) ?_
    refine sr_ev (v := .int .i64 (l_0.length : Int)) (ev_sllen Tryd.underlying22 rfl hl_0) (by decide) ?_
    refine sr_ev (v := .bool (decide (i_6 < (l_0.length : Int)))) (ev_lt rfl rfl) (by decide) ?_
    refine sr_end (l' := [(0, vl_0), (5, str s_5), (6, .int .i64 i_6), (15, .bool (decide (i_6 < (l_0.length : Int))))]) (.cons rfl (.cons rfl (.cons rfl (.cons rfl (.nil _))))) ?_
    refine ke_cond (t := decide (i_6 < (l_0.length : Int))) rfl (fun hc8 => ?_) (fun hc8 => ?_)
    · replace hS := ite_true' hS hc8
      refine ke_skip ?_
      refine ke_seq ?_
      refine ke_block ?_
      refine ke_seq ?_
      refine ke_seq ?_
      refine ke_region ?_
      refine sr_ev (v := .int .i64 i_6) (ev_move rfl) (by decide) ?_
      refine sr_ev (v := .bool (decide (i_6 > 0))) (ev_gt rfl rfl) (by decide) ?_
      refine sr_end (l' := [(0, vl_0), (5, str s_5), (6, .int .i64 i_6), (19, .bool (decide (i_6 > 0)))]) (.cons rfl (.cons rfl (.cons rfl (.cons rfl (.nil _))))) ?_
      refine ke_cond (t := decide (i_6 > 0)) rfl (fun hc9 => ?_) (fun hc9 => ?_)
      · replace hS := ite_true' hS hc9
        refine ke_region ?_
        refine sr_ev (v := str s_5) (ev_move rfl) (by decide) ?_
        obtain ⟨hk10, hS⟩ := chk_some hS
        refine sr_ev (v := str (s_5 ++ ([32]))) (ev_cat rfl rfl hk10) (by decide) ?_
        refine sr_ev (v := str (s_5 ++ ([32]))) (ev_assign rfl) (by decide) ?_
        refine sr_end (l' := [(0, vl_0), (5, str (s_5 ++ ([32]))), (6, .int .i64 i_6)]) (.cons rfl (.cons rfl (.cons rfl (.nil _)))) ?_
        have hK := ref29_Text_B2_ok hg hA0 _ hr0 hS hb hA hi hH hl_0
        exact ke_weaken (l' := [(0, vl_0), (5, str (s_5 ++ ([32]))), (6, .int .i64 i_6)]) (.cons rfl (.cons rfl (.cons rfl (.nil _)))) hK
      · replace hS := ite_false' hS hc9
        refine ke_skip ?_
        have hK := ref29_Text_B2_ok hg hA0 _ hr0 hS hb hA hi hH hl_0
        exact ke_weaken (l' := [(0, vl_0), (5, str s_5), (6, .int .i64 i_6)]) (.cons rfl (.cons rfl (.cons rfl (.nil _)))) hK
    · replace hS := ite_false' hS hc8
      refine ke_exit (k' := _) rfl ?_
      refine ke_seq ?_
      refine ke_region ?_
      refine sr_ev (v := str s_5) (ev_move rfl) (by decide) ?_
      refine sr_ev (v := str s_5) (ev_assign rfl) (by decide) ?_
      refine sr_ev (v := .int .i64 0) (ev_assign rfl) (by decide) ?_
      refine sr_end (l' := [(2, str s_5), (3, .int .i64 0)]) (.cons rfl (.cons rfl (.nil _))) ?_
      cases hS
      exact ke_ret2 Tryd.func13 rfl rfl rfl ⟨_, rfl, rfl, hb⟩
theorem ref29_Text_ok {A0 : Nat → Prop} (w0 : World) (hg : Gs w0) {l_0 : List Str} {v1 : Value} {r : Str × Int} (h2 : SlR strC A0 w0 v1 l_0) (hS : ref29_Text l_0 = some r) :
    Calls Tryd.prog 13 #[v1] w0 (Ret (fun v w' => v = .tuple #[str r.1, .int .i64 r.2] ∧ Below w0.heap.size w0 w')) := by
  unfold ref29_Text at hS
  have hb := Below.refl w0.heap.size w0
  replace h2 := h2.weak (A' := fun _ => False) (fun _ h => h.elim)
  obtain ⟨A0, hA0, hAe⟩ : ∃ A0 : Nat → Prop, (∀ b, A0 b → b < w0.heap.size) ∧ A0 = fun _ => False := ⟨_, fun _ h => h.elim, rfl⟩
  rw [← hAe] at h2
  clear hAe
  have hA := hA0
  have hi : ∀ b, A0 b → A0 b := fun _ h => h
  have hH := Hp.nil A0 w0.heap.size w0
  refine calls_of_ke Tryd.func13 rfl (n := 29) rfl rfl (l := [(0, v1)]) rfl ?_
  refine ke_seq ?_
  refine ke_region ?_
  refine sr_ev (v := str ([])) (ev_assign rfl) (by decide) ?_
  refine sr_ev (v := .int .i64 0) (ev_assign rfl) (by decide) ?_
  refine sr_end (l' := [(0, v1)]) (.cons rfl (.nil _)) ?_
  refine ke_seq ?_
  refine ke_seq ?_
  refine ke_region ?_
  refine sr_ev (v := v1) (ev_move rfl) (by decide) ?_
  obtain ⟨y3, hy4, hS⟩ := bind_some' hS
  refine sr_call (vs := [v1]) rfl Tryd.call17 rfl (ref29_Check_ok _ (hg.below hb) h2 hy4) (by decide) ?_
  rintro _ w5 ⟨rfl, hbw6⟩
  replace hb := hb.trans (hbw6.mono hb.size)
  replace hA := lt_mono hA hbw6.size
  replace hH := hH.below hbw6
  replace h2 := h2.below hbw6
  refine sr_ev (v := .int .i64 y3) (ev_assign rfl) (by decide) ?_
  refine sr_end (l' := [(0, v1), (4, .int .i64 y3)]) (.cons rfl (.cons rfl (.nil _))) ?_
  refine ke_seq ?_
  refine ke_region ?_
  refine sr_ev (v := .int .i64 y3) (ev_move rfl) (by decide) ?_
  refine sr_ev (v := .bool (y3 != 0)) (ev_ne rfl rfl) (by decide) ?_
  refine sr_end (l' := [(0, v1), (4, .int .i64 y3), (10, .bool (y3 != 0))]) (.cons rfl (.cons rfl (.cons rfl (.nil _)))) ?_
  refine ke_cond (t := y3 != 0) rfl (fun hc7 => ?_) (fun hc7 => ?_)
  · replace hS := ite_true' hS hc7
    refine ke_seq ?_
    refine ke_region ?_
    refine sr_ev (v := .int .i64 y3) (ev_move rfl) (by decide) ?_
    refine sr_ev (v := str ([])) (ev_assign rfl) (by decide) ?_
    refine sr_ev (v := .int .i64 y3) (ev_assign rfl) (by decide) ?_
    refine sr_end (l' := [(2, str ([])), (3, .int .i64 y3)]) (.cons rfl (.cons rfl (.nil _))) ?_
    cases hS
    exact ke_ret2 Tryd.func13 rfl rfl rfl ⟨_, rfl, rfl, hb⟩
  · replace hS := ite_false' hS hc7
    refine ke_skip ?_
    refine ke_seq ?_
    refine ke_region ?_
    refine sr_ev (v := str ([])) (ev_assign rfl) (by decide) ?_
    refine sr_end (l' := [(0, v1), (5, str ([]))]) (.cons rfl (.cons rfl (.nil _))) ?_
    refine ke_seq ?_
    refine ke_seq ?_
    refine ke_region ?_
    refine sr_ev (v := .int .i64 0) (ev_assign rfl) (by decide) ?_
    refine sr_end (l' := [(0, v1), (5, str ([])), (6, .int .i64 0)]) (.cons rfl (.cons rfl (.cons rfl (.nil _)))) ?_
    refine ke_block ?_
    have hK := ref29_Text_L1_ok hg hA0 _ hS hb hA hi hH h2
    exact ke_weaken (l' := [(0, v1), (5, str ([])), (6, .int .i64 0)]) (.cons rfl (.cons rfl (.cons rfl (.nil _)))) (ke_loop hK)
theorem ref29_Parse_B2_ok {w0 : World} (hg : Gs w0) {A0 : Nat → Prop} (hA0 : ∀ b, A0 b → b < w0.heap.size) (r0 : Str → List Str → Int → Int → Option ((List Str) × Int))
    (hr0 : ∀ {r : (List Str) × Int} {s_0 : Str} {out_4 : List Str} {from_5 : Int} {i_6 : Int} {vout_4 : Value}, r0 s_0 out_4 from_5 i_6 = some r → ∀ {w : World} {A : Nat → Prop}, (Below w0.heap.size w0 w) → (∀ b, A b → b < w.heap.size) → (∀ b, A0 b → A b) → (Hp A w0.heap.size w []) → (OwnS strC 9 A w0.heap.size w vout_4 out_4) → (Dj vout_4 []) → KE Tryd.prog 15 (Ret (fun v w' => ∃ x1, v = .tuple #[x1, .int .i64 r.2] ∧ SlR strC A0 w' x1 r.1 ∧ Below w0.heap.size w0 w')) 41 [.inLoop (sub (bodyOf Tryd.f15) [2, 2, 2, 2, 1, 2, 2, 1]), .inBlock 0, .code (sub (bodyOf Tryd.f15) [2, 2, 2, 2, 2])] [(0, str s_0), (4, vout_4), (5, .int .i64 from_5), (6, .int .i64 i_6)] w) {r : (List Str) × Int} {s_0 : Str} {out_4 : List Str} {from_5 : Int} {i_6 : Int} {vout_4 : Value} (hS : ref29_Parse_B2 r0 s_0 out_4 from_5 i_6 = some r) {w : World} {A : Nat → Prop} (hb : Below w0.heap.size w0 w) (hA : ∀ b, A b → b < w.heap.size) (hi : ∀ b, A0 b → A b) (hH : Hp A w0.heap.size w []) (hout_4 : OwnS strC 9 A w0.heap.size w vout_4 out_4) (dout_4 : Dj vout_4 []) :
    KE Tryd.prog 15 (Ret (fun v w' => ∃ x1, v = .tuple #[x1, .int .i64 r.2] ∧ SlR strC A0 w' x1 r.1 ∧ Below w0.heap.size w0 w')) 41 [.inBlock 1, .code (sub (bodyOf Tryd.f15) [2, 2, 2, 2, 1, 2, 2, 1, 2, 2]), .inLoop (sub (bodyOf Tryd.f15) [2, 2, 2, 2, 1, 2, 2, 1]), .inBlock 0, .code (sub (bodyOf Tryd.f15) [2, 2, 2, 2, 2])] [(0, str s_0), (4, vout_4), (5, .int .i64 from_5), (6, .int .i64 i_6)] w := by
  unfold ref29_Parse_B2 at hS
  refine ke_inBlock ?_
  refine ke_region ?_
  refine sr_ev (v := .int .i64 i_6) (ev_move rfl) (by decide) ?_
  refine sr_ev (v := .int .i64 (IntKind.i64.wrap (i_6 + 1))) (ev_add rfl rfl) (by decide) ?_
  refine sr_ev (v := .int .i64 (IntKind.i64.wrap (i_6 + 1))) (ev_assign rfl) (by decide) ?_
  refine sr_end (l' := [(0, str s_0), (4, vout_4), (5, .int .i64 from_5), (6, .int .i64 (IntKind.i64.wrap (i_6 + 1)))]) (.cons rfl (.cons rfl (.cons rfl (.cons rfl (.nil _))))) ?_
  have hK := hr0 hS hb hA hi hH hout_4 dout_4
  exact ke_weaken (l' := [(0, str s_0), (4, vout_4), (5, .int .i64 from_5), (6, .int .i64 (IntKind.i64.wrap (i_6 + 1)))]) (.cons rfl (.cons rfl (.cons rfl (.cons rfl (.nil _))))) hK

end YtlmnhekpgjgndaaDoor
end Go.Proofs
