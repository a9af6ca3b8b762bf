/- Own work: a part of the proofs of this seat. -/
import Derived.Test.YtnhlljejhjbepaaDoorProg
import Derived.Test.YtnhlljejhjbepaaDoorShelf
import Derived.Test.YtnhlljejhjbepaaDoorKwDS
import Derived.KernelRfl
set_option linter.unusedVariables false
set_option maxHeartbeats 8000000
namespace Go.Proofs
namespace YtnhlljejhjbepaaDoor
open Go Go.KW Go.KW.S Go.RowKit
theorem Tryd.mixed : Tryd.prog.follows .mixedOrders = true := by kernel_rfl
theorem Tryd.info0 : Tryd.prog.info? 0 = some Tryd.t0 := by kernel_rfl
theorem Tryd.info1 : Tryd.prog.info? 1 = some Tryd.t1 := by kernel_rfl
theorem Tryd.info2 : Tryd.prog.info? 2 = some Tryd.t2 := by kernel_rfl
theorem Tryd.info3 : Tryd.prog.info? 3 = some Tryd.t3 := by kernel_rfl
theorem Tryd.info4 : Tryd.prog.info? 4 = some Tryd.t4 := by kernel_rfl
theorem Tryd.info5 : Tryd.prog.info? 5 = some Tryd.t5 := by kernel_rfl
theorem Tryd.info6 : Tryd.prog.info? 6 = some Tryd.t6 := by kernel_rfl
theorem Tryd.info7 : Tryd.prog.info? 7 = some Tryd.t7 := by kernel_rfl
theorem Tryd.info8 : Tryd.prog.info? 8 = some Tryd.t8 := by kernel_rfl
theorem Tryd.info9 : Tryd.prog.info? 9 = some Tryd.t9 := by kernel_rfl
theorem Tryd.info10 : Tryd.prog.info? 10 = some Tryd.t10 := by kernel_rfl
theorem Tryd.info11 : Tryd.prog.info? 11 = some Tryd.t11 := by kernel_rfl
theorem Tryd.info12 : Tryd.prog.info? 12 = some Tryd.t12 := by kernel_rfl
theorem Tryd.info13 : Tryd.prog.info? 13 = some Tryd.t13 := by kernel_rfl
theorem Tryd.info14 : Tryd.prog.info? 14 = some Tryd.t14 := by kernel_rfl
theorem Tryd.info15 : Tryd.prog.info? 15 = some Tryd.t15 := by kernel_rfl
theorem Tryd.info16 : Tryd.prog.info? 16 = some Tryd.t16 := by kernel_rfl
theorem Tryd.info17 : Tryd.prog.info? 17 = some Tryd.t17 := by kernel_rfl
theorem Tryd.info18 : Tryd.prog.info? 18 = some Tryd.t18 := by kernel_rfl
theorem Tryd.info19 : Tryd.prog.info? 19 = some Tryd.t19 := by kernel_rfl
theorem Tryd.info20 : Tryd.prog.info? 20 = some Tryd.t20 := by kernel_rfl
theorem Tryd.info21 : Tryd.prog.info? 21 = some Tryd.t21 := by kernel_rfl
theorem Tryd.info22 : Tryd.prog.info? 22 = some Tryd.t22 := by kernel_rfl
theorem Tryd.info23 : Tryd.prog.info? 23 = some Tryd.t23 := by kernel_rfl
theorem Tryd.info24 : Tryd.prog.info? 24 = some Tryd.t24 := by kernel_rfl
theorem Tryd.info25 : Tryd.prog.info? 25 = some Tryd.t25 := by kernel_rfl
theorem Tryd.info26 : Tryd.prog.info? 26 = some Tryd.t26 := by kernel_rfl
theorem Tryd.info27 : Tryd.prog.info? 27 = some Tryd.t27 := by kernel_rfl
theorem Tryd.info28 : Tryd.prog.info? 28 = some Tryd.t28 := by kernel_rfl
theorem Tryd.info29 : Tryd.prog.info? 29 = some Tryd.t29 := by kernel_rfl
theorem Tryd.info30 : Tryd.prog.info? 30 = some Tryd.t30 := by kernel_rfl
theorem Tryd.info31 : Tryd.prog.info? 31 = some Tryd.t31 := by kernel_rfl
theorem Tryd.info32 : Tryd.prog.info? 32 = some Tryd.t32 := by kernel_rfl
theorem Tryd.info33 : Tryd.prog.info? 33 = some Tryd.t33 := by kernel_rfl
theorem Tryd.info34 : Tryd.prog.info? 34 = some Tryd.t34 := by kernel_rfl
theorem Tryd.info35 : Tryd.prog.info? 35 = some Tryd.t35 := by kernel_rfl
theorem Tryd.info36 : Tryd.prog.info? 36 = some Tryd.t36 := by kernel_rfl
theorem Tryd.info37 : Tryd.prog.info? 37 = some Tryd.t37 := by kernel_rfl
theorem Tryd.info38 : Tryd.prog.info? 38 = some Tryd.t38 := by kernel_rfl
theorem Tryd.info39 : Tryd.prog.info? 39 = some Tryd.t39 := by kernel_rfl
theorem Tryd.info40 : Tryd.prog.info? 40 = some Tryd.t40 := by kernel_rfl
theorem Tryd.info41 : Tryd.prog.info? 41 = some Tryd.t41 := by kernel_rfl
theorem Tryd.info42 : Tryd.prog.info? 42 = some Tryd.t42 := by kernel_rfl
theorem Tryd.info43 : Tryd.prog.info? 43 = some Tryd.t43 := by kernel_rfl
theorem Tryd.info44 : Tryd.prog.info? 44 = some Tryd.t44 := by kernel_rfl
theorem Tryd.info45 : Tryd.prog.info? 45 = some Tryd.t45 := by kernel_rfl
theorem Tryd.info46 : Tryd.prog.info? 46 = some Tryd.t46 := by kernel_rfl
theorem Tryd.info47 : Tryd.prog.info? 47 = some Tryd.t47 := by kernel_rfl
theorem Tryd.info48 : Tryd.prog.info? 48 = some Tryd.t48 := by kernel_rfl
theorem Tryd.info49 : Tryd.prog.info? 49 = some Tryd.t49 := by kernel_rfl
theorem Tryd.info50 : Tryd.prog.info? 50 = some Tryd.t50 := by kernel_rfl
theorem Tryd.info51 : Tryd.prog.info? 51 = some Tryd.t51 := by kernel_rfl
theorem Tryd.info52 : Tryd.prog.info? 52 = some Tryd.t52 := by kernel_rfl
theorem Tryd.info53 : Tryd.prog.info? 53 = some Tryd.t53 := by kernel_rfl
theorem Tryd.info54 : Tryd.prog.info? 54 = some Tryd.t54 := by kernel_rfl
theorem Tryd.info55 : Tryd.prog.info? 55 = some Tryd.t55 := by kernel_rfl
theorem Tryd.info56 : Tryd.prog.info? 56 = some Tryd.t56 := by kernel_rfl
theorem Tryd.info57 : Tryd.prog.info? 57 = some Tryd.t57 := by kernel_rfl
theorem Tryd.info58 : Tryd.prog.info? 58 = some Tryd.t58 := by kernel_rfl
theorem Tryd.info59 : Tryd.prog.info? 59 = some Tryd.t59 := by kernel_rfl
theorem Tryd.info60 : Tryd.prog.info? 60 = some Tryd.t60 := by kernel_rfl
theorem Tryd.info61 : Tryd.prog.info? 61 = some Tryd.t61 := by kernel_rfl
theorem Tryd.info62 : Tryd.prog.info? 62 = some Tryd.t62 := by kernel_rfl
theorem Tryd.info63 : Tryd.prog.info? 63 = some Tryd.t63 := by kernel_rfl
theorem Tryd.info64 : Tryd.prog.info? 64 = some Tryd.t64 := by kernel_rfl
theorem Tryd.info65 : Tryd.prog.info? 65 = some Tryd.t65 := by kernel_rfl
theorem Tryd.info66 : Tryd.prog.info? 66 = some Tryd.t66 := by kernel_rfl
theorem Tryd.info67 : Tryd.prog.info? 67 = some Tryd.t67 := by kernel_rfl
theorem Tryd.info68 : Tryd.prog.info? 68 = some Tryd.t68 := by kernel_rfl
theorem Tryd.info69 : Tryd.prog.info? 69 = some Tryd.t69 := by kernel_rfl
theorem Tryd.info70 : Tryd.prog.info? 70 = some Tryd.t70 := by kernel_rfl
theorem Tryd.info71 : Tryd.prog.info? 71 = some Tryd.t71 := by kernel_rfl
theorem Tryd.info72 : Tryd.prog.info? 72 = some Tryd.t72 := by kernel_rfl
theorem Tryd.info73 : Tryd.prog.info? 73 = some Tryd.t73 := by kernel_rfl
theorem Tryd.info74 : Tryd.prog.info? 74 = some Tryd.t74 := by kernel_rfl
theorem Tryd.info75 : Tryd.prog.info? 75 = some Tryd.t75 := by kernel_rfl
theorem Tryd.info76 : Tryd.prog.info? 76 = some Tryd.t76 := by kernel_rfl
theorem Tryd.info77 : Tryd.prog.info? 77 = some Tryd.t77 := by kernel_rfl
theorem Tryd.info78 : Tryd.prog.info? 78 = some Tryd.t78 := by kernel_rfl
theorem Tryd.info79 : Tryd.prog.info? 79 = some Tryd.t79 := by kernel_rfl
theorem Tryd.info80 : Tryd.prog.info? 80 = some Tryd.t80 := by kernel_rfl
theorem Tryd.info81 : Tryd.prog.info? 81 = some Tryd.t81 := by kernel_rfl
theorem Tryd.info82 : Tryd.prog.info? 82 = some Tryd.t82 := by kernel_rfl
theorem Tryd.info83 : Tryd.prog.info? 83 = some Tryd.t83 := by kernel_rfl
theorem Tryd.info84 : Tryd.prog.info? 84 = some Tryd.t84 := by kernel_rfl
theorem Tryd.info85 : Tryd.prog.info? 85 = some Tryd.t85 := by kernel_rfl
theorem Tryd.info86 : Tryd.prog.info? 86 = some Tryd.t86 := by kernel_rfl
theorem Tryd.info87 : Tryd.prog.info? 87 = some Tryd.t87 := by kernel_rfl
theorem Tryd.info88 : Tryd.prog.info? 88 = some Tryd.t88 := by kernel_rfl
theorem Tryd.info89 : Tryd.prog.info? 89 = some Tryd.t89 := by kernel_rfl
theorem Tryd.info90 : Tryd.prog.info? 90 = some Tryd.t90 := by kernel_rfl
theorem Tryd.info91 : Tryd.prog.info? 91 = some Tryd.t91 := by kernel_rfl
theorem Tryd.info92 : Tryd.prog.info? 92 = some Tryd.t92 := by kernel_rfl
theorem Tryd.info93 : Tryd.prog.info? 93 = some Tryd.t93 := by kernel_rfl
theorem Tryd.info94 : Tryd.prog.info? 94 = some Tryd.t94 := by kernel_rfl
theorem Tryd.info95 : Tryd.prog.info? 95 = some Tryd.t95 := by kernel_rfl
theorem Tryd.info96 : Tryd.prog.info? 96 = some Tryd.t96 := by kernel_rfl
theorem Tryd.info97 : Tryd.prog.info? 97 = some Tryd.t97 := by kernel_rfl
theorem Tryd.info98 : Tryd.prog.info? 98 = some Tryd.t98 := by kernel_rfl
theorem Tryd.info99 : Tryd.prog.info? 99 = some Tryd.t99 := by kernel_rfl
theorem Tryd.info100 : Tryd.prog.info? 100 = some Tryd.t100 := by kernel_rfl
theorem Tryd.info101 : Tryd.prog.info? 101 = some Tryd.t101 := by kernel_rfl
theorem Tryd.info102 : Tryd.prog.info? 102 = some Tryd.t102 := by kernel_rfl
theorem Tryd.info103 : Tryd.prog.info? 103 = some Tryd.t103 := by kernel_rfl
theorem Tryd.info104 : Tryd.prog.info? 104 = some Tryd.t104 := by kernel_rfl
theorem Tryd.info105 : Tryd.prog.info? 105 = some Tryd.t105 := by kernel_rfl
theorem Tryd.info106 : Tryd.prog.info? 106 = some Tryd.t106 := by kernel_rfl
theorem Tryd.info107 : Tryd.prog.info? 107 = some Tryd.t107 := by kernel_rfl
theorem Tryd.info108 : Tryd.prog.info? 108 = some Tryd.t108 := by kernel_rfl
theorem Tryd.info109 : Tryd.prog.info? 109 = some Tryd.t109 := by kernel_rfl
theorem Tryd.info110 : Tryd.prog.info? 110 = some Tryd.t110 := by kernel_rfl
structure Gs (w : World) : Prop where
  tab0_ : ∀ i x, idx tab_digest_digits i = some x → w.cell? ⟨0, 0 + i.toNat * 1, none⟩ = some (.int .u8 x)
  pow10_ : Lib.TabIs Tryd.prog w "internal/strconv.uint64pow10" .u64 Lib.pow10Tab
  iv6_ : ∃ m, w.cell? ⟨6, 0, none⟩ = some (.int .i64 m)
theorem Gs.below {w w' : World} (h : Gs w) (s : Below w.heap.size w w') : Gs w' := ⟨fun i x hx => cell_below (h.tab0_ i x hx) s, tabIs_below h.pow10_ s, h.iv6_.imp fun _ hm => cell_below hm s⟩
theorem Gs.tab0 {w : World} (h : Gs w) {i x : Int} (hx : idx tab_digest_digits i = some x) : w.cell? ⟨0, 0 + i.toNat * 1, none⟩ = some (.int .u8 x) := h.tab0_ i x hx
theorem lib_Clone_ok {w : World} {A A1 : Nat → Prop} {B : Nat} {v : Value} {xs r : List Str} (hv : SlR strC A1 w v xs) (hA : ∀ b, A b → b < w.heap.size) (hB : B ≤ w.heap.size) (hS : lib_Clone xs = some r) :
    Calls Tryd.prog 46 #[v] w (Ret (Fresh strC 9 A B w r)) :=
  clone_ok (fun b off n c zs w h1 h2 h3 => Tryd.slices_Clone_string b off n c zs w h1 h2 h3) (fun n c w => Tryd.slices_Clone_string_nil n c w) (fun a c w => Tryd.slices_Clone_string_zero a c w) hv hA hB hS
theorem lib_Delete_ok {w : World} {A : Nat → Prop} {B : Nat} {E : TypeId} {xs ys : List Str} {i j : Int} {v : Value} (hv : OwnS strC E A B w v xs) (hB : B ≤ w.heap.size) (hS : lib_Delete xs i j = some ys) :
    Calls Tryd.prog 45 #[v, .int .i64 i, .int .i64 j] w (Ret fun u w' => OwnS strC E A B w' u ys ∧ St A w A w' ∧ Below B w w' ∧ (∀ b, b < w.heap.size → v.ownBlock ≠ some b → w'.heap[b]? = w.heap[b]?) ∧ ∀ b, u.ownBlock = some b → v.ownBlock = some b) :=
  delete_ok (fun blk off cap i j zs w h1 h2 h3 h4 h5 => Tryd.slices_Delete_string blk off cap i j zs w h1 h2 h3 h4 h5) (fun a c w => Tryd.slices_Delete_string_empty a c w) hv hB hS
theorem lib_Itoa_ok (w0 : World) (hg : Gs w0) {n : Int} {r : Str} (hS : lib_Itoa n = some r) : Calls Tryd.prog 48 #[.int .i64 n] w0 (Ret fun v w' => v = str r ∧ Below w0.heap.size w0 w') :=
  itoa_ok (fun n w h0 h1 ht => Tryd.strconv_Itoa n h0 h1 w ht) hg.pow10_ hS
theorem lib_Trim_ok (w0 : World) (hg : Gs w0) {s t : Str} {r : Str} (hS : lib_Trim s t = some r) : Calls Tryd.prog 57 #[str s, str t] w0 (Ret fun v w' => v = str r ∧ Below w0.heap.size w0 w') :=
  trim_ok (fun s c hc w hs => Tryd.strings_Trim_one s c hc w hs) hS
theorem fold_Trim_ok (w0 : World) (hg : Gs w0) {s_0 : Str} {r : Str} (hS : fold_Trim s_0 = some r) :
    Calls Tryd.prog 50 #[str s_0] w0 (Ret (fun v w' => v = str r ∧ Below w0.heap.size w0 w')) := by
  unfold fold_Trim at hS
  have hb := Below.refl w0.heap.size w0
  refine calls_of_ke Tryd.func50 rfl (n := 5) rfl rfl (l := [(0, str s_0)]) rfl ?_
  refine ke_seq ?_
  refine ke_region ?_
  refine sr_ev (v := str ([])) (ev_assign rfl) (by decide) ?_
  refine sr_end (l' := [(0, str s_0)]) (.cons rfl (.nil _)) ?_
  refine ke_seq ?_
  refine ke_region ?_
  refine sr_ev (v := str s_0) (ev_move rfl) (by decide) ?_
  obtain ⟨y1, hy2, hS⟩ := bind_some' hS
  refine sr_call (vs := [str s_0, str ([32])]) rfl Tryd.call57 rfl (lib_Trim_ok _ (hg.below hb) hy2) (by decide) ?_
  rintro _ w3 ⟨rfl, hbw4⟩
  replace hb := hb.trans (hbw4.mono hb.size)
  refine sr_ev (v := str y1) (ev_assign rfl) (by decide) ?_
  refine sr_end (l' := [(2, str y1)]) (.cons rfl (.nil _)) ?_
  cases hS
  exact ke_ret1 Tryd.func50 rfl rfl ⟨_, rfl, rfl, hb⟩
theorem fold_Clean_L1_ok {w0 : World} (hg : Gs w0) {A0 : Nat → Prop} (hA0 : ∀ b, A0 b → b < w0.heap.size) : ∀ (n : Nat), ∀ {r : Bool} {s_0 : Str} {t_6s : Str} {t_6p : Nat} {gt_6 : Nat}, fold_Clean_L1 n s_0 t_6s t_6p = some r → ∀ {w : World} {A : Nat → Prop}, (Below w0.heap.size w0 w) → (∀ b, A b → b < w.heap.size) → (∀ b, A0 b → A b) → (Hp A w0.heap.size w [(gt_6, .stringIter ⟨t_6s.toArray⟩ t_6p)]) → KE Tryd.prog 29 (Ret (fun v w' => v = .bool r ∧ Below w0.heap.size w0 w')) 29 [.code (sub (bodyOf Tryd.f29) [2, 1, 2, 2, 1]), .inLoop (sub (bodyOf Tryd.f29) [2, 1, 2, 2, 1]), .inBlock 0, .code (sub (bodyOf Tryd.f29) [2, 2])] [(0, str s_0), (6, .pointer (some ⟨gt_6, 0, none⟩))] w := by
  intro n
  induction n with
  | zero => intro r s_0 t_6s t_6p gt_6 hS; cases hS
  | succ n ih =>
    have hr0 : ∀ {r : Bool} {s_0 : Str} {t_6s : Str} {t_6p : Nat} {gt_6 : Nat}, fold_Clean_L1 n s_0 t_6s t_6p = some r → ∀ {w : World} {A : Nat → Prop}, (Below w0.heap.size w0 w) → (∀ b, A b → b < w.heap.size) → (∀ b, A0 b → A b) → (Hp A w0.heap.size w [(gt_6, .stringIter ⟨t_6s.toArray⟩ t_6p)]) → KE Tryd.prog 29 (Ret (fun v w' => v = .bool r ∧ Below w0.heap.size w0 w')) 29 [.inLoop (sub (bodyOf Tryd.f29) [2, 1, 2, 2, 1]), .inBlock 0, .code (sub (bodyOf Tryd.f29) [2, 2])] [(0, str s_0), (6, .pointer (some ⟨gt_6, 0, none⟩))] w := fun {r} {s_0} {t_6s} {t_6p} {gt_6} hS {w} {A} hb hA hi hH => ke_inLoop (ih hS hb hA hi hH)
    clear ih
    intro r s_0 t_6s t_6p gt_6 hS w A hb hA hi hH
    unfold fold_Clean_L1 at hS
    refine ke_seq ?_
    refine ke_region ?_
    refine sr_next_s (j := 0) hH rfl rfl (by decide) (fun hc8 w9 hH1 hwr10 => ?_) (fun hc8 => ?_)
    · replace hS := ite_true' hS hc8
      replace hb := hwr10.below hb (hH.base _ (List.mem_of_getElem? (i := 0) rfl))
      replace hA := hwr10.lt hA
      replace hH : Hp A w0.heap.size w9 [(gt_6, .stringIter ⟨t_6s.toArray⟩ (t_6p + (sdec t_6s t_6p).2))] := hH1
      clear hH1
      refine sr_ev (v := .bool true) (ev_extract rfl rfl) (by decide) ?_
      refine sr_end (l' := [(0, str s_0), (6, .pointer (some ⟨gt_6, 0, none⟩)), (7, .tuple #[.bool true, .int .i64 ((t_6p : Nat) : Int), .int .i32 ((sdec t_6s t_6p).1)]), (8, .bool true)]) (.cons rfl (.cons rfl (.cons rfl (.cons rfl (.nil _))))) ?_
      refine ke_seq ?_
      refine ke_cond (t := true) rfl (fun _ => ?_) (fun h => by cases h)
      refine ke_skip ?_
      refine ke_block ?_
      refine ke_seq ?_
      refine ke_region ?_
      refine sr_ev (v := .int .i32 ((sdec t_6s t_6p).1)) (ev_extract rfl rfl) (by decide) ?_
      refine sr_ev (v := .int .i32 ((sdec t_6s t_6p).1)) (ev_assign rfl) (by decide) ?_
      refine sr_end (l' := [(0, str s_0), (4, .int .i32 ((sdec t_6s t_6p).1)), (6, .pointer (some ⟨gt_6, 0, none⟩))]) (.cons rfl (.cons rfl (.cons rfl (.nil _)))) ?_
      refine ke_seq ?_
      refine ke_region ?_
      refine sr_ev (v := .int .i32 ((sdec t_6s t_6p).1)) (ev_move rfl) (by decide) ?_
      refine sr_ev (v := .bool (decide (((sdec t_6s t_6p).1) < 32))) (ev_lt rfl rfl) (by decide) ?_
      refine sr_ev (v := .bool (decide (((sdec t_6s t_6p).1) < 32))) (ev_move rfl) (by decide) ?_
      refine sr_join (m := 3) (C := fun (x : Bool) w1 => x = ((decide (((sdec t_6s t_6p).1) < 32)) || (decide (((sdec t_6s t_6p).1) > 126))) ∧ w9 = w1) (l' := fun x => [(0, str s_0), (6, .pointer (some ⟨gt_6, 0, none⟩)), (15, .bool x)]) ?_ ?_
      · rintro _ _ ⟨rfl, rfl⟩
        refine sr_end (l' := [(0, str s_0), (6, .pointer (some ⟨gt_6, 0, none⟩)), (15, .bool ((decide (((sdec t_6s t_6p).1) < 32)) || (decide (((sdec t_6s t_6p).1) > 126))))]) (.cons rfl (.cons rfl (.cons rfl (.nil _)))) ?_
        refine ke_cond (t := (decide (((sdec t_6s t_6p).1) < 32)) || (decide (((sdec t_6s t_6p).1) > 126))) rfl (fun hc18 => ?_) (fun hc18 => ?_)
        · replace hS := ite_true' hS hc18
          refine ke_seq ?_
          refine ke_region ?_
          refine sr_ev (v := .bool false) (ev_assign rfl) (by decide) ?_
          refine sr_end (l' := [(2, .bool false)]) (.cons rfl (.nil _)) ?_
          cases hS
          exact ke_ret1 Tryd.func29 rfl rfl ⟨_, rfl, rfl, hb⟩
        · replace hS := ite_false' hS hc18
          refine ke_skip ?_
          refine ke_inBlock ?_
          have hK := hr0 hS hb hA hi hH
          exact ke_weaken (l' := [(0, str s_0), (6, .pointer (some ⟨gt_6, 0, none⟩))]) (.cons rfl (.cons rfl (.nil _))) hK
      · intro K12
        rcases Bool.eq_false_or_eq_true (decide (((sdec t_6s t_6p).1) < 32)) with hg11 | hg11
        · refine sr_pass (e := 12) rfl rfl (by rw [hg11]; rfl) (by decide) ?_
          refine sr_pass (e := 12) rfl rfl (by rw [hg11]; rfl) (by decide) ?_
          refine sr_ev (v := .bool true) (ev_pick_t rfl hg11 rfl) (by decide) ?_
          exact sr_weaken (l' := [(0, str s_0), (6, .pointer (some ⟨gt_6, 0, none⟩)), (15, .bool true)]) (.cons rfl (.cons rfl (.cons rfl (.nil _)))) (K12 true _ ⟨by rw [hg11]; rfl, rfl⟩)
        · refine sr_evg (b := false) (e := 12) rfl rfl hg11 (v := .int .i32 ((sdec t_6s t_6p).1)) (ev_move rfl) (by decide) ?_
          refine sr_evg (b := false) (e := 12) rfl rfl hg11 (v := .bool (decide (((sdec t_6s t_6p).1) > 126))) (ev_gt rfl rfl) (by decide) ?_
          refine sr_ev (v := .bool (decide (((sdec t_6s t_6p).1) > 126))) (ev_pick_f rfl hg11 rfl) (by decide) ?_
          exact sr_weaken (l' := [(0, str s_0), (6, .pointer (some ⟨gt_6, 0, none⟩)), (15, .bool (decide (((sdec t_6s t_6p).1) > 126)))]) (.cons rfl (.cons rfl (.cons rfl (.nil _)))) (K12 (decide (((sdec t_6s t_6p).1) > 126)) _ ⟨by rw [hg11]; rfl, rfl⟩)
    · replace hS := ite_false' hS hc8
      refine sr_ev (v := .bool false) (ev_extract rfl rfl) (by decide) ?_
      refine sr_end (l' := [(0, str s_0), (6, .pointer (some ⟨gt_6, 0, none⟩)), (7, .tuple #[.bool false]), (8, .bool false)]) (.cons rfl (.cons rfl (.cons rfl (.cons rfl (.nil _))))) ?_
      refine ke_seq ?_
      refine ke_cond (t := false) rfl (fun h => by cases h) (fun _ => ?_)
      refine ke_exit (k' := _) rfl ?_
      refine ke_seq ?_
      refine ke_region ?_
      refine sr_ev (v := str s_0) (ev_move rfl) (by decide) ?_
      refine sr_ev (v := .bool (!(s_0 == ([])))) (ev_sne rfl rfl) (by decide) ?_
      refine sr_ev (v := .bool (!(s_0 == ([])))) (ev_move rfl) (by decide) ?_
      refine sr_join (m := 4) (C := fun (x : Bool) w1 => x = ((!(s_0 == ([]))) && (decide ((s_0.length : Int) ≤ 256))) ∧ w = w1) (l' := fun x => [(0, str s_0), (22, .bool x)]) ?_ ?_
      · rintro _ _ ⟨rfl, rfl⟩
        refine sr_ev (v := .bool ((!(s_0 == ([]))) && (decide ((s_0.length : Int) ≤ 256)))) (ev_move rfl) (by decide) ?_
        obtain ⟨z28, hz30, hS⟩ := bind_some' hS
        refine sr_join (m := 5) (C := fun (x : Bool) w1 => z28 = x ∧ Below w.heap.size w w1) (l' := fun x => [(28, .bool x)]) ?_ ?_
        · rintro _ w31 ⟨rfl, hbw32⟩
          replace hb := hb.trans (hbw32.mono hb.size)
          replace hA := lt_mono hA hbw32.size
          replace hH := hH.below hbw32
          refine sr_ev (v := .bool z28) (ev_assign rfl) (by decide) ?_
          refine sr_end (l' := [(2, .bool z28)]) (.cons rfl (.nil _)) ?_
          cases hS
          exact ke_ret1 Tryd.func29 rfl rfl ⟨_, rfl, rfl, hb⟩
        · intro K27
          clear hS
          have hj29 := Below.refl w.heap.size w
          rcases Bool.eq_false_or_eq_true ((!(s_0 == ([]))) && (decide ((s_0.length : Int) ≤ 256))) with hg26 | hg26
          · have hS := ite_true' hz30 hg26
            refine sr_evg (b := true) (e := 23) rfl rfl hg26 (v := str s_0) (ev_move rfl) (by decide) ?_
            obtain ⟨y33, hy34, hS⟩ := bind_some' hS
            refine sr_callg (b := true) (e := 23) rfl rfl hg26 (vs := [str s_0]) rfl Tryd.call50 rfl (fold_Trim_ok _ (hg.below hb) hy34) (by decide) ?_
            rintro _ w35 ⟨rfl, hbw36⟩
            replace hb := hb.trans (hbw36.mono hb.size)
            replace hj29 := hj29.trans (hbw36.mono hj29.size)
            replace hA := lt_mono hA hbw36.size
            replace hH := hH.below hbw36
            refine sr_evg (b := true) (e := 23) rfl rfl hg26 (v := str s_0) (ev_move rfl) (by decide) ?_
            refine sr_evg (b := true) (e := 23) rfl rfl hg26 (v := .bool (y33 == s_0)) (ev_seq rfl rfl) (by decide) ?_
            refine sr_ev (v := .bool (y33 == s_0)) (ev_pick_t rfl hg26 rfl) (by decide) ?_
            exact sr_weaken (l' := [(28, .bool (y33 == s_0))]) (.cons rfl (.nil _)) (K27 (y33 == s_0) _ ⟨(Option.some.inj hS).symm, hj29⟩)
          · have hS := ite_false' hz30 hg26
            refine sr_pass (e := 23) rfl rfl (by rw [hg26]; rfl) (by decide) ?_
            refine sr_pass (e := 23) rfl rfl (by rw [hg26]; rfl) (by decide) ?_
            refine sr_pass (e := 23) rfl rfl (by rw [hg26]; rfl) (by decide) ?_
            refine sr_pass (e := 23) rfl rfl (by rw [hg26]; rfl) (by decide) ?_
            refine sr_ev (v := .bool false) (ev_pick_f rfl hg26 rfl) (by decide) ?_
            exact sr_weaken (l' := [(28, .bool false)]) (.cons rfl (.nil _)) (K27 false _ ⟨(Option.some.inj hS).symm, hj29⟩)
      · intro K20
        rcases Bool.eq_false_or_eq_true (!(s_0 == ([]))) with hg19 | hg19
        · refine sr_evg (b := true) (e := 18) rfl rfl hg19 (v := str s_0) (ev_move rfl) (by decide) ?_
          refine sr_evg (b := true) (e := 18) rfl rfl hg19 (v := .int .i64 (s_0.length : Int)) (ev_slen Tryd.underlying9 rfl) (by decide) ?_
          refine sr_evg (b := true) (e := 18) rfl rfl hg19 (v := .bool (decide ((s_0.length : Int) ≤ 256))) (ev_le rfl rfl) (by decide) ?_
          refine sr_ev (v := .bool (decide ((s_0.length : Int) ≤ 256))) (ev_pick_t rfl hg19 rfl) (by decide) ?_
          exact sr_weaken (l' := [(0, str s_0), (22, .bool (decide ((s_0.length : Int) ≤ 256)))]) (.cons rfl (.cons rfl (.nil _))) (K20 (decide ((s_0.length : Int) ≤ 256)) _ ⟨by rw [hg19]; rfl, rfl⟩)
        · refine sr_pass (e := 18) rfl rfl (by rw [hg19]; rfl) (by decide) ?_
          refine sr_pass (e := 18) rfl rfl (by rw [hg19]; rfl) (by decide) ?_
          refine sr_pass (e := 18) rfl rfl (by rw [hg19]; rfl) (by decide) ?_
          refine sr_ev (v := .bool false) (ev_pick_f rfl hg19 rfl) (by decide) ?_
          exact sr_weaken (l' := [(0, str s_0), (22, .bool false)]) (.cons rfl (.cons rfl (.nil _))) (K20 false _ ⟨by rw [hg19]; rfl, rfl⟩)
theorem fold_Clean_ok (w0 : World) (hg : Gs w0) {s_0 : Str} {r : Bool} (hS : fold_Clean s_0 = some r) :
    Calls Tryd.prog 29 #[str s_0] w0 (Ret (fun v w' => v = .bool r ∧ Below w0.heap.size w0 w')) := by
  unfold fold_Clean at hS
  have hb := Below.refl w0.heap.size w0
  obtain ⟨A0, hA0, hAe⟩ : ∃ A0 : Nat → Prop, (∀ b, A0 b → b < w0.heap.size) ∧ A0 = fun _ => False := ⟨_, fun _ h => h.elim, rfl⟩
  clear hAe
  have hA := hA0
  have hi : ∀ b, A0 b → A0 b := fun _ h => h
  have hH := Hp.nil A0 w0.heap.size w0
  refine calls_of_ke Tryd.func29 rfl (n := 29) rfl rfl (l := [(0, str s_0)]) rfl ?_
  refine ke_seq ?_
  refine ke_region ?_
  refine sr_ev (v := .bool false) (ev_assign rfl) (by decide) ?_
  refine sr_end (l' := [(0, str s_0)]) (.cons rfl (.nil _)) ?_
  refine ke_seq ?_
  refine ke_seq ?_
  refine ke_region ?_
  refine sr_ev (v := str s_0) (ev_move rfl) (by decide) ?_
  refine sr_range_s hH hb.size hA Tryd.underlying9 rfl (by decide) ?_
  intro g1 A2 w3 hH1 hst4 hbw5 hinc6 hA1 hge7
  replace hb := hb.trans (hbw5.mono hb.size)
  replace hi := fun b hb => hinc6 b (hi b hb)
  replace hH : Hp A2 w0.heap.size w3 [(g1, .stringIter ⟨s_0.toArray⟩ 0)] := hH1
  replace hA := hA1
  clear hH1 hA1
  refine sr_end (l' := [(0, str s_0), (6, .pointer (some ⟨g1, 0, none⟩))]) (.cons rfl (.cons rfl (.nil _))) ?_
  refine ke_block ?_
  have hK := fold_Clean_L1_ok hg hA0 _ hS hb hA hi hH
  exact ke_weaken (l' := [(0, str s_0), (6, .pointer (some ⟨g1, 0, none⟩))]) (.cons rfl (.cons rfl (.nil _))) (ke_loop hK)
theorem codec_Int_ok (w0 : World) (hg : Gs w0) {n_0 : Int} {r : Str} (hS : codec_Int n_0 = some r) :
    Calls Tryd.prog 43 #[.int .i64 n_0] w0 (Ret (fun v w' => v = str r ∧ Below w0.heap.size w0 w')) := by
  unfold codec_Int at hS
  have hb := Below.refl w0.heap.size w0
  refine calls_of_ke Tryd.func43 rfl (n := 5) rfl rfl (l := [(0, .int .i64 n_0)]) rfl ?_
  refine ke_seq ?_
  refine ke_region ?_
  refine sr_ev (v := str ([])) (ev_assign rfl) (by decide) ?_
  refine sr_end (l' := [(0, .int .i64 n_0)]) (.cons rfl (.nil _)) ?_
  refine ke_seq ?_
  refine ke_region ?_
  refine sr_ev (v := .int .i64 n_0) (ev_move rfl) (by decide) ?_
  obtain ⟨y1, hy2, hS⟩ := bind_some' hS
  refine sr_call (vs := [.int .i64 n_0]) rfl Tryd.call48 rfl (lib_Itoa_ok _ (hg.below hb) hy2) (by decide) ?_
  rintro _ w3 ⟨rfl, hbw4⟩
  replace hb := hb.trans (hbw4.mono hb.size)
  refine sr_ev (v := str y1) (ev_assign rfl) (by decide) ?_
  refine sr_end (l' := [(2, str y1)]) (.cons rfl (.nil _)) ?_
  cases hS
  exact ke_ret1 Tryd.func43 rfl rfl ⟨_, rfl, rfl, hb⟩
theorem digest_Sum_L1_ok {w0 : World} (hg : Gs w0) : ∀ (n : Nat), ∀ {r : Int} {s_0 : Str} {h_3 : Int} {t_6 : Int} {t_7 : Int}, digest_Sum_L1 n s_0 h_3 t_6 t_7 = some r → ∀ {w : World}, (Below w0.heap.size w0 w) → KE Tryd.prog 51 (Ret (fun v w' => v = .int .u64 r ∧ Below w0.heap.size w0 w')) 34 [.code (sub (bodyOf Tryd.f51) [2, 2, 1, 2, 2, 1]), .inLoop (sub (bodyOf Tryd.f51) [2, 2, 1, 2, 2, 1]), .inBlock 0, .code (sub (bodyOf Tryd.f51) [2, 2, 2])] [(0, str s_0), (3, .int .u64 h_3), (6, .int .i64 t_6), (7, .int .i64 t_7)] w := by
  intro n
  induction n with
  | zero => intro r s_0 h_3 t_6 t_7 hS; cases hS
  | succ n ih =>
    have hr0 : ∀ {r : Int} {s_0 : Str} {h_3 : Int} {t_6 : Int} {t_7 : Int}, digest_Sum_L1 n s_0 h_3 t_6 t_7 = some r → ∀ {w : World}, (Below w0.heap.size w0 w) → KE Tryd.prog 51 (Ret (fun v w' => v = .int .u64 r ∧ Below w0.heap.size w0 w')) 34 [.inLoop (sub (bodyOf Tryd.f51) [2, 2, 1, 2, 2, 1]), .inBlock 0, .code (sub (bodyOf Tryd.f51) [2, 2, 2])] [(0, str s_0), (3, .int .u64 h_3), (6, .int .i64 t_6), (7, .int .i64 t_7)] w := fun {r} {s_0} {h_3} {t_6} {t_7} hS {w} hb => ke_inLoop (ih hS hb)
    clear ih
    intro r s_0 h_3 t_6 t_7 hS w hb
    unfold digest_Sum_L1 at hS
    refine ke_seq ?_
    refine ke_region ?_
    refine sr_ev (v := .bool (decide (t_7 < t_6))) (ev_lt rfl rfl) (by decide) ?_
    refine sr_end (l' := [(0, str s_0), (3, .int .u64 h_3), (6, .int .i64 t_6), (7, .int .i64 t_7), (8, .bool (decide (t_7 < t_6)))]) (.cons rfl (.cons rfl (.cons rfl (.cons rfl (.cons rfl (.nil _)))))) ?_
    refine ke_seq ?_
    refine ke_cond (t := decide (t_7 < t_6)) rfl (fun hc1 => ?_) (fun hc1 => ?_)
    · replace hS := ite_true' hS hc1
      refine ke_skip ?_
      refine ke_seq ?_
      refine ke_block ?_
      refine ke_seq ?_
      refine ke_region ?_
      refine sr_ev (v := .int .i64 t_7) (ev_move rfl) (by decide) ?_
      refine sr_ev (v := .int .i64 t_7) (ev_assign rfl) (by decide) ?_
      refine sr_end (l' := [(0, str s_0), (3, .int .u64 h_3), (4, .int .i64 t_7), (6, .int .i64 t_6), (7, .int .i64 t_7)]) (.cons rfl (.cons rfl (.cons rfl (.cons rfl (.cons rfl (.nil _)))))) ?_
      refine ke_region ?_
      refine sr_ev (v := .int .u64 h_3) (ev_move rfl) (by decide) ?_
      refine sr_ev (v := str s_0) (ev_move rfl) (by decide) ?_
      refine sr_ev (v := .int .i64 t_7) (ev_move rfl) (by decide) ?_
      obtain ⟨hk2, hS⟩ := chk_some hS
      refine sr_ev (v := .int .u8 (byteAt s_0 t_7)) (ev_sindex Tryd.underlying9 rfl rfl hk2) (by decide) ?_
      refine sr_ev (v := .int .u64 (IntKind.u64.wrap (byteAt s_0 t_7))) (ev_conv Tryd.underlying48 Tryd.underlying5 rfl) (by decide) ?_
      refine sr_ev (v := .int .u64 (bXor .u64 h_3 (IntKind.u64.wrap (byteAt s_0 t_7)))) (ev_xor rfl rfl) (by decide) ?_
      refine sr_ev (v := .int .u64 (IntKind.u64.wrap ((bXor .u64 h_3 (IntKind.u64.wrap (byteAt s_0 t_7))) * 1099511628211))) (ev_mul rfl rfl) (by decide) ?_
      refine sr_ev (v := .int .u64 (IntKind.u64.wrap ((bXor .u64 h_3 (IntKind.u64.wrap (byteAt s_0 t_7))) * 1099511628211))) (ev_assign rfl) (by decide) ?_
      refine sr_end (l' := [(0, str s_0), (3, .int .u64 (IntKind.u64.wrap ((bXor .u64 h_3 (IntKind.u64.wrap (byteAt s_0 t_7))) * 1099511628211))), (6, .int .i64 t_6), (7, .int .i64 t_7)]) (.cons rfl (.cons rfl (.cons rfl (.cons rfl (.nil _))))) ?_
      refine ke_inBlock ?_
      refine ke_region ?_
      refine sr_ev (v := .int .i64 (IntKind.i64.wrap (t_7 + 1))) (ev_add rfl rfl) (by decide) ?_
      refine sr_ev (v := .int .i64 (IntKind.i64.wrap (t_7 + 1))) (ev_move rfl) (by decide) ?_
      refine sr_end (l' := [(0, str s_0), (3, .int .u64 (IntKind.u64.wrap ((bXor .u64 h_3 (IntKind.u64.wrap (byteAt s_0 t_7))) * 1099511628211))), (6, .int .i64 t_6), (7, .int .i64 (IntKind.i64.wrap (t_7 + 1)))]) (.cons rfl (.cons rfl (.cons rfl (.cons rfl (.nil _))))) ?_
      have hK := hr0 hS hb
      exact ke_weaken (l' := [(0, str s_0), (3, .int .u64 (IntKind.u64.wrap ((bXor .u64 h_3 (IntKind.u64.wrap (byteAt s_0 t_7))) * 1099511628211))), (6, .int .i64 t_6), (7, .int .i64 (IntKind.i64.wrap (t_7 + 1)))]) (.cons rfl (.cons rfl (.cons rfl (.cons rfl (.nil _))))) hK
    · replace hS := ite_false' hS hc1
      refine ke_exit (k' := _) rfl ?_
      refine ke_seq ?_
      refine ke_region ?_
      refine sr_ev (v := .int .u64 h_3) (ev_move rfl) (by decide) ?_
      refine sr_ev (v := .int .u64 h_3) (ev_move rfl) (by decide) ?_
      refine sr_ev (v := .int .u64 (bShr .u64 h_3 33)) (ev_shr rfl rfl (by decide)) (by decide) ?_
      refine sr_ev (v := .int .u64 (bXor .u64 h_3 (bShr .u64 h_3 33))) (ev_xor rfl rfl) (by decide) ?_
      refine sr_ev (v := .int .u64 (bXor .u64 h_3 (bShr .u64 h_3 33))) (ev_assign rfl) (by decide) ?_
      refine sr_end (l' := [(3, .int .u64 (bXor .u64 h_3 (bShr .u64 h_3 33)))]) (.cons rfl (.nil _)) ?_
      refine ke_seq ?_
      refine ke_region ?_
      refine sr_ev (v := .int .u64 (bXor .u64 h_3 (bShr .u64 h_3 33))) (ev_move rfl) (by decide) ?_
      refine sr_ev (v := .int .u64 (IntKind.u64.wrap ((bXor .u64 h_3 (bShr .u64 h_3 33)) * 18397679294719823053))) (ev_mul rfl rfl) (by decide) ?_
      refine sr_ev (v := .int .u64 (IntKind.u64.wrap ((bXor .u64 h_3 (bShr .u64 h_3 33)) * 18397679294719823053))) (ev_assign rfl) (by decide) ?_
      refine sr_end (l' := [(3, .int .u64 (IntKind.u64.wrap ((bXor .u64 h_3 (bShr .u64 h_3 33)) * 18397679294719823053)))]) (.cons rfl (.nil _)) ?_
      refine ke_seq ?_
      refine ke_region ?_
      refine sr_ev (v := .int .u64 (IntKind.u64.wrap ((bXor .u64 h_3 (bShr .u64 h_3 33)) * 18397679294719823053))) (ev_move rfl) (by decide) ?_
      refine sr_ev (v := .int .u64 (IntKind.u64.wrap ((bXor .u64 h_3 (bShr .u64 h_3 33)) * 18397679294719823053))) (ev_move rfl) (by decide) ?_
      refine sr_ev (v := .int .u64 (bShr .u64 (IntKind.u64.wrap ((bXor .u64 h_3 (bShr .u64 h_3 33)) * 18397679294719823053)) 33)) (ev_shr rfl rfl (by decide)) (by decide) ?_
      refine sr_ev (v := .int .u64 (bXor .u64 (IntKind.u64.wrap ((bXor .u64 h_3 (bShr .u64 h_3 33)) * 18397679294719823053)) (bShr .u64 (IntKind.u64.wrap ((bXor .u64 h_3 (bShr .u64 h_3 33)) * 18397679294719823053)) 33))) (ev_xor rfl rfl) (by decide) ?_
      refine sr_ev (v := .int .u64 (bXor .u64 (IntKind.u64.wrap ((bXor .u64 h_3 (bShr .u64 h_3 33)) * 18397679294719823053)) (bShr .u64 (IntKind.u64.wrap ((bXor .u64 h_3 (bShr .u64 h_3 33)) * 18397679294719823053)) 33))) (ev_assign rfl) (by decide) ?_
      refine sr_end (l' := [(3, .int .u64 (bXor .u64 (IntKind.u64.wrap ((bXor .u64 h_3 (bShr .u64 h_3 33)) * 18397679294719823053)) (bShr .u64 (IntKind.u64.wrap ((bXor .u64 h_3 (bShr .u64 h_3 33)) * 18397679294719823053)) 33)))]) (.cons rfl (.nil _)) ?_
      refine ke_seq ?_
      refine ke_region ?_
      refine sr_ev (v := .int .u64 (bXor .u64 (IntKind.u64.wrap ((bXor .u64 h_3 (bShr .u64 h_3 33)) * 18397679294719823053)) (bShr .u64 (IntKind.u64.wrap ((bXor .u64 h_3 (bShr .u64 h_3 33)) * 18397679294719823053)) 33))) (ev_move rfl) (by decide) ?_
      refine sr_ev (v := .int .u64 (IntKind.u64.wrap ((bXor .u64 (IntKind.u64.wrap ((bXor .u64 h_3 (bShr .u64 h_3 33)) * 18397679294719823053)) (bShr .u64 (IntKind.u64.wrap ((bXor .u64 h_3 (bShr .u64 h_3 33)) * 18397679294719823053)) 33)) * 14181476777654086739))) (ev_mul rfl rfl) (by decide) ?_
      refine sr_ev (v := .int .u64 (IntKind.u64.wrap ((bXor .u64 (IntKind.u64.wrap ((bXor .u64 h_3 (bShr .u64 h_3 33)) * 18397679294719823053)) (bShr .u64 (IntKind.u64.wrap ((bXor .u64 h_3 (bShr .u64 h_3 33)) * 18397679294719823053)) 33)) * 14181476777654086739))) (ev_assign rfl) (by decide) ?_
      refine sr_end (l' := [(3, .int .u64 (IntKind.u64.wrap ((bXor .u64 (IntKind.u64.wrap ((bXor .u64 h_3 (bShr .u64 h_3 33)) * 18397679294719823053)) (bShr .u64 (IntKind.u64.wrap ((bXor .u64 h_3 (bShr .u64 h_3 33)) * 18397679294719823053)) 33)) * 14181476777654086739)))]) (.cons rfl (.nil _)) ?_
      refine ke_seq ?_
      refine ke_region ?_
      refine sr_ev (v := .int .u64 (IntKind.u64.wrap ((bXor .u64 (IntKind.u64.wrap ((bXor .u64 h_3 (bShr .u64 h_3 33)) * 18397679294719823053)) (bShr .u64 (IntKind.u64.wrap ((bXor .u64 h_3 (bShr .u64 h_3 33)) * 18397679294719823053)) 33)) * 14181476777654086739))) (ev_move rfl) (by decide) ?_
      refine sr_ev (v := .int .u64 (IntKind.u64.wrap ((bXor .u64 (IntKind.u64.wrap ((bXor .u64 h_3 (bShr .u64 h_3 33)) * 18397679294719823053)) (bShr .u64 (IntKind.u64.wrap ((bXor .u64 h_3 (bShr .u64 h_3 33)) * 18397679294719823053)) 33)) * 14181476777654086739))) (ev_move rfl) (by decide) ?_
      refine sr_ev (v := .int .u64 (bShr .u64 (IntKind.u64.wrap ((bXor .u64 (IntKind.u64.wrap ((bXor .u64 h_3 (bShr .u64 h_3 33)) * 18397679294719823053)) (bShr .u64 (IntKind.u64.wrap ((bXor .u64 h_3 (bShr .u64 h_3 33)) * 18397679294719823053)) 33)) * 14181476777654086739)) 33)) (ev_shr rfl rfl (by decide)) (by decide) ?_
      refine sr_ev (v := .int .u64 (bXor .u64 (IntKind.u64.wrap ((bXor .u64 (IntKind.u64.wrap ((bXor .u64 h_3 (bShr .u64 h_3 33)) * 18397679294719823053)) (bShr .u64 (IntKind.u64.wrap ((bXor .u64 h_3 (bShr .u64 h_3 33)) * 18397679294719823053)) 33)) * 14181476777654086739)) (bShr .u64 (IntKind.u64.wrap ((bXor .u64 (IntKind.u64.wrap ((bXor .u64 h_3 (bShr .u64 h_3 33)) * 18397679294719823053)) (bShr .u64 (IntKind.u64.wrap ((bXor .u64 h_3 (bShr .u64 h_3 33)) * 18397679294719823053)) 33)) * 14181476777654086739)) 33))) (ev_xor rfl rfl) (by decide) ?_
      refine sr_ev (v := .int .u64 (bXor .u64 (IntKind.u64.wrap ((bXor .u64 (IntKind.u64.wrap ((bXor .u64 h_3 (bShr .u64 h_3 33)) * 18397679294719823053)) (bShr .u64 (IntKind.u64.wrap ((bXor .u64 h_3 (bShr .u64 h_3 33)) * 18397679294719823053)) 33)) * 14181476777654086739)) (bShr .u64 (IntKind.u64.wrap ((bXor .u64 (IntKind.u64.wrap ((bXor .u64 h_3 (bShr .u64 h_3 33)) * 18397679294719823053)) (bShr .u64 (IntKind.u64.wrap ((bXor .u64 h_3 (bShr .u64 h_3 33)) * 18397679294719823053)) 33)) * 14181476777654086739)) 33))) (ev_assign rfl) (by decide) ?_
      refine sr_end (l' := [(2, .int .u64 (bXor .u64 (IntKind.u64.wrap ((bXor .u64 (IntKind.u64.wrap ((bXor .u64 h_3 (bShr .u64 h_3 33)) * 18397679294719823053)) (bShr .u64 (IntKind.u64.wrap ((bXor .u64 h_3 (bShr .u64 h_3 33)) * 18397679294719823053)) 33)) * 14181476777654086739)) (bShr .u64 (IntKind.u64.wrap ((bXor .u64 (IntKind.u64.wrap ((bXor .u64 h_3 (bShr .u64 h_3 33)) * 18397679294719823053)) (bShr .u64 (IntKind.u64.wrap ((bXor .u64 h_3 (bShr .u64 h_3 33)) * 18397679294719823053)) 33)) * 14181476777654086739)) 33)))]) (.cons rfl (.nil _)) ?_
      cases hS
      exact ke_ret1 Tryd.func51 rfl rfl ⟨_, rfl, rfl, hb⟩
theorem digest_Sum_ok (w0 : World) (hg : Gs w0) {s_0 : Str} {r : Int} (hS : digest_Sum s_0 = some r) :
    Calls Tryd.prog 51 #[str s_0] w0 (Ret (fun v w' => v = .int .u64 r ∧ Below w0.heap.size w0 w')) := by
  unfold digest_Sum at hS
  have hb := Below.refl w0.heap.size w0
  refine calls_of_ke Tryd.func51 rfl (n := 34) rfl rfl (l := [(0, str s_0)]) rfl ?_
  refine ke_seq ?_
  refine ke_region ?_
  refine sr_ev (v := .int .u64 0) (ev_assign rfl) (by decide) ?_
  refine sr_end (l' := [(0, str s_0)]) (.cons rfl (.nil _)) ?_
  refine ke_seq ?_
  refine ke_region ?_
  refine sr_ev (v := .int .u64 14695981039346656037) (ev_assign rfl) (by decide) ?_
  refine sr_end (l' := [(0, str s_0), (3, .int .u64 14695981039346656037)]) (.cons rfl (.cons rfl (.nil _))) ?_
  refine ke_seq ?_
  refine ke_seq ?_
  refine ke_region ?_
  refine sr_ev (v := str s_0) (ev_move rfl) (by decide) ?_
  refine sr_ev (v := .int .i64 (s_0.length : Int)) (ev_slen Tryd.underlying9 rfl) (by decide) ?_
  refine sr_ev (v := .int .i64 0) (ev_move rfl) (by decide) ?_
  refine sr_end (l' := [(0, str s_0), (3, .int .u64 14695981039346656037), (6, .int .i64 (s_0.length : Int)), (7, .int .i64 0)]) (.cons rfl (.cons rfl (.cons rfl (.cons rfl (.nil _))))) ?_
  refine ke_block ?_
  have hK := digest_Sum_L1_ok hg _ hS hb
  exact ke_weaken (l' := [(0, str s_0), (3, .int .u64 14695981039346656037), (6, .int .i64 (s_0.length : Int)), (7, .int .i64 0)]) (.cons rfl (.cons rfl (.cons rfl (.cons rfl (.nil _))))) (ke_loop hK)
theorem digest_Hex_L1_ok {w0 : World} (hg : Gs w0) {A0 : Nat → Prop} (hA0 : ∀ b, A0 b → b < w0.heap.size) : ∀ (n : Nat), ∀ {r : Str} {n_0 : Int} {b_3 : List Int} {t_5 : Int} {gb_3 : Nat}, digest_Hex_L1 n n_0 b_3 t_5 = some r → ∀ {w : World} {A : Nat → Prop}, (Below w0.heap.size w0 w) → (∀ b, A b → b < w.heap.size) → (∀ b, A0 b → A b) → (Hp A w0.heap.size w [(gb_3, .cells (b_3.map (Value.int .u8)).toArray 62 (0, 0))]) → KE Tryd.prog 56 (Ret (fun v w' => v = str r ∧ Below w0.heap.size w0 w')) 21 [.code (sub (bodyOf Tryd.f56) [2, 2, 1, 2, 2, 1]), .inLoop (sub (bodyOf Tryd.f56) [2, 2, 1, 2, 2, 1]), .inBlock 0, .code (sub (bodyOf Tryd.f56) [2, 2, 2])] [(0, .int .u64 n_0), (3, .pointer (some ⟨gb_3, 0, none⟩)), (5, .int .i64 t_5)] w := by
  intro n
  induction n with
  | zero => intro r n_0 b_3 t_5 gb_3 hS; cases hS
  | succ n ih =>
    have hr0 : ∀ {r : Str} {n_0 : Int} {b_3 : List Int} {t_5 : Int} {gb_3 : Nat}, digest_Hex_L1 n n_0 b_3 t_5 = some r → ∀ {w : World} {A : Nat → Prop}, (Below w0.heap.size w0 w) → (∀ b, A b → b < w.heap.size) → (∀ b, A0 b → A b) → (Hp A w0.heap.size w [(gb_3, .cells (b_3.map (Value.int .u8)).toArray 62 (0, 0))]) → KE Tryd.prog 56 (Ret (fun v w' => v = str r ∧ Below w0.heap.size w0 w')) 21 [.inLoop (sub (bodyOf Tryd.f56) [2, 2, 1, 2, 2, 1]), .inBlock 0, .code (sub (bodyOf Tryd.f56) [2, 2, 2])] [(0, .int .u64 n_0), (3, .pointer (some ⟨gb_3, 0, none⟩)), (5, .int .i64 t_5)] w := fun {r} {n_0} {b_3} {t_5} {gb_3} hS {w} {A} hb hA hi hH => ke_inLoop (ih hS hb hA hi hH)
    clear ih
    intro r n_0 b_3 t_5 gb_3 hS w A hb hA hi hH
    unfold digest_Hex_L1 at hS
    refine ke_seq ?_
    refine ke_region ?_
    refine sr_ev (v := .bool (decide (t_5 < 16))) (ev_lt rfl rfl) (by decide) ?_
    refine sr_end (l' := [(0, .int .u64 n_0), (3, .pointer (some ⟨gb_3, 0, none⟩)), (5, .int .i64 t_5), (6, .bool (decide (t_5 < 16)))]) (.cons rfl (.cons rfl (.cons rfl (.cons rfl (.nil _))))) ?_
    refine ke_seq ?_
    refine ke_cond (t := decide (t_5 < 16)) rfl (fun hc8 => ?_) (fun hc8 => ?_)
    · replace hS := ite_true' hS hc8
      refine ke_skip ?_
      refine ke_seq ?_
      refine ke_block ?_
      refine ke_seq ?_
      refine ke_region ?_
      refine sr_ev (v := .int .i64 t_5) (ev_move rfl) (by decide) ?_
      refine sr_ev (v := .int .i64 t_5) (ev_assign rfl) (by decide) ?_
      refine sr_end (l' := [(0, .int .u64 n_0), (3, .pointer (some ⟨gb_3, 0, none⟩)), (4, .int .i64 t_5), (5, .int .i64 t_5)]) (.cons rfl (.cons rfl (.cons rfl (.cons rfl (.nil _))))) ?_
      refine ke_region ?_
      refine sr_ev (v := .int .i64 t_5) (ev_move rfl) (by decide) ?_
      refine sr_ev (v := .int .i64 (IntKind.i64.wrap (15 - t_5))) (ev_sub rfl rfl) (by decide) ?_
      refine sr_ev (v := .int .u64 n_0) (ev_move rfl) (by decide) ?_
      refine sr_ev (v := .int .i64 t_5) (ev_move rfl) (by decide) ?_
      refine sr_ev (v := .int .i64 (IntKind.i64.wrap (4 * t_5))) (ev_mul rfl rfl) (by decide) ?_
      obtain ⟨hk9, hS⟩ := chk_some hS
      refine sr_ev (v := .int .u64 (bShr .u64 n_0 (IntKind.i64.wrap (4 * t_5)))) (ev_shr rfl rfl hk9) (by decide) ?_
      refine sr_ev (v := .int .u64 (bAnd .u64 (bShr .u64 n_0 (IntKind.i64.wrap (4 * t_5))) 15)) (ev_and rfl rfl) (by decide) ?_
      obtain ⟨hk10, hS⟩ := chk_some hS
      refine sr_ev (v := .pointer (some ⟨0, 0 + (bAnd .u64 (bShr .u64 n_0 (IntKind.i64.wrap (4 * t_5))) 15).toNat * 1, none⟩)) (ev_arrindex Tryd.underlying62 Tryd.info5 rfl rfl rfl hk10) (by decide) ?_
      obtain ⟨y11, hy12, hS⟩ := bind_some' hS
      refine sr_ev (v := .int .u8 y11) (ev_load Tryd.isAgg5 rfl ((hg.below hb).tab0 hy12)) (by decide) ?_
      obtain ⟨hk13, hS⟩ := chk_some hS
      refine sr_ev (v := .pointer (some ⟨gb_3, 0 + (IntKind.i64.wrap (15 - t_5)).toNat * 1, none⟩)) (ev_arrindex Tryd.underlying62 Tryd.info5 rfl rfl rfl hk13) (by decide) ?_
      obtain ⟨hk14, hS⟩ := chk_some hS
      refine sr_store_arr (j := 0) hH rfl Tryd.sizeOf5 rfl rfl hk14 ?_
      intro w15 hH1 hwr16
      replace hb := hwr16.below hb (hH.base _ (List.mem_of_getElem? (i := 0) rfl))
      replace hA := hwr16.lt hA
      replace hH : Hp A w0.heap.size w15 [(gb_3, .cells ((setAt b_3 (IntKind.i64.wrap (15 - t_5)) y11).map (Value.int .u8)).toArray 62 (0, 0))] := hH1
      clear hH1
      refine sr_end (l' := [(0, .int .u64 n_0), (3, .pointer (some ⟨gb_3, 0, none⟩)), (5, .int .i64 t_5)]) (.cons rfl (.cons rfl (.cons rfl (.nil _)))) ?_
      refine ke_inBlock ?_
      refine ke_region ?_
      refine sr_ev (v := .int .i64 (IntKind.i64.wrap (t_5 + 1))) (ev_add rfl rfl) (by decide) ?_
      refine sr_ev (v := .int .i64 (IntKind.i64.wrap (t_5 + 1))) (ev_move rfl) (by decide) ?_
      refine sr_end (l' := [(0, .int .u64 n_0), (3, .pointer (some ⟨gb_3, 0, none⟩)), (5, .int .i64 (IntKind.i64.wrap (t_5 + 1)))]) (.cons rfl (.cons rfl (.cons rfl (.nil _)))) ?_
      have hK := hr0 hS hb hA hi hH
      exact ke_weaken (l' := [(0, .int .u64 n_0), (3, .pointer (some ⟨gb_3, 0, none⟩)), (5, .int .i64 (IntKind.i64.wrap (t_5 + 1)))]) (.cons rfl (.cons rfl (.cons rfl (.nil _)))) hK
    · replace hS := ite_false' hS hc8
      refine ke_exit (k' := _) rfl ?_
      refine ke_seq ?_
      refine ke_region ?_
      refine sr_ev (v := .slice (some ⟨gb_3, 0, none⟩) 16 16) (ev_arrslice Tryd.underlying62 Tryd.info5 rfl) (by decide) ?_
      obtain ⟨hk17, hS⟩ := chk_some hS
      refine sr_ev (v := str (bytesStr b_3)) (ev_arr2s (j := 0) hH rfl (by simpa using hk17) rfl Tryd.underlying56 Tryd.underlying5 Tryd.underlying9 rfl) (by decide) ?_
      refine sr_ev (v := str (bytesStr b_3)) (ev_assign rfl) (by decide) ?_
      refine sr_end (l' := [(2, str (bytesStr b_3))]) (.cons rfl (.nil _)) ?_
      cases hS
      exact ke_ret1 Tryd.func56 rfl rfl ⟨_, rfl, rfl, hb⟩
theorem digest_Hex_ok (w0 : World) (hg : Gs w0) {n_0 : Int} {r : Str} (hS : digest_Hex n_0 = some r) :
    Calls Tryd.prog 56 #[.int .u64 n_0] w0 (Ret (fun v w' => v = str r ∧ Below w0.heap.size w0 w')) := by
  unfold digest_Hex at hS
  have hb := Below.refl w0.heap.size w0
  obtain ⟨A0, hA0, hAe⟩ : ∃ A0 : Nat → Prop, (∀ b, A0 b → b < w0.heap.size) ∧ A0 = fun _ => False := ⟨_, fun _ h => h.elim, rfl⟩
  clear hAe
  have hA := hA0
  have hi : ∀ b, A0 b → A0 b := fun _ h => h
  have hH := Hp.nil A0 w0.heap.size w0
  refine calls_of_ke Tryd.func56 rfl (n := 21) rfl rfl (l := [(0, .int .u64 n_0)]) rfl ?_
  refine ke_seq ?_
  refine ke_region ?_
  refine sr_ev (v := str ([])) (ev_assign rfl) (by decide) ?_
  refine sr_end (l' := [(0, .int .u64 n_0)]) (.cons rfl (.nil _)) ?_
  refine ke_seq ?_
  refine ke_region ?_
  refine sr_alloc hH hb.size hA Tryd.zeroValue62 (by decide) ?_
  intro g1 A2 w3 hH1 hst4 hbw5 hinc6 hA1 hge7
  replace hb := hb.trans (hbw5.mono hb.size)
  replace hi := fun b hb => hinc6 b (hi b hb)
  replace hH : Hp A2 w0.heap.size w3 [(g1, .cells (([0, 0, 0, 0, 0, 0, 0, 0, 0, 0, 0, 0, 0, 0, 0, 0]).map (Value.int .u8)).toArray 62 (0, 0))] := hH1
  replace hA := hA1
  clear hH1 hA1
  refine sr_end (l' := [(0, .int .u64 n_0), (3, .pointer (some ⟨g1, 0, none⟩))]) (.cons rfl (.cons rfl (.nil _))) ?_
  refine ke_seq ?_
  refine ke_seq ?_
  refine ke_region ?_
  refine sr_ev (v := .int .i64 0) (ev_move rfl) (by decide) ?_
  refine sr_end (l' := [(0, .int .u64 n_0), (3, .pointer (some ⟨g1, 0, none⟩)), (5, .int .i64 0)]) (.cons rfl (.cons rfl (.cons rfl (.nil _)))) ?_
  refine ke_block ?_
  have hK := digest_Hex_L1_ok hg hA0 _ hS hb hA hi hH
  exact ke_weaken (l' := [(0, .int .u64 n_0), (3, .pointer (some ⟨g1, 0, none⟩)), (5, .int .i64 0)]) (.cons rfl (.cons rfl (.cons rfl (.nil _)))) (ke_loop hK)
theorem digest_Text_ok (w0 : World) (hg : Gs w0) {s_0 : Str} {r : Str} (hS : digest_Text s_0 = some r) :
    Calls Tryd.prog 49 #[str s_0] w0 (Ret (fun v w' => v = str r ∧ Below w0.heap.size w0 w')) := by
  unfold digest_Text at hS
  have hb := Below.refl w0.heap.size w0
  refine calls_of_ke Tryd.func49 rfl (n := 6) rfl rfl (l := [(0, str s_0)]) rfl ?_
  refine ke_seq ?_
  refine ke_region ?_
  refine sr_ev (v := str ([])) (ev_assign rfl) (by decide) ?_
  refine sr_end (l' := [(0, str s_0)]) (.cons rfl (.nil _)) ?_
  refine ke_seq ?_
  refine ke_region ?_
  refine sr_ev (v := str s_0) (ev_move rfl) (by decide) ?_
  obtain ⟨y1, hy2, hS⟩ := bind_some' hS
  refine sr_call (vs := [str s_0]) rfl Tryd.call51 rfl (digest_Sum_ok _ (hg.below hb) hy2) (by decide) ?_
  rintro _ w3 ⟨rfl, hbw4⟩
  replace hb := hb.trans (hbw4.mono hb.size)
  obtain ⟨y5, hy6, hS⟩ := bind_some' hS
  refine sr_call (vs := [.int .u64 y1]) rfl Tryd.call56 rfl (digest_Hex_ok _ (hg.below hb) hy6) (by decide) ?_
  rintro _ w7 ⟨rfl, hbw8⟩
  replace hb := hb.trans (hbw8.mono hb.size)
  refine sr_ev (v := str y5) (ev_assign rfl) (by decide) ?_
  refine sr_end (l' := [(2, str y5)]) (.cons rfl (.nil _)) ?_
  cases hS
  exact ke_ret1 Tryd.func49 rfl rfl ⟨_, rfl, rfl, hb⟩
theorem digest_Mac_ok (w0 : World) (hg : Gs w0) {key_0 : Str} {s_1 : Str} {r : Str} (hS : digest_Mac key_0 s_1 = some r) :
    Calls Tryd.prog 27 #[str key_0, str s_1] w0 (Ret (fun v w' => v = str r ∧ Below w0.heap.size w0 w')) := by
  unfold digest_Mac at hS
  have hb := Below.refl w0.heap.size w0
  refine calls_of_ke Tryd.func27 rfl (n := 19) rfl rfl (l := [(0, str key_0), (1, str s_1)]) rfl ?_
  refine ke_seq ?_
  refine ke_region ?_
  refine sr_ev (v := str ([])) (ev_assign rfl) (by decide) ?_
  refine sr_end (l' := [(0, str key_0), (1, str s_1)]) (.cons rfl (.cons rfl (.nil _))) ?_
  refine ke_seq ?_
  refine ke_region ?_
  refine sr_ev (v := str key_0) (ev_move rfl) (by decide) ?_
  refine sr_ev (v := .int .i64 (key_0.length : Int)) (ev_slen Tryd.underlying9 rfl) (by decide) ?_
  obtain ⟨y1, hy2, hS⟩ := bind_some' hS
  refine sr_call (vs := [.int .i64 (key_0.length : Int)]) rfl Tryd.call48 rfl (lib_Itoa_ok _ (hg.below hb) hy2) (by decide) ?_
  rintro _ w3 ⟨rfl, hbw4⟩
  replace hb := hb.trans (hbw4.mono hb.size)
  obtain ⟨hk5, hS⟩ := chk_some hS
  refine sr_ev (v := str (y1 ++ ([58]))) (ev_cat rfl rfl hk5) (by decide) ?_
  refine sr_ev (v := str key_0) (ev_move rfl) (by decide) ?_
  obtain ⟨hk6, hS⟩ := chk_some hS
  refine sr_ev (v := str ((y1 ++ ([58])) ++ key_0)) (ev_cat rfl rfl hk6) (by decide) ?_
  refine sr_ev (v := str ((y1 ++ ([58])) ++ key_0)) (ev_assign rfl) (by decide) ?_
  refine sr_end (l' := [(1, str s_1), (5, str ((y1 ++ ([58])) ++ key_0))]) (.cons rfl (.cons rfl (.nil _))) ?_
  refine ke_seq ?_
  refine ke_region ?_
  refine sr_ev (v := str ((y1 ++ ([58])) ++ key_0)) (ev_move rfl) (by decide) ?_
  refine sr_ev (v := str ((y1 ++ ([58])) ++ key_0)) (ev_move rfl) (by decide) ?_
  refine sr_ev (v := str s_1) (ev_move rfl) (by decide) ?_
  obtain ⟨hk7, hS⟩ := chk_some hS
  refine sr_ev (v := str (((y1 ++ ([58])) ++ key_0) ++ s_1)) (ev_cat rfl rfl hk7) (by decide) ?_
  obtain ⟨y8, hy9, hS⟩ := bind_some' hS
  refine sr_call (vs := [str (((y1 ++ ([58])) ++ key_0) ++ s_1)]) rfl Tryd.call49 rfl (digest_Text_ok _ (hg.below hb) hy9) (by decide) ?_
  rintro _ w10 ⟨rfl, hbw11⟩
  replace hb := hb.trans (hbw11.mono hb.size)
  obtain ⟨hk12, hS⟩ := chk_some hS
  refine sr_ev (v := str (((y1 ++ ([58])) ++ key_0) ++ y8)) (ev_cat rfl rfl hk12) (by decide) ?_
  obtain ⟨y13, hy14, hS⟩ := bind_some' hS
  refine sr_call (vs := [str (((y1 ++ ([58])) ++ key_0) ++ y8)]) rfl Tryd.call49 rfl (digest_Text_ok _ (hg.below hb) hy14) (by decide) ?_
  rintro _ w15 ⟨rfl, hbw16⟩
  replace hb := hb.trans (hbw16.mono hb.size)
  refine sr_ev (v := str y13) (ev_assign rfl) (by decide) ?_
  refine sr_end (l' := [(4, str y13)]) (.cons rfl (.nil _)) ?_
  cases hS
  exact ke_ret1 Tryd.func27 rfl rfl ⟨_, rfl, rfl, hb⟩
theorem otp_code_L1_ok {w0 : World} (hg : Gs w0) {A0 : Nat → Prop} (hA0 : ∀ b, A0 b → b < w0.heap.size) : ∀ (n : Nat), ∀ {r : Str} {n_5 : Int} {out_6 : List Int} {t_15 : Int} {gout_6 : Nat}, otp_code_L1 n n_5 out_6 t_15 = some r → ∀ {w : World} {A : Nat → Prop}, (Below w0.heap.size w0 w) → (∀ b, A b → b < w.heap.size) → (∀ b, A0 b → A b) → (Hp A w0.heap.size w [(gout_6, .cells (out_6.map (Value.int .u8)).toArray 5 (0, 0))]) → KE Tryd.prog 30 (Ret (fun v w' => v = str r ∧ Below w0.heap.size w0 w')) 31 [.code (sub (bodyOf Tryd.f30) [2, 2, 2, 1, 2, 2, 1]), .inLoop (sub (bodyOf Tryd.f30) [2, 2, 2, 1, 2, 2, 1]), .inBlock 0, .code (sub (bodyOf Tryd.f30) [2, 2, 2, 2])] [(5, .int .u64 n_5), (6, .slice (some ⟨gout_6, 0, none⟩) 6 6), (15, .int .i64 t_15)] w := by
  intro n
  induction n with
  | zero => intro r n_5 out_6 t_15 gout_6 hS; cases hS
  | succ n ih =>
    have hr0 : ∀ {r : Str} {n_5 : Int} {out_6 : List Int} {t_15 : Int} {gout_6 : Nat}, otp_code_L1 n n_5 out_6 t_15 = some r → ∀ {w : World} {A : Nat → Prop}, (Below w0.heap.size w0 w) → (∀ b, A b → b < w.heap.size) → (∀ b, A0 b → A b) → (Hp A w0.heap.size w [(gout_6, .cells (out_6.map (Value.int .u8)).toArray 5 (0, 0))]) → KE Tryd.prog 30 (Ret (fun v w' => v = str r ∧ Below w0.heap.size w0 w')) 31 [.inLoop (sub (bodyOf Tryd.f30) [2, 2, 2, 1, 2, 2, 1]), .inBlock 0, .code (sub (bodyOf Tryd.f30) [2, 2, 2, 2])] [(5, .int .u64 n_5), (6, .slice (some ⟨gout_6, 0, none⟩) 6 6), (15, .int .i64 t_15)] w := fun {r} {n_5} {out_6} {t_15} {gout_6} hS {w} {A} hb hA hi hH => ke_inLoop (ih hS hb hA hi hH)
    clear ih
    intro r n_5 out_6 t_15 gout_6 hS w A hb hA hi hH
    unfold otp_code_L1 at hS
    refine ke_seq ?_
    refine ke_region ?_
    refine sr_ev (v := .bool (decide (t_15 < 6))) (ev_lt rfl rfl) (by decide) ?_
    refine sr_end (l' := [(5, .int .u64 n_5), (6, .slice (some ⟨gout_6, 0, none⟩) 6 6), (15, .int .i64 t_15), (16, .bool (decide (t_15 < 6)))]) (.cons rfl (.cons rfl (.cons rfl (.cons rfl (.nil _))))) ?_
    refine ke_seq ?_
    refine ke_cond (t := decide (t_15 < 6)) rfl (fun hc20 => ?_) (fun hc20 => ?_)
    · replace hS := ite_true' hS hc20
      refine ke_skip ?_
      refine ke_seq ?_
      refine ke_block ?_
      refine ke_seq ?_
      refine ke_region ?_
      refine sr_ev (v := .int .i64 t_15) (ev_move rfl) (by decide) ?_
      refine sr_ev (v := .int .i64 t_15) (ev_assign rfl) (by decide) ?_
      refine sr_end (l' := [(5, .int .u64 n_5), (6, .slice (some ⟨gout_6, 0, none⟩) 6 6), (7, .int .i64 t_15), (15, .int .i64 t_15)]) (.cons rfl (.cons rfl (.cons rfl (.cons rfl (.nil _))))) ?_
      refine ke_seq ?_
      refine ke_region ?_
      refine sr_ev (v := .slice (some ⟨gout_6, 0, none⟩) 6 6) (ev_move rfl) (by decide) ?_
      refine sr_ev (v := .int .i64 t_15) (ev_move rfl) (by decide) ?_
      refine sr_ev (v := .int .i64 (IntKind.i64.wrap (5 - t_15))) (ev_sub rfl rfl) (by decide) ?_
      refine sr_ev (v := .int .u64 n_5) (ev_move rfl) (by decide) ?_
      refine sr_ev (v := .int .u64 (Int.tmod n_5 10)) (ev_rem rfl rfl (by decide)) (by decide) ?_
      refine sr_ev (v := .int .u64 (IntKind.u64.wrap (48 + (Int.tmod n_5 10)))) (ev_add rfl rfl) (by decide) ?_
      refine sr_ev (v := .int .u8 (IntKind.u8.wrap (IntKind.u64.wrap (48 + (Int.tmod n_5 10))))) (ev_conv Tryd.underlying5 Tryd.underlying48 rfl) (by decide) ?_
      obtain ⟨hk21, hS⟩ := chk_some hS
      refine sr_ev (v := .pointer (some ⟨gout_6, 0 + (IntKind.i64.wrap (5 - t_15)).toNat * 1, none⟩)) (ev_arrslindex Tryd.underlying56 Tryd.info5 rfl rfl rfl hk21) (by decide) ?_
      obtain ⟨hk22, hS⟩ := chk_some hS
      refine sr_store_arr (j := 0) hH rfl Tryd.sizeOf5 rfl rfl hk22 ?_
      intro w23 hH1 hwr24
      replace hb := hwr24.below hb (hH.base _ (List.mem_of_getElem? (i := 0) rfl))
      replace hA := hwr24.lt hA
      replace hH : Hp A w0.heap.size w23 [(gout_6, .cells ((setAt out_6 (IntKind.i64.wrap (5 - t_15)) (IntKind.u8.wrap (IntKind.u64.wrap (48 + (Int.tmod n_5 10))))).map (Value.int .u8)).toArray 5 (0, 0))] := hH1
      clear hH1
      refine sr_end (l' := [(5, .int .u64 n_5), (6, .slice (some ⟨gout_6, 0, none⟩) 6 6), (15, .int .i64 t_15)]) (.cons rfl (.cons rfl (.cons rfl (.nil _)))) ?_
      refine ke_region ?_
      refine sr_ev (v := .int .u64 n_5) (ev_move rfl) (by decide) ?_
      refine sr_ev (v := .int .u64 (IntKind.u64.wrap (n_5.tdiv 10))) (ev_quo rfl rfl (by decide)) (by decide) ?_
      refine sr_ev (v := .int .u64 (IntKind.u64.wrap (n_5.tdiv 10))) (ev_assign rfl) (by decide) ?_
      refine sr_end (l' := [(5, .int .u64 (IntKind.u64.wrap (n_5.tdiv 10))), (6, .slice (some ⟨gout_6, 0, none⟩) 6 6), (15, .int .i64 t_15)]) (.cons rfl (.cons rfl (.cons rfl (.nil _)))) ?_
      refine ke_inBlock ?_
      refine ke_region ?_
      refine sr_ev (v := .int .i64 (IntKind.i64.wrap (t_15 + 1))) (ev_add rfl rfl) (by decide) ?_
      refine sr_ev (v := .int .i64 (IntKind.i64.wrap (t_15 + 1))) (ev_move rfl) (by decide) ?_
      refine sr_end (l' := [(5, .int .u64 (IntKind.u64.wrap (n_5.tdiv 10))), (6, .slice (some ⟨gout_6, 0, none⟩) 6 6), (15, .int .i64 (IntKind.i64.wrap (t_15 + 1)))]) (.cons rfl (.cons rfl (.cons rfl (.nil _)))) ?_
      have hK := hr0 hS hb hA hi hH
      exact ke_weaken (l' := [(5, .int .u64 (IntKind.u64.wrap (n_5.tdiv 10))), (6, .slice (some ⟨gout_6, 0, none⟩) 6 6), (15, .int .i64 (IntKind.i64.wrap (t_15 + 1)))]) (.cons rfl (.cons rfl (.cons rfl (.nil _)))) hK
    · replace hS := ite_false' hS hc20
      refine ke_exit (k' := _) rfl ?_
      refine ke_seq ?_
      refine ke_region ?_
      refine sr_ev (v := .slice (some ⟨gout_6, 0, none⟩) 6 6) (ev_move rfl) (by decide) ?_
      obtain ⟨hk25, hS⟩ := chk_some hS
      refine sr_ev (v := str (bytesStr out_6)) (ev_arr2s (j := 0) hH rfl (by simpa using hk25) rfl Tryd.underlying56 Tryd.underlying5 Tryd.underlying9 rfl) (by decide) ?_
      refine sr_ev (v := str (bytesStr out_6)) (ev_assign rfl) (by decide) ?_
      refine sr_end (l' := [(4, str (bytesStr out_6))]) (.cons rfl (.nil _)) ?_
      cases hS
      exact ke_ret1 Tryd.func30 rfl rfl ⟨_, rfl, rfl, hb⟩
theorem otp_code_ok (w0 : World) (hg : Gs w0) {secret_0 : Str} {counter_1 : Int} {r : Str} (hS : otp_code secret_0 counter_1 = some r) :
    Calls Tryd.prog 30 #[str secret_0, .int .i64 counter_1] w0 (Ret (fun v w' => v = str r ∧ Below w0.heap.size w0 w')) := by
  unfold otp_code at hS
  have hb := Below.refl w0.heap.size w0
  obtain ⟨A0, hA0, hAe⟩ : ∃ A0 : Nat → Prop, (∀ b, A0 b → b < w0.heap.size) ∧ A0 = fun _ => False := ⟨_, fun _ h => h.elim, rfl⟩
  clear hAe
  have hA := hA0
  have hi : ∀ b, A0 b → A0 b := fun _ h => h
  have hH := Hp.nil A0 w0.heap.size w0
  refine calls_of_ke Tryd.func30 rfl (n := 31) rfl rfl (l := [(0, str secret_0), (1, .int .i64 counter_1)]) rfl ?_
  refine ke_seq ?_
  refine ke_region ?_
  refine sr_ev (v := str ([])) (ev_assign rfl) (by decide) ?_
  refine sr_end (l' := [(0, str secret_0), (1, .int .i64 counter_1)]) (.cons rfl (.cons rfl (.nil _))) ?_
  refine ke_seq ?_
  refine ke_region ?_
  refine sr_ev (v := str secret_0) (ev_move rfl) (by decide) ?_
  refine sr_ev (v := .int .i64 counter_1) (ev_move rfl) (by decide) ?_
  obtain ⟨y1, hy2, hS⟩ := bind_some' hS
  refine sr_call (vs := [.int .i64 counter_1]) rfl Tryd.call43 rfl (codec_Int_ok _ (hg.below hb) hy2) (by decide) ?_
  rintro _ w3 ⟨rfl, hbw4⟩
  replace hb := hb.trans (hbw4.mono hb.size)
  replace hA := lt_mono hA hbw4.size
  replace hH := hH.below hbw4
  obtain ⟨y5, hy6, hS⟩ := bind_some' hS
  refine sr_call (vs := [str secret_0, str y1]) rfl Tryd.call27 rfl (digest_Mac_ok _ (hg.below hb) hy6) (by decide) ?_
  rintro _ w7 ⟨rfl, hbw8⟩
  replace hb := hb.trans (hbw8.mono hb.size)
  replace hA := lt_mono hA hbw8.size
  replace hH := hH.below hbw8
  obtain ⟨y9, hy10, hS⟩ := bind_some' hS
  refine sr_call (vs := [str y5]) rfl Tryd.call51 rfl (digest_Sum_ok _ (hg.below hb) hy10) (by decide) ?_
  rintro _ w11 ⟨rfl, hbw12⟩
  replace hb := hb.trans (hbw12.mono hb.size)
  replace hA := lt_mono hA hbw12.size
  replace hH := hH.below hbw12
  refine sr_ev (v := .int .u64 (Int.tmod y9 1000000)) (ev_rem rfl rfl (by decide)) (by decide) ?_
  refine sr_ev (v := .int .u64 (Int.tmod y9 1000000)) (ev_assign rfl) (by decide) ?_
  refine sr_end (l' := [(5, .int .u64 (Int.tmod y9 1000000))]) (.cons rfl (.nil _)) ?_
  refine ke_seq ?_
  refine ke_region ?_
  refine sr_makeArr (m := 6) (E := 5) (kk := .u8) (xs := [0, 0, 0, 0, 0, 0]) hH hb.size hA rfl rfl (fun _ => by kernel_rfl) (by decide) ?_
  intro g13 A14 w15 hH1 hst16 hbw17 hinc18 hA1 hge19
  replace hb := hb.trans (hbw17.mono hb.size)
  replace hi := fun b hb => hinc18 b (hi b hb)
  replace hH : Hp A14 w0.heap.size w15 [(g13, .cells (([0, 0, 0, 0, 0, 0]).map (Value.int .u8)).toArray 5 (0, 0))] := hH1
  replace hA := hA1
  clear hH1 hA1
  refine sr_ev (v := .slice (some ⟨g13, 0, none⟩) 6 6) (ev_assign rfl) (by decide) ?_
  refine sr_end (l' := [(5, .int .u64 (Int.tmod y9 1000000)), (6, .slice (some ⟨g13, 0, none⟩) 6 6)]) (.cons rfl (.cons rfl (.nil _))) ?_
  refine ke_seq ?_
  refine ke_seq ?_
  refine ke_region ?_
  refine sr_ev (v := .int .i64 0) (ev_move rfl) (by decide) ?_
  refine sr_end (l' := [(5, .int .u64 (Int.tmod y9 1000000)), (6, .slice (some ⟨g13, 0, none⟩) 6 6), (15, .int .i64 0)]) (.cons rfl (.cons rfl (.cons rfl (.nil _)))) ?_
  refine ke_block ?_
  have hK := otp_code_L1_ok hg hA0 _ hS hb hA hi hH
  exact ke_weaken (l' := [(5, .int .u64 (Int.tmod y9 1000000)), (6, .slice (some ⟨g13, 0, none⟩) 6 6), (15, .int .i64 0)]) (.cons rfl (.cons rfl (.cons rfl (.nil _)))) (ke_loop hK)
theorem otp_Code_ok (w0 : World) (hg : Gs w0) {secret_0 : Str} {counter_1 : Int} {r : Str × Int} (hS : otp_Code secret_0 counter_1 = some r) :
    Calls Tryd.prog 10 #[str secret_0, .int .i64 counter_1] w0 (Ret (fun v w' => v = .tuple #[str r.1, .int .i64 r.2] ∧ Below w0.heap.size w0 w')) := by
  unfold otp_Code at hS
  have hb := Below.refl w0.heap.size w0
  refine calls_of_ke Tryd.func10 rfl (n := 20) rfl rfl (l := [(0, str secret_0), (1, .int .i64 counter_1)]) rfl ?_
  refine ke_seq ?_
  refine ke_region ?_
  refine sr_ev (v := str ([])) (ev_assign rfl) (by decide) ?_
  refine sr_ev (v := .int .i64 0) (ev_assign rfl) (by decide) ?_
  refine sr_end (l' := [(0, str secret_0), (1, .int .i64 counter_1)]) (.cons rfl (.cons rfl (.nil _))) ?_
  refine ke_seq ?_
  refine ke_block ?_
  refine ke_seq ?_
  refine ke_region ?_
  refine sr_ev (v := str secret_0) (ev_move rfl) (by decide) ?_
  obtain ⟨y1, hy2, hS⟩ := bind_some' hS
  refine sr_call (vs := [str secret_0]) rfl Tryd.call29 rfl (fold_Clean_ok _ (hg.below hb) hy2) (by decide) ?_
  rintro _ w3 ⟨rfl, hbw4⟩
  replace hb := hb.trans (hbw4.mono hb.size)
  refine sr_ev (v := .bool (!y1)) (ev_not rfl) (by decide) ?_
  refine sr_ev (v := .bool (!y1)) (ev_assign rfl) (by decide) ?_
  refine sr_end (l' := [(0, str secret_0), (1, .int .i64 counter_1), (6, .bool (!y1))]) (.cons rfl (.cons rfl (.cons rfl (.nil _)))) ?_
  refine ke_cond (t := !y1) rfl (fun hc5 => ?_) (fun hc5 => ?_)
  · replace hS := ite_true' hS hc5
    refine ke_seq ?_
    refine ke_region ?_
    refine sr_ev (v := str ([])) (ev_assign rfl) (by decide) ?_
    refine sr_ev (v := .int .i64 4) (ev_assign rfl) (by decide) ?_
    refine sr_end (l' := [(4, str ([])), (5, .int .i64 4)]) (.cons rfl (.cons rfl (.nil _))) ?_
    cases hS
    exact ke_ret2 Tryd.func10 rfl rfl rfl ⟨_, rfl, rfl, hb⟩
  · replace hS := ite_false' hS hc5
    refine ke_seq ?_
    refine ke_region ?_
    refine sr_ev (v := .int .i64 counter_1) (ev_move rfl) (by decide) ?_
    refine sr_ev (v := .bool (decide (counter_1 < 0))) (ev_lt rfl rfl) (by decide) ?_
    refine sr_ev (v := .bool (decide (counter_1 < 0))) (ev_move rfl) (by decide) ?_
    refine sr_join (m := 3) (C := fun (x : Bool) w1 => x = ((decide (counter_1 < 0)) || (decide (counter_1 > 36650387592))) ∧ w3 = w1) (l' := fun x => [(0, str secret_0), (1, .int .i64 counter_1), (16, .bool x)]) ?_ ?_
    · rintro _ _ ⟨rfl, rfl⟩
      refine sr_ev (v := .bool ((decide (counter_1 < 0)) || (decide (counter_1 > 36650387592)))) (ev_assign rfl) (by decide) ?_
      refine sr_end (l' := [(0, str secret_0), (1, .int .i64 counter_1), (10, .bool ((decide (counter_1 < 0)) || (decide (counter_1 > 36650387592))))]) (.cons rfl (.cons rfl (.cons rfl (.nil _)))) ?_
      refine ke_cond (t := (decide (counter_1 < 0)) || (decide (counter_1 > 36650387592))) rfl (fun hc13 => ?_) (fun hc13 => ?_)
      · replace hS := ite_true' hS hc13
        refine ke_seq ?_
        refine ke_region ?_
        refine sr_ev (v := str ([])) (ev_assign rfl) (by decide) ?_
        refine sr_ev (v := .int .i64 27) (ev_assign rfl) (by decide) ?_
        refine sr_end (l' := [(4, str ([])), (5, .int .i64 27)]) (.cons rfl (.cons rfl (.nil _))) ?_
        cases hS
        exact ke_ret2 Tryd.func10 rfl rfl rfl ⟨_, rfl, rfl, hb⟩
      · replace hS := ite_false' hS hc13
        refine ke_skip ?_
        refine ke_inBlock ?_
        refine ke_seq ?_
        refine ke_region ?_
        refine sr_ev (v := str secret_0) (ev_move rfl) (by decide) ?_
        refine sr_ev (v := .int .i64 counter_1) (ev_move rfl) (by decide) ?_
        obtain ⟨y14, hy15, hS⟩ := bind_some' hS
        refine sr_call (vs := [str secret_0, .int .i64 counter_1]) rfl Tryd.call30 rfl (otp_code_ok _ (hg.below hb) hy15) (by decide) ?_
        rintro _ w16 ⟨rfl, hbw17⟩
        replace hb := hb.trans (hbw17.mono hb.size)
        refine sr_ev (v := str y14) (ev_assign rfl) (by decide) ?_
        refine sr_ev (v := .int .i64 0) (ev_assign rfl) (by decide) ?_
        refine sr_end (l' := [(4, str y14), (5, .int .i64 0)]) (.cons rfl (.cons rfl (.nil _))) ?_
        cases hS
        exact ke_ret2 Tryd.func10 rfl rfl rfl ⟨_, rfl, rfl, hb⟩
    · intro K7
      rcases Bool.eq_false_or_eq_true (decide (counter_1 < 0)) with hg6 | hg6
      · refine sr_pass (e := 13) rfl rfl (by rw [hg6]; rfl) (by decide) ?_
        refine sr_pass (e := 13) rfl rfl (by rw [hg6]; rfl) (by decide) ?_
        refine sr_ev (v := .bool true) (ev_pick_t rfl hg6 rfl) (by decide) ?_
        exact sr_weaken (l' := [(0, str secret_0), (1, .int .i64 counter_1), (16, .bool true)]) (.cons rfl (.cons rfl (.cons rfl (.nil _)))) (K7 true _ ⟨by rw [hg6]; rfl, rfl⟩)
      · refine sr_evg (b := false) (e := 13) rfl rfl hg6 (v := .int .i64 counter_1) (ev_move rfl) (by decide) ?_
        refine sr_evg (b := false) (e := 13) rfl rfl hg6 (v := .bool (decide (counter_1 > 36650387592))) (ev_gt rfl rfl) (by decide) ?_
        refine sr_ev (v := .bool (decide (counter_1 > 36650387592))) (ev_pick_f rfl hg6 rfl) (by decide) ?_
        exact sr_weaken (l' := [(0, str secret_0), (1, .int .i64 counter_1), (16, .bool (decide (counter_1 > 36650387592)))]) (.cons rfl (.cons rfl (.cons rfl (.nil _)))) (K7 (decide (counter_1 > 36650387592)) _ ⟨by rw [hg6]; rfl, rfl⟩)
theorem otp_six_1_ok (w0 : World) (hg : Gs w0) {c_0 : Int} {r : Bool} (hS : otp_six_1 c_0 = some r) :
    Calls Tryd.prog 59 #[.int .u8 c_0] w0 (Ret (fun v w' => v = .bool r ∧ Below w0.heap.size w0 w')) := by
  unfold otp_six_1 at hS
  have hb := Below.refl w0.heap.size w0
  refine calls_of_ke Tryd.func59 rfl (n := 9) rfl rfl (l := [(0, .int .u8 c_0)]) rfl ?_
  refine ke_seq ?_
  refine ke_region ?_
  refine sr_ev (v := .bool false) (ev_assign rfl) (by decide) ?_
  refine sr_end (l' := [(0, .int .u8 c_0)]) (.cons rfl (.nil _)) ?_
  refine ke_seq ?_
  refine ke_region ?_
  refine sr_ev (v := .int .u8 c_0) (ev_move rfl) (by decide) ?_
  refine sr_ev (v := .bool (decide (c_0 < 48))) (ev_lt rfl rfl) (by decide) ?_
  refine sr_ev (v := .bool (decide (c_0 < 48))) (ev_move rfl) (by decide) ?_
  refine sr_join (m := 3) (C := fun (x : Bool) w1 => x = ((decide (c_0 < 48)) || (decide (c_0 > 57))) ∧ w0 = w1) (l' := fun x => [(8, .bool x)]) ?_ ?_
  · rintro _ _ ⟨rfl, rfl⟩
    refine sr_ev (v := .bool ((decide (c_0 < 48)) || (decide (c_0 > 57)))) (ev_assign rfl) (by decide) ?_
    refine sr_end (l' := [(2, .bool ((decide (c_0 < 48)) || (decide (c_0 > 57))))]) (.cons rfl (.nil _)) ?_
    cases hS
    exact ke_ret1 Tryd.func59 rfl rfl ⟨_, rfl, rfl, hb⟩
  · intro K2
    rcases Bool.eq_false_or_eq_true (decide (c_0 < 48)) with hg1 | hg1
    · refine sr_pass (e := 5) rfl rfl (by rw [hg1]; rfl) (by decide) ?_
      refine sr_pass (e := 5) rfl rfl (by rw [hg1]; rfl) (by decide) ?_
      refine sr_ev (v := .bool true) (ev_pick_t rfl hg1 rfl) (by decide) ?_
      exact sr_weaken (l' := [(8, .bool true)]) (.cons rfl (.nil _)) (K2 true _ ⟨by rw [hg1]; rfl, rfl⟩)
    · refine sr_evg (b := false) (e := 5) rfl rfl hg1 (v := .int .u8 c_0) (ev_move rfl) (by decide) ?_
      refine sr_evg (b := false) (e := 5) rfl rfl hg1 (v := .bool (decide (c_0 > 57))) (ev_gt rfl rfl) (by decide) ?_
      refine sr_ev (v := .bool (decide (c_0 > 57))) (ev_pick_f rfl hg1 rfl) (by decide) ?_
      exact sr_weaken (l' := [(8, .bool (decide (c_0 > 57)))]) (.cons rfl (.nil _)) (K2 (decide (c_0 > 57)) _ ⟨by rw [hg1]; rfl, rfl⟩)
theorem slices_IndexFunc_byte_byte__six_1_L1_ok {w0 : World} (hg : Gs w0) {A0 : Nat → Prop} (hA0 : ∀ b, A0 b → b < w0.heap.size) : ∀ (n : Nat), ∀ {r : Int} {s_0 : List Int} {t_7 : Int} {t_8 : Int} {vs_0 : Value}, slices_IndexFunc_byte_byte__six_1_L1 n s_0 t_7 t_8 = some r → ∀ {w : World} {A : Nat → Prop}, (Below w0.heap.size w0 w) → (∀ b, A b → b < w.heap.size) → (∀ b, A0 b → A b) → (Hp A w0.heap.size w []) → (SlR (intC .u8) A w vs_0 s_0) → KE Tryd.prog 69 (Ret (fun v w' => v = .int .i64 r ∧ Below w0.heap.size w0 w')) 19 [.code (sub (bodyOf Tryd.f69) [2, 1, 2, 2, 1]), .inLoop (sub (bodyOf Tryd.f69) [2, 1, 2, 2, 1]), .inBlock 0, .code (sub (bodyOf Tryd.f69) [2, 2])] [(0, vs_0), (1, .func (.func 59) #[] #[]), (7, .int .i64 t_7), (8, .int .i64 t_8)] w := by
  intro n
  induction n with
  | zero => intro r s_0 t_7 t_8 vs_0 hS; cases hS
  | succ n ih =>
    have hr0 : ∀ {r : Int} {s_0 : List Int} {t_7 : Int} {t_8 : Int} {vs_0 : Value}, slices_IndexFunc_byte_byte__six_1_L1 n s_0 t_7 t_8 = some r → ∀ {w : World} {A : Nat → Prop}, (Below w0.heap.size w0 w) → (∀ b, A b → b < w.heap.size) → (∀ b, A0 b → A b) → (Hp A w0.heap.size w []) → (SlR (intC .u8) A w vs_0 s_0) → KE Tryd.prog 69 (Ret (fun v w' => v = .int .i64 r ∧ Below w0.heap.size w0 w')) 19 [.inLoop (sub (bodyOf Tryd.f69) [2, 1, 2, 2, 1]), .inBlock 0, .code (sub (bodyOf Tryd.f69) [2, 2])] [(0, vs_0), (1, .func (.func 59) #[] #[]), (7, .int .i64 t_7), (8, .int .i64 t_8)] w := fun {r} {s_0} {t_7} {t_8} {vs_0} hS {w} {A} hb hA hi hH hs_0 => ke_inLoop (ih hS hb hA hi hH hs_0)
    clear ih
    intro r s_0 t_7 t_8 vs_0 hS w A hb hA hi hH hs_0
    unfold slices_IndexFunc_byte_byte__six_1_L1 at hS
    refine ke_seq ?_
    refine ke_region ?_
    refine sr_ev (v := .bool (decide (t_8 < t_7))) (ev_lt rfl rfl) (by decide) ?_
    refine sr_end (l' := [(0, vs_0), (1, .func (.func 59) #[] #[]), (7, .int .i64 t_7), (8, .int .i64 t_8), (9, .bool (decide (t_8 < t_7)))]) (.cons rfl (.cons rfl (.cons rfl (.cons rfl (.cons rfl (.nil _)))))) ?_
    refine ke_seq ?_
    refine ke_cond (t := decide (t_8 < t_7)) rfl (fun hc3 => ?_) (fun hc3 => ?_)
    · replace hS := ite_true' hS hc3
      refine ke_skip ?_
      refine ke_seq ?_
      refine ke_block ?_
      refine ke_seq ?_
      refine ke_region ?_
      refine sr_ev (v := .int .i64 t_8) (ev_move rfl) (by decide) ?_
      refine sr_ev (v := .int .i64 t_8) (ev_assign rfl) (by decide) ?_
      refine sr_end (l' := [(0, vs_0), (1, .func (.func 59) #[] #[]), (5, .int .i64 t_8), (7, .int .i64 t_7), (8, .int .i64 t_8)]) (.cons rfl (.cons rfl (.cons rfl (.cons rfl (.cons rfl (.nil _)))))) ?_
      refine ke_seq ?_
      refine ke_region ?_
      refine sr_ev (v := .func (.func 59) #[] #[]) (ev_move rfl) (by decide) ?_
      refine sr_ev (v := vs_0) (ev_move rfl) (by decide) ?_
      refine sr_ev (v := .int .i64 t_8) (ev_move rfl) (by decide) ?_
      obtain ⟨y4, hy5, hS⟩ := bind_some' hS
      refine sr_index hs_0 Tryd.underlying56 Tryd.info5 rfl rfl rfl hy5 (by decide) ?_
      intro b6 o7 cs9 he8
      obtain rfl : cs9 = [.int .u8 y4] := he8.rd
      refine sr_ev (v := .int .u8 y4) (ev_load Tryd.isAgg5 rfl (he8.cell 0 _ rfl)) (by decide) ?_
      obtain ⟨y10, hy11, hS⟩ := bind_some' hS
      refine sr_call (vs := [.int .u8 y4]) rfl Tryd.call59 rfl (otp_six_1_ok _ (hg.below hb) hy11) (by decide) ?_
      rintro _ w12 ⟨rfl, hbw13⟩
      replace hb := hb.trans (hbw13.mono hb.size)
      replace hA := lt_mono hA hbw13.size
      replace hH := hH.below hbw13
      replace hs_0 := hs_0.below hbw13
      refine sr_end (l' := [(0, vs_0), (1, .func (.func 59) #[] #[]), (5, .int .i64 t_8), (7, .int .i64 t_7), (8, .int .i64 t_8), (16, .bool y10)]) (.cons rfl (.cons rfl (.cons rfl (.cons rfl (.cons rfl (.cons rfl (.nil _))))))) ?_
      refine ke_cond (t := y10) rfl (fun hc14 => ?_) (fun hc14 => ?_)
      · replace hS := ite_true' hS hc14
        refine ke_seq ?_
        refine ke_region ?_
        refine sr_ev (v := .int .i64 t_8) (ev_move rfl) (by decide) ?_
        refine sr_ev (v := .int .i64 t_8) (ev_assign rfl) (by decide) ?_
        refine sr_end (l' := [(4, .int .i64 t_8)]) (.cons rfl (.nil _)) ?_
        cases hS
        exact ke_ret1 Tryd.func69 rfl rfl ⟨_, rfl, rfl, hb⟩
      · replace hS := ite_false' hS hc14
        refine ke_skip ?_
        refine ke_inBlock ?_
        refine ke_region ?_
        refine sr_ev (v := .int .i64 (IntKind.i64.wrap (t_8 + 1))) (ev_add rfl rfl) (by decide) ?_
        refine sr_ev (v := .int .i64 (IntKind.i64.wrap (t_8 + 1))) (ev_move rfl) (by decide) ?_
        refine sr_end (l' := [(0, vs_0), (1, .func (.func 59) #[] #[]), (7, .int .i64 t_7), (8, .int .i64 (IntKind.i64.wrap (t_8 + 1)))]) (.cons rfl (.cons rfl (.cons rfl (.cons rfl (.nil _))))) ?_
        have hK := hr0 hS hb hA hi hH hs_0
        exact ke_weaken (l' := [(0, vs_0), (1, .func (.func 59) #[] #[]), (7, .int .i64 t_7), (8, .int .i64 (IntKind.i64.wrap (t_8 + 1)))]) (.cons rfl (.cons rfl (.cons rfl (.cons rfl (.nil _))))) hK
    · replace hS := ite_false' hS hc3
      refine ke_exit (k' := _) rfl ?_
      refine ke_seq ?_
      refine ke_region ?_
      refine sr_ev (v := .int .i64 (-1)) (ev_assign rfl) (by decide) ?_
      refine sr_end (l' := [(4, .int .i64 (-1))]) (.cons rfl (.nil _)) ?_
      cases hS
      exact ke_ret1 Tryd.func69 rfl rfl ⟨_, rfl, rfl, hb⟩
theorem slices_IndexFunc_byte_byte__six_1_ok {A0 : Nat → Prop} (w0 : World) (hg : Gs w0) {s_0 : List Int} {v1 : Value} {r : Int} (h2 : SlR (intC .u8) A0 w0 v1 s_0) (hS : slices_IndexFunc_byte_byte__six_1 s_0 = some r) :
    Calls Tryd.prog 69 #[v1, .func (.func 59) #[] #[]] w0 (Ret (fun v w' => v = .int .i64 r ∧ Below w0.heap.size w0 w')) := by
  unfold slices_IndexFunc_byte_byte__six_1 at hS
  have hb := Below.refl w0.heap.size w0
  replace h2 := h2.weak (A' := fun _ => False) (fun _ h => h.elim)
  obtain ⟨A0, hA0, hAe⟩ : ∃ A0 : Nat → Prop, (∀ b, A0 b → b < w0.heap.size) ∧ A0 = fun _ => False := ⟨_, fun _ h => h.elim, rfl⟩
  rw [← hAe] at h2
  clear hAe
  have hA := hA0
  have hi : ∀ b, A0 b → A0 b := fun _ h => h
  have hH := Hp.nil A0 w0.heap.size w0
  refine calls_of_ke Tryd.func69 rfl (n := 19) rfl rfl (l := [(0, v1), (1, .func (.func 59) #[] #[])]) rfl ?_
  refine ke_seq ?_
  refine ke_region ?_
  refine sr_ev (v := .int .i64 0) (ev_assign rfl) (by decide) ?_
  refine sr_end (l' := [(0, v1), (1, .func (.func 59) #[] #[])]) (.cons rfl (.cons rfl (.nil _))) ?_
  refine ke_seq ?_
  refine ke_seq ?_
  refine ke_region ?_
  refine sr_ev (v := v1) (ev_move rfl) (by decide) ?_
  refine sr_ev (v := .int .i64 (s_0.length : Int)) (ev_sllen Tryd.underlying56 rfl h2) (by decide) ?_
  refine sr_ev (v := .int .i64 0) (ev_move rfl) (by decide) ?_
  refine sr_end (l' := [(0, v1), (1, .func (.func 59) #[] #[]), (7, .int .i64 (s_0.length : Int)), (8, .int .i64 0)]) (.cons rfl (.cons rfl (.cons rfl (.cons rfl (.nil _))))) ?_
  refine ke_block ?_
  have hK := slices_IndexFunc_byte_byte__six_1_L1_ok hg hA0 _ hS hb hA hi hH h2
  exact ke_weaken (l' := [(0, v1), (1, .func (.func 59) #[] #[]), (7, .int .i64 (s_0.length : Int)), (8, .int .i64 0)]) (.cons rfl (.cons rfl (.cons rfl (.cons rfl (.nil _))))) (ke_loop hK)
theorem slices_ContainsFunc_byte_byte__six_1_ok {A0 : Nat → Prop} (w0 : World) (hg : Gs w0) {s_0 : List Int} {v1 : Value} {r : Bool} (h2 : SlR (intC .u8) A0 w0 v1 s_0) (hS : slices_ContainsFunc_byte_byte__six_1 s_0 = some r) :
    Calls Tryd.prog 60 #[v1, .func (.func 59) #[] #[]] w0 (Ret (fun v w' => v = .bool r ∧ Below w0.heap.size w0 w')) := by
  unfold slices_ContainsFunc_byte_byte__six_1 at hS
  have hb := Below.refl w0.heap.size w0
  replace h2 := h2.weak (A' := fun _ => False) (fun _ h => h.elim)
  obtain ⟨A0, hA0, hAe⟩ : ∃ A0 : Nat → Prop, (∀ b, A0 b → b < w0.heap.size) ∧ A0 = fun _ => False := ⟨_, fun _ h => h.elim, rfl⟩
  rw [← hAe] at h2
  clear hAe
  have hA := hA0
  have hi : ∀ b, A0 b → A0 b := fun _ h => h
  have hH := Hp.nil A0 w0.heap.size w0
  refine calls_of_ke Tryd.func60 rfl (n := 9) rfl rfl (l := [(0, v1), (1, .func (.func 59) #[] #[])]) rfl ?_
  refine ke_seq ?_
  refine ke_region ?_
  refine sr_ev (v := .bool false) (ev_assign rfl) (by decide) ?_
  refine sr_end (l' := [(0, v1), (1, .func (.func 59) #[] #[])]) (.cons rfl (.cons rfl (.nil _))) ?_
  refine ke_seq ?_
  refine ke_region ?_
  refine sr_ev (v := v1) (ev_move rfl) (by decide) ?_
  refine sr_ev (v := .func (.func 59) #[] #[]) (ev_move rfl) (by decide) ?_
  obtain ⟨y3, hy4, hS⟩ := bind_some' hS
  refine sr_call (vs := [v1, .func (.func 59) #[] #[]]) rfl Tryd.call69 rfl (slices_IndexFunc_byte_byte__six_1_ok _ (hg.below hb) h2 hy4) (by decide) ?_
  rintro _ w5 ⟨rfl, hbw6⟩
  replace hb := hb.trans (hbw6.mono hb.size)
  replace hA := lt_mono hA hbw6.size
  replace hH := hH.below hbw6
  refine sr_ev (v := .bool (decide (y3 ≥ 0))) (ev_ge rfl rfl) (by decide) ?_
  refine sr_ev (v := .bool (decide (y3 ≥ 0))) (ev_assign rfl) (by decide) ?_
  refine sr_end (l' := [(4, .bool (decide (y3 ≥ 0)))]) (.cons rfl (.nil _)) ?_
  cases hS
  exact ke_ret1 Tryd.func60 rfl rfl ⟨_, rfl, rfl, hb⟩
theorem otp_six_ok (w0 : World) (hg : Gs w0) {s_0 : Str} {r : Bool} (hS : otp_six s_0 = some r) :
    Calls Tryd.prog 54 #[str s_0] w0 (Ret (fun v w' => v = .bool r ∧ Below w0.heap.size w0 w')) := by
  unfold otp_six at hS
  have hb := Below.refl w0.heap.size w0
  obtain ⟨A0, hA0, hAe⟩ : ∃ A0 : Nat → Prop, (∀ b, A0 b → b < w0.heap.size) ∧ A0 = fun _ => False := ⟨_, fun _ h => h.elim, rfl⟩
  clear hAe
  have hA := hA0
  have hi : ∀ b, A0 b → A0 b := fun _ h => h
  have hH := Hp.nil A0 w0.heap.size w0
  refine calls_of_ke Tryd.func54 rfl (n := 14) rfl rfl (l := [(0, str s_0)]) rfl ?_
  refine ke_seq ?_
  refine ke_region ?_
  refine sr_ev (v := .bool false) (ev_assign rfl) (by decide) ?_
  refine sr_end (l' := [(0, str s_0)]) (.cons rfl (.nil _)) ?_
  refine ke_seq ?_
  refine ke_region ?_
  refine sr_ev (v := .func (.func 59) #[] #[]) (ev_assign rfl) (by decide) ?_
  refine sr_end (l' := [(0, str s_0), (3, .func (.func 59) #[] #[])]) (.cons rfl (.cons rfl (.nil _))) ?_
  refine ke_seq ?_
  refine ke_region ?_
  refine sr_ev (v := str s_0) (ev_move rfl) (by decide) ?_
  refine sr_ev (v := .int .i64 (s_0.length : Int)) (ev_slen Tryd.underlying9 rfl) (by decide) ?_
  refine sr_ev (v := .bool ((s_0.length : Int) == 6)) (ev_eq rfl rfl) (by decide) ?_
  refine sr_ev (v := .bool ((s_0.length : Int) == 6)) (ev_move rfl) (by decide) ?_
  obtain ⟨z3, hz5, hS⟩ := bind_some' hS
  refine sr_join (m := 6) (C := fun (x : Bool) w1 => z3 = x ∧ Below w0.heap.size w0 w1) (l' := fun x => [(13, .bool x)]) ?_ ?_
  · rintro _ w6 ⟨rfl, hbw7⟩
    replace hb := hb.trans (hbw7.mono hb.size)
    replace hA := lt_mono hA hbw7.size
    replace hH := hH.below hbw7
    refine sr_ev (v := .bool z3) (ev_assign rfl) (by decide) ?_
    refine sr_end (l' := [(2, .bool z3)]) (.cons rfl (.nil _)) ?_
    cases hS
    exact ke_ret1 Tryd.func54 rfl rfl ⟨_, rfl, rfl, hb⟩
  · intro K2
    clear hS
    have hj4 := Below.refl w0.heap.size w0
    rcases Bool.eq_false_or_eq_true ((s_0.length : Int) == 6) with hg1 | hg1
    · have hS := ite_true' hz5 hg1
      refine sr_evg (b := true) (e := 7) rfl rfl hg1 (v := str s_0) (ev_move rfl) (by decide) ?_
      obtain ⟨hk18, hS⟩ := chk_some hS
      refine sr_unguard rfl rfl hg1 ?_
      refine sr_s2b hH hb.size hA Tryd.underlying9 Tryd.underlying56 Tryd.underlying5 hk18 rfl (by decide) ?_
      intro g8 v9 ex10 A11 w12 hH1 hv17 hst13 hbw14 hinc15 hA1 hge16
      replace hb := hb.trans (hbw14.mono hb.size)
      replace hj4 := hj4.trans (hbw14.mono hj4.size)
      replace hi := fun b hb => hinc15 b (hi b hb)
      replace hH : Hp A11 w0.heap.size w12 [(g8, rowObj (Value.int .u8) (strBytes s_0) ex10 5)] := hH1
      replace hA := hA1
      clear hH1 hA1
      refine sr_evg (b := true) (e := 7) rfl rfl hg1 (v := .func (.func 59) #[] #[]) (ev_move rfl) (by decide) ?_
      obtain ⟨y19, hy20, hS⟩ := bind_some' hS
      refine sr_callg (b := true) (e := 7) rfl rfl hg1 (vs := [v9, .func (.func 59) #[] #[]]) rfl Tryd.call60 rfl (slices_ContainsFunc_byte_byte__six_1_ok _ (hg.below hb) (hv17.sl (j := 0) hH rfl) hy20) (by decide) ?_
      rintro _ w21 ⟨rfl, hbw22⟩
      replace hb := hb.trans (hbw22.mono hb.size)
      replace hj4 := hj4.trans (hbw22.mono hj4.size)
      replace hA := lt_mono hA hbw22.size
      replace hH := hH.below hbw22
      refine sr_evg (b := true) (e := 7) rfl rfl hg1 (v := .bool (!y19)) (ev_not rfl) (by decide) ?_
      refine sr_ev (v := .bool (!y19)) (ev_pick_t rfl hg1 rfl) (by decide) ?_
      exact sr_weaken (l' := [(13, .bool (!y19))]) (.cons rfl (.nil _)) (K2 (!y19) _ ⟨(Option.some.inj hS).symm, hj4⟩)
    · have hS := ite_false' hz5 hg1
      refine sr_pass (e := 7) rfl rfl (by rw [hg1]; rfl) (by decide) ?_
      refine sr_pass (e := 7) rfl rfl (by rw [hg1]; rfl) (by decide) ?_
      refine sr_pass (e := 7) rfl rfl (by rw [hg1]; rfl) (by decide) ?_
      refine sr_pass (e := 7) rfl rfl (by rw [hg1]; rfl) (by decide) ?_
      refine sr_pass (e := 7) rfl rfl (by rw [hg1]; rfl) (by decide) ?_
      refine sr_ev (v := .bool false) (ev_pick_f rfl hg1 rfl) (by decide) ?_
      exact sr_weaken (l' := [(13, .bool false)]) (.cons rfl (.nil _)) (K2 false _ ⟨(Option.some.inj hS).symm, hj4⟩)
theorem otp_form_ok (w0 : World) (hg : Gs w0) {secret_0 : Str} {s_1 : Str} {r : Int} (hS : otp_form secret_0 s_1 = some r) :
    Calls Tryd.prog 37 #[str secret_0, str s_1] w0 (Ret (fun v w' => v = .int .i64 r ∧ Below w0.heap.size w0 w')) := by
  unfold otp_form at hS
  have hb := Below.refl w0.heap.size w0
  refine calls_of_ke Tryd.func37 rfl (n := 13) rfl rfl (l := [(0, str secret_0), (1, str s_1)]) rfl ?_
  refine ke_seq ?_
  refine ke_region ?_
  refine sr_ev (v := .int .i64 0) (ev_assign rfl) (by decide) ?_
  refine sr_end (l' := [(0, str secret_0), (1, str s_1)]) (.cons rfl (.cons rfl (.nil _))) ?_
  refine ke_seq ?_
  refine ke_seq ?_
  refine ke_region ?_
  refine sr_ev (v := str secret_0) (ev_move rfl) (by decide) ?_
  obtain ⟨y1, hy2, hS⟩ := bind_some' hS
  refine sr_call (vs := [str secret_0]) rfl Tryd.call29 rfl (fold_Clean_ok _ (hg.below hb) hy2) (by decide) ?_
  rintro _ w3 ⟨rfl, hbw4⟩
  replace hb := hb.trans (hbw4.mono hb.size)
  refine sr_ev (v := .bool (!y1)) (ev_not rfl) (by decide) ?_
  refine sr_ev (v := .bool (!y1)) (ev_move rfl) (by decide) ?_
  obtain ⟨z7, hz9, hS⟩ := bind_some' hS
  refine sr_join (m := 4) (C := fun (x : Bool) w1 => z7 = x ∧ Below w3.heap.size w3 w1) (l' := fun x => [(12, .bool x)]) ?_ ?_
  · rintro _ w10 ⟨rfl, hbw11⟩
    replace hb := hb.trans (hbw11.mono hb.size)
    refine sr_end (l' := [(12, .bool z7)]) (.cons rfl (.nil _)) ?_
    refine ke_cond (t := z7) rfl (fun hc16 => ?_) (fun hc16 => ?_)
    · replace hS := ite_true' hS hc16
      refine ke_seq ?_
      refine ke_region ?_
      refine sr_ev (v := .int .i64 4) (ev_assign rfl) (by decide) ?_
      refine sr_end (l' := [(4, .int .i64 4)]) (.cons rfl (.nil _)) ?_
      cases hS
      exact ke_ret1 Tryd.func37 rfl rfl ⟨_, rfl, rfl, hb⟩
    · replace hS := ite_false' hS hc16
      refine ke_skip ?_
      refine ke_seq ?_
      refine ke_region ?_
      refine sr_ev (v := .int .i64 0) (ev_assign rfl) (by decide) ?_
      refine sr_end (l' := [(4, .int .i64 0)]) (.cons rfl (.nil _)) ?_
      cases hS
      exact ke_ret1 Tryd.func37 rfl rfl ⟨_, rfl, rfl, hb⟩
  · intro K6
    clear hS
    have hj8 := Below.refl w3.heap.size w3
    rcases Bool.eq_false_or_eq_true (!y1) with hg5 | hg5
    · have hS := ite_true' hz9 hg5
      refine sr_pass (e := 8) rfl rfl (by rw [hg5]; rfl) (by decide) ?_
      refine sr_pass (e := 8) rfl rfl (by rw [hg5]; rfl) (by decide) ?_
      refine sr_pass (e := 8) rfl rfl (by rw [hg5]; rfl) (by decide) ?_
      refine sr_ev (v := .bool true) (ev_pick_t rfl hg5 rfl) (by decide) ?_
      exact sr_weaken (l' := [(12, .bool true)]) (.cons rfl (.nil _)) (K6 true _ ⟨(Option.some.inj hS).symm, hj8⟩)
    · have hS := ite_false' hz9 hg5
      refine sr_evg (b := false) (e := 8) rfl rfl hg5 (v := str s_1) (ev_move rfl) (by decide) ?_
      obtain ⟨y12, hy13, hS⟩ := bind_some' hS
      refine sr_callg (b := false) (e := 8) rfl rfl hg5 (vs := [str s_1]) rfl Tryd.call54 rfl (otp_six_ok _ (hg.below hb) hy13) (by decide) ?_
      rintro _ w14 ⟨rfl, hbw15⟩
      replace hb := hb.trans (hbw15.mono hb.size)
      replace hj8 := hj8.trans (hbw15.mono hj8.size)
      refine sr_evg (b := false) (e := 8) rfl rfl hg5 (v := .bool (!y12)) (ev_not rfl) (by decide) ?_
      refine sr_ev (v := .bool (!y12)) (ev_pick_f rfl hg5 rfl) (by decide) ?_
      exact sr_weaken (l' := [(12, .bool (!y12))]) (.cons rfl (.nil _)) (K6 (!y12) _ ⟨(Option.some.inj hS).symm, hj8⟩)
theorem otp_Verify_1_ok {A0 : Nat → Prop} (w0 : World) (hg : Gs w0) {c_0 : Int} {c1 : Str} {c2 : Str} {r : Bool} {b1 : Nat} {b3 : Nat} (he2 : ElR strC A0 w0 b1 0 [str c1] c1) (he4 : ElR strC A0 w0 b3 0 [str c2] c2) (hS : otp_Verify_1 c_0 c1 c2 = some r) :
    Calls Tryd.prog 39 #[.int .i64 c_0, .pointer (some ⟨b1, 0, none⟩), .pointer (some ⟨b3, 0, none⟩)] w0 (Ret (fun v w' => v = .bool r ∧ Below w0.heap.size w0 w')) := by
  unfold otp_Verify_1 at hS
  have hb := Below.refl w0.heap.size w0
  replace he2 := he2.weak (A' := fun _ => False) (fun _ h => h.elim)
  replace he4 := he4.weak (A' := fun _ => False) (fun _ h => h.elim)
  obtain ⟨A0, hA0, hAe⟩ : ∃ A0 : Nat → Prop, (∀ b, A0 b → b < w0.heap.size) ∧ A0 = fun _ => False := ⟨_, fun _ h => h.elim, rfl⟩
  rw [← hAe] at he2
  rw [← hAe] at he4
  clear hAe
  have hA := hA0
  have hi : ∀ b, A0 b → A0 b := fun _ h => h
  have hH := Hp.nil A0 w0.heap.size w0
  refine calls_of_ke Tryd.func39 rfl (n := 10) rfl rfl (l := [(0, .int .i64 c_0), (1, .pointer (some ⟨b1, 0, none⟩)), (2, .pointer (some ⟨b3, 0, none⟩))]) rfl ?_
  refine ke_seq ?_
  refine ke_region ?_
  refine sr_ev (v := .bool false) (ev_assign rfl) (by decide) ?_
  refine sr_end (l' := [(0, .int .i64 c_0), (1, .pointer (some ⟨b1, 0, none⟩)), (2, .pointer (some ⟨b3, 0, none⟩))]) (.cons rfl (.cons rfl (.cons rfl (.nil _)))) ?_
  refine ke_seq ?_
  refine ke_region_q Tryd.mixed (by kernel_rfl) ?_
  refine sq_ev (v := str c1) (fun w1 hw1 => ev_load Tryd.isAgg9 rfl ((he2.step (.of_below hw1) (Nat.succ_pos _)).cell 0 _ rfl)) (by decide) ?_
  refine sq_ev (v := .int .i64 c_0) (fun w1 hw1 => ev_move rfl) (by decide) ?_
  obtain ⟨y7, hy8, hS⟩ := bind_some' hS
  refine sq_call (v := str y7) (vs := [str c1, .int .i64 c_0]) rfl Tryd.call30 rfl (fun w1 hw1 => (otp_code_ok _ (hg.below (hb.trans (hw1.mono hb.size))) hy8)) (by decide) ?_
  refine sq_ev (v := str c2) (fun w1 hw1 => ev_load Tryd.isAgg9 rfl ((he4.step (.of_below hw1) (Nat.succ_pos _)).cell 0 _ rfl)) (by decide) ?_
  refine sq_ev (v := .bool (y7 == c2)) (fun w1 hw1 => ev_seq rfl rfl) (by decide) ?_
  refine sq_ev (v := .bool (y7 == c2)) (fun w1 hw1 => ev_assign rfl) (by decide) ?_
  refine sq_end (l' := [(4, .bool (y7 == c2))]) (.cons rfl (.nil _)) (fun w6 hw5 => ?_)
  replace hb := hb.trans (hw5.mono hb.size)
  replace hA := lt_mono hA hw5.size
  replace hH := hH.below hw5
  cases hS
  exact ke_ret1 Tryd.func39 rfl rfl ⟨_, rfl, rfl, hb⟩
theorem otp_search__Verify_1_L1_ok {w0 : World} (hg : Gs w0) {A0 : Nat → Prop} (hA0 : ∀ b, A0 b → b < w0.heap.size) : ∀ (n : Nat), ∀ {r : Int × Int} {to_1 : Int} {is_2_c0 : Str} {is_2_c1 : Str} {c_8 : Int} {bis_2_c0 : Nat} {bis_2_c1 : Nat}, otp_search__Verify_1_L1 n to_1 is_2_c0 is_2_c1 c_8 = some r → ∀ {w : World} {A : Nat → Prop}, (Below w0.heap.size w0 w) → (∀ b, A b → b < w.heap.size) → (∀ b, A0 b → A b) → (Hp A w0.heap.size w []) → (ElR strC A w bis_2_c0 0 [str is_2_c0] is_2_c0) → (ElR strC A w bis_2_c1 0 [str is_2_c1] is_2_c1) → KE Tryd.prog 38 (Ret (fun v w' => v = .tuple #[.int .i64 r.1, .int .i64 r.2] ∧ Below w0.heap.size w0 w')) 21 [.code (sub (bodyOf Tryd.f38) [2, 1, 2, 2, 1]), .inLoop (sub (bodyOf Tryd.f38) [2, 1, 2, 2, 1]), .inBlock 0, .code (sub (bodyOf Tryd.f38) [2, 2])] [(1, .int .i64 to_1), (2, .func (.func 39) #[] #[.pointer (some ⟨bis_2_c0, 0, none⟩), .pointer (some ⟨bis_2_c1, 0, none⟩)]), (8, .int .i64 c_8)] w := by
  intro n
  induction n with
  | zero => intro r to_1 is_2_c0 is_2_c1 c_8 bis_2_c0 bis_2_c1 hS; cases hS
  | succ n ih =>
    have hr0 : ∀ {r : Int × Int} {to_1 : Int} {is_2_c0 : Str} {is_2_c1 : Str} {c_8 : Int} {bis_2_c0 : Nat} {bis_2_c1 : Nat}, otp_search__Verify_1_L1 n to_1 is_2_c0 is_2_c1 c_8 = some r → ∀ {w : World} {A : Nat → Prop}, (Below w0.heap.size w0 w) → (∀ b, A b → b < w.heap.size) → (∀ b, A0 b → A b) → (Hp A w0.heap.size w []) → (ElR strC A w bis_2_c0 0 [str is_2_c0] is_2_c0) → (ElR strC A w bis_2_c1 0 [str is_2_c1] is_2_c1) → KE Tryd.prog 38 (Ret (fun v w' => v = .tuple #[.int .i64 r.1, .int .i64 r.2] ∧ Below w0.heap.size w0 w')) 21 [.inLoop (sub (bodyOf Tryd.f38) [2, 1, 2, 2, 1]), .inBlock 0, .code (sub (bodyOf Tryd.f38) [2, 2])] [(1, .int .i64 to_1), (2, .func (.func 39) #[] #[.pointer (some ⟨bis_2_c0, 0, none⟩), .pointer (some ⟨bis_2_c1, 0, none⟩)]), (8, .int .i64 c_8)] w := fun {r} {to_1} {is_2_c0} {is_2_c1} {c_8} {bis_2_c0} {bis_2_c1} hS {w} {A} hb hA hi hH his_2_c0 his_2_c1 => ke_inLoop (ih hS hb hA hi hH his_2_c0 his_2_c1)
    clear ih
    intro r to_1 is_2_c0 is_2_c1 c_8 bis_2_c0 bis_2_c1 hS w A hb hA hi hH his_2_c0 his_2_c1
    unfold otp_search__Verify_1_L1 at hS
    refine ke_seq ?_
    refine ke_seq ?_
    refine ke_region ?_
    refine sr_ev (v := .int .i64 c_8) (ev_move rfl) (by decide) ?_
    refine sr_ev (v := .int .i64 to_1) (ev_move rfl) (by decide) ?_
    refine sr_ev (v := .int .i64 (gmin to_1 36650387592)) (ev_min rfl rfl) (by decide) ?_
    refine sr_ev (v := .bool (decide (c_8 ≤ (gmin to_1 36650387592)))) (ev_le rfl rfl) (by decide) ?_
    refine sr_end (l' := [(1, .int .i64 to_1), (2, .func (.func 39) #[] #[.pointer (some ⟨bis_2_c0, 0, none⟩), .pointer (some ⟨bis_2_c1, 0, none⟩)]), (8, .int .i64 c_8), (14, .bool (decide (c_8 ≤ (gmin to_1 36650387592))))]) (.cons rfl (.cons rfl (.cons rfl (.cons rfl (.nil _))))) ?_
    refine ke_cond (t := decide (c_8 ≤ (gmin to_1 36650387592))) rfl (fun hc5 => ?_) (fun hc5 => ?_)
    · replace hS := ite_true' hS hc5
      refine ke_skip ?_
      refine ke_seq ?_
      refine ke_block ?_
      refine ke_seq ?_
      refine ke_region ?_
      refine sr_ev (v := .func (.func 39) #[] #[.pointer (some ⟨bis_2_c0, 0, none⟩), .pointer (some ⟨bis_2_c1, 0, none⟩)]) (ev_move rfl) (by decide) ?_
      refine sr_ev (v := .int .i64 c_8) (ev_move rfl) (by decide) ?_
      obtain ⟨y6, hy7, hS⟩ := bind_some' hS
      refine sr_callc (vs := [.int .i64 c_8]) rfl Tryd.call39 rfl (otp_Verify_1_ok _ (hg.below hb) (his_2_c0.weak (A' := fun _ => False) (fun _ h => h.elim)) (his_2_c1.weak (A' := fun _ => False) (fun _ h => h.elim)) hy7) (by decide) ?_
      rintro _ w8 ⟨rfl, hbw9⟩
      replace hb := hb.trans (hbw9.mono hb.size)
      replace hA := lt_mono hA hbw9.size
      replace hH := hH.below hbw9
      replace his_2_c0 := his_2_c0.step (.of_below hbw9) (Nat.succ_pos _)
      replace his_2_c1 := his_2_c1.step (.of_below hbw9) (Nat.succ_pos _)
      refine sr_end (l' := [(1, .int .i64 to_1), (2, .func (.func 39) #[] #[.pointer (some ⟨bis_2_c0, 0, none⟩), .pointer (some ⟨bis_2_c1, 0, none⟩)]), (8, .int .i64 c_8), (19, .bool y6)]) (.cons rfl (.cons rfl (.cons rfl (.cons rfl (.nil _))))) ?_
      refine ke_cond (t := y6) rfl (fun hc10 => ?_) (fun hc10 => ?_)
      · replace hS := ite_true' hS hc10
        refine ke_seq ?_
        refine ke_region ?_
        refine sr_ev (v := .int .i64 c_8) (ev_move rfl) (by decide) ?_
        refine sr_ev (v := .int .i64 c_8) (ev_assign rfl) (by decide) ?_
        refine sr_ev (v := .int .i64 0) (ev_assign rfl) (by decide) ?_
        refine sr_end (l' := [(6, .int .i64 c_8), (7, .int .i64 0)]) (.cons rfl (.cons rfl (.nil _))) ?_
        cases hS
        exact ke_ret2 Tryd.func38 rfl rfl rfl ⟨_, rfl, rfl, hb⟩
      · replace hS := ite_false' hS hc10
        refine ke_skip ?_
        refine ke_inBlock ?_
        refine ke_region ?_
        refine sr_ev (v := .int .i64 c_8) (ev_move rfl) (by decide) ?_
        refine sr_ev (v := .int .i64 (IntKind.i64.wrap (c_8 + 1))) (ev_add rfl rfl) (by decide) ?_
        refine sr_ev (v := .int .i64 (IntKind.i64.wrap (c_8 + 1))) (ev_assign rfl) (by decide) ?_
        refine sr_end (l' := [(1, .int .i64 to_1), (2, .func (.func 39) #[] #[.pointer (some ⟨bis_2_c0, 0, none⟩), .pointer (some ⟨bis_2_c1, 0, none⟩)]), (8, .int .i64 (IntKind.i64.wrap (c_8 + 1)))]) (.cons rfl (.cons rfl (.cons rfl (.nil _)))) ?_
        have hK := hr0 hS hb hA hi hH his_2_c0 his_2_c1
        exact ke_weaken (l' := [(1, .int .i64 to_1), (2, .func (.func 39) #[] #[.pointer (some ⟨bis_2_c0, 0, none⟩), .pointer (some ⟨bis_2_c1, 0, none⟩)]), (8, .int .i64 (IntKind.i64.wrap (c_8 + 1)))]) (.cons rfl (.cons rfl (.cons rfl (.nil _)))) hK
    · replace hS := ite_false' hS hc5
      refine ke_exit (k' := _) rfl ?_
      refine ke_seq ?_
      refine ke_region ?_
      refine sr_ev (v := .int .i64 0) (ev_assign rfl) (by decide) ?_
      refine sr_ev (v := .int .i64 11) (ev_assign rfl) (by decide) ?_
      refine sr_end (l' := [(6, .int .i64 0), (7, .int .i64 11)]) (.cons rfl (.cons rfl (.nil _))) ?_
      cases hS
      exact ke_ret2 Tryd.func38 rfl rfl rfl ⟨_, rfl, rfl, hb⟩
theorem otp_search__Verify_1_ok {A0 : Nat → Prop} (w0 : World) (hg : Gs w0) {from_0 : Int} {to_1 : Int} {c2_0 : Str} {c2_1 : Str} {r : Int × Int} {b1 : Nat} {b3 : Nat} (he2 : ElR strC A0 w0 b1 0 [str c2_0] c2_0) (he4 : ElR strC A0 w0 b3 0 [str c2_1] c2_1) (hS : otp_search__Verify_1 from_0 to_1 c2_0 c2_1 = some r) :
    Calls Tryd.prog 38 #[.int .i64 from_0, .int .i64 to_1, .func (.func 39) #[] #[.pointer (some ⟨b1, 0, none⟩), .pointer (some ⟨b3, 0, none⟩)]] w0 (Ret (fun v w' => v = .tuple #[.int .i64 r.1, .int .i64 r.2] ∧ Below w0.heap.size w0 w')) := by
  unfold otp_search__Verify_1 at hS
  have hb := Below.refl w0.heap.size w0
  replace he2 := he2.weak (A' := fun _ => False) (fun _ h => h.elim)
  replace he4 := he4.weak (A' := fun _ => False) (fun _ h => h.elim)
  obtain ⟨A0, hA0, hAe⟩ : ∃ A0 : Nat → Prop, (∀ b, A0 b → b < w0.heap.size) ∧ A0 = fun _ => False := ⟨_, fun _ h => h.elim, rfl⟩
  rw [← hAe] at he2
  rw [← hAe] at he4
  clear hAe
  have hA := hA0
  have hi : ∀ b, A0 b → A0 b := fun _ h => h
  have hH := Hp.nil A0 w0.heap.size w0
  refine calls_of_ke Tryd.func38 rfl (n := 21) rfl rfl (l := [(0, .int .i64 from_0), (1, .int .i64 to_1), (2, .func (.func 39) #[] #[.pointer (some ⟨b1, 0, none⟩), .pointer (some ⟨b3, 0, none⟩)])]) rfl ?_
  refine ke_seq ?_
  refine ke_region ?_
  refine sr_ev (v := .int .i64 0) (ev_assign rfl) (by decide) ?_
  refine sr_ev (v := .int .i64 0) (ev_assign rfl) (by decide) ?_
  refine sr_end (l' := [(0, .int .i64 from_0), (1, .int .i64 to_1), (2, .func (.func 39) #[] #[.pointer (some ⟨b1, 0, none⟩), .pointer (some ⟨b3, 0, none⟩)])]) (.cons rfl (.cons rfl (.cons rfl (.nil _)))) ?_
  refine ke_seq ?_
  refine ke_seq ?_
  refine ke_region ?_
  refine sr_ev (v := .int .i64 from_0) (ev_move rfl) (by decide) ?_
  refine sr_ev (v := .int .i64 (gmax from_0 0)) (ev_max rfl rfl) (by decide) ?_
  refine sr_ev (v := .int .i64 (gmax from_0 0)) (ev_assign rfl) (by decide) ?_
  refine sr_end (l' := [(1, .int .i64 to_1), (2, .func (.func 39) #[] #[.pointer (some ⟨b1, 0, none⟩), .pointer (some ⟨b3, 0, none⟩)]), (8, .int .i64 (gmax from_0 0))]) (.cons rfl (.cons rfl (.cons rfl (.nil _)))) ?_
  refine ke_block ?_
  have hK := otp_search__Verify_1_L1_ok hg hA0 _ hS hb hA hi hH he2 he4
  exact ke_weaken (l' := [(1, .int .i64 to_1), (2, .func (.func 39) #[] #[.pointer (some ⟨b1, 0, none⟩), .pointer (some ⟨b3, 0, none⟩)]), (8, .int .i64 (gmax from_0 0))]) (.cons rfl (.cons rfl (.cons rfl (.nil _)))) (ke_loop hK)
theorem otp_Verify_ok (w0 : World) (hg : Gs w0) {secret_0 : Str} {last_1 : Int} {look_2 : Int} {s_3 : Str} {r : Int × Int} (hS : otp_Verify secret_0 last_1 look_2 s_3 = some r) :
    Calls Tryd.prog 16 #[str secret_0, .int .i64 last_1, .int .i64 look_2, str s_3] w0 (Ret (fun v w' => v = .tuple #[.int .i64 r.1, .int .i64 r.2] ∧ Below w0.heap.size w0 w')) := by
  unfold otp_Verify at hS
  have hb := Below.refl w0.heap.size w0
  obtain ⟨A0, hA0, hAe⟩ : ∃ A0 : Nat → Prop, (∀ b, A0 b → b < w0.heap.size) ∧ A0 = fun _ => False := ⟨_, fun _ h => h.elim, rfl⟩
  clear hAe
  have hA := hA0
  have hi : ∀ b, A0 b → A0 b := fun _ h => h
  have hH := Hp.nil A0 w0.heap.size w0
  refine calls_of_ke Tryd.func16 rfl (n := 40) rfl rfl (l := [(0, str secret_0), (1, .int .i64 last_1), (2, .int .i64 look_2), (3, str s_3)]) rfl ?_
  refine ke_seq ?_
  refine ke_region ?_
  refine sr_box hH hb.size hA rfl (by decide) ?_
  intro g1 A2 w3 hH1 hst4 hbw5 hinc6 hA1 hge7
  replace hb := hb.trans (hbw5.mono hb.size)
  replace hi := fun b hb => hinc6 b (hi b hb)
  replace hH : Hp A2 w0.heap.size w3 [(g1, .cells #[str secret_0] 9 (0, 0))] := hH1
  replace hA := hA1
  clear hH1 hA1
  refine sr_box hH hb.size hA rfl (by decide) ?_
  intro g8 A9 w10 hH1 hst11 hbw12 hinc13 hA1 hge14
  replace hb := hb.trans (hbw12.mono hb.size)
  replace hi := fun b hb => hinc13 b (hi b hb)
  replace hH : Hp A9 w0.heap.size w10 [(g8, .cells #[str s_3] 9 (0, 0)), (g1, .cells #[str secret_0] 9 (0, 0))] := hH1
  replace hA := hA1
  clear hH1 hA1
  refine sr_ev (v := .int .i64 0) (ev_assign rfl) (by decide) ?_
  refine sr_ev (v := .int .i64 0) (ev_assign rfl) (by decide) ?_
  refine sr_end (l' := [(1, .int .i64 last_1), (2, .int .i64 look_2), (4, .pointer (some ⟨g1, 0, none⟩)), (7, .pointer (some ⟨g8, 0, none⟩))]) (.cons rfl (.cons rfl (.cons rfl (.cons rfl (.nil _))))) ?_
  refine ke_seq ?_
  refine ke_seq ?_
  refine ke_region ?_
  refine sr_ev (v := str secret_0) (ev_load Tryd.isAgg9 rfl (hH.cell (i := 1) rfl rfl)) (by decide) ?_
  refine sr_ev (v := str s_3) (ev_load Tryd.isAgg9 rfl (hH.cell (i := 0) rfl rfl)) (by decide) ?_
  obtain ⟨y15, hy16, hS⟩ := bind_some' hS
  refine sr_call (vs := [str secret_0, str s_3]) rfl Tryd.call37 rfl (otp_form_ok _ (hg.below hb) hy16) (by decide) ?_
  rintro _ w17 ⟨rfl, hbw18⟩
  replace hb := hb.trans (hbw18.mono hb.size)
  replace hA := lt_mono hA hbw18.size
  replace hH := hH.below hbw18
  refine sr_ev (v := .int .i64 y15) (ev_assign rfl) (by decide) ?_
  refine sr_end (l' := [(1, .int .i64 last_1), (2, .int .i64 look_2), (4, .pointer (some ⟨g1, 0, none⟩)), (7, .pointer (some ⟨g8, 0, none⟩)), (10, .int .i64 y15)]) (.cons rfl (.cons rfl (.cons rfl (.cons rfl (.cons rfl (.nil _)))))) ?_
  refine ke_seq ?_
  refine ke_region ?_
  refine sr_ev (v := .int .i64 y15) (ev_move rfl) (by decide) ?_
  refine sr_ev (v := .bool (y15 != 0)) (ev_ne rfl rfl) (by decide) ?_
  refine sr_end (l' := [(1, .int .i64 last_1), (2, .int .i64 look_2), (4, .pointer (some ⟨g1, 0, none⟩)), (7, .pointer (some ⟨g8, 0, none⟩)), (10, .int .i64 y15), (15, .bool (y15 != 0))]) (.cons rfl (.cons rfl (.cons rfl (.cons rfl (.cons rfl (.cons rfl (.nil _))))))) ?_
  refine ke_cond (t := y15 != 0) rfl (fun hc19 => ?_) (fun hc19 => ?_)
  · replace hS := ite_true' hS hc19
    refine ke_seq ?_
    refine ke_region ?_
    refine sr_ev (v := .int .i64 y15) (ev_move rfl) (by decide) ?_
    refine sr_ev (v := .int .i64 0) (ev_assign rfl) (by decide) ?_
    refine sr_ev (v := .int .i64 y15) (ev_assign rfl) (by decide) ?_
    refine sr_end (l' := [(8, .int .i64 0), (9, .int .i64 y15)]) (.cons rfl (.cons rfl (.nil _))) ?_
    cases hS
    exact ke_ret2 Tryd.func16 rfl rfl rfl ⟨_, rfl, rfl, hb⟩
  · replace hS := ite_false' hS hc19
    refine ke_skip ?_
    refine ke_seq ?_
    refine ke_seq ?_
    refine ke_region ?_
    refine sr_ev (v := .int .i64 last_1) (ev_move rfl) (by decide) ?_
    refine sr_ev (v := .bool (decide (last_1 < (-1)))) (ev_lt rfl rfl) (by decide) ?_
    refine sr_ev (v := .bool (decide (last_1 < (-1)))) (ev_move rfl) (by decide) ?_
    refine sr_join (m := 3) (C := fun (x : Bool) w1 => x = ((decide (last_1 < (-1))) || (decide (last_1 > 36650387592))) ∧ w17 = w1) (l' := fun x => [(1, .int .i64 last_1), (2, .int .i64 look_2), (4, .pointer (some ⟨g1, 0, none⟩)), (7, .pointer (some ⟨g8, 0, none⟩)), (22, .bool x)]) ?_ ?_
    · rintro _ _ ⟨rfl, rfl⟩
      refine sr_ev (v := .bool ((decide (last_1 < (-1))) || (decide (last_1 > 36650387592)))) (ev_move rfl) (by decide) ?_
      refine sr_join (m := 3) (C := fun (x : Bool) w1 => x = (((decide (last_1 < (-1))) || (decide (last_1 > 36650387592))) || (decide (look_2 < 0))) ∧ w17 = w1) (l' := fun x => [(1, .int .i64 last_1), (2, .int .i64 look_2), (4, .pointer (some ⟨g1, 0, none⟩)), (7, .pointer (some ⟨g8, 0, none⟩)), (26, .bool x)]) ?_ ?_
      · rintro _ _ ⟨rfl, rfl⟩
        refine sr_ev (v := .bool (((decide (last_1 < (-1))) || (decide (last_1 > 36650387592))) || (decide (look_2 < 0)))) (ev_move rfl) (by decide) ?_
        refine sr_join (m := 3) (C := fun (x : Bool) w1 => x = ((((decide (last_1 < (-1))) || (decide (last_1 > 36650387592))) || (decide (look_2 < 0))) || (decide (look_2 > 16))) ∧ w17 = w1) (l' := fun x => [(1, .int .i64 last_1), (2, .int .i64 look_2), (4, .pointer (some ⟨g1, 0, none⟩)), (7, .pointer (some ⟨g8, 0, none⟩)), (30, .bool x)]) ?_ ?_
        · rintro _ _ ⟨rfl, rfl⟩
          refine sr_end (l' := [(1, .int .i64 last_1), (2, .int .i64 look_2), (4, .pointer (some ⟨g1, 0, none⟩)), (7, .pointer (some ⟨g8, 0, none⟩)), (30, .bool ((((decide (last_1 < (-1))) || (decide (last_1 > 36650387592))) || (decide (look_2 < 0))) || (decide (look_2 > 16))))]) (.cons rfl (.cons rfl (.cons rfl (.cons rfl (.cons rfl (.nil _)))))) ?_
          refine ke_cond (t := (((decide (last_1 < (-1))) || (decide (last_1 > 36650387592))) || (decide (look_2 < 0))) || (decide (look_2 > 16))) rfl (fun hc41 => ?_) (fun hc41 => ?_)
          · replace hS := ite_true' hS hc41
            refine ke_seq ?_
            refine ke_region ?_
            refine sr_ev (v := .int .i64 0) (ev_assign rfl) (by decide) ?_
            refine sr_ev (v := .int .i64 27) (ev_assign rfl) (by decide) ?_
            refine sr_end (l' := [(8, .int .i64 0), (9, .int .i64 27)]) (.cons rfl (.cons rfl (.nil _))) ?_
            cases hS
            exact ke_ret2 Tryd.func16 rfl rfl rfl ⟨_, rfl, rfl, hb⟩
          · replace hS := ite_false' hS hc41
            refine ke_skip ?_
            refine ke_seq ?_
            refine ke_region ?_
            refine sr_ev (v := .int .i64 last_1) (ev_move rfl) (by decide) ?_
            refine sr_ev (v := .int .i64 (IntKind.i64.wrap (last_1 + 1))) (ev_add rfl rfl) (by decide) ?_
            refine sr_ev (v := .int .i64 last_1) (ev_move rfl) (by decide) ?_
            refine sr_ev (v := .int .i64 look_2) (ev_move rfl) (by decide) ?_
            refine sr_ev (v := .int .i64 (IntKind.i64.wrap (last_1 + look_2))) (ev_add rfl rfl) (by decide) ?_
            refine sr_ev (v := .func (.func 39) #[] #[.pointer (some ⟨g1, 0, none⟩), .pointer (some ⟨g8, 0, none⟩)]) (ev_makeFunc rfl) (by decide) ?_
            obtain ⟨y42, hy43, hS⟩ := bind_some' hS
            refine sr_call (vs := [.int .i64 (IntKind.i64.wrap (last_1 + 1)), .int .i64 (IntKind.i64.wrap (last_1 + look_2)), .func (.func 39) #[] #[.pointer (some ⟨g1, 0, none⟩), .pointer (some ⟨g8, 0, none⟩)]]) rfl Tryd.call38 rfl (otp_search__Verify_1_ok _ (hg.below hb) ((hH.el (c := strC) (i := 1) (cs := [str secret_0]) (x := secret_0) rfl rfl).weak (A' := fun _ => False) (fun _ h => h.elim)) ((hH.el (c := strC) (i := 0) (cs := [str s_3]) (x := s_3) rfl rfl).weak (A' := fun _ => False) (fun _ h => h.elim)) hy43) (by decide) ?_
            rintro _ w44 ⟨rfl, hbw45⟩
            replace hb := hb.trans (hbw45.mono hb.size)
            replace hA := lt_mono hA hbw45.size
            replace hH := hH.below hbw45
            refine sr_ev (v := .int .i64 y42.1) (ev_extract rfl rfl) (by decide) ?_
            refine sr_ev (v := .int .i64 y42.2) (ev_extract rfl rfl) (by decide) ?_
            refine sr_ev (v := .int .i64 y42.1) (ev_assign rfl) (by decide) ?_
            refine sr_ev (v := .int .i64 y42.2) (ev_assign rfl) (by decide) ?_
            refine sr_end (l' := [(8, .int .i64 y42.1), (9, .int .i64 y42.2)]) (.cons rfl (.cons rfl (.nil _))) ?_
            cases hS
            exact ke_ret2 Tryd.func16 rfl rfl rfl ⟨_, rfl, rfl, hb⟩
        · intro K35
          rcases Bool.eq_false_or_eq_true (((decide (last_1 < (-1))) || (decide (last_1 > 36650387592))) || (decide (look_2 < 0))) with hg34 | hg34
          · refine sr_pass (e := 27) rfl rfl (by rw [hg34]; rfl) (by decide) ?_
            refine sr_pass (e := 27) rfl rfl (by rw [hg34]; rfl) (by decide) ?_
            refine sr_ev (v := .bool true) (ev_pick_t rfl hg34 rfl) (by decide) ?_
            exact sr_weaken (l' := [(1, .int .i64 last_1), (2, .int .i64 look_2), (4, .pointer (some ⟨g1, 0, none⟩)), (7, .pointer (some ⟨g8, 0, none⟩)), (30, .bool true)]) (.cons rfl (.cons rfl (.cons rfl (.cons rfl (.cons rfl (.nil _)))))) (K35 true _ ⟨by rw [hg34]; rfl, rfl⟩)
          · refine sr_evg (b := false) (e := 27) rfl rfl hg34 (v := .int .i64 look_2) (ev_move rfl) (by decide) ?_
            refine sr_evg (b := false) (e := 27) rfl rfl hg34 (v := .bool (decide (look_2 > 16))) (ev_gt rfl rfl) (by decide) ?_
            refine sr_ev (v := .bool (decide (look_2 > 16))) (ev_pick_f rfl hg34 rfl) (by decide) ?_
            exact sr_weaken (l' := [(1, .int .i64 last_1), (2, .int .i64 look_2), (4, .pointer (some ⟨g1, 0, none⟩)), (7, .pointer (some ⟨g8, 0, none⟩)), (30, .bool (decide (look_2 > 16)))]) (.cons rfl (.cons rfl (.cons rfl (.cons rfl (.cons rfl (.nil _)))))) (K35 (decide (look_2 > 16)) _ ⟨by rw [hg34]; rfl, rfl⟩)
      · intro K28
        rcases Bool.eq_false_or_eq_true ((decide (last_1 < (-1))) || (decide (last_1 > 36650387592))) with hg27 | hg27
        · refine sr_pass (e := 23) rfl rfl (by rw [hg27]; rfl) (by decide) ?_
          refine sr_pass (e := 23) rfl rfl (by rw [hg27]; rfl) (by decide) ?_
          refine sr_ev (v := .bool true) (ev_pick_t rfl hg27 rfl) (by decide) ?_
          exact sr_weaken (l' := [(1, .int .i64 last_1), (2, .int .i64 look_2), (4, .pointer (some ⟨g1, 0, none⟩)), (7, .pointer (some ⟨g8, 0, none⟩)), (26, .bool true)]) (.cons rfl (.cons rfl (.cons rfl (.cons rfl (.cons rfl (.nil _)))))) (K28 true _ ⟨by rw [hg27]; rfl, rfl⟩)
        · refine sr_evg (b := false) (e := 23) rfl rfl hg27 (v := .int .i64 look_2) (ev_move rfl) (by decide) ?_
          refine sr_evg (b := false) (e := 23) rfl rfl hg27 (v := .bool (decide (look_2 < 0))) (ev_lt rfl rfl) (by decide) ?_
          refine sr_ev (v := .bool (decide (look_2 < 0))) (ev_pick_f rfl hg27 rfl) (by decide) ?_
          exact sr_weaken (l' := [(1, .int .i64 last_1), (2, .int .i64 look_2), (4, .pointer (some ⟨g1, 0, none⟩)), (7, .pointer (some ⟨g8, 0, none⟩)), (26, .bool (decide (look_2 < 0)))]) (.cons rfl (.cons rfl (.cons rfl (.cons rfl (.cons rfl (.nil _)))))) (K28 (decide (look_2 < 0)) _ ⟨by rw [hg27]; rfl, rfl⟩)
    · intro K21
      rcases Bool.eq_false_or_eq_true (decide (last_1 < (-1))) with hg20 | hg20
      · refine sr_pass (e := 19) rfl rfl (by rw [hg20]; rfl) (by decide) ?_
        refine sr_pass (e := 19) rfl rfl (by rw [hg20]; rfl) (by decide) ?_
        refine sr_ev (v := .bool true) (ev_pick_t rfl hg20 rfl) (by decide) ?_
        exact sr_weaken (l' := [(1, .int .i64 last_1), (2, .int .i64 look_2), (4, .pointer (some ⟨g1, 0, none⟩)), (7, .pointer (some ⟨g8, 0, none⟩)), (22, .bool true)]) (.cons rfl (.cons rfl (.cons rfl (.cons rfl (.cons rfl (.nil _)))))) (K21 true _ ⟨by rw [hg20]; rfl, rfl⟩)
      · refine sr_evg (b := false) (e := 19) rfl rfl hg20 (v := .int .i64 last_1) (ev_move rfl) (by decide) ?_
        refine sr_evg (b := false) (e := 19) rfl rfl hg20 (v := .bool (decide (last_1 > 36650387592))) (ev_gt rfl rfl) (by decide) ?_
        refine sr_ev (v := .bool (decide (last_1 > 36650387592))) (ev_pick_f rfl hg20 rfl) (by decide) ?_
        exact sr_weaken (l' := [(1, .int .i64 last_1), (2, .int .i64 look_2), (4, .pointer (some ⟨g1, 0, none⟩)), (7, .pointer (some ⟨g8, 0, none⟩)), (22, .bool (decide (last_1 > 36650387592)))]) (.cons rfl (.cons rfl (.cons rfl (.cons rfl (.cons rfl (.nil _)))))) (K21 (decide (last_1 > 36650387592)) _ ⟨by rw [hg20]; rfl, rfl⟩)
theorem clock_limited_ok (w0 : World) (hg : Gs w0) {t_0 : Int} {r : Int} (hS : clock_limited t_0 = some r) :
    Calls Tryd.prog 47 #[.int .i64 t_0] w0 (Ret (fun v w' => v = .int .i64 r ∧ Below w0.heap.size w0 w')) := by
  unfold clock_limited at hS
  have hb := Below.refl w0.heap.size w0
  refine calls_of_ke Tryd.func47 rfl (n := 6) rfl rfl (l := [(0, .int .i64 t_0)]) rfl ?_
  refine ke_seq ?_
  refine ke_region ?_
  refine sr_ev (v := .int .i64 0) (ev_assign rfl) (by decide) ?_
  refine sr_end (l' := [(0, .int .i64 t_0)]) (.cons rfl (.nil _)) ?_
  refine ke_seq ?_
  refine ke_region ?_
  refine sr_ev (v := .int .i64 t_0) (ev_move rfl) (by decide) ?_
  refine sr_ev (v := .int .i64 (gmax t_0 0)) (ev_max rfl rfl) (by decide) ?_
  refine sr_ev (v := .int .i64 (gmin (gmax t_0 0) 1099511627776)) (ev_min rfl rfl) (by decide) ?_
  refine sr_ev (v := .int .i64 (gmin (gmax t_0 0) 1099511627776)) (ev_assign rfl) (by decide) ?_
  refine sr_end (l' := [(2, .int .i64 (gmin (gmax t_0 0) 1099511627776))]) (.cons rfl (.nil _)) ?_
  cases hS
  exact ke_ret1 Tryd.func47 rfl rfl ⟨_, rfl, rfl, hb⟩
theorem clock_Add_ok (w0 : World) (hg : Gs w0) {t_0 : Int} {d_1 : Int} {r : Int} (hS : clock_Add t_0 d_1 = some r) :
    Calls Tryd.prog 26 #[.int .i64 t_0, .int .i64 d_1] w0 (Ret (fun v w' => v = .int .i64 r ∧ Below w0.heap.size w0 w')) := by
  unfold clock_Add at hS
  have hb := Below.refl w0.heap.size w0
  refine calls_of_ke Tryd.func26 rfl (n := 11) rfl rfl (l := [(0, .int .i64 t_0), (1, .int .i64 d_1)]) rfl ?_
  refine ke_seq ?_
  refine ke_region ?_
  refine sr_ev (v := .int .i64 0) (ev_assign rfl) (by decide) ?_
  refine sr_end (l' := [(0, .int .i64 t_0), (1, .int .i64 d_1)]) (.cons rfl (.cons rfl (.nil _))) ?_
  refine ke_seq ?_
  refine ke_region ?_
  refine sr_ev (v := .int .i64 t_0) (ev_move rfl) (by decide) ?_
  obtain ⟨y1, hy2, hS⟩ := bind_some' hS
  refine sr_call (vs := [.int .i64 t_0]) rfl Tryd.call47 rfl (clock_limited_ok _ (hg.below hb) hy2) (by decide) ?_
  rintro _ w3 ⟨rfl, hbw4⟩
  replace hb := hb.trans (hbw4.mono hb.size)
  refine sr_ev (v := .int .i64 d_1) (ev_move rfl) (by decide) ?_
  obtain ⟨y5, hy6, hS⟩ := bind_some' hS
  refine sr_call (vs := [.int .i64 d_1]) rfl Tryd.call47 rfl (clock_limited_ok _ (hg.below hb) hy6) (by decide) ?_
  rintro _ w7 ⟨rfl, hbw8⟩
  replace hb := hb.trans (hbw8.mono hb.size)
  refine sr_ev (v := .int .i64 (IntKind.i64.wrap (y1 + y5))) (ev_add rfl rfl) (by decide) ?_
  obtain ⟨y9, hy10, hS⟩ := bind_some' hS
  refine sr_call (vs := [.int .i64 (IntKind.i64.wrap (y1 + y5))]) rfl Tryd.call47 rfl (clock_limited_ok _ (hg.below hb) hy10) (by decide) ?_
  rintro _ w11 ⟨rfl, hbw12⟩
  replace hb := hb.trans (hbw12.mono hb.size)
  refine sr_ev (v := .int .i64 y9) (ev_assign rfl) (by decide) ?_
  refine sr_end (l' := [(4, .int .i64 y9)]) (.cons rfl (.nil _)) ?_
  cases hS
  exact ke_ret1 Tryd.func26 rfl rfl ⟨_, rfl, rfl, hb⟩
theorem otp_Counter_ok (w0 : World) (hg : Gs w0) {now_0 : Int} {r : Int} (hS : otp_Counter now_0 = some r) :
    Calls Tryd.prog 12 #[.int .i64 now_0] w0 (Ret (fun v w' => v = .int .i64 r ∧ Below w0.heap.size w0 w')) := by
  unfold otp_Counter at hS
  have hb := Below.refl w0.heap.size w0
  refine calls_of_ke Tryd.func12 rfl (n := 6) rfl rfl (l := [(0, .int .i64 now_0)]) rfl ?_
  refine ke_seq ?_
  refine ke_region ?_
  refine sr_ev (v := .int .i64 0) (ev_assign rfl) (by decide) ?_
  refine sr_end (l' := [(0, .int .i64 now_0)]) (.cons rfl (.nil _)) ?_
  refine ke_seq ?_
  refine ke_region ?_
  refine sr_ev (v := .int .i64 now_0) (ev_move rfl) (by decide) ?_
  obtain ⟨y1, hy2, hS⟩ := bind_some' hS
  refine sr_call (vs := [.int .i64 now_0, .int .i64 0]) rfl Tryd.call26 rfl (clock_Add_ok _ (hg.below hb) hy2) (by decide) ?_
  rintro _ w3 ⟨rfl, hbw4⟩
  replace hb := hb.trans (hbw4.mono hb.size)
  refine sr_ev (v := .int .i64 (IntKind.i64.wrap (y1.tdiv 30))) (ev_quo rfl rfl (by decide)) (by decide) ?_
  refine sr_ev (v := .int .i64 (IntKind.i64.wrap (y1.tdiv 30))) (ev_assign rfl) (by decide) ?_
  refine sr_end (l' := [(2, .int .i64 (IntKind.i64.wrap (y1.tdiv 30)))]) (.cons rfl (.nil _)) ?_
  cases hS
  exact ke_ret1 Tryd.func12 rfl rfl ⟨_, rfl, rfl, hb⟩
theorem otp_VerifyAt_1_ok {A0 : Nat → Prop} (w0 : World) (hg : Gs w0) {c_0 : Int} {c1 : Str} {c2 : Str} {r : Bool} {b1 : Nat} {b3 : Nat} (he2 : ElR strC A0 w0 b1 0 [str c1] c1) (he4 : ElR strC A0 w0 b3 0 [str c2] c2) (hS : otp_VerifyAt_1 c_0 c1 c2 = some r) :
    Calls Tryd.prog 42 #[.int .i64 c_0, .pointer (some ⟨b1, 0, none⟩), .pointer (some ⟨b3, 0, none⟩)] w0 (Ret (fun v w' => v = .bool r ∧ Below w0.heap.size w0 w')) := by
  unfold otp_VerifyAt_1 at hS
  have hb := Below.refl w0.heap.size w0
  replace he2 := he2.weak (A' := fun _ => False) (fun _ h => h.elim)
  replace he4 := he4.weak (A' := fun _ => False) (fun _ h => h.elim)
  obtain ⟨A0, hA0, hAe⟩ : ∃ A0 : Nat → Prop, (∀ b, A0 b → b < w0.heap.size) ∧ A0 = fun _ => False := ⟨_, fun _ h => h.elim, rfl⟩
  rw [← hAe] at he2
  rw [← hAe] at he4
  clear hAe
  have hA := hA0
  have hi : ∀ b, A0 b → A0 b := fun _ h => h
  have hH := Hp.nil A0 w0.heap.size w0
  refine calls_of_ke Tryd.func42 rfl (n := 10) rfl rfl (l := [(0, .int .i64 c_0), (1, .pointer (some ⟨b1, 0, none⟩)), (2, .pointer (some ⟨b3, 0, none⟩))]) rfl ?_
  refine ke_seq ?_
  refine ke_region ?_
  refine sr_ev (v := .bool false) (ev_assign rfl) (by decide) ?_
  refine sr_end (l' := [(0, .int .i64 c_0), (1, .pointer (some ⟨b1, 0, none⟩)), (2, .pointer (some ⟨b3, 0, none⟩))]) (.cons rfl (.cons rfl (.cons rfl (.nil _)))) ?_
  refine ke_seq ?_
  refine ke_region_q Tryd.mixed (by kernel_rfl) ?_
  refine sq_ev (v := str c1) (fun w1 hw1 => ev_load Tryd.isAgg9 rfl ((he2.step (.of_below hw1) (Nat.succ_pos _)).cell 0 _ rfl)) (by decide) ?_
  refine sq_ev (v := .int .i64 c_0) (fun w1 hw1 => ev_move rfl) (by decide) ?_
  obtain ⟨y7, hy8, hS⟩ := bind_some' hS
  refine sq_call (v := str y7) (vs := [str c1, .int .i64 c_0]) rfl Tryd.call30 rfl (fun w1 hw1 => (otp_code_ok _ (hg.below (hb.trans (hw1.mono hb.size))) hy8)) (by decide) ?_
  refine sq_ev (v := str c2) (fun w1 hw1 => ev_load Tryd.isAgg9 rfl ((he4.step (.of_below hw1) (Nat.succ_pos _)).cell 0 _ rfl)) (by decide) ?_
  refine sq_ev (v := .bool (y7 == c2)) (fun w1 hw1 => ev_seq rfl rfl) (by decide) ?_
  refine sq_ev (v := .bool (y7 == c2)) (fun w1 hw1 => ev_assign rfl) (by decide) ?_
  refine sq_end (l' := [(4, .bool (y7 == c2))]) (.cons rfl (.nil _)) (fun w6 hw5 => ?_)
  replace hb := hb.trans (hw5.mono hb.size)
  replace hA := lt_mono hA hw5.size
  replace hH := hH.below hw5
  cases hS
  exact ke_ret1 Tryd.func42 rfl rfl ⟨_, rfl, rfl, hb⟩
theorem otp_search__VerifyAt_1_L1_ok {w0 : World} (hg : Gs w0) {A0 : Nat → Prop} (hA0 : ∀ b, A0 b → b < w0.heap.size) : ∀ (n : Nat), ∀ {r : Int × Int} {to_1 : Int} {is_2_c0 : Str} {is_2_c1 : Str} {c_8 : Int} {bis_2_c0 : Nat} {bis_2_c1 : Nat}, otp_search__VerifyAt_1_L1 n to_1 is_2_c0 is_2_c1 c_8 = some r → ∀ {w : World} {A : Nat → Prop}, (Below w0.heap.size w0 w) → (∀ b, A b → b < w.heap.size) → (∀ b, A0 b → A b) → (Hp A w0.heap.size w []) → (ElR strC A w bis_2_c0 0 [str is_2_c0] is_2_c0) → (ElR strC A w bis_2_c1 0 [str is_2_c1] is_2_c1) → KE Tryd.prog 38 (Ret (fun v w' => v = .tuple #[.int .i64 r.1, .int .i64 r.2] ∧ Below w0.heap.size w0 w')) 21 [.code (sub (bodyOf Tryd.f38) [2, 1, 2, 2, 1]), .inLoop (sub (bodyOf Tryd.f38) [2, 1, 2, 2, 1]), .inBlock 0, .code (sub (bodyOf Tryd.f38) [2, 2])] [(1, .int .i64 to_1), (2, .func (.func 42) #[] #[.pointer (some ⟨bis_2_c0, 0, none⟩), .pointer (some ⟨bis_2_c1, 0, none⟩)]), (8, .int .i64 c_8)] w := by
  intro n
  induction n with
  | zero => intro r to_1 is_2_c0 is_2_c1 c_8 bis_2_c0 bis_2_c1 hS; cases hS
  | succ n ih =>
    have hr0 : ∀ {r : Int × Int} {to_1 : Int} {is_2_c0 : Str} {is_2_c1 : Str} {c_8 : Int} {bis_2_c0 : Nat} {bis_2_c1 : Nat}, otp_search__VerifyAt_1_L1 n to_1 is_2_c0 is_2_c1 c_8 = some r → ∀ {w : World} {A : Nat → Prop}, (Below w0.heap.size w0 w) → (∀ b, A b → b < w.heap.size) → (∀ b, A0 b → A b) → (Hp A w0.heap.size w []) → (ElR strC A w bis_2_c0 0 [str is_2_c0] is_2_c0) → (ElR strC A w bis_2_c1 0 [str is_2_c1] is_2_c1) → KE Tryd.prog 38 (Ret (fun v w' => v = .tuple #[.int .i64 r.1, .int .i64 r.2] ∧ Below w0.heap.size w0 w')) 21 [.inLoop (sub (bodyOf Tryd.f38) [2, 1, 2, 2, 1]), .inBlock 0, .code (sub (bodyOf Tryd.f38) [2, 2])] [(1, .int .i64 to_1), (2, .func (.func 42) #[] #[.pointer (some ⟨bis_2_c0, 0, none⟩), .pointer (some ⟨bis_2_c1, 0, none⟩)]), (8, .int .i64 c_8)] w := fun {r} {to_1} {is_2_c0} {is_2_c1} {c_8} {bis_2_c0} {bis_2_c1} hS {w} {A} hb hA hi hH his_2_c0 his_2_c1 => ke_inLoop (ih hS hb hA hi hH his_2_c0 his_2_c1)
    clear ih
    intro r to_1 is_2_c0 is_2_c1 c_8 bis_2_c0 bis_2_c1 hS w A hb hA hi hH his_2_c0 his_2_c1
    unfold otp_search__VerifyAt_1_L1 at hS
    refine ke_seq ?_
    refine ke_seq ?_
    refine ke_region ?_
    refine sr_ev (v := .int .i64 c_8) (ev_move rfl) (by decide) ?_
    refine sr_ev (v := .int .i64 to_1) (ev_move rfl) (by decide) ?_
    refine sr_ev (v := .int .i64 (gmin to_1 36650387592)) (ev_min rfl rfl) (by decide) ?_
    refine sr_ev (v := .bool (decide (c_8 ≤ (gmin to_1 36650387592)))) (ev_le rfl rfl) (by decide) ?_
    refine sr_end (l' := [(1, .int .i64 to_1), (2, .func (.func 42) #[] #[.pointer (some ⟨bis_2_c0, 0, none⟩), .pointer (some ⟨bis_2_c1, 0, none⟩)]), (8, .int .i64 c_8), (14, .bool (decide (c_8 ≤ (gmin to_1 36650387592))))]) (.cons rfl (.cons rfl (.cons rfl (.cons rfl (.nil _))))) ?_
    refine ke_cond (t := decide (c_8 ≤ (gmin to_1 36650387592))) rfl (fun hc5 => ?_) (fun hc5 => ?_)
    · replace hS := ite_true' hS hc5
      refine ke_skip ?_
      refine ke_seq ?_
      refine ke_block ?_
      refine ke_seq ?_
      refine ke_region ?_
      refine sr_ev (v := .func (.func 42) #[] #[.pointer (some ⟨bis_2_c0, 0, none⟩), .pointer (some ⟨bis_2_c1, 0, none⟩)]) (ev_move rfl) (by decide) ?_
      refine sr_ev (v := .int .i64 c_8) (ev_move rfl) (by decide) ?_
      obtain ⟨y6, hy7, hS⟩ := bind_some' hS
      refine sr_callc (vs := [.int .i64 c_8]) rfl Tryd.call42 rfl (otp_VerifyAt_1_ok _ (hg.below hb) (his_2_c0.weak (A' := fun _ => False) (fun _ h => h.elim)) (his_2_c1.weak (A' := fun _ => False) (fun _ h => h.elim)) hy7) (by decide) ?_
      rintro _ w8 ⟨rfl, hbw9⟩
      replace hb := hb.trans (hbw9.mono hb.size)
      replace hA := lt_mono hA hbw9.size
      replace hH := hH.below hbw9
      replace his_2_c0 := his_2_c0.step (.of_below hbw9) (Nat.succ_pos _)
      replace his_2_c1 := his_2_c1.step (.of_below hbw9) (Nat.succ_pos _)
      refine sr_end (l' := [(1, .int .i64 to_1), (2, .func (.func 42) #[] #[.pointer (some ⟨bis_2_c0, 0, none⟩), .pointer (some ⟨bis_2_c1, 0, none⟩)]), (8, .int .i64 c_8), (19, .bool y6)]) (.cons rfl (.cons rfl (.cons rfl (.cons rfl (.nil _))))) ?_
      refine ke_cond (t := y6) rfl (fun hc10 => ?_) (fun hc10 => ?_)
      · replace hS := ite_true' hS hc10
        refine ke_seq ?_
        refine ke_region ?_
        refine sr_ev (v := .int .i64 c_8) (ev_move rfl) (by decide) ?_
        refine sr_ev (v := .int .i64 c_8) (ev_assign rfl) (by decide) ?_
        refine sr_ev (v := .int .i64 0) (ev_assign rfl) (by decide) ?_
        refine sr_end (l' := [(6, .int .i64 c_8), (7, .int .i64 0)]) (.cons rfl (.cons rfl (.nil _))) ?_
        cases hS
        exact ke_ret2 Tryd.func38 rfl rfl rfl ⟨_, rfl, rfl, hb⟩
      · replace hS := ite_false' hS hc10
        refine ke_skip ?_
        refine ke_inBlock ?_
        refine ke_region ?_
        refine sr_ev (v := .int .i64 c_8) (ev_move rfl) (by decide) ?_
        refine sr_ev (v := .int .i64 (IntKind.i64.wrap (c_8 + 1))) (ev_add rfl rfl) (by decide) ?_
        refine sr_ev (v := .int .i64 (IntKind.i64.wrap (c_8 + 1))) (ev_assign rfl) (by decide) ?_
        refine sr_end (l' := [(1, .int .i64 to_1), (2, .func (.func 42) #[] #[.pointer (some ⟨bis_2_c0, 0, none⟩), .pointer (some ⟨bis_2_c1, 0, none⟩)]), (8, .int .i64 (IntKind.i64.wrap (c_8 + 1)))]) (.cons rfl (.cons rfl (.cons rfl (.nil _)))) ?_
        have hK := hr0 hS hb hA hi hH his_2_c0 his_2_c1
        exact ke_weaken (l' := [(1, .int .i64 to_1), (2, .func (.func 42) #[] #[.pointer (some ⟨bis_2_c0, 0, none⟩), .pointer (some ⟨bis_2_c1, 0, none⟩)]), (8, .int .i64 (IntKind.i64.wrap (c_8 + 1)))]) (.cons rfl (.cons rfl (.cons rfl (.nil _)))) hK
    · replace hS := ite_false' hS hc5
      refine ke_exit (k' := _) rfl ?_
      refine ke_seq ?_
      refine ke_region ?_
      refine sr_ev (v := .int .i64 0) (ev_assign rfl) (by decide) ?_
      refine sr_ev (v := .int .i64 11) (ev_assign rfl) (by decide) ?_
      refine sr_end (l' := [(6, .int .i64 0), (7, .int .i64 11)]) (.cons rfl (.cons rfl (.nil _))) ?_
      cases hS
      exact ke_ret2 Tryd.func38 rfl rfl rfl ⟨_, rfl, rfl, hb⟩
theorem otp_search__VerifyAt_1_ok {A0 : Nat → Prop} (w0 : World) (hg : Gs w0) {from_0 : Int} {to_1 : Int} {c2_0 : Str} {c2_1 : Str} {r : Int × Int} {b1 : Nat} {b3 : Nat} (he2 : ElR strC A0 w0 b1 0 [str c2_0] c2_0) (he4 : ElR strC A0 w0 b3 0 [str c2_1] c2_1) (hS : otp_search__VerifyAt_1 from_0 to_1 c2_0 c2_1 = some r) :
    Calls Tryd.prog 38 #[.int .i64 from_0, .int .i64 to_1, .func (.func 42) #[] #[.pointer (some ⟨b1, 0, none⟩), .pointer (some ⟨b3, 0, none⟩)]] w0 (Ret (fun v w' => v = .tuple #[.int .i64 r.1, .int .i64 r.2] ∧ Below w0.heap.size w0 w')) := by
  unfold otp_search__VerifyAt_1 at hS
  have hb := Below.refl w0.heap.size w0
  replace he2 := he2.weak (A' := fun _ => False) (fun _ h => h.elim)
  replace he4 := he4.weak (A' := fun _ => False) (fun _ h => h.elim)
  obtain ⟨A0, hA0, hAe⟩ : ∃ A0 : Nat → Prop, (∀ b, A0 b → b < w0.heap.size) ∧ A0 = fun _ => False := ⟨_, fun _ h => h.elim, rfl⟩
  rw [← hAe] at he2
  rw [← hAe] at he4
  clear hAe
  have hA := hA0
  have hi : ∀ b, A0 b → A0 b := fun _ h => h
  have hH := Hp.nil A0 w0.heap.size w0
  refine calls_of_ke Tryd.func38 rfl (n := 21) rfl rfl (l := [(0, .int .i64 from_0), (1, .int .i64 to_1), (2, .func (.func 42) #[] #[.pointer (some ⟨b1, 0, none⟩), .pointer (some ⟨b3, 0, none⟩)])]) rfl ?_
  refine ke_seq ?_
  refine ke_region ?_
  refine sr_ev (v := .int .i64 0) (ev_assign rfl) (by decide) ?_
  refine sr_ev (v := .int .i64 0) (ev_assign rfl) (by decide) ?_
  refine sr_end (l' := [(0, .int .i64 from_0), (1, .int .i64 to_1), (2, .func (.func 42) #[] #[.pointer (some ⟨b1, 0, none⟩), .pointer (some ⟨b3, 0, none⟩)])]) (.cons rfl (.cons rfl (.cons rfl (.nil _)))) ?_
  refine ke_seq ?_
  refine ke_seq ?_
  refine ke_region ?_
  refine sr_ev (v := .int .i64 from_0) (ev_move rfl) (by decide) ?_
  refine sr_ev (v := .int .i64 (gmax from_0 0)) (ev_max rfl rfl) (by decide) ?_
  refine sr_ev (v := .int .i64 (gmax from_0 0)) (ev_assign rfl) (by decide) ?_
  refine sr_end (l' := [(1, .int .i64 to_1), (2, .func (.func 42) #[] #[.pointer (some ⟨b1, 0, none⟩), .pointer (some ⟨b3, 0, none⟩)]), (8, .int .i64 (gmax from_0 0))]) (.cons rfl (.cons rfl (.cons rfl (.nil _)))) ?_
  refine ke_block ?_
  have hK := otp_search__VerifyAt_1_L1_ok hg hA0 _ hS hb hA hi hH he2 he4
  exact ke_weaken (l' := [(1, .int .i64 to_1), (2, .func (.func 42) #[] #[.pointer (some ⟨b1, 0, none⟩), .pointer (some ⟨b3, 0, none⟩)]), (8, .int .i64 (gmax from_0 0))]) (.cons rfl (.cons rfl (.cons rfl (.nil _)))) (ke_loop hK)
theorem otp_VerifyAt_ok (w0 : World) (hg : Gs w0) {secret_0 : Str} {last_1 : Int} {now_2 : Int} {skew_3 : Int} {s_4 : Str} {r : Int × Int} (hS : otp_VerifyAt secret_0 last_1 now_2 skew_3 s_4 = some r) :
    Calls Tryd.prog 18 #[str secret_0, .int .i64 last_1, .int .i64 now_2, .int .i64 skew_3, str s_4] w0 (Ret (fun v w' => v = .tuple #[.int .i64 r.1, .int .i64 r.2] ∧ Below w0.heap.size w0 w')) := by
  unfold otp_VerifyAt at hS
  have hb := Below.refl w0.heap.size w0
  obtain ⟨A0, hA0, hAe⟩ : ∃ A0 : Nat → Prop, (∀ b, A0 b → b < w0.heap.size) ∧ A0 = fun _ => False := ⟨_, fun _ h => h.elim, rfl⟩
  clear hAe
  have hA := hA0
  have hi : ∀ b, A0 b → A0 b := fun _ h => h
  have hH := Hp.nil A0 w0.heap.size w0
  refine calls_of_ke Tryd.func18 rfl (n := 45) rfl rfl (l := [(0, str secret_0), (1, .int .i64 last_1), (2, .int .i64 now_2), (3, .int .i64 skew_3), (4, str s_4)]) rfl ?_
  refine ke_seq ?_
  refine ke_region ?_
  refine sr_box hH hb.size hA rfl (by decide) ?_
  intro g1 A2 w3 hH1 hst4 hbw5 hinc6 hA1 hge7
  replace hb := hb.trans (hbw5.mono hb.size)
  replace hi := fun b hb => hinc6 b (hi b hb)
  replace hH : Hp A2 w0.heap.size w3 [(g1, .cells #[str secret_0] 9 (0, 0))] := hH1
  replace hA := hA1
  clear hH1 hA1
  refine sr_box hH hb.size hA rfl (by decide) ?_
  intro g8 A9 w10 hH1 hst11 hbw12 hinc13 hA1 hge14
  replace hb := hb.trans (hbw12.mono hb.size)
  replace hi := fun b hb => hinc13 b (hi b hb)
  replace hH : Hp A9 w0.heap.size w10 [(g8, .cells #[str s_4] 9 (0, 0)), (g1, .cells #[str secret_0] 9 (0, 0))] := hH1
  replace hA := hA1
  clear hH1 hA1
  refine sr_ev (v := .int .i64 0) (ev_assign rfl) (by decide) ?_
  refine sr_ev (v := .int .i64 0) (ev_assign rfl) (by decide) ?_
  refine sr_end (l' := [(1, .int .i64 last_1), (2, .int .i64 now_2), (3, .int .i64 skew_3), (5, .pointer (some ⟨g1, 0, none⟩)), (9, .pointer (some ⟨g8, 0, none⟩))]) (.cons rfl (.cons rfl (.cons rfl (.cons rfl (.cons rfl (.nil _)))))) ?_
  refine ke_seq ?_
  refine ke_seq ?_
  refine ke_region ?_
  refine sr_ev (v := str secret_0) (ev_load Tryd.isAgg9 rfl (hH.cell (i := 1) rfl rfl)) (by decide) ?_
  refine sr_ev (v := str s_4) (ev_load Tryd.isAgg9 rfl (hH.cell (i := 0) rfl rfl)) (by decide) ?_
  obtain ⟨y15, hy16, hS⟩ := bind_some' hS
  refine sr_call (vs := [str secret_0, str s_4]) rfl Tryd.call37 rfl (otp_form_ok _ (hg.below hb) hy16) (by decide) ?_
  rintro _ w17 ⟨rfl, hbw18⟩
  replace hb := hb.trans (hbw18.mono hb.size)
  replace hA := lt_mono hA hbw18.size
  replace hH := hH.below hbw18
  refine sr_ev (v := .int .i64 y15) (ev_assign rfl) (by decide) ?_
  refine sr_end (l' := [(1, .int .i64 last_1), (2, .int .i64 now_2), (3, .int .i64 skew_3), (5, .pointer (some ⟨g1, 0, none⟩)), (9, .pointer (some ⟨g8, 0, none⟩)), (12, .int .i64 y15)]) (.cons rfl (.cons rfl (.cons rfl (.cons rfl (.cons rfl (.cons rfl (.nil _))))))) ?_
  refine ke_seq ?_
  refine ke_region ?_
  refine sr_ev (v := .int .i64 y15) (ev_move rfl) (by decide) ?_
  refine sr_ev (v := .bool (y15 != 0)) (ev_ne rfl rfl) (by decide) ?_
  refine sr_end (l' := [(1, .int .i64 last_1), (2, .int .i64 now_2), (3, .int .i64 skew_3), (5, .pointer (some ⟨g1, 0, none⟩)), (9, .pointer (some ⟨g8, 0, none⟩)), (12, .int .i64 y15), (18, .bool (y15 != 0))]) (.cons rfl (.cons rfl (.cons rfl (.cons rfl (.cons rfl (.cons rfl (.cons rfl (.nil _)))))))) ?_
  refine ke_cond (t := y15 != 0) rfl (fun hc19 => ?_) (fun hc19 => ?_)
  · replace hS := ite_true' hS hc19
    refine ke_seq ?_
    refine ke_region ?_
    refine sr_ev (v := .int .i64 y15) (ev_move rfl) (by decide) ?_
    refine sr_ev (v := .int .i64 0) (ev_assign rfl) (by decide) ?_
    refine sr_ev (v := .int .i64 y15) (ev_assign rfl) (by decide) ?_
    refine sr_end (l' := [(10, .int .i64 0), (11, .int .i64 y15)]) (.cons rfl (.cons rfl (.nil _))) ?_
    cases hS
    exact ke_ret2 Tryd.func18 rfl rfl rfl ⟨_, rfl, rfl, hb⟩
  · replace hS := ite_false' hS hc19
    refine ke_skip ?_
    refine ke_seq ?_
    refine ke_seq ?_
    refine ke_region ?_
    refine sr_ev (v := .int .i64 last_1) (ev_move rfl) (by decide) ?_
    refine sr_ev (v := .bool (decide (last_1 < (-1)))) (ev_lt rfl rfl) (by decide) ?_
    refine sr_ev (v := .bool (decide (last_1 < (-1)))) (ev_move rfl) (by decide) ?_
    refine sr_join (m := 3) (C := fun (x : Bool) w1 => x = ((decide (last_1 < (-1))) || (decide (last_1 > 36650387592))) ∧ w17 = w1) (l' := fun x => [(1, .int .i64 last_1), (2, .int .i64 now_2), (3, .int .i64 skew_3), (5, .pointer (some ⟨g1, 0, none⟩)), (9, .pointer (some ⟨g8, 0, none⟩)), (25, .bool x)]) ?_ ?_
    · rintro _ _ ⟨rfl, rfl⟩
      refine sr_end (l' := [(1, .int .i64 last_1), (2, .int .i64 now_2), (3, .int .i64 skew_3), (5, .pointer (some ⟨g1, 0, none⟩)), (9, .pointer (some ⟨g8, 0, none⟩)), (25, .bool ((decide (last_1 < (-1))) || (decide (last_1 > 36650387592))))]) (.cons rfl (.cons rfl (.cons rfl (.cons rfl (.cons rfl (.cons rfl (.nil _))))))) ?_
      refine ke_cond (t := (decide (last_1 < (-1))) || (decide (last_1 > 36650387592))) rfl (fun hc27 => ?_) (fun hc27 => ?_)
      · replace hS := ite_true' hS hc27
        refine ke_seq ?_
        refine ke_region ?_
        refine sr_ev (v := .int .i64 0) (ev_assign rfl) (by decide) ?_
        refine sr_ev (v := .int .i64 27) (ev_assign rfl) (by decide) ?_
        refine sr_end (l' := [(10, .int .i64 0), (11, .int .i64 27)]) (.cons rfl (.cons rfl (.nil _))) ?_
        cases hS
        exact ke_ret2 Tryd.func18 rfl rfl rfl ⟨_, rfl, rfl, hb⟩
      · replace hS := ite_false' hS hc27
        refine ke_skip ?_
        refine ke_seq ?_
        refine ke_region ?_
        refine sr_ev (v := .int .i64 skew_3) (ev_move rfl) (by decide) ?_
        refine sr_ev (v := .int .i64 (gmax skew_3 0)) (ev_max rfl rfl) (by decide) ?_
        refine sr_ev (v := .int .i64 (gmin (gmax skew_3 0) 600)) (ev_min rfl rfl) (by decide) ?_
        refine sr_ev (v := .int .i64 (IntKind.i64.wrap ((gmin (gmax skew_3 0) 600).tdiv 30))) (ev_quo rfl rfl (by decide)) (by decide) ?_
        refine sr_ev (v := .int .i64 (IntKind.i64.wrap ((gmin (gmax skew_3 0) 600).tdiv 30))) (ev_assign rfl) (by decide) ?_
        refine sr_end (l' := [(1, .int .i64 last_1), (2, .int .i64 now_2), (5, .pointer (some ⟨g1, 0, none⟩)), (9, .pointer (some ⟨g8, 0, none⟩)), (13, .int .i64 (IntKind.i64.wrap ((gmin (gmax skew_3 0) 600).tdiv 30)))]) (.cons rfl (.cons rfl (.cons rfl (.cons rfl (.cons rfl (.nil _)))))) ?_
        refine ke_seq ?_
        refine ke_region ?_
        refine sr_ev (v := .int .i64 last_1) (ev_move rfl) (by decide) ?_
        refine sr_ev (v := .int .i64 (IntKind.i64.wrap (last_1 + 1))) (ev_add rfl rfl) (by decide) ?_
        refine sr_ev (v := .int .i64 now_2) (ev_move rfl) (by decide) ?_
        obtain ⟨y28, hy29, hS⟩ := bind_some' hS
        refine sr_call (vs := [.int .i64 now_2]) rfl Tryd.call12 rfl (otp_Counter_ok _ (hg.below hb) hy29) (by decide) ?_
        rintro _ w30 ⟨rfl, hbw31⟩
        replace hb := hb.trans (hbw31.mono hb.size)
        replace hA := lt_mono hA hbw31.size
        replace hH := hH.below hbw31
        refine sr_ev (v := .int .i64 (IntKind.i64.wrap ((gmin (gmax skew_3 0) 600).tdiv 30))) (ev_move rfl) (by decide) ?_
        refine sr_ev (v := .int .i64 (IntKind.i64.wrap (y28 - (IntKind.i64.wrap ((gmin (gmax skew_3 0) 600).tdiv 30))))) (ev_sub rfl rfl) (by decide) ?_
        refine sr_ev (v := .int .i64 (gmax (IntKind.i64.wrap (last_1 + 1)) (IntKind.i64.wrap (y28 - (IntKind.i64.wrap ((gmin (gmax skew_3 0) 600).tdiv 30)))))) (ev_max rfl rfl) (by decide) ?_
        refine sr_ev (v := .int .i64 now_2) (ev_move rfl) (by decide) ?_
        obtain ⟨y32, hy33, hS⟩ := bind_some' hS
        refine sr_call (vs := [.int .i64 now_2]) rfl Tryd.call12 rfl (otp_Counter_ok _ (hg.below hb) hy33) (by decide) ?_
        rintro _ w34 ⟨rfl, hbw35⟩
        replace hb := hb.trans (hbw35.mono hb.size)
        replace hA := lt_mono hA hbw35.size
        replace hH := hH.below hbw35
        refine sr_ev (v := .int .i64 (IntKind.i64.wrap ((gmin (gmax skew_3 0) 600).tdiv 30))) (ev_move rfl) (by decide) ?_
        refine sr_ev (v := .int .i64 (IntKind.i64.wrap (y32 + (IntKind.i64.wrap ((gmin (gmax skew_3 0) 600).tdiv 30))))) (ev_add rfl rfl) (by decide) ?_
        refine sr_ev (v := .func (.func 42) #[] #[.pointer (some ⟨g1, 0, none⟩), .pointer (some ⟨g8, 0, none⟩)]) (ev_makeFunc rfl) (by decide) ?_
        obtain ⟨y36, hy37, hS⟩ := bind_some' hS
        refine sr_call (vs := [.int .i64 (gmax (IntKind.i64.wrap (last_1 + 1)) (IntKind.i64.wrap (y28 - (IntKind.i64.wrap ((gmin (gmax skew_3 0) 600).tdiv 30))))), .int .i64 (IntKind.i64.wrap (y32 + (IntKind.i64.wrap ((gmin (gmax skew_3 0) 600).tdiv 30)))), .func (.func 42) #[] #[.pointer (some ⟨g1, 0, none⟩), .pointer (some ⟨g8, 0, none⟩)]]) rfl Tryd.call38 rfl (otp_search__VerifyAt_1_ok _ (hg.below hb) ((hH.el (c := strC) (i := 1) (cs := [str secret_0]) (x := secret_0) rfl rfl).weak (A' := fun _ => False) (fun _ h => h.elim)) ((hH.el (c := strC) (i := 0) (cs := [str s_4]) (x := s_4) rfl rfl).weak (A' := fun _ => False) (fun _ h => h.elim)) hy37) (by decide) ?_
        rintro _ w38 ⟨rfl, hbw39⟩
        replace hb := hb.trans (hbw39.mono hb.size)
        replace hA := lt_mono hA hbw39.size
        replace hH := hH.below hbw39
        refine sr_ev (v := .int .i64 y36.1) (ev_extract rfl rfl) (by decide) ?_
        refine sr_ev (v := .int .i64 y36.2) (ev_extract rfl rfl) (by decide) ?_
        refine sr_ev (v := .int .i64 y36.1) (ev_assign rfl) (by decide) ?_
        refine sr_ev (v := .int .i64 y36.2) (ev_assign rfl) (by decide) ?_
        refine sr_end (l' := [(10, .int .i64 y36.1), (11, .int .i64 y36.2)]) (.cons rfl (.cons rfl (.nil _))) ?_
        cases hS
        exact ke_ret2 Tryd.func18 rfl rfl rfl ⟨_, rfl, rfl, hb⟩
    · intro K21
      rcases Bool.eq_false_or_eq_true (decide (last_1 < (-1))) with hg20 | hg20
      · refine sr_pass (e := 22) rfl rfl (by rw [hg20]; rfl) (by decide) ?_
        refine sr_pass (e := 22) rfl rfl (by rw [hg20]; rfl) (by decide) ?_
        refine sr_ev (v := .bool true) (ev_pick_t rfl hg20 rfl) (by decide) ?_
        exact sr_weaken (l' := [(1, .int .i64 last_1), (2, .int .i64 now_2), (3, .int .i64 skew_3), (5, .pointer (some ⟨g1, 0, none⟩)), (9, .pointer (some ⟨g8, 0, none⟩)), (25, .bool true)]) (.cons rfl (.cons rfl (.cons rfl (.cons rfl (.cons rfl (.cons rfl (.nil _))))))) (K21 true _ ⟨by rw [hg20]; rfl, rfl⟩)
      · refine sr_evg (b := false) (e := 22) rfl rfl hg20 (v := .int .i64 last_1) (ev_move rfl) (by decide) ?_
        refine sr_evg (b := false) (e := 22) rfl rfl hg20 (v := .bool (decide (last_1 > 36650387592))) (ev_gt rfl rfl) (by decide) ?_
        refine sr_ev (v := .bool (decide (last_1 > 36650387592))) (ev_pick_f rfl hg20 rfl) (by decide) ?_
        exact sr_weaken (l' := [(1, .int .i64 last_1), (2, .int .i64 now_2), (3, .int .i64 skew_3), (5, .pointer (some ⟨g1, 0, none⟩)), (9, .pointer (some ⟨g8, 0, none⟩)), (25, .bool (decide (last_1 > 36650387592)))]) (.cons rfl (.cons rfl (.cons rfl (.cons rfl (.cons rfl (.cons rfl (.nil _))))))) (K21 (decide (last_1 > 36650387592)) _ ⟨by rw [hg20]; rfl, rfl⟩)
theorem slices_Index_string_string_L1_ok {w0 : World} (hg : Gs w0) {A0 : Nat → Prop} (hA0 : ∀ b, A0 b → b < w0.heap.size) : ∀ (n : Nat), ∀ {r : Int} {s_0 : List Str} {v_1 : Str} {t_7 : Int} {t_8 : Int} {vs_0 : Value}, slices_Index_string_string_L1 n s_0 v_1 t_7 t_8 = some r → ∀ {w : World} {A : Nat → Prop}, (Below w0.heap.size w0 w) → (∀ b, A b → b < w.heap.size) → (∀ b, A0 b → A b) → (Hp A w0.heap.size w []) → (SlR strC A w vs_0 s_0) → KE Tryd.prog 44 (Ret (fun v w' => v = .int .i64 r ∧ Below w0.heap.size w0 w')) 19 [.code (sub (bodyOf Tryd.f44) [2, 1, 2, 2, 1]), .inLoop (sub (bodyOf Tryd.f44) [2, 1, 2, 2, 1]), .inBlock 0, .code (sub (bodyOf Tryd.f44) [2, 2])] [(0, vs_0), (1, str v_1), (7, .int .i64 t_7), (8, .int .i64 t_8)] w := by
  intro n
  induction n with
  | zero => intro r s_0 v_1 t_7 t_8 vs_0 hS; cases hS
  | succ n ih =>
    have hr0 : ∀ {r : Int} {s_0 : List Str} {v_1 : Str} {t_7 : Int} {t_8 : Int} {vs_0 : Value}, slices_Index_string_string_L1 n s_0 v_1 t_7 t_8 = some r → ∀ {w : World} {A : Nat → Prop}, (Below w0.heap.size w0 w) → (∀ b, A b → b < w.heap.size) → (∀ b, A0 b → A b) → (Hp A w0.heap.size w []) → (SlR strC A w vs_0 s_0) → KE Tryd.prog 44 (Ret (fun v w' => v = .int .i64 r ∧ Below w0.heap.size w0 w')) 19 [.inLoop (sub (bodyOf Tryd.f44) [2, 1, 2, 2, 1]), .inBlock 0, .code (sub (bodyOf Tryd.f44) [2, 2])] [(0, vs_0), (1, str v_1), (7, .int .i64 t_7), (8, .int .i64 t_8)] w := fun {r} {s_0} {v_1} {t_7} {t_8} {vs_0} hS {w} {A} hb hA hi hH hs_0 => ke_inLoop (ih hS hb hA hi hH hs_0)
    clear ih
    intro r s_0 v_1 t_7 t_8 vs_0 hS w A hb hA hi hH hs_0
    unfold slices_Index_string_string_L1 at hS
    refine ke_seq ?_
    refine ke_region ?_
    refine sr_ev (v := .bool (decide (t_8 < t_7))) (ev_lt rfl rfl) (by decide) ?_
    refine sr_end (l' := [(0, vs_0), (1, str v_1), (7, .int .i64 t_7), (8, .int .i64 t_8), (9, .bool (decide (t_8 < t_7)))]) (.cons rfl (.cons rfl (.cons rfl (.cons rfl (.cons rfl (.nil _)))))) ?_
    refine ke_seq ?_
    refine ke_cond (t := decide (t_8 < t_7)) rfl (fun hc3 => ?_) (fun hc3 => ?_)
    · replace hS := ite_true' hS hc3
      refine ke_skip ?_
      refine ke_seq ?_
      refine ke_block ?_
      refine ke_seq ?_
      refine ke_region ?_
      refine sr_ev (v := .int .i64 t_8) (ev_move rfl) (by decide) ?_
      refine sr_ev (v := .int .i64 t_8) (ev_assign rfl) (by decide) ?_
      refine sr_end (l' := [(0, vs_0), (1, str v_1), (5, .int .i64 t_8), (7, .int .i64 t_7), (8, .int .i64 t_8)]) (.cons rfl (.cons rfl (.cons rfl (.cons rfl (.cons rfl (.nil _)))))) ?_
      refine ke_seq ?_
      refine ke_region ?_
      refine sr_ev (v := str v_1) (ev_move rfl) (by decide) ?_
      refine sr_ev (v := vs_0) (ev_move rfl) (by decide) ?_
      refine sr_ev (v := .int .i64 t_8) (ev_move rfl) (by decide) ?_
      obtain ⟨y4, hy5, hS⟩ := bind_some' hS
      refine sr_index hs_0 Tryd.underlying35 Tryd.info9 rfl rfl rfl hy5 (by decide) ?_
      intro b6 o7 cs9 he8
      obtain rfl : cs9 = [str y4] := he8.rd
      refine sr_ev (v := str y4) (ev_load Tryd.isAgg9 rfl (he8.cell 0 _ rfl)) (by decide) ?_
      refine sr_ev (v := .bool (v_1 == y4)) (ev_seq rfl rfl) (by decide) ?_
      refine sr_end (l' := [(0, vs_0), (1, str v_1), (5, .int .i64 t_8), (7, .int .i64 t_7), (8, .int .i64 t_8), (16, .bool (v_1 == y4))]) (.cons rfl (.cons rfl (.cons rfl (.cons rfl (.cons rfl (.cons rfl (.nil _))))))) ?_
      refine ke_cond (t := v_1 == y4) rfl (fun hc10 => ?_) (fun hc10 => ?_)
      · replace hS := ite_true' hS hc10
        refine ke_seq ?_
        refine ke_region ?_
        refine sr_ev (v := .int .i64 t_8) (ev_move rfl) (by decide) ?_
        refine sr_ev (v := .int .i64 t_8) (ev_assign rfl) (by decide) ?_
        refine sr_end (l' := [(4, .int .i64 t_8)]) (.cons rfl (.nil _)) ?_
        cases hS
        exact ke_ret1 Tryd.func44 rfl rfl ⟨_, rfl, rfl, hb⟩
      · replace hS := ite_false' hS hc10
        refine ke_skip ?_
        refine ke_inBlock ?_
        refine ke_region ?_
        refine sr_ev (v := .int .i64 (IntKind.i64.wrap (t_8 + 1))) (ev_add rfl rfl) (by decide) ?_
        refine sr_ev (v := .int .i64 (IntKind.i64.wrap (t_8 + 1))) (ev_move rfl) (by decide) ?_
        refine sr_end (l' := [(0, vs_0), (1, str v_1), (7, .int .i64 t_7), (8, .int .i64 (IntKind.i64.wrap (t_8 + 1)))]) (.cons rfl (.cons rfl (.cons rfl (.cons rfl (.nil _))))) ?_
        have hK := hr0 hS hb hA hi hH hs_0
        exact ke_weaken (l' := [(0, vs_0), (1, str v_1), (7, .int .i64 t_7), (8, .int .i64 (IntKind.i64.wrap (t_8 + 1)))]) (.cons rfl (.cons rfl (.cons rfl (.cons rfl (.nil _))))) hK
    · replace hS := ite_false' hS hc3
      refine ke_exit (k' := _) rfl ?_
      refine ke_seq ?_
      refine ke_region ?_
      refine sr_ev (v := .int .i64 (-1)) (ev_assign rfl) (by decide) ?_
      refine sr_end (l' := [(4, .int .i64 (-1))]) (.cons rfl (.nil _)) ?_
      cases hS
      exact ke_ret1 Tryd.func44 rfl rfl ⟨_, rfl, rfl, hb⟩
theorem slices_Index_string_string_ok {A0 : Nat → Prop} (w0 : World) (hg : Gs w0) {s_0 : List Str} {v_1 : Str} {v1 : Value} {r : Int} (h2 : SlR strC A0 w0 v1 s_0) (hS : slices_Index_string_string s_0 v_1 = some r) :
    Calls Tryd.prog 44 #[v1, str v_1] w0 (Ret (fun v w' => v = .int .i64 r ∧ Below w0.heap.size w0 w')) := by
  unfold slices_Index_string_string at hS
  have hb := Below.refl w0.heap.size w0
  replace h2 := h2.weak (A' := fun _ => False) (fun _ h => h.elim)
  obtain ⟨A0, hA0, hAe⟩ : ∃ A0 : Nat → Prop, (∀ b, A0 b → b < w0.heap.size) ∧ A0 = fun _ => False := ⟨_, fun _ h => h.elim, rfl⟩
  rw [← hAe] at h2
  clear hAe
  have hA := hA0
  have hi : ∀ b, A0 b → A0 b := fun _ h => h
  have hH := Hp.nil A0 w0.heap.size w0
  refine calls_of_ke Tryd.func44 rfl (n := 19) rfl rfl (l := [(0, v1), (1, str v_1)]) rfl ?_
  refine ke_seq ?_
  refine ke_region ?_
  refine sr_ev (v := .int .i64 0) (ev_assign rfl) (by decide) ?_
  refine sr_end (l' := [(0, v1), (1, str v_1)]) (.cons rfl (.cons rfl (.nil _))) ?_
  refine ke_seq ?_
  refine ke_seq ?_
  refine ke_region ?_
  refine sr_ev (v := v1) (ev_move rfl) (by decide) ?_
  refine sr_ev (v := .int .i64 (s_0.length : Int)) (ev_sllen Tryd.underlying35 rfl h2) (by decide) ?_
  refine sr_ev (v := .int .i64 0) (ev_move rfl) (by decide) ?_
  refine sr_end (l' := [(0, v1), (1, str v_1), (7, .int .i64 (s_0.length : Int)), (8, .int .i64 0)]) (.cons rfl (.cons rfl (.cons rfl (.cons rfl (.nil _))))) ?_
  refine ke_block ?_
  have hK := slices_Index_string_string_L1_ok hg hA0 _ hS hb hA hi hH h2
  exact ke_weaken (l' := [(0, v1), (1, str v_1), (7, .int .i64 (s_0.length : Int)), (8, .int .i64 0)]) (.cons rfl (.cons rfl (.cons rfl (.cons rfl (.nil _))))) (ke_loop hK)
theorem otp_Redeem_ok {A0 : Nat → Prop} (w0 : World) (hg : Gs w0) {codes_0 : List Str} {s_1 : Str} {v1 : Value} {r : (List Str) × Int} (h2 : SlR strC A0 w0 v1 codes_0) (hA0 : ∀ b, A0 b → b < w0.heap.size) (hS : otp_Redeem codes_0 s_1 = some r) :
    Calls Tryd.prog 23 #[v1, str s_1] w0 (Ret (fun v w' => ∃ x1, v = .tuple #[x1, .int .i64 r.2] ∧ SlR strC A0 w' x1 r.1 ∧ Below w0.heap.size w0 w')) := by
  unfold otp_Redeem at hS
  have hb := Below.refl w0.heap.size w0
  have hA := hA0
  have hi : ∀ b, A0 b → A0 b := fun _ h => h
  have hH := Hp.nil A0 w0.heap.size w0
  refine calls_of_ke Tryd.func23 rfl (n := 18) rfl rfl (l := [(0, v1), (1, str s_1)]) rfl ?_
  refine ke_seq ?_
  refine ke_region ?_
  refine sr_ev (v := .slice none 0 0) (ev_assign rfl) (by decide) ?_
  refine sr_ev (v := .int .i64 0) (ev_assign rfl) (by decide) ?_
  refine sr_end (l' := [(0, v1), (1, str s_1)]) (.cons rfl (.cons rfl (.nil _))) ?_
  refine ke_seq ?_
  refine ke_region ?_
  refine sr_ev (v := v1) (ev_move rfl) (by decide) ?_
  refine sr_ev (v := str s_1) (ev_move rfl) (by decide) ?_
  obtain ⟨y5, hy6, hS⟩ := bind_some' hS
  refine sr_call (vs := [v1, str s_1]) rfl Tryd.call44 rfl (slices_Index_string_string_ok _ (hg.below hb) h2 hy6) (by decide) ?_
  rintro _ w7 ⟨rfl, hbw8⟩
  replace hb := hb.trans (hbw8.mono hb.size)
  replace hA := lt_mono hA hbw8.size
  replace hH := hH.below hbw8
  replace h2 := h2.below hbw8
  refine sr_ev (v := .int .i64 y5) (ev_assign rfl) (by decide) ?_
  refine sr_end (l' := [(0, v1), (6, .int .i64 y5)]) (.cons rfl (.cons rfl (.nil _))) ?_
  refine ke_seq ?_
  refine ke_seq ?_
  refine ke_region ?_
  refine sr_ev (v := .int .i64 y5) (ev_move rfl) (by decide) ?_
  refine sr_ev (v := .bool (decide (y5 < 0))) (ev_lt rfl rfl) (by decide) ?_
  refine sr_end (l' := [(0, v1), (6, .int .i64 y5), (11, .bool (decide (y5 < 0)))]) (.cons rfl (.cons rfl (.cons rfl (.nil _)))) ?_
  refine ke_cond (t := decide (y5 < 0)) rfl (fun hc9 => ?_) (fun hc9 => ?_)
  · replace hS := ite_true' hS hc9
    refine ke_seq ?_
    refine ke_region ?_
    refine sr_ev (v := .slice none 0 0) (ev_assign rfl) (by decide) ?_
    refine sr_ev (v := .int .i64 6) (ev_assign rfl) (by decide) ?_
    refine sr_end (l' := [(4, .slice none 0 0), (5, .int .i64 6)]) (.cons rfl (.cons rfl (.nil _))) ?_
    cases hS
    exact ke_ret2 Tryd.func23 rfl rfl rfl ⟨_, rfl, _, rfl, SlR.nil, hb⟩
  · replace hS := ite_false' hS hc9
    refine ke_skip ?_
    refine ke_seq ?_
    refine ke_region ?_
    refine sr_ev (v := v1) (ev_move rfl) (by decide) ?_
    obtain ⟨y14, hy15, hS⟩ := bind_some' hS
    refine sr_call (vs := [v1]) rfl Tryd.call46 rfl (lib_Clone_ok (B := w0.heap.size) h2 hA hb.size hy15) (by decide) ?_
    rintro v16 w19 ⟨A18, h17, hst20, hbw21, hinc22, hA1, hnewv16⟩
    have dj23 : Dj v16 [] := fun p hp e => by have := hH.lt hp; have := hnewv16 _ e; omega
    replace hb := hb.trans (hbw21.mono hb.size)
    replace hi := fun b hb => hinc22 b (hi b hb)
    replace hH := (hH.below hbw21).mono hinc22
    replace hA := hA1
    clear hA1
    refine sr_ev (v := .int .i64 y5) (ev_move rfl) (by decide) ?_
    refine sr_ev (v := .int .i64 y5) (ev_move rfl) (by decide) ?_
    refine sr_ev (v := .int .i64 (IntKind.i64.wrap (y5 + 1))) (ev_add rfl rfl) (by decide) ?_
    obtain ⟨y28, hy29, hS⟩ := bind_some' hS
    refine sr_call (vs := [v16, .int .i64 y5, .int .i64 (IntKind.i64.wrap (y5 + 1))]) rfl Tryd.call45 rfl (lib_Delete_ok h17 hb.size hy29) (by decide) ?_
    rintro v30 w32 ⟨h31, hst33, hbB34, hoth35, hown36⟩
    have dj37 : Dj v30 [] := fun p hp e => dj23 p hp (hown36 _ e)
    replace hb := hb.trans hbB34
    replace hH := hH.keep (fun _ h => h) (fun p hp => hoth35 _ (hH.lt hp) (dj23 p hp))
    replace hA := lt_mono hA hst33.size
    refine sr_ev (v := v30) (ev_assign rfl) (by decide) ?_
    refine sr_ev (v := .int .i64 0) (ev_assign rfl) (by decide) ?_
    refine sr_end (l' := [(4, v30), (5, .int .i64 0)]) (.cons rfl (.cons rfl (.nil _))) ?_
    cases hS
    exact ke_ret2 Tryd.func23 rfl rfl rfl ⟨_, rfl, _, rfl, h31.toSl (fun b hb => ⟨hi b hb, hA0 b hb⟩), hb⟩
theorem otp_Recovery_L1_ok {w0 : World} (hg : Gs w0) {A0 : Nat → Prop} (hA0 : ∀ b, A0 b → b < w0.heap.size) : ∀ (n : Nat), ∀ {r : (List Str) × Int} {secret_0 : Str} {out_6 : List Str} {t_19 : Int} {t_20 : Int} {vout_6 : Value}, otp_Recovery_L1 n secret_0 out_6 t_19 t_20 = some r → ∀ {w : World} {A : Nat → Prop}, (Below w0.heap.size w0 w) → (∀ b, A b → b < w.heap.size) → (∀ b, A0 b → A b) → (Hp A w0.heap.size w []) → (OwnS strC 9 A w0.heap.size w vout_6 out_6) → (Dj vout_6 []) → KE Tryd.prog 21 (Ret (fun v w' => ∃ x1, v = .tuple #[x1, .int .i64 r.2] ∧ SlR strC A0 w' x1 r.1 ∧ Below w0.heap.size w0 w')) 34 [.code (sub (bodyOf Tryd.f21) [2, 2, 2, 1, 2, 2, 1]), .inLoop (sub (bodyOf Tryd.f21) [2, 2, 2, 1, 2, 2, 1]), .inBlock 1, .code (sub (bodyOf Tryd.f21) [2, 2, 2, 2])] [(0, str secret_0), (6, vout_6), (19, .int .i64 t_19), (20, .int .i64 t_20)] w := by
  intro n
  induction n with
  | zero => intro r secret_0 out_6 t_19 t_20 vout_6 hS; cases hS
  | succ n ih =>
    have hr0 : ∀ {r : (List Str) × Int} {secret_0 : Str} {out_6 : List Str} {t_19 : Int} {t_20 : Int} {vout_6 : Value}, otp_Recovery_L1 n secret_0 out_6 t_19 t_20 = some r → ∀ {w : World} {A : Nat → Prop}, (Below w0.heap.size w0 w) → (∀ b, A b → b < w.heap.size) → (∀ b, A0 b → A b) → (Hp A w0.heap.size w []) → (OwnS strC 9 A w0.heap.size w vout_6 out_6) → (Dj vout_6 []) → KE Tryd.prog 21 (Ret (fun v w' => ∃ x1, v = .tuple #[x1, .int .i64 r.2] ∧ SlR strC A0 w' x1 r.1 ∧ Below w0.heap.size w0 w')) 34 [.inLoop (sub (bodyOf Tryd.f21) [2, 2, 2, 1, 2, 2, 1]), .inBlock 1, .code (sub (bodyOf Tryd.f21) [2, 2, 2, 2])] [(0, str secret_0), (6, vout_6), (19, .int .i64 t_19), (20, .int .i64 t_20)] w := fun {r} {secret_0} {out_6} {t_19} {t_20} {vout_6} hS {w} {A} hb hA hi hH hout_6 dout_6 => ke_inLoop (ih hS hb hA hi hH hout_6 dout_6)
    clear ih
    intro r secret_0 out_6 t_19 t_20 vout_6 hS w A hb hA hi hH hout_6 dout_6
    unfold otp_Recovery_L1 at hS
    refine ke_seq ?_
    refine ke_region ?_
    refine sr_ev (v := .bool (decide (t_20 < t_19))) (ev_lt rfl rfl) (by decide) ?_
    refine sr_end (l' := [(0, str secret_0), (6, vout_6), (19, .int .i64 t_19), (20, .int .i64 t_20), (21, .bool (decide (t_20 < t_19)))]) (.cons rfl (.cons rfl (.cons rfl (.cons rfl (.cons rfl (.nil _)))))) ?_
    refine ke_seq ?_
    refine ke_cond (t := decide (t_20 < t_19)) rfl (fun hc18 => ?_) (fun hc18 => ?_)
    · replace hS := ite_true' hS hc18
      refine ke_skip ?_
      refine ke_seq ?_
      refine ke_block ?_
      refine ke_seq ?_
      refine ke_region ?_
      refine sr_ev (v := .int .i64 t_20) (ev_move rfl) (by decide) ?_
      refine sr_ev (v := .int .i64 t_20) (ev_assign rfl) (by decide) ?_
      refine sr_end (l' := [(0, str secret_0), (6, vout_6), (7, .int .i64 t_20), (19, .int .i64 t_19), (20, .int .i64 t_20)]) (.cons rfl (.cons rfl (.cons rfl (.cons rfl (.cons rfl (.nil _)))))) ?_
      refine ke_region ?_
      refine sr_ev (v := vout_6) (ev_move rfl) (by decide) ?_
      refine sr_ev (v := str secret_0) (ev_move rfl) (by decide) ?_
      refine sr_ev (v := .int .i64 t_20) (ev_move rfl) (by decide) ?_
      obtain ⟨y19, hy20, hS⟩ := bind_some' hS
      refine sr_call (vs := [.int .i64 t_20]) rfl Tryd.call43 rfl (codec_Int_ok _ (hg.below hb) hy20) (by decide) ?_
      rintro _ w21 ⟨rfl, hbw22⟩
      replace hb := hb.trans (hbw22.mono hb.size)
      replace hA := lt_mono hA hbw22.size
      replace hH := hH.below hbw22
      replace hout_6 := hout_6.below hbw22
      obtain ⟨hk23, hS⟩ := chk_some hS
      refine sr_ev (v := str (([114, 101, 99, 111, 118, 101, 114, 121]) ++ y19)) (ev_cat rfl rfl hk23) (by decide) ?_
      obtain ⟨y24, hy25, hS⟩ := bind_some' hS
      refine sr_call (vs := [str secret_0, str (([114, 101, 99, 111, 118, 101, 114, 121]) ++ y19)]) rfl Tryd.call27 rfl (digest_Mac_ok _ (hg.below hb) hy25) (by decide) ?_
      rintro _ w26 ⟨rfl, hbw27⟩
      replace hb := hb.trans (hbw27.mono hb.size)
      replace hA := lt_mono hA hbw27.size
      replace hH := hH.below hbw27
      replace hout_6 := hout_6.below hbw27
      obtain ⟨hk28, hS⟩ := chk_some hS
      refine sr_ev (v := str (cut y24 0 10)) (ev_sslice_to Tryd.underlying9 rfl rfl hk28) (by decide) ?_
      refine sr_lit (c := strC) (A := A) (E := 9) (xs := [cut y24 0 10]) (vs := #[(0, str (cut y24 0 10))]) (cs := #[str (cut y24 0 10)]) (css := [[str (cut y24 0 10)]]) rfl (fun _ => by kernel_rfl) rfl ⟨rfl, trivial⟩ rfl (by decide) hA (by decide) ?_
      intro v29 w31 h30 hbw32
      replace hb := hb.trans (hbw32.mono hb.size)
      replace hA := lt_mono hA hbw32.size
      replace hH := hH.below hbw32
      replace hout_6 := hout_6.below hbw32
      obtain ⟨hk33, hS⟩ := chk_some hS
      refine sr_append (c := strC) (A := A) (B := w0.heap.size) (E := 9) (xs := out_6) (ys := ([cut y24 0 10] : List Str)) hout_6 h30 Tryd.underlying35 Tryd.info9 rfl rfl rfl (by decide) (by decide) hA hb.size hk33 rfl rfl (by decide) ?_
      intro v34 A36 w37 h35 hst38 hbB39 hinc40 hA1 hoth41 hold
      have dj42 : Dj v34 [] := fun p hp e => by rcases hold _ e with h | h; exact dout_6 p hp h; have := hH.lt hp; omega
      replace hb := hb.trans hbB39
      replace hi := fun b hb => hinc40 b (hi b hb)
      replace hH := hH.keep hinc40 (fun p hp => hoth41 _ (hH.lt hp) (dout_6 p hp))
      replace hA := hA1
      clear hA1
      refine sr_ev (v := v34) (ev_assign rfl) (by decide) ?_
      refine sr_end (l' := [(0, str secret_0), (6, v34), (19, .int .i64 t_19), (20, .int .i64 t_20)]) (.cons rfl (.cons rfl (.cons rfl (.cons rfl (.nil _))))) ?_
      refine ke_inBlock ?_
      refine ke_region ?_
      refine sr_ev (v := .int .i64 (IntKind.i64.wrap (t_20 + 1))) (ev_add rfl rfl) (by decide) ?_
      refine sr_ev (v := .int .i64 (IntKind.i64.wrap (t_20 + 1))) (ev_move rfl) (by decide) ?_
      refine sr_end (l' := [(0, str secret_0), (6, v34), (19, .int .i64 t_19), (20, .int .i64 (IntKind.i64.wrap (t_20 + 1)))]) (.cons rfl (.cons rfl (.cons rfl (.cons rfl (.nil _))))) ?_
      have hK := hr0 hS hb hA hi hH h35 dj42
      exact ke_weaken (l' := [(0, str secret_0), (6, v34), (19, .int .i64 t_19), (20, .int .i64 (IntKind.i64.wrap (t_20 + 1)))]) (.cons rfl (.cons rfl (.cons rfl (.cons rfl (.nil _))))) hK
    · replace hS := ite_false' hS hc18
      refine ke_exit (k' := _) rfl ?_
      refine ke_seq ?_
      refine ke_region ?_
      refine sr_ev (v := vout_6) (ev_move rfl) (by decide) ?_
      refine sr_ev (v := vout_6) (ev_assign rfl) (by decide) ?_
      refine sr_ev (v := .int .i64 0) (ev_assign rfl) (by decide) ?_
      refine sr_end (l' := [(4, vout_6), (5, .int .i64 0)]) (.cons rfl (.cons rfl (.nil _))) ?_
      cases hS
      exact ke_ret2 Tryd.func21 rfl rfl rfl ⟨_, rfl, _, rfl, hout_6.toSl (fun b hb => ⟨hi b hb, hA0 b hb⟩), hb⟩
theorem otp_Recovery_ok {A0 : Nat → Prop} (w0 : World) (hg : Gs w0) {secret_0 : Str} {n_1 : Int} {r : (List Str) × Int} (hA0 : ∀ b, A0 b → b < w0.heap.size) (hS : otp_Recovery secret_0 n_1 = some r) :
    Calls Tryd.prog 21 #[str secret_0, .int .i64 n_1] w0 (Ret (fun v w' => ∃ x1, v = .tuple #[x1, .int .i64 r.2] ∧ SlR strC A0 w' x1 r.1 ∧ Below w0.heap.size w0 w')) := by
  unfold otp_Recovery at hS
  have hb := Below.refl w0.heap.size w0
  have hA := hA0
  have hi : ∀ b, A0 b → A0 b := fun _ h => h
  have hH := Hp.nil A0 w0.heap.size w0
  refine calls_of_ke Tryd.func21 rfl (n := 34) rfl rfl (l := [(0, str secret_0), (1, .int .i64 n_1)]) rfl ?_
  refine ke_seq ?_
  refine ke_region ?_
  refine sr_ev (v := .slice none 0 0) (ev_assign rfl) (by decide) ?_
  refine sr_ev (v := .int .i64 0) (ev_assign rfl) (by decide) ?_
  refine sr_end (l' := [(0, str secret_0), (1, .int .i64 n_1)]) (.cons rfl (.cons rfl (.nil _))) ?_
  refine ke_seq ?_
  refine ke_block ?_
  refine ke_seq ?_
  refine ke_region ?_
  refine sr_ev (v := str secret_0) (ev_move rfl) (by decide) ?_
  obtain ⟨y3, hy4, hS⟩ := bind_some' hS
  refine sr_call (vs := [str secret_0]) rfl Tryd.call29 rfl (fold_Clean_ok _ (hg.below hb) hy4) (by decide) ?_
  rintro _ w5 ⟨rfl, hbw6⟩
  replace hb := hb.trans (hbw6.mono hb.size)
  replace hA := lt_mono hA hbw6.size
  replace hH := hH.below hbw6
  refine sr_ev (v := .bool (!y3)) (ev_not rfl) (by decide) ?_
  refine sr_ev (v := .bool (!y3)) (ev_assign rfl) (by decide) ?_
  refine sr_end (l' := [(0, str secret_0), (1, .int .i64 n_1), (8, .bool (!y3))]) (.cons rfl (.cons rfl (.cons rfl (.nil _)))) ?_
  refine ke_cond (t := !y3) rfl (fun hc7 => ?_) (fun hc7 => ?_)
  · replace hS := ite_true' hS hc7
    refine ke_seq ?_
    refine ke_region ?_
    refine sr_ev (v := .slice none 0 0) (ev_assign rfl) (by decide) ?_
    refine sr_ev (v := .int .i64 4) (ev_assign rfl) (by decide) ?_
    refine sr_end (l' := [(4, .slice none 0 0), (5, .int .i64 4)]) (.cons rfl (.cons rfl (.nil _))) ?_
    cases hS
    exact ke_ret2 Tryd.func21 rfl rfl rfl ⟨_, rfl, _, rfl, SlR.nil, hb⟩
  · replace hS := ite_false' hS hc7
    refine ke_seq ?_
    refine ke_region ?_
    refine sr_ev (v := .int .i64 n_1) (ev_move rfl) (by decide) ?_
    refine sr_ev (v := .bool (decide (n_1 < 1))) (ev_lt rfl rfl) (by decide) ?_
    refine sr_ev (v := .bool (decide (n_1 < 1))) (ev_move rfl) (by decide) ?_
    refine sr_join (m := 3) (C := fun (x : Bool) w1 => x = ((decide (n_1 < 1)) || (decide (n_1 > 16))) ∧ w5 = w1) (l' := fun x => [(0, str secret_0), (1, .int .i64 n_1), (18, .bool x)]) ?_ ?_
    · rintro _ _ ⟨rfl, rfl⟩
      refine sr_ev (v := .bool ((decide (n_1 < 1)) || (decide (n_1 > 16)))) (ev_assign rfl) (by decide) ?_
      refine sr_end (l' := [(0, str secret_0), (1, .int .i64 n_1), (12, .bool ((decide (n_1 < 1)) || (decide (n_1 > 16))))]) (.cons rfl (.cons rfl (.cons rfl (.nil _)))) ?_
      refine ke_cond (t := (decide (n_1 < 1)) || (decide (n_1 > 16))) rfl (fun hc15 => ?_) (fun hc15 => ?_)
      · replace hS := ite_true' hS hc15
        refine ke_seq ?_
        refine ke_region ?_
        refine sr_ev (v := .slice none 0 0) (ev_assign rfl) (by decide) ?_
        refine sr_ev (v := .int .i64 27) (ev_assign rfl) (by decide) ?_
        refine sr_end (l' := [(4, .slice none 0 0), (5, .int .i64 27)]) (.cons rfl (.cons rfl (.nil _))) ?_
        cases hS
        exact ke_ret2 Tryd.func21 rfl rfl rfl ⟨_, rfl, _, rfl, SlR.nil, hb⟩
      · replace hS := ite_false' hS hc15
        refine ke_skip ?_
        refine ke_inBlock ?_
        refine ke_seq ?_
        refine ke_region ?_
        refine sr_ev (v := .slice none 0 0) (ev_assign rfl) (by decide) ?_
        refine sr_end (l' := [(0, str secret_0), (1, .int .i64 n_1), (6, .slice none 0 0)]) (.cons rfl (.cons rfl (.cons rfl (.nil _)))) ?_
        refine ke_seq ?_
        refine ke_seq ?_
        refine ke_region ?_
        refine sr_ev (v := .int .i64 n_1) (ev_move rfl) (by decide) ?_
        refine sr_ev (v := .int .i64 0) (ev_move rfl) (by decide) ?_
        refine sr_end (l' := [(0, str secret_0), (6, .slice none 0 0), (19, .int .i64 n_1), (20, .int .i64 0)]) (.cons rfl (.cons rfl (.cons rfl (.cons rfl (.nil _))))) ?_
        refine ke_block ?_
        have hK := otp_Recovery_L1_ok hg hA0 _ hS hb hA hi hH OwnS.nil (Dj.nil _)
        exact ke_weaken (l' := [(0, str secret_0), (6, (.slice none 0 0)), (19, .int .i64 n_1), (20, .int .i64 0)]) (.cons rfl (.cons rfl (.cons rfl (.cons rfl (.nil _))))) (ke_loop hK)
    · intro K9
      rcases Bool.eq_false_or_eq_true (decide (n_1 < 1)) with hg8 | hg8
      · refine sr_pass (e := 15) rfl rfl (by rw [hg8]; rfl) (by decide) ?_
        refine sr_pass (e := 15) rfl rfl (by rw [hg8]; rfl) (by decide) ?_
        refine sr_ev (v := .bool true) (ev_pick_t rfl hg8 rfl) (by decide) ?_
        exact sr_weaken (l' := [(0, str secret_0), (1, .int .i64 n_1), (18, .bool true)]) (.cons rfl (.cons rfl (.cons rfl (.nil _)))) (K9 true _ ⟨by rw [hg8]; rfl, rfl⟩)
      · refine sr_evg (b := false) (e := 15) rfl rfl hg8 (v := .int .i64 n_1) (ev_move rfl) (by decide) ?_
        refine sr_evg (b := false) (e := 15) rfl rfl hg8 (v := .bool (decide (n_1 > 16))) (ev_gt rfl rfl) (by decide) ?_
        refine sr_ev (v := .bool (decide (n_1 > 16))) (ev_pick_f rfl hg8 rfl) (by decide) ?_
        exact sr_weaken (l' := [(0, str secret_0), (1, .int .i64 n_1), (18, .bool (decide (n_1 > 16)))]) (.cons rfl (.cons rfl (.cons rfl (.nil _)))) (K9 (decide (n_1 > 16)) _ ⟨by rw [hg8]; rfl, rfl⟩)
theorem ref07_Lists_L1_ok {w0 : World} (hg : Gs w0) {A0 : Nat → Prop} (hA0 : ∀ b, A0 b → b < w0.heap.size) : ∀ (n : Nat), ∀ {r : Bool} {a_0 : List Str} {b_1 : List Str} {i_5 : Int} {va_0 : Value} {vb_1 : Value}, ref07_Lists_L1 n a_0 b_1 i_5 = some r → ∀ {w : World} {A : Nat → Prop}, (Below w0.heap.size w0 w) → (∀ b, A b → b < w.heap.size) → (∀ b, A0 b → A b) → (Hp A w0.heap.size w []) → (SlR strC A w va_0 a_0) → (SlR strC A w vb_1 b_1) → KE Tryd.prog 25 (Ret (fun v w' => v = .bool r ∧ Below w0.heap.size w0 w')) 26 [.code (sub (bodyOf Tryd.f25) [2, 2, 1, 2, 2, 1]), .inLoop (sub (bodyOf Tryd.f25) [2, 2, 1, 2, 2, 1]), .inBlock 0, .code (sub (bodyOf Tryd.f25) [2, 2, 2])] [(0, va_0), (1, vb_1), (5, .int .i64 i_5)] w := by
  intro n
  induction n with
  | zero => intro r a_0 b_1 i_5 va_0 vb_1 hS; cases hS
  | succ n ih =>
    have hr0 : ∀ {r : Bool} {a_0 : List Str} {b_1 : List Str} {i_5 : Int} {va_0 : Value} {vb_1 : Value}, ref07_Lists_L1 n a_0 b_1 i_5 = some r → ∀ {w : World} {A : Nat → Prop}, (Below w0.heap.size w0 w) → (∀ b, A b → b < w.heap.size) → (∀ b, A0 b → A b) → (Hp A w0.heap.size w []) → (SlR strC A w va_0 a_0) → (SlR strC A w vb_1 b_1) → KE Tryd.prog 25 (Ret (fun v w' => v = .bool r ∧ Below w0.heap.size w0 w')) 26 [.inLoop (sub (bodyOf Tryd.f25) [2, 2, 1, 2, 2, 1]), .inBlock 0, .code (sub (bodyOf Tryd.f25) [2, 2, 2])] [(0, va_0), (1, vb_1), (5, .int .i64 i_5)] w := fun {r} {a_0} {b_1} {i_5} {va_0} {vb_1} hS {w} {A} hb hA hi hH ha_0 hb_1 => ke_inLoop (ih hS hb hA hi hH ha_0 hb_1)
    clear ih
    intro r a_0 b_1 i_5 va_0 vb_1 hS w A hb hA hi hH ha_0 hb_1
    unfold ref07_Lists_L1 at hS
    refine ke_seq ?_
    refine ke_seq ?_
    refine ke_region ?_
    refine sr_ev (v := .int .i64 i_5) (ev_move rfl) (by decide) ?_
    refine sr_ev (v := va_0) (ev_move rfl) (by decide) ?_
    refine sr_ev (v := .int .i64 (a_0.length : Int)) (ev_sllen Tryd.underlying35 rfl ha_0) (by decide) ?_
    refine sr_ev (v := .bool (decide (i_5 < (a_0.length : Int)))) (ev_lt rfl rfl) (by decide) ?_
    refine sr_end (l' := [(0, va_0), (1, vb_1), (5, .int .i64 i_5), (14, .bool (decide (i_5 < (a_0.length : Int))))]) (.cons rfl (.cons rfl (.cons rfl (.cons rfl (.nil _))))) ?_
    refine ke_cond (t := decide (i_5 < (a_0.length : Int))) rfl (fun hc6 => ?_) (fun hc6 => ?_)
    · replace hS := ite_true' hS hc6
      refine ke_skip ?_
      refine ke_seq ?_
      refine ke_block ?_
      refine ke_seq ?_
      refine ke_region_q Tryd.mixed (by kernel_rfl) ?_
      refine sq_ev (v := va_0) (fun w1 hw1 => ev_move rfl) (by decide) ?_
      refine sq_ev (v := .int .i64 i_5) (fun w1 hw1 => ev_move rfl) (by decide) ?_
      obtain ⟨y9, hy10, hS⟩ := bind_some' hS
      obtain ⟨b11, o12, cs14, he13, hixhe13⟩ := ha_0.elem Tryd.underlying35 Tryd.info9 rfl (P := Tryd.prog) hy10
      obtain rfl : cs14 = [str y9] := he13.rd
      refine sq_ev (v := .pointer (some ⟨b11, o12, none⟩)) (fun w1 hw1 => hixhe13 w1 hw1 rfl rfl) (by decide) ?_
      refine sq_ev (v := str y9) (fun w1 hw1 => ev_load Tryd.isAgg9 rfl ((he13.step (.of_below hw1) (Nat.succ_pos _)).cell 0 _ rfl)) (by decide) ?_
      refine sq_ev (v := vb_1) (fun w1 hw1 => ev_move rfl) (by decide) ?_
      refine sq_ev (v := .int .i64 i_5) (fun w1 hw1 => ev_move rfl) (by decide) ?_
      obtain ⟨y15, hy16, hS⟩ := bind_some' hS
      obtain ⟨b17, o18, cs20, he19, hixhe19⟩ := hb_1.elem Tryd.underlying35 Tryd.info9 rfl (P := Tryd.prog) hy16
      obtain rfl : cs20 = [str y15] := he19.rd
      refine sq_ev (v := .pointer (some ⟨b17, o18, none⟩)) (fun w1 hw1 => hixhe19 w1 hw1 rfl rfl) (by decide) ?_
      refine sq_ev (v := str y15) (fun w1 hw1 => ev_load Tryd.isAgg9 rfl ((he19.step (.of_below hw1) (Nat.succ_pos _)).cell 0 _ rfl)) (by decide) ?_
      refine sq_ev (v := .bool (!(y9 == y15))) (fun w1 hw1 => ev_sne rfl rfl) (by decide) ?_
      refine sq_end (l' := [(0, va_0), (1, vb_1), (5, .int .i64 i_5), (25, .bool (!(y9 == y15)))]) (.cons rfl (.cons rfl (.cons rfl (.cons rfl (.nil _))))) (fun w8 hw7 => ?_)
      replace hb := hb.trans (hw7.mono hb.size)
      replace hA := lt_mono hA hw7.size
      replace hH := hH.below hw7
      replace ha_0 := ha_0.below hw7
      replace hb_1 := hb_1.below hw7
      refine ke_cond (t := !(y9 == y15)) rfl (fun hc21 => ?_) (fun hc21 => ?_)
      · replace hS := ite_true' hS hc21
        refine ke_seq ?_
        refine ke_region ?_
        refine sr_ev (v := .bool false) (ev_assign rfl) (by decide) ?_
        refine sr_end (l' := [(4, .bool false)]) (.cons rfl (.nil _)) ?_
        cases hS
        exact ke_ret1 Tryd.func25 rfl rfl ⟨_, rfl, rfl, hb⟩
      · replace hS := ite_false' hS hc21
        refine ke_skip ?_
        refine ke_inBlock ?_
        refine ke_region ?_
        refine sr_ev (v := .int .i64 i_5) (ev_move rfl) (by decide) ?_
        refine sr_ev (v := .int .i64 (IntKind.i64.wrap (i_5 + 1))) (ev_add rfl rfl) (by decide) ?_
        refine sr_ev (v := .int .i64 (IntKind.i64.wrap (i_5 + 1))) (ev_assign rfl) (by decide) ?_
        refine sr_end (l' := [(0, va_0), (1, vb_1), (5, .int .i64 (IntKind.i64.wrap (i_5 + 1)))]) (.cons rfl (.cons rfl (.cons rfl (.nil _)))) ?_
        have hK := hr0 hS hb hA hi hH ha_0 hb_1
        exact ke_weaken (l' := [(0, va_0), (1, vb_1), (5, .int .i64 (IntKind.i64.wrap (i_5 + 1)))]) (.cons rfl (.cons rfl (.cons rfl (.nil _)))) hK
    · replace hS := ite_false' hS hc6
      refine ke_exit (k' := _) rfl ?_
      refine ke_seq ?_
      refine ke_region ?_
      refine sr_ev (v := .bool true) (ev_assign rfl) (by decide) ?_
      refine sr_end (l' := [(4, .bool true)]) (.cons rfl (.nil _)) ?_
      cases hS
      exact ke_ret1 Tryd.func25 rfl rfl ⟨_, rfl, rfl, hb⟩
theorem ref07_Lists_ok {A0 : Nat → Prop} (w0 : World) (hg : Gs w0) {a_0 : List Str} {b_1 : List Str} {v1 : Value} {v3 : Value} {r : Bool} (h2 : SlR strC A0 w0 v1 a_0) (h4 : SlR strC A0 w0 v3 b_1) (hS : ref07_Lists a_0 b_1 = some r) :
    Calls Tryd.prog 25 #[v1, v3] w0 (Ret (fun v w' => v = .bool r ∧ Below w0.heap.size w0 w')) := by
  unfold ref07_Lists at hS
  have hb := Below.refl w0.heap.size w0
  replace h2 := h2.weak (A' := fun _ => False) (fun _ h => h.elim)
  replace h4 := h4.weak (A' := fun _ => False) (fun _ h => h.elim)
  obtain ⟨A0, hA0, hAe⟩ : ∃ A0 : Nat → Prop, (∀ b, A0 b → b < w0.heap.size) ∧ A0 = fun _ => False := ⟨_, fun _ h => h.elim, rfl⟩
  rw [← hAe] at h2
  rw [← hAe] at h4
  clear hAe
  have hA := hA0
  have hi : ∀ b, A0 b → A0 b := fun _ h => h
  have hH := Hp.nil A0 w0.heap.size w0
  refine calls_of_ke Tryd.func25 rfl (n := 26) rfl rfl (l := [(0, v1), (1, v3)]) rfl ?_
  refine ke_seq ?_
  refine ke_region ?_
  refine sr_ev (v := .bool false) (ev_assign rfl) (by decide) ?_
  refine sr_end (l' := [(0, v1), (1, v3)]) (.cons rfl (.cons rfl (.nil _))) ?_
  refine ke_seq ?_
  refine ke_seq ?_
  refine ke_region ?_
  refine sr_ev (v := v1) (ev_move rfl) (by decide) ?_
  refine sr_ev (v := .int .i64 (a_0.length : Int)) (ev_sllen Tryd.underlying35 rfl h2) (by decide) ?_
  refine sr_ev (v := v3) (ev_move rfl) (by decide) ?_
  refine sr_ev (v := .int .i64 (b_1.length : Int)) (ev_sllen Tryd.underlying35 rfl h4) (by decide) ?_
  refine sr_ev (v := .bool ((a_0.length : Int) != (b_1.length : Int))) (ev_ne rfl rfl) (by decide) ?_
  refine sr_end (l' := [(0, v1), (1, v3), (10, .bool ((a_0.length : Int) != (b_1.length : Int)))]) (.cons rfl (.cons rfl (.cons rfl (.nil _)))) ?_
  refine ke_cond (t := (a_0.length : Int) != (b_1.length : Int)) rfl (fun hc5 => ?_) (fun hc5 => ?_)
  · replace hS := ite_true' hS hc5
    refine ke_seq ?_
    refine ke_region ?_
    refine sr_ev (v := .bool false) (ev_assign rfl) (by decide) ?_
    refine sr_end (l' := [(4, .bool false)]) (.cons rfl (.nil _)) ?_
    cases hS
    exact ke_ret1 Tryd.func25 rfl rfl ⟨_, rfl, rfl, hb⟩
  · replace hS := ite_false' hS hc5
    refine ke_skip ?_
    refine ke_seq ?_
    refine ke_seq ?_
    refine ke_region ?_
    refine sr_ev (v := .int .i64 0) (ev_assign rfl) (by decide) ?_
    refine sr_end (l' := [(0, v1), (1, v3), (5, .int .i64 0)]) (.cons rfl (.cons rfl (.cons rfl (.nil _)))) ?_
    refine ke_block ?_
    have hK := ref07_Lists_L1_ok hg hA0 _ hS hb hA hi hH h2 h4
    exact ke_weaken (l' := [(0, v1), (1, v3), (5, .int .i64 0)]) (.cons rfl (.cons rfl (.cons rfl (.nil _)))) (ke_loop hK)
theorem law23_alive_ok (w0 : World) (hg : Gs w0) {r : Bool} (hS : law23_alive = some r) :
    Calls Tryd.prog 9 #[] w0 (Ret (fun v w' => v = .bool r ∧ Below w0.heap.size w0 w')) := by
  unfold law23_alive at hS
  have hb := Below.refl w0.heap.size w0
  obtain ⟨A0, hA0, hAe⟩ : ∃ A0 : Nat → Prop, (∀ b, A0 b → b < w0.heap.size) ∧ A0 = fun _ => False := ⟨_, fun _ h => h.elim, rfl⟩
  clear hAe
  have hA := hA0
  have hi : ∀ b, A0 b → A0 b := fun _ h => h
  have hH := Hp.nil A0 w0.heap.size w0
  refine calls_of_ke Tryd.func9 rfl (n := 118) rfl rfl (l := []) rfl ?_
  refine ke_seq ?_
  refine ke_region ?_
  refine sr_ev (v := .bool false) (ev_assign rfl) (by decide) ?_
  refine sr_end (l' := []) (.nil _) ?_
  refine ke_seq ?_
  refine ke_region ?_
  obtain ⟨y1, hy2, hS⟩ := bind_some' hS
  refine sr_call (vs := [str ([115, 101, 99, 114, 101, 116]), .int .i64 7]) rfl Tryd.call10 rfl (otp_Code_ok _ (hg.below hb) hy2) (by decide) ?_
  rintro _ w3 ⟨rfl, hbw4⟩
  replace hb := hb.trans (hbw4.mono hb.size)
  replace hA := lt_mono hA hbw4.size
  replace hH := hH.below hbw4
  refine sr_ev (v := .tuple #[str y1.1, .int .i64 y1.2]) (ev_move rfl) (by decide) ?_
  refine sr_ev (v := str y1.1) (ev_extract rfl rfl) (by decide) ?_
  refine sr_ev (v := .int .i64 y1.2) (ev_extract rfl rfl) (by decide) ?_
  refine sr_ev (v := str y1.1) (ev_assign rfl) (by decide) ?_
  refine sr_ev (v := .int .i64 y1.2) (ev_assign rfl) (by decide) ?_
  refine sr_end (l' := [(1, str y1.1), (2, .int .i64 y1.2)]) (.cons rfl (.cons rfl (.nil _))) ?_
  refine ke_seq ?_
  refine ke_region ?_
  refine sr_ev (v := str y1.1) (ev_move rfl) (by decide) ?_
  obtain ⟨y5, hy6, hS⟩ := bind_some' hS
  refine sr_call (vs := [str ([115, 101, 99, 114, 101, 116]), .int .i64 6, .int .i64 1, str y1.1]) rfl Tryd.call16 rfl (otp_Verify_ok _ (hg.below hb) hy6) (by decide) ?_
  rintro _ w7 ⟨rfl, hbw8⟩
  replace hb := hb.trans (hbw8.mono hb.size)
  replace hA := lt_mono hA hbw8.size
  replace hH := hH.below hbw8
  refine sr_ev (v := .tuple #[.int .i64 y5.1, .int .i64 y5.2]) (ev_move rfl) (by decide) ?_
  refine sr_ev (v := .int .i64 y5.1) (ev_extract rfl rfl) (by decide) ?_
  refine sr_ev (v := .int .i64 y5.2) (ev_extract rfl rfl) (by decide) ?_
  refine sr_ev (v := .int .i64 y5.1) (ev_assign rfl) (by decide) ?_
  refine sr_ev (v := .int .i64 y5.2) (ev_assign rfl) (by decide) ?_
  refine sr_end (l' := [(1, str y1.1), (2, .int .i64 y1.2), (3, .int .i64 y5.1), (4, .int .i64 y5.2)]) (.cons rfl (.cons rfl (.cons rfl (.cons rfl (.nil _))))) ?_
  refine ke_seq ?_
  refine ke_region ?_
  refine sr_ev (v := str y1.1) (ev_move rfl) (by decide) ?_
  obtain ⟨y9, hy10, hS⟩ := bind_some' hS
  refine sr_call (vs := [str ([115, 101, 99, 114, 101, 116]), .int .i64 7, .int .i64 0, str y1.1]) rfl Tryd.call16 rfl (otp_Verify_ok _ (hg.below hb) hy10) (by decide) ?_
  rintro _ w11 ⟨rfl, hbw12⟩
  replace hb := hb.trans (hbw12.mono hb.size)
  replace hA := lt_mono hA hbw12.size
  replace hH := hH.below hbw12
  refine sr_ev (v := .tuple #[.int .i64 y9.1, .int .i64 y9.2]) (ev_move rfl) (by decide) ?_
  refine sr_ev (v := .int .i64 y9.1) (ev_extract rfl rfl) (by decide) ?_
  refine sr_ev (v := .int .i64 y9.2) (ev_extract rfl rfl) (by decide) ?_
  refine sr_ev (v := .int .i64 y9.1) (ev_assign rfl) (by decide) ?_
  refine sr_ev (v := .int .i64 y9.2) (ev_assign rfl) (by decide) ?_
  refine sr_end (l' := [(1, str y1.1), (2, .int .i64 y1.2), (3, .int .i64 y5.1), (4, .int .i64 y5.2), (6, .int .i64 y9.2)]) (.cons rfl (.cons rfl (.cons rfl (.cons rfl (.cons rfl (.nil _)))))) ?_
  refine ke_seq ?_
  refine ke_region ?_
  refine sr_ev (v := str y1.1) (ev_move rfl) (by decide) ?_
  obtain ⟨y13, hy14, hS⟩ := bind_some' hS
  refine sr_call (vs := [str ([115, 101, 99, 114, 101, 116]), .int .i64 6, .int .i64 210, .int .i64 0, str y1.1]) rfl Tryd.call18 rfl (otp_VerifyAt_ok _ (hg.below hb) hy14) (by decide) ?_
  rintro _ w15 ⟨rfl, hbw16⟩
  replace hb := hb.trans (hbw16.mono hb.size)
  replace hA := lt_mono hA hbw16.size
  replace hH := hH.below hbw16
  refine sr_ev (v := .tuple #[.int .i64 y13.1, .int .i64 y13.2]) (ev_move rfl) (by decide) ?_
  refine sr_ev (v := .int .i64 y13.1) (ev_extract rfl rfl) (by decide) ?_
  refine sr_ev (v := .int .i64 y13.2) (ev_extract rfl rfl) (by decide) ?_
  refine sr_ev (v := .int .i64 y13.1) (ev_assign rfl) (by decide) ?_
  refine sr_ev (v := .int .i64 y13.2) (ev_assign rfl) (by decide) ?_
  refine sr_end (l' := [(1, str y1.1), (2, .int .i64 y1.2), (3, .int .i64 y5.1), (4, .int .i64 y5.2), (6, .int .i64 y9.2), (7, .int .i64 y13.1), (8, .int .i64 y13.2)]) (.cons rfl (.cons rfl (.cons rfl (.cons rfl (.cons rfl (.cons rfl (.cons rfl (.nil _)))))))) ?_
  refine ke_seq ?_
  refine ke_region ?_
  refine sr_lit (c := strC) (A := A0) (E := 9) (xs := [[97], [98], [97]]) (vs := #[(0, str ([97])), (1, str ([98])), (2, str ([97]))]) (cs := #[str ([97]), str ([98]), str ([97])]) (css := [[str ([97])], [str ([98])], [str ([97])]]) rfl (fun _ => by kernel_rfl) rfl ⟨rfl, ⟨rfl, ⟨rfl, trivial⟩⟩⟩ rfl (by decide) hA (by decide) ?_
  intro v17 w19 h18 hbw20
  replace hb := hb.trans (hbw20.mono hb.size)
  replace hA := lt_mono hA hbw20.size
  replace hH := hH.below hbw20
  obtain ⟨y21, hy22, hS⟩ := bind_some' hS
  refine sr_call (vs := [v17, str ([97])]) rfl Tryd.call23 rfl (otp_Redeem_ok _ (hg.below hb) h18 hA hy22) (by decide) ?_
  rintro _ w23 ⟨v25, rfl, h26, hbw24⟩
  replace hb := hb.trans (hbw24.mono hb.size)
  replace hA := lt_mono hA hbw24.size
  replace hH := hH.below hbw24
  refine sr_ev (v := .tuple #[v25, .int .i64 y21.2]) (ev_move rfl) (by decide) ?_
  refine sr_ev (v := v25) (ev_extract rfl rfl) (by decide) ?_
  refine sr_ev (v := .int .i64 y21.2) (ev_extract rfl rfl) (by decide) ?_
  refine sr_ev (v := v25) (ev_assign rfl) (by decide) ?_
  refine sr_ev (v := .int .i64 y21.2) (ev_assign rfl) (by decide) ?_
  refine sr_end (l' := [(1, str y1.1), (2, .int .i64 y1.2), (3, .int .i64 y5.1), (4, .int .i64 y5.2), (6, .int .i64 y9.2), (7, .int .i64 y13.1), (8, .int .i64 y13.2), (9, v25), (10, .int .i64 y21.2)]) (.cons rfl (.cons rfl (.cons rfl (.cons rfl (.cons rfl (.cons rfl (.cons rfl (.cons rfl (.cons rfl (.nil _)))))))))) ?_
  refine ke_seq ?_
  refine ke_region ?_
  refine sr_ev (v := v25) (ev_move rfl) (by decide) ?_
  obtain ⟨y27, hy28, hS⟩ := bind_some' hS
  refine sr_call (vs := [v25, str ([99])]) rfl Tryd.call23 rfl (otp_Redeem_ok _ (hg.below hb) h26 hA hy28) (by decide) ?_
  rintro _ w29 ⟨v31, rfl, h32, hbw30⟩
  replace hb := hb.trans (hbw30.mono hb.size)
  replace hA := lt_mono hA hbw30.size
  replace hH := hH.below hbw30
  replace h26 := h26.below hbw30
  refine sr_ev (v := .tuple #[v31, .int .i64 y27.2]) (ev_move rfl) (by decide) ?_
  refine sr_ev (v := v31) (ev_extract rfl rfl) (by decide) ?_
  refine sr_ev (v := .int .i64 y27.2) (ev_extract rfl rfl) (by decide) ?_
  refine sr_ev (v := v31) (ev_assign rfl) (by decide) ?_
  refine sr_ev (v := .int .i64 y27.2) (ev_assign rfl) (by decide) ?_
  refine sr_end (l' := [(1, str y1.1), (2, .int .i64 y1.2), (3, .int .i64 y5.1), (4, .int .i64 y5.2), (6, .int .i64 y9.2), (7, .int .i64 y13.1), (8, .int .i64 y13.2), (9, v25), (10, .int .i64 y21.2), (12, .int .i64 y27.2)]) (.cons rfl (.cons rfl (.cons rfl (.cons rfl (.cons rfl (.cons rfl (.cons rfl (.cons rfl (.cons rfl (.cons rfl (.nil _))))))))))) ?_
  refine ke_seq ?_
  refine ke_region ?_
  obtain ⟨y33, hy34, hS⟩ := bind_some' hS
  refine sr_call (vs := [str ([]), .int .i64 1]) rfl Tryd.call10 rfl (otp_Code_ok _ (hg.below hb) hy34) (by decide) ?_
  rintro _ w35 ⟨rfl, hbw36⟩
  replace hb := hb.trans (hbw36.mono hb.size)
  replace hA := lt_mono hA hbw36.size
  replace hH := hH.below hbw36
  replace h26 := h26.below hbw36
  refine sr_ev (v := .tuple #[str y33.1, .int .i64 y33.2]) (ev_move rfl) (by decide) ?_
  refine sr_ev (v := str y33.1) (ev_extract rfl rfl) (by decide) ?_
  refine sr_ev (v := .int .i64 y33.2) (ev_extract rfl rfl) (by decide) ?_
  refine sr_ev (v := str y33.1) (ev_assign rfl) (by decide) ?_
  refine sr_ev (v := .int .i64 y33.2) (ev_assign rfl) (by decide) ?_
  refine sr_end (l' := [(1, str y1.1), (2, .int .i64 y1.2), (3, .int .i64 y5.1), (4, .int .i64 y5.2), (6, .int .i64 y9.2), (7, .int .i64 y13.1), (8, .int .i64 y13.2), (9, v25), (10, .int .i64 y21.2), (12, .int .i64 y27.2), (14, .int .i64 y33.2)]) (.cons rfl (.cons rfl (.cons rfl (.cons rfl (.cons rfl (.cons rfl (.cons rfl (.cons rfl (.cons rfl (.cons rfl (.cons rfl (.nil _)))))))))))) ?_
  refine ke_seq ?_
  refine ke_region ?_
  obtain ⟨y37, hy38, hS⟩ := bind_some' hS
  refine sr_call (vs := [str ([115, 101, 99, 114, 101, 116]), .int .i64 2]) rfl Tryd.call21 rfl (otp_Recovery_ok _ (hg.below hb) hA hy38) (by decide) ?_
  rintro _ w39 ⟨v41, rfl, h42, hbw40⟩
  replace hb := hb.trans (hbw40.mono hb.size)
  replace hA := lt_mono hA hbw40.size
  replace hH := hH.below hbw40
  replace h26 := h26.below hbw40
  refine sr_ev (v := .tuple #[v41, .int .i64 y37.2]) (ev_move rfl) (by decide) ?_
  refine sr_ev (v := v41) (ev_extract rfl rfl) (by decide) ?_
  refine sr_ev (v := .int .i64 y37.2) (ev_extract rfl rfl) (by decide) ?_
  refine sr_ev (v := v41) (ev_assign rfl) (by decide) ?_
  refine sr_ev (v := .int .i64 y37.2) (ev_assign rfl) (by decide) ?_
  refine sr_end (l' := [(1, str y1.1), (2, .int .i64 y1.2), (3, .int .i64 y5.1), (4, .int .i64 y5.2), (6, .int .i64 y9.2), (7, .int .i64 y13.1), (8, .int .i64 y13.2), (9, v25), (10, .int .i64 y21.2), (12, .int .i64 y27.2), (14, .int .i64 y33.2), (15, v41), (16, .int .i64 y37.2)]) (.cons rfl (.cons rfl (.cons rfl (.cons rfl (.cons rfl (.cons rfl (.cons rfl (.cons rfl (.cons rfl (.cons rfl (.cons rfl (.cons rfl (.cons rfl (.nil _)))))))))))))) ?_
  refine ke_seq ?_
  refine ke_region ?_
  refine sr_ev (v := .int .i64 y1.2) (ev_move rfl) (by decide) ?_
  refine sr_ev (v := .bool (y1.2 == 0)) (ev_eq rfl rfl) (by decide) ?_
  refine sr_ev (v := .bool (y1.2 == 0)) (ev_move rfl) (by decide) ?_
  refine sr_join (m := 4) (C := fun (x : Bool) w1 => x = ((y1.2 == 0) && ((y1.1.length : Int) == 6)) ∧ w39 = w1) (l' := fun x => [(3, .int .i64 y5.1), (4, .int .i64 y5.2), (6, .int .i64 y9.2), (7, .int .i64 y13.1), (8, .int .i64 y13.2), (9, v25), (10, .int .i64 y21.2), (12, .int .i64 y27.2), (14, .int .i64 y33.2), (15, v41), (16, .int .i64 y37.2), (60, .bool x)]) ?_ ?_
  · rintro _ _ ⟨rfl, rfl⟩
    refine sr_ev (v := .bool ((y1.2 == 0) && ((y1.1.length : Int) == 6))) (ev_move rfl) (by decide) ?_
    refine sr_join (m := 3) (C := fun (x : Bool) w1 => x = (((y1.2 == 0) && ((y1.1.length : Int) == 6)) && (y5.2 == 0)) ∧ w39 = w1) (l' := fun x => [(3, .int .i64 y5.1), (6, .int .i64 y9.2), (7, .int .i64 y13.1), (8, .int .i64 y13.2), (9, v25), (10, .int .i64 y21.2), (12, .int .i64 y27.2), (14, .int .i64 y33.2), (15, v41), (16, .int .i64 y37.2), (64, .bool x)]) ?_ ?_
    · rintro _ _ ⟨rfl, rfl⟩
      refine sr_ev (v := .bool (((y1.2 == 0) && ((y1.1.length : Int) == 6)) && (y5.2 == 0))) (ev_move rfl) (by decide) ?_
      refine sr_join (m := 3) (C := fun (x : Bool) w1 => x = ((((y1.2 == 0) && ((y1.1.length : Int) == 6)) && (y5.2 == 0)) && (y5.1 == 7)) ∧ w39 = w1) (l' := fun x => [(6, .int .i64 y9.2), (7, .int .i64 y13.1), (8, .int .i64 y13.2), (9, v25), (10, .int .i64 y21.2), (12, .int .i64 y27.2), (14, .int .i64 y33.2), (15, v41), (16, .int .i64 y37.2), (68, .bool x)]) ?_ ?_
      · rintro _ _ ⟨rfl, rfl⟩
        refine sr_ev (v := .bool ((((y1.2 == 0) && ((y1.1.length : Int) == 6)) && (y5.2 == 0)) && (y5.1 == 7))) (ev_move rfl) (by decide) ?_
        refine sr_join (m := 3) (C := fun (x : Bool) w1 => x = (((((y1.2 == 0) && ((y1.1.length : Int) == 6)) && (y5.2 == 0)) && (y5.1 == 7)) && (y9.2 == 11)) ∧ w39 = w1) (l' := fun x => [(7, .int .i64 y13.1), (8, .int .i64 y13.2), (9, v25), (10, .int .i64 y21.2), (12, .int .i64 y27.2), (14, .int .i64 y33.2), (15, v41), (16, .int .i64 y37.2), (72, .bool x)]) ?_ ?_
        · rintro _ _ ⟨rfl, rfl⟩
          refine sr_ev (v := .bool (((((y1.2 == 0) && ((y1.1.length : Int) == 6)) && (y5.2 == 0)) && (y5.1 == 7)) && (y9.2 == 11))) (ev_move rfl) (by decide) ?_
          refine sr_join (m := 3) (C := fun (x : Bool) w1 => x = ((((((y1.2 == 0) && ((y1.1.length : Int) == 6)) && (y5.2 == 0)) && (y5.1 == 7)) && (y9.2 == 11)) && (y13.2 == 0)) ∧ w39 = w1) (l' := fun x => [(7, .int .i64 y13.1), (9, v25), (10, .int .i64 y21.2), (12, .int .i64 y27.2), (14, .int .i64 y33.2), (15, v41), (16, .int .i64 y37.2), (76, .bool x)]) ?_ ?_
          · rintro _ _ ⟨rfl, rfl⟩
            refine sr_ev (v := .bool ((((((y1.2 == 0) && ((y1.1.length : Int) == 6)) && (y5.2 == 0)) && (y5.1 == 7)) && (y9.2 == 11)) && (y13.2 == 0))) (ev_move rfl) (by decide) ?_
            refine sr_join (m := 3) (C := fun (x : Bool) w1 => x = (((((((y1.2 == 0) && ((y1.1.length : Int) == 6)) && (y5.2 == 0)) && (y5.1 == 7)) && (y9.2 == 11)) && (y13.2 == 0)) && (y13.1 == 7)) ∧ w39 = w1) (l' := fun x => [(9, v25), (10, .int .i64 y21.2), (12, .int .i64 y27.2), (14, .int .i64 y33.2), (15, v41), (16, .int .i64 y37.2), (80, .bool x)]) ?_ ?_
            · rintro _ _ ⟨rfl, rfl⟩
              refine sr_ev (v := .bool (((((((y1.2 == 0) && ((y1.1.length : Int) == 6)) && (y5.2 == 0)) && (y5.1 == 7)) && (y9.2 == 11)) && (y13.2 == 0)) && (y13.1 == 7))) (ev_move rfl) (by decide) ?_
              refine sr_join (m := 3) (C := fun (x : Bool) w1 => x = ((((((((y1.2 == 0) && ((y1.1.length : Int) == 6)) && (y5.2 == 0)) && (y5.1 == 7)) && (y9.2 == 11)) && (y13.2 == 0)) && (y13.1 == 7)) && (y21.2 == 0)) ∧ w39 = w1) (l' := fun x => [(9, v25), (12, .int .i64 y27.2), (14, .int .i64 y33.2), (15, v41), (16, .int .i64 y37.2), (84, .bool x)]) ?_ ?_
              · rintro _ _ ⟨rfl, rfl⟩
                refine sr_ev (v := .bool ((((((((y1.2 == 0) && ((y1.1.length : Int) == 6)) && (y5.2 == 0)) && (y5.1 == 7)) && (y9.2 == 11)) && (y13.2 == 0)) && (y13.1 == 7)) && (y21.2 == 0))) (ev_move rfl) (by decide) ?_
                obtain ⟨z94, hz96, hS⟩ := bind_some' hS
                refine sr_join (m := 4) (C := fun (x : Bool) w1 => z94 = x ∧ Below w39.heap.size w39 w1) (l' := fun x => [(12, .int .i64 y27.2), (14, .int .i64 y33.2), (15, v41), (16, .int .i64 y37.2), (89, .bool x)]) ?_ ?_
                · rintro _ w97 ⟨rfl, hbw98⟩
                  replace hb := hb.trans (hbw98.mono hb.size)
                  replace hA := lt_mono hA hbw98.size
                  replace hH := hH.below hbw98
                  replace h42 := h42.below hbw98
                  refine sr_ev (v := .bool z94) (ev_move rfl) (by decide) ?_
                  refine sr_join (m := 3) (C := fun (x : Bool) w1 => x = (z94 && (y27.2 == 6)) ∧ w97 = w1) (l' := fun x => [(14, .int .i64 y33.2), (15, v41), (16, .int .i64 y37.2), (93, .bool x)]) ?_ ?_
                  · rintro _ _ ⟨rfl, rfl⟩
                    refine sr_ev (v := .bool (z94 && (y27.2 == 6))) (ev_move rfl) (by decide) ?_
                    refine sr_join (m := 3) (C := fun (x : Bool) w1 => x = ((z94 && (y27.2 == 6)) && (y33.2 == 4)) ∧ w97 = w1) (l' := fun x => [(15, v41), (16, .int .i64 y37.2), (97, .bool x)]) ?_ ?_
                    · rintro _ _ ⟨rfl, rfl⟩
                      refine sr_ev (v := .bool ((z94 && (y27.2 == 6)) && (y33.2 == 4))) (ev_move rfl) (by decide) ?_
                      refine sr_join (m := 3) (C := fun (x : Bool) w1 => x = (((z94 && (y27.2 == 6)) && (y33.2 == 4)) && (y37.2 == 0)) ∧ w97 = w1) (l' := fun x => [(15, v41), (101, .bool x)]) ?_ ?_
                      · rintro _ _ ⟨rfl, rfl⟩
                        refine sr_ev (v := .bool (((z94 && (y27.2 == 6)) && (y33.2 == 4)) && (y37.2 == 0))) (ev_move rfl) (by decide) ?_
                        refine sr_join (m := 4) (C := fun (x : Bool) w1 => x = ((((z94 && (y27.2 == 6)) && (y33.2 == 4)) && (y37.2 == 0)) && ((y37.1.length : Int) == 2)) ∧ w97 = w1) (l' := fun x => [(15, v41), (106, .bool x)]) ?_ ?_
                        · rintro _ _ ⟨rfl, rfl⟩
                          refine sr_ev (v := .bool ((((z94 && (y27.2 == 6)) && (y33.2 == 4)) && (y37.2 == 0)) && ((y37.1.length : Int) == 2))) (ev_move rfl) (by decide) ?_
                          obtain ⟨z137, hz139, hS⟩ := bind_some' hS
                          refine sr_join (m := 6) (C := fun (x : Bool) w1 => z137 = x ∧ Below w97.heap.size w97 w1) (l' := fun x => [(113, .bool x)]) ?_ ?_
                          · rintro _ w140 ⟨rfl, hbw141⟩
                            replace hb := hb.trans (hbw141.mono hb.size)
                            replace hA := lt_mono hA hbw141.size
                            replace hH := hH.below hbw141
                            refine sr_ev (v := .bool z137) (ev_move rfl) (by decide) ?_
                            obtain ⟨z150, hz152, hS⟩ := bind_some' hS
                            refine sr_join (m := 3) (C := fun (x : Bool) w1 => z150 = x ∧ Below w140.heap.size w140 w1) (l' := fun x => [(117, .bool x)]) ?_ ?_
                            · rintro _ w153 ⟨rfl, hbw154⟩
                              replace hb := hb.trans (hbw154.mono hb.size)
                              replace hA := lt_mono hA hbw154.size
                              replace hH := hH.below hbw154
                              refine sr_ev (v := .bool z150) (ev_assign rfl) (by decide) ?_
                              refine sr_end (l' := [(0, .bool z150)]) (.cons rfl (.nil _)) ?_
                              cases hS
                              exact ke_ret1 Tryd.func9 rfl rfl ⟨_, rfl, rfl, hb⟩
                            · intro K149
                              clear hS
                              have hj151 := Below.refl w140.heap.size w140
                              rcases Bool.eq_false_or_eq_true z137 with hg148 | hg148
                              · have hS := ite_true' hz152 hg148
                                obtain ⟨y155, hy156, hS⟩ := bind_some' hS
                                refine sr_callg (b := true) (e := 114) rfl rfl hg148 (vs := [.int .i64 59]) rfl Tryd.call12 rfl (otp_Counter_ok _ (hg.below hb) hy156) (by decide) ?_
                                rintro _ w157 ⟨rfl, hbw158⟩
                                replace hb := hb.trans (hbw158.mono hb.size)
                                replace hj151 := hj151.trans (hbw158.mono hj151.size)
                                replace hA := lt_mono hA hbw158.size
                                replace hH := hH.below hbw158
                                refine sr_evg (b := true) (e := 114) rfl rfl hg148 (v := .bool (y155 == 1)) (ev_eq rfl rfl) (by decide) ?_
                                refine sr_ev (v := .bool (y155 == 1)) (ev_pick_t rfl hg148 rfl) (by decide) ?_
                                exact sr_weaken (l' := [(117, .bool (y155 == 1))]) (.cons rfl (.nil _)) (K149 (y155 == 1) _ ⟨(Option.some.inj hS).symm, hj151⟩)
                              · have hS := ite_false' hz152 hg148
                                refine sr_pass (e := 114) rfl rfl (by rw [hg148]; rfl) (by decide) ?_
                                refine sr_pass (e := 114) rfl rfl (by rw [hg148]; rfl) (by decide) ?_
                                refine sr_ev (v := .bool false) (ev_pick_f rfl hg148 rfl) (by decide) ?_
                                exact sr_weaken (l' := [(117, .bool false)]) (.cons rfl (.nil _)) (K149 false _ ⟨(Option.some.inj hS).symm, hj151⟩)
                          · intro K136
                            clear hS
                            have hj138 := Below.refl w97.heap.size w97
                            rcases Bool.eq_false_or_eq_true ((((z94 && (y27.2 == 6)) && (y33.2 == 4)) && (y37.2 == 0)) && ((y37.1.length : Int) == 2)) with hg135 | hg135
                            · have hS := ite_true' hz139 hg135
                              refine sr_evg (b := true) (e := 107) rfl rfl hg135 (v := v41) (ev_move rfl) (by decide) ?_
                              obtain ⟨y142, hy143, hS⟩ := bind_some' hS
                              refine sr_unguard rfl rfl hg135 ?_
                              refine sr_index h42 Tryd.underlying35 Tryd.info9 rfl rfl rfl hy143 (by decide) ?_
                              intro b144 o145 cs147 he146
                              obtain rfl : cs147 = [str y142] := he146.rd
                              refine sr_evg (b := true) (e := 107) rfl rfl hg135 (v := str y142) (ev_load Tryd.isAgg9 rfl (he146.cell 0 _ rfl)) (by decide) ?_
                              refine sr_evg (b := true) (e := 107) rfl rfl hg135 (v := .int .i64 (y142.length : Int)) (ev_slen Tryd.underlying9 rfl) (by decide) ?_
                              refine sr_evg (b := true) (e := 107) rfl rfl hg135 (v := .bool ((y142.length : Int) == 10)) (ev_eq rfl rfl) (by decide) ?_
                              refine sr_ev (v := .bool ((y142.length : Int) == 10)) (ev_pick_t rfl hg135 rfl) (by decide) ?_
                              exact sr_weaken (l' := [(113, .bool ((y142.length : Int) == 10))]) (.cons rfl (.nil _)) (K136 ((y142.length : Int) == 10) _ ⟨(Option.some.inj hS).symm, hj138⟩)
                            · have hS := ite_false' hz139 hg135
                              refine sr_pass (e := 107) rfl rfl (by rw [hg135]; rfl) (by decide) ?_
                              refine sr_pass (e := 107) rfl rfl (by rw [hg135]; rfl) (by decide) ?_
                              refine sr_pass (e := 107) rfl rfl (by rw [hg135]; rfl) (by decide) ?_
                              refine sr_pass (e := 107) rfl rfl (by rw [hg135]; rfl) (by decide) ?_
                              refine sr_pass (e := 107) rfl rfl (by rw [hg135]; rfl) (by decide) ?_
                              refine sr_ev (v := .bool false) (ev_pick_f rfl hg135 rfl) (by decide) ?_
                              exact sr_weaken (l' := [(113, .bool false)]) (.cons rfl (.nil _)) (K136 false _ ⟨(Option.some.inj hS).symm, hj138⟩)
                        · intro K129
                          rcases Bool.eq_false_or_eq_true (((z94 && (y27.2 == 6)) && (y33.2 == 4)) && (y37.2 == 0)) with hg128 | hg128
                          · refine sr_evg (b := true) (e := 102) rfl rfl hg128 (v := v41) (ev_move rfl) (by decide) ?_
                            refine sr_evg (b := true) (e := 102) rfl rfl hg128 (v := .int .i64 (y37.1.length : Int)) (ev_sllen Tryd.underlying35 rfl h42) (by decide) ?_
                            refine sr_evg (b := true) (e := 102) rfl rfl hg128 (v := .bool ((y37.1.length : Int) == 2)) (ev_eq rfl rfl) (by decide) ?_
                            refine sr_ev (v := .bool ((y37.1.length : Int) == 2)) (ev_pick_t rfl hg128 rfl) (by decide) ?_
                            exact sr_weaken (l' := [(15, v41), (106, .bool ((y37.1.length : Int) == 2))]) (.cons rfl (.cons rfl (.nil _))) (K129 ((y37.1.length : Int) == 2) _ ⟨by rw [hg128]; rfl, rfl⟩)
                          · refine sr_pass (e := 102) rfl rfl (by rw [hg128]; rfl) (by decide) ?_
                            refine sr_pass (e := 102) rfl rfl (by rw [hg128]; rfl) (by decide) ?_
                            refine sr_pass (e := 102) rfl rfl (by rw [hg128]; rfl) (by decide) ?_
                            refine sr_ev (v := .bool false) (ev_pick_f rfl hg128 rfl) (by decide) ?_
                            exact sr_weaken (l' := [(15, v41), (106, .bool false)]) (.cons rfl (.cons rfl (.nil _))) (K129 false _ ⟨by rw [hg128]; rfl, rfl⟩)
                      · intro K122
                        rcases Bool.eq_false_or_eq_true ((z94 && (y27.2 == 6)) && (y33.2 == 4)) with hg121 | hg121
                        · refine sr_evg (b := true) (e := 98) rfl rfl hg121 (v := .int .i64 y37.2) (ev_move rfl) (by decide) ?_
                          refine sr_evg (b := true) (e := 98) rfl rfl hg121 (v := .bool (y37.2 == 0)) (ev_eq rfl rfl) (by decide) ?_
                          refine sr_ev (v := .bool (y37.2 == 0)) (ev_pick_t rfl hg121 rfl) (by decide) ?_
                          exact sr_weaken (l' := [(15, v41), (101, .bool (y37.2 == 0))]) (.cons rfl (.cons rfl (.nil _))) (K122 (y37.2 == 0) _ ⟨by rw [hg121]; rfl, rfl⟩)
                        · refine sr_pass (e := 98) rfl rfl (by rw [hg121]; rfl) (by decide) ?_
                          refine sr_pass (e := 98) rfl rfl (by rw [hg121]; rfl) (by decide) ?_
                          refine sr_ev (v := .bool false) (ev_pick_f rfl hg121 rfl) (by decide) ?_
                          exact sr_weaken (l' := [(15, v41), (101, .bool false)]) (.cons rfl (.cons rfl (.nil _))) (K122 false _ ⟨by rw [hg121]; rfl, rfl⟩)
                    · intro K115
                      rcases Bool.eq_false_or_eq_true (z94 && (y27.2 == 6)) with hg114 | hg114
                      · refine sr_evg (b := true) (e := 94) rfl rfl hg114 (v := .int .i64 y33.2) (ev_move rfl) (by decide) ?_
                        refine sr_evg (b := true) (e := 94) rfl rfl hg114 (v := .bool (y33.2 == 4)) (ev_eq rfl rfl) (by decide) ?_
                        refine sr_ev (v := .bool (y33.2 == 4)) (ev_pick_t rfl hg114 rfl) (by decide) ?_
                        exact sr_weaken (l' := [(15, v41), (16, .int .i64 y37.2), (97, .bool (y33.2 == 4))]) (.cons rfl (.cons rfl (.cons rfl (.nil _)))) (K115 (y33.2 == 4) _ ⟨by rw [hg114]; rfl, rfl⟩)
                      · refine sr_pass (e := 94) rfl rfl (by rw [hg114]; rfl) (by decide) ?_
                        refine sr_pass (e := 94) rfl rfl (by rw [hg114]; rfl) (by decide) ?_
                        refine sr_ev (v := .bool false) (ev_pick_f rfl hg114 rfl) (by decide) ?_
                        exact sr_weaken (l' := [(15, v41), (16, .int .i64 y37.2), (97, .bool false)]) (.cons rfl (.cons rfl (.cons rfl (.nil _)))) (K115 false _ ⟨by rw [hg114]; rfl, rfl⟩)
                  · intro K108
                    rcases Bool.eq_false_or_eq_true z94 with hg107 | hg107
                    · refine sr_evg (b := true) (e := 90) rfl rfl hg107 (v := .int .i64 y27.2) (ev_move rfl) (by decide) ?_
                      refine sr_evg (b := true) (e := 90) rfl rfl hg107 (v := .bool (y27.2 == 6)) (ev_eq rfl rfl) (by decide) ?_
                      refine sr_ev (v := .bool (y27.2 == 6)) (ev_pick_t rfl hg107 rfl) (by decide) ?_
                      exact sr_weaken (l' := [(14, .int .i64 y33.2), (15, v41), (16, .int .i64 y37.2), (93, .bool (y27.2 == 6))]) (.cons rfl (.cons rfl (.cons rfl (.cons rfl (.nil _))))) (K108 (y27.2 == 6) _ ⟨by rw [hg107]; rfl, rfl⟩)
                    · refine sr_pass (e := 90) rfl rfl (by rw [hg107]; rfl) (by decide) ?_
                      refine sr_pass (e := 90) rfl rfl (by rw [hg107]; rfl) (by decide) ?_
                      refine sr_ev (v := .bool false) (ev_pick_f rfl hg107 rfl) (by decide) ?_
                      exact sr_weaken (l' := [(14, .int .i64 y33.2), (15, v41), (16, .int .i64 y37.2), (93, .bool false)]) (.cons rfl (.cons rfl (.cons rfl (.cons rfl (.nil _))))) (K108 false _ ⟨by rw [hg107]; rfl, rfl⟩)
                · intro K93
                  clear hS
                  have hj95 := Below.refl w39.heap.size w39
                  rcases Bool.eq_false_or_eq_true ((((((((y1.2 == 0) && ((y1.1.length : Int) == 6)) && (y5.2 == 0)) && (y5.1 == 7)) && (y9.2 == 11)) && (y13.2 == 0)) && (y13.1 == 7)) && (y21.2 == 0)) with hg92 | hg92
                  · have hS := ite_true' hz96 hg92
                    refine sr_evg (b := true) (e := 85) rfl rfl hg92 (v := v25) (ev_move rfl) (by decide) ?_
                    refine sr_unguard rfl rfl hg92 ?_
                    refine sr_lit (c := strC) (A := A0) (E := 9) (xs := [[98], [97]]) (vs := #[(0, str ([98])), (1, str ([97]))]) (cs := #[str ([98]), str ([97])]) (css := [[str ([98])], [str ([97])]]) rfl (fun _ => by kernel_rfl) rfl ⟨rfl, ⟨rfl, trivial⟩⟩ rfl (by decide) hA (by decide) ?_
                    intro v99 w101 h100 hbw102
                    replace hb := hb.trans (hbw102.mono hb.size)
                    replace hj95 := hj95.trans (hbw102.mono hj95.size)
                    replace hA := lt_mono hA hbw102.size
                    replace hH := hH.below hbw102
                    replace h42 := h42.below hbw102
                    replace h26 := h26.below hbw102
                    obtain ⟨y103, hy104, hS⟩ := bind_some' hS
                    refine sr_callg (b := true) (e := 85) rfl rfl hg92 (vs := [v25, v99]) rfl Tryd.call25 rfl (ref07_Lists_ok _ (hg.below hb) h26 h100 hy104) (by decide) ?_
                    rintro _ w105 ⟨rfl, hbw106⟩
                    replace hb := hb.trans (hbw106.mono hb.size)
                    replace hj95 := hj95.trans (hbw106.mono hj95.size)
                    replace hA := lt_mono hA hbw106.size
                    replace hH := hH.below hbw106
                    replace h42 := h42.below hbw106
                    refine sr_ev (v := .bool y103) (ev_pick_t rfl hg92 rfl) (by decide) ?_
                    exact sr_weaken (l' := [(12, .int .i64 y27.2), (14, .int .i64 y33.2), (15, v41), (16, .int .i64 y37.2), (89, .bool y103)]) (.cons rfl (.cons rfl (.cons rfl (.cons rfl (.cons rfl (.nil _)))))) (K93 y103 _ ⟨(Option.some.inj hS).symm, hj95⟩)
                  · have hS := ite_false' hz96 hg92
                    refine sr_pass (e := 85) rfl rfl (by rw [hg92]; rfl) (by decide) ?_
                    refine sr_pass (e := 85) rfl rfl (by rw [hg92]; rfl) (by decide) ?_
                    refine sr_pass (e := 85) rfl rfl (by rw [hg92]; rfl) (by decide) ?_
                    refine sr_ev (v := .bool false) (ev_pick_f rfl hg92 rfl) (by decide) ?_
                    exact sr_weaken (l' := [(12, .int .i64 y27.2), (14, .int .i64 y33.2), (15, v41), (16, .int .i64 y37.2), (89, .bool false)]) (.cons rfl (.cons rfl (.cons rfl (.cons rfl (.cons rfl (.nil _)))))) (K93 false _ ⟨(Option.some.inj hS).symm, hj95⟩)
              · intro K86
                rcases Bool.eq_false_or_eq_true (((((((y1.2 == 0) && ((y1.1.length : Int) == 6)) && (y5.2 == 0)) && (y5.1 == 7)) && (y9.2 == 11)) && (y13.2 == 0)) && (y13.1 == 7)) with hg85 | hg85
                · refine sr_evg (b := true) (e := 81) rfl rfl hg85 (v := .int .i64 y21.2) (ev_move rfl) (by decide) ?_
                  refine sr_evg (b := true) (e := 81) rfl rfl hg85 (v := .bool (y21.2 == 0)) (ev_eq rfl rfl) (by decide) ?_
                  refine sr_ev (v := .bool (y21.2 == 0)) (ev_pick_t rfl hg85 rfl) (by decide) ?_
                  exact sr_weaken (l' := [(9, v25), (12, .int .i64 y27.2), (14, .int .i64 y33.2), (15, v41), (16, .int .i64 y37.2), (84, .bool (y21.2 == 0))]) (.cons rfl (.cons rfl (.cons rfl (.cons rfl (.cons rfl (.cons rfl (.nil _))))))) (K86 (y21.2 == 0) _ ⟨by rw [hg85]; rfl, rfl⟩)
                · refine sr_pass (e := 81) rfl rfl (by rw [hg85]; rfl) (by decide) ?_
                  refine sr_pass (e := 81) rfl rfl (by rw [hg85]; rfl) (by decide) ?_
                  refine sr_ev (v := .bool false) (ev_pick_f rfl hg85 rfl) (by decide) ?_
                  exact sr_weaken (l' := [(9, v25), (12, .int .i64 y27.2), (14, .int .i64 y33.2), (15, v41), (16, .int .i64 y37.2), (84, .bool false)]) (.cons rfl (.cons rfl (.cons rfl (.cons rfl (.cons rfl (.cons rfl (.nil _))))))) (K86 false _ ⟨by rw [hg85]; rfl, rfl⟩)
            · intro K79
              rcases Bool.eq_false_or_eq_true ((((((y1.2 == 0) && ((y1.1.length : Int) == 6)) && (y5.2 == 0)) && (y5.1 == 7)) && (y9.2 == 11)) && (y13.2 == 0)) with hg78 | hg78
              · refine sr_evg (b := true) (e := 77) rfl rfl hg78 (v := .int .i64 y13.1) (ev_move rfl) (by decide) ?_
                refine sr_evg (b := true) (e := 77) rfl rfl hg78 (v := .bool (y13.1 == 7)) (ev_eq rfl rfl) (by decide) ?_
                refine sr_ev (v := .bool (y13.1 == 7)) (ev_pick_t rfl hg78 rfl) (by decide) ?_
                exact sr_weaken (l' := [(9, v25), (10, .int .i64 y21.2), (12, .int .i64 y27.2), (14, .int .i64 y33.2), (15, v41), (16, .int .i64 y37.2), (80, .bool (y13.1 == 7))]) (.cons rfl (.cons rfl (.cons rfl (.cons rfl (.cons rfl (.cons rfl (.cons rfl (.nil _)))))))) (K79 (y13.1 == 7) _ ⟨by rw [hg78]; rfl, rfl⟩)
              · refine sr_pass (e := 77) rfl rfl (by rw [hg78]; rfl) (by decide) ?_
                refine sr_pass (e := 77) rfl rfl (by rw [hg78]; rfl) (by decide) ?_
                refine sr_ev (v := .bool false) (ev_pick_f rfl hg78 rfl) (by decide) ?_
                exact sr_weaken (l' := [(9, v25), (10, .int .i64 y21.2), (12, .int .i64 y27.2), (14, .int .i64 y33.2), (15, v41), (16, .int .i64 y37.2), (80, .bool false)]) (.cons rfl (.cons rfl (.cons rfl (.cons rfl (.cons rfl (.cons rfl (.cons rfl (.nil _)))))))) (K79 false _ ⟨by rw [hg78]; rfl, rfl⟩)
          · intro K72
            rcases Bool.eq_false_or_eq_true (((((y1.2 == 0) && ((y1.1.length : Int) == 6)) && (y5.2 == 0)) && (y5.1 == 7)) && (y9.2 == 11)) with hg71 | hg71
            · refine sr_evg (b := true) (e := 73) rfl rfl hg71 (v := .int .i64 y13.2) (ev_move rfl) (by decide) ?_
              refine sr_evg (b := true) (e := 73) rfl rfl hg71 (v := .bool (y13.2 == 0)) (ev_eq rfl rfl) (by decide) ?_
              refine sr_ev (v := .bool (y13.2 == 0)) (ev_pick_t rfl hg71 rfl) (by decide) ?_
              exact sr_weaken (l' := [(7, .int .i64 y13.1), (9, v25), (10, .int .i64 y21.2), (12, .int .i64 y27.2), (14, .int .i64 y33.2), (15, v41), (16, .int .i64 y37.2), (76, .bool (y13.2 == 0))]) (.cons rfl (.cons rfl (.cons rfl (.cons rfl (.cons rfl (.cons rfl (.cons rfl (.cons rfl (.nil _))))))))) (K72 (y13.2 == 0) _ ⟨by rw [hg71]; rfl, rfl⟩)
            · refine sr_pass (e := 73) rfl rfl (by rw [hg71]; rfl) (by decide) ?_
              refine sr_pass (e := 73) rfl rfl (by rw [hg71]; rfl) (by decide) ?_
              refine sr_ev (v := .bool false) (ev_pick_f rfl hg71 rfl) (by decide) ?_
              exact sr_weaken (l' := [(7, .int .i64 y13.1), (9, v25), (10, .int .i64 y21.2), (12, .int .i64 y27.2), (14, .int .i64 y33.2), (15, v41), (16, .int .i64 y37.2), (76, .bool false)]) (.cons rfl (.cons rfl (.cons rfl (.cons rfl (.cons rfl (.cons rfl (.cons rfl (.cons rfl (.nil _))))))))) (K72 false _ ⟨by rw [hg71]; rfl, rfl⟩)
        · intro K65
          rcases Bool.eq_false_or_eq_true ((((y1.2 == 0) && ((y1.1.length : Int) == 6)) && (y5.2 == 0)) && (y5.1 == 7)) with hg64 | hg64
          · refine sr_evg (b := true) (e := 69) rfl rfl hg64 (v := .int .i64 y9.2) (ev_move rfl) (by decide) ?_
            refine sr_evg (b := true) (e := 69) rfl rfl hg64 (v := .bool (y9.2 == 11)) (ev_eq rfl rfl) (by decide) ?_
            refine sr_ev (v := .bool (y9.2 == 11)) (ev_pick_t rfl hg64 rfl) (by decide) ?_
            exact sr_weaken (l' := [(7, .int .i64 y13.1), (8, .int .i64 y13.2), (9, v25), (10, .int .i64 y21.2), (12, .int .i64 y27.2), (14, .int .i64 y33.2), (15, v41), (16, .int .i64 y37.2), (72, .bool (y9.2 == 11))]) (.cons rfl (.cons rfl (.cons rfl (.cons rfl (.cons rfl (.cons rfl (.cons rfl (.cons rfl (.cons rfl (.nil _)))))))))) (K65 (y9.2 == 11) _ ⟨by rw [hg64]; rfl, rfl⟩)
          · refine sr_pass (e := 69) rfl rfl (by rw [hg64]; rfl) (by decide) ?_
            refine sr_pass (e := 69) rfl rfl (by rw [hg64]; rfl) (by decide) ?_
            refine sr_ev (v := .bool false) (ev_pick_f rfl hg64 rfl) (by decide) ?_
            exact sr_weaken (l' := [(7, .int .i64 y13.1), (8, .int .i64 y13.2), (9, v25), (10, .int .i64 y21.2), (12, .int .i64 y27.2), (14, .int .i64 y33.2), (15, v41), (16, .int .i64 y37.2), (72, .bool false)]) (.cons rfl (.cons rfl (.cons rfl (.cons rfl (.cons rfl (.cons rfl (.cons rfl (.cons rfl (.cons rfl (.nil _)))))))))) (K65 false _ ⟨by rw [hg64]; rfl, rfl⟩)
      · intro K58
        rcases Bool.eq_false_or_eq_true (((y1.2 == 0) && ((y1.1.length : Int) == 6)) && (y5.2 == 0)) with hg57 | hg57
        · refine sr_evg (b := true) (e := 65) rfl rfl hg57 (v := .int .i64 y5.1) (ev_move rfl) (by decide) ?_
          refine sr_evg (b := true) (e := 65) rfl rfl hg57 (v := .bool (y5.1 == 7)) (ev_eq rfl rfl) (by decide) ?_
          refine sr_ev (v := .bool (y5.1 == 7)) (ev_pick_t rfl hg57 rfl) (by decide) ?_
          exact sr_weaken (l' := [(6, .int .i64 y9.2), (7, .int .i64 y13.1), (8, .int .i64 y13.2), (9, v25), (10, .int .i64 y21.2), (12, .int .i64 y27.2), (14, .int .i64 y33.2), (15, v41), (16, .int .i64 y37.2), (68, .bool (y5.1 == 7))]) (.cons rfl (.cons rfl (.cons rfl (.cons rfl (.cons rfl (.cons rfl (.cons rfl (.cons rfl (.cons rfl (.cons rfl (.nil _))))))))))) (K58 (y5.1 == 7) _ ⟨by rw [hg57]; rfl, rfl⟩)
        · refine sr_pass (e := 65) rfl rfl (by rw [hg57]; rfl) (by decide) ?_
          refine sr_pass (e := 65) rfl rfl (by rw [hg57]; rfl) (by decide) ?_
          refine sr_ev (v := .bool false) (ev_pick_f rfl hg57 rfl) (by decide) ?_
          exact sr_weaken (l' := [(6, .int .i64 y9.2), (7, .int .i64 y13.1), (8, .int .i64 y13.2), (9, v25), (10, .int .i64 y21.2), (12, .int .i64 y27.2), (14, .int .i64 y33.2), (15, v41), (16, .int .i64 y37.2), (68, .bool false)]) (.cons rfl (.cons rfl (.cons rfl (.cons rfl (.cons rfl (.cons rfl (.cons rfl (.cons rfl (.cons rfl (.cons rfl (.nil _))))))))))) (K58 false _ ⟨by rw [hg57]; rfl, rfl⟩)
    · intro K51
      rcases Bool.eq_false_or_eq_true ((y1.2 == 0) && ((y1.1.length : Int) == 6)) with hg50 | hg50
      · refine sr_evg (b := true) (e := 61) rfl rfl hg50 (v := .int .i64 y5.2) (ev_move rfl) (by decide) ?_
        refine sr_evg (b := true) (e := 61) rfl rfl hg50 (v := .bool (y5.2 == 0)) (ev_eq rfl rfl) (by decide) ?_
        refine sr_ev (v := .bool (y5.2 == 0)) (ev_pick_t rfl hg50 rfl) (by decide) ?_
        exact sr_weaken (l' := [(3, .int .i64 y5.1), (6, .int .i64 y9.2), (7, .int .i64 y13.1), (8, .int .i64 y13.2), (9, v25), (10, .int .i64 y21.2), (12, .int .i64 y27.2), (14, .int .i64 y33.2), (15, v41), (16, .int .i64 y37.2), (64, .bool (y5.2 == 0))]) (.cons rfl (.cons rfl (.cons rfl (.cons rfl (.cons rfl (.cons rfl (.cons rfl (.cons rfl (.cons rfl (.cons rfl (.cons rfl (.nil _)))))))))))) (K51 (y5.2 == 0) _ ⟨by rw [hg50]; rfl, rfl⟩)
      · refine sr_pass (e := 61) rfl rfl (by rw [hg50]; rfl) (by decide) ?_
        refine sr_pass (e := 61) rfl rfl (by rw [hg50]; rfl) (by decide) ?_
        refine sr_ev (v := .bool false) (ev_pick_f rfl hg50 rfl) (by decide) ?_
        exact sr_weaken (l' := [(3, .int .i64 y5.1), (6, .int .i64 y9.2), (7, .int .i64 y13.1), (8, .int .i64 y13.2), (9, v25), (10, .int .i64 y21.2), (12, .int .i64 y27.2), (14, .int .i64 y33.2), (15, v41), (16, .int .i64 y37.2), (64, .bool false)]) (.cons rfl (.cons rfl (.cons rfl (.cons rfl (.cons rfl (.cons rfl (.cons rfl (.cons rfl (.cons rfl (.cons rfl (.cons rfl (.nil _)))))))))))) (K51 false _ ⟨by rw [hg50]; rfl, rfl⟩)
  · intro K44
    rcases Bool.eq_false_or_eq_true (y1.2 == 0) with hg43 | hg43
    · refine sr_evg (b := true) (e := 56) rfl rfl hg43 (v := str y1.1) (ev_move rfl) (by decide) ?_
      refine sr_evg (b := true) (e := 56) rfl rfl hg43 (v := .int .i64 (y1.1.length : Int)) (ev_slen Tryd.underlying9 rfl) (by decide) ?_
      refine sr_evg (b := true) (e := 56) rfl rfl hg43 (v := .bool ((y1.1.length : Int) == 6)) (ev_eq rfl rfl) (by decide) ?_
      refine sr_ev (v := .bool ((y1.1.length : Int) == 6)) (ev_pick_t rfl hg43 rfl) (by decide) ?_
      exact sr_weaken (l' := [(3, .int .i64 y5.1), (4, .int .i64 y5.2), (6, .int .i64 y9.2), (7, .int .i64 y13.1), (8, .int .i64 y13.2), (9, v25), (10, .int .i64 y21.2), (12, .int .i64 y27.2), (14, .int .i64 y33.2), (15, v41), (16, .int .i64 y37.2), (60, .bool ((y1.1.length : Int) == 6))]) (.cons rfl (.cons rfl (.cons rfl (.cons rfl (.cons rfl (.cons rfl (.cons rfl (.cons rfl (.cons rfl (.cons rfl (.cons rfl (.cons rfl (.nil _))))))))))))) (K44 ((y1.1.length : Int) == 6) _ ⟨by rw [hg43]; rfl, rfl⟩)
    · refine sr_pass (e := 56) rfl rfl (by rw [hg43]; rfl) (by decide) ?_
      refine sr_pass (e := 56) rfl rfl (by rw [hg43]; rfl) (by decide) ?_
      refine sr_pass (e := 56) rfl rfl (by rw [hg43]; rfl) (by decide) ?_
      refine sr_ev (v := .bool false) (ev_pick_f rfl hg43 rfl) (by decide) ?_
      exact sr_weaken (l' := [(3, .int .i64 y5.1), (4, .int .i64 y5.2), (6, .int .i64 y9.2), (7, .int .i64 y13.1), (8, .int .i64 y13.2), (9, v25), (10, .int .i64 y21.2), (12, .int .i64 y27.2), (14, .int .i64 y33.2), (15, v41), (16, .int .i64 y37.2), (60, .bool false)]) (.cons rfl (.cons rfl (.cons rfl (.cons rfl (.cons rfl (.cons rfl (.cons rfl (.cons rfl (.cons rfl (.cons rfl (.cons rfl (.cons rfl (.nil _))))))))))))) (K44 false _ ⟨by rw [hg43]; rfl, rfl⟩)
theorem ref01_Clean_L1_ok {w0 : World} (hg : Gs w0) : ∀ (n : Nat), ∀ {r : Bool} {s_0 : Str} {i_3 : Int}, ref01_Clean_L1 n s_0 i_3 = some r → ∀ {w : World}, (Below w0.heap.size w0 w) → KE Tryd.prog 31 (Ret (fun v w' => v = .bool r ∧ Below w0.heap.size w0 w')) 41 [.code (sub (bodyOf Tryd.f31) [2, 2, 1, 2, 2, 1]), .inLoop (sub (bodyOf Tryd.f31) [2, 2, 1, 2, 2, 1]), .inBlock 0, .code (sub (bodyOf Tryd.f31) [2, 2, 2])] [(0, str s_0), (3, .int .i64 i_3)] w := by
  intro n
  induction n with
  | zero => intro r s_0 i_3 hS; cases hS
  | succ n ih =>
    have hr0 : ∀ {r : Bool} {s_0 : Str} {i_3 : Int}, ref01_Clean_L1 n s_0 i_3 = some r → ∀ {w : World}, (Below w0.heap.size w0 w) → KE Tryd.prog 31 (Ret (fun v w' => v = .bool r ∧ Below w0.heap.size w0 w')) 41 [.inLoop (sub (bodyOf Tryd.f31) [2, 2, 1, 2, 2, 1]), .inBlock 0, .code (sub (bodyOf Tryd.f31) [2, 2, 2])] [(0, str s_0), (3, .int .i64 i_3)] w := fun {r} {s_0} {i_3} hS {w} hb => ke_inLoop (ih hS hb)
    clear ih
    intro r s_0 i_3 hS w hb
    unfold ref01_Clean_L1 at hS
    refine ke_seq ?_
    refine ke_seq ?_
    refine ke_region ?_
    refine sr_ev (v := .int .i64 i_3) (ev_move rfl) (by decide) ?_
    refine sr_ev (v := str s_0) (ev_move rfl) (by decide) ?_
    refine sr_ev (v := .int .i64 (s_0.length : Int)) (ev_slen Tryd.underlying9 rfl) (by decide) ?_
    refine sr_ev (v := .bool (decide (i_3 < (s_0.length : Int)))) (ev_lt rfl rfl) (by decide) ?_
    refine sr_end (l' := [(0, str s_0), (3, .int .i64 i_3), (28, .bool (decide (i_3 < (s_0.length : Int))))]) (.cons rfl (.cons rfl (.cons rfl (.nil _)))) ?_
    refine ke_cond (t := decide (i_3 < (s_0.length : Int))) rfl (fun hc25 => ?_) (fun hc25 => ?_)
    · replace hS := ite_true' hS hc25
      refine ke_skip ?_
      refine ke_seq ?_
      refine ke_block ?_
      refine ke_seq ?_
      refine ke_region ?_
      refine sr_ev (v := str s_0) (ev_move rfl) (by decide) ?_
      refine sr_ev (v := .int .i64 i_3) (ev_move rfl) (by decide) ?_
      obtain ⟨hk26, hS⟩ := chk_some hS
      refine sr_ev (v := .int .u8 (byteAt s_0 i_3)) (ev_sindex Tryd.underlying9 rfl rfl hk26) (by decide) ?_
      refine sr_ev (v := .bool (decide ((byteAt s_0 i_3) < 32))) (ev_lt rfl rfl) (by decide) ?_
      refine sr_ev (v := .bool (decide ((byteAt s_0 i_3) < 32))) (ev_move rfl) (by decide) ?_
      obtain ⟨z29, hz31, hS⟩ := bind_some' hS
      refine sr_join (m := 5) (C := fun (x : Bool) w1 => z29 = x ∧ Below w.heap.size w w1) (l' := fun x => [(0, str s_0), (3, .int .i64 i_3), (40, .bool x)]) ?_ ?_
      · rintro _ w32 ⟨rfl, hbw33⟩
        replace hb := hb.trans (hbw33.mono hb.size)
        refine sr_end (l' := [(0, str s_0), (3, .int .i64 i_3), (40, .bool z29)]) (.cons rfl (.cons rfl (.cons rfl (.nil _)))) ?_
        refine ke_cond (t := z29) rfl (fun hc35 => ?_) (fun hc35 => ?_)
        · replace hS := ite_true' hS hc35
          refine ke_seq ?_
          refine ke_region ?_
          refine sr_ev (v := .bool false) (ev_assign rfl) (by decide) ?_
          refine sr_end (l' := [(2, .bool false)]) (.cons rfl (.nil _)) ?_
          cases hS
          exact ke_ret1 Tryd.func31 rfl rfl ⟨_, rfl, rfl, hb⟩
        · replace hS := ite_false' hS hc35
          refine ke_skip ?_
          refine ke_inBlock ?_
          refine ke_region ?_
          refine sr_ev (v := .int .i64 i_3) (ev_move rfl) (by decide) ?_
          refine sr_ev (v := .int .i64 (IntKind.i64.wrap (i_3 + 1))) (ev_add rfl rfl) (by decide) ?_
          refine sr_ev (v := .int .i64 (IntKind.i64.wrap (i_3 + 1))) (ev_assign rfl) (by decide) ?_
          refine sr_end (l' := [(0, str s_0), (3, .int .i64 (IntKind.i64.wrap (i_3 + 1)))]) (.cons rfl (.cons rfl (.nil _))) ?_
          have hK := hr0 hS hb
          exact ke_weaken (l' := [(0, str s_0), (3, .int .i64 (IntKind.i64.wrap (i_3 + 1)))]) (.cons rfl (.cons rfl (.nil _))) hK
      · intro K28
        clear hS
        have hj30 := Below.refl w.heap.size w
        rcases Bool.eq_false_or_eq_true (decide ((byteAt s_0 i_3) < 32)) with hg27 | hg27
        · have hS := ite_true' hz31 hg27
          refine sr_pass (e := 35) rfl rfl (by rw [hg27]; rfl) (by decide) ?_
          refine sr_pass (e := 35) rfl rfl (by rw [hg27]; rfl) (by decide) ?_
          refine sr_pass (e := 35) rfl rfl (by rw [hg27]; rfl) (by decide) ?_
          refine sr_pass (e := 35) rfl rfl (by rw [hg27]; rfl) (by decide) ?_
          refine sr_ev (v := .bool true) (ev_pick_t rfl hg27 rfl) (by decide) ?_
          exact sr_weaken (l' := [(0, str s_0), (3, .int .i64 i_3), (40, .bool true)]) (.cons rfl (.cons rfl (.cons rfl (.nil _)))) (K28 true _ ⟨(Option.some.inj hS).symm, hj30⟩)
        · have hS := ite_false' hz31 hg27
          refine sr_evg (b := false) (e := 35) rfl rfl hg27 (v := str s_0) (ev_move rfl) (by decide) ?_
          refine sr_evg (b := false) (e := 35) rfl rfl hg27 (v := .int .i64 i_3) (ev_move rfl) (by decide) ?_
          obtain ⟨hk34, hS⟩ := chk_some hS
          refine sr_evg (b := false) (e := 35) rfl rfl hg27 (v := .int .u8 (byteAt s_0 i_3)) (ev_sindex Tryd.underlying9 rfl rfl hk34) (by decide) ?_
          refine sr_evg (b := false) (e := 35) rfl rfl hg27 (v := .bool (decide ((byteAt s_0 i_3) > 126))) (ev_gt rfl rfl) (by decide) ?_
          refine sr_ev (v := .bool (decide ((byteAt s_0 i_3) > 126))) (ev_pick_f rfl hg27 rfl) (by decide) ?_
          exact sr_weaken (l' := [(0, str s_0), (3, .int .i64 i_3), (40, .bool (decide ((byteAt s_0 i_3) > 126)))]) (.cons rfl (.cons rfl (.cons rfl (.nil _)))) (K28 (decide ((byteAt s_0 i_3) > 126)) _ ⟨(Option.some.inj hS).symm, hj30⟩)
    · replace hS := ite_false' hS hc25
      refine ke_exit (k' := _) rfl ?_
      refine ke_seq ?_
      refine ke_region ?_
      refine sr_ev (v := .bool true) (ev_assign rfl) (by decide) ?_
      refine sr_end (l' := [(2, .bool true)]) (.cons rfl (.nil _)) ?_
      cases hS
      exact ke_ret1 Tryd.func31 rfl rfl ⟨_, rfl, rfl, hb⟩
theorem ref01_Clean_ok (w0 : World) (hg : Gs w0) {s_0 : Str} {r : Bool} (hS : ref01_Clean s_0 = some r) :
    Calls Tryd.prog 31 #[str s_0] w0 (Ret (fun v w' => v = .bool r ∧ Below w0.heap.size w0 w')) := by
  unfold ref01_Clean at hS
  have hb := Below.refl w0.heap.size w0
  refine calls_of_ke Tryd.func31 rfl (n := 41) rfl rfl (l := [(0, str s_0)]) rfl ?_
  refine ke_seq ?_
  refine ke_region ?_
  refine sr_ev (v := .bool false) (ev_assign rfl) (by decide) ?_
  refine sr_end (l' := [(0, str s_0)]) (.cons rfl (.nil _)) ?_
  refine ke_seq ?_
  refine ke_seq ?_
  refine ke_region ?_
  refine sr_ev (v := str s_0) (ev_move rfl) (by decide) ?_
  refine sr_ev (v := .int .i64 (s_0.length : Int)) (ev_slen Tryd.underlying9 rfl) (by decide) ?_
  refine sr_ev (v := .bool (decide ((s_0.length : Int) < 1))) (ev_lt rfl rfl) (by decide) ?_
  refine sr_ev (v := .bool (decide ((s_0.length : Int) < 1))) (ev_move rfl) (by decide) ?_
  refine sr_join (m := 4) (C := fun (x : Bool) w1 => x = ((decide ((s_0.length : Int) < 1)) || (decide ((s_0.length : Int) > 256))) ∧ w0 = w1) (l' := fun x => [(0, str s_0), (11, .bool x)]) ?_ ?_
  · rintro _ _ ⟨rfl, rfl⟩
    refine sr_ev (v := .bool ((decide ((s_0.length : Int) < 1)) || (decide ((s_0.length : Int) > 256)))) (ev_move rfl) (by decide) ?_
    obtain ⟨z10, hz12, hS⟩ := bind_some' hS
    refine sr_join (m := 4) (C := fun (x : Bool) w1 => z10 = x ∧ Below w0.heap.size w0 w1) (l' := fun x => [(0, str s_0), (16, .bool x)]) ?_ ?_
    · rintro _ w13 ⟨rfl, hbw14⟩
      replace hb := hb.trans (hbw14.mono hb.size)
      refine sr_ev (v := .bool z10) (ev_move rfl) (by decide) ?_
      obtain ⟨z18, hz20, hS⟩ := bind_some' hS
      refine sr_join (m := 7) (C := fun (x : Bool) w1 => z18 = x ∧ Below w13.heap.size w13 w1) (l' := fun x => [(0, str s_0), (24, .bool x)]) ?_ ?_
      · rintro _ w21 ⟨rfl, hbw22⟩
        replace hb := hb.trans (hbw22.mono hb.size)
        refine sr_end (l' := [(0, str s_0), (24, .bool z18)]) (.cons rfl (.cons rfl (.nil _))) ?_
        refine ke_cond (t := z18) rfl (fun hc24 => ?_) (fun hc24 => ?_)
        · replace hS := ite_true' hS hc24
          refine ke_seq ?_
          refine ke_region ?_
          refine sr_ev (v := .bool false) (ev_assign rfl) (by decide) ?_
          refine sr_end (l' := [(2, .bool false)]) (.cons rfl (.nil _)) ?_
          cases hS
          exact ke_ret1 Tryd.func31 rfl rfl ⟨_, rfl, rfl, hb⟩
        · replace hS := ite_false' hS hc24
          refine ke_skip ?_
          refine ke_seq ?_
          refine ke_seq ?_
          refine ke_region ?_
          refine sr_ev (v := .int .i64 0) (ev_assign rfl) (by decide) ?_
          refine sr_end (l' := [(0, str s_0), (3, .int .i64 0)]) (.cons rfl (.cons rfl (.nil _))) ?_
          refine ke_block ?_
          have hK := ref01_Clean_L1_ok hg _ hS hb
          exact ke_weaken (l' := [(0, str s_0), (3, .int .i64 0)]) (.cons rfl (.cons rfl (.nil _))) (ke_loop hK)
      · intro K17
        clear hS
        have hj19 := Below.refl w13.heap.size w13
        rcases Bool.eq_false_or_eq_true z10 with hg16 | hg16
        · have hS := ite_true' hz20 hg16
          refine sr_pass (e := 17) rfl rfl (by rw [hg16]; rfl) (by decide) ?_
          refine sr_pass (e := 17) rfl rfl (by rw [hg16]; rfl) (by decide) ?_
          refine sr_pass (e := 17) rfl rfl (by rw [hg16]; rfl) (by decide) ?_
          refine sr_pass (e := 17) rfl rfl (by rw [hg16]; rfl) (by decide) ?_
          refine sr_pass (e := 17) rfl rfl (by rw [hg16]; rfl) (by decide) ?_
          refine sr_pass (e := 17) rfl rfl (by rw [hg16]; rfl) (by decide) ?_
          refine sr_ev (v := .bool true) (ev_pick_t rfl hg16 rfl) (by decide) ?_
          exact sr_weaken (l' := [(0, str s_0), (24, .bool true)]) (.cons rfl (.cons rfl (.nil _))) (K17 true _ ⟨(Option.some.inj hS).symm, hj19⟩)
        · have hS := ite_false' hz20 hg16
          refine sr_evg (b := false) (e := 17) rfl rfl hg16 (v := str s_0) (ev_move rfl) (by decide) ?_
          refine sr_evg (b := false) (e := 17) rfl rfl hg16 (v := str s_0) (ev_move rfl) (by decide) ?_
          refine sr_evg (b := false) (e := 17) rfl rfl hg16 (v := .int .i64 (s_0.length : Int)) (ev_slen Tryd.underlying9 rfl) (by decide) ?_
          refine sr_evg (b := false) (e := 17) rfl rfl hg16 (v := .int .i64 (IntKind.i64.wrap ((s_0.length : Int) - 1))) (ev_sub rfl rfl) (by decide) ?_
          obtain ⟨hk23, hS⟩ := chk_some hS
          refine sr_evg (b := false) (e := 17) rfl rfl hg16 (v := .int .u8 (byteAt s_0 (IntKind.i64.wrap ((s_0.length : Int) - 1)))) (ev_sindex Tryd.underlying9 rfl rfl hk23) (by decide) ?_
          refine sr_evg (b := false) (e := 17) rfl rfl hg16 (v := .bool ((byteAt s_0 (IntKind.i64.wrap ((s_0.length : Int) - 1))) == 32)) (ev_eq rfl rfl) (by decide) ?_
          refine sr_ev (v := .bool ((byteAt s_0 (IntKind.i64.wrap ((s_0.length : Int) - 1))) == 32)) (ev_pick_f rfl hg16 rfl) (by decide) ?_
          exact sr_weaken (l' := [(0, str s_0), (24, .bool ((byteAt s_0 (IntKind.i64.wrap ((s_0.length : Int) - 1))) == 32))]) (.cons rfl (.cons rfl (.nil _))) (K17 ((byteAt s_0 (IntKind.i64.wrap ((s_0.length : Int) - 1))) == 32) _ ⟨(Option.some.inj hS).symm, hj19⟩)
    · intro K9
      clear hS
      have hj11 := Below.refl w0.heap.size w0
      rcases Bool.eq_false_or_eq_true ((decide ((s_0.length : Int) < 1)) || (decide ((s_0.length : Int) > 256))) with hg8 | hg8
      · have hS := ite_true' hz12 hg8
        refine sr_pass (e := 12) rfl rfl (by rw [hg8]; rfl) (by decide) ?_
        refine sr_pass (e := 12) rfl rfl (by rw [hg8]; rfl) (by decide) ?_
        refine sr_pass (e := 12) rfl rfl (by rw [hg8]; rfl) (by decide) ?_
        refine sr_ev (v := .bool true) (ev_pick_t rfl hg8 rfl) (by decide) ?_
        exact sr_weaken (l' := [(0, str s_0), (16, .bool true)]) (.cons rfl (.cons rfl (.nil _))) (K9 true _ ⟨(Option.some.inj hS).symm, hj11⟩)
      · have hS := ite_false' hz12 hg8
        refine sr_evg (b := false) (e := 12) rfl rfl hg8 (v := str s_0) (ev_move rfl) (by decide) ?_
        obtain ⟨hk15, hS⟩ := chk_some hS
        refine sr_evg (b := false) (e := 12) rfl rfl hg8 (v := .int .u8 (byteAt s_0 0)) (ev_sindex Tryd.underlying9 rfl rfl hk15) (by decide) ?_
        refine sr_evg (b := false) (e := 12) rfl rfl hg8 (v := .bool ((byteAt s_0 0) == 32)) (ev_eq rfl rfl) (by decide) ?_
        refine sr_ev (v := .bool ((byteAt s_0 0) == 32)) (ev_pick_f rfl hg8 rfl) (by decide) ?_
        exact sr_weaken (l' := [(0, str s_0), (16, .bool ((byteAt s_0 0) == 32))]) (.cons rfl (.cons rfl (.nil _))) (K9 ((byteAt s_0 0) == 32) _ ⟨(Option.some.inj hS).symm, hj11⟩)
  · intro K2
    rcases Bool.eq_false_or_eq_true (decide ((s_0.length : Int) < 1)) with hg1 | hg1
    · refine sr_pass (e := 7) rfl rfl (by rw [hg1]; rfl) (by decide) ?_
      refine sr_pass (e := 7) rfl rfl (by rw [hg1]; rfl) (by decide) ?_
      refine sr_pass (e := 7) rfl rfl (by rw [hg1]; rfl) (by decide) ?_
      refine sr_ev (v := .bool true) (ev_pick_t rfl hg1 rfl) (by decide) ?_
      exact sr_weaken (l' := [(0, str s_0), (11, .bool true)]) (.cons rfl (.cons rfl (.nil _))) (K2 true _ ⟨by rw [hg1]; rfl, rfl⟩)
    · refine sr_evg (b := false) (e := 7) rfl rfl hg1 (v := str s_0) (ev_move rfl) (by decide) ?_
      refine sr_evg (b := false) (e := 7) rfl rfl hg1 (v := .int .i64 (s_0.length : Int)) (ev_slen Tryd.underlying9 rfl) (by decide) ?_
      refine sr_evg (b := false) (e := 7) rfl rfl hg1 (v := .bool (decide ((s_0.length : Int) > 256))) (ev_gt rfl rfl) (by decide) ?_
      refine sr_ev (v := .bool (decide ((s_0.length : Int) > 256))) (ev_pick_f rfl hg1 rfl) (by decide) ?_
      exact sr_weaken (l' := [(0, str s_0), (11, .bool (decide ((s_0.length : Int) > 256)))]) (.cons rfl (.cons rfl (.nil _))) (K2 (decide ((s_0.length : Int) > 256)) _ ⟨by rw [hg1]; rfl, rfl⟩)
theorem ref02_Int_B2_ok {w0 : World} (hg : Gs w0) {A0 : Nat → Prop} (hA0 : ∀ b, A0 b → b < w0.heap.size) (r0 : Int → Str → Int → Option (Str))
    (hr0 : ∀ {r : Str} {n_0 : Int} {out_3 : Str} {m_4 : Int}, r0 n_0 out_3 m_4 = some r → ∀ {w : World} {A : Nat → Prop}, (Below w0.heap.size w0 w) → (∀ b, A b → b < w.heap.size) → (∀ b, A0 b → A b) → (Hp A w0.heap.size w []) → KE Tryd.prog 35 (Ret (fun v w' => v = str r ∧ Below w0.heap.size w0 w')) 31 [.inLoop (sub (bodyOf Tryd.f35) [2, 2, 2, 1, 2, 2, 1]), .inBlock 0, .code (sub (bodyOf Tryd.f35) [2, 2, 2, 2])] [(0, .int .i64 n_0), (3, str out_3), (4, .int .i64 m_4)] w) {r : Str} {n_0 : Int} {out_3 : Str} {m_4 : Int} {d_5 : Int} (hS : ref02_Int_B2 r0 n_0 out_3 m_4 d_5 = some r) {w : World} {A : Nat → Prop} (hb : Below w0.heap.size w0 w) (hA : ∀ b, A b → b < w.heap.size) (hi : ∀ b, A0 b → A b) (hH : Hp A w0.heap.size w []) :
    KE Tryd.prog 35 (Ret (fun v w' => v = str r ∧ Below w0.heap.size w0 w')) 31 [.code (sub (bodyOf Tryd.f35) [2, 2, 2, 1, 2, 2, 1, 2, 1, 2, 2, 2]), .inBlock 1, .code (sub (bodyOf Tryd.f35) [2, 2, 2, 1, 2, 2, 1, 2, 2]), .inLoop (sub (bodyOf Tryd.f35) [2, 2, 2, 1, 2, 2, 1]), .inBlock 0, .code (sub (bodyOf Tryd.f35) [2, 2, 2, 2])] [(0, .int .i64 n_0), (3, str out_3), (4, .int .i64 m_4), (5, .int .i64 d_5)] w := by
  unfold ref02_Int_B2 at hS
  refine ke_region ?_
  refine sr_ev (v := .int .i64 d_5) (ev_move rfl) (by decide) ?_
  refine sr_ev (v := .int .i64 (IntKind.i64.wrap (48 + d_5))) (ev_add rfl rfl) (by decide) ?_
  refine sr_ev (v := .int .u8 (IntKind.u8.wrap (IntKind.i64.wrap (48 + d_5)))) (ev_conv Tryd.underlying5 Tryd.underlying3 rfl) (by decide) ?_
  refine sr_lit (c := (intC .u8)) (A := A) (E := 5) (xs := [IntKind.u8.wrap (IntKind.i64.wrap (48 + d_5))]) (vs := #[(0, .int .u8 (IntKind.u8.wrap (IntKind.i64.wrap (48 + d_5))))]) (cs := #[.int .u8 (IntKind.u8.wrap (IntKind.i64.wrap (48 + d_5)))]) (css := [[.int .u8 (IntKind.u8.wrap (IntKind.i64.wrap (48 + d_5)))]]) rfl (fun _ => by kernel_rfl) rfl ⟨rfl, trivial⟩ rfl (by decide) hA (by decide) ?_
  intro v4 w6 h5 hbw7
  replace hb := hb.trans (hbw7.mono hb.size)
  replace hA := lt_mono hA hbw7.size
  replace hH := hH.below hbw7
  refine sr_ev (v := str (bytesStr ([IntKind.u8.wrap (IntKind.i64.wrap (48 + d_5))] : List Int))) (ev_b2s h5 Tryd.underlying56 Tryd.underlying5 Tryd.underlying9 rfl) (by decide) ?_
  refine sr_ev (v := str out_3) (ev_move rfl) (by decide) ?_
  obtain ⟨hk8, hS⟩ := chk_some hS
  refine sr_ev (v := str ((bytesStr ([IntKind.u8.wrap (IntKind.i64.wrap (48 + d_5))] : List Int)) ++ out_3)) (ev_cat rfl rfl hk8) (by decide) ?_
  refine sr_ev (v := str ((bytesStr ([IntKind.u8.wrap (IntKind.i64.wrap (48 + d_5))] : List Int)) ++ out_3)) (ev_assign rfl) (by decide) ?_
  refine sr_end (l' := [(0, .int .i64 n_0), (3, str ((bytesStr ([IntKind.u8.wrap (IntKind.i64.wrap (48 + d_5))] : List Int)) ++ out_3)), (4, .int .i64 m_4)]) (.cons rfl (.cons rfl (.cons rfl (.nil _)))) ?_
  refine ke_inBlock ?_
  refine ke_region ?_
  refine sr_ev (v := .int .i64 m_4) (ev_move rfl) (by decide) ?_
  refine sr_ev (v := .int .i64 (IntKind.i64.wrap (m_4.tdiv 10))) (ev_quo rfl rfl (by decide)) (by decide) ?_
  refine sr_ev (v := .int .i64 (IntKind.i64.wrap (m_4.tdiv 10))) (ev_assign rfl) (by decide) ?_
  refine sr_end (l' := [(0, .int .i64 n_0), (3, str ((bytesStr ([IntKind.u8.wrap (IntKind.i64.wrap (48 + d_5))] : List Int)) ++ out_3)), (4, .int .i64 (IntKind.i64.wrap (m_4.tdiv 10)))]) (.cons rfl (.cons rfl (.cons rfl (.nil _)))) ?_
  have hK := hr0 hS hb hA hi hH
  exact ke_weaken (l' := [(0, .int .i64 n_0), (3, str ((bytesStr ([IntKind.u8.wrap (IntKind.i64.wrap (48 + d_5))] : List Int)) ++ out_3)), (4, .int .i64 (IntKind.i64.wrap (m_4.tdiv 10)))]) (.cons rfl (.cons rfl (.cons rfl (.nil _)))) hK
theorem ref02_Int_L1_ok {w0 : World} (hg : Gs w0) {A0 : Nat → Prop} (hA0 : ∀ b, A0 b → b < w0.heap.size) : ∀ (n : Nat), ∀ {r : Str} {n_0 : Int} {out_3 : Str} {m_4 : Int}, ref02_Int_L1 n n_0 out_3 m_4 = some r → ∀ {w : World} {A : Nat → Prop}, (Below w0.heap.size w0 w) → (∀ b, A b → b < w.heap.size) → (∀ b, A0 b → A b) → (Hp A w0.heap.size w []) → KE Tryd.prog 35 (Ret (fun v w' => v = str r ∧ Below w0.heap.size w0 w')) 31 [.code (sub (bodyOf Tryd.f35) [2, 2, 2, 1, 2, 2, 1]), .inLoop (sub (bodyOf Tryd.f35) [2, 2, 2, 1, 2, 2, 1]), .inBlock 0, .code (sub (bodyOf Tryd.f35) [2, 2, 2, 2])] [(0, .int .i64 n_0), (3, str out_3), (4, .int .i64 m_4)] w := by
  intro n
  induction n with
  | zero => intro r n_0 out_3 m_4 hS; cases hS
  | succ n ih =>
    have hr0 : ∀ {r : Str} {n_0 : Int} {out_3 : Str} {m_4 : Int}, ref02_Int_L1 n n_0 out_3 m_4 = some r → ∀ {w : World} {A : Nat → Prop}, (Below w0.heap.size w0 w) → (∀ b, A b → b < w.heap.size) → (∀ b, A0 b → A b) → (Hp A w0.heap.size w []) → KE Tryd.prog 35 (Ret (fun v w' => v = str r ∧ Below w0.heap.size w0 w')) 31 [.inLoop (sub (bodyOf Tryd.f35) [2, 2, 2, 1, 2, 2, 1]), .inBlock 0, .code (sub (bodyOf Tryd.f35) [2, 2, 2, 2])] [(0, .int .i64 n_0), (3, str out_3), (4, .int .i64 m_4)] w := fun {r} {n_0} {out_3} {m_4} hS {w} {A} hb hA hi hH => ke_inLoop (ih hS hb hA hi hH)
    clear ih
    intro r n_0 out_3 m_4 hS w A hb hA hi hH
    unfold ref02_Int_L1 at hS
    refine ke_seq ?_
    refine ke_seq ?_
    refine ke_region ?_
    refine sr_ev (v := .int .i64 m_4) (ev_move rfl) (by decide) ?_
    refine sr_ev (v := .bool (m_4 != 0)) (ev_ne rfl rfl) (by decide) ?_
    refine sr_end (l' := [(0, .int .i64 n_0), (3, str out_3), (4, .int .i64 m_4), (10, .bool (m_4 != 0))]) (.cons rfl (.cons rfl (.cons rfl (.cons rfl (.nil _))))) ?_
    refine ke_cond (t := m_4 != 0) rfl (fun hc2 => ?_) (fun hc2 => ?_)
    · replace hS := ite_true' hS hc2
      refine ke_skip ?_
      refine ke_seq ?_
      refine ke_block ?_
      refine ke_seq ?_
      refine ke_region ?_
      refine sr_ev (v := .int .i64 m_4) (ev_move rfl) (by decide) ?_
      refine sr_ev (v := .int .i64 (Int.tmod m_4 10)) (ev_rem rfl rfl (by decide)) (by decide) ?_
      refine sr_ev (v := .int .i64 (Int.tmod m_4 10)) (ev_assign rfl) (by decide) ?_
      refine sr_end (l' := [(0, .int .i64 n_0), (3, str out_3), (4, .int .i64 m_4), (5, .int .i64 (Int.tmod m_4 10))]) (.cons rfl (.cons rfl (.cons rfl (.cons rfl (.nil _))))) ?_
      refine ke_seq ?_
      refine ke_seq ?_
      refine ke_region ?_
      refine sr_ev (v := .int .i64 (Int.tmod m_4 10)) (ev_move rfl) (by decide) ?_
      refine sr_ev (v := .bool (decide ((Int.tmod m_4 10) < 0))) (ev_lt rfl rfl) (by decide) ?_
      refine sr_end (l' := [(0, .int .i64 n_0), (3, str out_3), (4, .int .i64 m_4), (5, .int .i64 (Int.tmod m_4 10)), (16, .bool (decide ((Int.tmod m_4 10) < 0)))]) (.cons rfl (.cons rfl (.cons rfl (.cons rfl (.cons rfl (.nil _)))))) ?_
      refine ke_cond (t := decide ((Int.tmod m_4 10) < 0)) rfl (fun hc3 => ?_) (fun hc3 => ?_)
      · replace hS := ite_true' hS hc3
        refine ke_region ?_
        refine sr_ev (v := .int .i64 (Int.tmod m_4 10)) (ev_move rfl) (by decide) ?_
        refine sr_ev (v := .int .i64 (IntKind.i64.wrap (0 - (Int.tmod m_4 10)))) (ev_neg rfl) (by decide) ?_
        refine sr_ev (v := .int .i64 (IntKind.i64.wrap (0 - (Int.tmod m_4 10)))) (ev_assign rfl) (by decide) ?_
        refine sr_end (l' := [(0, .int .i64 n_0), (3, str out_3), (4, .int .i64 m_4), (5, .int .i64 (IntKind.i64.wrap (0 - (Int.tmod m_4 10))))]) (.cons rfl (.cons rfl (.cons rfl (.cons rfl (.nil _))))) ?_
        have hK := ref02_Int_B2_ok hg hA0 _ hr0 hS hb hA hi hH
        exact ke_weaken (l' := [(0, .int .i64 n_0), (3, str out_3), (4, .int .i64 m_4), (5, .int .i64 (IntKind.i64.wrap (0 - (Int.tmod m_4 10))))]) (.cons rfl (.cons rfl (.cons rfl (.cons rfl (.nil _))))) hK
      · replace hS := ite_false' hS hc3
        refine ke_skip ?_
        have hK := ref02_Int_B2_ok hg hA0 _ hr0 hS hb hA hi hH
        exact ke_weaken (l' := [(0, .int .i64 n_0), (3, str out_3), (4, .int .i64 m_4), (5, .int .i64 (Int.tmod m_4 10))]) (.cons rfl (.cons rfl (.cons rfl (.cons rfl (.nil _))))) hK
    · replace hS := ite_false' hS hc2
      refine ke_exit (k' := _) rfl ?_
      refine ke_seq ?_
      refine ke_seq ?_
      refine ke_region ?_
      refine sr_ev (v := .int .i64 n_0) (ev_move rfl) (by decide) ?_
      refine sr_ev (v := .bool (decide (n_0 < 0))) (ev_lt rfl rfl) (by decide) ?_
      refine sr_end (l' := [(3, str out_3), (27, .bool (decide (n_0 < 0)))]) (.cons rfl (.cons rfl (.nil _))) ?_
      refine ke_cond (t := decide (n_0 < 0)) rfl (fun hc9 => ?_) (fun hc9 => ?_)
      · replace hS := ite_true' hS hc9
        refine ke_seq ?_
        refine ke_region ?_
        refine sr_ev (v := str out_3) (ev_move rfl) (by decide) ?_
        obtain ⟨hk10, hS⟩ := chk_some hS
        refine sr_ev (v := str (([45]) ++ out_3)) (ev_cat rfl rfl hk10) (by decide) ?_
        refine sr_ev (v := str (([45]) ++ out_3)) (ev_assign rfl) (by decide) ?_
        refine sr_end (l' := [(2, str (([45]) ++ out_3))]) (.cons rfl (.nil _)) ?_
        cases hS
        exact ke_ret1 Tryd.func35 rfl rfl ⟨_, rfl, rfl, hb⟩
      · replace hS := ite_false' hS hc9
        refine ke_skip ?_
        refine ke_seq ?_
        refine ke_region ?_
        refine sr_ev (v := str out_3) (ev_move rfl) (by decide) ?_
        refine sr_ev (v := str out_3) (ev_assign rfl) (by decide) ?_
        refine sr_end (l' := [(2, str out_3)]) (.cons rfl (.nil _)) ?_
        cases hS
        exact ke_ret1 Tryd.func35 rfl rfl ⟨_, rfl, rfl, hb⟩
theorem ref02_Int_ok (w0 : World) (hg : Gs w0) {n_0 : Int} {r : Str} (hS : ref02_Int n_0 = some r) :
    Calls Tryd.prog 35 #[.int .i64 n_0] w0 (Ret (fun v w' => v = str r ∧ Below w0.heap.size w0 w')) := by
  unfold ref02_Int at hS
  have hb := Below.refl w0.heap.size w0
  obtain ⟨A0, hA0, hAe⟩ : ∃ A0 : Nat → Prop, (∀ b, A0 b → b < w0.heap.size) ∧ A0 = fun _ => False := ⟨_, fun _ h => h.elim, rfl⟩
  clear hAe
  have hA := hA0
  have hi : ∀ b, A0 b → A0 b := fun _ h => h
  have hH := Hp.nil A0 w0.heap.size w0
  refine calls_of_ke Tryd.func35 rfl (n := 31) rfl rfl (l := [(0, .int .i64 n_0)]) rfl ?_
  refine ke_seq ?_
  refine ke_region ?_
  refine sr_ev (v := str ([])) (ev_assign rfl) (by decide) ?_
  refine sr_end (l' := [(0, .int .i64 n_0)]) (.cons rfl (.nil _)) ?_
  refine ke_seq ?_
  refine ke_seq ?_
  refine ke_region ?_
  refine sr_ev (v := .int .i64 n_0) (ev_move rfl) (by decide) ?_
  refine sr_ev (v := .bool (n_0 == 0)) (ev_eq rfl rfl) (by decide) ?_
  refine sr_end (l' := [(0, .int .i64 n_0), (7, .bool (n_0 == 0))]) (.cons rfl (.cons rfl (.nil _))) ?_
  refine ke_cond (t := n_0 == 0) rfl (fun hc1 => ?_) (fun hc1 => ?_)
  · replace hS := ite_true' hS hc1
    refine ke_seq ?_
    refine ke_region ?_
    refine sr_ev (v := str ([48])) (ev_assign rfl) (by decide) ?_
    refine sr_end (l' := [(2, str ([48]))]) (.cons rfl (.nil _)) ?_
    cases hS
    exact ke_ret1 Tryd.func35 rfl rfl ⟨_, rfl, rfl, hb⟩
  · replace hS := ite_false' hS hc1
    refine ke_skip ?_
    refine ke_seq ?_
    refine ke_region ?_
    refine sr_ev (v := str ([])) (ev_assign rfl) (by decide) ?_
    refine sr_end (l' := [(0, .int .i64 n_0), (3, str ([]))]) (.cons rfl (.cons rfl (.nil _))) ?_
    refine ke_seq ?_
    refine ke_seq ?_
    refine ke_region ?_
    refine sr_ev (v := .int .i64 n_0) (ev_move rfl) (by decide) ?_
    refine sr_ev (v := .int .i64 n_0) (ev_assign rfl) (by decide) ?_
    refine sr_end (l' := [(0, .int .i64 n_0), (3, str ([])), (4, .int .i64 n_0)]) (.cons rfl (.cons rfl (.cons rfl (.nil _)))) ?_
    refine ke_block ?_
    have hK := ref02_Int_L1_ok hg hA0 _ hS hb hA hi hH
    exact ke_weaken (l' := [(0, .int .i64 n_0), (3, str ([])), (4, .int .i64 n_0)]) (.cons rfl (.cons rfl (.cons rfl (.nil _)))) (ke_loop hK)
theorem ref03_decimal_ok : ∀ (n : Nat) (w0 : World) (hg : Gs w0) {n_0 : Int} {r : Str} (hS : ref03_decimal n n_0 = some r),
    Calls Tryd.prog 52 #[.int .i64 n_0] w0 (Ret (fun v w' => v = str r ∧ Below w0.heap.size w0 w')) := by
  intro n
  induction n with
  | zero => intro w0 hg n_0 r hS; cases hS
  | succ n ih =>
    intro w0 hg n_0 r hS
    unfold ref03_decimal at hS
    have hb := Below.refl w0.heap.size w0
    refine calls_of_ke Tryd.func52 rfl (n := 16) rfl rfl (l := [(0, .int .i64 n_0)]) rfl ?_
    refine ke_seq ?_
    refine ke_region ?_
    refine sr_ev (v := str ([])) (ev_assign rfl) (by decide) ?_
    refine sr_end (l' := [(0, .int .i64 n_0)]) (.cons rfl (.nil _)) ?_
    refine ke_seq ?_
    refine ke_seq ?_
    refine ke_region ?_
    refine sr_ev (v := .int .i64 n_0) (ev_move rfl) (by decide) ?_
    refine sr_ev (v := .bool (decide (n_0 < 10))) (ev_lt rfl rfl) (by decide) ?_
    refine sr_end (l' := [(0, .int .i64 n_0), (4, .bool (decide (n_0 < 10)))]) (.cons rfl (.cons rfl (.nil _))) ?_
    refine ke_cond (t := decide (n_0 < 10)) rfl (fun hc1 => ?_) (fun hc1 => ?_)
    · replace hS := ite_true' hS hc1
      refine ke_seq ?_
      refine ke_region ?_
      refine sr_ev (v := .int .i64 n_0) (ev_move rfl) (by decide) ?_
      refine sr_ev (v := .int .i64 n_0) (ev_move rfl) (by decide) ?_
      refine sr_ev (v := .int .i64 (IntKind.i64.wrap (n_0 + 1))) (ev_add rfl rfl) (by decide) ?_
      obtain ⟨hk2, hS⟩ := chk_some hS
      refine sr_ev (v := str (cut ([48, 49, 50, 51, 52, 53, 54, 55, 56, 57]) n_0 (IntKind.i64.wrap (n_0 + 1)))) (ev_sslice Tryd.underlying9 rfl rfl rfl hk2) (by decide) ?_
      refine sr_ev (v := str (cut ([48, 49, 50, 51, 52, 53, 54, 55, 56, 57]) n_0 (IntKind.i64.wrap (n_0 + 1)))) (ev_assign rfl) (by decide) ?_
      refine sr_end (l' := [(2, str (cut ([48, 49, 50, 51, 52, 53, 54, 55, 56, 57]) n_0 (IntKind.i64.wrap (n_0 + 1))))]) (.cons rfl (.nil _)) ?_
      cases hS
      exact ke_ret1 Tryd.func52 rfl rfl ⟨_, rfl, rfl, hb⟩
    · replace hS := ite_false' hS hc1
      refine ke_skip ?_
      refine ke_seq ?_
      refine ke_region ?_
      refine sr_ev (v := .int .i64 n_0) (ev_move rfl) (by decide) ?_
      refine sr_ev (v := .int .i64 (IntKind.i64.wrap (n_0.tdiv 10))) (ev_quo rfl rfl (by decide)) (by decide) ?_
      obtain ⟨y3, hy4, hS⟩ := bind_some' hS
      refine sr_call (vs := [.int .i64 (IntKind.i64.wrap (n_0.tdiv 10))]) rfl Tryd.call52 rfl (ih _ (hg.below hb) hy4) (by decide) ?_
      rintro _ w5 ⟨rfl, hbw6⟩
      replace hb := hb.trans (hbw6.mono hb.size)
      refine sr_ev (v := .int .i64 n_0) (ev_move rfl) (by decide) ?_
      refine sr_ev (v := .int .i64 (Int.tmod n_0 10)) (ev_rem rfl rfl (by decide)) (by decide) ?_
      obtain ⟨y7, hy8, hS⟩ := bind_some' hS
      refine sr_call (vs := [.int .i64 (Int.tmod n_0 10)]) rfl Tryd.call52 rfl (ih _ (hg.below hb) hy8) (by decide) ?_
      rintro _ w9 ⟨rfl, hbw10⟩
      replace hb := hb.trans (hbw10.mono hb.size)
      obtain ⟨hk11, hS⟩ := chk_some hS
      refine sr_ev (v := str (y3 ++ y7)) (ev_cat rfl rfl hk11) (by decide) ?_
      refine sr_ev (v := str (y3 ++ y7)) (ev_assign rfl) (by decide) ?_
      refine sr_end (l' := [(2, str (y3 ++ y7))]) (.cons rfl (.nil _)) ?_
      cases hS
      exact ke_ret1 Tryd.func52 rfl rfl ⟨_, rfl, rfl, hb⟩
theorem ref03_Sum_L1_ok {w0 : World} (hg : Gs w0) : ∀ (n : Nat), ∀ {r : Int} {s_0 : Str} {h_3 : Int} {i_4 : Int}, ref03_Sum_L1 n s_0 h_3 i_4 = some r → ∀ {w : World}, (Below w0.heap.size w0 w) → KE Tryd.prog 33 (Ret (fun v w' => v = .int .u64 r ∧ Below w0.heap.size w0 w')) 34 [.code (sub (bodyOf Tryd.f33) [2, 2, 1, 2, 2, 1]), .inLoop (sub (bodyOf Tryd.f33) [2, 2, 1, 2, 2, 1]), .inBlock 0, .code (sub (bodyOf Tryd.f33) [2, 2, 2])] [(0, str s_0), (3, .int .u64 h_3), (4, .int .i64 i_4)] w := by
  intro n
  induction n with
  | zero => intro r s_0 h_3 i_4 hS; cases hS
  | succ n ih =>
    have hr0 : ∀ {r : Int} {s_0 : Str} {h_3 : Int} {i_4 : Int}, ref03_Sum_L1 n s_0 h_3 i_4 = some r → ∀ {w : World}, (Below w0.heap.size w0 w) → KE Tryd.prog 33 (Ret (fun v w' => v = .int .u64 r ∧ Below w0.heap.size w0 w')) 34 [.inLoop (sub (bodyOf Tryd.f33) [2, 2, 1, 2, 2, 1]), .inBlock 0, .code (sub (bodyOf Tryd.f33) [2, 2, 2])] [(0, str s_0), (3, .int .u64 h_3), (4, .int .i64 i_4)] w := fun {r} {s_0} {h_3} {i_4} hS {w} hb => ke_inLoop (ih hS hb)
    clear ih
    intro r s_0 h_3 i_4 hS w hb
    unfold ref03_Sum_L1 at hS
    refine ke_seq ?_
    refine ke_seq ?_
    refine ke_region ?_
    refine sr_ev (v := .int .i64 i_4) (ev_move rfl) (by decide) ?_
    refine sr_ev (v := str s_0) (ev_move rfl) (by decide) ?_
    refine sr_ev (v := .int .i64 (s_0.length : Int)) (ev_slen Tryd.underlying9 rfl) (by decide) ?_
    refine sr_ev (v := .bool (decide (i_4 < (s_0.length : Int)))) (ev_lt rfl rfl) (by decide) ?_
    refine sr_end (l' := [(0, str s_0), (3, .int .u64 h_3), (4, .int .i64 i_4), (8, .bool (decide (i_4 < (s_0.length : Int))))]) (.cons rfl (.cons rfl (.cons rfl (.cons rfl (.nil _))))) ?_
    refine ke_cond (t := decide (i_4 < (s_0.length : Int))) rfl (fun hc1 => ?_) (fun hc1 => ?_)
    · replace hS := ite_true' hS hc1
      refine ke_skip ?_
      refine ke_seq ?_
      refine ke_block ?_
      refine ke_region ?_
      refine sr_ev (v := .int .u64 h_3) (ev_move rfl) (by decide) ?_
      refine sr_ev (v := str s_0) (ev_move rfl) (by decide) ?_
      refine sr_ev (v := .int .i64 i_4) (ev_move rfl) (by decide) ?_
      obtain ⟨hk2, hS⟩ := chk_some hS
      refine sr_ev (v := .int .u8 (byteAt s_0 i_4)) (ev_sindex Tryd.underlying9 rfl rfl hk2) (by decide) ?_
      refine sr_ev (v := .int .u64 (IntKind.u64.wrap (byteAt s_0 i_4))) (ev_conv Tryd.underlying48 Tryd.underlying5 rfl) (by decide) ?_
      refine sr_ev (v := .int .u64 (bXor .u64 h_3 (IntKind.u64.wrap (byteAt s_0 i_4)))) (ev_xor rfl rfl) (by decide) ?_
      refine sr_ev (v := .int .u64 (IntKind.u64.wrap ((bXor .u64 h_3 (IntKind.u64.wrap (byteAt s_0 i_4))) * 1099511628211))) (ev_mul rfl rfl) (by decide) ?_
      refine sr_ev (v := .int .u64 (IntKind.u64.wrap ((bXor .u64 h_3 (IntKind.u64.wrap (byteAt s_0 i_4))) * 1099511628211))) (ev_assign rfl) (by decide) ?_
      refine sr_end (l' := [(0, str s_0), (3, .int .u64 (IntKind.u64.wrap ((bXor .u64 h_3 (IntKind.u64.wrap (byteAt s_0 i_4))) * 1099511628211))), (4, .int .i64 i_4)]) (.cons rfl (.cons rfl (.cons rfl (.nil _)))) ?_
      refine ke_inBlock ?_
      refine ke_region ?_
      refine sr_ev (v := .int .i64 i_4) (ev_move rfl) (by decide) ?_
      refine sr_ev (v := .int .i64 (IntKind.i64.wrap (i_4 + 1))) (ev_add rfl rfl) (by decide) ?_
      refine sr_ev (v := .int .i64 (IntKind.i64.wrap (i_4 + 1))) (ev_assign rfl) (by decide) ?_
      refine sr_end (l' := [(0, str s_0), (3, .int .u64 (IntKind.u64.wrap ((bXor .u64 h_3 (IntKind.u64.wrap (byteAt s_0 i_4))) * 1099511628211))), (4, .int .i64 (IntKind.i64.wrap (i_4 + 1)))]) (.cons rfl (.cons rfl (.cons rfl (.nil _)))) ?_
      have hK := hr0 hS hb
      exact ke_weaken (l' := [(0, str s_0), (3, .int .u64 (IntKind.u64.wrap ((bXor .u64 h_3 (IntKind.u64.wrap (byteAt s_0 i_4))) * 1099511628211))), (4, .int .i64 (IntKind.i64.wrap (i_4 + 1)))]) (.cons rfl (.cons rfl (.cons rfl (.nil _)))) hK
    · replace hS := ite_false' hS hc1
      refine ke_exit (k' := _) rfl ?_
      refine ke_seq ?_
      refine ke_region ?_
      refine sr_ev (v := .int .u64 h_3) (ev_move rfl) (by decide) ?_
      refine sr_ev (v := .int .u64 h_3) (ev_move rfl) (by decide) ?_
      refine sr_ev (v := .int .u64 (bShr .u64 h_3 33)) (ev_shr rfl rfl (by decide)) (by decide) ?_
      refine sr_ev (v := .int .u64 (bXor .u64 h_3 (bShr .u64 h_3 33))) (ev_xor rfl rfl) (by decide) ?_
      refine sr_ev (v := .int .u64 (bXor .u64 h_3 (bShr .u64 h_3 33))) (ev_assign rfl) (by decide) ?_
      refine sr_end (l' := [(3, .int .u64 (bXor .u64 h_3 (bShr .u64 h_3 33)))]) (.cons rfl (.nil _)) ?_
      refine ke_seq ?_
      refine ke_region ?_
      refine sr_ev (v := .int .u64 (bXor .u64 h_3 (bShr .u64 h_3 33))) (ev_move rfl) (by decide) ?_
      refine sr_ev (v := .int .u64 (IntKind.u64.wrap ((bXor .u64 h_3 (bShr .u64 h_3 33)) * 18397679294719823053))) (ev_mul rfl rfl) (by decide) ?_
      refine sr_ev (v := .int .u64 (IntKind.u64.wrap ((bXor .u64 h_3 (bShr .u64 h_3 33)) * 18397679294719823053))) (ev_assign rfl) (by decide) ?_
      refine sr_end (l' := [(3, .int .u64 (IntKind.u64.wrap ((bXor .u64 h_3 (bShr .u64 h_3 33)) * 18397679294719823053)))]) (.cons rfl (.nil _)) ?_
      refine ke_seq ?_
      refine ke_region ?_
      refine sr_ev (v := .int .u64 (IntKind.u64.wrap ((bXor .u64 h_3 (bShr .u64 h_3 33)) * 18397679294719823053))) (ev_move rfl) (by decide) ?_
      refine sr_ev (v := .int .u64 (IntKind.u64.wrap ((bXor .u64 h_3 (bShr .u64 h_3 33)) * 18397679294719823053))) (ev_move rfl) (by decide) ?_
      refine sr_ev (v := .int .u64 (bShr .u64 (IntKind.u64.wrap ((bXor .u64 h_3 (bShr .u64 h_3 33)) * 18397679294719823053)) 33)) (ev_shr rfl rfl (by decide)) (by decide) ?_
      refine sr_ev (v := .int .u64 (bXor .u64 (IntKind.u64.wrap ((bXor .u64 h_3 (bShr .u64 h_3 33)) * 18397679294719823053)) (bShr .u64 (IntKind.u64.wrap ((bXor .u64 h_3 (bShr .u64 h_3 33)) * 18397679294719823053)) 33))) (ev_xor rfl rfl) (by decide) ?_
      refine sr_ev (v := .int .u64 (bXor .u64 (IntKind.u64.wrap ((bXor .u64 h_3 (bShr .u64 h_3 33)) * 18397679294719823053)) (bShr .u64 (IntKind.u64.wrap ((bXor .u64 h_3 (bShr .u64 h_3 33)) * 18397679294719823053)) 33))) (ev_assign rfl) (by decide) ?_
      refine sr_end (l' := [(3, .int .u64 (bXor .u64 (IntKind.u64.wrap ((bXor .u64 h_3 (bShr .u64 h_3 33)) * 18397679294719823053)) (bShr .u64 (IntKind.u64.wrap ((bXor .u64 h_3 (bShr .u64 h_3 33)) * 18397679294719823053)) 33)))]) (.cons rfl (.nil _)) ?_
      refine ke_seq ?_
      refine ke_region ?_
      refine sr_ev (v := .int .u64 (bXor .u64 (IntKind.u64.wrap ((bXor .u64 h_3 (bShr .u64 h_3 33)) * 18397679294719823053)) (bShr .u64 (IntKind.u64.wrap ((bXor .u64 h_3 (bShr .u64 h_3 33)) * 18397679294719823053)) 33))) (ev_move rfl) (by decide) ?_
      refine sr_ev (v := .int .u64 (IntKind.u64.wrap ((bXor .u64 (IntKind.u64.wrap ((bXor .u64 h_3 (bShr .u64 h_3 33)) * 18397679294719823053)) (bShr .u64 (IntKind.u64.wrap ((bXor .u64 h_3 (bShr .u64 h_3 33)) * 18397679294719823053)) 33)) * 14181476777654086739))) (ev_mul rfl rfl) (by decide) ?_
      refine sr_ev (v := .int .u64 (IntKind.u64.wrap ((bXor .u64 (IntKind.u64.wrap ((bXor .u64 h_3 (bShr .u64 h_3 33)) * 18397679294719823053)) (bShr .u64 (IntKind.u64.wrap ((bXor .u64 h_3 (bShr .u64 h_3 33)) * 18397679294719823053)) 33)) * 14181476777654086739))) (ev_assign rfl) (by decide) ?_
      refine sr_end (l' := [(3, .int .u64 (IntKind.u64.wrap ((bXor .u64 (IntKind.u64.wrap ((bXor .u64 h_3 (bShr .u64 h_3 33)) * 18397679294719823053)) (bShr .u64 (IntKind.u64.wrap ((bXor .u64 h_3 (bShr .u64 h_3 33)) * 18397679294719823053)) 33)) * 14181476777654086739)))]) (.cons rfl (.nil _)) ?_
      refine ke_seq ?_
      refine ke_region ?_
      refine sr_ev (v := .int .u64 (IntKind.u64.wrap ((bXor .u64 (IntKind.u64.wrap ((bXor .u64 h_3 (bShr .u64 h_3 33)) * 18397679294719823053)) (bShr .u64 (IntKind.u64.wrap ((bXor .u64 h_3 (bShr .u64 h_3 33)) * 18397679294719823053)) 33)) * 14181476777654086739))) (ev_move rfl) (by decide) ?_
      refine sr_ev (v := .int .u64 (IntKind.u64.wrap ((bXor .u64 (IntKind.u64.wrap ((bXor .u64 h_3 (bShr .u64 h_3 33)) * 18397679294719823053)) (bShr .u64 (IntKind.u64.wrap ((bXor .u64 h_3 (bShr .u64 h_3 33)) * 18397679294719823053)) 33)) * 14181476777654086739))) (ev_move rfl) (by decide) ?_
      refine sr_ev (v := .int .u64 (bShr .u64 (IntKind.u64.wrap ((bXor .u64 (IntKind.u64.wrap ((bXor .u64 h_3 (bShr .u64 h_3 33)) * 18397679294719823053)) (bShr .u64 (IntKind.u64.wrap ((bXor .u64 h_3 (bShr .u64 h_3 33)) * 18397679294719823053)) 33)) * 14181476777654086739)) 33)) (ev_shr rfl rfl (by decide)) (by decide) ?_
      refine sr_ev (v := .int .u64 (bXor .u64 (IntKind.u64.wrap ((bXor .u64 (IntKind.u64.wrap ((bXor .u64 h_3 (bShr .u64 h_3 33)) * 18397679294719823053)) (bShr .u64 (IntKind.u64.wrap ((bXor .u64 h_3 (bShr .u64 h_3 33)) * 18397679294719823053)) 33)) * 14181476777654086739)) (bShr .u64 (IntKind.u64.wrap ((bXor .u64 (IntKind.u64.wrap ((bXor .u64 h_3 (bShr .u64 h_3 33)) * 18397679294719823053)) (bShr .u64 (IntKind.u64.wrap ((bXor .u64 h_3 (bShr .u64 h_3 33)) * 18397679294719823053)) 33)) * 14181476777654086739)) 33))) (ev_xor rfl rfl) (by decide) ?_
      refine sr_ev (v := .int .u64 (bXor .u64 (IntKind.u64.wrap ((bXor .u64 (IntKind.u64.wrap ((bXor .u64 h_3 (bShr .u64 h_3 33)) * 18397679294719823053)) (bShr .u64 (IntKind.u64.wrap ((bXor .u64 h_3 (bShr .u64 h_3 33)) * 18397679294719823053)) 33)) * 14181476777654086739)) (bShr .u64 (IntKind.u64.wrap ((bXor .u64 (IntKind.u64.wrap ((bXor .u64 h_3 (bShr .u64 h_3 33)) * 18397679294719823053)) (bShr .u64 (IntKind.u64.wrap ((bXor .u64 h_3 (bShr .u64 h_3 33)) * 18397679294719823053)) 33)) * 14181476777654086739)) 33))) (ev_assign rfl) (by decide) ?_
      refine sr_end (l' := [(2, .int .u64 (bXor .u64 (IntKind.u64.wrap ((bXor .u64 (IntKind.u64.wrap ((bXor .u64 h_3 (bShr .u64 h_3 33)) * 18397679294719823053)) (bShr .u64 (IntKind.u64.wrap ((bXor .u64 h_3 (bShr .u64 h_3 33)) * 18397679294719823053)) 33)) * 14181476777654086739)) (bShr .u64 (IntKind.u64.wrap ((bXor .u64 (IntKind.u64.wrap ((bXor .u64 h_3 (bShr .u64 h_3 33)) * 18397679294719823053)) (bShr .u64 (IntKind.u64.wrap ((bXor .u64 h_3 (bShr .u64 h_3 33)) * 18397679294719823053)) 33)) * 14181476777654086739)) 33)))]) (.cons rfl (.nil _)) ?_
      cases hS
      exact ke_ret1 Tryd.func33 rfl rfl ⟨_, rfl, rfl, hb⟩
theorem ref03_Sum_ok (w0 : World) (hg : Gs w0) {s_0 : Str} {r : Int} (hS : ref03_Sum s_0 = some r) :
    Calls Tryd.prog 33 #[str s_0] w0 (Ret (fun v w' => v = .int .u64 r ∧ Below w0.heap.size w0 w')) := by
  unfold ref03_Sum at hS
  have hb := Below.refl w0.heap.size w0
  refine calls_of_ke Tryd.func33 rfl (n := 34) rfl rfl (l := [(0, str s_0)]) rfl ?_
  refine ke_seq ?_
  refine ke_region ?_
  refine sr_ev (v := .int .u64 0) (ev_assign rfl) (by decide) ?_
  refine sr_end (l' := [(0, str s_0)]) (.cons rfl (.nil _)) ?_
  refine ke_seq ?_
  refine ke_region ?_
  refine sr_ev (v := .int .u64 14695981039346656037) (ev_assign rfl) (by decide) ?_
  refine sr_end (l' := [(0, str s_0), (3, .int .u64 14695981039346656037)]) (.cons rfl (.cons rfl (.nil _))) ?_
  refine ke_seq ?_
  refine ke_seq ?_
  refine ke_region ?_
  refine sr_ev (v := .int .i64 0) (ev_assign rfl) (by decide) ?_
  refine sr_end (l' := [(0, str s_0), (3, .int .u64 14695981039346656037), (4, .int .i64 0)]) (.cons rfl (.cons rfl (.cons rfl (.nil _)))) ?_
  refine ke_block ?_
  have hK := ref03_Sum_L1_ok hg _ hS hb
  exact ke_weaken (l' := [(0, str s_0), (3, .int .u64 14695981039346656037), (4, .int .i64 0)]) (.cons rfl (.cons rfl (.cons rfl (.nil _)))) (ke_loop hK)
theorem ref03_Hex_L1_ok {w0 : World} (hg : Gs w0) : ∀ (n : Nat), ∀ {r : Str} {n_0 : Int} {s_3 : Str} {i_4 : Int}, ref03_Hex_L1 n n_0 s_3 i_4 = some r → ∀ {w : World}, (Below w0.heap.size w0 w) → KE Tryd.prog 58 (Ret (fun v w' => v = str r ∧ Below w0.heap.size w0 w')) 21 [.code (sub (bodyOf Tryd.f58) [2, 2, 1, 2, 2, 1]), .inLoop (sub (bodyOf Tryd.f58) [2, 2, 1, 2, 2, 1]), .inBlock 0, .code (sub (bodyOf Tryd.f58) [2, 2, 2])] [(0, .int .u64 n_0), (3, str s_3), (4, .int .i64 i_4)] w := by
  intro n
  induction n with
  | zero => intro r n_0 s_3 i_4 hS; cases hS
  | succ n ih =>
    have hr0 : ∀ {r : Str} {n_0 : Int} {s_3 : Str} {i_4 : Int}, ref03_Hex_L1 n n_0 s_3 i_4 = some r → ∀ {w : World}, (Below w0.heap.size w0 w) → KE Tryd.prog 58 (Ret (fun v w' => v = str r ∧ Below w0.heap.size w0 w')) 21 [.inLoop (sub (bodyOf Tryd.f58) [2, 2, 1, 2, 2, 1]), .inBlock 0, .code (sub (bodyOf Tryd.f58) [2, 2, 2])] [(0, .int .u64 n_0), (3, str s_3), (4, .int .i64 i_4)] w := fun {r} {n_0} {s_3} {i_4} hS {w} hb => ke_inLoop (ih hS hb)
    clear ih
    intro r n_0 s_3 i_4 hS w hb
    unfold ref03_Hex_L1 at hS
    refine ke_seq ?_
    refine ke_seq ?_
    refine ke_region ?_
    refine sr_ev (v := .int .i64 i_4) (ev_move rfl) (by decide) ?_
    refine sr_ev (v := .bool (decide (i_4 < 16))) (ev_lt rfl rfl) (by decide) ?_
    refine sr_end (l' := [(0, .int .u64 n_0), (3, str s_3), (4, .int .i64 i_4), (7, .bool (decide (i_4 < 16)))]) (.cons rfl (.cons rfl (.cons rfl (.cons rfl (.nil _))))) ?_
    refine ke_cond (t := decide (i_4 < 16)) rfl (fun hc1 => ?_) (fun hc1 => ?_)
    · replace hS := ite_true' hS hc1
      refine ke_skip ?_
      refine ke_seq ?_
      refine ke_block ?_
      refine ke_seq ?_
      refine ke_region ?_
      refine sr_ev (v := .int .u64 n_0) (ev_move rfl) (by decide) ?_
      refine sr_ev (v := .int .u64 (Int.tmod n_0 16)) (ev_rem rfl rfl (by decide)) (by decide) ?_
      refine sr_ev (v := .int .u64 (Int.tmod n_0 16)) (ev_assign rfl) (by decide) ?_
      refine sr_end (l' := [(0, .int .u64 n_0), (3, str s_3), (4, .int .i64 i_4), (5, .int .u64 (Int.tmod n_0 16))]) (.cons rfl (.cons rfl (.cons rfl (.cons rfl (.nil _))))) ?_
      refine ke_seq ?_
      refine ke_region ?_
      refine sr_ev (v := .int .u64 (Int.tmod n_0 16)) (ev_move rfl) (by decide) ?_
      refine sr_ev (v := .int .u64 (Int.tmod n_0 16)) (ev_move rfl) (by decide) ?_
      refine sr_ev (v := .int .u64 (IntKind.u64.wrap ((Int.tmod n_0 16) + 1))) (ev_add rfl rfl) (by decide) ?_
      obtain ⟨hk2, hS⟩ := chk_some hS
      refine sr_ev (v := str (cut ([48, 49, 50, 51, 52, 53, 54, 55, 56, 57, 97, 98, 99, 100, 101, 102]) (Int.tmod n_0 16) (IntKind.u64.wrap ((Int.tmod n_0 16) + 1)))) (ev_sslice Tryd.underlying9 rfl rfl rfl hk2) (by decide) ?_
      refine sr_ev (v := str s_3) (ev_move rfl) (by decide) ?_
      obtain ⟨hk3, hS⟩ := chk_some hS
      refine sr_ev (v := str ((cut ([48, 49, 50, 51, 52, 53, 54, 55, 56, 57, 97, 98, 99, 100, 101, 102]) (Int.tmod n_0 16) (IntKind.u64.wrap ((Int.tmod n_0 16) + 1))) ++ s_3)) (ev_cat rfl rfl hk3) (by decide) ?_
      refine sr_ev (v := str ((cut ([48, 49, 50, 51, 52, 53, 54, 55, 56, 57, 97, 98, 99, 100, 101, 102]) (Int.tmod n_0 16) (IntKind.u64.wrap ((Int.tmod n_0 16) + 1))) ++ s_3)) (ev_assign rfl) (by decide) ?_
      refine sr_end (l' := [(0, .int .u64 n_0), (3, str ((cut ([48, 49, 50, 51, 52, 53, 54, 55, 56, 57, 97, 98, 99, 100, 101, 102]) (Int.tmod n_0 16) (IntKind.u64.wrap ((Int.tmod n_0 16) + 1))) ++ s_3)), (4, .int .i64 i_4)]) (.cons rfl (.cons rfl (.cons rfl (.nil _)))) ?_
      refine ke_region ?_
      refine sr_ev (v := .int .u64 n_0) (ev_move rfl) (by decide) ?_
      refine sr_ev (v := .int .u64 (IntKind.u64.wrap (n_0.tdiv 16))) (ev_quo rfl rfl (by decide)) (by decide) ?_
      refine sr_ev (v := .int .u64 (IntKind.u64.wrap (n_0.tdiv 16))) (ev_assign rfl) (by decide) ?_
      refine sr_end (l' := [(0, .int .u64 (IntKind.u64.wrap (n_0.tdiv 16))), (3, str ((cut ([48, 49, 50, 51, 52, 53, 54, 55, 56, 57, 97, 98, 99, 100, 101, 102]) (Int.tmod n_0 16) (IntKind.u64.wrap ((Int.tmod n_0 16) + 1))) ++ s_3)), (4, .int .i64 i_4)]) (.cons rfl (.cons rfl (.cons rfl (.nil _)))) ?_
      refine ke_inBlock ?_
      refine ke_region ?_
      refine sr_ev (v := .int .i64 i_4) (ev_move rfl) (by decide) ?_
      refine sr_ev (v := .int .i64 (IntKind.i64.wrap (i_4 + 1))) (ev_add rfl rfl) (by decide) ?_
      refine sr_ev (v := .int .i64 (IntKind.i64.wrap (i_4 + 1))) (ev_assign rfl) (by decide) ?_
      refine sr_end (l' := [(0, .int .u64 (IntKind.u64.wrap (n_0.tdiv 16))), (3, str ((cut ([48, 49, 50, 51, 52, 53, 54, 55, 56, 57, 97, 98, 99, 100, 101, 102]) (Int.tmod n_0 16) (IntKind.u64.wrap ((Int.tmod n_0 16) + 1))) ++ s_3)), (4, .int .i64 (IntKind.i64.wrap (i_4 + 1)))]) (.cons rfl (.cons rfl (.cons rfl (.nil _)))) ?_
      have hK := hr0 hS hb
      exact ke_weaken (l' := [(0, .int .u64 (IntKind.u64.wrap (n_0.tdiv 16))), (3, str ((cut ([48, 49, 50, 51, 52, 53, 54, 55, 56, 57, 97, 98, 99, 100, 101, 102]) (Int.tmod n_0 16) (IntKind.u64.wrap ((Int.tmod n_0 16) + 1))) ++ s_3)), (4, .int .i64 (IntKind.i64.wrap (i_4 + 1)))]) (.cons rfl (.cons rfl (.cons rfl (.nil _)))) hK
    · replace hS := ite_false' hS hc1
      refine ke_exit (k' := _) rfl ?_
      refine ke_seq ?_
      refine ke_region ?_
      refine sr_ev (v := str s_3) (ev_move rfl) (by decide) ?_
      refine sr_ev (v := str s_3) (ev_assign rfl) (by decide) ?_
      refine sr_end (l' := [(2, str s_3)]) (.cons rfl (.nil _)) ?_
      cases hS
      exact ke_ret1 Tryd.func58 rfl rfl ⟨_, rfl, rfl, hb⟩
theorem ref03_Hex_ok (w0 : World) (hg : Gs w0) {n_0 : Int} {r : Str} (hS : ref03_Hex n_0 = some r) :
    Calls Tryd.prog 58 #[.int .u64 n_0] w0 (Ret (fun v w' => v = str r ∧ Below w0.heap.size w0 w')) := by
  unfold ref03_Hex at hS
  have hb := Below.refl w0.heap.size w0
  refine calls_of_ke Tryd.func58 rfl (n := 21) rfl rfl (l := [(0, .int .u64 n_0)]) rfl ?_
  refine ke_seq ?_
  refine ke_region ?_
  refine sr_ev (v := str ([])) (ev_assign rfl) (by decide) ?_
  refine sr_end (l' := [(0, .int .u64 n_0)]) (.cons rfl (.nil _)) ?_
  refine ke_seq ?_
  refine ke_region ?_
  refine sr_ev (v := str ([])) (ev_assign rfl) (by decide) ?_
  refine sr_end (l' := [(0, .int .u64 n_0), (3, str ([]))]) (.cons rfl (.cons rfl (.nil _))) ?_
  refine ke_seq ?_
  refine ke_seq ?_
  refine ke_region ?_
  refine sr_ev (v := .int .i64 0) (ev_assign rfl) (by decide) ?_
  refine sr_end (l' := [(0, .int .u64 n_0), (3, str ([])), (4, .int .i64 0)]) (.cons rfl (.cons rfl (.cons rfl (.nil _)))) ?_
  refine ke_block ?_
  have hK := ref03_Hex_L1_ok hg _ hS hb
  exact ke_weaken (l' := [(0, .int .u64 n_0), (3, str ([])), (4, .int .i64 0)]) (.cons rfl (.cons rfl (.cons rfl (.nil _)))) (ke_loop hK)
theorem ref03_Text_ok (w0 : World) (hg : Gs w0) {s_0 : Str} {r : Str} (hS : ref03_Text s_0 = some r) :
    Calls Tryd.prog 53 #[str s_0] w0 (Ret (fun v w' => v = str r ∧ Below w0.heap.size w0 w')) := by
  unfold ref03_Text at hS
  have hb := Below.refl w0.heap.size w0
  refine calls_of_ke Tryd.func53 rfl (n := 6) rfl rfl (l := [(0, str s_0)]) rfl ?_
  refine ke_seq ?_
  refine ke_region ?_
  refine sr_ev (v := str ([])) (ev_assign rfl) (by decide) ?_
  refine sr_end (l' := [(0, str s_0)]) (.cons rfl (.nil _)) ?_
  refine ke_seq ?_
  refine ke_region ?_
  refine sr_ev (v := str s_0) (ev_move rfl) (by decide) ?_
  obtain ⟨y1, hy2, hS⟩ := bind_some' hS
  refine sr_call (vs := [str s_0]) rfl Tryd.call33 rfl (ref03_Sum_ok _ (hg.below hb) hy2) (by decide) ?_
  rintro _ w3 ⟨rfl, hbw4⟩
  replace hb := hb.trans (hbw4.mono hb.size)
  obtain ⟨y5, hy6, hS⟩ := bind_some' hS
  refine sr_call (vs := [.int .u64 y1]) rfl Tryd.call58 rfl (ref03_Hex_ok _ (hg.below hb) hy6) (by decide) ?_
  rintro _ w7 ⟨rfl, hbw8⟩
  replace hb := hb.trans (hbw8.mono hb.size)
  refine sr_ev (v := str y5) (ev_assign rfl) (by decide) ?_
  refine sr_end (l' := [(2, str y5)]) (.cons rfl (.nil _)) ?_
  cases hS
  exact ke_ret1 Tryd.func53 rfl rfl ⟨_, rfl, rfl, hb⟩
theorem ref03_Mac_ok (w0 : World) (hg : Gs w0) {key_0 : Str} {s_1 : Str} {r : Str} (hS : ref03_Mac key_0 s_1 = some r) :
    Calls Tryd.prog 34 #[str key_0, str s_1] w0 (Ret (fun v w' => v = str r ∧ Below w0.heap.size w0 w')) := by
  unfold ref03_Mac at hS
  have hb := Below.refl w0.heap.size w0
  refine calls_of_ke Tryd.func34 rfl (n := 19) rfl rfl (l := [(0, str key_0), (1, str s_1)]) rfl ?_
  refine ke_seq ?_
  refine ke_region ?_
  refine sr_ev (v := str ([])) (ev_assign rfl) (by decide) ?_
  refine sr_end (l' := [(0, str key_0), (1, str s_1)]) (.cons rfl (.cons rfl (.nil _))) ?_
  refine ke_seq ?_
  refine ke_region ?_
  refine sr_ev (v := str key_0) (ev_move rfl) (by decide) ?_
  refine sr_ev (v := .int .i64 (key_0.length : Int)) (ev_slen Tryd.underlying9 rfl) (by decide) ?_
  obtain ⟨y1, hy2, hS⟩ := bind_some' hS
  refine sr_call (vs := [.int .i64 (key_0.length : Int)]) rfl Tryd.call52 rfl (ref03_decimal_ok fuel _ (hg.below hb) hy2) (by decide) ?_
  rintro _ w3 ⟨rfl, hbw4⟩
  replace hb := hb.trans (hbw4.mono hb.size)
  obtain ⟨hk5, hS⟩ := chk_some hS
  refine sr_ev (v := str (y1 ++ ([58]))) (ev_cat rfl rfl hk5) (by decide) ?_
  refine sr_ev (v := str key_0) (ev_move rfl) (by decide) ?_
  obtain ⟨hk6, hS⟩ := chk_some hS
  refine sr_ev (v := str ((y1 ++ ([58])) ++ key_0)) (ev_cat rfl rfl hk6) (by decide) ?_
  refine sr_ev (v := str ((y1 ++ ([58])) ++ key_0)) (ev_assign rfl) (by decide) ?_
  refine sr_end (l' := [(1, str s_1), (5, str ((y1 ++ ([58])) ++ key_0))]) (.cons rfl (.cons rfl (.nil _))) ?_
  refine ke_seq ?_
  refine ke_region ?_
  refine sr_ev (v := str ((y1 ++ ([58])) ++ key_0)) (ev_move rfl) (by decide) ?_
  refine sr_ev (v := str ((y1 ++ ([58])) ++ key_0)) (ev_move rfl) (by decide) ?_
  refine sr_ev (v := str s_1) (ev_move rfl) (by decide) ?_
  obtain ⟨hk7, hS⟩ := chk_some hS
  refine sr_ev (v := str (((y1 ++ ([58])) ++ key_0) ++ s_1)) (ev_cat rfl rfl hk7) (by decide) ?_
  obtain ⟨y8, hy9, hS⟩ := bind_some' hS
  refine sr_call (vs := [str (((y1 ++ ([58])) ++ key_0) ++ s_1)]) rfl Tryd.call53 rfl (ref03_Text_ok _ (hg.below hb) hy9) (by decide) ?_
  rintro _ w10 ⟨rfl, hbw11⟩
  replace hb := hb.trans (hbw11.mono hb.size)
  obtain ⟨hk12, hS⟩ := chk_some hS
  refine sr_ev (v := str (((y1 ++ ([58])) ++ key_0) ++ y8)) (ev_cat rfl rfl hk12) (by decide) ?_
  obtain ⟨y13, hy14, hS⟩ := bind_some' hS
  refine sr_call (vs := [str (((y1 ++ ([58])) ++ key_0) ++ y8)]) rfl Tryd.call53 rfl (ref03_Text_ok _ (hg.below hb) hy14) (by decide) ?_
  rintro _ w15 ⟨rfl, hbw16⟩
  replace hb := hb.trans (hbw16.mono hb.size)
  refine sr_ev (v := str y13) (ev_assign rfl) (by decide) ?_
  refine sr_end (l' := [(4, str y13)]) (.cons rfl (.nil _)) ?_
  cases hS
  exact ke_ret1 Tryd.func34 rfl rfl ⟨_, rfl, rfl, hb⟩
theorem ref23_six_L1_ok {w0 : World} (hg : Gs w0) : ∀ (n : Nat), ∀ {r : Str} {s_3 : Str}, ref23_six_L1 n s_3 = some r → ∀ {w : World}, (Below w0.heap.size w0 w) → KE Tryd.prog 32 (Ret (fun v w' => v = str r ∧ Below w0.heap.size w0 w')) 12 [.code (sub (bodyOf Tryd.f32) [2, 2, 1, 2, 1]), .inLoop (sub (bodyOf Tryd.f32) [2, 2, 1, 2, 1]), .inBlock 0, .code (sub (bodyOf Tryd.f32) [2, 2, 2])] [(3, str s_3)] w := by
  intro n
  induction n with
  | zero => intro r s_3 hS; cases hS
  | succ n ih =>
    have hr0 : ∀ {r : Str} {s_3 : Str}, ref23_six_L1 n s_3 = some r → ∀ {w : World}, (Below w0.heap.size w0 w) → KE Tryd.prog 32 (Ret (fun v w' => v = str r ∧ Below w0.heap.size w0 w')) 12 [.inLoop (sub (bodyOf Tryd.f32) [2, 2, 1, 2, 1]), .inBlock 0, .code (sub (bodyOf Tryd.f32) [2, 2, 2])] [(3, str s_3)] w := fun {r} {s_3} hS {w} hb => ke_inLoop (ih hS hb)
    clear ih
    intro r s_3 hS w hb
    unfold ref23_six_L1 at hS
    refine ke_seq ?_
    refine ke_seq ?_
    refine ke_region ?_
    refine sr_ev (v := str s_3) (ev_move rfl) (by decide) ?_
    refine sr_ev (v := .int .i64 (s_3.length : Int)) (ev_slen Tryd.underlying9 rfl) (by decide) ?_
    refine sr_ev (v := .bool (decide ((s_3.length : Int) < 6))) (ev_lt rfl rfl) (by decide) ?_
    refine sr_end (l' := [(3, str s_3), (8, .bool (decide ((s_3.length : Int) < 6)))]) (.cons rfl (.cons rfl (.nil _))) ?_
    refine ke_cond (t := decide ((s_3.length : Int) < 6)) rfl (fun hc5 => ?_) (fun hc5 => ?_)
    · replace hS := ite_true' hS hc5
      refine ke_skip ?_
      refine ke_block ?_
      refine ke_region ?_
      refine sr_ev (v := str s_3) (ev_move rfl) (by decide) ?_
      obtain ⟨hk6, hS⟩ := chk_some hS
      refine sr_ev (v := str (([48]) ++ s_3)) (ev_cat rfl rfl hk6) (by decide) ?_
      refine sr_ev (v := str (([48]) ++ s_3)) (ev_assign rfl) (by decide) ?_
      refine sr_end (l' := [(3, str (([48]) ++ s_3))]) (.cons rfl (.nil _)) ?_
      refine ke_inBlock ?_
      have hK := hr0 hS hb
      exact ke_weaken (l' := [(3, str (([48]) ++ s_3))]) (.cons rfl (.nil _)) hK
    · replace hS := ite_false' hS hc5
      refine ke_exit (k' := _) rfl ?_
      refine ke_seq ?_
      refine ke_region ?_
      refine sr_ev (v := str s_3) (ev_move rfl) (by decide) ?_
      refine sr_ev (v := str s_3) (ev_assign rfl) (by decide) ?_
      refine sr_end (l' := [(2, str s_3)]) (.cons rfl (.nil _)) ?_
      cases hS
      exact ke_ret1 Tryd.func32 rfl rfl ⟨_, rfl, rfl, hb⟩
theorem ref23_six_ok (w0 : World) (hg : Gs w0) {n_0 : Int} {r : Str} (hS : ref23_six n_0 = some r) :
    Calls Tryd.prog 32 #[.int .i64 n_0] w0 (Ret (fun v w' => v = str r ∧ Below w0.heap.size w0 w')) := by
  unfold ref23_six at hS
  have hb := Below.refl w0.heap.size w0
  refine calls_of_ke Tryd.func32 rfl (n := 12) rfl rfl (l := [(0, .int .i64 n_0)]) rfl ?_
  refine ke_seq ?_
  refine ke_region ?_
  refine sr_ev (v := str ([])) (ev_assign rfl) (by decide) ?_
  refine sr_end (l' := [(0, .int .i64 n_0)]) (.cons rfl (.nil _)) ?_
  refine ke_seq ?_
  refine ke_region ?_
  refine sr_ev (v := .int .i64 n_0) (ev_move rfl) (by decide) ?_
  obtain ⟨y1, hy2, hS⟩ := bind_some' hS
  refine sr_call (vs := [.int .i64 n_0]) rfl Tryd.call35 rfl (ref02_Int_ok _ (hg.below hb) hy2) (by decide) ?_
  rintro _ w3 ⟨rfl, hbw4⟩
  replace hb := hb.trans (hbw4.mono hb.size)
  refine sr_ev (v := str y1) (ev_assign rfl) (by decide) ?_
  refine sr_end (l' := [(3, str y1)]) (.cons rfl (.nil _)) ?_
  refine ke_seq ?_
  refine ke_block ?_
  have hK := ref23_six_L1_ok hg _ hS hb
  exact ke_weaken (l' := [(3, str y1)]) (.cons rfl (.nil _)) (ke_loop hK)
theorem ref23_Code_ok (w0 : World) (hg : Gs w0) {secret_0 : Str} {counter_1 : Int} {r : Str × Int} (hS : ref23_Code secret_0 counter_1 = some r) :
    Calls Tryd.prog 11 #[str secret_0, .int .i64 counter_1] w0 (Ret (fun v w' => v = .tuple #[str r.1, .int .i64 r.2] ∧ Below w0.heap.size w0 w')) := by
  unfold ref23_Code at hS
  have hb := Below.refl w0.heap.size w0
  refine calls_of_ke Tryd.func11 rfl (n := 23) rfl rfl (l := [(0, str secret_0), (1, .int .i64 counter_1)]) rfl ?_
  refine ke_seq ?_
  refine ke_region ?_
  refine sr_ev (v := str ([])) (ev_assign rfl) (by decide) ?_
  refine sr_ev (v := .int .i64 0) (ev_assign rfl) (by decide) ?_
  refine sr_end (l' := [(0, str secret_0), (1, .int .i64 counter_1)]) (.cons rfl (.cons rfl (.nil _))) ?_
  refine ke_seq ?_
  refine ke_seq ?_
  refine ke_region ?_
  refine sr_ev (v := str secret_0) (ev_move rfl) (by decide) ?_
  obtain ⟨y1, hy2, hS⟩ := bind_some' hS
  refine sr_call (vs := [str secret_0]) rfl Tryd.call31 rfl (ref01_Clean_ok _ (hg.below hb) hy2) (by decide) ?_
  rintro _ w3 ⟨rfl, hbw4⟩
  replace hb := hb.trans (hbw4.mono hb.size)
  refine sr_ev (v := .bool (!y1)) (ev_not rfl) (by decide) ?_
  refine sr_end (l' := [(0, str secret_0), (1, .int .i64 counter_1), (8, .bool (!y1))]) (.cons rfl (.cons rfl (.cons rfl (.nil _)))) ?_
  refine ke_cond (t := !y1) rfl (fun hc5 => ?_) (fun hc5 => ?_)
  · replace hS := ite_true' hS hc5
    refine ke_seq ?_
    refine ke_region ?_
    refine sr_ev (v := str ([])) (ev_assign rfl) (by decide) ?_
    refine sr_ev (v := .int .i64 4) (ev_assign rfl) (by decide) ?_
    refine sr_end (l' := [(4, str ([])), (5, .int .i64 4)]) (.cons rfl (.cons rfl (.nil _))) ?_
    cases hS
    exact ke_ret2 Tryd.func11 rfl rfl rfl ⟨_, rfl, rfl, hb⟩
  · replace hS := ite_false' hS hc5
    refine ke_skip ?_
    refine ke_seq ?_
    refine ke_seq ?_
    refine ke_region ?_
    refine sr_ev (v := .int .i64 counter_1) (ev_move rfl) (by decide) ?_
    refine sr_ev (v := .bool (decide (counter_1 < 0))) (ev_lt rfl rfl) (by decide) ?_
    refine sr_ev (v := .bool (decide (counter_1 < 0))) (ev_move rfl) (by decide) ?_
    refine sr_join (m := 3) (C := fun (x : Bool) w1 => x = ((decide (counter_1 < 0)) || (decide (counter_1 > 36650387592))) ∧ w3 = w1) (l' := fun x => [(0, str secret_0), (1, .int .i64 counter_1), (14, .bool x)]) ?_ ?_
    · rintro _ _ ⟨rfl, rfl⟩
      refine sr_end (l' := [(0, str secret_0), (1, .int .i64 counter_1), (14, .bool ((decide (counter_1 < 0)) || (decide (counter_1 > 36650387592))))]) (.cons rfl (.cons rfl (.cons rfl (.nil _)))) ?_
      refine ke_cond (t := (decide (counter_1 < 0)) || (decide (counter_1 > 36650387592))) rfl (fun hc13 => ?_) (fun hc13 => ?_)
      · replace hS := ite_true' hS hc13
        refine ke_seq ?_
        refine ke_region ?_
        refine sr_ev (v := str ([])) (ev_assign rfl) (by decide) ?_
        refine sr_ev (v := .int .i64 27) (ev_assign rfl) (by decide) ?_
        refine sr_end (l' := [(4, str ([])), (5, .int .i64 27)]) (.cons rfl (.cons rfl (.nil _))) ?_
        cases hS
        exact ke_ret2 Tryd.func11 rfl rfl rfl ⟨_, rfl, rfl, hb⟩
      · replace hS := ite_false' hS hc13
        refine ke_skip ?_
        refine ke_seq ?_
        refine ke_region ?_
        refine sr_ev (v := str secret_0) (ev_move rfl) (by decide) ?_
        refine sr_ev (v := .int .i64 counter_1) (ev_move rfl) (by decide) ?_
        obtain ⟨y14, hy15, hS⟩ := bind_some' hS
        refine sr_call (vs := [.int .i64 counter_1]) rfl Tryd.call35 rfl (ref02_Int_ok _ (hg.below hb) hy15) (by decide) ?_
        rintro _ w16 ⟨rfl, hbw17⟩
        replace hb := hb.trans (hbw17.mono hb.size)
        obtain ⟨y18, hy19, hS⟩ := bind_some' hS
        refine sr_call (vs := [str secret_0, str y14]) rfl Tryd.call34 rfl (ref03_Mac_ok _ (hg.below hb) hy19) (by decide) ?_
        rintro _ w20 ⟨rfl, hbw21⟩
        replace hb := hb.trans (hbw21.mono hb.size)
        obtain ⟨y22, hy23, hS⟩ := bind_some' hS
        refine sr_call (vs := [str y18]) rfl Tryd.call33 rfl (ref03_Sum_ok _ (hg.below hb) hy23) (by decide) ?_
        rintro _ w24 ⟨rfl, hbw25⟩
        replace hb := hb.trans (hbw25.mono hb.size)
        refine sr_ev (v := .int .u64 (Int.tmod y22 1000000)) (ev_rem rfl rfl (by decide)) (by decide) ?_
        refine sr_ev (v := .int .i64 (IntKind.i64.wrap (Int.tmod y22 1000000))) (ev_conv Tryd.underlying3 Tryd.underlying48 rfl) (by decide) ?_
        obtain ⟨y26, hy27, hS⟩ := bind_some' hS
        refine sr_call (vs := [.int .i64 (IntKind.i64.wrap (Int.tmod y22 1000000))]) rfl Tryd.call32 rfl (ref23_six_ok _ (hg.below hb) hy27) (by decide) ?_
        rintro _ w28 ⟨rfl, hbw29⟩
        replace hb := hb.trans (hbw29.mono hb.size)
        refine sr_ev (v := str y26) (ev_assign rfl) (by decide) ?_
        refine sr_ev (v := .int .i64 0) (ev_assign rfl) (by decide) ?_
        refine sr_end (l' := [(4, str y26), (5, .int .i64 0)]) (.cons rfl (.cons rfl (.nil _))) ?_
        cases hS
        exact ke_ret2 Tryd.func11 rfl rfl rfl ⟨_, rfl, rfl, hb⟩
    · intro K7
      rcases Bool.eq_false_or_eq_true (decide (counter_1 < 0)) with hg6 | hg6
      · refine sr_pass (e := 11) rfl rfl (by rw [hg6]; rfl) (by decide) ?_
        refine sr_pass (e := 11) rfl rfl (by rw [hg6]; rfl) (by decide) ?_
        refine sr_ev (v := .bool true) (ev_pick_t rfl hg6 rfl) (by decide) ?_
        exact sr_weaken (l' := [(0, str secret_0), (1, .int .i64 counter_1), (14, .bool true)]) (.cons rfl (.cons rfl (.cons rfl (.nil _)))) (K7 true _ ⟨by rw [hg6]; rfl, rfl⟩)
      · refine sr_evg (b := false) (e := 11) rfl rfl hg6 (v := .int .i64 counter_1) (ev_move rfl) (by decide) ?_
        refine sr_evg (b := false) (e := 11) rfl rfl hg6 (v := .bool (decide (counter_1 > 36650387592))) (ev_gt rfl rfl) (by decide) ?_
        refine sr_ev (v := .bool (decide (counter_1 > 36650387592))) (ev_pick_f rfl hg6 rfl) (by decide) ?_
        exact sr_weaken (l' := [(0, str secret_0), (1, .int .i64 counter_1), (14, .bool (decide (counter_1 > 36650387592)))]) (.cons rfl (.cons rfl (.cons rfl (.nil _)))) (K7 (decide (counter_1 > 36650387592)) _ ⟨by rw [hg6]; rfl, rfl⟩)
theorem ref04_Limit_ok (w0 : World) (hg : Gs w0) {t_0 : Int} {r : Int} (hS : ref04_Limit t_0 = some r) :
    Calls Tryd.prog 36 #[.int .i64 t_0] w0 (Ret (fun v w' => v = .int .i64 r ∧ Below w0.heap.size w0 w')) := by
  unfold ref04_Limit at hS
  have hb := Below.refl w0.heap.size w0
  refine calls_of_ke Tryd.func36 rfl (n := 6) rfl rfl (l := [(0, .int .i64 t_0)]) rfl ?_
  refine ke_seq ?_
  refine ke_region ?_
  refine sr_ev (v := .int .i64 0) (ev_assign rfl) (by decide) ?_
  refine sr_end (l' := [(0, .int .i64 t_0)]) (.cons rfl (.nil _)) ?_
  refine ke_seq ?_
  refine ke_region ?_
  refine sr_ev (v := .int .i64 t_0) (ev_move rfl) (by decide) ?_
  refine sr_ev (v := .int .i64 (gmin t_0 1099511627776)) (ev_min rfl rfl) (by decide) ?_
  refine sr_ev (v := .int .i64 (gmax 0 (gmin t_0 1099511627776))) (ev_max rfl rfl) (by decide) ?_
  refine sr_ev (v := .int .i64 (gmax 0 (gmin t_0 1099511627776))) (ev_assign rfl) (by decide) ?_
  refine sr_end (l' := [(2, .int .i64 (gmax 0 (gmin t_0 1099511627776)))]) (.cons rfl (.nil _)) ?_
  cases hS
  exact ke_ret1 Tryd.func36 rfl rfl ⟨_, rfl, rfl, hb⟩
theorem ref23_Counter_ok (w0 : World) (hg : Gs w0) {now_0 : Int} {r : Int} (hS : ref23_Counter now_0 = some r) :
    Calls Tryd.prog 13 #[.int .i64 now_0] w0 (Ret (fun v w' => v = .int .i64 r ∧ Below w0.heap.size w0 w')) := by
  unfold ref23_Counter at hS
  have hb := Below.refl w0.heap.size w0
  refine calls_of_ke Tryd.func13 rfl (n := 6) rfl rfl (l := [(0, .int .i64 now_0)]) rfl ?_
  refine ke_seq ?_
  refine ke_region ?_
  refine sr_ev (v := .int .i64 0) (ev_assign rfl) (by decide) ?_
  refine sr_end (l' := [(0, .int .i64 now_0)]) (.cons rfl (.nil _)) ?_
  refine ke_seq ?_
  refine ke_region ?_
  refine sr_ev (v := .int .i64 now_0) (ev_move rfl) (by decide) ?_
  obtain ⟨y1, hy2, hS⟩ := bind_some' hS
  refine sr_call (vs := [.int .i64 now_0]) rfl Tryd.call36 rfl (ref04_Limit_ok _ (hg.below hb) hy2) (by decide) ?_
  rintro _ w3 ⟨rfl, hbw4⟩
  replace hb := hb.trans (hbw4.mono hb.size)
  refine sr_ev (v := .int .i64 (IntKind.i64.wrap (y1.tdiv 30))) (ev_quo rfl rfl (by decide)) (by decide) ?_
  refine sr_ev (v := .int .i64 (IntKind.i64.wrap (y1.tdiv 30))) (ev_assign rfl) (by decide) ?_
  refine sr_end (l' := [(2, .int .i64 (IntKind.i64.wrap (y1.tdiv 30)))]) (.cons rfl (.nil _)) ?_
  cases hS
  exact ke_ret1 Tryd.func13 rfl rfl ⟨_, rfl, rfl, hb⟩
theorem law23_OtpCodes_ok (w0 : World) (hg : Gs w0) {secret_0 : Str} {counter_1 : Int} {r : Bool} (hS : law23_OtpCodes secret_0 counter_1 = some r) :
    Calls Tryd.prog 3 #[str secret_0, .int .i64 counter_1] w0 (Ret (fun v w' => v = .bool r ∧ Below w0.heap.size w0 w')) := by
  unfold law23_OtpCodes at hS
  have hb := Below.refl w0.heap.size w0
  refine calls_of_ke Tryd.func3 rfl (n := 43) rfl rfl (l := [(0, str secret_0), (1, .int .i64 counter_1)]) rfl ?_
  refine ke_seq ?_
  refine ke_region ?_
  refine sr_ev (v := .bool false) (ev_assign rfl) (by decide) ?_
  refine sr_end (l' := [(0, str secret_0), (1, .int .i64 counter_1)]) (.cons rfl (.cons rfl (.nil _))) ?_
  refine ke_seq ?_
  refine ke_seq ?_
  refine ke_region ?_
  refine sr_ev (v := str secret_0) (ev_move rfl) (by decide) ?_
  refine sr_ev (v := .int .i64 (secret_0.length : Int)) (ev_slen Tryd.underlying9 rfl) (by decide) ?_
  refine sr_ev (v := .bool (decide ((secret_0.length : Int) > 300))) (ev_gt rfl rfl) (by decide) ?_
  refine sr_end (l' := [(0, str secret_0), (1, .int .i64 counter_1), (11, .bool (decide ((secret_0.length : Int) > 300)))]) (.cons rfl (.cons rfl (.cons rfl (.nil _)))) ?_
  refine ke_cond (t := decide ((secret_0.length : Int) > 300)) rfl (fun hc1 => ?_) (fun hc1 => ?_)
  · replace hS := ite_true' hS hc1
    refine ke_seq ?_
    refine ke_region ?_
    obtain ⟨y2, hy3, hS⟩ := bind_some' hS
    refine sr_call (vs := []) rfl Tryd.call9 rfl (law23_alive_ok _ (hg.below hb) hy3) (by decide) ?_
    rintro _ w4 ⟨rfl, hbw5⟩
    replace hb := hb.trans (hbw5.mono hb.size)
    refine sr_ev (v := .bool y2) (ev_assign rfl) (by decide) ?_
    refine sr_end (l' := [(4, .bool y2)]) (.cons rfl (.nil _)) ?_
    cases hS
    exact ke_ret1 Tryd.func3 rfl rfl ⟨_, rfl, rfl, hb⟩
  · replace hS := ite_false' hS hc1
    refine ke_skip ?_
    refine ke_seq ?_
    refine ke_region ?_
    refine sr_ev (v := str secret_0) (ev_move rfl) (by decide) ?_
    refine sr_ev (v := .int .i64 counter_1) (ev_move rfl) (by decide) ?_
    obtain ⟨y6, hy7, hS⟩ := bind_some' hS
    refine sr_call (vs := [str secret_0, .int .i64 counter_1]) rfl Tryd.call10 rfl (otp_Code_ok _ (hg.below hb) hy7) (by decide) ?_
    rintro _ w8 ⟨rfl, hbw9⟩
    replace hb := hb.trans (hbw9.mono hb.size)
    refine sr_ev (v := .tuple #[str y6.1, .int .i64 y6.2]) (ev_move rfl) (by decide) ?_
    refine sr_ev (v := str y6.1) (ev_extract rfl rfl) (by decide) ?_
    refine sr_ev (v := .int .i64 y6.2) (ev_extract rfl rfl) (by decide) ?_
    refine sr_ev (v := str y6.1) (ev_assign rfl) (by decide) ?_
    refine sr_ev (v := .int .i64 y6.2) (ev_assign rfl) (by decide) ?_
    refine sr_end (l' := [(0, str secret_0), (1, .int .i64 counter_1), (5, str y6.1), (6, .int .i64 y6.2)]) (.cons rfl (.cons rfl (.cons rfl (.cons rfl (.nil _))))) ?_
    refine ke_seq ?_
    refine ke_region ?_
    refine sr_ev (v := str secret_0) (ev_move rfl) (by decide) ?_
    refine sr_ev (v := .int .i64 counter_1) (ev_move rfl) (by decide) ?_
    obtain ⟨y10, hy11, hS⟩ := bind_some' hS
    refine sr_call (vs := [str secret_0, .int .i64 counter_1]) rfl Tryd.call11 rfl (ref23_Code_ok _ (hg.below hb) hy11) (by decide) ?_
    rintro _ w12 ⟨rfl, hbw13⟩
    replace hb := hb.trans (hbw13.mono hb.size)
    refine sr_ev (v := .tuple #[str y10.1, .int .i64 y10.2]) (ev_move rfl) (by decide) ?_
    refine sr_ev (v := str y10.1) (ev_extract rfl rfl) (by decide) ?_
    refine sr_ev (v := .int .i64 y10.2) (ev_extract rfl rfl) (by decide) ?_
    refine sr_ev (v := str y10.1) (ev_assign rfl) (by decide) ?_
    refine sr_ev (v := .int .i64 y10.2) (ev_assign rfl) (by decide) ?_
    refine sr_end (l' := [(1, .int .i64 counter_1), (5, str y6.1), (6, .int .i64 y6.2), (7, str y10.1), (8, .int .i64 y10.2)]) (.cons rfl (.cons rfl (.cons rfl (.cons rfl (.cons rfl (.nil _)))))) ?_
    refine ke_seq ?_
    refine ke_region ?_
    refine sr_ev (v := str y6.1) (ev_move rfl) (by decide) ?_
    refine sr_ev (v := str y10.1) (ev_move rfl) (by decide) ?_
    refine sr_ev (v := .bool (y6.1 == y10.1)) (ev_seq rfl rfl) (by decide) ?_
    refine sr_ev (v := .bool (y6.1 == y10.1)) (ev_move rfl) (by decide) ?_
    refine sr_join (m := 4) (C := fun (x : Bool) w1 => x = ((y6.1 == y10.1) && (y6.2 == y10.2)) ∧ w12 = w1) (l' := fun x => [(1, .int .i64 counter_1), (32, .bool x)]) ?_ ?_
    · rintro _ _ ⟨rfl, rfl⟩
      refine sr_ev (v := .bool ((y6.1 == y10.1) && (y6.2 == y10.2))) (ev_move rfl) (by decide) ?_
      obtain ⟨z23, hz25, hS⟩ := bind_some' hS
      refine sr_join (m := 6) (C := fun (x : Bool) w1 => z23 = x ∧ Below w12.heap.size w12 w1) (l' := fun x => [(39, .bool x)]) ?_ ?_
      · rintro _ w26 ⟨rfl, hbw27⟩
        replace hb := hb.trans (hbw27.mono hb.size)
        refine sr_ev (v := .bool z23) (ev_move rfl) (by decide) ?_
        obtain ⟨z38, hz40, hS⟩ := bind_some' hS
        refine sr_join (m := 2) (C := fun (x : Bool) w1 => z38 = x ∧ Below w26.heap.size w26 w1) (l' := fun x => [(42, .bool x)]) ?_ ?_
        · rintro _ w41 ⟨rfl, hbw42⟩
          replace hb := hb.trans (hbw42.mono hb.size)
          refine sr_ev (v := .bool z38) (ev_assign rfl) (by decide) ?_
          refine sr_end (l' := [(4, .bool z38)]) (.cons rfl (.nil _)) ?_
          cases hS
          exact ke_ret1 Tryd.func3 rfl rfl ⟨_, rfl, rfl, hb⟩
        · intro K37
          clear hS
          have hj39 := Below.refl w26.heap.size w26
          rcases Bool.eq_false_or_eq_true z23 with hg36 | hg36
          · have hS := ite_true' hz40 hg36
            obtain ⟨y43, hy44, hS⟩ := bind_some' hS
            refine sr_callg (b := true) (e := 40) rfl rfl hg36 (vs := []) rfl Tryd.call9 rfl (law23_alive_ok _ (hg.below hb) hy44) (by decide) ?_
            rintro _ w45 ⟨rfl, hbw46⟩
            replace hb := hb.trans (hbw46.mono hb.size)
            replace hj39 := hj39.trans (hbw46.mono hj39.size)
            refine sr_ev (v := .bool y43) (ev_pick_t rfl hg36 rfl) (by decide) ?_
            exact sr_weaken (l' := [(42, .bool y43)]) (.cons rfl (.nil _)) (K37 y43 _ ⟨(Option.some.inj hS).symm, hj39⟩)
          · have hS := ite_false' hz40 hg36
            refine sr_pass (e := 40) rfl rfl (by rw [hg36]; rfl) (by decide) ?_
            refine sr_ev (v := .bool false) (ev_pick_f rfl hg36 rfl) (by decide) ?_
            exact sr_weaken (l' := [(42, .bool false)]) (.cons rfl (.nil _)) (K37 false _ ⟨(Option.some.inj hS).symm, hj39⟩)
      · intro K22
        clear hS
        have hj24 := Below.refl w12.heap.size w12
        rcases Bool.eq_false_or_eq_true ((y6.1 == y10.1) && (y6.2 == y10.2)) with hg21 | hg21
        · have hS := ite_true' hz25 hg21
          refine sr_evg (b := true) (e := 33) rfl rfl hg21 (v := .int .i64 counter_1) (ev_move rfl) (by decide) ?_
          obtain ⟨y28, hy29, hS⟩ := bind_some' hS
          refine sr_callg (b := true) (e := 33) rfl rfl hg21 (vs := [.int .i64 counter_1]) rfl Tryd.call12 rfl (otp_Counter_ok _ (hg.below hb) hy29) (by decide) ?_
          rintro _ w30 ⟨rfl, hbw31⟩
          replace hb := hb.trans (hbw31.mono hb.size)
          replace hj24 := hj24.trans (hbw31.mono hj24.size)
          refine sr_evg (b := true) (e := 33) rfl rfl hg21 (v := .int .i64 counter_1) (ev_move rfl) (by decide) ?_
          obtain ⟨y32, hy33, hS⟩ := bind_some' hS
          refine sr_callg (b := true) (e := 33) rfl rfl hg21 (vs := [.int .i64 counter_1]) rfl Tryd.call13 rfl (ref23_Counter_ok _ (hg.below hb) hy33) (by decide) ?_
          rintro _ w34 ⟨rfl, hbw35⟩
          replace hb := hb.trans (hbw35.mono hb.size)
          replace hj24 := hj24.trans (hbw35.mono hj24.size)
          refine sr_evg (b := true) (e := 33) rfl rfl hg21 (v := .bool (y28 == y32)) (ev_eq rfl rfl) (by decide) ?_
          refine sr_ev (v := .bool (y28 == y32)) (ev_pick_t rfl hg21 rfl) (by decide) ?_
          exact sr_weaken (l' := [(39, .bool (y28 == y32))]) (.cons rfl (.nil _)) (K22 (y28 == y32) _ ⟨(Option.some.inj hS).symm, hj24⟩)
        · have hS := ite_false' hz25 hg21
          refine sr_pass (e := 33) rfl rfl (by rw [hg21]; rfl) (by decide) ?_
          refine sr_pass (e := 33) rfl rfl (by rw [hg21]; rfl) (by decide) ?_
          refine sr_pass (e := 33) rfl rfl (by rw [hg21]; rfl) (by decide) ?_
          refine sr_pass (e := 33) rfl rfl (by rw [hg21]; rfl) (by decide) ?_
          refine sr_pass (e := 33) rfl rfl (by rw [hg21]; rfl) (by decide) ?_
          refine sr_ev (v := .bool false) (ev_pick_f rfl hg21 rfl) (by decide) ?_
          exact sr_weaken (l' := [(39, .bool false)]) (.cons rfl (.nil _)) (K22 false _ ⟨(Option.some.inj hS).symm, hj24⟩)
    · intro K15
      rcases Bool.eq_false_or_eq_true (y6.1 == y10.1) with hg14 | hg14
      · refine sr_evg (b := true) (e := 28) rfl rfl hg14 (v := .int .i64 y6.2) (ev_move rfl) (by decide) ?_
        refine sr_evg (b := true) (e := 28) rfl rfl hg14 (v := .int .i64 y10.2) (ev_move rfl) (by decide) ?_
        refine sr_evg (b := true) (e := 28) rfl rfl hg14 (v := .bool (y6.2 == y10.2)) (ev_eq rfl rfl) (by decide) ?_
        refine sr_ev (v := .bool (y6.2 == y10.2)) (ev_pick_t rfl hg14 rfl) (by decide) ?_
        exact sr_weaken (l' := [(1, .int .i64 counter_1), (32, .bool (y6.2 == y10.2))]) (.cons rfl (.cons rfl (.nil _))) (K15 (y6.2 == y10.2) _ ⟨by rw [hg14]; rfl, rfl⟩)
      · refine sr_pass (e := 28) rfl rfl (by rw [hg14]; rfl) (by decide) ?_
        refine sr_pass (e := 28) rfl rfl (by rw [hg14]; rfl) (by decide) ?_
        refine sr_pass (e := 28) rfl rfl (by rw [hg14]; rfl) (by decide) ?_
        refine sr_ev (v := .bool false) (ev_pick_f rfl hg14 rfl) (by decide) ?_
        exact sr_weaken (l' := [(1, .int .i64 counter_1), (32, .bool false)]) (.cons rfl (.cons rfl (.nil _))) (K15 false _ ⟨by rw [hg14]; rfl, rfl⟩)

end YtnhlljejhjbepaaDoor
end Go.Proofs
