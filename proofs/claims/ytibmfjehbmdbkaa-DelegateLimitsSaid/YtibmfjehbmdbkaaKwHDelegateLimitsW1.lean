/- Own work: a part of the proofs of this seat. -/
import Derived.Test.YtibmfjehbmdbkaaProg
import Derived.Test.YtibmfjehbmdbkaaShelf
import Derived.Test.YtibmfjehbmdbkaaIter
import Derived.Test.YtibmfjehbmdbkaaKwHS
import Derived.KernelRfl
set_option linter.unusedVariables false
set_option linter.unusedSimpArgs false
set_option linter.unusedSectionVars false
set_option maxHeartbeats 8000000
set_option maxRecDepth 8000
namespace Go.Proofs
namespace Ytibmfjehbmdbkaa
open Go Go.KW Go.KW.S Go.RowKit
theorem Try.mixed : Try.prog.follows .mixedOrders = true := by kernel_rfl
theorem Try.info0 : Try.prog.info? 0 = some Try.t0 := by kernel_rfl
theorem Try.info1 : Try.prog.info? 1 = some Try.t1 := by kernel_rfl
theorem Try.info2 : Try.prog.info? 2 = some Try.t2 := by kernel_rfl
theorem Try.info3 : Try.prog.info? 3 = some Try.t3 := by kernel_rfl
theorem Try.info4 : Try.prog.info? 4 = some Try.t4 := by kernel_rfl
theorem Try.info5 : Try.prog.info? 5 = some Try.t5 := by kernel_rfl
theorem Try.info6 : Try.prog.info? 6 = some Try.t6 := by kernel_rfl
theorem Try.info7 : Try.prog.info? 7 = some Try.t7 := by kernel_rfl
theorem Try.info8 : Try.prog.info? 8 = some Try.t8 := by kernel_rfl
theorem Try.info9 : Try.prog.info? 9 = some Try.t9 := by kernel_rfl
theorem Try.info10 : Try.prog.info? 10 = some Try.t10 := by kernel_rfl
theorem Try.info11 : Try.prog.info? 11 = some Try.t11 := by kernel_rfl
theorem Try.info12 : Try.prog.info? 12 = some Try.t12 := by kernel_rfl
theorem Try.info13 : Try.prog.info? 13 = some Try.t13 := by kernel_rfl
theorem Try.info14 : Try.prog.info? 14 = some Try.t14 := by kernel_rfl
theorem Try.info15 : Try.prog.info? 15 = some Try.t15 := by kernel_rfl
theorem Try.info16 : Try.prog.info? 16 = some Try.t16 := by kernel_rfl
theorem Try.info17 : Try.prog.info? 17 = some Try.t17 := by kernel_rfl
theorem Try.info18 : Try.prog.info? 18 = some Try.t18 := by kernel_rfl
theorem Try.info19 : Try.prog.info? 19 = some Try.t19 := by kernel_rfl
theorem Try.info20 : Try.prog.info? 20 = some Try.t20 := by kernel_rfl
theorem Try.info21 : Try.prog.info? 21 = some Try.t21 := by kernel_rfl
theorem Try.info22 : Try.prog.info? 22 = some Try.t22 := by kernel_rfl
theorem Try.info23 : Try.prog.info? 23 = some Try.t23 := by kernel_rfl
theorem Try.info24 : Try.prog.info? 24 = some Try.t24 := by kernel_rfl
theorem Try.info25 : Try.prog.info? 25 = some Try.t25 := by kernel_rfl
theorem Try.info26 : Try.prog.info? 26 = some Try.t26 := by kernel_rfl
theorem Try.info27 : Try.prog.info? 27 = some Try.t27 := by kernel_rfl
theorem Try.info28 : Try.prog.info? 28 = some Try.t28 := by kernel_rfl
theorem Try.info29 : Try.prog.info? 29 = some Try.t29 := by kernel_rfl
theorem Try.info30 : Try.prog.info? 30 = some Try.t30 := by kernel_rfl
theorem Try.info31 : Try.prog.info? 31 = some Try.t31 := by kernel_rfl
theorem Try.info32 : Try.prog.info? 32 = some Try.t32 := by kernel_rfl
theorem Try.info33 : Try.prog.info? 33 = some Try.t33 := by kernel_rfl
theorem Try.info34 : Try.prog.info? 34 = some Try.t34 := by kernel_rfl
theorem Try.info35 : Try.prog.info? 35 = some Try.t35 := by kernel_rfl
theorem Try.info36 : Try.prog.info? 36 = some Try.t36 := by kernel_rfl
theorem Try.info37 : Try.prog.info? 37 = some Try.t37 := by kernel_rfl
theorem Try.info38 : Try.prog.info? 38 = some Try.t38 := by kernel_rfl
theorem Try.info39 : Try.prog.info? 39 = some Try.t39 := by kernel_rfl
theorem Try.info40 : Try.prog.info? 40 = some Try.t40 := by kernel_rfl
theorem Try.info41 : Try.prog.info? 41 = some Try.t41 := by kernel_rfl
theorem Try.info42 : Try.prog.info? 42 = some Try.t42 := by kernel_rfl
theorem Try.info43 : Try.prog.info? 43 = some Try.t43 := by kernel_rfl
theorem Try.info44 : Try.prog.info? 44 = some Try.t44 := by kernel_rfl
theorem Try.info45 : Try.prog.info? 45 = some Try.t45 := by kernel_rfl
theorem Try.info46 : Try.prog.info? 46 = some Try.t46 := by kernel_rfl
theorem Try.info47 : Try.prog.info? 47 = some Try.t47 := by kernel_rfl
theorem Try.info48 : Try.prog.info? 48 = some Try.t48 := by kernel_rfl
theorem Try.info49 : Try.prog.info? 49 = some Try.t49 := by kernel_rfl
theorem Try.info50 : Try.prog.info? 50 = some Try.t50 := by kernel_rfl
theorem Try.info51 : Try.prog.info? 51 = some Try.t51 := by kernel_rfl
theorem Try.info52 : Try.prog.info? 52 = some Try.t52 := by kernel_rfl
theorem Try.info53 : Try.prog.info? 53 = some Try.t53 := by kernel_rfl
theorem Try.info54 : Try.prog.info? 54 = some Try.t54 := by kernel_rfl
theorem Try.info55 : Try.prog.info? 55 = some Try.t55 := by kernel_rfl
theorem Try.info56 : Try.prog.info? 56 = some Try.t56 := by kernel_rfl
theorem Try.info57 : Try.prog.info? 57 = some Try.t57 := by kernel_rfl
theorem Try.info58 : Try.prog.info? 58 = some Try.t58 := by kernel_rfl
theorem Try.info59 : Try.prog.info? 59 = some Try.t59 := by kernel_rfl
theorem Try.info60 : Try.prog.info? 60 = some Try.t60 := by kernel_rfl
theorem Try.info61 : Try.prog.info? 61 = some Try.t61 := by kernel_rfl
theorem Try.info62 : Try.prog.info? 62 = some Try.t62 := by kernel_rfl
theorem Try.info63 : Try.prog.info? 63 = some Try.t63 := by kernel_rfl
theorem Try.info64 : Try.prog.info? 64 = some Try.t64 := by kernel_rfl
theorem Try.info65 : Try.prog.info? 65 = some Try.t65 := by kernel_rfl
theorem Try.info66 : Try.prog.info? 66 = some Try.t66 := by kernel_rfl
theorem Try.info67 : Try.prog.info? 67 = some Try.t67 := by kernel_rfl
theorem Try.info68 : Try.prog.info? 68 = some Try.t68 := by kernel_rfl
theorem Try.info69 : Try.prog.info? 69 = some Try.t69 := by kernel_rfl
theorem Try.info70 : Try.prog.info? 70 = some Try.t70 := by kernel_rfl
theorem Try.info71 : Try.prog.info? 71 = some Try.t71 := by kernel_rfl
theorem Try.info72 : Try.prog.info? 72 = some Try.t72 := by kernel_rfl
theorem Try.info73 : Try.prog.info? 73 = some Try.t73 := by kernel_rfl
theorem Try.info74 : Try.prog.info? 74 = some Try.t74 := by kernel_rfl
theorem Try.info75 : Try.prog.info? 75 = some Try.t75 := by kernel_rfl
theorem Try.info76 : Try.prog.info? 76 = some Try.t76 := by kernel_rfl
theorem Try.info77 : Try.prog.info? 77 = some Try.t77 := by kernel_rfl
theorem Try.info78 : Try.prog.info? 78 = some Try.t78 := by kernel_rfl
theorem Try.info79 : Try.prog.info? 79 = some Try.t79 := by kernel_rfl
theorem Try.info80 : Try.prog.info? 80 = some Try.t80 := by kernel_rfl
theorem Try.info81 : Try.prog.info? 81 = some Try.t81 := by kernel_rfl
theorem Try.info82 : Try.prog.info? 82 = some Try.t82 := by kernel_rfl
theorem Try.info83 : Try.prog.info? 83 = some Try.t83 := by kernel_rfl
theorem Try.info84 : Try.prog.info? 84 = some Try.t84 := by kernel_rfl
theorem Try.info85 : Try.prog.info? 85 = some Try.t85 := by kernel_rfl
theorem Try.info86 : Try.prog.info? 86 = some Try.t86 := by kernel_rfl
theorem Try.info87 : Try.prog.info? 87 = some Try.t87 := by kernel_rfl
theorem Try.info88 : Try.prog.info? 88 = some Try.t88 := by kernel_rfl
theorem Try.info89 : Try.prog.info? 89 = some Try.t89 := by kernel_rfl
theorem Try.info90 : Try.prog.info? 90 = some Try.t90 := by kernel_rfl
theorem Try.info91 : Try.prog.info? 91 = some Try.t91 := by kernel_rfl
theorem Try.info92 : Try.prog.info? 92 = some Try.t92 := by kernel_rfl
theorem Try.info93 : Try.prog.info? 93 = some Try.t93 := by kernel_rfl
theorem Try.info94 : Try.prog.info? 94 = some Try.t94 := by kernel_rfl
theorem Try.info95 : Try.prog.info? 95 = some Try.t95 := by kernel_rfl
theorem Try.info96 : Try.prog.info? 96 = some Try.t96 := by kernel_rfl
theorem Try.info97 : Try.prog.info? 97 = some Try.t97 := by kernel_rfl
theorem Try.info98 : Try.prog.info? 98 = some Try.t98 := by kernel_rfl
theorem Try.info99 : Try.prog.info? 99 = some Try.t99 := by kernel_rfl
theorem Try.info100 : Try.prog.info? 100 = some Try.t100 := by kernel_rfl
theorem Try.info101 : Try.prog.info? 101 = some Try.t101 := by kernel_rfl
theorem Try.info102 : Try.prog.info? 102 = some Try.t102 := by kernel_rfl
theorem Try.info103 : Try.prog.info? 103 = some Try.t103 := by kernel_rfl
theorem Try.info104 : Try.prog.info? 104 = some Try.t104 := by kernel_rfl
theorem Try.info105 : Try.prog.info? 105 = some Try.t105 := by kernel_rfl
theorem Try.info106 : Try.prog.info? 106 = some Try.t106 := by kernel_rfl
theorem Try.info107 : Try.prog.info? 107 = some Try.t107 := by kernel_rfl
theorem Try.info108 : Try.prog.info? 108 = some Try.t108 := by kernel_rfl
theorem Try.info109 : Try.prog.info? 109 = some Try.t109 := by kernel_rfl
theorem Try.info110 : Try.prog.info? 110 = some Try.t110 := by kernel_rfl
theorem Try.info111 : Try.prog.info? 111 = some Try.t111 := by kernel_rfl
theorem Try.info112 : Try.prog.info? 112 = some Try.t112 := by kernel_rfl
theorem Try.info113 : Try.prog.info? 113 = some Try.t113 := by kernel_rfl
theorem Try.info114 : Try.prog.info? 114 = some Try.t114 := by kernel_rfl
theorem Try.info115 : Try.prog.info? 115 = some Try.t115 := by kernel_rfl
theorem Try.info116 : Try.prog.info? 116 = some Try.t116 := by kernel_rfl
theorem Try.info117 : Try.prog.info? 117 = some Try.t117 := by kernel_rfl
theorem Try.info118 : Try.prog.info? 118 = some Try.t118 := by kernel_rfl
theorem Try.info119 : Try.prog.info? 119 = some Try.t119 := by kernel_rfl
theorem Try.info120 : Try.prog.info? 120 = some Try.t120 := by kernel_rfl
theorem Try.info121 : Try.prog.info? 121 = some Try.t121 := by kernel_rfl
theorem Try.info122 : Try.prog.info? 122 = some Try.t122 := by kernel_rfl
theorem Try.info123 : Try.prog.info? 123 = some Try.t123 := by kernel_rfl
theorem Try.info124 : Try.prog.info? 124 = some Try.t124 := by kernel_rfl
theorem Try.info125 : Try.prog.info? 125 = some Try.t125 := by kernel_rfl
theorem Try.info126 : Try.prog.info? 126 = some Try.t126 := by kernel_rfl
theorem Try.info127 : Try.prog.info? 127 = some Try.t127 := by kernel_rfl
theorem Try.info128 : Try.prog.info? 128 = some Try.t128 := by kernel_rfl
theorem Try.info129 : Try.prog.info? 129 = some Try.t129 := by kernel_rfl
structure Gs (w : World) : Prop where
 iv0_ : ∃ m, w.cell? ⟨0, 0, none⟩ = some (.int .i64 m)
theorem Gs.below {w w' : World} (h : Gs w) (s : Below w.heap.size w w') : Gs w' := ⟨h.iv0_.imp fun _ hm => cell_below hm s⟩
structure Gz (ρ : Tags) : Prop where
 z0 : ρ 0 = 0
theorem Gs.fr {ρ0 ρ : Tags} {w0 w : World} (h : Gs w0) (hz : Gz ρ0) (hb : Fr ρ0 w0 ρ w) : Gs w := ⟨h.iv0_.imp fun _ hm => cell_fr hm hz.z0 hb⟩
theorem Gz.fr {ρ0 ρ : Tags} {w0 w : World} (hz : Gz ρ0) (h : Gs w0) (hb : Fr ρ0 w0 ρ w) : Gz ρ := ⟨h.iv0_.elim fun _ hm => tag_fr hm hz.z0 hb⟩
theorem Gz.enter {ρ : Tags} {o n : Nat} (hz : Gz ρ) (ho : 2 ≤ o) : Gz (enter ρ o n) := ⟨enter_zero ho hz.z0⟩
theorem Gz.flat1 {ρ : Tags} (hz : Gz ρ) : Gz (flat1 ρ) := ⟨flat1_zero hz.z0⟩
theorem lib_Clone_ok {w : World} {A A1 : Nat → Prop} {B : Nat} {v : Value} {xs r : List Str} (hv : SlR strC A1 w v xs) (hA : ∀ b, A b → b < w.heap.size) (hB : B ≤ w.heap.size) (hS : lib_Clone xs = some r) :
  Calls Try.prog 47 #[v] w (Ret (Fresh strC 9 A B w r)) :=
 clone_ok (fun b off n c zs w h1 h2 h3 => Try.slices_Clone_string b off n c zs w h1 h2 h3) (fun n c w => Try.slices_Clone_string_nil n c w) (fun a c w => Try.slices_Clone_string_zero a c w) hv hA hB hS
theorem lib_Sort_ok {w : World} {A : Nat → Prop} {B : Nat} {E : TypeId} {xs ys : List Str} {v : Value} (hv : OwnS strC E A B w v xs) (hB : B ≤ w.heap.size) (hS : lib_Sort xs = some ys) :
  Calls Try.prog 59 #[v] w (Ret fun u w' => u = .tuple #[] ∧ OwnS strC E A B w' v ys ∧ St A w A w' ∧ Below B w w' ∧ (∀ b, b < w.heap.size → v.ownBlock ≠ some b → w'.heap[b]? = w.heap[b]?)) :=
 sort_ok (fun p c w => Any.slices_Sort_string_none Try.lays190 p c w) (fun blk off cap ss w h1 h2 h3 => Try.slices_Sort_string blk off cap ss w h1 h2 h3) hv hB hS
theorem lib_Contains_ok (w0 : World) (hg : Gs w0) {s t : Str} {r : Bool} (hS : lib_Contains s t = some r) : Calls Try.prog 74 #[str s, str t] w0 (Ret fun v w' => v = .bool r ∧ Below w0.heap.size w0 w') :=
 contains_ok (gm := 0) (fun s t m w hs hm => Try.strings_Contains s t m w hs hm) hg.iv0_ hS
theorem Try.eq63 (x y : delegate_way) : EqAgg Try.prog 63 (#[str x.from_, str x.to_]) (#[str y.from_, str y.to_]) (delegate_way.eqb x y) :=
 eqAgg_of Try.underlying63 (by kernel_rfl) (by kernel_rfl) (.cons (by decide) Try.isAgg9 rfl rfl (eqCell_str Try.underlying9 _ _) (.cons (by decide) Try.isAgg9 rfl rfl (eqCell_str Try.underlying9 _ _) (.nil))) (by simp [delegate_way.eqb, Bool.and_assoc])
theorem delegate_way.eqb_iff (x y : delegate_way) : delegate_way.eqb x y = decide (x = y) := by
 cases x; cases y; rw [Bool.eq_iff_iff]; simp [delegate_way.eqb, and_assoc]
theorem Try.keyB9 : KeyB Try.prog 9 str := keyB_str Try.underlying9
theorem Try.keyB63 : KeyB Try.prog 63 delegate_way.ek := keyB_struct (cells := fun (k : delegate_way) => #[str k.from_, str k.to_]) Try.underlying63 (fun k => .cons (by decide) Try.isAgg9 rfl (chk_str Try.underlying9 _) (.cons (by decide) Try.isAgg9 rfl (chk_str Try.underlying9 _) (.nil))) (fun a b => by rw [← delegate_way.eqb_iff]; exact Try.eq63 a b) (fun k => by simp [Instr.sameBits, str, bytes_self])
theorem delegate_New_ok (w0 : World) (hg : Gs w0) {ρA : Tags} (hbd : ∀ b, ρA b ≠ 0 → b < w0.heap.size) (hz : Gz ρA) {o : Nat} (ho2 : 2 ≤ o) {r : delegate_Delegations} (hS : delegate_New = some r) :
  Calls Try.prog 11 #[] w0 (Ret (fun v w' => ∃ ρ' zr0, v = .pointer (some ⟨zr0, 0, none⟩) ∧ delegate_Delegations.O (fun p => o + p) ρ' w' zr0 r ∧ Tr ρA w0 (rng o 2) ρ' w')) := by
 unfold delegate_New at hS
 have hb := enter_fr (ρ := ρA) (w := w0) (n := 2) ho2 hbd
 have hz := hz.enter (n := 2) ho2
 refine calls_of_ke Try.func11 rfl (n := 4) rfl rfl (l := []) rfl ?_
 refine ke_seq ?_
 refine ke_region ?_
 refine sr_ev (v := .pointer none) (ev_assign rfl) (by decide) ?_
 refine sr_end (l' := []) (.nil _) ?_
 refine ke_seq ?_
 refine ke_region ?_
 refine sr_makeMap (K := delegate_way) (V := delegate_delegation) (ek := delegate_way.ek) (c := delegate_delegation.c) (agg := true) 3 (by decide) hb.bd rfl (by decide) ?_
 intro v1 ρ3 w4 h2 htr5
 replace hb := hb.trans htr5
 refine sr_ev (v := .agg #[(.map (some v1))]) (ev_build (vs := #[(0, (.map (some v1)))]) rfl (fun _ => by kernel_rfl)) (by decide) ?_
 refine sr_boxT 100 (by decide) hb.bd rfl (by decide) ?_
 intro g6 ρ7 w8 hB10 htr9
 replace h2 := h2.mv (htr9.mv (i := 3) rfl)
 replace hb := hb.trans htr9
 replace hB10 : Blk ρ7 100 w8 g6 (.cells #[(.map (some v1))] 54 (0, 0)) := hB10
 refine sr_ev (v := .pointer (some ⟨g6, 0, none⟩)) (ev_assign rfl) (by decide) ?_
 refine sr_end (l' := [(0, .pointer (some ⟨g6, 0, none⟩))]) (.cons rfl (.nil _)) ?_
 have htr11 := rtg_tr (ρ := ρ7) (w := w8) (i := 3) 101 (by decide) hb.bd
 have hmv12 : Mv ρ7 w8 3 (rtg ρ7 3 101) w8 101 := rtg_mv (by decide)
 replace hB10 := hB10.mv (htr11.mv (i := 100) rfl)
 replace hb := hb.trans htr11
 replace h2 := h2.mv hmv12
 cases hS
 exact ke_ret1 Try.func11 rfl rfl ⟨_, rfl, leave ρA w0 o 2 (rtg ρ7 3 101), _, rfl, ⟨_, (hB10.mv (leave_mv (p := 0) (by decide) hb)), (h2.mv (leave_mv (p := 1) (by decide) hb))⟩, (leave_tr ho2 hb)⟩
theorem law35_name_ok (w0 : World) (hg : Gs w0) {i_0 : Int} {r : Str} (hS : law35_name i_0 = some r) :
  Calls Try.prog 23 #[.int .i64 i_0] w0 (Ret (fun v w' => v = str r ∧ Below w0.heap.size w0 w')) := by
 unfold law35_name at hS
 have hb := Below.refl w0.heap.size w0
 obtain ⟨A0, hA0, hAe⟩ : ∃ A0 : Nat → Prop, (∀ b, A0 b → b < w0.heap.size) ∧ A0 = fun _ => False := ⟨_, fun _ h => h.elim, rfl⟩
 clear hAe
 have hA := hA0
 have hi : ∀ b, A0 b → A0 b := fun _ h => h
 have hH := Hp.nil A0 w0.heap.size w0
 refine calls_of_ke Try.func23 rfl (n := 15) rfl rfl (l := [(0, .int .i64 i_0)]) rfl ?_
 refine ke_seq ?_
 refine ke_region ?_
 refine sr_ev (v := str ([])) (ev_assign rfl) (by decide) ?_
 refine sr_end (l' := [(0, .int .i64 i_0)]) (.cons rfl (.nil _)) ?_
 refine ke_seq ?_
 refine ke_region ?_
 refine sr_ev (v := .int .i64 i_0) (ev_move rfl) (by decide) ?_
 refine sr_ev (v := .int .i64 (IntKind.i64.wrap (i_0.tdiv 26))) (ev_quo rfl rfl (by decide)) (by decide) ?_
 refine sr_ev (v := .int .i64 (Int.tmod (IntKind.i64.wrap (i_0.tdiv 26)) 26)) (ev_rem rfl rfl (by decide)) (by decide) ?_
 refine sr_ev (v := .int .u8 (IntKind.u8.wrap (Int.tmod (IntKind.i64.wrap (i_0.tdiv 26)) 26))) (ev_conv Try.underlying5 Try.underlying3 rfl) (by decide) ?_
 refine sr_ev (v := .int .u8 (IntKind.u8.wrap (97 + (IntKind.u8.wrap (Int.tmod (IntKind.i64.wrap (i_0.tdiv 26)) 26))))) (ev_add rfl rfl) (by decide) ?_
 refine sr_ev (v := .int .i64 i_0) (ev_move rfl) (by decide) ?_
 refine sr_ev (v := .int .i64 (Int.tmod i_0 26)) (ev_rem rfl rfl (by decide)) (by decide) ?_
 refine sr_ev (v := .int .u8 (IntKind.u8.wrap (Int.tmod i_0 26))) (ev_conv Try.underlying5 Try.underlying3 rfl) (by decide) ?_
 refine sr_ev (v := .int .u8 (IntKind.u8.wrap (97 + (IntKind.u8.wrap (Int.tmod i_0 26))))) (ev_add rfl rfl) (by decide) ?_
 refine sr_lit (c := (intC .u8)) (A := A0) (E := 5) (xs := [IntKind.u8.wrap (97 + (IntKind.u8.wrap (Int.tmod (IntKind.i64.wrap (i_0.tdiv 26)) 26))), IntKind.u8.wrap (97 + (IntKind.u8.wrap (Int.tmod i_0 26)))]) (vs := #[(0, .int .u8 (IntKind.u8.wrap (97 + (IntKind.u8.wrap (Int.tmod (IntKind.i64.wrap (i_0.tdiv 26)) 26))))), (1, .int .u8 (IntKind.u8.wrap (97 + (IntKind.u8.wrap (Int.tmod i_0 26)))))]) (cs := #[.int .u8 (IntKind.u8.wrap (97 + (IntKind.u8.wrap (Int.tmod (IntKind.i64.wrap (i_0.tdiv 26)) 26)))), .int .u8 (IntKind.u8.wrap (97 + (IntKind.u8.wrap (Int.tmod i_0 26))))]) (css := [[.int .u8 (IntKind.u8.wrap (97 + (IntKind.u8.wrap (Int.tmod (IntKind.i64.wrap (i_0.tdiv 26)) 26))))], [.int .u8 (IntKind.u8.wrap (97 + (IntKind.u8.wrap (Int.tmod i_0 26))))]]) rfl (fun _ => by kernel_rfl) rfl ⟨rfl, ⟨rfl, trivial⟩⟩ rfl (by decide) hA (by decide) ?_
 intro v1 w3 h2 hbw4
 replace hb := hb.trans (hbw4.mono hb.size)
 replace hA := lt_mono hA hbw4.size
 replace hH := hH.below hbw4
 refine sr_ev (v := str (bytesStr ([IntKind.u8.wrap (97 + (IntKind.u8.wrap (Int.tmod (IntKind.i64.wrap (i_0.tdiv 26)) 26))), IntKind.u8.wrap (97 + (IntKind.u8.wrap (Int.tmod i_0 26)))] : List Int))) (ev_b2s h2 Try.underlying76 Try.underlying5 Try.underlying9 rfl) (by decide) ?_
 obtain ⟨hk5, hS⟩ := chk_some hS
 refine sr_ev (v := str (([117]) ++ (bytesStr ([IntKind.u8.wrap (97 + (IntKind.u8.wrap (Int.tmod (IntKind.i64.wrap (i_0.tdiv 26)) 26))), IntKind.u8.wrap (97 + (IntKind.u8.wrap (Int.tmod i_0 26)))] : List Int)))) (ev_cat rfl rfl hk5) (by decide) ?_
 refine sr_ev (v := str (([117]) ++ (bytesStr ([IntKind.u8.wrap (97 + (IntKind.u8.wrap (Int.tmod (IntKind.i64.wrap (i_0.tdiv 26)) 26))), IntKind.u8.wrap (97 + (IntKind.u8.wrap (Int.tmod i_0 26)))] : List Int)))) (ev_assign rfl) (by decide) ?_
 refine sr_end (l' := [(2, str (([117]) ++ (bytesStr ([IntKind.u8.wrap (97 + (IntKind.u8.wrap (Int.tmod (IntKind.i64.wrap (i_0.tdiv 26)) 26))), IntKind.u8.wrap (97 + (IntKind.u8.wrap (Int.tmod i_0 26)))] : List Int))))]) (.cons rfl (.nil _)) ?_
 cases hS
 exact ke_ret1 Try.func23 rfl rfl ⟨_, rfl, rfl, hb⟩
theorem delegate_Delegations_made_ok (w0 : World) (hg : Gs w0) {ρA : Tags} (hbd : ∀ b, ρA b ≠ 0 → b < w0.heap.size) (hz : Gz ρA) {τ0 : Nat → Nat} (hτ0 : ∀ p, 1 ≤ τ0 p) {d_0 : delegate_Delegations} {gd_0 : Nat} {r : Bool} (ho0 : delegate_Delegations.O τ0 ρA w0 gd_0 d_0) (hS : delegate_Delegations_made d_0 = some r) :
  Calls Try.prog 38 #[.pointer (some ⟨gd_0, 0, none⟩)] w0 (Ret (fun v w' => v = .bool r ∧ Below w0.heap.size w0 w')) := by
 unfold delegate_Delegations_made at hS
 have hb := flat1_fr (ρ := ρA) (w := w0) hbd
 have hz := hz.flat1
 obtain ⟨v1, hB3, h2⟩ := ho0
 replace hB3 := hB3.mv (flat1_mv (hτ0 0))
 replace h2 := h2.mv (flat1_mv (hτ0 1))
 replace hB3 : Blk (flat1 ρA) 1 w0 gd_0 (.cells #[v1] 54 (0, 0)) := hB3
 replace h2 : MapT delegate_way.ek delegate_delegation.c true (flat1 ρA) 1 w0 v1 d_0.ways := h2
 refine calls_of_ke Try.func38 rfl (n := 12) rfl rfl (l := [(0, .pointer (some ⟨gd_0, 0, none⟩))]) rfl ?_
 refine ke_seq ?_
 refine ke_region ?_
 refine sr_ev (v := .bool false) (ev_assign rfl) (by decide) ?_
 refine sr_end (l' := [(0, .pointer (some ⟨gd_0, 0, none⟩))]) (.cons rfl (.nil _)) ?_
 refine ke_seq ?_
 refine ke_region ?_
 refine sr_ev (v := .pointer (some ⟨gd_0, 0, none⟩)) (ev_move rfl) (by decide) ?_
 refine sr_ev (v := .bool true) (ev_pneT_some Try.underlying27 rfl rfl) (by decide) ?_
 refine sr_ev (v := .bool true) (ev_move rfl) (by decide) ?_
 refine sr_evg (b := true) (e := 5) rfl rfl rfl (v := .pointer (some ⟨gd_0, 0, none⟩)) (ev_move rfl) (by decide) ?_
 refine sr_evg (b := true) (e := 5) rfl rfl rfl (v := .pointer (some ⟨gd_0, 0, none⟩)) (ev_nilCheck rfl) (by decide) ?_
 refine sr_evg (b := true) (e := 5) rfl rfl rfl (v := .pointer (some ⟨gd_0, 0, none⟩)) (ev_fieldAddr (i := 0) Try.underlying54 rfl Try.info52 rfl rfl) (by decide) ?_
 refine sr_evg (b := true) (e := 5) rfl rfl rfl (v := v1) (ev_load Try.isAgg52 rfl (hB3.cell rfl)) (by decide) ?_
 refine sr_evg (b := true) (e := 5) rfl rfl rfl (v := .bool (!d_0.ways.isNone)) (ev_mapNe h2 Try.underlying52 w0 rfl rfl) (by decide) ?_
 refine sr_ev (v := .bool (!d_0.ways.isNone)) (ev_pick_t rfl rfl rfl) (by decide) ?_
 refine sr_ev (v := .bool (!d_0.ways.isNone)) (ev_assign rfl) (by decide) ?_
 refine sr_end (l' := [(2, .bool (!d_0.ways.isNone))]) (.cons rfl (.nil _)) ?_
 cases hS
 exact ke_ret1 Try.func38 rfl rfl ⟨_, rfl, rfl, (hb.below (flat1_le _))⟩
theorem fold_upper_ok (w0 : World) (hg : Gs w0) {c_0 : Int} {r : Bool} (hS : fold_upper c_0 = some r) :
  Calls Try.prog 79 #[.int .u8 c_0] w0 (Ret (fun v w' => v = .bool r ∧ Below w0.heap.size w0 w')) := by
 unfold fold_upper at hS
 have hb := Below.refl w0.heap.size w0
 refine calls_of_ke Try.func79 rfl (n := 9) rfl rfl (l := [(0, .int .u8 c_0)]) rfl ?_
 refine ke_seq ?_
 refine ke_region ?_
 refine sr_ev (v := .bool false) (ev_assign rfl) (by decide) ?_
 refine sr_end (l' := [(0, .int .u8 c_0)]) (.cons rfl (.nil _)) ?_
 refine ke_seq ?_
 refine ke_region ?_
 refine sr_ev (v := .int .u8 c_0) (ev_move rfl) (by decide) ?_
 refine sr_ev (v := .bool (decide (c_0 ≥ 65))) (ev_ge rfl rfl) (by decide) ?_
 refine sr_ev (v := .bool (decide (c_0 ≥ 65))) (ev_move rfl) (by decide) ?_
 refine sr_join (m := 3) (C := fun (x : Bool) w1 => x = ((decide (c_0 ≥ 65)) && (decide (c_0 ≤ 90))) ∧ w0 = w1) (l' := fun x => [(8, .bool x)]) ?_ ?_
 ·rintro _ _ ⟨rfl, rfl⟩
  refine sr_ev (v := .bool ((decide (c_0 ≥ 65)) && (decide (c_0 ≤ 90)))) (ev_assign rfl) (by decide) ?_
  refine sr_end (l' := [(2, .bool ((decide (c_0 ≥ 65)) && (decide (c_0 ≤ 90))))]) (.cons rfl (.nil _)) ?_
  cases hS
  exact ke_ret1 Try.func79 rfl rfl ⟨_, rfl, rfl, hb⟩
 ·intro K2
  rcases Bool.eq_false_or_eq_true (decide (c_0 ≥ 65)) with hg1 | hg1
  ·refine sr_evg (b := true) (e := 5) rfl rfl hg1 (v := .int .u8 c_0) (ev_move rfl) (by decide) ?_
   refine sr_evg (b := true) (e := 5) rfl rfl hg1 (v := .bool (decide (c_0 ≤ 90))) (ev_le rfl rfl) (by decide) ?_
   refine sr_ev (v := .bool (decide (c_0 ≤ 90))) (ev_pick_t rfl hg1 rfl) (by decide) ?_
   exact sr_weaken (l' := [(8, .bool (decide (c_0 ≤ 90)))]) (.cons rfl (.nil _)) (K2 (decide (c_0 ≤ 90)) _ ⟨by rw [hg1]; rfl, rfl⟩)
  ·refine sr_pass (e := 5) rfl rfl (by rw [hg1]; rfl) (by decide) ?_
   refine sr_pass (e := 5) rfl rfl (by rw [hg1]; rfl) (by decide) ?_
   refine sr_ev (v := .bool false) (ev_pick_f rfl hg1 rfl) (by decide) ?_
   exact sr_weaken (l' := [(8, .bool false)]) (.cons rfl (.nil _)) (K2 false _ ⟨by rw [hg1]; rfl, rfl⟩)
theorem fold_letter_ok (w0 : World) (hg : Gs w0) {c_0 : Int} {r : Bool} (hS : fold_letter c_0 = some r) :
  Calls Try.prog 67 #[.int .u8 c_0] w0 (Ret (fun v w' => v = .bool r ∧ Below w0.heap.size w0 w')) := by
 unfold fold_letter at hS
 have hb := Below.refl w0.heap.size w0
 refine calls_of_ke Try.func67 rfl (n := 13) rfl rfl (l := [(0, .int .u8 c_0)]) rfl ?_
 refine ke_seq ?_
 refine ke_region ?_
 refine sr_ev (v := .bool false) (ev_assign rfl) (by decide) ?_
 refine sr_end (l' := [(0, .int .u8 c_0)]) (.cons rfl (.nil _)) ?_
 refine ke_seq ?_
 refine ke_region ?_
 refine sr_ev (v := .int .u8 c_0) (ev_move rfl) (by decide) ?_
 obtain ⟨y1, hy2, hS⟩ := bind_some' hS
 refine sr_call (vs := [.int .u8 c_0]) rfl Try.call79 rfl (fold_upper_ok _ (hg.below hb) hy2) (by decide) ?_
 rintro _ w3 ⟨rfl, hbw4⟩
 replace hb := hb.trans (hbw4.mono hb.size)
 refine sr_ev (v := .bool y1) (ev_move rfl) (by decide) ?_
 refine sr_join (m := 7) (C := fun (x : Bool) w1 => x = (y1 || ((decide (c_0 ≥ 97)) && (decide (c_0 ≤ 122)))) ∧ w3 = w1) (l' := fun x => [(12, .bool x)]) ?_ ?_
 ·rintro _ _ ⟨rfl, rfl⟩
  refine sr_ev (v := .bool (y1 || ((decide (c_0 ≥ 97)) && (decide (c_0 ≤ 122))))) (ev_assign rfl) (by decide) ?_
  refine sr_end (l' := [(2, .bool (y1 || ((decide (c_0 ≥ 97)) && (decide (c_0 ≤ 122)))))]) (.cons rfl (.nil _)) ?_
  cases hS
  exact ke_ret1 Try.func67 rfl rfl ⟨_, rfl, rfl, hb⟩
 ·intro K6
  rcases Bool.eq_false_or_eq_true y1 with hg5 | hg5
  ·refine sr_pass (e := 5) rfl rfl (by rw [hg5]; rfl) (by decide) ?_
   refine sr_pass (e := 5) rfl rfl (by rw [hg5]; rfl) (by decide) ?_
   refine sr_pass (e := 5) rfl rfl (by rw [hg5]; rfl) (by decide) ?_
   refine sr_pass_undef (e := 8) rfl rfl (by decide) ?_
   refine sr_pass_undef (e := 8) rfl rfl (by decide) ?_
   refine sr_pass (e := 5) rfl rfl (by rw [hg5]; rfl) (by decide) ?_
   refine sr_ev (v := .bool true) (ev_pick_t rfl hg5 rfl) (by decide) ?_
   exact sr_weaken (l' := [(12, .bool true)]) (.cons rfl (.nil _)) (K6 true _ ⟨by rw [hg5]; rfl, rfl⟩)
  ·refine sr_evg (b := false) (e := 5) rfl rfl hg5 (v := .int .u8 c_0) (ev_move rfl) (by decide) ?_
   refine sr_evg (b := false) (e := 5) rfl rfl hg5 (v := .bool (decide (c_0 ≥ 97))) (ev_ge rfl rfl) (by decide) ?_
   refine sr_evg (b := false) (e := 5) rfl rfl hg5 (v := .bool (decide (c_0 ≥ 97))) (ev_move rfl) (by decide) ?_
   refine sr_join (m := 3) (C := fun (x : Bool) w1 => x = ((decide (c_0 ≥ 97)) && (decide (c_0 ≤ 122))) ∧ w3 = w1) (l' := fun x => [(5, .bool y1), (11, .bool x)]) ?_ ?_
   ·rintro _ _ ⟨rfl, rfl⟩
    refine sr_ev (v := .bool ((decide (c_0 ≥ 97)) && (decide (c_0 ≤ 122)))) (ev_pick_f rfl hg5 rfl) (by decide) ?_
    exact sr_weaken (l' := [(12, .bool ((decide (c_0 ≥ 97)) && (decide (c_0 ≤ 122))))]) (.cons rfl (.nil _)) (K6 ((decide (c_0 ≥ 97)) && (decide (c_0 ≤ 122))) _ ⟨by rw [hg5]; rfl, rfl⟩)
   ·intro K13
    rcases Bool.eq_false_or_eq_true (decide (c_0 ≥ 97)) with hg12 | hg12
    ·refine sr_evg (b := true) (e := 8) rfl rfl hg12 (v := .int .u8 c_0) (ev_move rfl) (by decide) ?_
     refine sr_evg (b := true) (e := 8) rfl rfl hg12 (v := .bool (decide (c_0 ≤ 122))) (ev_le rfl rfl) (by decide) ?_
     refine sr_evg (b := false) (e := 5) rfl rfl hg5 (v := .bool (decide (c_0 ≤ 122))) (ev_pick_t rfl hg12 rfl) (by decide) ?_
     exact sr_weaken (l' := [(5, .bool y1), (11, .bool (decide (c_0 ≤ 122)))]) (.cons rfl (.cons rfl (.nil _))) (K13 (decide (c_0 ≤ 122)) _ ⟨by rw [hg12]; rfl, rfl⟩)
    ·refine sr_pass (e := 8) rfl rfl (by rw [hg12]; rfl) (by decide) ?_
     refine sr_pass (e := 8) rfl rfl (by rw [hg12]; rfl) (by decide) ?_
     refine sr_evg (b := false) (e := 5) rfl rfl hg5 (v := .bool false) (ev_pick_f rfl hg12 rfl) (by decide) ?_
     exact sr_weaken (l' := [(5, .bool y1), (11, .bool false)]) (.cons rfl (.cons rfl (.nil _))) (K13 false _ ⟨by rw [hg12]; rfl, rfl⟩)
theorem fold_digit_ok (w0 : World) (hg : Gs w0) {c_0 : Int} {r : Bool} (hS : fold_digit c_0 = some r) :
  Calls Try.prog 68 #[.int .u8 c_0] w0 (Ret (fun v w' => v = .bool r ∧ Below w0.heap.size w0 w')) := by
 unfold fold_digit at hS
 have hb := Below.refl w0.heap.size w0
 refine calls_of_ke Try.func68 rfl (n := 9) rfl rfl (l := [(0, .int .u8 c_0)]) rfl ?_
 refine ke_seq ?_
 refine ke_region ?_
 refine sr_ev (v := .bool false) (ev_assign rfl) (by decide) ?_
 refine sr_end (l' := [(0, .int .u8 c_0)]) (.cons rfl (.nil _)) ?_
 refine ke_seq ?_
 refine ke_region ?_
 refine sr_ev (v := .int .u8 c_0) (ev_move rfl) (by decide) ?_
 refine sr_ev (v := .bool (decide (c_0 ≥ 48))) (ev_ge rfl rfl) (by decide) ?_
 refine sr_ev (v := .bool (decide (c_0 ≥ 48))) (ev_move rfl) (by decide) ?_
 refine sr_join (m := 3) (C := fun (x : Bool) w1 => x = ((decide (c_0 ≥ 48)) && (decide (c_0 ≤ 57))) ∧ w0 = w1) (l' := fun x => [(8, .bool x)]) ?_ ?_
 ·rintro _ _ ⟨rfl, rfl⟩
  refine sr_ev (v := .bool ((decide (c_0 ≥ 48)) && (decide (c_0 ≤ 57)))) (ev_assign rfl) (by decide) ?_
  refine sr_end (l' := [(2, .bool ((decide (c_0 ≥ 48)) && (decide (c_0 ≤ 57))))]) (.cons rfl (.nil _)) ?_
  cases hS
  exact ke_ret1 Try.func68 rfl rfl ⟨_, rfl, rfl, hb⟩
 ·intro K2
  rcases Bool.eq_false_or_eq_true (decide (c_0 ≥ 48)) with hg1 | hg1
  ·refine sr_evg (b := true) (e := 5) rfl rfl hg1 (v := .int .u8 c_0) (ev_move rfl) (by decide) ?_
   refine sr_evg (b := true) (e := 5) rfl rfl hg1 (v := .bool (decide (c_0 ≤ 57))) (ev_le rfl rfl) (by decide) ?_
   refine sr_ev (v := .bool (decide (c_0 ≤ 57))) (ev_pick_t rfl hg1 rfl) (by decide) ?_
   exact sr_weaken (l' := [(8, .bool (decide (c_0 ≤ 57)))]) (.cons rfl (.nil _)) (K2 (decide (c_0 ≤ 57)) _ ⟨by rw [hg1]; rfl, rfl⟩)
  ·refine sr_pass (e := 5) rfl rfl (by rw [hg1]; rfl) (by decide) ?_
   refine sr_pass (e := 5) rfl rfl (by rw [hg1]; rfl) (by decide) ?_
   refine sr_ev (v := .bool false) (ev_pick_f rfl hg1 rfl) (by decide) ?_
   exact sr_weaken (l' := [(8, .bool false)]) (.cons rfl (.nil _)) (K2 false _ ⟨by rw [hg1]; rfl, rfl⟩)
theorem fold_Word_1_ok (w0 : World) (hg : Gs w0) {c_0 : Int} {r : Bool} (hS : fold_Word_1 c_0 = some r) :
  Calls Try.prog 66 #[.int .u8 c_0] w0 (Ret (fun v w' => v = .bool r ∧ Below w0.heap.size w0 w')) := by
 unfold fold_Word_1 at hS
 have hb := Below.refl w0.heap.size w0
 refine calls_of_ke Try.func66 rfl (n := 25) rfl rfl (l := [(0, .int .u8 c_0)]) rfl ?_
 refine ke_seq ?_
 refine ke_region ?_
 refine sr_ev (v := .bool false) (ev_assign rfl) (by decide) ?_
 refine sr_end (l' := [(0, .int .u8 c_0)]) (.cons rfl (.nil _)) ?_
 refine ke_seq ?_
 refine ke_region ?_
 refine sr_ev (v := .int .u8 c_0) (ev_move rfl) (by decide) ?_
 obtain ⟨y1, hy2, hS⟩ := bind_some' hS
 refine sr_call (vs := [.int .u8 c_0]) rfl Try.call67 rfl (fold_letter_ok _ (hg.below hb) hy2) (by decide) ?_
 rintro _ w3 ⟨rfl, hbw4⟩
 replace hb := hb.trans (hbw4.mono hb.size)
 refine sr_ev (v := .bool y1) (ev_move rfl) (by decide) ?_
 obtain ⟨z7, hz9, hS⟩ := bind_some' hS
 refine sr_join (m := 3) (C := fun (x : Bool) w1 => z7 = x ∧ Below w3.heap.size w3 w1) (l' := fun x => [(0, .int .u8 c_0), (8, .bool x)]) ?_ ?_
 ·rintro _ w10 ⟨rfl, hbw11⟩
  replace hb := hb.trans (hbw11.mono hb.size)
  refine sr_ev (v := .bool z7) (ev_move rfl) (by decide) ?_
  refine sr_join (m := 3) (C := fun (x : Bool) w1 => x = (z7 || (c_0 == 45)) ∧ w10 = w1) (l' := fun x => [(0, .int .u8 c_0), (12, .bool x)]) ?_ ?_
  ·rintro _ _ ⟨rfl, rfl⟩
   refine sr_ev (v := .bool (z7 || (c_0 == 45))) (ev_move rfl) (by decide) ?_
   refine sr_join (m := 3) (C := fun (x : Bool) w1 => x = ((z7 || (c_0 == 45)) || (c_0 == 95)) ∧ w10 = w1) (l' := fun x => [(0, .int .u8 c_0), (16, .bool x)]) ?_ ?_
   ·rintro _ _ ⟨rfl, rfl⟩
    refine sr_ev (v := .bool ((z7 || (c_0 == 45)) || (c_0 == 95))) (ev_move rfl) (by decide) ?_
    refine sr_join (m := 3) (C := fun (x : Bool) w1 => x = (((z7 || (c_0 == 45)) || (c_0 == 95)) || (c_0 == 46)) ∧ w10 = w1) (l' := fun x => [(0, .int .u8 c_0), (20, .bool x)]) ?_ ?_
    ·rintro _ _ ⟨rfl, rfl⟩
     refine sr_ev (v := .bool (((z7 || (c_0 == 45)) || (c_0 == 95)) || (c_0 == 46))) (ev_move rfl) (by decide) ?_
     refine sr_join (m := 3) (C := fun (x : Bool) w1 => x = ((((z7 || (c_0 == 45)) || (c_0 == 95)) || (c_0 == 46)) || (c_0 == 58)) ∧ w10 = w1) (l' := fun x => [(24, .bool x)]) ?_ ?_
     ·rintro _ _ ⟨rfl, rfl⟩
      refine sr_ev (v := .bool ((((z7 || (c_0 == 45)) || (c_0 == 95)) || (c_0 == 46)) || (c_0 == 58))) (ev_assign rfl) (by decide) ?_
      refine sr_end (l' := [(2, .bool ((((z7 || (c_0 == 45)) || (c_0 == 95)) || (c_0 == 46)) || (c_0 == 58)))]) (.cons rfl (.nil _)) ?_
      cases hS
      exact ke_ret1 Try.func66 rfl rfl ⟨_, rfl, rfl, hb⟩
     ·intro K38
      rcases Bool.eq_false_or_eq_true (((z7 || (c_0 == 45)) || (c_0 == 95)) || (c_0 == 46)) with hg37 | hg37
      ·refine sr_pass (e := 21) rfl rfl (by rw [hg37]; rfl) (by decide) ?_
       refine sr_pass (e := 21) rfl rfl (by rw [hg37]; rfl) (by decide) ?_
       refine sr_ev (v := .bool true) (ev_pick_t rfl hg37 rfl) (by decide) ?_
       exact sr_weaken (l' := [(24, .bool true)]) (.cons rfl (.nil _)) (K38 true _ ⟨by rw [hg37]; rfl, rfl⟩)
      ·refine sr_evg (b := false) (e := 21) rfl rfl hg37 (v := .int .u8 c_0) (ev_move rfl) (by decide) ?_
       refine sr_evg (b := false) (e := 21) rfl rfl hg37 (v := .bool (c_0 == 58)) (ev_eq rfl rfl) (by decide) ?_
       refine sr_ev (v := .bool (c_0 == 58)) (ev_pick_f rfl hg37 rfl) (by decide) ?_
       exact sr_weaken (l' := [(24, .bool (c_0 == 58))]) (.cons rfl (.nil _)) (K38 (c_0 == 58) _ ⟨by rw [hg37]; rfl, rfl⟩)
    ·intro K31
     rcases Bool.eq_false_or_eq_true ((z7 || (c_0 == 45)) || (c_0 == 95)) with hg30 | hg30
     ·refine sr_pass (e := 17) rfl rfl (by rw [hg30]; rfl) (by decide) ?_
      refine sr_pass (e := 17) rfl rfl (by rw [hg30]; rfl) (by decide) ?_
      refine sr_ev (v := .bool true) (ev_pick_t rfl hg30 rfl) (by decide) ?_
      exact sr_weaken (l' := [(0, .int .u8 c_0), (20, .bool true)]) (.cons rfl (.cons rfl (.nil _))) (K31 true _ ⟨by rw [hg30]; rfl, rfl⟩)
     ·refine sr_evg (b := false) (e := 17) rfl rfl hg30 (v := .int .u8 c_0) (ev_move rfl) (by decide) ?_
      refine sr_evg (b := false) (e := 17) rfl rfl hg30 (v := .bool (c_0 == 46)) (ev_eq rfl rfl) (by decide) ?_
      refine sr_ev (v := .bool (c_0 == 46)) (ev_pick_f rfl hg30 rfl) (by decide) ?_
      exact sr_weaken (l' := [(0, .int .u8 c_0), (20, .bool (c_0 == 46))]) (.cons rfl (.cons rfl (.nil _))) (K31 (c_0 == 46) _ ⟨by rw [hg30]; rfl, rfl⟩)
   ·intro K24
    rcases Bool.eq_false_or_eq_true (z7 || (c_0 == 45)) with hg23 | hg23
    ·refine sr_pass (e := 13) rfl rfl (by rw [hg23]; rfl) (by decide) ?_
     refine sr_pass (e := 13) rfl rfl (by rw [hg23]; rfl) (by decide) ?_
     refine sr_ev (v := .bool true) (ev_pick_t rfl hg23 rfl) (by decide) ?_
     exact sr_weaken (l' := [(0, .int .u8 c_0), (16, .bool true)]) (.cons rfl (.cons rfl (.nil _))) (K24 true _ ⟨by rw [hg23]; rfl, rfl⟩)
    ·refine sr_evg (b := false) (e := 13) rfl rfl hg23 (v := .int .u8 c_0) (ev_move rfl) (by decide) ?_
     refine sr_evg (b := false) (e := 13) rfl rfl hg23 (v := .bool (c_0 == 95)) (ev_eq rfl rfl) (by decide) ?_
     refine sr_ev (v := .bool (c_0 == 95)) (ev_pick_f rfl hg23 rfl) (by decide) ?_
     exact sr_weaken (l' := [(0, .int .u8 c_0), (16, .bool (c_0 == 95))]) (.cons rfl (.cons rfl (.nil _))) (K24 (c_0 == 95) _ ⟨by rw [hg23]; rfl, rfl⟩)
  ·intro K17
   rcases Bool.eq_false_or_eq_true z7 with hg16 | hg16
   ·refine sr_pass (e := 9) rfl rfl (by rw [hg16]; rfl) (by decide) ?_
    refine sr_pass (e := 9) rfl rfl (by rw [hg16]; rfl) (by decide) ?_
    refine sr_ev (v := .bool true) (ev_pick_t rfl hg16 rfl) (by decide) ?_
    exact sr_weaken (l' := [(0, .int .u8 c_0), (12, .bool true)]) (.cons rfl (.cons rfl (.nil _))) (K17 true _ ⟨by rw [hg16]; rfl, rfl⟩)
   ·refine sr_evg (b := false) (e := 9) rfl rfl hg16 (v := .int .u8 c_0) (ev_move rfl) (by decide) ?_
    refine sr_evg (b := false) (e := 9) rfl rfl hg16 (v := .bool (c_0 == 45)) (ev_eq rfl rfl) (by decide) ?_
    refine sr_ev (v := .bool (c_0 == 45)) (ev_pick_f rfl hg16 rfl) (by decide) ?_
    exact sr_weaken (l' := [(0, .int .u8 c_0), (12, .bool (c_0 == 45))]) (.cons rfl (.cons rfl (.nil _))) (K17 (c_0 == 45) _ ⟨by rw [hg16]; rfl, rfl⟩)
 ·intro K6
  clear hS
  have hj8 := Below.refl w3.heap.size w3
  rcases Bool.eq_false_or_eq_true y1 with hg5 | hg5
  ·have hS := ite_true' hz9 hg5
   refine sr_pass (e := 5) rfl rfl (by rw [hg5]; rfl) (by decide) ?_
   refine sr_pass (e := 5) rfl rfl (by rw [hg5]; rfl) (by decide) ?_
   refine sr_ev (v := .bool true) (ev_pick_t rfl hg5 rfl) (by decide) ?_
   exact sr_weaken (l' := [(0, .int .u8 c_0), (8, .bool true)]) (.cons rfl (.cons rfl (.nil _))) (K6 true _ ⟨(Option.some.inj hS).symm, hj8⟩)
  ·have hS := ite_false' hz9 hg5
   refine sr_evg (b := false) (e := 5) rfl rfl hg5 (v := .int .u8 c_0) (ev_move rfl) (by decide) ?_
   obtain ⟨y12, hy13, hS⟩ := bind_some' hS
   refine sr_callg (b := false) (e := 5) rfl rfl hg5 (vs := [.int .u8 c_0]) rfl Try.call68 rfl (fold_digit_ok _ (hg.below hb) hy13) (by decide) ?_
   rintro _ w14 ⟨rfl, hbw15⟩
   replace hb := hb.trans (hbw15.mono hb.size)
   replace hj8 := hj8.trans (hbw15.mono hj8.size)
   refine sr_ev (v := .bool y12) (ev_pick_f rfl hg5 rfl) (by decide) ?_
   exact sr_weaken (l' := [(0, .int .u8 c_0), (8, .bool y12)]) (.cons rfl (.cons rfl (.nil _))) (K6 y12 _ ⟨(Option.some.inj hS).symm, hj8⟩)
theorem fold_made__Word_1_L1_ok {w0 : World} (hg : Gs w0) : ∀ (n : Nat), ∀ {r : Bool} {s_0 : Str} {t_7 : Int} {t_8 : Int}, fold_made__Word_1_L1 n s_0 t_7 t_8 = some r → ∀ {w : World}, (Below w0.heap.size w0 w) → KE Try.prog 65 (Ret (fun v w' => v = .bool r ∧ Below w0.heap.size w0 w')) 25 [.code (sub (bodyOf Try.f65) [2, 1, 2, 2, 1]), .inLoop (sub (bodyOf Try.f65) [2, 1, 2, 2, 1]), .inBlock 0, .code (sub (bodyOf Try.f65) [2, 2])] [(0, str s_0), (1, .func (.func 66) #[] #[]), (7, .int .i64 t_7), (8, .int .i64 t_8)] w := by
 intro n
 induction n with
 | zero => intro r s_0 t_7 t_8 hS; cases hS
 | succ n ih =>
  have hr0 : ∀ {r : Bool} {s_0 : Str} {t_7 : Int} {t_8 : Int}, fold_made__Word_1_L1 n s_0 t_7 t_8 = some r → ∀ {w : World}, (Below w0.heap.size w0 w) → KE Try.prog 65 (Ret (fun v w' => v = .bool r ∧ Below w0.heap.size w0 w')) 25 [.inLoop (sub (bodyOf Try.f65) [2, 1, 2, 2, 1]), .inBlock 0, .code (sub (bodyOf Try.f65) [2, 2])] [(0, str s_0), (1, .func (.func 66) #[] #[]), (7, .int .i64 t_7), (8, .int .i64 t_8)] w := fun {r} {s_0} {t_7} {t_8} hS {w} hb => ke_inLoop (ih hS hb)
  clear ih
  intro r s_0 t_7 t_8 hS w hb
  unfold fold_made__Word_1_L1 at hS
  refine ke_seq ?_
  refine ke_region ?_
  refine sr_ev (v := .bool (decide (t_8 < t_7))) (ev_lt rfl rfl) (by decide) ?_
  refine sr_end (l' := [(0, str s_0), (1, .func (.func 66) #[] #[]), (7, .int .i64 t_7), (8, .int .i64 t_8), (9, .bool (decide (t_8 < t_7)))]) (.cons rfl (.cons rfl (.cons rfl (.cons rfl (.cons rfl (.nil _)))))) ?_
  refine ke_seq ?_
  refine ke_cond (t := decide (t_8 < t_7)) rfl (fun hc1 => ?_) (fun hc1 => ?_)
  ·replace hS := ite_true' hS hc1
   refine ke_skip ?_
   refine ke_seq ?_
   refine ke_block ?_
   refine ke_seq ?_
   refine ke_region ?_
   refine sr_ev (v := .int .i64 t_8) (ev_move rfl) (by decide) ?_
   refine sr_ev (v := .int .i64 t_8) (ev_assign rfl) (by decide) ?_
   refine sr_end (l' := [(0, str s_0), (1, .func (.func 66) #[] #[]), (5, .int .i64 t_8), (7, .int .i64 t_7), (8, .int .i64 t_8)]) (.cons rfl (.cons rfl (.cons rfl (.cons rfl (.cons rfl (.nil _)))))) ?_
   refine ke_seq ?_
   refine ke_region ?_
   refine sr_ev (v := .func (.func 66) #[] #[]) (ev_move rfl) (by decide) ?_
   refine sr_ev (v := str s_0) (ev_move rfl) (by decide) ?_
   refine sr_ev (v := .int .i64 t_8) (ev_move rfl) (by decide) ?_
   obtain ⟨hk2, hS⟩ := chk_some hS
   refine sr_ev (v := .int .u8 (byteAt s_0 t_8)) (ev_sindex Try.underlying9 rfl rfl hk2) (by decide) ?_
   obtain ⟨y3, hy4, hS⟩ := bind_some' hS
   refine sr_call (vs := [.int .u8 (byteAt s_0 t_8)]) rfl Try.call66 rfl (fold_Word_1_ok _ (hg.below hb) hy4) (by decide) ?_
   rintro _ w5 ⟨rfl, hbw6⟩
   replace hb := hb.trans (hbw6.mono hb.size)
   refine sr_ev (v := .bool (!y3)) (ev_not rfl) (by decide) ?_
   refine sr_end (l' := [(0, str s_0), (1, .func (.func 66) #[] #[]), (7, .int .i64 t_7), (8, .int .i64 t_8), (16, .bool (!y3))]) (.cons rfl (.cons rfl (.cons rfl (.cons rfl (.cons rfl (.nil _)))))) ?_
   refine ke_cond (t := !y3) rfl (fun hc7 => ?_) (fun hc7 => ?_)
   ·replace hS := ite_true' hS hc7
    refine ke_seq ?_
    refine ke_region ?_
    refine sr_ev (v := .bool false) (ev_assign rfl) (by decide) ?_
    refine sr_end (l' := [(4, .bool false)]) (.cons rfl (.nil _)) ?_
    cases hS
    exact ke_ret1 Try.func65 rfl rfl ⟨_, rfl, rfl, hb⟩
   ·replace hS := ite_false' hS hc7
    refine ke_skip ?_
    refine ke_inBlock ?_
    refine ke_region ?_
    refine sr_ev (v := .int .i64 (IntKind.i64.wrap (t_8 + 1))) (ev_add rfl rfl) (by decide) ?_
    refine sr_ev (v := .int .i64 (IntKind.i64.wrap (t_8 + 1))) (ev_move rfl) (by decide) ?_
    refine sr_end (l' := [(0, str s_0), (1, .func (.func 66) #[] #[]), (7, .int .i64 t_7), (8, .int .i64 (IntKind.i64.wrap (t_8 + 1)))]) (.cons rfl (.cons rfl (.cons rfl (.cons rfl (.nil _))))) ?_
    have hK := hr0 hS hb
    exact ke_weaken (l' := [(0, str s_0), (1, .func (.func 66) #[] #[]), (7, .int .i64 t_7), (8, .int .i64 (IntKind.i64.wrap (t_8 + 1)))]) (.cons rfl (.cons rfl (.cons rfl (.cons rfl (.nil _))))) hK
  ·replace hS := ite_false' hS hc1
   refine ke_exit (k' := _) rfl ?_
   refine ke_seq ?_
   refine ke_region ?_
   refine sr_ev (v := str s_0) (ev_move rfl) (by decide) ?_
   refine sr_ev (v := .bool (!(s_0 == ([])))) (ev_sne rfl rfl) (by decide) ?_
   refine sr_ev (v := .bool (!(s_0 == ([])))) (ev_move rfl) (by decide) ?_
   refine sr_join (m := 4) (C := fun (x : Bool) w1 => x = ((!(s_0 == ([]))) && (decide ((s_0.length : Int) ≤ 64))) ∧ w = w1) (l' := fun x => [(24, .bool x)]) ?_ ?_
   ·rintro _ _ ⟨rfl, rfl⟩
    refine sr_ev (v := .bool ((!(s_0 == ([]))) && (decide ((s_0.length : Int) ≤ 64)))) (ev_assign rfl) (by decide) ?_
    refine sr_end (l' := [(4, .bool ((!(s_0 == ([]))) && (decide ((s_0.length : Int) ≤ 64))))]) (.cons rfl (.nil _)) ?_
    cases hS
    exact ke_ret1 Try.func65 rfl rfl ⟨_, rfl, rfl, hb⟩
   ·intro K9
    rcases Bool.eq_false_or_eq_true (!(s_0 == ([]))) with hg8 | hg8
    ·refine sr_evg (b := true) (e := 20) rfl rfl hg8 (v := str s_0) (ev_move rfl) (by decide) ?_
     refine sr_evg (b := true) (e := 20) rfl rfl hg8 (v := .int .i64 (s_0.length : Int)) (ev_slen Try.underlying9 rfl) (by decide) ?_
     refine sr_evg (b := true) (e := 20) rfl rfl hg8 (v := .bool (decide ((s_0.length : Int) ≤ 64))) (ev_le rfl rfl) (by decide) ?_
     refine sr_ev (v := .bool (decide ((s_0.length : Int) ≤ 64))) (ev_pick_t rfl hg8 rfl) (by decide) ?_
     exact sr_weaken (l' := [(24, .bool (decide ((s_0.length : Int) ≤ 64)))]) (.cons rfl (.nil _)) (K9 (decide ((s_0.length : Int) ≤ 64)) _ ⟨by rw [hg8]; rfl, rfl⟩)
    ·refine sr_pass (e := 20) rfl rfl (by rw [hg8]; rfl) (by decide) ?_
     refine sr_pass (e := 20) rfl rfl (by rw [hg8]; rfl) (by decide) ?_
     refine sr_pass (e := 20) rfl rfl (by rw [hg8]; rfl) (by decide) ?_
     refine sr_ev (v := .bool false) (ev_pick_f rfl hg8 rfl) (by decide) ?_
     exact sr_weaken (l' := [(24, .bool false)]) (.cons rfl (.nil _)) (K9 false _ ⟨by rw [hg8]; rfl, rfl⟩)
theorem fold_made__Word_1_ok (w0 : World) (hg : Gs w0) {s_0 : Str} {r : Bool} (hS : fold_made__Word_1 s_0 = some r) :
  Calls Try.prog 65 #[str s_0, .func (.func 66) #[] #[]] w0 (Ret (fun v w' => v = .bool r ∧ Below w0.heap.size w0 w')) := by
 unfold fold_made__Word_1 at hS
 have hb := Below.refl w0.heap.size w0
 refine calls_of_ke Try.func65 rfl (n := 25) rfl rfl (l := [(0, str s_0), (1, .func (.func 66) #[] #[])]) rfl ?_
 refine ke_seq ?_
 refine ke_region ?_
 refine sr_ev (v := .bool false) (ev_assign rfl) (by decide) ?_
 refine sr_end (l' := [(0, str s_0), (1, .func (.func 66) #[] #[])]) (.cons rfl (.cons rfl (.nil _))) ?_
 refine ke_seq ?_
 refine ke_seq ?_
 refine ke_region ?_
 refine sr_ev (v := str s_0) (ev_move rfl) (by decide) ?_
 refine sr_ev (v := .int .i64 (s_0.length : Int)) (ev_slen Try.underlying9 rfl) (by decide) ?_
 refine sr_ev (v := .int .i64 0) (ev_move rfl) (by decide) ?_
 refine sr_end (l' := [(0, str s_0), (1, .func (.func 66) #[] #[]), (7, .int .i64 (s_0.length : Int)), (8, .int .i64 0)]) (.cons rfl (.cons rfl (.cons rfl (.cons rfl (.nil _))))) ?_
 refine ke_block ?_
 have hK := fold_made__Word_1_L1_ok hg _ hS hb
 exact ke_weaken (l' := [(0, str s_0), (1, .func (.func 66) #[] #[]), (7, .int .i64 (s_0.length : Int)), (8, .int .i64 0)]) (.cons rfl (.cons rfl (.cons rfl (.cons rfl (.nil _))))) (ke_loop hK)
theorem fold_Word_ok (w0 : World) (hg : Gs w0) {s_0 : Str} {r : Bool} (hS : fold_Word s_0 = some r) :
  Calls Try.prog 44 #[str s_0] w0 (Ret (fun v w' => v = .bool r ∧ Below w0.heap.size w0 w')) := by
 unfold fold_Word at hS
 have hb := Below.refl w0.heap.size w0
 refine calls_of_ke Try.func44 rfl (n := 5) rfl rfl (l := [(0, str s_0)]) rfl ?_
 refine ke_seq ?_
 refine ke_region ?_
 refine sr_ev (v := .bool false) (ev_assign rfl) (by decide) ?_
 refine sr_end (l' := [(0, str s_0)]) (.cons rfl (.nil _)) ?_
 refine ke_seq ?_
 refine ke_region ?_
 refine sr_ev (v := str s_0) (ev_move rfl) (by decide) ?_
 obtain ⟨y1, hy2, hS⟩ := bind_some' hS
 refine sr_call (vs := [str s_0, .func (.func 66) #[] #[]]) rfl Try.call65 rfl (fold_made__Word_1_ok _ (hg.below hb) hy2) (by decide) ?_
 rintro _ w3 ⟨rfl, hbw4⟩
 replace hb := hb.trans (hbw4.mono hb.size)
 refine sr_ev (v := .bool y1) (ev_assign rfl) (by decide) ?_
 refine sr_end (l' := [(2, .bool y1)]) (.cons rfl (.nil _)) ?_
 cases hS
 exact ke_ret1 Try.func44 rfl rfl ⟨_, rfl, rfl, hb⟩
theorem scope_valid_ok (w0 : World) (hg : Gs w0) {s_0 : Str} {r : Bool} (hS : scope_valid s_0 = some r) :
  Calls Try.prog 57 #[str s_0] w0 (Ret (fun v w' => v = .bool r ∧ Below w0.heap.size w0 w')) := by
 unfold scope_valid at hS
 have hb := Below.refl w0.heap.size w0
 refine calls_of_ke Try.func57 rfl (n := 23) rfl rfl (l := [(0, str s_0)]) rfl ?_
 refine ke_seq ?_
 refine ke_region ?_
 refine sr_ev (v := .bool false) (ev_assign rfl) (by decide) ?_
 refine sr_end (l' := [(0, str s_0)]) (.cons rfl (.nil _)) ?_
 refine ke_seq ?_
 refine ke_region ?_
 refine sr_ev (v := str s_0) (ev_move rfl) (by decide) ?_
 obtain ⟨y1, hy2, hS⟩ := bind_some' hS
 refine sr_call (vs := [str s_0]) rfl Try.call44 rfl (fold_Word_ok _ (hg.below hb) hy2) (by decide) ?_
 rintro _ w3 ⟨rfl, hbw4⟩
 replace hb := hb.trans (hbw4.mono hb.size)
 refine sr_ev (v := .bool y1) (ev_move rfl) (by decide) ?_
 obtain ⟨z7, hz9, hS⟩ := bind_some' hS
 refine sr_join (m := 4) (C := fun (x : Bool) w1 => z7 = x ∧ Below w3.heap.size w3 w1) (l' := fun x => [(0, str s_0), (9, .bool x)]) ?_ ?_
 ·rintro _ w10 ⟨rfl, hbw11⟩
  replace hb := hb.trans (hbw11.mono hb.size)
  refine sr_ev (v := .bool z7) (ev_move rfl) (by decide) ?_
  obtain ⟨z15, hz17, hS⟩ := bind_some' hS
  refine sr_join (m := 7) (C := fun (x : Bool) w1 => z15 = x ∧ Below w10.heap.size w10 w1) (l' := fun x => [(0, str s_0), (17, .bool x)]) ?_ ?_
  ·rintro _ w18 ⟨rfl, hbw19⟩
   replace hb := hb.trans (hbw19.mono hb.size)
   refine sr_ev (v := .bool z15) (ev_move rfl) (by decide) ?_
   obtain ⟨z23, hz25, hS⟩ := bind_some' hS
   refine sr_join (m := 4) (C := fun (x : Bool) w1 => z23 = x ∧ Below w18.heap.size w18 w1) (l' := fun x => [(22, .bool x)]) ?_ ?_
   ·rintro _ w26 ⟨rfl, hbw27⟩
    replace hb := hb.trans (hbw27.mono hb.size)
    refine sr_ev (v := .bool z23) (ev_assign rfl) (by decide) ?_
    refine sr_end (l' := [(2, .bool z23)]) (.cons rfl (.nil _)) ?_
    cases hS
    exact ke_ret1 Try.func57 rfl rfl ⟨_, rfl, rfl, hb⟩
   ·intro K22
    clear hS
    have hj24 := Below.refl w18.heap.size w18
    rcases Bool.eq_false_or_eq_true z15 with hg21 | hg21
    ·have hS := ite_true' hz25 hg21
     refine sr_evg (b := true) (e := 18) rfl rfl hg21 (v := str s_0) (ev_move rfl) (by decide) ?_
     obtain ⟨y28, hy29, hS⟩ := bind_some' hS
     refine sr_callg (b := true) (e := 18) rfl rfl hg21 (vs := [str s_0, str ([46, 46])]) rfl Try.call74 rfl (lib_Contains_ok _ (hg.below hb) hy29) (by decide) ?_
     rintro _ w30 ⟨rfl, hbw31⟩
     replace hb := hb.trans (hbw31.mono hb.size)
     replace hj24 := hj24.trans (hbw31.mono hj24.size)
     refine sr_evg (b := true) (e := 18) rfl rfl hg21 (v := .bool (!y28)) (ev_not rfl) (by decide) ?_
     refine sr_ev (v := .bool (!y28)) (ev_pick_t rfl hg21 rfl) (by decide) ?_
     exact sr_weaken (l' := [(22, .bool (!y28))]) (.cons rfl (.nil _)) (K22 (!y28) _ ⟨(Option.some.inj hS).symm, hj24⟩)
    ·have hS := ite_false' hz25 hg21
     refine sr_pass (e := 18) rfl rfl (by rw [hg21]; rfl) (by decide) ?_
     refine sr_pass (e := 18) rfl rfl (by rw [hg21]; rfl) (by decide) ?_
     refine sr_pass (e := 18) rfl rfl (by rw [hg21]; rfl) (by decide) ?_
     refine sr_ev (v := .bool false) (ev_pick_f rfl hg21 rfl) (by decide) ?_
     exact sr_weaken (l' := [(22, .bool false)]) (.cons rfl (.nil _)) (K22 false _ ⟨(Option.some.inj hS).symm, hj24⟩)
  ·intro K14
   clear hS
   have hj16 := Below.refl w10.heap.size w10
   rcases Bool.eq_false_or_eq_true z7 with hg13 | hg13
   ·have hS := ite_true' hz17 hg13
    refine sr_evg (b := true) (e := 10) rfl rfl hg13 (v := str s_0) (ev_move rfl) (by decide) ?_
    refine sr_evg (b := true) (e := 10) rfl rfl hg13 (v := str s_0) (ev_move rfl) (by decide) ?_
    refine sr_evg (b := true) (e := 10) rfl rfl hg13 (v := .int .i64 (s_0.length : Int)) (ev_slen Try.underlying9 rfl) (by decide) ?_
    refine sr_evg (b := true) (e := 10) rfl rfl hg13 (v := .int .i64 (IntKind.i64.wrap ((s_0.length : Int) - 1))) (ev_sub rfl rfl) (by decide) ?_
    obtain ⟨hk20, hS⟩ := chk_some hS
    refine sr_evg (b := true) (e := 10) rfl rfl hg13 (v := .int .u8 (byteAt s_0 (IntKind.i64.wrap ((s_0.length : Int) - 1)))) (ev_sindex Try.underlying9 rfl rfl hk20) (by decide) ?_
    refine sr_evg (b := true) (e := 10) rfl rfl hg13 (v := .bool ((byteAt s_0 (IntKind.i64.wrap ((s_0.length : Int) - 1))) != 46)) (ev_ne rfl rfl) (by decide) ?_
    refine sr_ev (v := .bool ((byteAt s_0 (IntKind.i64.wrap ((s_0.length : Int) - 1))) != 46)) (ev_pick_t rfl hg13 rfl) (by decide) ?_
    exact sr_weaken (l' := [(0, str s_0), (17, .bool ((byteAt s_0 (IntKind.i64.wrap ((s_0.length : Int) - 1))) != 46))]) (.cons rfl (.cons rfl (.nil _))) (K14 ((byteAt s_0 (IntKind.i64.wrap ((s_0.length : Int) - 1))) != 46) _ ⟨(Option.some.inj hS).symm, hj16⟩)
   ·have hS := ite_false' hz17 hg13
    refine sr_pass (e := 10) rfl rfl (by rw [hg13]; rfl) (by decide) ?_
    refine sr_pass (e := 10) rfl rfl (by rw [hg13]; rfl) (by decide) ?_
    refine sr_pass (e := 10) rfl rfl (by rw [hg13]; rfl) (by decide) ?_
    refine sr_pass (e := 10) rfl rfl (by rw [hg13]; rfl) (by decide) ?_
    refine sr_pass (e := 10) rfl rfl (by rw [hg13]; rfl) (by decide) ?_
    refine sr_pass (e := 10) rfl rfl (by rw [hg13]; rfl) (by decide) ?_
    refine sr_ev (v := .bool false) (ev_pick_f rfl hg13 rfl) (by decide) ?_
    exact sr_weaken (l' := [(0, str s_0), (17, .bool false)]) (.cons rfl (.cons rfl (.nil _))) (K14 false _ ⟨(Option.some.inj hS).symm, hj16⟩)
 ·intro K6
  clear hS
  have hj8 := Below.refl w3.heap.size w3
  rcases Bool.eq_false_or_eq_true y1 with hg5 | hg5
  ·have hS := ite_true' hz9 hg5
   refine sr_evg (b := true) (e := 5) rfl rfl hg5 (v := str s_0) (ev_move rfl) (by decide) ?_
   obtain ⟨hk12, hS⟩ := chk_some hS
   refine sr_evg (b := true) (e := 5) rfl rfl hg5 (v := .int .u8 (byteAt s_0 0)) (ev_sindex Try.underlying9 rfl rfl hk12) (by decide) ?_
   refine sr_evg (b := true) (e := 5) rfl rfl hg5 (v := .bool ((byteAt s_0 0) != 46)) (ev_ne rfl rfl) (by decide) ?_
   refine sr_ev (v := .bool ((byteAt s_0 0) != 46)) (ev_pick_t rfl hg5 rfl) (by decide) ?_
   exact sr_weaken (l' := [(0, str s_0), (9, .bool ((byteAt s_0 0) != 46))]) (.cons rfl (.cons rfl (.nil _))) (K6 ((byteAt s_0 0) != 46) _ ⟨(Option.some.inj hS).symm, hj8⟩)
  ·have hS := ite_false' hz9 hg5
   refine sr_pass (e := 5) rfl rfl (by rw [hg5]; rfl) (by decide) ?_
   refine sr_pass (e := 5) rfl rfl (by rw [hg5]; rfl) (by decide) ?_
   refine sr_pass (e := 5) rfl rfl (by rw [hg5]; rfl) (by decide) ?_
   refine sr_ev (v := .bool false) (ev_pick_f rfl hg5 rfl) (by decide) ?_
   exact sr_weaken (l' := [(0, str s_0), (9, .bool false)]) (.cons rfl (.cons rfl (.nil _))) (K6 false _ ⟨(Option.some.inj hS).symm, hj8⟩)
theorem slices_Index_string_string_L1_ok {w0 : World} (hg : Gs w0) {A0 : Nat → Prop} (hA0 : ∀ b, A0 b → b < w0.heap.size) : ∀ (n : Nat), ∀ {r : Int} {s_0 : List Str} {v_1 : Str} {t_7 : Int} {t_8 : Int} {vs_0 : Value}, slices_Index_string_string_L1 n s_0 v_1 t_7 t_8 = some r → ∀ {w : World} {A : Nat → Prop}, (Below w0.heap.size w0 w) → (∀ b, A b → b < w.heap.size) → (∀ b, A0 b → A b) → (Hp A w0.heap.size w []) → (SlR strC A w vs_0 s_0) → KE Try.prog 62 (Ret (fun v w' => v = .int .i64 r ∧ Below w0.heap.size w0 w')) 19 [.code (sub (bodyOf Try.f62) [2, 1, 2, 2, 1]), .inLoop (sub (bodyOf Try.f62) [2, 1, 2, 2, 1]), .inBlock 0, .code (sub (bodyOf Try.f62) [2, 2])] [(0, vs_0), (1, str v_1), (7, .int .i64 t_7), (8, .int .i64 t_8)] w := by
 intro n
 induction n with
 | zero => intro r s_0 v_1 t_7 t_8 vs_0 hS; cases hS
 | succ n ih =>
  have hr0 : ∀ {r : Int} {s_0 : List Str} {v_1 : Str} {t_7 : Int} {t_8 : Int} {vs_0 : Value}, slices_Index_string_string_L1 n s_0 v_1 t_7 t_8 = some r → ∀ {w : World} {A : Nat → Prop}, (Below w0.heap.size w0 w) → (∀ b, A b → b < w.heap.size) → (∀ b, A0 b → A b) → (Hp A w0.heap.size w []) → (SlR strC A w vs_0 s_0) → KE Try.prog 62 (Ret (fun v w' => v = .int .i64 r ∧ Below w0.heap.size w0 w')) 19 [.inLoop (sub (bodyOf Try.f62) [2, 1, 2, 2, 1]), .inBlock 0, .code (sub (bodyOf Try.f62) [2, 2])] [(0, vs_0), (1, str v_1), (7, .int .i64 t_7), (8, .int .i64 t_8)] w := fun {r} {s_0} {v_1} {t_7} {t_8} {vs_0} hS {w} {A} hb hA hi hH hs_0 => ke_inLoop (ih hS hb hA hi hH hs_0)
  clear ih
  intro r s_0 v_1 t_7 t_8 vs_0 hS w A hb hA hi hH hs_0
  unfold slices_Index_string_string_L1 at hS
  refine ke_seq ?_
  refine ke_region ?_
  refine sr_ev (v := .bool (decide (t_8 < t_7))) (ev_lt rfl rfl) (by decide) ?_
  refine sr_end (l' := [(0, vs_0), (1, str v_1), (7, .int .i64 t_7), (8, .int .i64 t_8), (9, .bool (decide (t_8 < t_7)))]) (.cons rfl (.cons rfl (.cons rfl (.cons rfl (.cons rfl (.nil _)))))) ?_
  refine ke_seq ?_
  refine ke_cond (t := decide (t_8 < t_7)) rfl (fun hc3 => ?_) (fun hc3 => ?_)
  ·replace hS := ite_true' hS hc3
   refine ke_skip ?_
   refine ke_seq ?_
   refine ke_block ?_
   refine ke_seq ?_
   refine ke_region ?_
   refine sr_ev (v := .int .i64 t_8) (ev_move rfl) (by decide) ?_
   refine sr_ev (v := .int .i64 t_8) (ev_assign rfl) (by decide) ?_
   refine sr_end (l' := [(0, vs_0), (1, str v_1), (5, .int .i64 t_8), (7, .int .i64 t_7), (8, .int .i64 t_8)]) (.cons rfl (.cons rfl (.cons rfl (.cons rfl (.cons rfl (.nil _)))))) ?_
   refine ke_seq ?_
   refine ke_region ?_
   refine sr_ev (v := str v_1) (ev_move rfl) (by decide) ?_
   refine sr_ev (v := vs_0) (ev_move rfl) (by decide) ?_
   refine sr_ev (v := .int .i64 t_8) (ev_move rfl) (by decide) ?_
   obtain ⟨y4, hy5, hS⟩ := bind_some' hS
   refine sr_index hs_0 Try.underlying23 Try.info9 rfl rfl rfl hy5 (by decide) ?_
   intro b6 o7 cs9 he8
   obtain rfl : cs9 = [str y4] := he8.rd
   refine sr_ev (v := str y4) (ev_load Try.isAgg9 rfl (he8.cell 0 _ rfl)) (by decide) ?_
   refine sr_ev (v := .bool (v_1 == y4)) (ev_seq rfl rfl) (by decide) ?_
   refine sr_end (l' := [(0, vs_0), (1, str v_1), (5, .int .i64 t_8), (7, .int .i64 t_7), (8, .int .i64 t_8), (16, .bool (v_1 == y4))]) (.cons rfl (.cons rfl (.cons rfl (.cons rfl (.cons rfl (.cons rfl (.nil _))))))) ?_
   refine ke_cond (t := v_1 == y4) rfl (fun hc10 => ?_) (fun hc10 => ?_)
   ·replace hS := ite_true' hS hc10
    refine ke_seq ?_
    refine ke_region ?_
    refine sr_ev (v := .int .i64 t_8) (ev_move rfl) (by decide) ?_
    refine sr_ev (v := .int .i64 t_8) (ev_assign rfl) (by decide) ?_
    refine sr_end (l' := [(4, .int .i64 t_8)]) (.cons rfl (.nil _)) ?_
    cases hS
    exact ke_ret1 Try.func62 rfl rfl ⟨_, rfl, rfl, hb⟩
   ·replace hS := ite_false' hS hc10
    refine ke_skip ?_
    refine ke_inBlock ?_
    refine ke_region ?_
    refine sr_ev (v := .int .i64 (IntKind.i64.wrap (t_8 + 1))) (ev_add rfl rfl) (by decide) ?_
    refine sr_ev (v := .int .i64 (IntKind.i64.wrap (t_8 + 1))) (ev_move rfl) (by decide) ?_
    refine sr_end (l' := [(0, vs_0), (1, str v_1), (7, .int .i64 t_7), (8, .int .i64 (IntKind.i64.wrap (t_8 + 1)))]) (.cons rfl (.cons rfl (.cons rfl (.cons rfl (.nil _))))) ?_
    have hK := hr0 hS hb hA hi hH hs_0
    exact ke_weaken (l' := [(0, vs_0), (1, str v_1), (7, .int .i64 t_7), (8, .int .i64 (IntKind.i64.wrap (t_8 + 1)))]) (.cons rfl (.cons rfl (.cons rfl (.cons rfl (.nil _))))) hK
  ·replace hS := ite_false' hS hc3
   refine ke_exit (k' := _) rfl ?_
   refine ke_seq ?_
   refine ke_region ?_
   refine sr_ev (v := .int .i64 (-1)) (ev_assign rfl) (by decide) ?_
   refine sr_end (l' := [(4, .int .i64 (-1))]) (.cons rfl (.nil _)) ?_
   cases hS
   exact ke_ret1 Try.func62 rfl rfl ⟨_, rfl, rfl, hb⟩
theorem slices_Index_string_string_ok {A0 : Nat → Prop} (w0 : World) (hg : Gs w0) {s_0 : List Str} {v_1 : Str} {v1 : Value} {r : Int} (h2 : SlR strC A0 w0 v1 s_0) (hS : slices_Index_string_string s_0 v_1 = some r) :
  Calls Try.prog 62 #[v1, str v_1] w0 (Ret (fun v w' => v = .int .i64 r ∧ Below w0.heap.size w0 w')) := by
 unfold slices_Index_string_string at hS
 have hb := Below.refl w0.heap.size w0
 replace h2 := h2.weak (A' := fun _ => False) (fun _ h => h.elim)
 obtain ⟨A0, hA0, hAe⟩ : ∃ A0 : Nat → Prop, (∀ b, A0 b → b < w0.heap.size) ∧ A0 = fun _ => False := ⟨_, fun _ h => h.elim, rfl⟩
 rw [← hAe] at h2
 clear hAe
 have hA := hA0
 have hi : ∀ b, A0 b → A0 b := fun _ h => h
 have hH := Hp.nil A0 w0.heap.size w0
 refine calls_of_ke Try.func62 rfl (n := 19) rfl rfl (l := [(0, v1), (1, str v_1)]) rfl ?_
 refine ke_seq ?_
 refine ke_region ?_
 refine sr_ev (v := .int .i64 0) (ev_assign rfl) (by decide) ?_
 refine sr_end (l' := [(0, v1), (1, str v_1)]) (.cons rfl (.cons rfl (.nil _))) ?_
 refine ke_seq ?_
 refine ke_seq ?_
 refine ke_region ?_
 refine sr_ev (v := v1) (ev_move rfl) (by decide) ?_
 refine sr_ev (v := .int .i64 (s_0.length : Int)) (ev_sllen Try.underlying23 rfl h2) (by decide) ?_
 refine sr_ev (v := .int .i64 0) (ev_move rfl) (by decide) ?_
 refine sr_end (l' := [(0, v1), (1, str v_1), (7, .int .i64 (s_0.length : Int)), (8, .int .i64 0)]) (.cons rfl (.cons rfl (.cons rfl (.cons rfl (.nil _))))) ?_
 refine ke_block ?_
 have hK := slices_Index_string_string_L1_ok hg hA0 _ hS hb hA hi hH h2
 exact ke_weaken (l' := [(0, v1), (1, str v_1), (7, .int .i64 (s_0.length : Int)), (8, .int .i64 0)]) (.cons rfl (.cons rfl (.cons rfl (.cons rfl (.nil _))))) (ke_loop hK)
theorem slices_Contains_string_string_ok {A0 : Nat → Prop} (w0 : World) (hg : Gs w0) {s_0 : List Str} {v_1 : Str} {v1 : Value} {r : Bool} (h2 : SlR strC A0 w0 v1 s_0) (hS : slices_Contains_string_string s_0 v_1 = some r) :
  Calls Try.prog 39 #[v1, str v_1] w0 (Ret (fun v w' => v = .bool r ∧ Below w0.heap.size w0 w')) := by
 unfold slices_Contains_string_string at hS
 have hb := Below.refl w0.heap.size w0
 replace h2 := h2.weak (A' := fun _ => False) (fun _ h => h.elim)
 obtain ⟨A0, hA0, hAe⟩ : ∃ A0 : Nat → Prop, (∀ b, A0 b → b < w0.heap.size) ∧ A0 = fun _ => False := ⟨_, fun _ h => h.elim, rfl⟩
 rw [← hAe] at h2
 clear hAe
 have hA := hA0
 have hi : ∀ b, A0 b → A0 b := fun _ h => h
 have hH := Hp.nil A0 w0.heap.size w0
 refine calls_of_ke Try.func39 rfl (n := 9) rfl rfl (l := [(0, v1), (1, str v_1)]) rfl ?_
 refine ke_seq ?_
 refine ke_region ?_
 refine sr_ev (v := .bool false) (ev_assign rfl) (by decide) ?_
 refine sr_end (l' := [(0, v1), (1, str v_1)]) (.cons rfl (.cons rfl (.nil _))) ?_
 refine ke_seq ?_
 refine ke_region ?_
 refine sr_ev (v := v1) (ev_move rfl) (by decide) ?_
 refine sr_ev (v := str v_1) (ev_move rfl) (by decide) ?_
 obtain ⟨y3, hy4, hS⟩ := bind_some' hS
 refine sr_call (vs := [v1, str v_1]) rfl Try.call62 rfl (slices_Index_string_string_ok _ (hg.below hb) h2 hy4) (by decide) ?_
 rintro _ w5 ⟨rfl, hbw6⟩
 replace hb := hb.trans (hbw6.mono hb.size)
 replace hA := lt_mono hA hbw6.size
 replace hH := hH.below hbw6
 refine sr_ev (v := .bool (decide (y3 ≥ 0))) (ev_ge rfl rfl) (by decide) ?_
 refine sr_ev (v := .bool (decide (y3 ≥ 0))) (ev_assign rfl) (by decide) ?_
 refine sr_end (l' := [(4, .bool (decide (y3 ≥ 0)))]) (.cons rfl (.nil _)) ?_
 cases hS
 exact ke_ret1 Try.func39 rfl rfl ⟨_, rfl, rfl, hb⟩
theorem scope_Check_L1_ok {w0 : World} (hg : Gs w0) {A0 : Nat → Prop} (hA0 : ∀ b, A0 b → b < w0.heap.size) : ∀ (n : Nat), ∀ {r : Int} {l_0 : List Str} {t_8 : List Str} {t_9 : Int} {t_10 : Int} {vl_0 : Value} {vt_8 : Value}, scope_Check_L1 n l_0 t_8 t_9 t_10 = some r → ∀ {w : World} {A : Nat → Prop}, (Below w0.heap.size w0 w) → (∀ b, A b → b < w.heap.size) → (∀ b, A0 b → A b) → (Hp A w0.heap.size w []) → (SlR strC A w vl_0 l_0) → (SlR strC A w vt_8 t_8) → KE Try.prog 45 (Ret (fun v w' => v = .int .i64 r ∧ Below w0.heap.size w0 w')) 24 [.code (sub (bodyOf Try.f45) [2, 2, 1, 2, 2, 1]), .inLoop (sub (bodyOf Try.f45) [2, 2, 1, 2, 2, 1]), .inBlock 0, .code (sub (bodyOf Try.f45) [2, 2, 2])] [(0, vl_0), (8, vt_8), (9, .int .i64 t_9), (10, .int .i64 t_10)] w := by
 intro n
 induction n with
 | zero => intro r l_0 t_8 t_9 t_10 vl_0 vt_8 hS; cases hS
 | succ n ih =>
  have hr0 : ∀ {r : Int} {l_0 : List Str} {t_8 : List Str} {t_9 : Int} {t_10 : Int} {vl_0 : Value} {vt_8 : Value}, scope_Check_L1 n l_0 t_8 t_9 t_10 = some r → ∀ {w : World} {A : Nat → Prop}, (Below w0.heap.size w0 w) → (∀ b, A b → b < w.heap.size) → (∀ b, A0 b → A b) → (Hp A w0.heap.size w []) → (SlR strC A w vl_0 l_0) → (SlR strC A w vt_8 t_8) → KE Try.prog 45 (Ret (fun v w' => v = .int .i64 r ∧ Below w0.heap.size w0 w')) 24 [.inLoop (sub (bodyOf Try.f45) [2, 2, 1, 2, 2, 1]), .inBlock 0, .code (sub (bodyOf Try.f45) [2, 2, 2])] [(0, vl_0), (8, vt_8), (9, .int .i64 t_9), (10, .int .i64 t_10)] w := fun {r} {l_0} {t_8} {t_9} {t_10} {vl_0} {vt_8} hS {w} {A} hb hA hi hH hl_0 ht_8 => ke_inLoop (ih hS hb hA hi hH hl_0 ht_8)
  clear ih
  intro r l_0 t_8 t_9 t_10 vl_0 vt_8 hS w A hb hA hi hH hl_0 ht_8
  unfold scope_Check_L1 at hS
  refine ke_seq ?_
  refine ke_region ?_
  refine sr_ev (v := .bool (decide (t_10 < t_9))) (ev_lt rfl rfl) (by decide) ?_
  refine sr_end (l' := [(0, vl_0), (8, vt_8), (9, .int .i64 t_9), (10, .int .i64 t_10), (11, .bool (decide (t_10 < t_9)))]) (.cons rfl (.cons rfl (.cons rfl (.cons rfl (.cons rfl (.nil _)))))) ?_
  refine ke_seq ?_
  refine ke_cond (t := decide (t_10 < t_9)) rfl (fun hc4 => ?_) (fun hc4 => ?_)
  ·replace hS := ite_true' hS hc4
   refine ke_skip ?_
   refine ke_seq ?_
   refine ke_block ?_
   refine ke_seq ?_
   refine ke_region ?_
   refine sr_ev (v := .int .i64 t_10) (ev_move rfl) (by decide) ?_
   obtain ⟨y5, hy6, hS⟩ := bind_some' hS
   refine sr_index ht_8 Try.underlying23 Try.info9 rfl rfl rfl hy6 (by decide) ?_
   intro b7 o8 cs10 he9
   obtain rfl : cs10 = [str y5] := he9.rd
   refine sr_ev (v := str y5) (ev_load Try.isAgg9 rfl (he9.cell 0 _ rfl)) (by decide) ?_
   refine sr_ev (v := .int .i64 t_10) (ev_assign rfl) (by decide) ?_
   refine sr_ev (v := str y5) (ev_assign rfl) (by decide) ?_
   refine sr_end (l' := [(0, vl_0), (3, .int .i64 t_10), (4, str y5), (8, vt_8), (9, .int .i64 t_9), (10, .int .i64 t_10)]) (.cons rfl (.cons rfl (.cons rfl (.cons rfl (.cons rfl (.cons rfl (.nil _))))))) ?_
   refine ke_seq ?_
   refine ke_seq ?_
   refine ke_region ?_
   refine sr_ev (v := str y5) (ev_move rfl) (by decide) ?_
   obtain ⟨y11, hy12, hS⟩ := bind_some' hS
   refine sr_call (vs := [str y5]) rfl Try.call57 rfl (scope_valid_ok _ (hg.below hb) hy12) (by decide) ?_
   rintro _ w13 ⟨rfl, hbw14⟩
   replace hb := hb.trans (hbw14.mono hb.size)
   replace hA := lt_mono hA hbw14.size
   replace hH := hH.below hbw14
   replace hl_0 := hl_0.below hbw14
   replace ht_8 := ht_8.below hbw14
   refine sr_ev (v := .bool (!y11)) (ev_not rfl) (by decide) ?_
   refine sr_end (l' := [(0, vl_0), (3, .int .i64 t_10), (4, str y5), (8, vt_8), (9, .int .i64 t_9), (10, .int .i64 t_10), (17, .bool (!y11))]) (.cons rfl (.cons rfl (.cons rfl (.cons rfl (.cons rfl (.cons rfl (.cons rfl (.nil _)))))))) ?_
   refine ke_cond (t := !y11) rfl (fun hc15 => ?_) (fun hc15 => ?_)
   ·replace hS := ite_true' hS hc15
    refine ke_seq ?_
    refine ke_region ?_
    refine sr_ev (v := .int .i64 5) (ev_assign rfl) (by decide) ?_
    refine sr_end (l' := [(2, .int .i64 5)]) (.cons rfl (.nil _)) ?_
    cases hS
    exact ke_ret1 Try.func45 rfl rfl ⟨_, rfl, rfl, hb⟩
   ·replace hS := ite_false' hS hc15
    refine ke_skip ?_
    refine ke_seq ?_
    refine ke_region ?_
    refine sr_ev (v := vl_0) (ev_move rfl) (by decide) ?_
    refine sr_ev (v := .int .i64 t_10) (ev_move rfl) (by decide) ?_
    obtain ⟨hk16, hS⟩ := chk_some hS
    refine sr_slice_h hl_0 Try.underlying23 Try.info9 rfl rfl rfl  hk16 (by decide) ?_
    intro v17 h18
    refine sr_ev (v := str y5) (ev_move rfl) (by decide) ?_
    obtain ⟨y19, hy20, hS⟩ := bind_some' hS
    refine sr_call (vs := [v17, str y5]) rfl Try.call39 rfl (slices_Contains_string_string_ok _ (hg.below hb) h18 hy20) (by decide) ?_
    rintro _ w21 ⟨rfl, hbw22⟩
    replace hb := hb.trans (hbw22.mono hb.size)
    replace hA := lt_mono hA hbw22.size
    replace hH := hH.below hbw22
    replace hl_0 := hl_0.below hbw22
    replace ht_8 := ht_8.below hbw22
    refine sr_end (l' := [(0, vl_0), (8, vt_8), (9, .int .i64 t_9), (10, .int .i64 t_10), (22, .bool y19)]) (.cons rfl (.cons rfl (.cons rfl (.cons rfl (.cons rfl (.nil _)))))) ?_
    refine ke_cond (t := y19) rfl (fun hc23 => ?_) (fun hc23 => ?_)
    ·replace hS := ite_true' hS hc23
     refine ke_seq ?_
     refine ke_region ?_
     refine sr_ev (v := .int .i64 7) (ev_assign rfl) (by decide) ?_
     refine sr_end (l' := [(2, .int .i64 7)]) (.cons rfl (.nil _)) ?_
     cases hS
     exact ke_ret1 Try.func45 rfl rfl ⟨_, rfl, rfl, hb⟩
    ·replace hS := ite_false' hS hc23
     refine ke_skip ?_
     refine ke_inBlock ?_
     refine ke_region ?_
     refine sr_ev (v := .int .i64 (IntKind.i64.wrap (t_10 + 1))) (ev_add rfl rfl) (by decide) ?_
     refine sr_ev (v := .int .i64 (IntKind.i64.wrap (t_10 + 1))) (ev_move rfl) (by decide) ?_
     refine sr_end (l' := [(0, vl_0), (8, vt_8), (9, .int .i64 t_9), (10, .int .i64 (IntKind.i64.wrap (t_10 + 1)))]) (.cons rfl (.cons rfl (.cons rfl (.cons rfl (.nil _))))) ?_
     have hK := hr0 hS hb hA hi hH hl_0 ht_8
     exact ke_weaken (l' := [(0, vl_0), (8, vt_8), (9, .int .i64 t_9), (10, .int .i64 (IntKind.i64.wrap (t_10 + 1)))]) (.cons rfl (.cons rfl (.cons rfl (.cons rfl (.nil _))))) hK
  ·replace hS := ite_false' hS hc4
   refine ke_exit (k' := _) rfl ?_
   refine ke_seq ?_
   refine ke_region ?_
   refine sr_ev (v := .int .i64 0) (ev_assign rfl) (by decide) ?_
   refine sr_end (l' := [(2, .int .i64 0)]) (.cons rfl (.nil _)) ?_
   cases hS
   exact ke_ret1 Try.func45 rfl rfl ⟨_, rfl, rfl, hb⟩
theorem scope_Check_ok {A0 : Nat → Prop} (w0 : World) (hg : Gs w0) {l_0 : List Str} {v1 : Value} {r : Int} (h2 : SlR strC A0 w0 v1 l_0) (hS : scope_Check l_0 = some r) :
  Calls Try.prog 45 #[v1] w0 (Ret (fun v w' => v = .int .i64 r ∧ Below w0.heap.size w0 w')) := by
 unfold scope_Check at hS
 have hb := Below.refl w0.heap.size w0
 replace h2 := h2.weak (A' := fun _ => False) (fun _ h => h.elim)
 obtain ⟨A0, hA0, hAe⟩ : ∃ A0 : Nat → Prop, (∀ b, A0 b → b < w0.heap.size) ∧ A0 = fun _ => False := ⟨_, fun _ h => h.elim, rfl⟩
 rw [← hAe] at h2
 clear hAe
 have hA := hA0
 have hi : ∀ b, A0 b → A0 b := fun _ h => h
 have hH := Hp.nil A0 w0.heap.size w0
 refine calls_of_ke Try.func45 rfl (n := 24) rfl rfl (l := [(0, v1)]) rfl ?_
 refine ke_seq ?_
 refine ke_region ?_
 refine sr_ev (v := .int .i64 0) (ev_assign rfl) (by decide) ?_
 refine sr_end (l' := [(0, v1)]) (.cons rfl (.nil _)) ?_
 refine ke_seq ?_
 refine ke_seq ?_
 refine ke_region ?_
 refine sr_ev (v := v1) (ev_move rfl) (by decide) ?_
 refine sr_ev (v := .int .i64 (l_0.length : Int)) (ev_sllen Try.underlying23 rfl h2) (by decide) ?_
 refine sr_ev (v := .bool (decide ((l_0.length : Int) > 16))) (ev_gt rfl rfl) (by decide) ?_
 refine sr_end (l' := [(0, v1), (7, .bool (decide ((l_0.length : Int) > 16)))]) (.cons rfl (.cons rfl (.nil _))) ?_
 refine ke_cond (t := decide ((l_0.length : Int) > 16)) rfl (fun hc3 => ?_) (fun hc3 => ?_)
 ·replace hS := ite_true' hS hc3
  refine ke_seq ?_
  refine ke_region ?_
  refine sr_ev (v := .int .i64 3) (ev_assign rfl) (by decide) ?_
  refine sr_end (l' := [(2, .int .i64 3)]) (.cons rfl (.nil _)) ?_
  cases hS
  exact ke_ret1 Try.func45 rfl rfl ⟨_, rfl, rfl, hb⟩
 ·replace hS := ite_false' hS hc3
  refine ke_skip ?_
  refine ke_seq ?_
  refine ke_seq ?_
  refine ke_region ?_
  refine sr_ev (v := v1) (ev_move rfl) (by decide) ?_
  refine sr_ev (v := .int .i64 (l_0.length : Int)) (ev_sllen Try.underlying23 rfl h2) (by decide) ?_
  refine sr_ev (v := .int .i64 0) (ev_move rfl) (by decide) ?_
  refine sr_end (l' := [(0, v1), (8, v1), (9, .int .i64 (l_0.length : Int)), (10, .int .i64 0)]) (.cons rfl (.cons rfl (.cons rfl (.cons rfl (.nil _))))) ?_
  refine ke_block ?_
  have hK := scope_Check_L1_ok hg hA0 _ hS hb hA hi hH h2 h2
  exact ke_weaken (l' := [(0, v1), (8, v1), (9, .int .i64 (l_0.length : Int)), (10, .int .i64 0)]) (.cons rfl (.cons rfl (.cons rfl (.cons rfl (.nil _))))) (ke_loop hK)
theorem clock_limited_ok (w0 : World) (hg : Gs w0) {t_0 : Int} {r : Int} (hS : clock_limited t_0 = some r) :
  Calls Try.prog 69 #[.int .i64 t_0] w0 (Ret (fun v w' => v = .int .i64 r ∧ Below w0.heap.size w0 w')) := by
 unfold clock_limited at hS
 have hb := Below.refl w0.heap.size w0
 refine calls_of_ke Try.func69 rfl (n := 6) rfl rfl (l := [(0, .int .i64 t_0)]) rfl ?_
 refine ke_seq ?_
 refine ke_region ?_
 refine sr_ev (v := .int .i64 0) (ev_assign rfl) (by decide) ?_
 refine sr_end (l' := [(0, .int .i64 t_0)]) (.cons rfl (.nil _)) ?_
 refine ke_seq ?_
 refine ke_region ?_
 refine sr_ev (v := .int .i64 t_0) (ev_move rfl) (by decide) ?_
 refine sr_ev (v := .int .i64 (gmax t_0 0)) (ev_max rfl rfl) (by decide) ?_
 refine sr_ev (v := .int .i64 (gmin (gmax t_0 0) 1099511627776)) (ev_min rfl rfl) (by decide) ?_
 refine sr_ev (v := .int .i64 (gmin (gmax t_0 0) 1099511627776)) (ev_assign rfl) (by decide) ?_
 refine sr_end (l' := [(2, .int .i64 (gmin (gmax t_0 0) 1099511627776))]) (.cons rfl (.nil _)) ?_
 cases hS
 exact ke_ret1 Try.func69 rfl rfl ⟨_, rfl, rfl, hb⟩
theorem clock_Valid_ok (w0 : World) (hg : Gs w0) {t_0 : Int} {r : Bool} (hS : clock_Valid t_0 = some r) :
  Calls Try.prog 46 #[.int .i64 t_0] w0 (Ret (fun v w' => v = .bool r ∧ Below w0.heap.size w0 w')) := by
 unfold clock_Valid at hS
 have hb := Below.refl w0.heap.size w0
 refine calls_of_ke Try.func46 rfl (n := 7) rfl rfl (l := [(0, .int .i64 t_0)]) rfl ?_
 refine ke_seq ?_
 refine ke_region ?_
 refine sr_ev (v := .bool false) (ev_assign rfl) (by decide) ?_
 refine sr_end (l' := [(0, .int .i64 t_0)]) (.cons rfl (.nil _)) ?_
 refine ke_seq ?_
 refine ke_region ?_
 refine sr_ev (v := .int .i64 t_0) (ev_move rfl) (by decide) ?_
 refine sr_ev (v := .int .i64 t_0) (ev_move rfl) (by decide) ?_
 obtain ⟨y1, hy2, hS⟩ := bind_some' hS
 refine sr_call (vs := [.int .i64 t_0]) rfl Try.call69 rfl (clock_limited_ok _ (hg.below hb) hy2) (by decide) ?_
 rintro _ w3 ⟨rfl, hbw4⟩
 replace hb := hb.trans (hbw4.mono hb.size)
 refine sr_ev (v := .bool (t_0 == y1)) (ev_eq rfl rfl) (by decide) ?_
 refine sr_ev (v := .bool (t_0 == y1)) (ev_assign rfl) (by decide) ?_
 refine sr_end (l' := [(2, .bool (t_0 == y1))]) (.cons rfl (.nil _)) ?_
 cases hS
 exact ke_ret1 Try.func46 rfl rfl ⟨_, rfl, rfl, hb⟩
theorem delegate_Delegations_Allow_ok (w0 : World) (hg : Gs w0) {ρA : Tags} (hbd : ∀ b, ρA b ≠ 0 → b < w0.heap.size) (hz : Gz ρA) {o : Nat} (ho2 : 2 ≤ o) {d_0 : delegate_Delegations} {from_1 : Str} {to_2 : Str} {scopes_3 : List Str} {w_4 : api_Window} {v4 : Value} {gd_0 : Nat} {r : Int × delegate_Delegations} (h5 : SlR strC (Wb ρA) w0 v4 scopes_3) (ho0 : delegate_Delegations.O (fun p => o + p) ρA w0 gd_0 d_0) (hS : delegate_Delegations_Allow d_0 from_1 to_2 scopes_3 w_4 = some r) :
  Calls Try.prog 22 #[.pointer (some ⟨gd_0, 0, none⟩), str from_1, str to_2, v4, .agg #[.int .i64 w_4.From, .int .i64 w_4.Until]] w0 (Ret (fun v w' => ∃ ρ', v = .int .i64 r.1 ∧ delegate_Delegations.O (fun p => o + p) ρ' w' gd_0 r.2 ∧ Tr ρA w0 (rng o 2) ρ' w')) := by
 unfold delegate_Delegations_Allow at hS
 have hb := enter_fr (ρ := ρA) (w := w0) (n := 2) ho2 hbd
 have hz := hz.enter (n := 2) ho2
 replace h5 := SlR.mv h5 (enter_rd (n := 2) ho2)
 obtain ⟨v1, hB3, h2⟩ := ho0
 replace hB3 := hB3.mv (enter_mv (p := 0) (n := 2) (by decide) ho2)
 replace h2 := h2.mv (enter_mv (p := 1) (n := 2) (by decide) ho2)
 replace hB3 : Blk (enter ρA o 2) 100 w0 gd_0 (.cells #[v1] 54 (0, 0)) := hB3
 replace h2 : MapT delegate_way.ek delegate_delegation.c true (enter ρA o 2) 101 w0 v1 d_0.ways := h2
 refine calls_of_ke Try.func22 rfl (n := 85) rfl rfl (l := [(0, .pointer (some ⟨gd_0, 0, none⟩)), (1, str from_1), (2, str to_2), (3, v4), (4, .agg #[.int .i64 w_4.From, .int .i64 w_4.Until])]) rfl ?_
 refine ke_seq ?_
 refine ke_region ?_
 refine sr_boxT 11 (by decide) hb.bd rfl (by decide) ?_
 intro g6 ρ7 w8 hB10 htr9
 replace h5 := h5.mv htr9.rd
 replace hB3 := hB3.mv (htr9.mv (i := 100) rfl)
 replace h2 := h2.mv (htr9.mv (i := 101) rfl)
 replace hb := hb.trans htr9
 replace hB10 : Blk ρ7 11 w8 g6 (.cells #[.int .i64 w_4.From, .int .i64 w_4.Until] 33 (0, 0)) := hB10
 refine sr_ev (v := .int .i64 0) (ev_assign rfl) (by decide) ?_
 refine sr_end (l' := [(0, .pointer (some ⟨gd_0, 0, none⟩)), (1, str from_1), (2, str to_2), (3, v4), (9, .pointer (some ⟨g6, 0, none⟩))]) (.cons rfl (.cons rfl (.cons rfl (.cons rfl (.cons rfl (.nil _)))))) ?_
 refine ke_seq ?_
 refine ke_seq ?_
 refine ke_region ?_
 refine sr_ev (v := .pointer (some ⟨gd_0, 0, none⟩)) (ev_move rfl) (by decide) ?_
 obtain ⟨y11, hy12, hS⟩ := bind_some' hS
 refine sr_call (vs := [.pointer (some ⟨gd_0, 0, none⟩)]) rfl Try.call38 rfl (delegate_Delegations_made_ok _ (hg.fr hz hb) (ρA := ρ7) hb.bd (hz.fr hg hb) (τ0 := (fun p => 100 + p)) (fun p => Nat.le_add_right_of_le (by decide)) (⟨_, hB3, h2⟩ : delegate_Delegations.O (fun p => 100 + p) ρ7 w8 gd_0 d_0) hy12) (by decide) ?_
 rintro _ w13 ⟨rfl, hbw14⟩
 have htr15 := Tr.of_below hbw14 hb.bd
 replace h5 := h5.mv htr15.rd
 replace hB10 := hB10.mv (htr15.mv (i := 11) rfl)
 replace hB3 := hB3.mv (htr15.mv (i := 100) rfl)
 replace h2 := h2.mv (htr15.mv (i := 101) rfl)
 replace hb := hb.trans htr15
 refine sr_ev (v := .bool (!y11)) (ev_not rfl) (by decide) ?_
 refine sr_end (l' := [(0, .pointer (some ⟨gd_0, 0, none⟩)), (1, str from_1), (2, str to_2), (3, v4), (9, .pointer (some ⟨g6, 0, none⟩)), (17, .bool (!y11))]) (.cons rfl (.cons rfl (.cons rfl (.cons rfl (.cons rfl (.cons rfl (.nil _))))))) ?_
 refine ke_cond (t := !y11) rfl (fun hc16 => ?_) (fun hc16 => ?_)
 ·replace hS := ite_true' hS hc16
  refine ke_seq ?_
  refine ke_region ?_
  refine sr_ev (v := .int .i64 1) (ev_assign rfl) (by decide) ?_
  refine sr_end (l' := [(10, .int .i64 1)]) (.cons rfl (.nil _)) ?_
  cases hS
  exact ke_ret1 Try.func22 rfl rfl ⟨_, rfl, leave ρA w0 o 2 ρ7, rfl, ⟨_, (hB3.mv (leave_mv (p := 0) (by decide) hb)), (h2.mv (leave_mv (p := 1) (by decide) hb))⟩, (leave_tr ho2 hb)⟩
 ·replace hS := ite_false' hS hc16
  refine ke_skip ?_
  refine ke_seq ?_
  refine ke_seq ?_
  refine ke_region ?_
  refine sr_ev (v := str from_1) (ev_move rfl) (by decide) ?_
  obtain ⟨y17, hy18, hS⟩ := bind_some' hS
  refine sr_call (vs := [str from_1]) rfl Try.call44 rfl (fold_Word_ok _ (hg.fr hz hb) hy18) (by decide) ?_
  rintro _ w19 ⟨rfl, hbw20⟩
  have htr21 := Tr.of_below hbw20 hb.bd
  replace h5 := h5.mv htr21.rd
  replace hB10 := hB10.mv (htr21.mv (i := 11) rfl)
  replace hB3 := hB3.mv (htr21.mv (i := 100) rfl)
  replace h2 := h2.mv (htr21.mv (i := 101) rfl)
  replace hb := hb.trans htr21
  refine sr_ev (v := .bool (!y17)) (ev_not rfl) (by decide) ?_
  refine sr_ev (v := .bool (!y17)) (ev_move rfl) (by decide) ?_
  obtain ⟨z24, hz26, hS⟩ := bind_some' hS
  refine sr_join (m := 4) (C := fun (z : Bool) w1 => z24 = z ∧ ∃ ρ1, Tr ρ7 w19 (fun _ => false) ρ1 w1) (l' := fun z => [(0, .pointer (some ⟨gd_0, 0, none⟩)), (1, str from_1), (2, str to_2), (3, v4), (9, .pointer (some ⟨g6, 0, none⟩)), (25, .bool z)]) ?_ ?_
  ·rintro _ w27 ⟨rfl, ρ28, hj25⟩
   replace h5 := h5.mv hj25.rd
   replace hB10 := hB10.mv (hj25.mv (i := 11) rfl)
   replace hB3 := hB3.mv (hj25.mv (i := 100) rfl)
   replace h2 := h2.mv (hj25.mv (i := 101) rfl)
   replace hb := hb.trans hj25
   refine sr_end (l' := [(0, .pointer (some ⟨gd_0, 0, none⟩)), (1, str from_1), (2, str to_2), (3, v4), (9, .pointer (some ⟨g6, 0, none⟩)), (25, .bool z24)]) (.cons rfl (.cons rfl (.cons rfl (.cons rfl (.cons rfl (.cons rfl (.nil _))))))) ?_
   refine ke_cond (t := z24) rfl (fun hc35 => ?_) (fun hc35 => ?_)
   ·replace hS := ite_true' hS hc35
    refine ke_seq ?_
    refine ke_region ?_
    refine sr_ev (v := .int .i64 5) (ev_assign rfl) (by decide) ?_
    refine sr_end (l' := [(10, .int .i64 5)]) (.cons rfl (.nil _)) ?_
    cases hS
    exact ke_ret1 Try.func22 rfl rfl ⟨_, rfl, leave ρA w0 o 2 ρ28, rfl, ⟨_, (hB3.mv (leave_mv (p := 0) (by decide) hb)), (h2.mv (leave_mv (p := 1) (by decide) hb))⟩, (leave_tr ho2 hb)⟩
   ·replace hS := ite_false' hS hc35
    refine ke_skip ?_
    refine ke_seq ?_
    refine ke_seq ?_
    refine ke_region ?_
    refine sr_ev (v := str from_1) (ev_move rfl) (by decide) ?_
    refine sr_ev (v := str to_2) (ev_move rfl) (by decide) ?_
    refine sr_ev (v := .bool (from_1 == to_2)) (ev_seq rfl rfl) (by decide) ?_
    refine sr_end (l' := [(0, .pointer (some ⟨gd_0, 0, none⟩)), (1, str from_1), (2, str to_2), (3, v4), (9, .pointer (some ⟨g6, 0, none⟩)), (28, .bool (from_1 == to_2))]) (.cons rfl (.cons rfl (.cons rfl (.cons rfl (.cons rfl (.cons rfl (.nil _))))))) ?_
    refine ke_cond (t := from_1 == to_2) rfl (fun hc36 => ?_) (fun hc36 => ?_)
    ·replace hS := ite_true' hS hc36
     refine ke_seq ?_
     refine ke_region ?_
     refine sr_ev (v := .int .i64 28) (ev_assign rfl) (by decide) ?_
     refine sr_end (l' := [(10, .int .i64 28)]) (.cons rfl (.nil _)) ?_
     cases hS
     exact ke_ret1 Try.func22 rfl rfl ⟨_, rfl, leave ρA w0 o 2 ρ28, rfl, ⟨_, (hB3.mv (leave_mv (p := 0) (by decide) hb)), (h2.mv (leave_mv (p := 1) (by decide) hb))⟩, (leave_tr ho2 hb)⟩
    ·replace hS := ite_false' hS hc36
     refine ke_skip ?_
     refine ke_seq ?_
     refine ke_seq ?_
     refine ke_region ?_
     refine sr_ev (v := v4) (ev_move rfl) (by decide) ?_
     obtain ⟨y37, hy38, hS⟩ := bind_some' hS
     refine sr_call (vs := [v4]) rfl Try.call45 rfl (scope_Check_ok _ (hg.fr hz hb) h5.asSl hy38) (by decide) ?_
     rintro _ w39 ⟨rfl, hbw40⟩
     have htr41 := Tr.of_below hbw40 hb.bd
     replace h5 := h5.mv htr41.rd
     replace hB10 := hB10.mv (htr41.mv (i := 11) rfl)
     replace hB3 := hB3.mv (htr41.mv (i := 100) rfl)
     replace h2 := h2.mv (htr41.mv (i := 101) rfl)
     replace hb := hb.trans htr41
     refine sr_ev (v := .int .i64 y37) (ev_assign rfl) (by decide) ?_
     refine sr_end (l' := [(0, .pointer (some ⟨gd_0, 0, none⟩)), (1, str from_1), (2, str to_2), (3, v4), (9, .pointer (some ⟨g6, 0, none⟩)), (11, .int .i64 y37)]) (.cons rfl (.cons rfl (.cons rfl (.cons rfl (.cons rfl (.cons rfl (.nil _))))))) ?_
     refine ke_seq ?_
     refine ke_region ?_
     refine sr_ev (v := .int .i64 y37) (ev_move rfl) (by decide) ?_
     refine sr_ev (v := .bool (y37 != 0)) (ev_ne rfl rfl) (by decide) ?_
     refine sr_end (l' := [(0, .pointer (some ⟨gd_0, 0, none⟩)), (1, str from_1), (2, str to_2), (3, v4), (9, .pointer (some ⟨g6, 0, none⟩)), (11, .int .i64 y37), (32, .bool (y37 != 0))]) (.cons rfl (.cons rfl (.cons rfl (.cons rfl (.cons rfl (.cons rfl (.cons rfl (.nil _)))))))) ?_
     refine ke_cond (t := y37 != 0) rfl (fun hc42 => ?_) (fun hc42 => ?_)
     ·replace hS := ite_true' hS hc42
      refine ke_seq ?_
      refine ke_region ?_
      refine sr_ev (v := .int .i64 y37) (ev_move rfl) (by decide) ?_
      refine sr_ev (v := .int .i64 y37) (ev_assign rfl) (by decide) ?_
      refine sr_end (l' := [(10, .int .i64 y37)]) (.cons rfl (.nil _)) ?_
      cases hS
      exact ke_ret1 Try.func22 rfl rfl ⟨_, rfl, leave ρA w0 o 2 ρ28, rfl, ⟨_, (hB3.mv (leave_mv (p := 0) (by decide) hb)), (h2.mv (leave_mv (p := 1) (by decide) hb))⟩, (leave_tr ho2 hb)⟩
     ·replace hS := ite_false' hS hc42
      refine ke_skip ?_
      refine ke_seq ?_
      refine ke_seq ?_
      refine ke_region ?_
      refine sr_ev (v := v4) (ev_move rfl) (by decide) ?_
      refine sr_ev (v := .int .i64 (scopes_3.length : Int)) (ev_sllen Try.underlying23 rfl h5.asSl) (by decide) ?_
      refine sr_ev (v := .bool ((scopes_3.length : Int) == 0)) (ev_eq rfl rfl) (by decide) ?_
      refine sr_end (l' := [(0, .pointer (some ⟨gd_0, 0, none⟩)), (1, str from_1), (2, str to_2), (3, v4), (9, .pointer (some ⟨g6, 0, none⟩)), (36, .bool ((scopes_3.length : Int) == 0))]) (.cons rfl (.cons rfl (.cons rfl (.cons rfl (.cons rfl (.cons rfl (.nil _))))))) ?_
      refine ke_cond (t := (scopes_3.length : Int) == 0) rfl (fun hc43 => ?_) (fun hc43 => ?_)
      ·replace hS := ite_true' hS hc43
       refine ke_seq ?_
       refine ke_region ?_
       refine sr_ev (v := .int .i64 6) (ev_assign rfl) (by decide) ?_
       refine sr_end (l' := [(10, .int .i64 6)]) (.cons rfl (.nil _)) ?_
       cases hS
       exact ke_ret1 Try.func22 rfl rfl ⟨_, rfl, leave ρA w0 o 2 ρ28, rfl, ⟨_, (hB3.mv (leave_mv (p := 0) (by decide) hb)), (h2.mv (leave_mv (p := 1) (by decide) hb))⟩, (leave_tr ho2 hb)⟩
      ·replace hS := ite_false' hS hc43
       refine ke_skip ?_
       refine ke_seq ?_
       refine ke_seq ?_
       refine ke_region ?_
       refine sr_ev (v := .pointer (some ⟨g6, 0, none⟩)) (ev_fieldAddr (i := 0) Try.underlying33 rfl Try.info3 rfl rfl) (by decide) ?_
       refine sr_ev (v := .int .i64 w_4.From) (ev_load Try.isAgg3 rfl (hB10.cell rfl)) (by decide) ?_
       obtain ⟨y44, hy45, hS⟩ := bind_some' hS
       refine sr_call (vs := [.int .i64 w_4.From]) rfl Try.call46 rfl (clock_Valid_ok _ (hg.fr hz hb) hy45) (by decide) ?_
       rintro _ w46 ⟨rfl, hbw47⟩
       have htr48 := Tr.of_below hbw47 hb.bd
       replace h5 := h5.mv htr48.rd
       replace hB10 := hB10.mv (htr48.mv (i := 11) rfl)
       replace hB3 := hB3.mv (htr48.mv (i := 100) rfl)
       replace h2 := h2.mv (htr48.mv (i := 101) rfl)
       replace hb := hb.trans htr48
       refine sr_ev (v := .bool (!y44)) (ev_not rfl) (by decide) ?_
       refine sr_ev (v := .bool (!y44)) (ev_move rfl) (by decide) ?_
       obtain ⟨z51, hz53, hS⟩ := bind_some' hS
       refine sr_join (m := 5) (C := fun (z : Bool) w1 => z51 = z ∧ ∃ ρ1, Tr ρ28 w46 (fun _ => false) ρ1 w1) (l' := fun z => [(0, .pointer (some ⟨gd_0, 0, none⟩)), (1, str from_1), (2, str to_2), (3, v4), (9, .pointer (some ⟨g6, 0, none⟩)), (46, .bool z)]) ?_ ?_
       ·rintro _ w54 ⟨rfl, ρ55, hj52⟩
        replace h5 := h5.mv hj52.rd
        replace hB10 := hB10.mv (hj52.mv (i := 11) rfl)
        replace hB3 := hB3.mv (hj52.mv (i := 100) rfl)
        replace h2 := h2.mv (hj52.mv (i := 101) rfl)
        replace hb := hb.trans hj52
        refine sr_ev (v := .bool z51) (ev_move rfl) (by decide) ?_
        refine sr_join (m := 6) (C := fun (x : Bool) w1 => x = (z51 || (decide (w_4.From ≥ w_4.Until))) ∧ w54 = w1) (l' := fun x => [(0, .pointer (some ⟨gd_0, 0, none⟩)), (1, str from_1), (2, str to_2), (3, v4), (9, .pointer (some ⟨g6, 0, none⟩)), (53, .bool x)]) ?_ ?_
        ·rintro _ _ ⟨rfl, rfl⟩
         refine sr_end (l' := [(0, .pointer (some ⟨gd_0, 0, none⟩)), (1, str from_1), (2, str to_2), (3, v4), (9, .pointer (some ⟨g6, 0, none⟩)), (53, .bool (z51 || (decide (w_4.From ≥ w_4.Until))))]) (.cons rfl (.cons rfl (.cons rfl (.cons rfl (.cons rfl (.cons rfl (.nil _))))))) ?_
         refine ke_cond (t := z51 || (decide (w_4.From ≥ w_4.Until))) rfl (fun hc70 => ?_) (fun hc70 => ?_)
         ·replace hS := ite_true' hS hc70
          refine ke_seq ?_
          refine ke_region ?_
          refine sr_ev (v := .int .i64 2) (ev_assign rfl) (by decide) ?_
          refine sr_end (l' := [(10, .int .i64 2)]) (.cons rfl (.nil _)) ?_
          cases hS
          exact ke_ret1 Try.func22 rfl rfl ⟨_, rfl, leave ρA w0 o 2 ρ55, rfl, ⟨_, (hB3.mv (leave_mv (p := 0) (by decide) hb)), (h2.mv (leave_mv (p := 1) (by decide) hb))⟩, (leave_tr ho2 hb)⟩
         ·replace hS := ite_false' hS hc70
          refine ke_skip ?_
          refine ke_seq ?_
          refine ke_region ?_
          refine sr_ev (v := str from_1) (ev_move rfl) (by decide) ?_
          refine sr_ev (v := str to_2) (ev_move rfl) (by decide) ?_
          refine sr_ev (v := .agg #[str from_1, str to_2]) (ev_build (vs := #[(0, str from_1), (1, str to_2)]) rfl (fun _ => by kernel_rfl)) (by decide) ?_
          refine sr_allocT 14 (by decide) hb.bd Try.zeroValue63 (by decide) ?_
          intro g71 ρ72 w73 hB75 htr74
          replace h5 := h5.mv htr74.rd
          replace hB10 := hB10.mv (htr74.mv (i := 11) rfl)
          replace hB3 := hB3.mv (htr74.mv (i := 100) rfl)
          replace h2 := h2.mv (htr74.mv (i := 101) rfl)
          replace hb := hb.trans htr74
          replace hB75 : Blk ρ72 14 w73 g71 (.cells #[str ([]), str ([])] 63 (0, 0)) := hB75
          refine sr_storeT (v := .agg #[str from_1, str to_2]) (vs := [str from_1, str to_2]) (cs' := #[str from_1, str to_2]) hB75 (by decide) hb.bd rfl rfl rfl Try.sizeOf63 rfl rfl rfl ?_
          intro w76 hB751 htr77
          replace h5 := h5.mv htr77.rd
          replace hB10 := hB10.mv (htr77.mv (i := 11) rfl)
          replace hB3 := hB3.mv (htr77.mv (i := 100) rfl)
          replace h2 := h2.mv (htr77.mv (i := 101) rfl)
          replace hb := hb.trans htr77
          replace hB75 : Blk ρ72 14 w76 g71 (.cells #[str from_1, str to_2] 63 (0, 0)) := hB751
          clear hB751
          refine sr_end (l' := [(0, .pointer (some ⟨gd_0, 0, none⟩)), (3, v4), (9, .pointer (some ⟨g6, 0, none⟩)), (12, .pointer (some ⟨g71, 0, none⟩))]) (.cons rfl (.cons rfl (.cons rfl (.cons rfl (.nil _))))) ?_
          refine ke_seq ?_
          refine ke_seq ?_
          refine ke_region_j (ρ := ρ72) (fun t => ([15] : List Nat).contains t) 12 Try.mixed (fun w79 hw78 => ?_)
          have htr80 := Tr.of_below hw78 hb.bd
          replace h5 := h5.mv htr80.rd
          replace hB75 := hB75.mv (htr80.mv (i := 14) rfl)
          replace hB10 := hB10.mv (htr80.mv (i := 11) rfl)
          replace hB3 := hB3.mv (htr80.mv (i := 100) rfl)
          replace h2 := h2.mv (htr80.mv (i := 101) rfl)
          replace hb := hb.trans htr80
          refine dj_H 0 (v := .pointer (some ⟨gd_0, 0, none⟩)) (by kernel_rfl) (by kernel_rfl) rfl (fun _ _ _ h => h) (sj_refl hb.bd rfl rfl) (fun w1 ρ1 hw1 => ev_move rfl) (by decide) ?_
          refine dj_H 1 (v := .pointer (some ⟨gd_0, 0, none⟩)) (by kernel_rfl) (by kernel_rfl) rfl (fun _ _ _ h => h) (sj_refl hb.bd rfl rfl) (fun w1 ρ1 hw1 => ev_nilCheck rfl) (by decide) ?_
          refine dj_H 2 (v := .pointer (some ⟨gd_0, 0, none⟩)) (by kernel_rfl) (by kernel_rfl) rfl (fun _ _ _ h => h) (sj_refl hb.bd rfl rfl) (fun w1 ρ1 hw1 => ev_fieldAddr (i := 0) Try.underlying54 rfl Try.info52 rfl rfl) (by decide) ?_
          refine dj_H 3 (v := v1) (by kernel_rfl) (by kernel_rfl) rfl (fun _ _ _ h => h) (sj_refl hb.bd rfl rfl) (fun w1 ρ1 hw1 => ev_load Try.isAgg52 rfl ((hB3.mv (hw1.mv (i := 100) rfl)).cell rfl)) (by decide) ?_
          refine dj_H 4 (v := .agg #[str from_1, str to_2]) (by kernel_rfl) (by kernel_rfl) rfl (fun _ _ _ h => h) (sj_refl hb.bd rfl rfl) (fun w1 ρ1 hw1 => ev_loads (cs := [str from_1, str to_2]) Try.isAgg63 Try.sizeOf63 rfl ((hB75.mv (hw1.mv (i := 14) rfl)).cells (vs := [str from_1, str to_2]) rfl)) (by decide) ?_
          obtain ⟨y120, hy121, hS⟩ := bind_some' hS
          replace hy121 := Option.some.inj hy121
          obtain ⟨cs116, hrd117, hl118, hl119⟩ := h2.look (zcs := [(.slice none 0 0), .int .i64 0, .int .i64 0]) (z := (delegate_delegation.mk ([] : List Str) (api_Window.mk 0 0))) Try.keyB63 Try.underlying52 Try.zeroValue61 ⟨_, rfl, SlR.nil⟩ (delegate_way.mk from_1 to_2)
          rw [hy121] at hrd117
          obtain ⟨v122, hcshrd117, h123⟩ := hrd117
          obtain rfl : cs116 = [v122, .int .i64 y120.window.From, .int .i64 y120.window.Until] := hcshrd117
          refine dj_H 5 (v := .tuple #[.agg #[v122, .int .i64 y120.window.From, .int .i64 y120.window.Until], .bool (mhas d_0.ways (delegate_way.mk from_1 to_2))]) (by kernel_rfl) (by kernel_rfl) rfl (fun _ _ _ h => h) (sj_refl hb.bd rfl rfl) (fun w1 ρ1 hw1 => hl119 w1 _ _ (hw1.mv (i := 101) rfl) rfl rfl) (by decide) ?_
          refine dj_H 6 (v := .tuple #[.agg #[v122, .int .i64 y120.window.From, .int .i64 y120.window.Until], .bool (mhas d_0.ways (delegate_way.mk from_1 to_2))]) (by kernel_rfl) (by kernel_rfl) rfl (fun _ _ _ h => h) (sj_refl hb.bd rfl rfl) (fun w1 ρ1 hw1 => ev_move rfl) (by decide) ?_
          refine dj_H 7 (v := .agg #[v122, .int .i64 y120.window.From, .int .i64 y120.window.Until]) (by kernel_rfl) (by kernel_rfl) rfl (fun _ _ _ h => h) (sj_refl hb.bd rfl rfl) (fun w1 ρ1 hw1 => ev_extract rfl rfl) (by decide) ?_
          refine dj_H 8 (v := .bool (mhas d_0.ways (delegate_way.mk from_1 to_2))) (by kernel_rfl) (by kernel_rfl) rfl (fun _ _ _ h => h) (sj_refl hb.bd rfl rfl) (fun w1 ρ1 hw1 => ev_extract rfl rfl) (by decide) ?_
          refine dj_E 9 (by kernel_rfl) rfl ?_
          have jt124 : Tr ρ72 w79 (fun t => ([15] : List Nat).contains t) ρ72 w79 := (Tr.refl hb.bd).weak (fun _ _ => rfl) rfl rfl
          refine sr_allocT 15 (by decide) hb.bd Try.zeroValue61 (by decide) ?_
          intro g125 ρ126 w127 hB129 htr128
          replace h5 := h5.mv htr128.rd
          replace h123 := h123.mv htr128.rd
          replace hB75 := hB75.mv (htr128.mv (i := 14) rfl)
          replace hB10 := hB10.mv (htr128.mv (i := 11) rfl)
          replace hB3 := hB3.mv (htr128.mv (i := 100) rfl)
          replace h2 := h2.mv (htr128.mv (i := 101) rfl)
          replace hb := hb.trans htr128
          replace jt124 := (jt124.trans htr128).weak (J' := (fun t => ([15] : List Nat).contains t)) (by intro t h; simp [rng] at h ⊢ <;> omega) rfl rfl
          replace hB129 : Blk ρ126 15 w127 g125 (.cells #[(.slice none 0 0), .int .i64 0, .int .i64 0] 61 (0, 0)) := hB129
          refine dj_next (l' := [(0, .pointer (some ⟨gd_0, 0, none⟩)), (3, v4), (9, .pointer (some ⟨g6, 0, none⟩)), (12, .pointer (some ⟨g71, 0, none⟩)), (13, .pointer (some ⟨g125, 0, none⟩)), (64, .agg #[v122, .int .i64 y120.window.From, .int .i64 y120.window.Until]), (65, .bool (mhas d_0.ways (delegate_way.mk from_1 to_2)))]) rfl (.cons rfl (.cons rfl (.cons rfl (.cons rfl (.cons rfl (.cons rfl (.cons rfl (.nil _)))))))) jt124 (by intro t h; simp [rng] at h ⊢ <;> omega) rfl rfl ?_
          refine dj_E 10 (by kernel_rfl) rfl ?_
          have jt130 : Tr ρ126 w127 (fun t => ([15] : List Nat).contains t) ρ126 w127 := (Tr.refl hb.bd).weak (fun _ _ => rfl) rfl rfl
          refine sr_storeT (v := .agg #[v122, .int .i64 y120.window.From, .int .i64 y120.window.Until]) (vs := [v122, .int .i64 y120.window.From, .int .i64 y120.window.Until]) (cs' := #[v122, .int .i64 y120.window.From, .int .i64 y120.window.Until]) hB129 (by decide) hb.bd rfl rfl rfl Try.sizeOf61 rfl (by first | rfl | (simp only [List.all_cons, List.all_nil, SlR.oneCell h123]; done) | (simp only [List.all_cons, List.all_nil, SlR.oneCell h123]; rfl)) rfl ?_
          intro w131 hB1291 htr132
          replace h5 := h5.mv htr132.rd
          replace h123 := h123.mv htr132.rd
          replace hB75 := hB75.mv (htr132.mv (i := 14) rfl)
          replace hB10 := hB10.mv (htr132.mv (i := 11) rfl)
          replace hB3 := hB3.mv (htr132.mv (i := 100) rfl)
          replace h2 := h2.mv (htr132.mv (i := 101) rfl)
          replace hb := hb.trans htr132
          replace jt130 := (jt130.trans htr132).weak (J' := (fun t => ([15] : List Nat).contains t)) (by intro t h; simp [rng] at h ⊢ <;> omega) rfl rfl
          replace hB129 : Blk ρ126 15 w131 g125 (.cells #[v122, .int .i64 y120.window.From, .int .i64 y120.window.Until] 61 (0, 0)) := hB1291
          clear hB1291
          refine dj_next (l' := [(0, .pointer (some ⟨gd_0, 0, none⟩)), (3, v4), (9, .pointer (some ⟨g6, 0, none⟩)), (12, .pointer (some ⟨g71, 0, none⟩)), (65, .bool (mhas d_0.ways (delegate_way.mk from_1 to_2)))]) rfl (.cons rfl (.cons rfl (.cons rfl (.cons rfl (.cons rfl (.nil _)))))) jt130 (by intro t h; simp [rng] at h ⊢ <;> omega) rfl rfl ?_
          refine dj_H 11 (v := .bool (mhas d_0.ways (delegate_way.mk from_1 to_2))) (by kernel_rfl) (by kernel_rfl) rfl (fun _ _ _ h => h) (sj_refl hb.bd rfl rfl) (fun w1 ρ1 hw1 => ev_assign rfl) (by decide) ?_
          refine dj_done rfl (by kernel_rfl) ?_
          refine ke_weaken (l' := [(0, .pointer (some ⟨gd_0, 0, none⟩)), (3, v4), (9, .pointer (some ⟨g6, 0, none⟩)), (12, .pointer (some ⟨g71, 0, none⟩)), (14, .bool (mhas d_0.ways (delegate_way.mk from_1 to_2)))]) (.cons rfl (.cons rfl (.cons rfl (.cons rfl (.cons rfl (.nil _)))))) ?_
          refine ke_seq ?_
          refine ke_region ?_
          refine sr_ev (v := .bool (mhas d_0.ways (delegate_way.mk from_1 to_2))) (ev_move rfl) (by decide) ?_
          refine sr_ev (v := .bool (!(mhas d_0.ways (delegate_way.mk from_1 to_2)))) (ev_not rfl) (by decide) ?_
          refine sr_ev (v := .bool (!(mhas d_0.ways (delegate_way.mk from_1 to_2)))) (ev_move rfl) (by decide) ?_
          refine sr_join (m := 7) (C := fun (x : Bool) w1 => x = ((!(mhas d_0.ways (delegate_way.mk from_1 to_2))) && (decide ((mlen d_0.ways) ≥ 256))) ∧ w131 = w1) (l' := fun x => [(0, .pointer (some ⟨gd_0, 0, none⟩)), (3, v4), (9, .pointer (some ⟨g6, 0, none⟩)), (12, .pointer (some ⟨g71, 0, none⟩)), (75, .bool x)]) ?_ ?_
          ·rintro _ _ ⟨rfl, rfl⟩
           refine sr_end (l' := [(0, .pointer (some ⟨gd_0, 0, none⟩)), (3, v4), (9, .pointer (some ⟨g6, 0, none⟩)), (12, .pointer (some ⟨g71, 0, none⟩)), (75, .bool ((!(mhas d_0.ways (delegate_way.mk from_1 to_2))) && (decide ((mlen d_0.ways) ≥ 256))))]) (.cons rfl (.cons rfl (.cons rfl (.cons rfl (.cons rfl (.nil _)))))) ?_
           refine ke_cond (t := (!(mhas d_0.ways (delegate_way.mk from_1 to_2))) && (decide ((mlen d_0.ways) ≥ 256))) rfl (fun hc141 => ?_) (fun hc141 => ?_)
           ·replace hS := ite_true' hS hc141
            refine ke_seq ?_
            refine ke_region ?_
            refine sr_ev (v := .int .i64 3) (ev_assign rfl) (by decide) ?_
            refine sr_end (l' := [(10, .int .i64 3)]) (.cons rfl (.nil _)) ?_
            cases hS
            exact ke_ret1 Try.func22 rfl rfl ⟨_, rfl, leave ρA w0 o 2 ρ126, rfl, ⟨_, (hB3.mv (leave_mv (p := 0) (by decide) hb)), (h2.mv (leave_mv (p := 1) (by decide) hb))⟩, (leave_tr ho2 hb)⟩
           ·replace hS := ite_false' hS hc141
            refine ke_skip ?_
            refine ke_seq ?_
            refine ke_region_j (ρ := ρ126) (fun t => ([4, 101] : List Nat).contains t) 10 Try.mixed (fun w143 hw142 => ?_)
            have htr144 := Tr.of_below hw142 hb.bd
            replace h5 := h5.mv htr144.rd
            replace hB75 := hB75.mv (htr144.mv (i := 14) rfl)
            replace hB10 := hB10.mv (htr144.mv (i := 11) rfl)
            replace hB3 := hB3.mv (htr144.mv (i := 100) rfl)
            replace h2 := h2.mv (htr144.mv (i := 101) rfl)
            replace hb := hb.trans htr144
            refine dj_H 0 (v := .pointer (some ⟨gd_0, 0, none⟩)) (by kernel_rfl) (by kernel_rfl) rfl (fun _ _ _ h => h) (sj_refl hb.bd rfl rfl) (fun w1 ρ1 hw1 => ev_move rfl) (by decide) ?_
            refine dj_H 1 (v := .pointer (some ⟨gd_0, 0, none⟩)) (by kernel_rfl) (by kernel_rfl) rfl (fun _ _ _ h => h) (sj_refl hb.bd rfl rfl) (fun w1 ρ1 hw1 => ev_nilCheck rfl) (by decide) ?_
            refine dj_H 2 (v := .pointer (some ⟨gd_0, 0, none⟩)) (by kernel_rfl) (by kernel_rfl) rfl (fun _ _ _ h => h) (sj_refl hb.bd rfl rfl) (fun w1 ρ1 hw1 => ev_fieldAddr (i := 0) Try.underlying54 rfl Try.info52 rfl rfl) (by decide) ?_
            refine dj_H 3 (v := v1) (by kernel_rfl) (by kernel_rfl) rfl (fun _ _ _ h => h) (sj_refl hb.bd rfl rfl) (fun w1 ρ1 hw1 => ev_load Try.isAgg52 rfl ((hB3.mv (hw1.mv (i := 100) rfl)).cell rfl)) (by decide) ?_
            refine dj_H 4 (v := .agg #[str from_1, str to_2]) (by kernel_rfl) (by kernel_rfl) rfl (fun _ _ _ h => h) (sj_refl hb.bd rfl rfl) (fun w1 ρ1 hw1 => ev_loads (cs := [str from_1, str to_2]) Try.isAgg63 Try.sizeOf63 rfl ((hB75.mv (hw1.mv (i := 14) rfl)).cells (vs := [str from_1, str to_2]) rfl)) (by decide) ?_
            refine dj_H 5 (v := v4) (by kernel_rfl) (by kernel_rfl) rfl (fun _ _ _ h => h) (sj_refl hb.bd rfl rfl) (fun w1 ρ1 hw1 => ev_move rfl) (by decide) ?_
            refine dj_H 7 (v := .agg #[.int .i64 w_4.From, .int .i64 w_4.Until]) (by kernel_rfl) (by kernel_rfl) rfl (fun _ _ _ h => h) (sj_refl hb.bd rfl rfl) (fun w1 ρ1 hw1 => ev_loads (cs := [.int .i64 w_4.From, .int .i64 w_4.Until]) Try.isAgg33 Try.sizeOf33 rfl ((hB10.mv (hw1.mv (i := 11) rfl)).cells (vs := [.int .i64 w_4.From, .int .i64 w_4.Until]) rfl)) (by decide) ?_
            refine dj_E 6 (by kernel_rfl) rfl ?_
            have jt178 : Tr ρ126 w143 (fun t => ([4, 101] : List Nat).contains t) ρ126 w143 := (Tr.refl hb.bd).weak (fun _ _ => rfl) rfl rfl
            obtain ⟨y179, hy180, hS⟩ := bind_some' hS
            refine sr_call (vs := [v4]) rfl Try.call47 rfl (lib_Clone_ok (A := Wb ρ126) (B := 0) h5.asSl hb.bd (Nat.zero_le _) hy180) (by decide) ?_
            rintro v181 w183 hfr185
            obtain ⟨h182, htr184⟩ := freshT (i := 4) (by decide) hb.bd hfr185
            replace h2 := h2.mv (htr184.mv (i := 101) rfl)
            replace hB10 := hB10.mv (htr184.mv (i := 11) rfl)
            replace hB3 := hB3.mv (htr184.mv (i := 100) rfl)
            replace hb := hb.trans htr184
            replace jt178 := (jt178.trans htr184).weak (J' := (fun t => ([4, 101] : List Nat).contains t)) (by intro t h; simp [rng] at h ⊢ <;> omega) rfl rfl
            refine dj_next (l' := [(79, v1), (80, .agg #[str from_1, str to_2]), (82, v181), (83, .agg #[.int .i64 w_4.From, .int .i64 w_4.Until])]) rfl (.cons rfl (.cons rfl (.cons rfl (.cons rfl (.nil _))))) jt178 (by intro t h; simp [rng] at h ⊢ <;> omega) rfl rfl ?_
            have hbl187 : ∀ w, (Instr.build 61 #[(0, v181), (1, .agg #[.int .i64 w_4.From, .int .i64 w_4.Until])]).run Try.prog w = .ok (.agg #[v181, .int .i64 w_4.From, .int .i64 w_4.Until]) w := by
             obtain ⟨_, _, _, rfl⟩ := OwnT.isSl h182
             first | exact fun _ => by kernel_rfl | (intro w; simp [Instr.build, Try.zeroValue61, run_underlying Try.underlying61, Try.sizeOf23, Try.sizeOf33]; first | done | kernel_rfl)
            refine dj_H 8 (v := .agg #[v181, .int .i64 w_4.From, .int .i64 w_4.Until]) (by kernel_rfl) (by kernel_rfl) rfl (fun _ _ _ h => h) (sj_refl hb.bd rfl rfl) (fun w1 ρ1 hw1 => ev_build (vs := #[(0, v181), (1, .agg #[.int .i64 w_4.From, .int .i64 w_4.Until])]) rfl hbl187) (by decide) ?_
            refine dj_E 9 (by kernel_rfl) rfl ?_
            have jt188 : Tr (ownTags ρ126 4 v181) w183 (fun t => ([4, 101] : List Nat).contains t) (ownTags ρ126 4 v181) w183 := (Tr.refl hb.bd).weak (fun _ _ => rfl) rfl rfl
            have htr189 := frz_tr (ρ := (ownTags ρ126 4 v181)) (w := w183) (i := 4) (by decide) hb.bd
            have h190 : SlR strC (Wb (frz (ownTags ρ126 4 v181) 4)) w183 v181 y179 := (SlT.mv h182.sl (frz_mv (ρ := (ownTags ρ126 4 v181)) (w := w183) (i := 4))).sl
            replace h2 := h2.mv (htr189.mv (i := 101) rfl)
            replace hB3 := hB3.mv (htr189.mv (i := 100) rfl)
            replace hb := hb.trans htr189
            replace jt188 := (jt188.trans htr189).weak (J' := (fun t => ([4, 101] : List Nat).contains t)) (by intro t h; simp [rng] at h ⊢ <;> omega) rfl rfl
            obtain ⟨hk191, hS⟩ := chk_some hS
            refine sr_mapPut (k := (delegate_way.mk from_1 to_2)) (d := (delegate_delegation.mk y179 w_4)) (u := .agg #[v181, .int .i64 w_4.From, .int .i64 w_4.Until]) (cs := [v181, .int .i64 w_4.From, .int .i64 w_4.Until]) h2 hk191 Try.keyB63 Try.underlying52 (by decide) hb.bd rfl ⟨_, rfl, h190⟩ rfl rfl rfl ?_
            intro w192 h21 htr193
            replace hB3 := hB3.mv (htr193.mv (i := 100) rfl)
            replace hb := hb.trans htr193
            replace jt188 := (jt188.trans htr193).weak (J' := (fun t => ([4, 101] : List Nat).contains t)) (by intro t h; simp [rng] at h ⊢ <;> omega) rfl rfl
            replace h2 := h21
            clear h21
            refine dj_next (l' := []) rfl (.nil _) jt188 (by intro t h; simp [rng] at h ⊢ <;> omega) rfl rfl ?_
            refine dj_done rfl (by kernel_rfl) ?_
            refine ke_weaken (l' := []) (.nil _) ?_
            refine ke_seq ?_
            refine ke_region ?_
            refine sr_ev (v := .int .i64 0) (ev_assign rfl) (by decide) ?_
            refine sr_end (l' := [(10, .int .i64 0)]) (.cons rfl (.nil _)) ?_
            cases hS
            exact ke_ret1 Try.func22 rfl rfl ⟨_, rfl, leave ρA w0 o 2 (frz (ownTags ρ126 4 v181) 4), rfl, ⟨_, (hB3.mv (leave_mv (p := 0) (by decide) hb)), (h2.mv (leave_mv (p := 1) (by decide) hb))⟩, (leave_tr ho2 hb)⟩
          ·intro K134
           rcases Bool.eq_false_or_eq_true (!(mhas d_0.ways (delegate_way.mk from_1 to_2))) with hg133 | hg133
           all_goals try have hj136 : Tr ρ126 w131 (fun _ => false) ρ126 w131 := Tr.refl hb.bd
           ·refine sr_evg (b := true) (e := 68) rfl rfl hg133 (v := .pointer (some ⟨gd_0, 0, none⟩)) (ev_move rfl) (by decide) ?_
            refine sr_evg (b := true) (e := 68) rfl rfl hg133 (v := .pointer (some ⟨gd_0, 0, none⟩)) (ev_nilCheck rfl) (by decide) ?_
            refine sr_evg (b := true) (e := 68) rfl rfl hg133 (v := .pointer (some ⟨gd_0, 0, none⟩)) (ev_fieldAddr (i := 0) Try.underlying54 rfl Try.info52 rfl rfl) (by decide) ?_
            refine sr_evg (b := true) (e := 68) rfl rfl hg133 (v := v1) (ev_load Try.isAgg52 rfl (hB3.cell rfl)) (by decide) ?_
            refine sr_evg (b := true) (e := 68) rfl rfl hg133 (v := .int .i64 (mlen d_0.ways)) (ev_mapLen h2 Try.underlying52 (Mv.of_below (i := 101) (ρ := ρ126) (Below.refl _ _)) rfl) (by decide) ?_
            refine sr_evg (b := true) (e := 68) rfl rfl hg133 (v := .bool (decide ((mlen d_0.ways) ≥ 256))) (ev_ge rfl rfl) (by decide) ?_
            refine sr_ev (v := .bool (decide ((mlen d_0.ways) ≥ 256))) (ev_pick_t rfl hg133 rfl) (by decide) ?_
            exact sr_weaken (l' := [(0, .pointer (some ⟨gd_0, 0, none⟩)), (3, v4), (9, .pointer (some ⟨g6, 0, none⟩)), (12, .pointer (some ⟨g71, 0, none⟩)), (75, .bool (decide ((mlen d_0.ways) ≥ 256)))]) (.cons rfl (.cons rfl (.cons rfl (.cons rfl (.cons rfl (.nil _)))))) (K134 (decide ((mlen d_0.ways) ≥ 256)) _ ⟨by rw [hg133]; rfl, rfl⟩)
           ·refine sr_pass (e := 68) rfl rfl (by rw [hg133]; rfl) (by decide) ?_
            refine sr_pass (e := 68) rfl rfl (by rw [hg133]; rfl) (by decide) ?_
            refine sr_pass (e := 68) rfl rfl (by rw [hg133]; rfl) (by decide) ?_
            refine sr_pass (e := 68) rfl rfl (by rw [hg133]; rfl) (by decide) ?_
            refine sr_pass (e := 68) rfl rfl (by rw [hg133]; rfl) (by decide) ?_
            refine sr_pass (e := 68) rfl rfl (by rw [hg133]; rfl) (by decide) ?_
            refine sr_ev (v := .bool false) (ev_pick_f rfl hg133 rfl) (by decide) ?_
            exact sr_weaken (l' := [(0, .pointer (some ⟨gd_0, 0, none⟩)), (3, v4), (9, .pointer (some ⟨g6, 0, none⟩)), (12, .pointer (some ⟨g71, 0, none⟩)), (75, .bool false)]) (.cons rfl (.cons rfl (.cons rfl (.cons rfl (.cons rfl (.nil _)))))) (K134 false _ ⟨by rw [hg133]; rfl, rfl⟩)
        ·intro K63
         rcases Bool.eq_false_or_eq_true z51 with hg62 | hg62
         all_goals try have hj65 : Tr ρ55 w54 (fun _ => false) ρ55 w54 := Tr.refl hb.bd
         ·refine sr_pass (e := 47) rfl rfl (by rw [hg62]; rfl) (by decide) ?_
          refine sr_pass (e := 47) rfl rfl (by rw [hg62]; rfl) (by decide) ?_
          refine sr_pass (e := 47) rfl rfl (by rw [hg62]; rfl) (by decide) ?_
          refine sr_pass (e := 47) rfl rfl (by rw [hg62]; rfl) (by decide) ?_
          refine sr_pass (e := 47) rfl rfl (by rw [hg62]; rfl) (by decide) ?_
          refine sr_ev (v := .bool true) (ev_pick_t rfl hg62 rfl) (by decide) ?_
          exact sr_weaken (l' := [(0, .pointer (some ⟨gd_0, 0, none⟩)), (1, str from_1), (2, str to_2), (3, v4), (9, .pointer (some ⟨g6, 0, none⟩)), (53, .bool true)]) (.cons rfl (.cons rfl (.cons rfl (.cons rfl (.cons rfl (.cons rfl (.nil _))))))) (K63 true _ ⟨by rw [hg62]; rfl, rfl⟩)
         ·refine sr_evg (b := false) (e := 47) rfl rfl hg62 (v := .pointer (some ⟨g6, 0, none⟩)) (ev_fieldAddr (i := 0) Try.underlying33 rfl Try.info3 rfl rfl) (by decide) ?_
          refine sr_evg (b := false) (e := 47) rfl rfl hg62 (v := .int .i64 w_4.From) (ev_load Try.isAgg3 rfl (hB10.cell rfl)) (by decide) ?_
          refine sr_evg (b := false) (e := 47) rfl rfl hg62 (v := .pointer (some ⟨g6, 1, none⟩)) (ev_fieldAddr (i := 1) Try.underlying33 rfl Try.info3 rfl rfl) (by decide) ?_
          refine sr_evg (b := false) (e := 47) rfl rfl hg62 (v := .int .i64 w_4.Until) (ev_load Try.isAgg3 rfl (hB10.cell rfl)) (by decide) ?_
          refine sr_evg (b := false) (e := 47) rfl rfl hg62 (v := .bool (decide (w_4.From ≥ w_4.Until))) (ev_ge rfl rfl) (by decide) ?_
          refine sr_ev (v := .bool (decide (w_4.From ≥ w_4.Until))) (ev_pick_f rfl hg62 rfl) (by decide) ?_
          exact sr_weaken (l' := [(0, .pointer (some ⟨gd_0, 0, none⟩)), (1, str from_1), (2, str to_2), (3, v4), (9, .pointer (some ⟨g6, 0, none⟩)), (53, .bool (decide (w_4.From ≥ w_4.Until)))]) (.cons rfl (.cons rfl (.cons rfl (.cons rfl (.cons rfl (.cons rfl (.nil _))))))) (K63 (decide (w_4.From ≥ w_4.Until)) _ ⟨by rw [hg62]; rfl, rfl⟩)
       ·intro K50
        clear hS
        have hj52 : Tr ρ28 w46 (fun _ => false) ρ28 w46 := (Tr.refl hb.bd).weak (fun _ _ => rfl) rfl rfl
        rcases Bool.eq_false_or_eq_true (!y44) with hg49 | hg49
        ·have hS := ite_true' hz53 hg49
         refine sr_pass (e := 41) rfl rfl (by rw [hg49]; rfl) (by decide) ?_
         refine sr_pass (e := 41) rfl rfl (by rw [hg49]; rfl) (by decide) ?_
         refine sr_pass (e := 41) rfl rfl (by rw [hg49]; rfl) (by decide) ?_
         refine sr_pass (e := 41) rfl rfl (by rw [hg49]; rfl) (by decide) ?_
         refine sr_ev (v := .bool true) (ev_pick_t rfl hg49 rfl) (by decide) ?_
         exact sr_weaken (l' := [(0, .pointer (some ⟨gd_0, 0, none⟩)), (1, str from_1), (2, str to_2), (3, v4), (9, .pointer (some ⟨g6, 0, none⟩)), (46, .bool true)]) (.cons rfl (.cons rfl (.cons rfl (.cons rfl (.cons rfl (.cons rfl (.nil _))))))) (K50 true _ ⟨(Option.some.inj hS).symm, _, hj52⟩)
        ·have hS := ite_false' hz53 hg49
         refine sr_evg (b := false) (e := 41) rfl rfl hg49 (v := .pointer (some ⟨g6, 1, none⟩)) (ev_fieldAddr (i := 1) Try.underlying33 rfl Try.info3 rfl rfl) (by decide) ?_
         refine sr_evg (b := false) (e := 41) rfl rfl hg49 (v := .int .i64 w_4.Until) (ev_load Try.isAgg3 rfl (hB10.cell rfl)) (by decide) ?_
         obtain ⟨y57, hy58, hS⟩ := bind_some' hS
         refine sr_callg (b := false) (e := 41) rfl rfl hg49 (vs := [.int .i64 w_4.Until]) rfl Try.call46 rfl (clock_Valid_ok _ (hg.fr hz hb) hy58) (by decide) ?_
         rintro _ w59 ⟨rfl, hbw60⟩
         have htr61 := Tr.of_below hbw60 hb.bd
         replace h5 := h5.mv htr61.rd
         replace hB10 := hB10.mv (htr61.mv (i := 11) rfl)
         replace hB3 := hB3.mv (htr61.mv (i := 100) rfl)
         replace h2 := h2.mv (htr61.mv (i := 101) rfl)
         replace hb := hb.trans htr61
         replace hj52 := (hj52.trans htr61).weak (J' := (fun _ => false)) (by intro t h; simp [rng] at h ⊢ <;> omega) rfl rfl
         refine sr_evg (b := false) (e := 41) rfl rfl hg49 (v := .bool (!y57)) (ev_not rfl) (by decide) ?_
         refine sr_ev (v := .bool (!y57)) (ev_pick_f rfl hg49 rfl) (by decide) ?_
         exact sr_weaken (l' := [(0, .pointer (some ⟨gd_0, 0, none⟩)), (1, str from_1), (2, str to_2), (3, v4), (9, .pointer (some ⟨g6, 0, none⟩)), (46, .bool (!y57))]) (.cons rfl (.cons rfl (.cons rfl (.cons rfl (.cons rfl (.cons rfl (.nil _))))))) (K50 (!y57) _ ⟨(Option.some.inj hS).symm, _, hj52⟩)
  ·intro K23
   clear hS
   have hj25 : Tr ρ7 w19 (fun _ => false) ρ7 w19 := (Tr.refl hb.bd).weak (fun _ _ => rfl) rfl rfl
   rcases Bool.eq_false_or_eq_true (!y17) with hg22 | hg22
   ·have hS := ite_true' hz26 hg22
    refine sr_pass (e := 21) rfl rfl (by rw [hg22]; rfl) (by decide) ?_
    refine sr_pass (e := 21) rfl rfl (by rw [hg22]; rfl) (by decide) ?_
    refine sr_pass (e := 21) rfl rfl (by rw [hg22]; rfl) (by decide) ?_
    refine sr_ev (v := .bool true) (ev_pick_t rfl hg22 rfl) (by decide) ?_
    exact sr_weaken (l' := [(0, .pointer (some ⟨gd_0, 0, none⟩)), (1, str from_1), (2, str to_2), (3, v4), (9, .pointer (some ⟨g6, 0, none⟩)), (25, .bool true)]) (.cons rfl (.cons rfl (.cons rfl (.cons rfl (.cons rfl (.cons rfl (.nil _))))))) (K23 true _ ⟨(Option.some.inj hS).symm, _, hj25⟩)
   ·have hS := ite_false' hz26 hg22
    refine sr_evg (b := false) (e := 21) rfl rfl hg22 (v := str to_2) (ev_move rfl) (by decide) ?_
    obtain ⟨y30, hy31, hS⟩ := bind_some' hS
    refine sr_callg (b := false) (e := 21) rfl rfl hg22 (vs := [str to_2]) rfl Try.call44 rfl (fold_Word_ok _ (hg.fr hz hb) hy31) (by decide) ?_
    rintro _ w32 ⟨rfl, hbw33⟩
    have htr34 := Tr.of_below hbw33 hb.bd
    replace h5 := h5.mv htr34.rd
    replace hB10 := hB10.mv (htr34.mv (i := 11) rfl)
    replace hB3 := hB3.mv (htr34.mv (i := 100) rfl)
    replace h2 := h2.mv (htr34.mv (i := 101) rfl)
    replace hb := hb.trans htr34
    replace hj25 := (hj25.trans htr34).weak (J' := (fun _ => false)) (by intro t h; simp [rng] at h ⊢ <;> omega) rfl rfl
    refine sr_evg (b := false) (e := 21) rfl rfl hg22 (v := .bool (!y30)) (ev_not rfl) (by decide) ?_
    refine sr_ev (v := .bool (!y30)) (ev_pick_f rfl hg22 rfl) (by decide) ?_
    exact sr_weaken (l' := [(0, .pointer (some ⟨gd_0, 0, none⟩)), (1, str from_1), (2, str to_2), (3, v4), (9, .pointer (some ⟨g6, 0, none⟩)), (25, .bool (!y30))]) (.cons rfl (.cons rfl (.cons rfl (.cons rfl (.cons rfl (.cons rfl (.nil _))))))) (K23 (!y30) _ ⟨(Option.some.inj hS).symm, _, hj25⟩)
theorem delegate_Delegations_Drop_1_ok (w0 : World) (hg : Gs w0) {ρA : Tags} (hbd : ∀ b, ρA b ≠ 0 → b < w0.heap.size) (hz : Gz ρA) {k_0 : delegate_way} {__1 : delegate_delegation} {c2 : Str} {v1 : Value} {b3 : Nat} {r : Bool} (h2 : SlR strC (Wb ρA) w0 v1 __1.scopes) (he4 : ElT strC ρA 0 w0 b3 0 [str c2] c2) (hS : delegate_Delegations_Drop_1 k_0 __1 c2 = some r) :
  Calls Try.prog 49 #[.agg #[str k_0.from_, str k_0.to_], .agg #[v1, .int .i64 __1.window.From, .int .i64 __1.window.Until], .pointer (some ⟨b3, 0, none⟩)] w0 (Ret (fun v w' => v = .bool r ∧ Below w0.heap.size w0 w')) := by
 unfold delegate_Delegations_Drop_1 at hS
 have hb := flat1_fr (ρ := ρA) (w := w0) hbd
 have hz := hz.flat1
 replace h2 := SlR.mv h2 flat1_rd
 replace he4 := he4.mv flat1_rd (Nat.succ_pos _)
 refine calls_of_ke Try.func49 rfl (n := 16) rfl rfl (l := [(0, .agg #[str k_0.from_, str k_0.to_]), (1, .agg #[v1, .int .i64 __1.window.From, .int .i64 __1.window.Until]), (2, .pointer (some ⟨b3, 0, none⟩))]) rfl ?_
 refine ke_seq ?_
 refine ke_region ?_
 refine sr_boxT 5 (by decide) hb.bd rfl (by decide) ?_
 intro g5 ρ6 w7 hB9 htr8
 replace h2 := h2.mv htr8.rd
 replace he4 := he4.mv (htr8.mv (i := 0) rfl) (Nat.succ_pos _)
 replace hb := hb.trans htr8
 replace hB9 : Blk ρ6 5 w7 g5 (.cells #[str k_0.from_, str k_0.to_] 63 (0, 0)) := hB9
 refine sr_boxT 6 (by decide) hb.bd rfl (by decide) ?_
 intro g10 ρ11 w12 hB14 htr13
 replace he4 := he4.mv (htr13.mv (i := 0) rfl) (Nat.succ_pos _)
 replace hB9 := hB9.mv (htr13.mv (i := 5) rfl)
 replace hb := hb.trans htr13
 replace hB14 : Blk ρ11 6 w12 g10 (.cells #[v1, .int .i64 __1.window.From, .int .i64 __1.window.Until] 61 (0, 0)) := hB14
 refine sr_ev (v := .bool false) (ev_assign rfl) (by decide) ?_
 refine sr_end (l' := [(2, .pointer (some ⟨b3, 0, none⟩)), (3, .pointer (some ⟨g5, 0, none⟩))]) (.cons rfl (.cons rfl (.nil _))) ?_
 refine ke_seq ?_
 refine ke_region ?_
 refine sr_ev (v := .pointer (some ⟨g5, 0, none⟩)) (ev_fieldAddr (i := 0) Try.underlying63 rfl Try.info9 rfl rfl) (by decide) ?_
 refine sr_ev (v := str k_0.from_) (ev_load Try.isAgg9 rfl (hB9.cell rfl)) (by decide) ?_
 refine sr_ev (v := str c2) (ev_load Try.isAgg9 rfl (he4.cell 0 _ rfl)) (by decide) ?_
 refine sr_ev (v := .bool (k_0.from_ == c2)) (ev_seq rfl rfl) (by decide) ?_
 refine sr_ev (v := .bool (k_0.from_ == c2)) (ev_move rfl) (by decide) ?_
 refine sr_join (m := 5) (C := fun (x : Bool) w1 => x = ((k_0.from_ == c2) || (k_0.to_ == c2)) ∧ w12 = w1) (l' := fun x => [(15, .bool x)]) ?_ ?_
 ·rintro _ _ ⟨rfl, rfl⟩
  refine sr_ev (v := .bool ((k_0.from_ == c2) || (k_0.to_ == c2))) (ev_assign rfl) (by decide) ?_
  refine sr_end (l' := [(5, .bool ((k_0.from_ == c2) || (k_0.to_ == c2)))]) (.cons rfl (.nil _)) ?_
  cases hS
  exact ke_ret1 Try.func49 rfl rfl ⟨_, rfl, rfl, (hb.below (flat1_le _))⟩
 ·intro K16
  rcases Bool.eq_false_or_eq_true (k_0.from_ == c2) with hg15 | hg15
  all_goals try have hj18 : Tr ρ11 w12 (fun _ => false) ρ11 w12 := Tr.refl hb.bd
  ·refine sr_pass (e := 10) rfl rfl (by rw [hg15]; rfl) (by decide) ?_
   refine sr_pass (e := 10) rfl rfl (by rw [hg15]; rfl) (by decide) ?_
   refine sr_pass (e := 10) rfl rfl (by rw [hg15]; rfl) (by decide) ?_
   refine sr_pass (e := 10) rfl rfl (by rw [hg15]; rfl) (by decide) ?_
   refine sr_ev (v := .bool true) (ev_pick_t rfl hg15 rfl) (by decide) ?_
   exact sr_weaken (l' := [(15, .bool true)]) (.cons rfl (.nil _)) (K16 true _ ⟨by rw [hg15]; rfl, rfl⟩)
  ·refine sr_evg (b := false) (e := 10) rfl rfl hg15 (v := .pointer (some ⟨g5, 1, none⟩)) (ev_fieldAddr (i := 1) Try.underlying63 rfl Try.info9 rfl rfl) (by decide) ?_
   refine sr_evg (b := false) (e := 10) rfl rfl hg15 (v := str k_0.to_) (ev_load Try.isAgg9 rfl (hB9.cell rfl)) (by decide) ?_
   refine sr_evg (b := false) (e := 10) rfl rfl hg15 (v := str c2) (ev_load Try.isAgg9 rfl (he4.cell 0 _ rfl)) (by decide) ?_
   refine sr_evg (b := false) (e := 10) rfl rfl hg15 (v := .bool (k_0.to_ == c2)) (ev_seq rfl rfl) (by decide) ?_
   refine sr_ev (v := .bool (k_0.to_ == c2)) (ev_pick_f rfl hg15 rfl) (by decide) ?_
   exact sr_weaken (l' := [(15, .bool (k_0.to_ == c2))]) (.cons rfl (.nil _)) (K16 (k_0.to_ == c2) _ ⟨by rw [hg15]; rfl, rfl⟩)
theorem maps_DeleteFunc_map_delegate_way_delegate_delegation_delegate_way_delegate_delegation__Delegations_Drop_1_B2_ok {w0 : World} (hg : Gs w0) {ρA : Tags} (hbd : ∀ b, ρA b ≠ 0 → b < w0.heap.size) {o : Nat} (ho2 : 2 ≤ o) {v1 : Value} (hz : Gz (enter ρA o 1)) (r0 : GMap delegate_way delegate_delegation → Str → List delegate_way → Option (GMap delegate_way delegate_delegation))
  (hr0 : ∀ {r : GMap delegate_way delegate_delegation} {m_0 : GMap delegate_way delegate_delegation} {del_1_c0 : Str} {t_7 : List delegate_way} {bdel_1_c0 : Nat} {rt_7 : Nat}, r0 m_0 del_1_c0 t_7 = some r → ∀ {ρ : Tags} {w : World}, (Fr (enter ρA o 1) w0 ρ w) → (MapT delegate_way.ek delegate_delegation.c true ρ 100 w v1 m_0) → (ElT strC ρ 0 w bdel_1_c0 0 [str del_1_c0] del_1_c0) → (IterT delegate_way.ek delegate_delegation.c true ρ 100 9 w rt_7 v1 m_0 t_7) → KE Try.prog 48 (Ret (fun v w' => ∃ ρ', v = .tuple #[] ∧ MapT delegate_way.ek delegate_delegation.c true ρ' o w' v1 r ∧ Tr ρA w0 (rng o 1) ρ' w')) 19 [.inLoop (sub (bodyOf Try.f48) [2, 2, 1]), .inBlock 0] [(0, v1), (1, .func (.func 49) #[] #[.pointer (some ⟨bdel_1_c0, 0, none⟩)]), (7, .pointer (some ⟨rt_7, 0, none⟩))] w) {r : GMap delegate_way delegate_delegation} {m_0 : GMap delegate_way delegate_delegation} {del_1_c0 : Str} {t_7 : List delegate_way} {bdel_1_c0 : Nat} {rt_7 : Nat} (hS : maps_DeleteFunc_map_delegate_way_delegate_delegation_delegate_way_delegate_delegation__Delegations_Drop_1_B2 r0 m_0 del_1_c0 t_7 = some r) {ρ : Tags} {w : World} (hb : Fr (enter ρA o 1) w0 ρ w) (hm_0 : MapT delegate_way.ek delegate_delegation.c true ρ 100 w v1 m_0) (hedel_1_c0 : ElT strC ρ 0 w bdel_1_c0 0 [str del_1_c0] del_1_c0) (ht_7 : IterT delegate_way.ek delegate_delegation.c true ρ 100 9 w rt_7 v1 m_0 t_7) :
  KE Try.prog 48 (Ret (fun v w' => ∃ ρ', v = .tuple #[] ∧ MapT delegate_way.ek delegate_delegation.c true ρ' o w' v1 r ∧ Tr ρA w0 (rng o 1) ρ' w')) 19 [.inBlock 1, .inLoop (sub (bodyOf Try.f48) [2, 2, 1]), .inBlock 0] [(0, v1), (1, .func (.func 49) #[] #[.pointer (some ⟨bdel_1_c0, 0, none⟩)]), (7, .pointer (some ⟨rt_7, 0, none⟩))] w := by
 unfold maps_DeleteFunc_map_delegate_way_delegate_delegation_delegate_way_delegate_delegation__Delegations_Drop_1_B2 at hS
 refine ke_inBlock ?_
 have hK := hr0 hS hb hm_0 hedel_1_c0 ht_7
 exact ke_weaken (l' := [(0, v1), (1, .func (.func 49) #[] #[.pointer (some ⟨bdel_1_c0, 0, none⟩)]), (7, .pointer (some ⟨rt_7, 0, none⟩))]) (.cons rfl (.cons rfl (.cons rfl (.nil _)))) hK
theorem maps_DeleteFunc_map_delegate_way_delegate_delegation_delegate_way_delegate_delegation__Delegations_Drop_1_L1_ok {w0 : World} (hg : Gs w0) {ρA : Tags} (hbd : ∀ b, ρA b ≠ 0 → b < w0.heap.size) {o : Nat} (ho2 : 2 ≤ o) {v1 : Value} (hz : Gz (enter ρA o 1)) : ∀ (n : Nat), ∀ {r : GMap delegate_way delegate_delegation} {m_0 : GMap delegate_way delegate_delegation} {del_1_c0 : Str} {t_7 : List delegate_way} {bdel_1_c0 : Nat} {rt_7 : Nat}, maps_DeleteFunc_map_delegate_way_delegate_delegation_delegate_way_delegate_delegation__Delegations_Drop_1_L1 n m_0 del_1_c0 t_7 = some r → ∀ {ρ : Tags} {w : World}, (Fr (enter ρA o 1) w0 ρ w) → (MapT delegate_way.ek delegate_delegation.c true ρ 100 w v1 m_0) → (ElT strC ρ 0 w bdel_1_c0 0 [str del_1_c0] del_1_c0) → (IterT delegate_way.ek delegate_delegation.c true ρ 100 9 w rt_7 v1 m_0 t_7) → KE Try.prog 48 (Ret (fun v w' => ∃ ρ', v = .tuple #[] ∧ MapT delegate_way.ek delegate_delegation.c true ρ' o w' v1 r ∧ Tr ρA w0 (rng o 1) ρ' w')) 19 [.code (sub (bodyOf Try.f48) [2, 2, 1]), .inLoop (sub (bodyOf Try.f48) [2, 2, 1]), .inBlock 0] [(0, v1), (1, .func (.func 49) #[] #[.pointer (some ⟨bdel_1_c0, 0, none⟩)]), (7, .pointer (some ⟨rt_7, 0, none⟩))] w := by
 intro n
 induction n with
 | zero => intro r m_0 del_1_c0 t_7 bdel_1_c0 rt_7 hS; cases hS
 | succ n ih =>
  have hr0 : ∀ {r : GMap delegate_way delegate_delegation} {m_0 : GMap delegate_way delegate_delegation} {del_1_c0 : Str} {t_7 : List delegate_way} {bdel_1_c0 : Nat} {rt_7 : Nat}, maps_DeleteFunc_map_delegate_way_delegate_delegation_delegate_way_delegate_delegation__Delegations_Drop_1_L1 n m_0 del_1_c0 t_7 = some r → ∀ {ρ : Tags} {w : World}, (Fr (enter ρA o 1) w0 ρ w) → (MapT delegate_way.ek delegate_delegation.c true ρ 100 w v1 m_0) → (ElT strC ρ 0 w bdel_1_c0 0 [str del_1_c0] del_1_c0) → (IterT delegate_way.ek delegate_delegation.c true ρ 100 9 w rt_7 v1 m_0 t_7) → KE Try.prog 48 (Ret (fun v w' => ∃ ρ', v = .tuple #[] ∧ MapT delegate_way.ek delegate_delegation.c true ρ' o w' v1 r ∧ Tr ρA w0 (rng o 1) ρ' w')) 19 [.inLoop (sub (bodyOf Try.f48) [2, 2, 1]), .inBlock 0] [(0, v1), (1, .func (.func 49) #[] #[.pointer (some ⟨bdel_1_c0, 0, none⟩)]), (7, .pointer (some ⟨rt_7, 0, none⟩))] w := fun {r} {m_0} {del_1_c0} {t_7} {bdel_1_c0} {rt_7} hS {ρ} {w} hb hm_0 hedel_1_c0 ht_7 => ke_inLoop (ih hS hb hm_0 hedel_1_c0 ht_7)
  clear ih
  intro r m_0 del_1_c0 t_7 bdel_1_c0 rt_7 hS ρ w hb hm_0 hedel_1_c0 ht_7
  unfold maps_DeleteFunc_map_delegate_way_delegate_delegation_delegate_way_delegate_delegation__Delegations_Drop_1_L1 at hS
  refine ke_seq ?_
  refine ke_region ?_
  refine sr_nextM ht_7 rfl (by decide) hb.bd hS rfl (by decide) (fun hS => ?_) (fun e10 cs11 w12 hS hrd14 ht_71 htr13 hent15 => ?_)
  ·refine sr_ev (v := .bool false) (ev_extract rfl rfl) (by decide) ?_
   refine sr_end (l' := [(0, v1), (1, .func (.func 49) #[] #[.pointer (some ⟨bdel_1_c0, 0, none⟩)]), (7, .pointer (some ⟨rt_7, 0, none⟩)), (9, .bool false)]) (.cons rfl (.cons rfl (.cons rfl (.cons rfl (.nil _))))) ?_
   refine ke_seq ?_
   refine ke_cond (t := false) rfl (fun h => by cases h) (fun _ => ?_)
   refine ke_exit (k' := _) rfl ?_
   cases hS
   exact ke_end0 Try.func48 rfl ⟨_, rfl, leave ρA w0 o 1 ρ, rfl, (hm_0.mv (leave_mv (p := 0) (by decide) hb)), (leave_tr ho2 hb)⟩
  ·skip
   replace hm_0 := hm_0.mv (htr13.mv (i := 100) rfl)
   replace hedel_1_c0 := hedel_1_c0.mv (htr13.mv (i := 0) rfl) (Nat.succ_pos _)
   replace hb := hb.trans htr13
   replace ht_7 := ht_71
   clear ht_71
   obtain ⟨v16, hcshrd14, h17⟩ := hrd14
   obtain rfl : cs11 = [v16, .int .i64 e10.2.window.From, .int .i64 e10.2.window.Until] := hcshrd14
   refine sr_ev (v := .bool true) (ev_extract rfl rfl) (by decide) ?_
   refine sr_end (l' := [(0, v1), (1, .func (.func 49) #[] #[.pointer (some ⟨bdel_1_c0, 0, none⟩)]), (7, .pointer (some ⟨rt_7, 0, none⟩)), (9, .bool true)]) (.cons rfl (.cons rfl (.cons rfl (.cons rfl (.nil _))))) ?_
   refine ke_seq ?_
   refine ke_cond (t := true) rfl (fun _ => ?_) (fun h => by cases h)
   refine ke_skip ?_
   refine ke_block ?_
   refine ke_seq ?_
   refine ke_region ?_
   refine sr_ev (v := .tuple #[.agg #[str e10.1.from_, str e10.1.to_], .agg #[v16, .int .i64 e10.2.window.From, .int .i64 e10.2.window.Until]]) (hent15 rfl) (by decide) ?_
   refine sr_ev (v := .agg #[str e10.1.from_, str e10.1.to_]) (ev_extract rfl rfl) (by decide) ?_
   refine sr_ev (v := .agg #[v16, .int .i64 e10.2.window.From, .int .i64 e10.2.window.Until]) (ev_extract rfl rfl) (by decide) ?_
   refine sr_allocT 6 (by decide) hb.bd Try.zeroValue63 (by decide) ?_
   intro g18 ρ19 w20 hB22 htr21
   replace hm_0 := hm_0.mv (htr21.mv (i := 100) rfl)
   replace hedel_1_c0 := hedel_1_c0.mv (htr21.mv (i := 0) rfl) (Nat.succ_pos _)
   replace ht_7 := ht_7.mv (htr21.mv (i := 100) rfl) (htr21.mv (i := 9) rfl)
   replace h17 := h17.mv htr21.rd
   replace hb := hb.trans htr21
   replace hB22 : Blk ρ19 6 w20 g18 (.cells #[str ([]), str ([])] 63 (0, 0)) := hB22
   refine sr_allocT 7 (by decide) hb.bd Try.zeroValue61 (by decide) ?_
   intro g23 ρ24 w25 hB27 htr26
   replace hm_0 := hm_0.mv (htr26.mv (i := 100) rfl)
   replace hedel_1_c0 := hedel_1_c0.mv (htr26.mv (i := 0) rfl) (Nat.succ_pos _)
   replace ht_7 := ht_7.mv (htr26.mv (i := 100) rfl) (htr26.mv (i := 9) rfl)
   replace h17 := h17.mv htr26.rd
   replace hB22 := hB22.mv (htr26.mv (i := 6) rfl)
   replace hb := hb.trans htr26
   replace hB27 : Blk ρ24 7 w25 g23 (.cells #[(.slice none 0 0), .int .i64 0, .int .i64 0] 61 (0, 0)) := hB27
   refine sr_storeT (v := .agg #[str e10.1.from_, str e10.1.to_]) (vs := [str e10.1.from_, str e10.1.to_]) (cs' := #[str e10.1.from_, str e10.1.to_]) hB22 (by decide) hb.bd rfl rfl rfl Try.sizeOf63 rfl rfl rfl ?_
   intro w28 hB221 htr29
   replace hm_0 := hm_0.mv (htr29.mv (i := 100) rfl)
   replace hedel_1_c0 := hedel_1_c0.mv (htr29.mv (i := 0) rfl) (Nat.succ_pos _)
   replace ht_7 := ht_7.mv (htr29.mv (i := 100) rfl) (htr29.mv (i := 9) rfl)
   replace h17 := h17.mv htr29.rd
   replace hB27 := hB27.mv (htr29.mv (i := 7) rfl)
   replace hb := hb.trans htr29
   replace hB22 : Blk ρ24 6 w28 g18 (.cells #[str e10.1.from_, str e10.1.to_] 63 (0, 0)) := hB221
   clear hB221
   refine sr_storeT (v := .agg #[v16, .int .i64 e10.2.window.From, .int .i64 e10.2.window.Until]) (vs := [v16, .int .i64 e10.2.window.From, .int .i64 e10.2.window.Until]) (cs' := #[v16, .int .i64 e10.2.window.From, .int .i64 e10.2.window.Until]) hB27 (by decide) hb.bd rfl rfl rfl Try.sizeOf61 rfl (by first | rfl | (simp only [List.all_cons, List.all_nil, SlR.oneCell h17]; done) | (simp only [List.all_cons, List.all_nil, SlR.oneCell h17]; rfl)) rfl ?_
   intro w30 hB271 htr31
   replace hm_0 := hm_0.mv (htr31.mv (i := 100) rfl)
   replace hedel_1_c0 := hedel_1_c0.mv (htr31.mv (i := 0) rfl) (Nat.succ_pos _)
   replace ht_7 := ht_7.mv (htr31.mv (i := 100) rfl) (htr31.mv (i := 9) rfl)
   replace h17 := h17.mv htr31.rd
   replace hB22 := hB22.mv (htr31.mv (i := 6) rfl)
   replace hb := hb.trans htr31
   replace hB27 : Blk ρ24 7 w30 g23 (.cells #[v16, .int .i64 e10.2.window.From, .int .i64 e10.2.window.Until] 61 (0, 0)) := hB271
   clear hB271
   refine sr_end (l' := [(0, v1), (1, .func (.func 49) #[] #[.pointer (some ⟨bdel_1_c0, 0, none⟩)]), (4, .pointer (some ⟨g18, 0, none⟩)), (5, .pointer (some ⟨g23, 0, none⟩)), (7, .pointer (some ⟨rt_7, 0, none⟩))]) (.cons rfl (.cons rfl (.cons rfl (.cons rfl (.cons rfl (.nil _)))))) ?_
   refine ke_seq ?_
   refine ke_region ?_
   refine sr_ev (v := .func (.func 49) #[] #[.pointer (some ⟨bdel_1_c0, 0, none⟩)]) (ev_move rfl) (by decide) ?_
   refine sr_ev (v := .agg #[str e10.1.from_, str e10.1.to_]) (ev_loads (cs := [str e10.1.from_, str e10.1.to_]) Try.isAgg63 Try.sizeOf63 rfl (hB22.cells (vs := [str e10.1.from_, str e10.1.to_]) rfl)) (by decide) ?_
   refine sr_ev (v := .agg #[v16, .int .i64 e10.2.window.From, .int .i64 e10.2.window.Until]) (ev_loads (cs := [v16, .int .i64 e10.2.window.From, .int .i64 e10.2.window.Until]) Try.isAgg61 Try.sizeOf61 rfl (hB27.cells (vs := [v16, .int .i64 e10.2.window.From, .int .i64 e10.2.window.Until]) rfl)) (by decide) ?_
   obtain ⟨y32, hy33, hS⟩ := bind_some' hS
   refine sr_callc (vs := [.agg #[str e10.1.from_, str e10.1.to_], .agg #[v16, .int .i64 e10.2.window.From, .int .i64 e10.2.window.Until]]) rfl Try.call49 rfl (delegate_Delegations_Drop_1_ok _ (hg.fr hz hb) (ρA := ρ24) hb.bd (hz.fr hg hb) h17 hedel_1_c0 hy33) (by decide) ?_
   rintro _ w34 ⟨rfl, hbw35⟩
   have htr36 := Tr.of_below hbw35 hb.bd
   replace hm_0 := hm_0.mv (htr36.mv (i := 100) rfl)
   replace hedel_1_c0 := hedel_1_c0.mv (htr36.mv (i := 0) rfl) (Nat.succ_pos _)
   replace ht_7 := ht_7.mv (htr36.mv (i := 100) rfl) (htr36.mv (i := 9) rfl)
   replace hB22 := hB22.mv (htr36.mv (i := 6) rfl)
   replace hb := hb.trans htr36
   refine sr_end (l' := [(0, v1), (1, .func (.func 49) #[] #[.pointer (some ⟨bdel_1_c0, 0, none⟩)]), (4, .pointer (some ⟨g18, 0, none⟩)), (7, .pointer (some ⟨rt_7, 0, none⟩)), (16, .bool y32)]) (.cons rfl (.cons rfl (.cons rfl (.cons rfl (.cons rfl (.nil _)))))) ?_
   refine ke_cond (t := y32) rfl (fun hc37 => ?_) (fun hc37 => ?_)
   ·replace hS := ite_true' hS hc37
    refine ke_region ?_
    refine sr_ev (v := v1) (ev_move rfl) (by decide) ?_
    refine sr_ev (v := .agg #[str e10.1.from_, str e10.1.to_]) (ev_loads (cs := [str e10.1.from_, str e10.1.to_]) Try.isAgg63 Try.sizeOf63 rfl (hB22.cells (vs := [str e10.1.from_, str e10.1.to_]) rfl)) (by decide) ?_
    obtain ⟨w38, hrunw38, ht_71, htr39⟩ := sr_mapDelIt (n := 19) (l := [(0, v1), (1, .func (.func 49) #[] #[.pointer (some ⟨bdel_1_c0, 0, none⟩)]), (4, .pointer (some ⟨g18, 0, none⟩)), (7, .pointer (some ⟨rt_7, 0, none⟩)), (16, .bool y32), (17, v1), (18, .agg #[str e10.1.from_, str e10.1.to_])]) (d := none) (x := _) (y := _) (pos := _) (after := _) (t := _) (k := e10.1) ht_7 rfl Try.keyB63 Try.underlying52 (by decide) hb.bd
    refine sr_run0 (fun a ha => hrunw38 (ha.weaken (.cons rfl (.cons rfl (.cons rfl (.cons rfl (.cons rfl (.cons rfl (.cons rfl (.nil _))))))))) rfl rfl) ?_
    replace hedel_1_c0 := hedel_1_c0.mv (htr39.mv (i := 0) rfl) (Nat.succ_pos _)
    replace hb := hb.trans htr39
    replace ht_7 := ht_71
    clear ht_71
    replace hm_0 := ht_7.map
    refine sr_end (l' := [(0, v1), (1, .func (.func 49) #[] #[.pointer (some ⟨bdel_1_c0, 0, none⟩)]), (7, .pointer (some ⟨rt_7, 0, none⟩))]) (.cons rfl (.cons rfl (.cons rfl (.nil _)))) ?_
    have hK := maps_DeleteFunc_map_delegate_way_delegate_delegation_delegate_way_delegate_delegation__Delegations_Drop_1_B2_ok hg hbd ho2 hz _ hr0 hS hb hm_0 hedel_1_c0 ht_7
    exact ke_weaken (l' := [(0, v1), (1, .func (.func 49) #[] #[.pointer (some ⟨bdel_1_c0, 0, none⟩)]), (7, .pointer (some ⟨rt_7, 0, none⟩))]) (.cons rfl (.cons rfl (.cons rfl (.nil _)))) hK
   ·replace hS := ite_false' hS hc37
    refine ke_skip ?_
    have hK := maps_DeleteFunc_map_delegate_way_delegate_delegation_delegate_way_delegate_delegation__Delegations_Drop_1_B2_ok hg hbd ho2 hz _ hr0 hS hb hm_0 hedel_1_c0 ht_7
    exact ke_weaken (l' := [(0, v1), (1, .func (.func 49) #[] #[.pointer (some ⟨bdel_1_c0, 0, none⟩)]), (7, .pointer (some ⟨rt_7, 0, none⟩))]) (.cons rfl (.cons rfl (.cons rfl (.nil _)))) hK
theorem maps_DeleteFunc_map_delegate_way_delegate_delegation_delegate_way_delegate_delegation__Delegations_Drop_1_ok (w0 : World) (hg : Gs w0) {ρA : Tags} (hbd : ∀ b, ρA b ≠ 0 → b < w0.heap.size) (hz : Gz ρA) {o : Nat} (ho2 : 2 ≤ o) {m_0 : GMap delegate_way delegate_delegation} {c1_0 : Str} {v1 : Value} {b3 : Nat} {r : GMap delegate_way delegate_delegation} (h2 : MapT delegate_way.ek delegate_delegation.c true ρA o w0 v1 m_0) (he4 : ElT strC ρA 0 w0 b3 0 [str c1_0] c1_0) (hS : maps_DeleteFunc_map_delegate_way_delegate_delegation_delegate_way_delegate_delegation__Delegations_Drop_1 m_0 c1_0 = some r) :
  Calls Try.prog 48 #[v1, .func (.func 49) #[] #[.pointer (some ⟨b3, 0, none⟩)]] w0 (Ret (fun v w' => ∃ ρ', v = .tuple #[] ∧ MapT delegate_way.ek delegate_delegation.c true ρ' o w' v1 r ∧ Tr ρA w0 (rng o 1) ρ' w')) := by
 unfold maps_DeleteFunc_map_delegate_way_delegate_delegation_delegate_way_delegate_delegation__Delegations_Drop_1 at hS
 have hb := enter_fr (ρ := ρA) (w := w0) (n := 1) ho2 hbd
 have hz := hz.enter (n := 1) ho2
 replace he4 := he4.mv (enter_rd (n := 1) ho2) (Nat.succ_pos _)
 replace h2 := h2.mv (enter_mv (p := 0) (n := 1) (by decide) ho2)
 replace h2 : MapT delegate_way.ek delegate_delegation.c true (enter ρA o 1) 100 w0 v1 m_0 := h2
 refine calls_of_ke Try.func48 rfl (n := 19) rfl rfl (l := [(0, v1), (1, .func (.func 49) #[] #[.pointer (some ⟨b3, 0, none⟩)])]) rfl ?_
 refine ke_seq ?_
 refine ke_region ?_
 refine sr_ev (v := v1) (ev_move rfl) (by decide) ?_
 refine sr_rangeM 9 (by decide) h2 rfl Try.underlying52 hb.bd rfl (by decide) ?_
 intro r5 ρ6 w7 h8 htr9
 replace h2 := h2.mv (htr9.mv (i := 100) rfl)
 replace he4 := he4.mv (htr9.mv (i := 0) rfl) (Nat.succ_pos _)
 replace hb := hb.trans htr9
 refine sr_end (l' := [(0, v1), (1, .func (.func 49) #[] #[.pointer (some ⟨b3, 0, none⟩)]), (7, .pointer (some ⟨r5, 0, none⟩))]) (.cons rfl (.cons rfl (.cons rfl (.nil _)))) ?_
 refine ke_block ?_
 have hK := maps_DeleteFunc_map_delegate_way_delegate_delegation_delegate_way_delegate_delegation__Delegations_Drop_1_L1_ok hg hbd ho2 hz _ hS hb h2 he4 h8
 exact ke_weaken (l' := [(0, v1), (1, .func (.func 49) #[] #[.pointer (some ⟨b3, 0, none⟩)]), (7, .pointer (some ⟨r5, 0, none⟩))]) (.cons rfl (.cons rfl (.cons rfl (.nil _)))) (ke_loop hK)
theorem delegate_Delegations_Drop_ok (w0 : World) (hg : Gs w0) {ρA : Tags} (hbd : ∀ b, ρA b ≠ 0 → b < w0.heap.size) (hz : Gz ρA) {o : Nat} (ho2 : 2 ≤ o) {d_0 : delegate_Delegations} {user_1 : Str} {gd_0 : Nat} {r : Int × delegate_Delegations} (ho0 : delegate_Delegations.O (fun p => o + p) ρA w0 gd_0 d_0) (hS : delegate_Delegations_Drop d_0 user_1 = some r) :
  Calls Try.prog 24 #[.pointer (some ⟨gd_0, 0, none⟩), str user_1] w0 (Ret (fun v w' => ∃ ρ', v = .int .i64 r.1 ∧ delegate_Delegations.O (fun p => o + p) ρ' w' gd_0 r.2 ∧ Tr ρA w0 (rng o 2) ρ' w')) := by
 unfold delegate_Delegations_Drop at hS
 have hb := enter_fr (ρ := ρA) (w := w0) (n := 2) ho2 hbd
 have hz := hz.enter (n := 2) ho2
 obtain ⟨v1, hB3, h2⟩ := ho0
 replace hB3 := hB3.mv (enter_mv (p := 0) (n := 2) (by decide) ho2)
 replace h2 := h2.mv (enter_mv (p := 1) (n := 2) (by decide) ho2)
 replace hB3 : Blk (enter ρA o 2) 100 w0 gd_0 (.cells #[v1] 54 (0, 0)) := hB3
 replace h2 : MapT delegate_way.ek delegate_delegation.c true (enter ρA o 2) 101 w0 v1 d_0.ways := h2
 refine calls_of_ke Try.func24 rfl (n := 27) rfl rfl (l := [(0, .pointer (some ⟨gd_0, 0, none⟩)), (1, str user_1)]) rfl ?_
 refine ke_seq ?_
 refine ke_region ?_
 refine sr_boxT 5 (by decide) hb.bd rfl (by decide) ?_
 intro g4 ρ5 w6 hB8 htr7
 replace hB3 := hB3.mv (htr7.mv (i := 100) rfl)
 replace h2 := h2.mv (htr7.mv (i := 101) rfl)
 replace hb := hb.trans htr7
 replace hB8 : Blk ρ5 5 w6 g4 (.cells #[str user_1] 9 (0, 0)) := hB8
 refine sr_ev (v := .int .i64 0) (ev_assign rfl) (by decide) ?_
 refine sr_end (l' := [(0, .pointer (some ⟨gd_0, 0, none⟩)), (3, .pointer (some ⟨g4, 0, none⟩))]) (.cons rfl (.cons rfl (.nil _))) ?_
 refine ke_seq ?_
 refine ke_seq ?_
 refine ke_region ?_
 refine sr_ev (v := .pointer (some ⟨gd_0, 0, none⟩)) (ev_move rfl) (by decide) ?_
 obtain ⟨y9, hy10, hS⟩ := bind_some' hS
 refine sr_call (vs := [.pointer (some ⟨gd_0, 0, none⟩)]) rfl Try.call38 rfl (delegate_Delegations_made_ok _ (hg.fr hz hb) (ρA := ρ5) hb.bd (hz.fr hg hb) (τ0 := (fun p => 100 + p)) (fun p => Nat.le_add_right_of_le (by decide)) (⟨_, hB3, h2⟩ : delegate_Delegations.O (fun p => 100 + p) ρ5 w6 gd_0 d_0) hy10) (by decide) ?_
 rintro _ w11 ⟨rfl, hbw12⟩
 have htr13 := Tr.of_below hbw12 hb.bd
 replace hB8 := hB8.mv (htr13.mv (i := 5) rfl)
 replace hB3 := hB3.mv (htr13.mv (i := 100) rfl)
 replace h2 := h2.mv (htr13.mv (i := 101) rfl)
 replace hb := hb.trans htr13
 refine sr_ev (v := .bool (!y9)) (ev_not rfl) (by decide) ?_
 refine sr_end (l' := [(0, .pointer (some ⟨gd_0, 0, none⟩)), (3, .pointer (some ⟨g4, 0, none⟩)), (8, .bool (!y9))]) (.cons rfl (.cons rfl (.cons rfl (.nil _)))) ?_
 refine ke_cond (t := !y9) rfl (fun hc14 => ?_) (fun hc14 => ?_)
 ·replace hS := ite_true' hS hc14
  refine ke_seq ?_
  refine ke_region ?_
  refine sr_ev (v := .int .i64 0) (ev_assign rfl) (by decide) ?_
  refine sr_end (l' := [(4, .int .i64 0)]) (.cons rfl (.nil _)) ?_
  cases hS
  exact ke_ret1 Try.func24 rfl rfl ⟨_, rfl, leave ρA w0 o 2 ρ5, rfl, ⟨_, (hB3.mv (leave_mv (p := 0) (by decide) hb)), (h2.mv (leave_mv (p := 1) (by decide) hb))⟩, (leave_tr ho2 hb)⟩
 ·replace hS := ite_false' hS hc14
  refine ke_skip ?_
  refine ke_seq ?_
  refine ke_region ?_
  refine sr_ev (v := .pointer (some ⟨gd_0, 0, none⟩)) (ev_move rfl) (by decide) ?_
  refine sr_ev (v := .pointer (some ⟨gd_0, 0, none⟩)) (ev_nilCheck rfl) (by decide) ?_
  refine sr_ev (v := .pointer (some ⟨gd_0, 0, none⟩)) (ev_fieldAddr (i := 0) Try.underlying54 rfl Try.info52 rfl rfl) (by decide) ?_
  refine sr_ev (v := v1) (ev_load Try.isAgg52 rfl (hB3.cell rfl)) (by decide) ?_
  refine sr_ev (v := .int .i64 (mlen d_0.ways)) (ev_mapLen h2 Try.underlying52 (Mv.of_below (i := 101) (ρ := ρ5) (Below.refl _ _)) rfl) (by decide) ?_
  refine sr_ev (v := .int .i64 (mlen d_0.ways)) (ev_assign rfl) (by decide) ?_
  refine sr_end (l' := [(0, .pointer (some ⟨gd_0, 0, none⟩)), (3, .pointer (some ⟨g4, 0, none⟩)), (5, .int .i64 (mlen d_0.ways))]) (.cons rfl (.cons rfl (.cons rfl (.nil _)))) ?_
  refine ke_seq ?_
  refine ke_region ?_
  refine sr_ev (v := .pointer (some ⟨gd_0, 0, none⟩)) (ev_move rfl) (by decide) ?_
  refine sr_ev (v := .pointer (some ⟨gd_0, 0, none⟩)) (ev_nilCheck rfl) (by decide) ?_
  refine sr_ev (v := .pointer (some ⟨gd_0, 0, none⟩)) (ev_fieldAddr (i := 0) Try.underlying54 rfl Try.info52 rfl rfl) (by decide) ?_
  refine sr_ev (v := v1) (ev_load Try.isAgg52 rfl (hB3.cell rfl)) (by decide) ?_
  have htr15 := frz_tr (ρ := ρ5) (w := w11) (i := 5) (by decide) hb.bd
  have he16 : ElT strC (frz ρ5 5) 0 w11 g4 0 [str user_1] user_1 := Blk.frzEl hB8 rfl rfl
  replace h2 := h2.mv (htr15.mv (i := 101) rfl)
  replace hB3 := hB3.mv (htr15.mv (i := 100) rfl)
  replace hb := hb.trans htr15
  refine sr_ev (v := .func (.func 49) #[] #[.pointer (some ⟨g4, 0, none⟩)]) (ev_makeFunc rfl) (by decide) ?_
  obtain ⟨y17, hy18, hS⟩ := bind_some' hS
  refine sr_call (vs := [v1, .func (.func 49) #[] #[.pointer (some ⟨g4, 0, none⟩)]]) rfl Try.call48 rfl (maps_DeleteFunc_map_delegate_way_delegate_delegation_delegate_way_delegate_delegation__Delegations_Drop_1_ok _ (hg.fr hz hb) (ρA := (frz ρ5 5)) hb.bd (hz.fr hg hb) (o := 101) (by decide) h2 he16 hy18) (by decide) ?_
  rintro _ w19 ⟨ρ22, rfl, h21, htr21⟩
  replace hB3 := hB3.mv (htr21.mv (i := 100) rfl)
  replace hb := hb.trans htr21
  replace h2 := h21
  clear h21
  refine sr_end (l' := [(0, .pointer (some ⟨gd_0, 0, none⟩)), (5, .int .i64 (mlen d_0.ways))]) (.cons rfl (.cons rfl (.nil _))) ?_
  refine ke_seq ?_
  refine ke_region ?_
  refine sr_ev (v := .int .i64 (mlen d_0.ways)) (ev_move rfl) (by decide) ?_
  refine sr_ev (v := .pointer (some ⟨gd_0, 0, none⟩)) (ev_move rfl) (by decide) ?_
  refine sr_ev (v := .pointer (some ⟨gd_0, 0, none⟩)) (ev_nilCheck rfl) (by decide) ?_
  refine sr_ev (v := .pointer (some ⟨gd_0, 0, none⟩)) (ev_fieldAddr (i := 0) Try.underlying54 rfl Try.info52 rfl rfl) (by decide) ?_
  refine sr_ev (v := v1) (ev_load Try.isAgg52 rfl (hB3.cell rfl)) (by decide) ?_
  refine sr_ev (v := .int .i64 (mlen y17)) (ev_mapLen h2 Try.underlying52 (Mv.of_below (i := 101) (ρ := ρ22) (Below.refl _ _)) rfl) (by decide) ?_
  refine sr_ev (v := .int .i64 (IntKind.i64.wrap ((mlen d_0.ways) - (mlen y17)))) (ev_sub rfl rfl) (by decide) ?_
  refine sr_ev (v := .int .i64 (IntKind.i64.wrap ((mlen d_0.ways) - (mlen y17)))) (ev_assign rfl) (by decide) ?_
  refine sr_end (l' := [(4, .int .i64 (IntKind.i64.wrap ((mlen d_0.ways) - (mlen y17))))]) (.cons rfl (.nil _)) ?_
  cases hS
  exact ke_ret1 Try.func24 rfl rfl ⟨_, rfl, leave ρA w0 o 2 ρ22, rfl, ⟨_, (hB3.mv (leave_mv (p := 0) (by decide) hb)), (h2.mv (leave_mv (p := 1) (by decide) hb))⟩, (leave_tr ho2 hb)⟩
theorem clock_Check_ok (w0 : World) (hg : Gs w0) {w_0 : api_Window} {t_1 : Int} {skew_2 : Int} {r : Int} (hS : clock_Check w_0 t_1 skew_2 = some r) :
  Calls Try.prog 51 #[.agg #[.int .i64 w_0.From, .int .i64 w_0.Until], .int .i64 t_1, .int .i64 skew_2] w0 (Ret (fun v w' => v = .int .i64 r ∧ Below w0.heap.size w0 w')) := by
 unfold clock_Check at hS
 have hb := Below.refl w0.heap.size w0
 obtain ⟨A0, hA0, hAe⟩ : ∃ A0 : Nat → Prop, (∀ b, A0 b → b < w0.heap.size) ∧ A0 = fun _ => False := ⟨_, fun _ h => h.elim, rfl⟩
 clear hAe
 have hA := hA0
 have hi : ∀ b, A0 b → A0 b := fun _ h => h
 have hH := Hp.nil A0 w0.heap.size w0
 refine calls_of_ke Try.func51 rfl (n := 34) rfl rfl (l := [(0, .agg #[.int .i64 w_0.From, .int .i64 w_0.Until]), (1, .int .i64 t_1), (2, .int .i64 skew_2)]) rfl ?_
 refine ke_seq ?_
 refine ke_region ?_
 refine sr_box hH hb.size hA rfl (by decide) ?_
 intro g1 A2 w3 hH1 hst4 hbw5 hinc6 hA1 hge7
 replace hb := hb.trans (hbw5.mono hb.size)
 replace hi := fun b hb => hinc6 b (hi b hb)
 replace hH : Hp A2 w0.heap.size w3 [(g1, .cells #[.int .i64 w_0.From, .int .i64 w_0.Until] 33 (0, 0))] := hH1
 replace hA := hA1
 clear hH1 hA1
 refine sr_ev (v := .int .i64 0) (ev_assign rfl) (by decide) ?_
 refine sr_end (l' := [(1, .int .i64 t_1), (2, .int .i64 skew_2), (3, .pointer (some ⟨g1, 0, none⟩))]) (.cons rfl (.cons rfl (.cons rfl (.nil _)))) ?_
 refine ke_seq ?_
 refine ke_region ?_
 refine sr_ev (v := .int .i64 t_1) (ev_move rfl) (by decide) ?_
 obtain ⟨y8, hy9, hS⟩ := bind_some' hS
 refine sr_call (vs := [.int .i64 t_1]) rfl Try.call69 rfl (clock_limited_ok _ (hg.below hb) hy9) (by decide) ?_
 rintro _ w10 ⟨rfl, hbw11⟩
 replace hb := hb.trans (hbw11.mono hb.size)
 replace hA := lt_mono hA hbw11.size
 replace hH := hH.below hbw11
 refine sr_ev (v := .int .i64 skew_2) (ev_move rfl) (by decide) ?_
 refine sr_ev (v := .int .i64 (gmax skew_2 0)) (ev_max rfl rfl) (by decide) ?_
 refine sr_ev (v := .int .i64 (gmin (gmax skew_2 0) 600)) (ev_min rfl rfl) (by decide) ?_
 refine sr_ev (v := .int .i64 y8) (ev_assign rfl) (by decide) ?_
 refine sr_ev (v := .int .i64 (gmin (gmax skew_2 0) 600)) (ev_assign rfl) (by decide) ?_
 refine sr_end (l' := [(3, .pointer (some ⟨g1, 0, none⟩)), (7, .int .i64 y8), (8, .int .i64 (gmin (gmax skew_2 0) 600))]) (.cons rfl (.cons rfl (.cons rfl (.nil _)))) ?_
 refine ke_seq ?_
 refine ke_block ?_
 refine ke_seq ?_
 refine ke_region ?_
 refine sr_ev (v := .pointer (some ⟨g1, 0, none⟩)) (ev_fieldAddr (i := 0) Try.underlying33 rfl Try.info3 rfl rfl) (by decide) ?_
 refine sr_ev (v := .int .i64 w_0.From) (ev_load Try.isAgg3 rfl (hH.cell (i := 0) rfl rfl)) (by decide) ?_
 refine sr_ev (v := .pointer (some ⟨g1, 1, none⟩)) (ev_fieldAddr (i := 1) Try.underlying33 rfl Try.info3 rfl rfl) (by decide) ?_
 refine sr_ev (v := .int .i64 w_0.Until) (ev_load Try.isAgg3 rfl (hH.cell (i := 0) rfl rfl)) (by decide) ?_
 refine sr_ev (v := .bool (decide (w_0.From > w_0.Until))) (ev_gt rfl rfl) (by decide) ?_
 refine sr_ev (v := .bool (decide (w_0.From > w_0.Until))) (ev_assign rfl) (by decide) ?_
 refine sr_end (l' := [(3, .pointer (some ⟨g1, 0, none⟩)), (7, .int .i64 y8), (8, .int .i64 (gmin (gmax skew_2 0) 600)), (14, .bool (decide (w_0.From > w_0.Until)))]) (.cons rfl (.cons rfl (.cons rfl (.cons rfl (.nil _))))) ?_
 refine ke_cond (t := decide (w_0.From > w_0.Until)) rfl (fun hc12 => ?_) (fun hc12 => ?_)
 ·replace hS := ite_true' hS hc12
  refine ke_seq ?_
  refine ke_region ?_
  refine sr_ev (v := .int .i64 2) (ev_assign rfl) (by decide) ?_
  refine sr_end (l' := [(6, .int .i64 2)]) (.cons rfl (.nil _)) ?_
  cases hS
  exact ke_ret1 Try.func51 rfl rfl ⟨_, rfl, rfl, hb⟩
 ·replace hS := ite_false' hS hc12
  refine ke_seq ?_
  refine ke_region ?_
  refine sr_ev (v := .int .i64 y8) (ev_move rfl) (by decide) ?_
  refine sr_ev (v := .int .i64 (gmin (gmax skew_2 0) 600)) (ev_move rfl) (by decide) ?_
  refine sr_ev (v := .int .i64 (IntKind.i64.wrap (y8 + (gmin (gmax skew_2 0) 600)))) (ev_add rfl rfl) (by decide) ?_
  refine sr_ev (v := .pointer (some ⟨g1, 0, none⟩)) (ev_fieldAddr (i := 0) Try.underlying33 rfl Try.info3 rfl rfl) (by decide) ?_
  refine sr_ev (v := .int .i64 w_0.From) (ev_load Try.isAgg3 rfl (hH.cell (i := 0) rfl rfl)) (by decide) ?_
  refine sr_ev (v := .bool (decide ((IntKind.i64.wrap (y8 + (gmin (gmax skew_2 0) 600))) < w_0.From))) (ev_lt rfl rfl) (by decide) ?_
  refine sr_ev (v := .bool (decide ((IntKind.i64.wrap (y8 + (gmin (gmax skew_2 0) 600))) < w_0.From))) (ev_assign rfl) (by decide) ?_
  refine sr_end (l' := [(3, .pointer (some ⟨g1, 0, none⟩)), (7, .int .i64 y8), (8, .int .i64 (gmin (gmax skew_2 0) 600)), (20, .bool (decide ((IntKind.i64.wrap (y8 + (gmin (gmax skew_2 0) 600))) < w_0.From)))]) (.cons rfl (.cons rfl (.cons rfl (.cons rfl (.nil _))))) ?_
  refine ke_cond (t := decide ((IntKind.i64.wrap (y8 + (gmin (gmax skew_2 0) 600))) < w_0.From)) rfl (fun hc13 => ?_) (fun hc13 => ?_)
  ·replace hS := ite_true' hS hc13
   refine ke_seq ?_
   refine ke_region ?_
   refine sr_ev (v := .int .i64 14) (ev_assign rfl) (by decide) ?_
   refine sr_end (l' := [(6, .int .i64 14)]) (.cons rfl (.nil _)) ?_
   cases hS
   exact ke_ret1 Try.func51 rfl rfl ⟨_, rfl, rfl, hb⟩
  ·replace hS := ite_false' hS hc13
   refine ke_seq ?_
   refine ke_region ?_
   refine sr_ev (v := .int .i64 y8) (ev_move rfl) (by decide) ?_
   refine sr_ev (v := .int .i64 (gmin (gmax skew_2 0) 600)) (ev_move rfl) (by decide) ?_
   refine sr_ev (v := .int .i64 (IntKind.i64.wrap (y8 - (gmin (gmax skew_2 0) 600)))) (ev_sub rfl rfl) (by decide) ?_
   refine sr_ev (v := .pointer (some ⟨g1, 1, none⟩)) (ev_fieldAddr (i := 1) Try.underlying33 rfl Try.info3 rfl rfl) (by decide) ?_
   refine sr_ev (v := .int .i64 w_0.Until) (ev_load Try.isAgg3 rfl (hH.cell (i := 0) rfl rfl)) (by decide) ?_
   refine sr_ev (v := .bool (decide ((IntKind.i64.wrap (y8 - (gmin (gmax skew_2 0) 600))) ≥ w_0.Until))) (ev_ge rfl rfl) (by decide) ?_
   refine sr_ev (v := .bool (decide ((IntKind.i64.wrap (y8 - (gmin (gmax skew_2 0) 600))) ≥ w_0.Until))) (ev_assign rfl) (by decide) ?_
   refine sr_end (l' := [(27, .bool (decide ((IntKind.i64.wrap (y8 - (gmin (gmax skew_2 0) 600))) ≥ w_0.Until)))]) (.cons rfl (.nil _)) ?_
   refine ke_cond (t := decide ((IntKind.i64.wrap (y8 - (gmin (gmax skew_2 0) 600))) ≥ w_0.Until)) rfl (fun hc14 => ?_) (fun hc14 => ?_)
   ·replace hS := ite_true' hS hc14
    refine ke_seq ?_
    refine ke_region ?_
    refine sr_ev (v := .int .i64 13) (ev_assign rfl) (by decide) ?_
    refine sr_end (l' := [(6, .int .i64 13)]) (.cons rfl (.nil _)) ?_
    cases hS
    exact ke_ret1 Try.func51 rfl rfl ⟨_, rfl, rfl, hb⟩
   ·replace hS := ite_false' hS hc14
    refine ke_skip ?_
    refine ke_inBlock ?_
    refine ke_seq ?_
    refine ke_region ?_
    refine sr_ev (v := .int .i64 0) (ev_assign rfl) (by decide) ?_
    refine sr_end (l' := [(6, .int .i64 0)]) (.cons rfl (.nil _)) ?_
    cases hS
    exact ke_ret1 Try.func51 rfl rfl ⟨_, rfl, rfl, hb⟩
theorem internal_stringslite_HasPrefix_ok (w0 : World) (hg : Gs w0) {s_0 : Str} {prefix_1 : Str} {r : Bool} (hS : internal_stringslite_HasPrefix s_0 prefix_1 = some r) :
  Calls Try.prog 81 #[str s_0, str prefix_1] w0 (Ret (fun v w' => v = .bool r ∧ Below w0.heap.size w0 w')) := by
 unfold internal_stringslite_HasPrefix at hS
 have hb := Below.refl w0.heap.size w0
 refine calls_of_ke Try.func81 rfl (n := 18) rfl rfl (l := [(0, str s_0), (1, str prefix_1)]) rfl ?_
 refine ke_seq ?_
 refine ke_region ?_
 refine sr_ev (v := .bool false) (ev_assign rfl) (by decide) ?_
 refine sr_end (l' := [(0, str s_0), (1, str prefix_1)]) (.cons rfl (.cons rfl (.nil _))) ?_
 refine ke_seq ?_
 refine ke_region ?_
 refine sr_ev (v := str s_0) (ev_move rfl) (by decide) ?_
 refine sr_ev (v := .int .i64 (s_0.length : Int)) (ev_slen Try.underlying9 rfl) (by decide) ?_
 refine sr_ev (v := str prefix_1) (ev_move rfl) (by decide) ?_
 refine sr_ev (v := .int .i64 (prefix_1.length : Int)) (ev_slen Try.underlying9 rfl) (by decide) ?_
 refine sr_ev (v := .bool (decide ((s_0.length : Int) ≥ (prefix_1.length : Int)))) (ev_ge rfl rfl) (by decide) ?_
 refine sr_ev (v := .bool (decide ((s_0.length : Int) ≥ (prefix_1.length : Int)))) (ev_move rfl) (by decide) ?_
 obtain ⟨z3, hz5, hS⟩ := bind_some' hS
 refine sr_join (m := 7) (C := fun (x : Bool) w1 => z3 = x ∧ Below w0.heap.size w0 w1) (l' := fun x => [(17, .bool x)]) ?_ ?_
 ·rintro _ w6 ⟨rfl, hbw7⟩
  replace hb := hb.trans (hbw7.mono hb.size)
  refine sr_ev (v := .bool z3) (ev_assign rfl) (by decide) ?_
  refine sr_end (l' := [(4, .bool z3)]) (.cons rfl (.nil _)) ?_
  cases hS
  exact ke_ret1 Try.func81 rfl rfl ⟨_, rfl, rfl, hb⟩
 ·intro K2
  clear hS
  have hj4 := Below.refl w0.heap.size w0
  rcases Bool.eq_false_or_eq_true (decide ((s_0.length : Int) ≥ (prefix_1.length : Int))) with hg1 | hg1
  ·have hS := ite_true' hz5 hg1
   refine sr_evg (b := true) (e := 10) rfl rfl hg1 (v := str s_0) (ev_move rfl) (by decide) ?_
   refine sr_evg (b := true) (e := 10) rfl rfl hg1 (v := str prefix_1) (ev_move rfl) (by decide) ?_
   refine sr_evg (b := true) (e := 10) rfl rfl hg1 (v := .int .i64 (prefix_1.length : Int)) (ev_slen Try.underlying9 rfl) (by decide) ?_
   obtain ⟨hk8, hS⟩ := chk_some hS
   refine sr_evg (b := true) (e := 10) rfl rfl hg1 (v := str (cut s_0 0 (prefix_1.length : Int))) (ev_sslice_to Try.underlying9 rfl rfl hk8) (by decide) ?_
   refine sr_evg (b := true) (e := 10) rfl rfl hg1 (v := str prefix_1) (ev_move rfl) (by decide) ?_
   refine sr_evg (b := true) (e := 10) rfl rfl hg1 (v := .bool ((cut s_0 0 (prefix_1.length : Int)) == prefix_1)) (ev_seq rfl rfl) (by decide) ?_
   refine sr_ev (v := .bool ((cut s_0 0 (prefix_1.length : Int)) == prefix_1)) (ev_pick_t rfl hg1 rfl) (by decide) ?_
   exact sr_weaken (l' := [(17, .bool ((cut s_0 0 (prefix_1.length : Int)) == prefix_1))]) (.cons rfl (.nil _)) (K2 ((cut s_0 0 (prefix_1.length : Int)) == prefix_1) _ ⟨(Option.some.inj hS).symm, hj4⟩)
  ·have hS := ite_false' hz5 hg1
   refine sr_pass (e := 10) rfl rfl (by rw [hg1]; rfl) (by decide) ?_
   refine sr_pass (e := 10) rfl rfl (by rw [hg1]; rfl) (by decide) ?_
   refine sr_pass (e := 10) rfl rfl (by rw [hg1]; rfl) (by decide) ?_
   refine sr_pass (e := 10) rfl rfl (by rw [hg1]; rfl) (by decide) ?_
   refine sr_pass (e := 10) rfl rfl (by rw [hg1]; rfl) (by decide) ?_
   refine sr_pass (e := 10) rfl rfl (by rw [hg1]; rfl) (by decide) ?_
   refine sr_ev (v := .bool false) (ev_pick_f rfl hg1 rfl) (by decide) ?_
   exact sr_weaken (l' := [(17, .bool false)]) (.cons rfl (.nil _)) (K2 false _ ⟨(Option.some.inj hS).symm, hj4⟩)
theorem strings_HasPrefix_ok (w0 : World) (hg : Gs w0) {s_0 : Str} {prefix_1 : Str} {r : Bool} (hS : strings_HasPrefix s_0 prefix_1 = some r) :
  Calls Try.prog 75 #[str s_0, str prefix_1] w0 (Ret (fun v w' => v = .bool r ∧ Below w0.heap.size w0 w')) := by
 unfold strings_HasPrefix at hS
 have hb := Below.refl w0.heap.size w0
 refine calls_of_ke Try.func75 rfl (n := 8) rfl rfl (l := [(0, str s_0), (1, str prefix_1)]) rfl ?_
 refine ke_seq ?_
 refine ke_region ?_
 refine sr_ev (v := .bool false) (ev_assign rfl) (by decide) ?_
 refine sr_end (l' := [(0, str s_0), (1, str prefix_1)]) (.cons rfl (.cons rfl (.nil _))) ?_
 refine ke_seq ?_
 refine ke_region ?_
 refine sr_ev (v := str s_0) (ev_move rfl) (by decide) ?_
 refine sr_ev (v := str prefix_1) (ev_move rfl) (by decide) ?_
 obtain ⟨y1, hy2, hS⟩ := bind_some' hS
 refine sr_call (vs := [str s_0, str prefix_1]) rfl Try.call81 rfl (internal_stringslite_HasPrefix_ok _ (hg.below hb) hy2) (by decide) ?_
 rintro _ w3 ⟨rfl, hbw4⟩
 replace hb := hb.trans (hbw4.mono hb.size)
 refine sr_ev (v := .bool y1) (ev_assign rfl) (by decide) ?_
 refine sr_end (l' := [(4, .bool y1)]) (.cons rfl (.nil _)) ?_
 cases hS
 exact ke_ret1 Try.func75 rfl rfl ⟨_, rfl, rfl, hb⟩
theorem scope_Implies_ok (w0 : World) (hg : Gs w0) {a_0 : Str} {b_1 : Str} {r : Bool} (hS : scope_Implies a_0 b_1 = some r) :
  Calls Try.prog 58 #[str a_0, str b_1] w0 (Ret (fun v w' => v = .bool r ∧ Below w0.heap.size w0 w')) := by
 unfold scope_Implies at hS
 have hb := Below.refl w0.heap.size w0
 refine calls_of_ke Try.func58 rfl (n := 22) rfl rfl (l := [(0, str a_0), (1, str b_1)]) rfl ?_
 refine ke_seq ?_
 refine ke_region ?_
 refine sr_ev (v := .bool false) (ev_assign rfl) (by decide) ?_
 refine sr_end (l' := [(0, str a_0), (1, str b_1)]) (.cons rfl (.cons rfl (.nil _))) ?_
 refine ke_seq ?_
 refine ke_region ?_
 refine sr_ev (v := str a_0) (ev_move rfl) (by decide) ?_
 obtain ⟨y1, hy2, hS⟩ := bind_some' hS
 refine sr_call (vs := [str a_0]) rfl Try.call57 rfl (scope_valid_ok _ (hg.below hb) hy2) (by decide) ?_
 rintro _ w3 ⟨rfl, hbw4⟩
 replace hb := hb.trans (hbw4.mono hb.size)
 refine sr_ev (v := .bool y1) (ev_move rfl) (by decide) ?_
 obtain ⟨z7, hz9, hS⟩ := bind_some' hS
 refine sr_join (m := 3) (C := fun (x : Bool) w1 => z7 = x ∧ Below w3.heap.size w3 w1) (l' := fun x => [(0, str a_0), (1, str b_1), (10, .bool x)]) ?_ ?_
 ·rintro _ w10 ⟨rfl, hbw11⟩
  replace hb := hb.trans (hbw11.mono hb.size)
  refine sr_ev (v := .bool z7) (ev_move rfl) (by decide) ?_
  obtain ⟨z18, hz20, hS⟩ := bind_some' hS
  refine sr_join (m := 10) (C := fun (x : Bool) w1 => z18 = x ∧ Below w10.heap.size w10 w1) (l' := fun x => [(21, .bool x)]) ?_ ?_
  ·rintro _ w21 ⟨rfl, hbw22⟩
   replace hb := hb.trans (hbw22.mono hb.size)
   refine sr_ev (v := .bool z18) (ev_assign rfl) (by decide) ?_
   refine sr_end (l' := [(4, .bool z18)]) (.cons rfl (.nil _)) ?_
   cases hS
   exact ke_ret1 Try.func58 rfl rfl ⟨_, rfl, rfl, hb⟩
  ·intro K17
   clear hS
   have hj19 := Below.refl w10.heap.size w10
   rcases Bool.eq_false_or_eq_true z7 with hg16 | hg16
   ·have hS := ite_true' hz20 hg16
    refine sr_evg (b := true) (e := 11) rfl rfl hg16 (v := str a_0) (ev_move rfl) (by decide) ?_
    refine sr_evg (b := true) (e := 11) rfl rfl hg16 (v := str b_1) (ev_move rfl) (by decide) ?_
    refine sr_evg (b := true) (e := 11) rfl rfl hg16 (v := .bool (a_0 == b_1)) (ev_seq rfl rfl) (by decide) ?_
    refine sr_evg (b := true) (e := 11) rfl rfl hg16 (v := .bool (a_0 == b_1)) (ev_move rfl) (by decide) ?_
    obtain ⟨z25, hz27, hS⟩ := bind_some' hS
    refine sr_join (m := 5) (C := fun (x : Bool) w1 => z25 = x ∧ Below w10.heap.size w10 w1) (l' := fun x => [(11, .bool z7), (20, .bool x)]) ?_ ?_
    ·rintro _ w28 ⟨rfl, hbw29⟩
     replace hb := hb.trans (hbw29.mono hb.size)
     replace hj19 := hj19.trans (hbw29.mono hj19.size)
     refine sr_ev (v := .bool z25) (ev_pick_t rfl hg16 rfl) (by decide) ?_
     exact sr_weaken (l' := [(21, .bool z25)]) (.cons rfl (.nil _)) (K17 z25 _ ⟨(Option.some.inj hS).symm, hj19⟩)
    ·intro K24
     clear hS
     have hj26 := Below.refl w10.heap.size w10
     rcases Bool.eq_false_or_eq_true (a_0 == b_1) with hg23 | hg23
     ·have hS := ite_true' hz27 hg23
      refine sr_pass (e := 15) rfl rfl (by rw [hg23]; rfl) (by decide) ?_
      refine sr_pass (e := 15) rfl rfl (by rw [hg23]; rfl) (by decide) ?_
      refine sr_pass (e := 15) rfl rfl (by rw [hg23]; rfl) (by decide) ?_
      refine sr_pass (e := 15) rfl rfl (by rw [hg23]; rfl) (by decide) ?_
      refine sr_evg (b := true) (e := 11) rfl rfl hg16 (v := .bool true) (ev_pick_t rfl hg23 rfl) (by decide) ?_
      exact sr_weaken (l' := [(11, .bool z7), (20, .bool true)]) (.cons rfl (.cons rfl (.nil _))) (K24 true _ ⟨(Option.some.inj hS).symm, hj26⟩)
     ·have hS := ite_false' hz27 hg23
      refine sr_evg (b := false) (e := 15) rfl rfl hg23 (v := str b_1) (ev_move rfl) (by decide) ?_
      refine sr_evg (b := false) (e := 15) rfl rfl hg23 (v := str a_0) (ev_move rfl) (by decide) ?_
      obtain ⟨hk30, hS⟩ := chk_some hS
      refine sr_evg (b := false) (e := 15) rfl rfl hg23 (v := str (a_0 ++ ([46]))) (ev_cat rfl rfl hk30) (by decide) ?_
      obtain ⟨y31, hy32, hS⟩ := bind_some' hS
      refine sr_callg (b := false) (e := 15) rfl rfl hg23 (vs := [str b_1, str (a_0 ++ ([46]))]) rfl Try.call75 rfl (strings_HasPrefix_ok _ (hg.below hb) hy32) (by decide) ?_
      rintro _ w33 ⟨rfl, hbw34⟩
      replace hb := hb.trans (hbw34.mono hb.size)
      replace hj19 := hj19.trans (hbw34.mono hj19.size)
      replace hj26 := hj26.trans (hbw34.mono hj26.size)
      refine sr_evg (b := true) (e := 11) rfl rfl hg16 (v := .bool y31) (ev_pick_f rfl hg23 rfl) (by decide) ?_
      exact sr_weaken (l' := [(11, .bool z7), (20, .bool y31)]) (.cons rfl (.cons rfl (.nil _))) (K24 y31 _ ⟨(Option.some.inj hS).symm, hj26⟩)
   ·have hS := ite_false' hz20 hg16
    refine sr_pass (e := 11) rfl rfl (by rw [hg16]; rfl) (by decide) ?_
    refine sr_pass (e := 11) rfl rfl (by rw [hg16]; rfl) (by decide) ?_
    refine sr_pass (e := 11) rfl rfl (by rw [hg16]; rfl) (by decide) ?_
    refine sr_pass (e := 11) rfl rfl (by rw [hg16]; rfl) (by decide) ?_
    refine sr_pass_undef (e := 15) rfl rfl (by decide) ?_
    refine sr_pass_undef (e := 15) rfl rfl (by decide) ?_
    refine sr_pass_undef (e := 15) rfl rfl (by decide) ?_
    refine sr_pass_undef (e := 15) rfl rfl (by decide) ?_
    refine sr_pass (e := 11) rfl rfl (by rw [hg16]; rfl) (by decide) ?_
    refine sr_ev (v := .bool false) (ev_pick_f rfl hg16 rfl) (by decide) ?_
    exact sr_weaken (l' := [(21, .bool false)]) (.cons rfl (.nil _)) (K17 false _ ⟨(Option.some.inj hS).symm, hj19⟩)
 ·intro K6
  clear hS
  have hj8 := Below.refl w3.heap.size w3
  rcases Bool.eq_false_or_eq_true y1 with hg5 | hg5
  ·have hS := ite_true' hz9 hg5
   refine sr_evg (b := true) (e := 7) rfl rfl hg5 (v := str b_1) (ev_move rfl) (by decide) ?_
   obtain ⟨y12, hy13, hS⟩ := bind_some' hS
   refine sr_callg (b := true) (e := 7) rfl rfl hg5 (vs := [str b_1]) rfl Try.call57 rfl (scope_valid_ok _ (hg.below hb) hy13) (by decide) ?_
   rintro _ w14 ⟨rfl, hbw15⟩
   replace hb := hb.trans (hbw15.mono hb.size)
   replace hj8 := hj8.trans (hbw15.mono hj8.size)
   refine sr_ev (v := .bool y12) (ev_pick_t rfl hg5 rfl) (by decide) ?_
   exact sr_weaken (l' := [(0, str a_0), (1, str b_1), (10, .bool y12)]) (.cons rfl (.cons rfl (.cons rfl (.nil _)))) (K6 y12 _ ⟨(Option.some.inj hS).symm, hj8⟩)
  ·have hS := ite_false' hz9 hg5
   refine sr_pass (e := 7) rfl rfl (by rw [hg5]; rfl) (by decide) ?_
   refine sr_pass (e := 7) rfl rfl (by rw [hg5]; rfl) (by decide) ?_
   refine sr_ev (v := .bool false) (ev_pick_f rfl hg5 rfl) (by decide) ?_
   exact sr_weaken (l' := [(0, str a_0), (1, str b_1), (10, .bool false)]) (.cons rfl (.cons rfl (.cons rfl (.nil _)))) (K6 false _ ⟨(Option.some.inj hS).symm, hj8⟩)
theorem scope_covered_L1_ok {w0 : World} (hg : Gs w0) {A0 : Nat → Prop} (hA0 : ∀ b, A0 b → b < w0.heap.size) : ∀ (n : Nat), ∀ {r : Bool} {s_0 : Str} {t_7 : List Str} {t_8 : Int} {t_9 : Int} {vt_7 : Value}, scope_covered_L1 n s_0 t_7 t_8 t_9 = some r → ∀ {w : World} {A : Nat → Prop}, (Below w0.heap.size w0 w) → (∀ b, A b → b < w.heap.size) → (∀ b, A0 b → A b) → (Hp A w0.heap.size w []) → (SlR strC A w vt_7 t_7) → KE Try.prog 50 (Ret (fun v w' => v = .bool r ∧ Below w0.heap.size w0 w')) 17 [.code (sub (bodyOf Try.f50) [2, 1, 2, 2, 1]), .inLoop (sub (bodyOf Try.f50) [2, 1, 2, 2, 1]), .inBlock 0, .code (sub (bodyOf Try.f50) [2, 2])] [(0, str s_0), (7, vt_7), (8, .int .i64 t_8), (9, .int .i64 t_9)] w := by
 intro n
 induction n with
 | zero => intro r s_0 t_7 t_8 t_9 vt_7 hS; cases hS
 | succ n ih =>
  have hr0 : ∀ {r : Bool} {s_0 : Str} {t_7 : List Str} {t_8 : Int} {t_9 : Int} {vt_7 : Value}, scope_covered_L1 n s_0 t_7 t_8 t_9 = some r → ∀ {w : World} {A : Nat → Prop}, (Below w0.heap.size w0 w) → (∀ b, A b → b < w.heap.size) → (∀ b, A0 b → A b) → (Hp A w0.heap.size w []) → (SlR strC A w vt_7 t_7) → KE Try.prog 50 (Ret (fun v w' => v = .bool r ∧ Below w0.heap.size w0 w')) 17 [.inLoop (sub (bodyOf Try.f50) [2, 1, 2, 2, 1]), .inBlock 0, .code (sub (bodyOf Try.f50) [2, 2])] [(0, str s_0), (7, vt_7), (8, .int .i64 t_8), (9, .int .i64 t_9)] w := fun {r} {s_0} {t_7} {t_8} {t_9} {vt_7} hS {w} {A} hb hA hi hH ht_7 => ke_inLoop (ih hS hb hA hi hH ht_7)
  clear ih
  intro r s_0 t_7 t_8 t_9 vt_7 hS w A hb hA hi hH ht_7
  unfold scope_covered_L1 at hS
  refine ke_seq ?_
  refine ke_region ?_
  refine sr_ev (v := .bool (decide (t_9 < t_8))) (ev_lt rfl rfl) (by decide) ?_
  refine sr_end (l' := [(0, str s_0), (7, vt_7), (8, .int .i64 t_8), (9, .int .i64 t_9), (10, .bool (decide (t_9 < t_8)))]) (.cons rfl (.cons rfl (.cons rfl (.cons rfl (.cons rfl (.nil _)))))) ?_
  refine ke_seq ?_
  refine ke_cond (t := decide (t_9 < t_8)) rfl (fun hc3 => ?_) (fun hc3 => ?_)
  ·replace hS := ite_true' hS hc3
   refine ke_skip ?_
   refine ke_seq ?_
   refine ke_block ?_
   refine ke_seq ?_
   refine ke_region ?_
   obtain ⟨y4, hy5, hS⟩ := bind_some' hS
   refine sr_index ht_7 Try.underlying23 Try.info9 rfl rfl rfl hy5 (by decide) ?_
   intro b6 o7 cs9 he8
   obtain rfl : cs9 = [str y4] := he8.rd
   refine sr_ev (v := str y4) (ev_load Try.isAgg9 rfl (he8.cell 0 _ rfl)) (by decide) ?_
   refine sr_ev (v := str y4) (ev_assign rfl) (by decide) ?_
   refine sr_end (l' := [(0, str s_0), (6, str y4), (7, vt_7), (8, .int .i64 t_8), (9, .int .i64 t_9)]) (.cons rfl (.cons rfl (.cons rfl (.cons rfl (.cons rfl (.nil _)))))) ?_
   refine ke_seq ?_
   refine ke_region ?_
   refine sr_ev (v := str y4) (ev_move rfl) (by decide) ?_
   refine sr_ev (v := str s_0) (ev_move rfl) (by decide) ?_
   obtain ⟨y10, hy11, hS⟩ := bind_some' hS
   refine sr_call (vs := [str y4, str s_0]) rfl Try.call58 rfl (scope_Implies_ok _ (hg.below hb) hy11) (by decide) ?_
   rintro _ w12 ⟨rfl, hbw13⟩
   replace hb := hb.trans (hbw13.mono hb.size)
   replace hA := lt_mono hA hbw13.size
   replace hH := hH.below hbw13
   replace ht_7 := ht_7.below hbw13
   refine sr_end (l' := [(0, str s_0), (7, vt_7), (8, .int .i64 t_8), (9, .int .i64 t_9), (15, .bool y10)]) (.cons rfl (.cons rfl (.cons rfl (.cons rfl (.cons rfl (.nil _)))))) ?_
   refine ke_cond (t := y10) rfl (fun hc14 => ?_) (fun hc14 => ?_)
   ·replace hS := ite_true' hS hc14
    refine ke_seq ?_
    refine ke_region ?_
    refine sr_ev (v := .bool true) (ev_assign rfl) (by decide) ?_
    refine sr_end (l' := [(4, .bool true)]) (.cons rfl (.nil _)) ?_
    cases hS
    exact ke_ret1 Try.func50 rfl rfl ⟨_, rfl, rfl, hb⟩
   ·replace hS := ite_false' hS hc14
    refine ke_skip ?_
    refine ke_inBlock ?_
    refine ke_region ?_
    refine sr_ev (v := .int .i64 (IntKind.i64.wrap (t_9 + 1))) (ev_add rfl rfl) (by decide) ?_
    refine sr_ev (v := .int .i64 (IntKind.i64.wrap (t_9 + 1))) (ev_move rfl) (by decide) ?_
    refine sr_end (l' := [(0, str s_0), (7, vt_7), (8, .int .i64 t_8), (9, .int .i64 (IntKind.i64.wrap (t_9 + 1)))]) (.cons rfl (.cons rfl (.cons rfl (.cons rfl (.nil _))))) ?_
    have hK := hr0 hS hb hA hi hH ht_7
    exact ke_weaken (l' := [(0, str s_0), (7, vt_7), (8, .int .i64 t_8), (9, .int .i64 (IntKind.i64.wrap (t_9 + 1)))]) (.cons rfl (.cons rfl (.cons rfl (.cons rfl (.nil _))))) hK
  ·replace hS := ite_false' hS hc3
   refine ke_exit (k' := _) rfl ?_
   refine ke_seq ?_
   refine ke_region ?_
   refine sr_ev (v := .bool false) (ev_assign rfl) (by decide) ?_
   refine sr_end (l' := [(4, .bool false)]) (.cons rfl (.nil _)) ?_
   cases hS
   exact ke_ret1 Try.func50 rfl rfl ⟨_, rfl, rfl, hb⟩
theorem scope_covered_ok {A0 : Nat → Prop} (w0 : World) (hg : Gs w0) {s_0 : Str} {l_1 : List Str} {v1 : Value} {r : Bool} (h2 : SlR strC A0 w0 v1 l_1) (hS : scope_covered s_0 l_1 = some r) :
  Calls Try.prog 50 #[str s_0, v1] w0 (Ret (fun v w' => v = .bool r ∧ Below w0.heap.size w0 w')) := by
 unfold scope_covered at hS
 have hb := Below.refl w0.heap.size w0
 replace h2 := h2.weak (A' := fun _ => False) (fun _ h => h.elim)
 obtain ⟨A0, hA0, hAe⟩ : ∃ A0 : Nat → Prop, (∀ b, A0 b → b < w0.heap.size) ∧ A0 = fun _ => False := ⟨_, fun _ h => h.elim, rfl⟩
 rw [← hAe] at h2
 clear hAe
 have hA := hA0
 have hi : ∀ b, A0 b → A0 b := fun _ h => h
 have hH := Hp.nil A0 w0.heap.size w0
 refine calls_of_ke Try.func50 rfl (n := 17) rfl rfl (l := [(0, str s_0), (1, v1)]) rfl ?_
 refine ke_seq ?_
 refine ke_region ?_
 refine sr_ev (v := .bool false) (ev_assign rfl) (by decide) ?_
 refine sr_end (l' := [(0, str s_0), (1, v1)]) (.cons rfl (.cons rfl (.nil _))) ?_
 refine ke_seq ?_
 refine ke_seq ?_
 refine ke_region ?_
 refine sr_ev (v := v1) (ev_move rfl) (by decide) ?_
 refine sr_ev (v := .int .i64 (l_1.length : Int)) (ev_sllen Try.underlying23 rfl h2) (by decide) ?_
 refine sr_ev (v := .int .i64 0) (ev_move rfl) (by decide) ?_
 refine sr_end (l' := [(0, str s_0), (7, v1), (8, .int .i64 (l_1.length : Int)), (9, .int .i64 0)]) (.cons rfl (.cons rfl (.cons rfl (.cons rfl (.nil _))))) ?_
 refine ke_block ?_
 have hK := scope_covered_L1_ok hg hA0 _ hS hb hA hi hH h2
 exact ke_weaken (l' := [(0, str s_0), (7, v1), (8, .int .i64 (l_1.length : Int)), (9, .int .i64 0)]) (.cons rfl (.cons rfl (.cons rfl (.cons rfl (.nil _))))) (ke_loop hK)
theorem scope_Within_L1_ok {w0 : World} (hg : Gs w0) {A0 : Nat → Prop} (hA0 : ∀ b, A0 b → b < w0.heap.size) : ∀ (n : Nat), ∀ {r : Bool} {b_1 : List Str} {t_7 : List Str} {t_8 : Int} {t_9 : Int} {vb_1 : Value} {vt_7 : Value}, scope_Within_L1 n b_1 t_7 t_8 t_9 = some r → ∀ {w : World} {A : Nat → Prop}, (Below w0.heap.size w0 w) → (∀ b, A b → b < w.heap.size) → (∀ b, A0 b → A b) → (Hp A w0.heap.size w []) → (SlR strC A w vb_1 b_1) → (SlR strC A w vt_7 t_7) → KE Try.prog 25 (Ret (fun v w' => v = .bool r ∧ Below w0.heap.size w0 w')) 18 [.code (sub (bodyOf Try.f25) [2, 1, 2, 2, 1]), .inLoop (sub (bodyOf Try.f25) [2, 1, 2, 2, 1]), .inBlock 0, .code (sub (bodyOf Try.f25) [2, 2])] [(1, vb_1), (7, vt_7), (8, .int .i64 t_8), (9, .int .i64 t_9)] w := by
 intro n
 induction n with
 | zero => intro r b_1 t_7 t_8 t_9 vb_1 vt_7 hS; cases hS
 | succ n ih =>
  have hr0 : ∀ {r : Bool} {b_1 : List Str} {t_7 : List Str} {t_8 : Int} {t_9 : Int} {vb_1 : Value} {vt_7 : Value}, scope_Within_L1 n b_1 t_7 t_8 t_9 = some r → ∀ {w : World} {A : Nat → Prop}, (Below w0.heap.size w0 w) → (∀ b, A b → b < w.heap.size) → (∀ b, A0 b → A b) → (Hp A w0.heap.size w []) → (SlR strC A w vb_1 b_1) → (SlR strC A w vt_7 t_7) → KE Try.prog 25 (Ret (fun v w' => v = .bool r ∧ Below w0.heap.size w0 w')) 18 [.inLoop (sub (bodyOf Try.f25) [2, 1, 2, 2, 1]), .inBlock 0, .code (sub (bodyOf Try.f25) [2, 2])] [(1, vb_1), (7, vt_7), (8, .int .i64 t_8), (9, .int .i64 t_9)] w := fun {r} {b_1} {t_7} {t_8} {t_9} {vb_1} {vt_7} hS {w} {A} hb hA hi hH hb_1 ht_7 => ke_inLoop (ih hS hb hA hi hH hb_1 ht_7)
  clear ih
  intro r b_1 t_7 t_8 t_9 vb_1 vt_7 hS w A hb hA hi hH hb_1 ht_7
  unfold scope_Within_L1 at hS
  refine ke_seq ?_
  refine ke_region ?_
  refine sr_ev (v := .bool (decide (t_9 < t_8))) (ev_lt rfl rfl) (by decide) ?_
  refine sr_end (l' := [(1, vb_1), (7, vt_7), (8, .int .i64 t_8), (9, .int .i64 t_9), (10, .bool (decide (t_9 < t_8)))]) (.cons rfl (.cons rfl (.cons rfl (.cons rfl (.cons rfl (.nil _)))))) ?_
  refine ke_seq ?_
  refine ke_cond (t := decide (t_9 < t_8)) rfl (fun hc5 => ?_) (fun hc5 => ?_)
  ·replace hS := ite_true' hS hc5
   refine ke_skip ?_
   refine ke_seq ?_
   refine ke_block ?_
   refine ke_seq ?_
   refine ke_region ?_
   obtain ⟨y6, hy7, hS⟩ := bind_some' hS
   refine sr_index ht_7 Try.underlying23 Try.info9 rfl rfl rfl hy7 (by decide) ?_
   intro b8 o9 cs11 he10
   obtain rfl : cs11 = [str y6] := he10.rd
   refine sr_ev (v := str y6) (ev_load Try.isAgg9 rfl (he10.cell 0 _ rfl)) (by decide) ?_
   refine sr_ev (v := str y6) (ev_assign rfl) (by decide) ?_
   refine sr_end (l' := [(1, vb_1), (6, str y6), (7, vt_7), (8, .int .i64 t_8), (9, .int .i64 t_9)]) (.cons rfl (.cons rfl (.cons rfl (.cons rfl (.cons rfl (.nil _)))))) ?_
   refine ke_seq ?_
   refine ke_region ?_
   refine sr_ev (v := str y6) (ev_move rfl) (by decide) ?_
   refine sr_ev (v := vb_1) (ev_move rfl) (by decide) ?_
   obtain ⟨y12, hy13, hS⟩ := bind_some' hS
   refine sr_call (vs := [str y6, vb_1]) rfl Try.call50 rfl (scope_covered_ok _ (hg.below hb) hb_1 hy13) (by decide) ?_
   rintro _ w14 ⟨rfl, hbw15⟩
   replace hb := hb.trans (hbw15.mono hb.size)
   replace hA := lt_mono hA hbw15.size
   replace hH := hH.below hbw15
   replace hb_1 := hb_1.below hbw15
   replace ht_7 := ht_7.below hbw15
   refine sr_ev (v := .bool (!y12)) (ev_not rfl) (by decide) ?_
   refine sr_end (l' := [(1, vb_1), (7, vt_7), (8, .int .i64 t_8), (9, .int .i64 t_9), (16, .bool (!y12))]) (.cons rfl (.cons rfl (.cons rfl (.cons rfl (.cons rfl (.nil _)))))) ?_
   refine ke_cond (t := !y12) rfl (fun hc16 => ?_) (fun hc16 => ?_)
   ·replace hS := ite_true' hS hc16
    refine ke_seq ?_
    refine ke_region ?_
    refine sr_ev (v := .bool false) (ev_assign rfl) (by decide) ?_
    refine sr_end (l' := [(4, .bool false)]) (.cons rfl (.nil _)) ?_
    cases hS
    exact ke_ret1 Try.func25 rfl rfl ⟨_, rfl, rfl, hb⟩
   ·replace hS := ite_false' hS hc16
    refine ke_skip ?_
    refine ke_inBlock ?_
    refine ke_region ?_
    refine sr_ev (v := .int .i64 (IntKind.i64.wrap (t_9 + 1))) (ev_add rfl rfl) (by decide) ?_
    refine sr_ev (v := .int .i64 (IntKind.i64.wrap (t_9 + 1))) (ev_move rfl) (by decide) ?_
    refine sr_end (l' := [(1, vb_1), (7, vt_7), (8, .int .i64 t_8), (9, .int .i64 (IntKind.i64.wrap (t_9 + 1)))]) (.cons rfl (.cons rfl (.cons rfl (.cons rfl (.nil _))))) ?_
    have hK := hr0 hS hb hA hi hH hb_1 ht_7
    exact ke_weaken (l' := [(1, vb_1), (7, vt_7), (8, .int .i64 t_8), (9, .int .i64 (IntKind.i64.wrap (t_9 + 1)))]) (.cons rfl (.cons rfl (.cons rfl (.cons rfl (.nil _))))) hK
  ·replace hS := ite_false' hS hc5
   refine ke_exit (k' := _) rfl ?_
   refine ke_seq ?_
   refine ke_region ?_
   refine sr_ev (v := .bool true) (ev_assign rfl) (by decide) ?_
   refine sr_end (l' := [(4, .bool true)]) (.cons rfl (.nil _)) ?_
   cases hS
   exact ke_ret1 Try.func25 rfl rfl ⟨_, rfl, rfl, hb⟩
theorem scope_Within_ok {A0 : Nat → Prop} (w0 : World) (hg : Gs w0) {a_0 : List Str} {b_1 : List Str} {v1 : Value} {v3 : Value} {r : Bool} (h2 : SlR strC A0 w0 v1 a_0) (h4 : SlR strC A0 w0 v3 b_1) (hS : scope_Within a_0 b_1 = some r) :
  Calls Try.prog 25 #[v1, v3] w0 (Ret (fun v w' => v = .bool r ∧ Below w0.heap.size w0 w')) := by
 unfold scope_Within at hS
 have hb := Below.refl w0.heap.size w0
 replace h2 := h2.weak (A' := fun _ => False) (fun _ h => h.elim)
 replace h4 := h4.weak (A' := fun _ => False) (fun _ h => h.elim)
 obtain ⟨A0, hA0, hAe⟩ : ∃ A0 : Nat → Prop, (∀ b, A0 b → b < w0.heap.size) ∧ A0 = fun _ => False := ⟨_, fun _ h => h.elim, rfl⟩
 rw [← hAe] at h2
 rw [← hAe] at h4
 clear hAe
 have hA := hA0
 have hi : ∀ b, A0 b → A0 b := fun _ h => h
 have hH := Hp.nil A0 w0.heap.size w0
 refine calls_of_ke Try.func25 rfl (n := 18) rfl rfl (l := [(0, v1), (1, v3)]) rfl ?_
 refine ke_seq ?_
 refine ke_region ?_
 refine sr_ev (v := .bool false) (ev_assign rfl) (by decide) ?_
 refine sr_end (l' := [(0, v1), (1, v3)]) (.cons rfl (.cons rfl (.nil _))) ?_
 refine ke_seq ?_
 refine ke_seq ?_
 refine ke_region ?_
 refine sr_ev (v := v1) (ev_move rfl) (by decide) ?_
 refine sr_ev (v := .int .i64 (a_0.length : Int)) (ev_sllen Try.underlying23 rfl h2) (by decide) ?_
 refine sr_ev (v := .int .i64 0) (ev_move rfl) (by decide) ?_
 refine sr_end (l' := [(1, v3), (7, v1), (8, .int .i64 (a_0.length : Int)), (9, .int .i64 0)]) (.cons rfl (.cons rfl (.cons rfl (.cons rfl (.nil _))))) ?_
 refine ke_block ?_
 have hK := scope_Within_L1_ok hg hA0 _ hS hb hA hi hH h4 h2
 exact ke_weaken (l' := [(1, v3), (7, v1), (8, .int .i64 (a_0.length : Int)), (9, .int .i64 0)]) (.cons rfl (.cons rfl (.cons rfl (.cons rfl (.nil _))))) (ke_loop hK)
theorem delegate_Delegations_May_ok (w0 : World) (hg : Gs w0) {ρA : Tags} (hbd : ∀ b, ρA b ≠ 0 → b < w0.heap.size) (hz : Gz ρA) {τ0 : Nat → Nat} (hτ0 : ∀ p, 1 ≤ τ0 p) {d_0 : delegate_Delegations} {from_1 : Str} {to_2 : Str} {scopes_3 : List Str} {now_4 : Int} {v4 : Value} {gd_0 : Nat} {r : Int} (h5 : SlR strC (Wb ρA) w0 v4 scopes_3) (ho0 : delegate_Delegations.O τ0 ρA w0 gd_0 d_0) (hS : delegate_Delegations_May d_0 from_1 to_2 scopes_3 now_4 = some r) :
  Calls Try.prog 26 #[.pointer (some ⟨gd_0, 0, none⟩), str from_1, str to_2, v4, .int .i64 now_4] w0 (Ret (fun v w' => v = .int .i64 r ∧ Below w0.heap.size w0 w')) := by
 unfold delegate_Delegations_May at hS
 have hb := flat1_fr (ρ := ρA) (w := w0) hbd
 have hz := hz.flat1
 replace h5 := SlR.mv h5 flat1_rd
 obtain ⟨v1, hB3, h2⟩ := ho0
 replace hB3 := hB3.mv (flat1_mv (hτ0 0))
 replace h2 := h2.mv (flat1_mv (hτ0 1))
 replace hB3 : Blk (flat1 ρA) 1 w0 gd_0 (.cells #[v1] 54 (0, 0)) := hB3
 replace h2 : MapT delegate_way.ek delegate_delegation.c true (flat1 ρA) 1 w0 v1 d_0.ways := h2
 refine calls_of_ke Try.func26 rfl (n := 42) rfl rfl (l := [(0, .pointer (some ⟨gd_0, 0, none⟩)), (1, str from_1), (2, str to_2), (3, v4), (4, .int .i64 now_4)]) rfl ?_
 refine ke_seq ?_
 refine ke_region ?_
 refine sr_ev (v := .int .i64 0) (ev_assign rfl) (by decide) ?_
 refine sr_end (l' := [(0, .pointer (some ⟨gd_0, 0, none⟩)), (1, str from_1), (2, str to_2), (3, v4), (4, .int .i64 now_4)]) (.cons rfl (.cons rfl (.cons rfl (.cons rfl (.cons rfl (.nil _)))))) ?_
 refine ke_seq ?_
 refine ke_seq ?_
 refine ke_region ?_
 refine sr_ev (v := .pointer (some ⟨gd_0, 0, none⟩)) (ev_move rfl) (by decide) ?_
 obtain ⟨y6, hy7, hS⟩ := bind_some' hS
 refine sr_call (vs := [.pointer (some ⟨gd_0, 0, none⟩)]) rfl Try.call38 rfl (delegate_Delegations_made_ok _ (hg.fr hz hb) (ρA := (flat1 ρA)) hb.bd (hz.fr hg hb) (τ0 := (fun _ => 1)) (fun _ => Nat.le_refl 1) (⟨_, hB3, h2⟩ : delegate_Delegations.O (fun _ => 1) (flat1 ρA) w0 gd_0 d_0) hy7) (by decide) ?_
 rintro _ w8 ⟨rfl, hbw9⟩
 have htr10 := Tr.of_below hbw9 hb.bd
 replace h5 := h5.mv htr10.rd
 replace hB3 := hB3.mv (htr10.mv (i := 1) rfl)
 replace h2 := h2.mv (htr10.mv (i := 1) rfl)
 replace hb := hb.trans htr10
 refine sr_ev (v := .bool (!y6)) (ev_not rfl) (by decide) ?_
 refine sr_end (l' := [(0, .pointer (some ⟨gd_0, 0, none⟩)), (1, str from_1), (2, str to_2), (3, v4), (4, .int .i64 now_4), (16, .bool (!y6))]) (.cons rfl (.cons rfl (.cons rfl (.cons rfl (.cons rfl (.cons rfl (.nil _))))))) ?_
 refine ke_cond (t := !y6) rfl (fun hc11 => ?_) (fun hc11 => ?_)
 ·replace hS := ite_true' hS hc11
  refine ke_seq ?_
  refine ke_region ?_
  refine sr_ev (v := .int .i64 1) (ev_assign rfl) (by decide) ?_
  refine sr_end (l' := [(10, .int .i64 1)]) (.cons rfl (.nil _)) ?_
  cases hS
  exact ke_ret1 Try.func26 rfl rfl ⟨_, rfl, rfl, (hb.below (flat1_le _))⟩
 ·replace hS := ite_false' hS hc11
  refine ke_skip ?_
  refine ke_seq ?_
  refine ke_region ?_
  refine sr_ev (v := .pointer (some ⟨gd_0, 0, none⟩)) (ev_move rfl) (by decide) ?_
  refine sr_ev (v := .pointer (some ⟨gd_0, 0, none⟩)) (ev_nilCheck rfl) (by decide) ?_
  refine sr_ev (v := .pointer (some ⟨gd_0, 0, none⟩)) (ev_fieldAddr (i := 0) Try.underlying54 rfl Try.info52 rfl rfl) (by decide) ?_
  refine sr_ev (v := v1) (ev_load Try.isAgg52 rfl (hB3.cell rfl)) (by decide) ?_
  refine sr_ev (v := str from_1) (ev_move rfl) (by decide) ?_
  refine sr_ev (v := str to_2) (ev_move rfl) (by decide) ?_
  refine sr_ev (v := .agg #[str from_1, str to_2]) (ev_build (vs := #[(0, str from_1), (1, str to_2)]) rfl (fun _ => by kernel_rfl)) (by decide) ?_
  obtain ⟨y16, hy17, hS⟩ := bind_some' hS
  replace hy17 := Option.some.inj hy17
  obtain ⟨cs12, hrd13, hl14, hl15⟩ := h2.look (zcs := [(.slice none 0 0), .int .i64 0, .int .i64 0]) (z := (delegate_delegation.mk ([] : List Str) (api_Window.mk 0 0))) Try.keyB63 Try.underlying52 Try.zeroValue61 ⟨_, rfl, SlR.nil⟩ (delegate_way.mk from_1 to_2)
  rw [hy17] at hrd13
  obtain ⟨v18, hcshrd13, h19⟩ := hrd13
  obtain rfl : cs12 = [v18, .int .i64 y16.window.From, .int .i64 y16.window.Until] := hcshrd13
  refine sr_ev (v := .tuple #[.agg #[v18, .int .i64 y16.window.From, .int .i64 y16.window.Until], .bool (mhas d_0.ways (delegate_way.mk from_1 to_2))]) (hl15 w8 _ _ (Mv.of_below (i := 1) (ρ := (flat1 ρA)) (Below.refl _ _)) rfl rfl) (by decide) ?_
  refine sr_ev (v := .tuple #[.agg #[v18, .int .i64 y16.window.From, .int .i64 y16.window.Until], .bool (mhas d_0.ways (delegate_way.mk from_1 to_2))]) (ev_move rfl) (by decide) ?_
  refine sr_ev (v := .agg #[v18, .int .i64 y16.window.From, .int .i64 y16.window.Until]) (ev_extract rfl rfl) (by decide) ?_
  refine sr_ev (v := .bool (mhas d_0.ways (delegate_way.mk from_1 to_2))) (ev_extract rfl rfl) (by decide) ?_
  refine sr_allocT 13 (by decide) hb.bd Try.zeroValue61 (by decide) ?_
  intro g20 ρ21 w22 hB24 htr23
  replace h5 := h5.mv htr23.rd
  replace h19 := h19.mv htr23.rd
  replace hb := hb.trans htr23
  replace hB24 : Blk ρ21 13 w22 g20 (.cells #[(.slice none 0 0), .int .i64 0, .int .i64 0] 61 (0, 0)) := hB24
  refine sr_storeT (v := .agg #[v18, .int .i64 y16.window.From, .int .i64 y16.window.Until]) (vs := [v18, .int .i64 y16.window.From, .int .i64 y16.window.Until]) (cs' := #[v18, .int .i64 y16.window.From, .int .i64 y16.window.Until]) hB24 (by decide) hb.bd rfl rfl rfl Try.sizeOf61 rfl (by first | rfl | (simp only [List.all_cons, List.all_nil, SlR.oneCell h19]; done) | (simp only [List.all_cons, List.all_nil, SlR.oneCell h19]; rfl)) rfl ?_
  intro w25 hB241 htr26
  replace h5 := h5.mv htr26.rd
  replace h19 := h19.mv htr26.rd
  replace hb := hb.trans htr26
  replace hB24 : Blk ρ21 13 w25 g20 (.cells #[v18, .int .i64 y16.window.From, .int .i64 y16.window.Until] 61 (0, 0)) := hB241
  clear hB241
  refine sr_ev (v := .bool (mhas d_0.ways (delegate_way.mk from_1 to_2))) (ev_assign rfl) (by decide) ?_
  refine sr_end (l' := [(3, v4), (4, .int .i64 now_4), (11, .pointer (some ⟨g20, 0, none⟩)), (12, .bool (mhas d_0.ways (delegate_way.mk from_1 to_2)))]) (.cons rfl (.cons rfl (.cons rfl (.cons rfl (.nil _))))) ?_
  refine ke_seq ?_
  refine ke_seq ?_
  refine ke_region ?_
  refine sr_ev (v := .bool (mhas d_0.ways (delegate_way.mk from_1 to_2))) (ev_move rfl) (by decide) ?_
  refine sr_ev (v := .bool (!(mhas d_0.ways (delegate_way.mk from_1 to_2)))) (ev_not rfl) (by decide) ?_
  refine sr_end (l' := [(3, v4), (4, .int .i64 now_4), (11, .pointer (some ⟨g20, 0, none⟩)), (29, .bool (!(mhas d_0.ways (delegate_way.mk from_1 to_2))))]) (.cons rfl (.cons rfl (.cons rfl (.cons rfl (.nil _))))) ?_
  refine ke_cond (t := !(mhas d_0.ways (delegate_way.mk from_1 to_2))) rfl (fun hc27 => ?_) (fun hc27 => ?_)
  ·replace hS := ite_true' hS hc27
   refine ke_seq ?_
   refine ke_region ?_
   refine sr_ev (v := .int .i64 11) (ev_assign rfl) (by decide) ?_
   refine sr_end (l' := [(10, .int .i64 11)]) (.cons rfl (.nil _)) ?_
   cases hS
   exact ke_ret1 Try.func26 rfl rfl ⟨_, rfl, rfl, (hb.below (flat1_le _))⟩
  ·replace hS := ite_false' hS hc27
   refine ke_skip ?_
   refine ke_seq ?_
   refine ke_seq ?_
   refine ke_region ?_
   refine sr_ev (v := .pointer (some ⟨g20, 1, none⟩)) (ev_fieldAddr (i := 1) Try.underlying61 rfl Try.info33 rfl rfl) (by decide) ?_
   refine sr_ev (v := .agg #[.int .i64 y16.window.From, .int .i64 y16.window.Until]) (ev_loads (cs := [.int .i64 y16.window.From, .int .i64 y16.window.Until]) Try.isAgg33 Try.sizeOf33 rfl (hB24.cells (vs := [.int .i64 y16.window.From, .int .i64 y16.window.Until]) rfl)) (by decide) ?_
   refine sr_ev (v := .int .i64 now_4) (ev_move rfl) (by decide) ?_
   obtain ⟨y28, hy29, hS⟩ := bind_some' hS
   refine sr_call (vs := [.agg #[.int .i64 y16.window.From, .int .i64 y16.window.Until], .int .i64 now_4, .int .i64 0]) rfl Try.call51 rfl (clock_Check_ok _ (hg.fr hz hb) hy29) (by decide) ?_
   rintro _ w30 ⟨rfl, hbw31⟩
   have htr32 := Tr.of_below hbw31 hb.bd
   replace h5 := h5.mv htr32.rd
   replace hB24 := hB24.mv (htr32.mv (i := 13) rfl)
   replace h19 := h19.mv htr32.rd
   replace hb := hb.trans htr32
   refine sr_ev (v := .int .i64 y28) (ev_assign rfl) (by decide) ?_
   refine sr_end (l' := [(3, v4), (11, .pointer (some ⟨g20, 0, none⟩)), (13, .int .i64 y28)]) (.cons rfl (.cons rfl (.cons rfl (.nil _)))) ?_
   refine ke_seq ?_
   refine ke_region ?_
   refine sr_ev (v := .int .i64 y28) (ev_move rfl) (by decide) ?_
   refine sr_ev (v := .bool (y28 != 0)) (ev_ne rfl rfl) (by decide) ?_
   refine sr_end (l' := [(3, v4), (11, .pointer (some ⟨g20, 0, none⟩)), (13, .int .i64 y28), (35, .bool (y28 != 0))]) (.cons rfl (.cons rfl (.cons rfl (.cons rfl (.nil _))))) ?_
   refine ke_cond (t := y28 != 0) rfl (fun hc33 => ?_) (fun hc33 => ?_)
   ·replace hS := ite_true' hS hc33
    refine ke_seq ?_
    refine ke_region ?_
    refine sr_ev (v := .int .i64 y28) (ev_move rfl) (by decide) ?_
    refine sr_ev (v := .int .i64 y28) (ev_assign rfl) (by decide) ?_
    refine sr_end (l' := [(10, .int .i64 y28)]) (.cons rfl (.nil _)) ?_
    cases hS
    exact ke_ret1 Try.func26 rfl rfl ⟨_, rfl, rfl, (hb.below (flat1_le _))⟩
   ·replace hS := ite_false' hS hc33
    refine ke_skip ?_
    refine ke_seq ?_
    refine ke_seq ?_
    refine ke_region ?_
    refine sr_ev (v := v4) (ev_move rfl) (by decide) ?_
    refine sr_ev (v := .pointer (some ⟨g20, 0, none⟩)) (ev_fieldAddr (i := 0) Try.underlying61 rfl Try.info23 rfl rfl) (by decide) ?_
    refine sr_ev (v := v18) (ev_load Try.isAgg23 rfl (hB24.cell rfl)) (by decide) ?_
    obtain ⟨y34, hy35, hS⟩ := bind_some' hS
    refine sr_call (vs := [v4, v18]) rfl Try.call25 rfl (scope_Within_ok _ (hg.fr hz hb) h5.asSl h19.asSl hy35) (by decide) ?_
    rintro _ w36 ⟨rfl, hbw37⟩
    have htr38 := Tr.of_below hbw37 hb.bd
    replace hb := hb.trans htr38
    refine sr_ev (v := .bool (!y34)) (ev_not rfl) (by decide) ?_
    refine sr_end (l' := [(41, .bool (!y34))]) (.cons rfl (.nil _)) ?_
    refine ke_cond (t := !y34) rfl (fun hc39 => ?_) (fun hc39 => ?_)
    ·replace hS := ite_true' hS hc39
     refine ke_seq ?_
     refine ke_region ?_
     refine sr_ev (v := .int .i64 19) (ev_assign rfl) (by decide) ?_
     refine sr_end (l' := [(10, .int .i64 19)]) (.cons rfl (.nil _)) ?_
     cases hS
     exact ke_ret1 Try.func26 rfl rfl ⟨_, rfl, rfl, (hb.below (flat1_le _))⟩
    ·replace hS := ite_false' hS hc39
     refine ke_skip ?_
     refine ke_seq ?_
     refine ke_region ?_
     refine sr_ev (v := .int .i64 0) (ev_assign rfl) (by decide) ?_
     refine sr_end (l' := [(10, .int .i64 0)]) (.cons rfl (.nil _)) ?_
     cases hS
     exact ke_ret1 Try.func26 rfl rfl ⟨_, rfl, rfl, (hb.below (flat1_le _))⟩
theorem delegate_Delegations_Chain_L2_ok {w0 : World} (hg : Gs w0) {ρA : Tags} (hbd : ∀ b, ρA b ≠ 0 → b < w0.heap.size) (hz : Gz (flat1 ρA)) (r0 : delegate_Delegations → List Str → List Str → Int → List Str → Int → Int → Option (Int))
  (hr0 : ∀ {r : Int} {od_0 : delegate_Delegations} {users_1 : List Str} {scopes_2 : List Str} {now_3 : Int} {t_19 : List Str} {t_20 : Int} {t_21 : Int} {gd_0 : Nat} {vusers_1 : Value} {vscopes_2 : Value} {vt_19 : Value}, r0 od_0 users_1 scopes_2 now_3 t_19 t_20 t_21 = some r → ∀ {ρ : Tags} {w : World}, (Fr (flat1 ρA) w0 ρ w) → (delegate_Delegations.O (fun _ => 1) ρ w gd_0 od_0) → (SlR strC (Wb ρ) w vusers_1 users_1) → (SlR strC (Wb ρ) w vscopes_2 scopes_2) → (SlR strC (Wb ρ) w vt_19 t_19) → KE Try.prog 18 (Ret (fun v w' => v = .int .i64 r ∧ Below w0.heap.size w0 w')) 54 [.inLoop (sub (bodyOf Try.f18) [2, 2, 2, 1, 2, 2, 1]), .inBlock 0, .code (sub (bodyOf Try.f18) [2, 2, 2, 2])] [(0, .pointer (some ⟨gd_0, 0, none⟩)), (1, vusers_1), (2, vscopes_2), (3, .int .i64 now_3), (19, vt_19), (20, .int .i64 t_20), (21, .int .i64 t_21)] w) : ∀ (n : Nat), ∀ {r : Int} {od_0 : delegate_Delegations} {users_1 : List Str} {scopes_2 : List Str} {now_3 : Int} {i_11 : Int} {gd_0 : Nat} {vusers_1 : Value} {vscopes_2 : Value}, delegate_Delegations_Chain_L2 r0 n od_0 users_1 scopes_2 now_3 i_11 = some r → ∀ {ρ : Tags} {w : World}, (Fr (flat1 ρA) w0 ρ w) → (delegate_Delegations.O (fun _ => 1) ρ w gd_0 od_0) → (SlR strC (Wb ρ) w vusers_1 users_1) → (SlR strC (Wb ρ) w vscopes_2 scopes_2) → KE Try.prog 18 (Ret (fun v w' => v = .int .i64 r ∧ Below w0.heap.size w0 w')) 54 [.code (sub (bodyOf Try.f18) [2, 2, 2, 2, 1, 2, 2, 1]), .inLoop (sub (bodyOf Try.f18) [2, 2, 2, 2, 1, 2, 2, 1]), .inBlock 2, .code (sub (bodyOf Try.f18) [2, 2, 2, 2, 2])] [(0, .pointer (some ⟨gd_0, 0, none⟩)), (1, vusers_1), (2, vscopes_2), (3, .int .i64 now_3), (11, .int .i64 i_11)] w := by
 intro n
 induction n with
 | zero => intro r od_0 users_1 scopes_2 now_3 i_11 gd_0 vusers_1 vscopes_2 hS; cases hS
 | succ n ih =>
  have hr1 : ∀ {r : Int} {od_0 : delegate_Delegations} {users_1 : List Str} {scopes_2 : List Str} {now_3 : Int} {i_11 : Int} {gd_0 : Nat} {vusers_1 : Value} {vscopes_2 : Value}, delegate_Delegations_Chain_L2 r0 n od_0 users_1 scopes_2 now_3 i_11 = some r → ∀ {ρ : Tags} {w : World}, (Fr (flat1 ρA) w0 ρ w) → (delegate_Delegations.O (fun _ => 1) ρ w gd_0 od_0) → (SlR strC (Wb ρ) w vusers_1 users_1) → (SlR strC (Wb ρ) w vscopes_2 scopes_2) → KE Try.prog 18 (Ret (fun v w' => v = .int .i64 r ∧ Below w0.heap.size w0 w')) 54 [.inLoop (sub (bodyOf Try.f18) [2, 2, 2, 2, 1, 2, 2, 1]), .inBlock 2, .code (sub (bodyOf Try.f18) [2, 2, 2, 2, 2])] [(0, .pointer (some ⟨gd_0, 0, none⟩)), (1, vusers_1), (2, vscopes_2), (3, .int .i64 now_3), (11, .int .i64 i_11)] w := fun {r} {od_0} {users_1} {scopes_2} {now_3} {i_11} {gd_0} {vusers_1} {vscopes_2} hS {ρ} {w} hb hod_0 husers_1 hscopes_2 => ke_inLoop (ih hS hb hod_0 husers_1 hscopes_2)
  clear ih
  intro r od_0 users_1 scopes_2 now_3 i_11 gd_0 vusers_1 vscopes_2 hS ρ w hb hod_0 husers_1 hscopes_2
  unfold delegate_Delegations_Chain_L2 at hS
  obtain ⟨v36, hB38, h37⟩ := hod_0
  replace hB38 : Blk ρ 1 w gd_0 (.cells #[v36] 54 (0, 0)) := hB38
  replace h37 : MapT delegate_way.ek delegate_delegation.c true ρ 1 w v36 od_0.ways := h37
  refine ke_seq ?_
  refine ke_seq ?_
  refine ke_region ?_
  refine sr_ev (v := .int .i64 i_11) (ev_move rfl) (by decide) ?_
  refine sr_ev (v := vusers_1) (ev_move rfl) (by decide) ?_
  refine sr_ev (v := .int .i64 (users_1.length : Int)) (ev_sllen Try.underlying23 rfl husers_1.asSl) (by decide) ?_
  refine sr_ev (v := .bool (decide (i_11 < (users_1.length : Int)))) (ev_lt rfl rfl) (by decide) ?_
  refine sr_end (l' := [(0, .pointer (some ⟨gd_0, 0, none⟩)), (1, vusers_1), (2, vscopes_2), (3, .int .i64 now_3), (11, .int .i64 i_11), (35, .bool (decide (i_11 < (users_1.length : Int))))]) (.cons rfl (.cons rfl (.cons rfl (.cons rfl (.cons rfl (.cons rfl (.nil _))))))) ?_
  refine ke_cond (t := decide (i_11 < (users_1.length : Int))) rfl (fun hc39 => ?_) (fun hc39 => ?_)
  ·replace hS := ite_true' hS hc39
   refine ke_skip ?_
   refine ke_seq ?_
   refine ke_block ?_
   refine ke_seq ?_
   refine ke_region_q Try.mixed (by kernel_rfl) ?_
   refine sq_ev (v := .pointer (some ⟨gd_0, 0, none⟩)) (fun w1 hw1 => ev_move rfl) (by decide) ?_
   refine sq_ev (v := vusers_1) (fun w1 hw1 => ev_move rfl) (by decide) ?_
   refine sq_ev (v := .int .i64 i_11) (fun w1 hw1 => ev_move rfl) (by decide) ?_
   refine sq_ev (v := .int .i64 (IntKind.i64.wrap (i_11 - 1))) (fun w1 hw1 => ev_sub rfl rfl) (by decide) ?_
   obtain ⟨y42, hy43, hS⟩ := bind_some' hS
   obtain ⟨b44, o45, cs47, hq48, he46⟩ := ((SlT.of_sl (i := 0) husers_1)).elem (P := Try.prog) Try.underlying23 Try.info9 rfl hy43
   obtain rfl : cs47 = [str y42] := he46.rd
   refine sq_ev (v := .pointer (some ⟨b44, o45, none⟩)) (fun w1 hw1 => hq48 w1 rfl rfl) (by decide) ?_
   refine sq_ev (v := str y42) (fun w1 hw1 => ev_load Try.isAgg9 rfl ((he46.mv (Mv.of_below (i := 0) (ρ := ρ) hw1) (Nat.succ_pos _)).cell 0 _ rfl)) (by decide) ?_
   refine sq_ev (v := vusers_1) (fun w1 hw1 => ev_move rfl) (by decide) ?_
   refine sq_ev (v := .int .i64 i_11) (fun w1 hw1 => ev_move rfl) (by decide) ?_
   obtain ⟨y49, hy50, hS⟩ := bind_some' hS
   obtain ⟨b51, o52, cs54, hq55, he53⟩ := ((SlT.of_sl (i := 0) husers_1)).elem (P := Try.prog) Try.underlying23 Try.info9 rfl hy50
   obtain rfl : cs54 = [str y49] := he53.rd
   refine sq_ev (v := .pointer (some ⟨b51, o52, none⟩)) (fun w1 hw1 => hq55 w1 rfl rfl) (by decide) ?_
   refine sq_ev (v := str y49) (fun w1 hw1 => ev_load Try.isAgg9 rfl ((he53.mv (Mv.of_below (i := 0) (ρ := ρ) hw1) (Nat.succ_pos _)).cell 0 _ rfl)) (by decide) ?_
   refine sq_ev (v := vscopes_2) (fun w1 hw1 => ev_move rfl) (by decide) ?_
   refine sq_ev (v := .int .i64 now_3) (fun w1 hw1 => ev_move rfl) (by decide) ?_
   obtain ⟨y56, hy57, hS⟩ := bind_some' hS
   refine sq_call (v := .int .i64 y56) (vs := [.pointer (some ⟨gd_0, 0, none⟩), str y42, str y49, vscopes_2, .int .i64 now_3]) rfl Try.call26 rfl (fun w1 hw1 => (delegate_Delegations_May_ok _ ((hg.fr hz hb).below hw1) (ρA := ρ) (fun b h => Nat.lt_of_lt_of_le (hb.bd b h) hw1.size) (hz.fr hg hb) (τ0 := (fun _ => 1)) (fun _ => Nat.le_refl 1) (hscopes_2.mv (Mv.of_below (i := 0) hw1)) (⟨_, (hB38.mv (Mv.of_below (i := 1) (ρ := ρ) hw1)), (h37.mv (Mv.of_below (i := 1) (ρ := ρ) hw1))⟩ : delegate_Delegations.O (fun _ => 1) ρ w1 gd_0 od_0) hy57)) (by decide) ?_
   refine sq_ev (v := .int .i64 y56) (fun w1 hw1 => ev_assign rfl) (by decide) ?_
   refine sq_end (l' := [(0, .pointer (some ⟨gd_0, 0, none⟩)), (1, vusers_1), (2, vscopes_2), (3, .int .i64 now_3), (11, .int .i64 i_11), (12, .int .i64 y56)]) (.cons rfl (.cons rfl (.cons rfl (.cons rfl (.cons rfl (.cons rfl (.nil _))))))) (fun w41 hw40 => ?_)
   have htr61 := Tr.of_below hw40 hb.bd
   replace husers_1 := husers_1.mv htr61.rd
   replace hscopes_2 := hscopes_2.mv htr61.rd
   replace hB38 := hB38.mv (htr61.mv (i := 1) rfl)
   replace h37 := h37.mv (htr61.mv (i := 1) rfl)
   replace hb := hb.trans htr61
   refine ke_seq ?_
   refine ke_region ?_
   refine sr_ev (v := .int .i64 y56) (ev_move rfl) (by decide) ?_
   refine sr_ev (v := .bool (y56 != 0)) (ev_ne rfl rfl) (by decide) ?_
   refine sr_end (l' := [(0, .pointer (some ⟨gd_0, 0, none⟩)), (1, vusers_1), (2, vscopes_2), (3, .int .i64 now_3), (11, .int .i64 i_11), (12, .int .i64 y56), (52, .bool (y56 != 0))]) (.cons rfl (.cons rfl (.cons rfl (.cons rfl (.cons rfl (.cons rfl (.cons rfl (.nil _)))))))) ?_
   refine ke_cond (t := y56 != 0) rfl (fun hc62 => ?_) (fun hc62 => ?_)
   ·replace hS := ite_true' hS hc62
    refine ke_seq ?_
    refine ke_region ?_
    refine sr_ev (v := .int .i64 y56) (ev_move rfl) (by decide) ?_
    refine sr_ev (v := .int .i64 y56) (ev_assign rfl) (by decide) ?_
    refine sr_end (l' := [(8, .int .i64 y56)]) (.cons rfl (.nil _)) ?_
    cases hS
    exact ke_ret1 Try.func18 rfl rfl ⟨_, rfl, rfl, (hb.below (flat1_le _))⟩
   ·replace hS := ite_false' hS hc62
    refine ke_skip ?_
    refine ke_inBlock ?_
    refine ke_region ?_
    refine sr_ev (v := .int .i64 i_11) (ev_move rfl) (by decide) ?_
    refine sr_ev (v := .int .i64 (IntKind.i64.wrap (i_11 + 1))) (ev_add rfl rfl) (by decide) ?_
    refine sr_ev (v := .int .i64 (IntKind.i64.wrap (i_11 + 1))) (ev_assign rfl) (by decide) ?_
    refine sr_end (l' := [(0, .pointer (some ⟨gd_0, 0, none⟩)), (1, vusers_1), (2, vscopes_2), (3, .int .i64 now_3), (11, .int .i64 (IntKind.i64.wrap (i_11 + 1)))]) (.cons rfl (.cons rfl (.cons rfl (.cons rfl (.cons rfl (.nil _)))))) ?_
    have hK := hr1 hS hb ⟨_, hB38, h37⟩ husers_1 hscopes_2
    exact ke_weaken (l' := [(0, .pointer (some ⟨gd_0, 0, none⟩)), (1, vusers_1), (2, vscopes_2), (3, .int .i64 now_3), (11, .int .i64 (IntKind.i64.wrap (i_11 + 1)))]) (.cons rfl (.cons rfl (.cons rfl (.cons rfl (.cons rfl (.nil _)))))) hK
  ·replace hS := ite_false' hS hc39
   refine ke_exit (k' := _) rfl ?_
   refine ke_seq ?_
   refine ke_region ?_
   refine sr_ev (v := .int .i64 0) (ev_assign rfl) (by decide) ?_
   refine sr_end (l' := [(8, .int .i64 0)]) (.cons rfl (.nil _)) ?_
   cases hS
   exact ke_ret1 Try.func18 rfl rfl ⟨_, rfl, rfl, (hb.below (flat1_le _))⟩
theorem delegate_Delegations_Chain_L1_ok {w0 : World} (hg : Gs w0) {ρA : Tags} (hbd : ∀ b, ρA b ≠ 0 → b < w0.heap.size) (hz : Gz (flat1 ρA)) : ∀ (n : Nat), ∀ {r : Int} {od_0 : delegate_Delegations} {users_1 : List Str} {scopes_2 : List Str} {now_3 : Int} {t_19 : List Str} {t_20 : Int} {t_21 : Int} {gd_0 : Nat} {vusers_1 : Value} {vscopes_2 : Value} {vt_19 : Value}, delegate_Delegations_Chain_L1 n od_0 users_1 scopes_2 now_3 t_19 t_20 t_21 = some r → ∀ {ρ : Tags} {w : World}, (Fr (flat1 ρA) w0 ρ w) → (delegate_Delegations.O (fun _ => 1) ρ w gd_0 od_0) → (SlR strC (Wb ρ) w vusers_1 users_1) → (SlR strC (Wb ρ) w vscopes_2 scopes_2) → (SlR strC (Wb ρ) w vt_19 t_19) → KE Try.prog 18 (Ret (fun v w' => v = .int .i64 r ∧ Below w0.heap.size w0 w')) 54 [.code (sub (bodyOf Try.f18) [2, 2, 2, 1, 2, 2, 1]), .inLoop (sub (bodyOf Try.f18) [2, 2, 2, 1, 2, 2, 1]), .inBlock 0, .code (sub (bodyOf Try.f18) [2, 2, 2, 2])] [(0, .pointer (some ⟨gd_0, 0, none⟩)), (1, vusers_1), (2, vscopes_2), (3, .int .i64 now_3), (19, vt_19), (20, .int .i64 t_20), (21, .int .i64 t_21)] w := by
 intro n
 induction n with
 | zero => intro r od_0 users_1 scopes_2 now_3 t_19 t_20 t_21 gd_0 vusers_1 vscopes_2 vt_19 hS; cases hS
 | succ n ih =>
  have hr0 : ∀ {r : Int} {od_0 : delegate_Delegations} {users_1 : List Str} {scopes_2 : List Str} {now_3 : Int} {t_19 : List Str} {t_20 : Int} {t_21 : Int} {gd_0 : Nat} {vusers_1 : Value} {vscopes_2 : Value} {vt_19 : Value}, delegate_Delegations_Chain_L1 n od_0 users_1 scopes_2 now_3 t_19 t_20 t_21 = some r → ∀ {ρ : Tags} {w : World}, (Fr (flat1 ρA) w0 ρ w) → (delegate_Delegations.O (fun _ => 1) ρ w gd_0 od_0) → (SlR strC (Wb ρ) w vusers_1 users_1) → (SlR strC (Wb ρ) w vscopes_2 scopes_2) → (SlR strC (Wb ρ) w vt_19 t_19) → KE Try.prog 18 (Ret (fun v w' => v = .int .i64 r ∧ Below w0.heap.size w0 w')) 54 [.inLoop (sub (bodyOf Try.f18) [2, 2, 2, 1, 2, 2, 1]), .inBlock 0, .code (sub (bodyOf Try.f18) [2, 2, 2, 2])] [(0, .pointer (some ⟨gd_0, 0, none⟩)), (1, vusers_1), (2, vscopes_2), (3, .int .i64 now_3), (19, vt_19), (20, .int .i64 t_20), (21, .int .i64 t_21)] w := fun {r} {od_0} {users_1} {scopes_2} {now_3} {t_19} {t_20} {t_21} {gd_0} {vusers_1} {vscopes_2} {vt_19} hS {ρ} {w} hb hod_0 husers_1 hscopes_2 ht_19 => ke_inLoop (ih hS hb hod_0 husers_1 hscopes_2 ht_19)
  clear ih
  intro r od_0 users_1 scopes_2 now_3 t_19 t_20 t_21 gd_0 vusers_1 vscopes_2 vt_19 hS ρ w hb hod_0 husers_1 hscopes_2 ht_19
  unfold delegate_Delegations_Chain_L1 at hS
  obtain ⟨v15, hB17, h16⟩ := hod_0
  replace hB17 : Blk ρ 1 w gd_0 (.cells #[v15] 54 (0, 0)) := hB17
  replace h16 : MapT delegate_way.ek delegate_delegation.c true ρ 1 w v15 od_0.ways := h16
  refine ke_seq ?_
  refine ke_region ?_
  refine sr_ev (v := .bool (decide (t_21 < t_20))) (ev_lt rfl rfl) (by decide) ?_
  refine sr_end (l' := [(0, .pointer (some ⟨gd_0, 0, none⟩)), (1, vusers_1), (2, vscopes_2), (3, .int .i64 now_3), (19, vt_19), (20, .int .i64 t_20), (21, .int .i64 t_21), (22, .bool (decide (t_21 < t_20)))]) (.cons rfl (.cons rfl (.cons rfl (.cons rfl (.cons rfl (.cons rfl (.cons rfl (.cons rfl (.nil _))))))))) ?_
  refine ke_seq ?_
  refine ke_cond (t := decide (t_21 < t_20)) rfl (fun hc18 => ?_) (fun hc18 => ?_)
  ·replace hS := ite_true' hS hc18
   refine ke_skip ?_
   refine ke_seq ?_
   refine ke_block ?_
   refine ke_seq ?_
   refine ke_region ?_
   refine sr_ev (v := .int .i64 t_21) (ev_move rfl) (by decide) ?_
   obtain ⟨y19, hy20, hS⟩ := bind_some' hS
   obtain ⟨b21, o22, cs24, hq25, he23⟩ := ((SlT.of_sl (i := 0) ht_19)).elem (P := Try.prog) Try.underlying23 Try.info9 rfl hy20
   obtain rfl : cs24 = [str y19] := he23.rd
   refine sr_ev (v := .pointer (some ⟨b21, o22, none⟩)) (hq25 w rfl rfl) (by decide) ?_
   refine sr_ev (v := str y19) (ev_load Try.isAgg9 rfl (he23.cell 0 _ rfl)) (by decide) ?_
   refine sr_ev (v := .int .i64 t_21) (ev_assign rfl) (by decide) ?_
   refine sr_ev (v := str y19) (ev_assign rfl) (by decide) ?_
   refine sr_end (l' := [(0, .pointer (some ⟨gd_0, 0, none⟩)), (1, vusers_1), (2, vscopes_2), (3, .int .i64 now_3), (9, .int .i64 t_21), (10, str y19), (19, vt_19), (20, .int .i64 t_20), (21, .int .i64 t_21)]) (.cons rfl (.cons rfl (.cons rfl (.cons rfl (.cons rfl (.cons rfl (.cons rfl (.cons rfl (.cons rfl (.nil _)))))))))) ?_
   refine ke_seq ?_
   refine ke_region ?_
   refine sr_ev (v := vusers_1) (ev_move rfl) (by decide) ?_
   refine sr_ev (v := .int .i64 t_21) (ev_move rfl) (by decide) ?_
   obtain ⟨hk26, hS⟩ := chk_some hS
   obtain ⟨v27, h28, hq29⟩ := ((SlT.of_sl (i := 0) husers_1)).cutT_h (P := Try.prog) Try.underlying23 Try.info9 rfl hk26
   replace h28 := h28.sl
   refine sr_ev (v := v27) (hq29 w rfl rfl) (by decide) ?_
   refine sr_ev (v := str y19) (ev_move rfl) (by decide) ?_
   obtain ⟨y30, hy31, hS⟩ := bind_some' hS
   refine sr_call (vs := [v27, str y19]) rfl Try.call39 rfl (slices_Contains_string_string_ok _ (hg.fr hz hb) h28.asSl hy31) (by decide) ?_
   rintro _ w32 ⟨rfl, hbw33⟩
   have htr34 := Tr.of_below hbw33 hb.bd
   replace husers_1 := husers_1.mv htr34.rd
   replace hscopes_2 := hscopes_2.mv htr34.rd
   replace ht_19 := ht_19.mv htr34.rd
   replace hB17 := hB17.mv (htr34.mv (i := 1) rfl)
   replace h16 := h16.mv (htr34.mv (i := 1) rfl)
   replace hb := hb.trans htr34
   refine sr_end (l' := [(0, .pointer (some ⟨gd_0, 0, none⟩)), (1, vusers_1), (2, vscopes_2), (3, .int .i64 now_3), (19, vt_19), (20, .int .i64 t_20), (21, .int .i64 t_21), (30, .bool y30)]) (.cons rfl (.cons rfl (.cons rfl (.cons rfl (.cons rfl (.cons rfl (.cons rfl (.cons rfl (.nil _))))))))) ?_
   refine ke_cond (t := y30) rfl (fun hc35 => ?_) (fun hc35 => ?_)
   ·replace hS := ite_true' hS hc35
    refine ke_seq ?_
    refine ke_region ?_
    refine sr_ev (v := .int .i64 28) (ev_assign rfl) (by decide) ?_
    refine sr_end (l' := [(8, .int .i64 28)]) (.cons rfl (.nil _)) ?_
    cases hS
    exact ke_ret1 Try.func18 rfl rfl ⟨_, rfl, rfl, (hb.below (flat1_le _))⟩
   ·replace hS := ite_false' hS hc35
    refine ke_skip ?_
    refine ke_inBlock ?_
    refine ke_region ?_
    refine sr_ev (v := .int .i64 (IntKind.i64.wrap (t_21 + 1))) (ev_add rfl rfl) (by decide) ?_
    refine sr_ev (v := .int .i64 (IntKind.i64.wrap (t_21 + 1))) (ev_move rfl) (by decide) ?_
    refine sr_end (l' := [(0, .pointer (some ⟨gd_0, 0, none⟩)), (1, vusers_1), (2, vscopes_2), (3, .int .i64 now_3), (19, vt_19), (20, .int .i64 t_20), (21, .int .i64 (IntKind.i64.wrap (t_21 + 1)))]) (.cons rfl (.cons rfl (.cons rfl (.cons rfl (.cons rfl (.cons rfl (.cons rfl (.nil _)))))))) ?_
    have hK := hr0 hS hb ⟨_, hB17, h16⟩ husers_1 hscopes_2 ht_19
    exact ke_weaken (l' := [(0, .pointer (some ⟨gd_0, 0, none⟩)), (1, vusers_1), (2, vscopes_2), (3, .int .i64 now_3), (19, vt_19), (20, .int .i64 t_20), (21, .int .i64 (IntKind.i64.wrap (t_21 + 1)))]) (.cons rfl (.cons rfl (.cons rfl (.cons rfl (.cons rfl (.cons rfl (.cons rfl (.nil _)))))))) hK
  ·replace hS := ite_false' hS hc18
   refine ke_exit (k' := _) rfl ?_
   refine ke_seq ?_
   refine ke_seq ?_
   refine ke_region ?_
   refine sr_ev (v := .int .i64 1) (ev_assign rfl) (by decide) ?_
   refine sr_end (l' := [(0, .pointer (some ⟨gd_0, 0, none⟩)), (1, vusers_1), (2, vscopes_2), (3, .int .i64 now_3), (11, .int .i64 1)]) (.cons rfl (.cons rfl (.cons rfl (.cons rfl (.cons rfl (.nil _)))))) ?_
   refine ke_block ?_
   have hK := delegate_Delegations_Chain_L2_ok hg hbd hz _ hr0 _ hS hb ⟨_, hB17, h16⟩ husers_1 hscopes_2
   exact ke_weaken (l' := [(0, .pointer (some ⟨gd_0, 0, none⟩)), (1, vusers_1), (2, vscopes_2), (3, .int .i64 now_3), (11, .int .i64 1)]) (.cons rfl (.cons rfl (.cons rfl (.cons rfl (.cons rfl (.nil _)))))) (ke_loop hK)
theorem delegate_Delegations_Chain_ok (w0 : World) (hg : Gs w0) {ρA : Tags} (hbd : ∀ b, ρA b ≠ 0 → b < w0.heap.size) (hz : Gz ρA) {τ0 : Nat → Nat} (hτ0 : ∀ p, 1 ≤ τ0 p) {d_0 : delegate_Delegations} {users_1 : List Str} {scopes_2 : List Str} {now_3 : Int} {v4 : Value} {v6 : Value} {gd_0 : Nat} {r : Int} (h5 : SlR strC (Wb ρA) w0 v4 users_1) (h7 : SlR strC (Wb ρA) w0 v6 scopes_2) (ho0 : delegate_Delegations.O τ0 ρA w0 gd_0 d_0) (hS : delegate_Delegations_Chain d_0 users_1 scopes_2 now_3 = some r) :
  Calls Try.prog 18 #[.pointer (some ⟨gd_0, 0, none⟩), v4, v6, .int .i64 now_3] w0 (Ret (fun v w' => v = .int .i64 r ∧ Below w0.heap.size w0 w')) := by
 unfold delegate_Delegations_Chain at hS
 have hb := flat1_fr (ρ := ρA) (w := w0) hbd
 have hz := hz.flat1
 replace h5 := SlR.mv h5 flat1_rd
 replace h7 := SlR.mv h7 flat1_rd
 obtain ⟨v1, hB3, h2⟩ := ho0
 replace hB3 := hB3.mv (flat1_mv (hτ0 0))
 replace h2 := h2.mv (flat1_mv (hτ0 1))
 replace hB3 : Blk (flat1 ρA) 1 w0 gd_0 (.cells #[v1] 54 (0, 0)) := hB3
 replace h2 : MapT delegate_way.ek delegate_delegation.c true (flat1 ρA) 1 w0 v1 d_0.ways := h2
 refine calls_of_ke Try.func18 rfl (n := 54) rfl rfl (l := [(0, .pointer (some ⟨gd_0, 0, none⟩)), (1, v4), (2, v6), (3, .int .i64 now_3)]) rfl ?_
 refine ke_seq ?_
 refine ke_region ?_
 refine sr_ev (v := .int .i64 0) (ev_assign rfl) (by decide) ?_
 refine sr_end (l' := [(0, .pointer (some ⟨gd_0, 0, none⟩)), (1, v4), (2, v6), (3, .int .i64 now_3)]) (.cons rfl (.cons rfl (.cons rfl (.cons rfl (.nil _))))) ?_
 refine ke_seq ?_
 refine ke_seq ?_
 refine ke_region ?_
 refine sr_ev (v := .pointer (some ⟨gd_0, 0, none⟩)) (ev_move rfl) (by decide) ?_
 obtain ⟨y8, hy9, hS⟩ := bind_some' hS
 refine sr_call (vs := [.pointer (some ⟨gd_0, 0, none⟩)]) rfl Try.call38 rfl (delegate_Delegations_made_ok _ (hg.fr hz hb) (ρA := (flat1 ρA)) hb.bd (hz.fr hg hb) (τ0 := (fun _ => 1)) (fun _ => Nat.le_refl 1) (⟨_, hB3, h2⟩ : delegate_Delegations.O (fun _ => 1) (flat1 ρA) w0 gd_0 d_0) hy9) (by decide) ?_
 rintro _ w10 ⟨rfl, hbw11⟩
 have htr12 := Tr.of_below hbw11 hb.bd
 replace h5 := h5.mv htr12.rd
 replace h7 := h7.mv htr12.rd
 replace hB3 := hB3.mv (htr12.mv (i := 1) rfl)
 replace h2 := h2.mv (htr12.mv (i := 1) rfl)
 replace hb := hb.trans htr12
 refine sr_ev (v := .bool (!y8)) (ev_not rfl) (by decide) ?_
 refine sr_end (l' := [(0, .pointer (some ⟨gd_0, 0, none⟩)), (1, v4), (2, v6), (3, .int .i64 now_3), (15, .bool (!y8))]) (.cons rfl (.cons rfl (.cons rfl (.cons rfl (.cons rfl (.nil _)))))) ?_
 refine ke_cond (t := !y8) rfl (fun hc13 => ?_) (fun hc13 => ?_)
 ·replace hS := ite_true' hS hc13
  refine ke_seq ?_
  refine ke_region ?_
  refine sr_ev (v := .int .i64 1) (ev_assign rfl) (by decide) ?_
  refine sr_end (l' := [(8, .int .i64 1)]) (.cons rfl (.nil _)) ?_
  cases hS
  exact ke_ret1 Try.func18 rfl rfl ⟨_, rfl, rfl, (hb.below (flat1_le _))⟩
 ·replace hS := ite_false' hS hc13
  refine ke_skip ?_
  refine ke_seq ?_
  refine ke_seq ?_
  refine ke_region ?_
  refine sr_ev (v := v4) (ev_move rfl) (by decide) ?_
  refine sr_ev (v := .int .i64 (users_1.length : Int)) (ev_sllen Try.underlying23 rfl h5.asSl) (by decide) ?_
  refine sr_ev (v := .bool (decide ((users_1.length : Int) > 5))) (ev_gt rfl rfl) (by decide) ?_
  refine sr_end (l' := [(0, .pointer (some ⟨gd_0, 0, none⟩)), (1, v4), (2, v6), (3, .int .i64 now_3), (18, .bool (decide ((users_1.length : Int) > 5)))]) (.cons rfl (.cons rfl (.cons rfl (.cons rfl (.cons rfl (.nil _)))))) ?_
  refine ke_cond (t := decide ((users_1.length : Int) > 5)) rfl (fun hc14 => ?_) (fun hc14 => ?_)
  ·replace hS := ite_true' hS hc14
   refine ke_seq ?_
   refine ke_region ?_
   refine sr_ev (v := .int .i64 3) (ev_assign rfl) (by decide) ?_
   refine sr_end (l' := [(8, .int .i64 3)]) (.cons rfl (.nil _)) ?_
   cases hS
   exact ke_ret1 Try.func18 rfl rfl ⟨_, rfl, rfl, (hb.below (flat1_le _))⟩
  ·replace hS := ite_false' hS hc14
   refine ke_skip ?_
   refine ke_seq ?_
   refine ke_seq ?_
   refine ke_region ?_
   refine sr_ev (v := v4) (ev_move rfl) (by decide) ?_
   refine sr_ev (v := .int .i64 (users_1.length : Int)) (ev_sllen Try.underlying23 rfl h5.asSl) (by decide) ?_
   refine sr_ev (v := .int .i64 0) (ev_move rfl) (by decide) ?_
   refine sr_end (l' := [(0, .pointer (some ⟨gd_0, 0, none⟩)), (1, v4), (2, v6), (3, .int .i64 now_3), (19, v4), (20, .int .i64 (users_1.length : Int)), (21, .int .i64 0)]) (.cons rfl (.cons rfl (.cons rfl (.cons rfl (.cons rfl (.cons rfl (.cons rfl (.nil _)))))))) ?_
   refine ke_block ?_
   have hK := delegate_Delegations_Chain_L1_ok hg hbd hz _ hS hb ⟨_, hB3, h2⟩ h5 h7 h5
   exact ke_weaken (l' := [(0, .pointer (some ⟨gd_0, 0, none⟩)), (1, v4), (2, v6), (3, .int .i64 now_3), (19, v4), (20, .int .i64 (users_1.length : Int)), (21, .int .i64 0)]) (.cons rfl (.cons rfl (.cons rfl (.cons rfl (.cons rfl (.cons rfl (.cons rfl (.nil _)))))))) (ke_loop hK)
theorem delegate_Delegations_Reach_B4_ok {w0 : World} (hg : Gs w0) {ρA : Tags} (hbd : ∀ b, ρA b ≠ 0 → b < w0.heap.size) (hz : Gz (flat1 ρA)) (r0 : delegate_Delegations → Str → Str → Int → GMap Str Bool → List Str → Option (List Str)) (r1 : delegate_Delegations → Str → Str → Int → GMap Str Bool → List Str → List delegate_way → Option (List Str))
  (hr0 : ∀ {r : List Str} {od_0 : delegate_Delegations} {to_1 : Str} {s_2 : Str} {now_3 : Int} {seen_9 : GMap Str Bool} {queue_10 : List Str} {gd_0 : Nat} {vseen_9 : Value} {vqueue_10 : Value}, r0 od_0 to_1 s_2 now_3 seen_9 queue_10 = some r → ∀ {ρ : Tags} {w : World}, (Fr (flat1 ρA) w0 ρ w) → (delegate_Delegations.O (fun _ => 1) ρ w gd_0 od_0) → (MapT str boolC false ρ 17 w vseen_9 seen_9) → (OffT strC 9 ρ 21 w vqueue_10 queue_10) → KE Try.prog 20 (Ret (fun v w' => ∃ x1, v = x1 ∧ SlR strC (Wb ρA) w' x1 r ∧ Below w0.heap.size w0 w')) 72 [.inLoop (sub (bodyOf Try.f20) [2, 2, 2, 2, 1, 2, 1]), .inBlock 0, .code (sub (bodyOf Try.f20) [2, 2, 2, 2, 2])] [(0, .pointer (some ⟨gd_0, 0, none⟩)), (1, str to_1), (2, str s_2), (3, .int .i64 now_3), (9, vseen_9), (10, vqueue_10)] w)
  (hr1 : ∀ {r : List Str} {od_0 : delegate_Delegations} {to_1 : Str} {s_2 : Str} {now_3 : Int} {seen_9 : GMap Str Bool} {queue_10 : List Str} {t_27 : List delegate_way} {gd_0 : Nat} {v36 : Value} {vseen_9 : Value} {vqueue_10 : Value} {rt_27 : Nat}, r1 od_0 to_1 s_2 now_3 seen_9 queue_10 t_27 = some r → ∀ {ρ : Tags} {w : World}, (Fr (flat1 ρA) w0 ρ w) → (Blk ρ 1 w gd_0 (.cells #[v36] 54 (0, 0))) → (MapT delegate_way.ek delegate_delegation.c true ρ 1 w v36 od_0.ways) → (MapT str boolC false ρ 17 w vseen_9 seen_9) → (OffT strC 9 ρ 21 w vqueue_10 queue_10) → (IterT delegate_way.ek delegate_delegation.c true ρ 1 29 w rt_27 v36 od_0.ways t_27) → KE Try.prog 20 (Ret (fun v w' => ∃ x1, v = x1 ∧ SlR strC (Wb ρA) w' x1 r ∧ Below w0.heap.size w0 w')) 72 [.inLoop (sub (bodyOf Try.f20) [2, 2, 2, 2, 1, 2, 1, 2, 2, 1, 2, 2, 1]), .inBlock 2, .code (sub (bodyOf Try.f20) [2, 2, 2, 2, 1, 2, 1, 2, 2, 2]), .inBlock 1, .inLoop (sub (bodyOf Try.f20) [2, 2, 2, 2, 1, 2, 1]), .inBlock 0, .code (sub (bodyOf Try.f20) [2, 2, 2, 2, 2])] [(0, .pointer (some ⟨gd_0, 0, none⟩)), (1, str to_1), (2, str s_2), (3, .int .i64 now_3), (9, vseen_9), (10, vqueue_10), (27, .pointer (some ⟨rt_27, 0, none⟩))] w) {r : List Str} {od_0 : delegate_Delegations} {to_1 : Str} {s_2 : Str} {now_3 : Int} {seen_9 : GMap Str Bool} {queue_10 : List Str} {t_27 : List delegate_way} {gd_0 : Nat} {v161 : Value} {vseen_9 : Value} {vqueue_10 : Value} {rt_27 : Nat} (hS : delegate_Delegations_Reach_B4 r0 r1 od_0 to_1 s_2 now_3 seen_9 queue_10 t_27 = some r) {ρ : Tags} {w : World} (hb : Fr (flat1 ρA) w0 ρ w) (hBd_0 : Blk ρ 1 w gd_0 (.cells #[v161] 54 (0, 0))) (h162 : MapT delegate_way.ek delegate_delegation.c true ρ 1 w v161 od_0.ways) (hseen_9 : MapT str boolC false ρ 17 w vseen_9 seen_9) (hqueue_10 : OffT strC 9 ρ 21 w vqueue_10 queue_10) (ht_27 : IterT delegate_way.ek delegate_delegation.c true ρ 1 29 w rt_27 v161 od_0.ways t_27) :
  KE Try.prog 20 (Ret (fun v w' => ∃ x1, v = x1 ∧ SlR strC (Wb ρA) w' x1 r ∧ Below w0.heap.size w0 w')) 72 [.inBlock 3, .inLoop (sub (bodyOf Try.f20) [2, 2, 2, 2, 1, 2, 1, 2, 2, 1, 2, 2, 1]), .inBlock 2, .code (sub (bodyOf Try.f20) [2, 2, 2, 2, 1, 2, 1, 2, 2, 2]), .inBlock 1, .inLoop (sub (bodyOf Try.f20) [2, 2, 2, 2, 1, 2, 1]), .inBlock 0, .code (sub (bodyOf Try.f20) [2, 2, 2, 2, 2])] [(0, .pointer (some ⟨gd_0, 0, none⟩)), (1, str to_1), (2, str s_2), (3, .int .i64 now_3), (9, vseen_9), (10, vqueue_10), (27, .pointer (some ⟨rt_27, 0, none⟩))] w := by
 unfold delegate_Delegations_Reach_B4 at hS
 refine ke_inBlock ?_
 have hK := hr1 hS hb hBd_0 h162 hseen_9 hqueue_10 ht_27
 exact ke_weaken (l' := [(0, .pointer (some ⟨gd_0, 0, none⟩)), (1, str to_1), (2, str s_2), (3, .int .i64 now_3), (9, vseen_9), (10, vqueue_10), (27, .pointer (some ⟨rt_27, 0, none⟩))]) (.cons rfl (.cons rfl (.cons rfl (.cons rfl (.cons rfl (.cons rfl (.cons rfl (.nil _)))))))) hK
theorem delegate_Delegations_Reach_B3_ok {w0 : World} (hg : Gs w0) {ρA : Tags} (hbd : ∀ b, ρA b ≠ 0 → b < w0.heap.size) (hz : Gz (flat1 ρA)) (r0 : delegate_Delegations → Str → Str → Int → GMap Str Bool → List Str → Option (List Str)) (r1 : delegate_Delegations → Str → Str → Int → GMap Str Bool → List Str → List delegate_way → Option (List Str))
  (hr0 : ∀ {r : List Str} {od_0 : delegate_Delegations} {to_1 : Str} {s_2 : Str} {now_3 : Int} {seen_9 : GMap Str Bool} {queue_10 : List Str} {gd_0 : Nat} {vseen_9 : Value} {vqueue_10 : Value}, r0 od_0 to_1 s_2 now_3 seen_9 queue_10 = some r → ∀ {ρ : Tags} {w : World}, (Fr (flat1 ρA) w0 ρ w) → (delegate_Delegations.O (fun _ => 1) ρ w gd_0 od_0) → (MapT str boolC false ρ 17 w vseen_9 seen_9) → (OffT strC 9 ρ 21 w vqueue_10 queue_10) → KE Try.prog 20 (Ret (fun v w' => ∃ x1, v = x1 ∧ SlR strC (Wb ρA) w' x1 r ∧ Below w0.heap.size w0 w')) 72 [.inLoop (sub (bodyOf Try.f20) [2, 2, 2, 2, 1, 2, 1]), .inBlock 0, .code (sub (bodyOf Try.f20) [2, 2, 2, 2, 2])] [(0, .pointer (some ⟨gd_0, 0, none⟩)), (1, str to_1), (2, str s_2), (3, .int .i64 now_3), (9, vseen_9), (10, vqueue_10)] w)
  (hr1 : ∀ {r : List Str} {od_0 : delegate_Delegations} {to_1 : Str} {s_2 : Str} {now_3 : Int} {seen_9 : GMap Str Bool} {queue_10 : List Str} {t_27 : List delegate_way} {gd_0 : Nat} {v36 : Value} {vseen_9 : Value} {vqueue_10 : Value} {rt_27 : Nat}, r1 od_0 to_1 s_2 now_3 seen_9 queue_10 t_27 = some r → ∀ {ρ : Tags} {w : World}, (Fr (flat1 ρA) w0 ρ w) → (Blk ρ 1 w gd_0 (.cells #[v36] 54 (0, 0))) → (MapT delegate_way.ek delegate_delegation.c true ρ 1 w v36 od_0.ways) → (MapT str boolC false ρ 17 w vseen_9 seen_9) → (OffT strC 9 ρ 21 w vqueue_10 queue_10) → (IterT delegate_way.ek delegate_delegation.c true ρ 1 29 w rt_27 v36 od_0.ways t_27) → KE Try.prog 20 (Ret (fun v w' => ∃ x1, v = x1 ∧ SlR strC (Wb ρA) w' x1 r ∧ Below w0.heap.size w0 w')) 72 [.inLoop (sub (bodyOf Try.f20) [2, 2, 2, 2, 1, 2, 1, 2, 2, 1, 2, 2, 1]), .inBlock 2, .code (sub (bodyOf Try.f20) [2, 2, 2, 2, 1, 2, 1, 2, 2, 2]), .inBlock 1, .inLoop (sub (bodyOf Try.f20) [2, 2, 2, 2, 1, 2, 1]), .inBlock 0, .code (sub (bodyOf Try.f20) [2, 2, 2, 2, 2])] [(0, .pointer (some ⟨gd_0, 0, none⟩)), (1, str to_1), (2, str s_2), (3, .int .i64 now_3), (9, vseen_9), (10, vqueue_10), (27, .pointer (some ⟨rt_27, 0, none⟩))] w) {r : List Str} {od_0 : delegate_Delegations} {to_1 : Str} {s_2 : Str} {now_3 : Int} {seen_9 : GMap Str Bool} {queue_10 : List Str} {k_11_0 : Str} {k_11_1 : Str} {t_27 : List delegate_way} {t_56 : Bool} {gd_0 : Nat} {v141 : Value} {vseen_9 : Value} {vqueue_10 : Value} {gk_11 : Nat} {rt_27 : Nat} (hS : delegate_Delegations_Reach_B3 r0 r1 od_0 to_1 s_2 now_3 seen_9 queue_10 k_11_0 k_11_1 t_27 t_56 = some r) {ρ : Tags} {w : World} (hb : Fr (flat1 ρA) w0 ρ w) (hBd_0 : Blk ρ 1 w gd_0 (.cells #[v141] 54 (0, 0))) (h142 : MapT delegate_way.ek delegate_delegation.c true ρ 1 w v141 od_0.ways) (hseen_9 : MapT str boolC false ρ 17 w vseen_9 seen_9) (hqueue_10 : OffT strC 9 ρ 21 w vqueue_10 queue_10) (hBk_11 : Blk ρ 13 w gk_11 (.cells #[str k_11_0, str k_11_1] 63 (0, 0))) (ht_27 : IterT delegate_way.ek delegate_delegation.c true ρ 1 29 w rt_27 v141 od_0.ways t_27) :
  KE Try.prog 20 (Ret (fun v w' => ∃ x1, v = x1 ∧ SlR strC (Wb ρA) w' x1 r ∧ Below w0.heap.size w0 w')) 72 [.code (sub (bodyOf Try.f20) [2, 2, 2, 2, 1, 2, 1, 2, 2, 1, 2, 2, 1, 2, 2, 2, 2, 2]), .inBlock 3, .inLoop (sub (bodyOf Try.f20) [2, 2, 2, 2, 1, 2, 1, 2, 2, 1, 2, 2, 1]), .inBlock 2, .code (sub (bodyOf Try.f20) [2, 2, 2, 2, 1, 2, 1, 2, 2, 2]), .inBlock 1, .inLoop (sub (bodyOf Try.f20) [2, 2, 2, 2, 1, 2, 1]), .inBlock 0, .code (sub (bodyOf Try.f20) [2, 2, 2, 2, 2])] [(0, .pointer (some ⟨gd_0, 0, none⟩)), (1, str to_1), (2, str s_2), (3, .int .i64 now_3), (9, vseen_9), (10, vqueue_10), (11, .pointer (some ⟨gk_11, 0, none⟩)), (27, .pointer (some ⟨rt_27, 0, none⟩)), (56, .bool t_56)] w := by
 unfold delegate_Delegations_Reach_B3 at hS
 refine ke_cond (t := t_56) rfl (fun hc146 => ?_) (fun hc146 => ?_)
 ·replace hS := ite_true' hS hc146
  refine ke_seq ?_
  refine ke_region ?_
  refine sr_ev (v := vseen_9) (ev_move rfl) (by decide) ?_
  refine sr_ev (v := .pointer (some ⟨gk_11, 0, none⟩)) (ev_fieldAddr (i := 0) Try.underlying63 rfl Try.info9 rfl rfl) (by decide) ?_
  refine sr_ev (v := str k_11_0) (ev_load Try.isAgg9 rfl (hBk_11.cell rfl)) (by decide) ?_
  obtain ⟨hk147, hS⟩ := chk_some hS
  refine sr_mapPut (k := k_11_0) (d := true) (u := .bool true) (cs := [.bool true]) hseen_9 hk147 Try.keyB9 Try.underlying67 (by decide) hb.bd rfl rfl rfl rfl rfl ?_
  intro w148 hseen_91 htr149
  replace hqueue_10 := hqueue_10.mv (htr149.mv (i := 21) rfl) (by decide)
  replace ht_27 := ht_27.mv (htr149.mv (i := 1) rfl) (htr149.mv (i := 29) rfl)
  replace h142 := h142.mv (htr149.mv (i := 1) rfl)
  replace hBd_0 := hBd_0.mv (htr149.mv (i := 1) rfl)
  replace hBk_11 := hBk_11.mv (htr149.mv (i := 13) rfl)
  replace hb := hb.trans htr149
  replace hseen_9 := hseen_91
  clear hseen_91
  refine sr_end (l' := [(0, .pointer (some ⟨gd_0, 0, none⟩)), (1, str to_1), (2, str s_2), (3, .int .i64 now_3), (9, vseen_9), (10, vqueue_10), (11, .pointer (some ⟨gk_11, 0, none⟩)), (27, .pointer (some ⟨rt_27, 0, none⟩))]) (.cons rfl (.cons rfl (.cons rfl (.cons rfl (.cons rfl (.cons rfl (.cons rfl (.cons rfl (.nil _))))))))) ?_
  refine ke_region ?_
  refine sr_ev (v := vqueue_10) (ev_move rfl) (by decide) ?_
  refine sr_ev (v := .pointer (some ⟨gk_11, 0, none⟩)) (ev_fieldAddr (i := 0) Try.underlying63 rfl Try.info9 rfl rfl) (by decide) ?_
  refine sr_ev (v := str k_11_0) (ev_load Try.isAgg9 rfl (hBk_11.cell rfl)) (by decide) ?_
  refine sr_litT (c := strC) (ρ := ρ) (E := 9) (xs := [k_11_0]) (vs := #[(0, str k_11_0)]) (cs := #[str k_11_0]) (css := [[str k_11_0]]) rfl (fun _ => by kernel_rfl) rfl ⟨rfl, trivial⟩ rfl (by decide) hb.bd (by decide) ?_
  intro v150 w152 h151 hbw154
  have htr153 := Tr.of_below hbw154 hb.bd
  replace hseen_9 := hseen_9.mv (htr153.mv (i := 17) rfl)
  replace ht_27 := ht_27.mv (htr153.mv (i := 1) rfl) (htr153.mv (i := 29) rfl)
  replace h142 := h142.mv (htr153.mv (i := 1) rfl)
  replace hqueue_10 := hqueue_10.mv (htr153.mv (i := 21) rfl) (by decide)
  replace hBd_0 := hBd_0.mv (htr153.mv (i := 1) rfl)
  replace hb := hb.trans htr153
  obtain ⟨hk155, hS⟩ := chk_some hS
  refine sr_appendO (i := 21) (c := strC) (ρ := ρ) (E := 9) (xs := queue_10) (ys := ([k_11_0] : List Str)) hqueue_10 ((SlT.of_sl (i := 0) h151)).x Try.underlying23 Try.info9 rfl rfl rfl (by decide) (by decide) (by decide) hb.bd hk155 rfl rfl (by decide) ?_
  intro v156 ρ158 w159 h157 htr160
  replace hseen_9 := hseen_9.mv (htr160.mv (i := 17) rfl)
  replace ht_27 := ht_27.mv (htr160.mv (i := 1) rfl) (htr160.mv (i := 29) rfl)
  replace h142 := h142.mv (htr160.mv (i := 1) rfl)
  replace hBd_0 := hBd_0.mv (htr160.mv (i := 1) rfl)
  replace hb := hb.trans htr160
  refine sr_ev (v := v156) (ev_assign rfl) (by decide) ?_
  refine sr_end (l' := [(0, .pointer (some ⟨gd_0, 0, none⟩)), (1, str to_1), (2, str s_2), (3, .int .i64 now_3), (9, vseen_9), (10, v156), (27, .pointer (some ⟨rt_27, 0, none⟩))]) (.cons rfl (.cons rfl (.cons rfl (.cons rfl (.cons rfl (.cons rfl (.cons rfl (.nil _)))))))) ?_
  have hK := delegate_Delegations_Reach_B4_ok hg hbd hz _ _ hr0 hr1 hS hb hBd_0 h142 hseen_9 h157 ht_27
  exact ke_weaken (l' := [(0, .pointer (some ⟨gd_0, 0, none⟩)), (1, str to_1), (2, str s_2), (3, .int .i64 now_3), (9, vseen_9), (10, v156), (27, .pointer (some ⟨rt_27, 0, none⟩))]) (.cons rfl (.cons rfl (.cons rfl (.cons rfl (.cons rfl (.cons rfl (.cons rfl (.nil _)))))))) hK
 ·replace hS := ite_false' hS hc146
  refine ke_skip ?_
  have hK := delegate_Delegations_Reach_B4_ok hg hbd hz _ _ hr0 hr1 hS hb hBd_0 h142 hseen_9 hqueue_10 ht_27
  exact ke_weaken (l' := [(0, .pointer (some ⟨gd_0, 0, none⟩)), (1, str to_1), (2, str s_2), (3, .int .i64 now_3), (9, vseen_9), (10, vqueue_10), (27, .pointer (some ⟨rt_27, 0, none⟩))]) (.cons rfl (.cons rfl (.cons rfl (.cons rfl (.cons rfl (.cons rfl (.cons rfl (.nil _)))))))) hK
theorem delegate_Delegations_Reach_L2_ok {w0 : World} (hg : Gs w0) {ρA : Tags} (hbd : ∀ b, ρA b ≠ 0 → b < w0.heap.size) (hz : Gz (flat1 ρA)) (r0 : delegate_Delegations → Str → Str → Int → GMap Str Bool → List Str → Option (List Str))
  (hr0 : ∀ {r : List Str} {od_0 : delegate_Delegations} {to_1 : Str} {s_2 : Str} {now_3 : Int} {seen_9 : GMap Str Bool} {queue_10 : List Str} {gd_0 : Nat} {vseen_9 : Value} {vqueue_10 : Value}, r0 od_0 to_1 s_2 now_3 seen_9 queue_10 = some r → ∀ {ρ : Tags} {w : World}, (Fr (flat1 ρA) w0 ρ w) → (delegate_Delegations.O (fun _ => 1) ρ w gd_0 od_0) → (MapT str boolC false ρ 17 w vseen_9 seen_9) → (OffT strC 9 ρ 21 w vqueue_10 queue_10) → KE Try.prog 20 (Ret (fun v w' => ∃ x1, v = x1 ∧ SlR strC (Wb ρA) w' x1 r ∧ Below w0.heap.size w0 w')) 72 [.inLoop (sub (bodyOf Try.f20) [2, 2, 2, 2, 1, 2, 1]), .inBlock 0, .code (sub (bodyOf Try.f20) [2, 2, 2, 2, 2])] [(0, .pointer (some ⟨gd_0, 0, none⟩)), (1, str to_1), (2, str s_2), (3, .int .i64 now_3), (9, vseen_9), (10, vqueue_10)] w) : ∀ (n : Nat), ∀ {r : List Str} {od_0 : delegate_Delegations} {to_1 : Str} {s_2 : Str} {now_3 : Int} {seen_9 : GMap Str Bool} {queue_10 : List Str} {t_27 : List delegate_way} {gd_0 : Nat} {v36 : Value} {vseen_9 : Value} {vqueue_10 : Value} {rt_27 : Nat}, delegate_Delegations_Reach_L2 r0 n od_0 to_1 s_2 now_3 seen_9 queue_10 t_27 = some r → ∀ {ρ : Tags} {w : World}, (Fr (flat1 ρA) w0 ρ w) → (Blk ρ 1 w gd_0 (.cells #[v36] 54 (0, 0))) → (MapT delegate_way.ek delegate_delegation.c true ρ 1 w v36 od_0.ways) → (MapT str boolC false ρ 17 w vseen_9 seen_9) → (OffT strC 9 ρ 21 w vqueue_10 queue_10) → (IterT delegate_way.ek delegate_delegation.c true ρ 1 29 w rt_27 v36 od_0.ways t_27) → KE Try.prog 20 (Ret (fun v w' => ∃ x1, v = x1 ∧ SlR strC (Wb ρA) w' x1 r ∧ Below w0.heap.size w0 w')) 72 [.code (sub (bodyOf Try.f20) [2, 2, 2, 2, 1, 2, 1, 2, 2, 1, 2, 2, 1]), .inLoop (sub (bodyOf Try.f20) [2, 2, 2, 2, 1, 2, 1, 2, 2, 1, 2, 2, 1]), .inBlock 2, .code (sub (bodyOf Try.f20) [2, 2, 2, 2, 1, 2, 1, 2, 2, 2]), .inBlock 1, .inLoop (sub (bodyOf Try.f20) [2, 2, 2, 2, 1, 2, 1]), .inBlock 0, .code (sub (bodyOf Try.f20) [2, 2, 2, 2, 2])] [(0, .pointer (some ⟨gd_0, 0, none⟩)), (1, str to_1), (2, str s_2), (3, .int .i64 now_3), (9, vseen_9), (10, vqueue_10), (27, .pointer (some ⟨rt_27, 0, none⟩))] w := by
 intro n
 induction n with
 | zero => intro r od_0 to_1 s_2 now_3 seen_9 queue_10 t_27 gd_0 v36 vseen_9 vqueue_10 rt_27 hS; cases hS
 | succ n ih =>
  have hr1 : ∀ {r : List Str} {od_0 : delegate_Delegations} {to_1 : Str} {s_2 : Str} {now_3 : Int} {seen_9 : GMap Str Bool} {queue_10 : List Str} {t_27 : List delegate_way} {gd_0 : Nat} {v36 : Value} {vseen_9 : Value} {vqueue_10 : Value} {rt_27 : Nat}, delegate_Delegations_Reach_L2 r0 n od_0 to_1 s_2 now_3 seen_9 queue_10 t_27 = some r → ∀ {ρ : Tags} {w : World}, (Fr (flat1 ρA) w0 ρ w) → (Blk ρ 1 w gd_0 (.cells #[v36] 54 (0, 0))) → (MapT delegate_way.ek delegate_delegation.c true ρ 1 w v36 od_0.ways) → (MapT str boolC false ρ 17 w vseen_9 seen_9) → (OffT strC 9 ρ 21 w vqueue_10 queue_10) → (IterT delegate_way.ek delegate_delegation.c true ρ 1 29 w rt_27 v36 od_0.ways t_27) → KE Try.prog 20 (Ret (fun v w' => ∃ x1, v = x1 ∧ SlR strC (Wb ρA) w' x1 r ∧ Below w0.heap.size w0 w')) 72 [.inLoop (sub (bodyOf Try.f20) [2, 2, 2, 2, 1, 2, 1, 2, 2, 1, 2, 2, 1]), .inBlock 2, .code (sub (bodyOf Try.f20) [2, 2, 2, 2, 1, 2, 1, 2, 2, 2]), .inBlock 1, .inLoop (sub (bodyOf Try.f20) [2, 2, 2, 2, 1, 2, 1]), .inBlock 0, .code (sub (bodyOf Try.f20) [2, 2, 2, 2, 2])] [(0, .pointer (some ⟨gd_0, 0, none⟩)), (1, str to_1), (2, str s_2), (3, .int .i64 now_3), (9, vseen_9), (10, vqueue_10), (27, .pointer (some ⟨rt_27, 0, none⟩))] w := fun {r} {od_0} {to_1} {s_2} {now_3} {seen_9} {queue_10} {t_27} {gd_0} {v36} {vseen_9} {vqueue_10} {rt_27} hS {ρ} {w} hb hBd_0 h37 hseen_9 hqueue_10 ht_27 => ke_inLoop (ih hS hb hBd_0 h37 hseen_9 hqueue_10 ht_27)
  clear ih
  intro r od_0 to_1 s_2 now_3 seen_9 queue_10 t_27 gd_0 v36 vseen_9 vqueue_10 rt_27 hS ρ w hb hBd_0 h37 hseen_9 hqueue_10 ht_27
  unfold delegate_Delegations_Reach_L2 at hS
  refine ke_seq ?_
  refine ke_region ?_
  refine sr_nextM ht_27 rfl (by decide) hb.bd hS rfl (by decide) (fun hS => ?_) (fun e41 cs42 w43 hS hrd45 ht_271 htr44 hent46 => ?_)
  ·refine sr_ev (v := .bool false) (ev_extract rfl rfl) (by decide) ?_
   refine sr_end (l' := [(0, .pointer (some ⟨gd_0, 0, none⟩)), (1, str to_1), (2, str s_2), (3, .int .i64 now_3), (9, vseen_9), (10, vqueue_10), (27, .pointer (some ⟨rt_27, 0, none⟩)), (29, .bool false)]) (.cons rfl (.cons rfl (.cons rfl (.cons rfl (.cons rfl (.cons rfl (.cons rfl (.cons rfl (.nil _))))))))) ?_
   refine ke_seq ?_
   refine ke_cond (t := false) rfl (fun h => by cases h) (fun _ => ?_)
   refine ke_exit (k' := _) rfl ?_
   refine ke_region ?_
   refine sr_ev (v := vqueue_10) (ev_move rfl) (by decide) ?_
   obtain ⟨hk166, hS⟩ := chk_some hS
   obtain ⟨v167, h168, hq169⟩ := (hqueue_10).cutT_l (P := Try.prog) Try.underlying23 Try.info9 rfl hk166
   refine sr_ev (v := v167) (hq169 w rfl rfl) (by decide) ?_
   refine sr_ev (v := v167) (ev_assign rfl) (by decide) ?_
   refine sr_end (l' := [(0, .pointer (some ⟨gd_0, 0, none⟩)), (1, str to_1), (2, str s_2), (3, .int .i64 now_3), (9, vseen_9), (10, v167)]) (.cons rfl (.cons rfl (.cons rfl (.cons rfl (.cons rfl (.cons rfl (.nil _))))))) ?_
   refine ke_inBlock ?_
   have hK := hr0 hS hb ⟨_, hBd_0, h37⟩ hseen_9 h168
   exact ke_weaken (l' := [(0, .pointer (some ⟨gd_0, 0, none⟩)), (1, str to_1), (2, str s_2), (3, .int .i64 now_3), (9, vseen_9), (10, v167)]) (.cons rfl (.cons rfl (.cons rfl (.cons rfl (.cons rfl (.cons rfl (.nil _))))))) hK
  ·skip
   replace hseen_9 := hseen_9.mv (htr44.mv (i := 17) rfl)
   replace hqueue_10 := hqueue_10.mv (htr44.mv (i := 21) rfl) (by decide)
   replace h37 := h37.mv (htr44.mv (i := 1) rfl)
   replace hBd_0 := hBd_0.mv (htr44.mv (i := 1) rfl)
   replace hb := hb.trans htr44
   replace ht_27 := ht_271
   clear ht_271
   obtain ⟨v47, hcshrd45, h48⟩ := hrd45
   obtain rfl : cs42 = [v47, .int .i64 e41.2.window.From, .int .i64 e41.2.window.Until] := hcshrd45
   refine sr_ev (v := .bool true) (ev_extract rfl rfl) (by decide) ?_
   refine sr_end (l' := [(0, .pointer (some ⟨gd_0, 0, none⟩)), (1, str to_1), (2, str s_2), (3, .int .i64 now_3), (9, vseen_9), (10, vqueue_10), (27, .pointer (some ⟨rt_27, 0, none⟩)), (29, .bool true)]) (.cons rfl (.cons rfl (.cons rfl (.cons rfl (.cons rfl (.cons rfl (.cons rfl (.cons rfl (.nil _))))))))) ?_
   refine ke_seq ?_
   refine ke_cond (t := true) rfl (fun _ => ?_) (fun h => by cases h)
   refine ke_skip ?_
   refine ke_block ?_
   refine ke_seq ?_
   refine ke_region ?_
   refine sr_ev (v := .tuple #[.agg #[str e41.1.from_, str e41.1.to_], .agg #[v47, .int .i64 e41.2.window.From, .int .i64 e41.2.window.Until]]) (hent46 rfl) (by decide) ?_
   refine sr_ev (v := .agg #[str e41.1.from_, str e41.1.to_]) (ev_extract rfl rfl) (by decide) ?_
   refine sr_allocT 13 (by decide) hb.bd Try.zeroValue63 (by decide) ?_
   intro g49 ρ50 w51 hB53 htr52
   replace hseen_9 := hseen_9.mv (htr52.mv (i := 17) rfl)
   replace hqueue_10 := hqueue_10.mv (htr52.mv (i := 21) rfl) (by decide)
   replace ht_27 := ht_27.mv (htr52.mv (i := 1) rfl) (htr52.mv (i := 29) rfl)
   replace h37 := h37.mv (htr52.mv (i := 1) rfl)
   replace hBd_0 := hBd_0.mv (htr52.mv (i := 1) rfl)
   replace hb := hb.trans htr52
   replace hB53 : Blk ρ50 13 w51 g49 (.cells #[str ([]), str ([])] 63 (0, 0)) := hB53
   refine sr_storeT (v := .agg #[str e41.1.from_, str e41.1.to_]) (vs := [str e41.1.from_, str e41.1.to_]) (cs' := #[str e41.1.from_, str e41.1.to_]) hB53 (by decide) hb.bd rfl rfl rfl Try.sizeOf63 rfl rfl rfl ?_
   intro w54 hB531 htr55
   replace hseen_9 := hseen_9.mv (htr55.mv (i := 17) rfl)
   replace hqueue_10 := hqueue_10.mv (htr55.mv (i := 21) rfl) (by decide)
   replace ht_27 := ht_27.mv (htr55.mv (i := 1) rfl) (htr55.mv (i := 29) rfl)
   replace h37 := h37.mv (htr55.mv (i := 1) rfl)
   replace hBd_0 := hBd_0.mv (htr55.mv (i := 1) rfl)
   replace hb := hb.trans htr55
   replace hB53 : Blk ρ50 13 w54 g49 (.cells #[str e41.1.from_, str e41.1.to_] 63 (0, 0)) := hB531
   clear hB531
   refine sr_end (l' := [(0, .pointer (some ⟨gd_0, 0, none⟩)), (1, str to_1), (2, str s_2), (3, .int .i64 now_3), (9, vseen_9), (10, vqueue_10), (11, .pointer (some ⟨g49, 0, none⟩)), (27, .pointer (some ⟨rt_27, 0, none⟩))]) (.cons rfl (.cons rfl (.cons rfl (.cons rfl (.cons rfl (.cons rfl (.cons rfl (.cons rfl (.nil _))))))))) ?_
   refine ke_seq ?_
   refine ke_region_j (ρ := ρ50) (fun _ => false) 25 Try.mixed (fun w57 hw56 => ?_)
   have htr58 := Tr.of_below hw56 hb.bd
   replace hseen_9 := hseen_9.mv (htr58.mv (i := 17) rfl)
   replace hqueue_10 := hqueue_10.mv (htr58.mv (i := 21) rfl) (by decide)
   replace ht_27 := ht_27.mv (htr58.mv (i := 1) rfl) (htr58.mv (i := 29) rfl)
   replace h37 := h37.mv (htr58.mv (i := 1) rfl)
   replace hB53 := hB53.mv (htr58.mv (i := 13) rfl)
   replace hBd_0 := hBd_0.mv (htr58.mv (i := 1) rfl)
   replace hb := hb.trans htr58
   refine dj_H 0 (v := .pointer (some ⟨g49, 1, none⟩)) (by kernel_rfl) (by kernel_rfl) rfl (fun _ _ _ h => h) (sj_refl hb.bd rfl rfl) (fun w1 ρ1 hw1 => ev_fieldAddr (i := 1) Try.underlying63 rfl Try.info9 rfl rfl) (by decide) ?_
   refine dj_H 1 (v := str e41.1.to_) (by kernel_rfl) (by kernel_rfl) rfl (fun _ _ _ h => h) (sj_refl hb.bd rfl rfl) (fun w1 ρ1 hw1 => ev_load Try.isAgg9 rfl ((hB53.mv (hw1.mv (i := 13) rfl)).cell rfl)) (by decide) ?_
   refine dj_H 2 (v := vqueue_10) (by kernel_rfl) (by kernel_rfl) rfl (fun _ _ _ h => h) (sj_refl hb.bd rfl rfl) (fun w1 ρ1 hw1 => ev_move rfl) (by decide) ?_
   obtain ⟨y114, hy115, hS⟩ := bind_some' hS
   obtain ⟨b116, o117, cs119, hq120, he118⟩ := (hqueue_10.sl).elem (P := Try.prog) Try.underlying23 Try.info9 rfl hy115
   obtain rfl : cs119 = [str y114] := he118.rd
   refine dj_H 3 (v := .pointer (some ⟨b116, o117, none⟩)) (by kernel_rfl) (by kernel_rfl) rfl (fun _ _ _ h => h) (sj_refl hb.bd rfl rfl) (fun w1 ρ1 hw1 => hq120 w1 rfl rfl) (by decide) ?_
   refine dj_H 4 (v := str y114) (by kernel_rfl) (by kernel_rfl) rfl (fun _ _ _ h => h) (sj_refl hb.bd rfl rfl) (fun w1 ρ1 hw1 => ev_load Try.isAgg9 rfl ((he118.mv (hw1.mv (i := 21) rfl) (Nat.succ_pos _)).cell 0 _ rfl)) (by decide) ?_
   refine dj_H 5 (v := .bool (e41.1.to_ == y114)) (by kernel_rfl) (by kernel_rfl) rfl (fun _ _ _ h => h) (sj_refl hb.bd rfl rfl) (fun w1 ρ1 hw1 => ev_seq rfl rfl) (by decide) ?_
   refine dj_H 6 (v := .bool (e41.1.to_ == y114)) (by kernel_rfl) (by kernel_rfl) rfl (fun _ _ _ h => h) (sj_refl hb.bd rfl rfl) (fun w1 ρ1 hw1 => ev_move rfl) (by decide) ?_
   rcases Bool.eq_false_or_eq_true (e41.1.to_ == y114) with hg121 | hg121
   ·replace hS := ite_true' hS hg121
    refine dj_Hg 7 (v := vseen_9) (by kernel_rfl) (by kernel_rfl) rfl rfl rfl hg121 (fun _ _ _ h => h) (sj_refl hb.bd rfl rfl) (fun w1 ρ1 hw1 => ev_move rfl) (by decide) ?_
    refine dj_Hg 8 (v := .pointer (some ⟨g49, 0, none⟩)) (by kernel_rfl) (by kernel_rfl) rfl rfl rfl hg121 (fun _ _ _ h => h) (sj_refl hb.bd rfl rfl) (fun w1 ρ1 hw1 => ev_fieldAddr (i := 0) Try.underlying63 rfl Try.info9 rfl rfl) (by decide) ?_
    refine dj_Hg 9 (v := str e41.1.from_) (by kernel_rfl) (by kernel_rfl) rfl rfl rfl hg121 (fun _ _ _ h => h) (sj_refl hb.bd rfl rfl) (fun w1 ρ1 hw1 => ev_load Try.isAgg9 rfl ((hB53.mv (hw1.mv (i := 13) rfl)).cell rfl)) (by decide) ?_
    obtain ⟨y126, hy127, hS⟩ := bind_some' hS
    replace hy127 := Option.some.inj hy127
    obtain ⟨cs122, hrd123, hl124, hl125⟩ := hseen_9.look (zcs := [.bool false]) (z := false) Try.keyB9 Try.underlying67 Try.zeroValue4 rfl e41.1.from_
    rw [hy127] at hrd123
    obtain rfl : cs122 = [.bool y126] := hrd123
    refine dj_Hg 10 (v := .bool y126) (by kernel_rfl) (by kernel_rfl) rfl rfl rfl hg121 (fun _ _ _ h => h) (sj_refl hb.bd rfl rfl) (fun w1 ρ1 hw1 => hl124 w1 _ _ (hw1.mv (i := 17) rfl) rfl rfl) (by decide) ?_
    refine dj_Hg 11 (v := .bool (!y126)) (by kernel_rfl) (by kernel_rfl) rfl rfl rfl hg121 (fun _ _ _ h => h) (sj_refl hb.bd rfl rfl) (fun w1 ρ1 hw1 => ev_not rfl) (by decide) ?_
    refine dj_H 12 (v := .bool (!y126)) (by kernel_rfl) (by kernel_rfl) rfl (fun _ _ _ h => h) (sj_refl hb.bd rfl rfl) (fun w1 ρ1 hw1 => ev_pick_t rfl hg121 rfl) (by decide) ?_
    refine dj_H 13 (v := .bool (!y126)) (by kernel_rfl) (by kernel_rfl) rfl (fun _ _ _ h => h) (sj_refl hb.bd rfl rfl) (fun w1 ρ1 hw1 => ev_move rfl) (by decide) ?_
    rcases Bool.eq_false_or_eq_true (!y126) with hg128 | hg128
    ·replace hS := ite_true' hS hg128
     refine dj_Hg 14 (v := .pointer (some ⟨gd_0, 0, none⟩)) (by kernel_rfl) (by kernel_rfl) rfl rfl rfl hg128 (fun _ _ _ h => h) (sj_refl hb.bd rfl rfl) (fun w1 ρ1 hw1 => ev_move rfl) (by decide) ?_
     refine dj_Hg 15 (v := .pointer (some ⟨g49, 0, none⟩)) (by kernel_rfl) (by kernel_rfl) rfl rfl rfl hg128 (fun _ _ _ h => h) (sj_refl hb.bd rfl rfl) (fun w1 ρ1 hw1 => ev_fieldAddr (i := 0) Try.underlying63 rfl Try.info9 rfl rfl) (by decide) ?_
     refine dj_Hg 16 (v := str e41.1.from_) (by kernel_rfl) (by kernel_rfl) rfl rfl rfl hg128 (fun _ _ _ h => h) (sj_refl hb.bd rfl rfl) (fun w1 ρ1 hw1 => ev_load Try.isAgg9 rfl ((hB53.mv (hw1.mv (i := 13) rfl)).cell rfl)) (by decide) ?_
     refine dj_Hg 17 (v := .pointer (some ⟨g49, 1, none⟩)) (by kernel_rfl) (by kernel_rfl) rfl rfl rfl hg128 (fun _ _ _ h => h) (sj_refl hb.bd rfl rfl) (fun w1 ρ1 hw1 => ev_fieldAddr (i := 1) Try.underlying63 rfl Try.info9 rfl rfl) (by decide) ?_
     refine dj_Hg 18 (v := str e41.1.to_) (by kernel_rfl) (by kernel_rfl) rfl rfl rfl hg128 (fun _ _ _ h => h) (sj_refl hb.bd rfl rfl) (fun w1 ρ1 hw1 => ev_load Try.isAgg9 rfl ((hB53.mv (hw1.mv (i := 13) rfl)).cell rfl)) (by decide) ?_
     refine dj_Hg 19 (v := str s_2) (by kernel_rfl) (by kernel_rfl) rfl rfl rfl hg128 (fun _ _ _ h => h) (sj_refl hb.bd rfl rfl) (fun w1 ρ1 hw1 => ev_move rfl) (by decide) ?_
     refine dj_Hg 21 (v := .int .i64 now_3) (by kernel_rfl) (by kernel_rfl) rfl rfl rfl hg128 (fun _ _ _ h => h) (sj_refl hb.bd rfl rfl) (fun w1 ρ1 hw1 => ev_move rfl) (by decide) ?_
     refine dj_E 20 (by kernel_rfl) rfl ?_
     have jt129 : Tr ρ50 w57 (fun _ => false) ρ50 w57 := (Tr.refl hb.bd).weak (fun _ _ => rfl) rfl rfl
     refine sr_unguard rfl rfl hg128 ?_
     refine sr_litT (c := strC) (ρ := ρ50) (E := 9) (xs := [s_2]) (vs := #[(0, str s_2)]) (cs := #[str s_2]) (css := [[str s_2]]) rfl (fun _ => by kernel_rfl) rfl ⟨rfl, trivial⟩ rfl (by decide) hb.bd (by decide) ?_
     intro v130 w132 h131 hbw134
     have htr133 := Tr.of_below hbw134 hb.bd
     replace hseen_9 := hseen_9.mv (htr133.mv (i := 17) rfl)
     replace hqueue_10 := hqueue_10.mv (htr133.mv (i := 21) rfl) (by decide)
     replace ht_27 := ht_27.mv (htr133.mv (i := 1) rfl) (htr133.mv (i := 29) rfl)
     replace h37 := h37.mv (htr133.mv (i := 1) rfl)
     replace hB53 := hB53.mv (htr133.mv (i := 13) rfl)
     replace hBd_0 := hBd_0.mv (htr133.mv (i := 1) rfl)
     replace hb := hb.trans htr133
     replace jt129 := (jt129.trans htr133).weak (J' := (fun _ => false)) (by intro t h; simp [rng] at h ⊢ <;> omega) rfl rfl
     refine dj_next (l' := [(0, .pointer (some ⟨gd_0, 0, none⟩)), (1, str to_1), (2, str s_2), (3, .int .i64 now_3), (9, vseen_9), (10, vqueue_10), (11, .pointer (some ⟨g49, 0, none⟩)), (27, .pointer (some ⟨rt_27, 0, none⟩)), (45, .bool (!y126)), (46, .pointer (some ⟨gd_0, 0, none⟩)), (48, str e41.1.from_), (50, str e41.1.to_), (52, v130), (53, .int .i64 now_3)]) rfl (.cons rfl (.cons rfl (.cons rfl (.cons rfl (.cons rfl (.cons rfl (.cons rfl (.cons rfl (.cons rfl (.cons rfl (.cons rfl (.cons rfl (.cons rfl (.cons rfl (.nil _))))))))))))))) jt129 (by intro t h; simp [rng] at h ⊢ <;> omega) rfl rfl ?_
     refine dj_E 22 (by kernel_rfl) rfl ?_
     have jt135 : Tr ρ50 w132 (fun _ => false) ρ50 w132 := (Tr.refl hb.bd).weak (fun _ _ => rfl) rfl rfl
     obtain ⟨y136, hy137, hS⟩ := bind_some' hS
     refine sr_callg (b := true) (e := 45) rfl rfl hg128 (vs := [.pointer (some ⟨gd_0, 0, none⟩), str e41.1.from_, str e41.1.to_, v130, .int .i64 now_3]) rfl Try.call26 rfl (delegate_Delegations_May_ok _ (hg.fr hz hb) (ρA := ρ50) hb.bd (hz.fr hg hb) (τ0 := (fun _ => 1)) (fun _ => Nat.le_refl 1) h131 (⟨_, hBd_0, h37⟩ : delegate_Delegations.O (fun _ => 1) ρ50 w132 gd_0 od_0) hy137) (by decide) ?_
     rintro _ w138 ⟨rfl, hbw139⟩
     have htr140 := Tr.of_below hbw139 hb.bd
     replace hseen_9 := hseen_9.mv (htr140.mv (i := 17) rfl)
     replace hqueue_10 := hqueue_10.mv (htr140.mv (i := 21) rfl) (by decide)
     replace ht_27 := ht_27.mv (htr140.mv (i := 1) rfl) (htr140.mv (i := 29) rfl)
     replace h37 := h37.mv (htr140.mv (i := 1) rfl)
     replace hB53 := hB53.mv (htr140.mv (i := 13) rfl)
     replace hBd_0 := hBd_0.mv (htr140.mv (i := 1) rfl)
     replace hb := hb.trans htr140
     replace jt135 := (jt135.trans htr140).weak (J' := (fun _ => false)) (by intro t h; simp [rng] at h ⊢ <;> omega) rfl rfl
     refine dj_next (l' := [(0, .pointer (some ⟨gd_0, 0, none⟩)), (1, str to_1), (2, str s_2), (3, .int .i64 now_3), (9, vseen_9), (10, vqueue_10), (11, .pointer (some ⟨g49, 0, none⟩)), (27, .pointer (some ⟨rt_27, 0, none⟩)), (45, .bool (!y126)), (54, .int .i64 y136)]) rfl (.cons rfl (.cons rfl (.cons rfl (.cons rfl (.cons rfl (.cons rfl (.cons rfl (.cons rfl (.cons rfl (.cons rfl (.nil _))))))))))) jt135 (by intro t h; simp [rng] at h ⊢ <;> omega) rfl rfl ?_
     refine dj_Hg 23 (v := .bool (y136 == 0)) (by kernel_rfl) (by kernel_rfl) rfl rfl rfl hg128 (fun _ _ _ h => h) (sj_refl hb.bd rfl rfl) (fun w1 ρ1 hw1 => ev_eq rfl rfl) (by decide) ?_
     refine dj_H 24 (v := .bool (y136 == 0)) (by kernel_rfl) (by kernel_rfl) rfl (fun _ _ _ h => h) (sj_refl hb.bd rfl rfl) (fun w1 ρ1 hw1 => ev_pick_t rfl hg128 rfl) (by decide) ?_
     refine dj_done rfl (by kernel_rfl) ?_
     refine ke_weaken (l' := [(0, .pointer (some ⟨gd_0, 0, none⟩)), (1, str to_1), (2, str s_2), (3, .int .i64 now_3), (9, vseen_9), (10, vqueue_10), (11, .pointer (some ⟨g49, 0, none⟩)), (27, .pointer (some ⟨rt_27, 0, none⟩)), (56, .bool (y136 == 0))]) (.cons rfl (.cons rfl (.cons rfl (.cons rfl (.cons rfl (.cons rfl (.cons rfl (.cons rfl (.cons rfl (.nil _)))))))))) ?_
     have hK := delegate_Delegations_Reach_B3_ok hg hbd hz _ _ hr0 hr1 hS hb hBd_0 h37 hseen_9 hqueue_10 hB53 ht_27
     exact ke_weaken (l' := [(0, .pointer (some ⟨gd_0, 0, none⟩)), (1, str to_1), (2, str s_2), (3, .int .i64 now_3), (9, vseen_9), (10, vqueue_10), (11, .pointer (some ⟨g49, 0, none⟩)), (27, .pointer (some ⟨rt_27, 0, none⟩)), (56, .bool (y136 == 0))]) (.cons rfl (.cons rfl (.cons rfl (.cons rfl (.cons rfl (.cons rfl (.cons rfl (.cons rfl (.cons rfl (.nil _)))))))))) hK
    ·replace hS := ite_false' hS hg128
     refine dj_pass 14 (e := 45) (by kernel_rfl) (by kernel_rfl) rfl rfl rfl rfl rfl (by rw [hg128]; rfl) (fun _ _ _ h => h) (sj_refl hb.bd rfl rfl) (by decide) ?_
     refine dj_pass 15 (e := 45) (by kernel_rfl) (by kernel_rfl) rfl rfl rfl rfl rfl (by rw [hg128]; rfl) (fun _ _ _ h => h) (sj_refl hb.bd rfl rfl) (by decide) ?_
     refine dj_pass 16 (e := 45) (by kernel_rfl) (by kernel_rfl) rfl rfl rfl rfl rfl (by rw [hg128]; rfl) (fun _ _ _ h => h) (sj_refl hb.bd rfl rfl) (by decide) ?_
     refine dj_pass 17 (e := 45) (by kernel_rfl) (by kernel_rfl) rfl rfl rfl rfl rfl (by rw [hg128]; rfl) (fun _ _ _ h => h) (sj_refl hb.bd rfl rfl) (by decide) ?_
     refine dj_pass 18 (e := 45) (by kernel_rfl) (by kernel_rfl) rfl rfl rfl rfl rfl (by rw [hg128]; rfl) (fun _ _ _ h => h) (sj_refl hb.bd rfl rfl) (by decide) ?_
     refine dj_pass 19 (e := 45) (by kernel_rfl) (by kernel_rfl) rfl rfl rfl rfl rfl (by rw [hg128]; rfl) (fun _ _ _ h => h) (sj_refl hb.bd rfl rfl) (by decide) ?_
     refine dj_pass 20 (e := 45) (by kernel_rfl) (by kernel_rfl) rfl rfl rfl rfl rfl (by rw [hg128]; rfl) (fun _ _ _ h => h) (sj_refl hb.bd rfl rfl) (by decide) ?_
     refine dj_pass 21 (e := 45) (by kernel_rfl) (by kernel_rfl) rfl rfl rfl rfl rfl (by rw [hg128]; rfl) (fun _ _ _ h => h) (sj_refl hb.bd rfl rfl) (by decide) ?_
     refine dj_pass 22 (e := 45) (by kernel_rfl) (by kernel_rfl) rfl rfl rfl rfl rfl (by rw [hg128]; rfl) (fun _ _ _ h => h) (sj_refl hb.bd rfl rfl) (by decide) ?_
     refine dj_pass 23 (e := 45) (by kernel_rfl) (by kernel_rfl) rfl rfl rfl rfl rfl (by rw [hg128]; rfl) (fun _ _ _ h => h) (sj_refl hb.bd rfl rfl) (by decide) ?_
     refine dj_H 24 (v := .bool false) (by kernel_rfl) (by kernel_rfl) rfl (fun _ _ _ h => h) (sj_refl hb.bd rfl rfl) (fun w1 ρ1 hw1 => ev_pick_f rfl hg128 rfl) (by decide) ?_
     refine dj_done rfl (by kernel_rfl) ?_
     refine ke_weaken (l' := [(0, .pointer (some ⟨gd_0, 0, none⟩)), (1, str to_1), (2, str s_2), (3, .int .i64 now_3), (9, vseen_9), (10, vqueue_10), (11, .pointer (some ⟨g49, 0, none⟩)), (27, .pointer (some ⟨rt_27, 0, none⟩)), (56, .bool false)]) (.cons rfl (.cons rfl (.cons rfl (.cons rfl (.cons rfl (.cons rfl (.cons rfl (.cons rfl (.cons rfl (.nil _)))))))))) ?_
     have hK := delegate_Delegations_Reach_B3_ok hg hbd hz _ _ hr0 hr1 hS hb hBd_0 h37 hseen_9 hqueue_10 hB53 ht_27
     exact ke_weaken (l' := [(0, .pointer (some ⟨gd_0, 0, none⟩)), (1, str to_1), (2, str s_2), (3, .int .i64 now_3), (9, vseen_9), (10, vqueue_10), (11, .pointer (some ⟨g49, 0, none⟩)), (27, .pointer (some ⟨rt_27, 0, none⟩)), (56, .bool false)]) (.cons rfl (.cons rfl (.cons rfl (.cons rfl (.cons rfl (.cons rfl (.cons rfl (.cons rfl (.cons rfl (.nil _)))))))))) hK
   ·replace hS := ite_false' hS hg121
    refine dj_pass 7 (e := 38) (by kernel_rfl) (by kernel_rfl) rfl rfl rfl rfl rfl (by rw [hg121]; rfl) (fun _ _ _ h => h) (sj_refl hb.bd rfl rfl) (by decide) ?_
    refine dj_pass 8 (e := 38) (by kernel_rfl) (by kernel_rfl) rfl rfl rfl rfl rfl (by rw [hg121]; rfl) (fun _ _ _ h => h) (sj_refl hb.bd rfl rfl) (by decide) ?_
    refine dj_pass 9 (e := 38) (by kernel_rfl) (by kernel_rfl) rfl rfl rfl rfl rfl (by rw [hg121]; rfl) (fun _ _ _ h => h) (sj_refl hb.bd rfl rfl) (by decide) ?_
    refine dj_pass 10 (e := 38) (by kernel_rfl) (by kernel_rfl) rfl rfl rfl rfl rfl (by rw [hg121]; rfl) (fun _ _ _ h => h) (sj_refl hb.bd rfl rfl) (by decide) ?_
    refine dj_pass 11 (e := 38) (by kernel_rfl) (by kernel_rfl) rfl rfl rfl rfl rfl (by rw [hg121]; rfl) (fun _ _ _ h => h) (sj_refl hb.bd rfl rfl) (by decide) ?_
    refine dj_H 12 (v := .bool false) (by kernel_rfl) (by kernel_rfl) rfl (fun _ _ _ h => h) (sj_refl hb.bd rfl rfl) (fun w1 ρ1 hw1 => ev_pick_f rfl hg121 rfl) (by decide) ?_
    refine dj_H 13 (v := .bool false) (by kernel_rfl) (by kernel_rfl) rfl (fun _ _ _ h => h) (sj_refl hb.bd rfl rfl) (fun w1 ρ1 hw1 => ev_move rfl) (by decide) ?_
    refine dj_pass 14 (e := 45) (by kernel_rfl) (by kernel_rfl) rfl rfl rfl rfl rfl rfl (fun _ _ _ h => h) (sj_refl hb.bd rfl rfl) (by decide) ?_
    refine dj_pass 15 (e := 45) (by kernel_rfl) (by kernel_rfl) rfl rfl rfl rfl rfl rfl (fun _ _ _ h => h) (sj_refl hb.bd rfl rfl) (by decide) ?_
    refine dj_pass 16 (e := 45) (by kernel_rfl) (by kernel_rfl) rfl rfl rfl rfl rfl rfl (fun _ _ _ h => h) (sj_refl hb.bd rfl rfl) (by decide) ?_
    refine dj_pass 17 (e := 45) (by kernel_rfl) (by kernel_rfl) rfl rfl rfl rfl rfl rfl (fun _ _ _ h => h) (sj_refl hb.bd rfl rfl) (by decide) ?_
    refine dj_pass 18 (e := 45) (by kernel_rfl) (by kernel_rfl) rfl rfl rfl rfl rfl rfl (fun _ _ _ h => h) (sj_refl hb.bd rfl rfl) (by decide) ?_
    refine dj_pass 19 (e := 45) (by kernel_rfl) (by kernel_rfl) rfl rfl rfl rfl rfl rfl (fun _ _ _ h => h) (sj_refl hb.bd rfl rfl) (by decide) ?_
    refine dj_pass 20 (e := 45) (by kernel_rfl) (by kernel_rfl) rfl rfl rfl rfl rfl rfl (fun _ _ _ h => h) (sj_refl hb.bd rfl rfl) (by decide) ?_
    refine dj_pass 21 (e := 45) (by kernel_rfl) (by kernel_rfl) rfl rfl rfl rfl rfl rfl (fun _ _ _ h => h) (sj_refl hb.bd rfl rfl) (by decide) ?_
    refine dj_pass 22 (e := 45) (by kernel_rfl) (by kernel_rfl) rfl rfl rfl rfl rfl rfl (fun _ _ _ h => h) (sj_refl hb.bd rfl rfl) (by decide) ?_
    refine dj_pass 23 (e := 45) (by kernel_rfl) (by kernel_rfl) rfl rfl rfl rfl rfl rfl (fun _ _ _ h => h) (sj_refl hb.bd rfl rfl) (by decide) ?_
    refine dj_H 24 (v := .bool false) (by kernel_rfl) (by kernel_rfl) rfl (fun _ _ _ h => h) (sj_refl hb.bd rfl rfl) (fun w1 ρ1 hw1 => ev_pick_f rfl rfl rfl) (by decide) ?_
    refine dj_done rfl (by kernel_rfl) ?_
    refine ke_weaken (l' := [(0, .pointer (some ⟨gd_0, 0, none⟩)), (1, str to_1), (2, str s_2), (3, .int .i64 now_3), (9, vseen_9), (10, vqueue_10), (11, .pointer (some ⟨g49, 0, none⟩)), (27, .pointer (some ⟨rt_27, 0, none⟩)), (56, .bool false)]) (.cons rfl (.cons rfl (.cons rfl (.cons rfl (.cons rfl (.cons rfl (.cons rfl (.cons rfl (.cons rfl (.nil _)))))))))) ?_
    have hK := delegate_Delegations_Reach_B3_ok hg hbd hz _ _ hr0 hr1 hS hb hBd_0 h37 hseen_9 hqueue_10 hB53 ht_27
    exact ke_weaken (l' := [(0, .pointer (some ⟨gd_0, 0, none⟩)), (1, str to_1), (2, str s_2), (3, .int .i64 now_3), (9, vseen_9), (10, vqueue_10), (11, .pointer (some ⟨g49, 0, none⟩)), (27, .pointer (some ⟨rt_27, 0, none⟩)), (56, .bool false)]) (.cons rfl (.cons rfl (.cons rfl (.cons rfl (.cons rfl (.cons rfl (.cons rfl (.cons rfl (.cons rfl (.nil _)))))))))) hK
theorem delegate_Delegations_Reach_L1_ok {w0 : World} (hg : Gs w0) {ρA : Tags} (hbd : ∀ b, ρA b ≠ 0 → b < w0.heap.size) (hz : Gz (flat1 ρA)) : ∀ (n : Nat), ∀ {r : List Str} {od_0 : delegate_Delegations} {to_1 : Str} {s_2 : Str} {now_3 : Int} {seen_9 : GMap Str Bool} {queue_10 : List Str} {gd_0 : Nat} {vseen_9 : Value} {vqueue_10 : Value}, delegate_Delegations_Reach_L1 n od_0 to_1 s_2 now_3 seen_9 queue_10 = some r → ∀ {ρ : Tags} {w : World}, (Fr (flat1 ρA) w0 ρ w) → (delegate_Delegations.O (fun _ => 1) ρ w gd_0 od_0) → (MapT str boolC false ρ 17 w vseen_9 seen_9) → (OffT strC 9 ρ 21 w vqueue_10 queue_10) → KE Try.prog 20 (Ret (fun v w' => ∃ x1, v = x1 ∧ SlR strC (Wb ρA) w' x1 r ∧ Below w0.heap.size w0 w')) 72 [.code (sub (bodyOf Try.f20) [2, 2, 2, 2, 1, 2, 1]), .inLoop (sub (bodyOf Try.f20) [2, 2, 2, 2, 1, 2, 1]), .inBlock 0, .code (sub (bodyOf Try.f20) [2, 2, 2, 2, 2])] [(0, .pointer (some ⟨gd_0, 0, none⟩)), (1, str to_1), (2, str s_2), (3, .int .i64 now_3), (9, vseen_9), (10, vqueue_10)] w := by
 intro n
 induction n with
 | zero => intro r od_0 to_1 s_2 now_3 seen_9 queue_10 gd_0 vseen_9 vqueue_10 hS; cases hS
 | succ n ih =>
  have hr0 : ∀ {r : List Str} {od_0 : delegate_Delegations} {to_1 : Str} {s_2 : Str} {now_3 : Int} {seen_9 : GMap Str Bool} {queue_10 : List Str} {gd_0 : Nat} {vseen_9 : Value} {vqueue_10 : Value}, delegate_Delegations_Reach_L1 n od_0 to_1 s_2 now_3 seen_9 queue_10 = some r → ∀ {ρ : Tags} {w : World}, (Fr (flat1 ρA) w0 ρ w) → (delegate_Delegations.O (fun _ => 1) ρ w gd_0 od_0) → (MapT str boolC false ρ 17 w vseen_9 seen_9) → (OffT strC 9 ρ 21 w vqueue_10 queue_10) → KE Try.prog 20 (Ret (fun v w' => ∃ x1, v = x1 ∧ SlR strC (Wb ρA) w' x1 r ∧ Below w0.heap.size w0 w')) 72 [.inLoop (sub (bodyOf Try.f20) [2, 2, 2, 2, 1, 2, 1]), .inBlock 0, .code (sub (bodyOf Try.f20) [2, 2, 2, 2, 2])] [(0, .pointer (some ⟨gd_0, 0, none⟩)), (1, str to_1), (2, str s_2), (3, .int .i64 now_3), (9, vseen_9), (10, vqueue_10)] w := fun {r} {od_0} {to_1} {s_2} {now_3} {seen_9} {queue_10} {gd_0} {vseen_9} {vqueue_10} hS {ρ} {w} hb hod_0 hseen_9 hqueue_10 => ke_inLoop (ih hS hb hod_0 hseen_9 hqueue_10)
  clear ih
  intro r od_0 to_1 s_2 now_3 seen_9 queue_10 gd_0 vseen_9 vqueue_10 hS ρ w hb hod_0 hseen_9 hqueue_10
  unfold delegate_Delegations_Reach_L1 at hS
  obtain ⟨v25, hB27, h26⟩ := hod_0
  replace hB27 : Blk ρ 1 w gd_0 (.cells #[v25] 54 (0, 0)) := hB27
  replace h26 : MapT delegate_way.ek delegate_delegation.c true ρ 1 w v25 od_0.ways := h26
  refine ke_seq ?_
  refine ke_seq ?_
  refine ke_region ?_
  refine sr_ev (v := vqueue_10) (ev_move rfl) (by decide) ?_
  refine sr_ev (v := .int .i64 (queue_10.length : Int)) (ev_sllen Try.underlying23 rfl hqueue_10.asSl) (by decide) ?_
  refine sr_ev (v := .bool (decide ((queue_10.length : Int) > 0))) (ev_gt rfl rfl) (by decide) ?_
  refine sr_end (l' := [(0, .pointer (some ⟨gd_0, 0, none⟩)), (1, str to_1), (2, str s_2), (3, .int .i64 now_3), (9, vseen_9), (10, vqueue_10), (22, .bool (decide ((queue_10.length : Int) > 0)))]) (.cons rfl (.cons rfl (.cons rfl (.cons rfl (.cons rfl (.cons rfl (.cons rfl (.nil _)))))))) ?_
  refine ke_cond (t := decide ((queue_10.length : Int) > 0)) rfl (fun hc30 => ?_) (fun hc30 => ?_)
  ·replace hS := ite_true' hS hc30
   refine ke_skip ?_
   refine ke_block ?_
   refine ke_seq ?_
   refine ke_seq ?_
   refine ke_region ?_
   refine sr_ev (v := .pointer (some ⟨gd_0, 0, none⟩)) (ev_move rfl) (by decide) ?_
   refine sr_ev (v := .pointer (some ⟨gd_0, 0, none⟩)) (ev_nilCheck rfl) (by decide) ?_
   refine sr_ev (v := .pointer (some ⟨gd_0, 0, none⟩)) (ev_fieldAddr (i := 0) Try.underlying54 rfl Try.info52 rfl rfl) (by decide) ?_
   refine sr_ev (v := v25) (ev_load Try.isAgg52 rfl (hB27.cell rfl)) (by decide) ?_
   refine sr_rangeM 29 (by decide) h26 rfl Try.underlying52 hb.bd rfl (by decide) ?_
   intro r31 ρ32 w33 h34 htr35
   replace hseen_9 := hseen_9.mv (htr35.mv (i := 17) rfl)
   replace hqueue_10 := hqueue_10.mv (htr35.mv (i := 21) rfl) (by decide)
   replace h26 := h26.mv (htr35.mv (i := 1) rfl)
   replace hB27 := hB27.mv (htr35.mv (i := 1) rfl)
   replace hb := hb.trans htr35
   refine sr_end (l' := [(0, .pointer (some ⟨gd_0, 0, none⟩)), (1, str to_1), (2, str s_2), (3, .int .i64 now_3), (9, vseen_9), (10, vqueue_10), (27, .pointer (some ⟨r31, 0, none⟩))]) (.cons rfl (.cons rfl (.cons rfl (.cons rfl (.cons rfl (.cons rfl (.cons rfl (.nil _)))))))) ?_
   refine ke_block ?_
   have hK := delegate_Delegations_Reach_L2_ok hg hbd hz _ hr0 _ hS hb hB27 h26 hseen_9 hqueue_10 h34
   exact ke_weaken (l' := [(0, .pointer (some ⟨gd_0, 0, none⟩)), (1, str to_1), (2, str s_2), (3, .int .i64 now_3), (9, vseen_9), (10, vqueue_10), (27, .pointer (some ⟨r31, 0, none⟩))]) (.cons rfl (.cons rfl (.cons rfl (.cons rfl (.cons rfl (.cons rfl (.cons rfl (.nil _)))))))) (ke_loop hK)
  ·replace hS := ite_false' hS hc30
   refine ke_exit (k' := _) rfl ?_
   refine ke_seq ?_
   refine ke_region ?_
   refine sr_ev (v := vseen_9) (ev_move rfl) (by decide) ?_
   refine sr_ev (v := str to_1) (ev_move rfl) (by decide) ?_
   refine sr_mapDel0 (k := to_1) hseen_9 Try.keyB9 Try.underlying67 (by decide) hb.bd rfl rfl ?_
   intro w170 hseen_91 htr171
   replace hb := hb.trans htr171
   replace hseen_9 := hseen_91
   clear hseen_91
   refine sr_end (l' := [(9, vseen_9)]) (.cons rfl (.nil _)) ?_
   refine ke_seq ?_
   refine ke_region ?_
   refine sr_ev (v := vseen_9) (ev_move rfl) (by decide) ?_
   obtain ⟨y172, hy173, hS⟩ := bind_some' hS
   refine sr_call (vs := [vseen_9]) rfl Try.call41 rfl (keys_call (fun mb W => Try.maps_Keys_41 mb W) hseen_9) (by decide) ?_
   rintro _ _ ⟨rfl, rfl⟩
   refine sr_call (vs := [.func (.func 64) #[] #[.pointer (some ⟨w170.heap.size, 0, none⟩)]]) rfl Try.call40 rfl (sortedKeys_ok (E := 9) Try.underlying9 (fun b nn D0 R w h1 h2 h3 => Try.slices_Sorted_keys_40_41 b nn D0 R w h1 h2 h3) (fun w => Try.slices_Sorted_keys_nil_40_41 w) hseen_9 hb.bd hy173) (by decide) ?_
   rintro v174 w176 hfr178
   obtain ⟨h175, htr177⟩ := freshT (i := 73) (by decide) hb.bd hfr178
   replace hb := hb.trans htr177
   refine sr_ev (v := v174) (ev_assign rfl) (by decide) ?_
   refine sr_end (l' := [(8, v174)]) (.cons rfl (.nil _)) ?_
   have htr179 := frz_tr (ρ := (ownTags ρ 73 v174)) (w := w176) (i := 73) (by decide) hb.bd
   have h180 : SlR strC (Wb (frz (ownTags ρ 73 v174) 73)) w176 v174 y172 := (SlT.mv h175.sl (frz_mv (ρ := (ownTags ρ 73 v174)) (w := w176) (i := 73))).sl
   replace hb := hb.trans htr179
   cases hS
   exact ke_ret1 Try.func20 rfl rfl ⟨_, rfl, _, rfl, (SlR.mv h180 (flat1_back hb hbd)), (hb.below (flat1_le _))⟩
theorem delegate_Delegations_Reach_ok (w0 : World) (hg : Gs w0) {ρA : Tags} (hbd : ∀ b, ρA b ≠ 0 → b < w0.heap.size) (hz : Gz ρA) {τ0 : Nat → Nat} (hτ0 : ∀ p, 1 ≤ τ0 p) {d_0 : delegate_Delegations} {to_1 : Str} {s_2 : Str} {now_3 : Int} {gd_0 : Nat} {r : List Str} (ho0 : delegate_Delegations.O τ0 ρA w0 gd_0 d_0) (hS : delegate_Delegations_Reach d_0 to_1 s_2 now_3 = some r) :
  Calls Try.prog 20 #[.pointer (some ⟨gd_0, 0, none⟩), str to_1, str s_2, .int .i64 now_3] w0 (Ret (fun v w' => ∃ x1, v = x1 ∧ SlR strC (Wb ρA) w' x1 r ∧ Below w0.heap.size w0 w')) := by
 unfold delegate_Delegations_Reach at hS
 have hb := flat1_fr (ρ := ρA) (w := w0) hbd
 have hz := hz.flat1
 obtain ⟨v1, hB3, h2⟩ := ho0
 replace hB3 := hB3.mv (flat1_mv (hτ0 0))
 replace h2 := h2.mv (flat1_mv (hτ0 1))
 replace hB3 : Blk (flat1 ρA) 1 w0 gd_0 (.cells #[v1] 54 (0, 0)) := hB3
 replace h2 : MapT delegate_way.ek delegate_delegation.c true (flat1 ρA) 1 w0 v1 d_0.ways := h2
 refine calls_of_ke Try.func20 rfl (n := 72) rfl rfl (l := [(0, .pointer (some ⟨gd_0, 0, none⟩)), (1, str to_1), (2, str s_2), (3, .int .i64 now_3)]) rfl ?_
 refine ke_seq ?_
 refine ke_region ?_
 refine sr_ev (v := .slice none 0 0) (ev_assign rfl) (by decide) ?_
 refine sr_end (l' := [(0, .pointer (some ⟨gd_0, 0, none⟩)), (1, str to_1), (2, str s_2), (3, .int .i64 now_3)]) (.cons rfl (.cons rfl (.cons rfl (.cons rfl (.nil _))))) ?_
 refine ke_seq ?_
 refine ke_seq ?_
 refine ke_region ?_
 refine sr_ev (v := .pointer (some ⟨gd_0, 0, none⟩)) (ev_move rfl) (by decide) ?_
 obtain ⟨y6, hy7, hS⟩ := bind_some' hS
 refine sr_call (vs := [.pointer (some ⟨gd_0, 0, none⟩)]) rfl Try.call38 rfl (delegate_Delegations_made_ok _ (hg.fr hz hb) (ρA := (flat1 ρA)) hb.bd (hz.fr hg hb) (τ0 := (fun _ => 1)) (fun _ => Nat.le_refl 1) (⟨_, hB3, h2⟩ : delegate_Delegations.O (fun _ => 1) (flat1 ρA) w0 gd_0 d_0) hy7) (by decide) ?_
 rintro _ w8 ⟨rfl, hbw9⟩
 have htr10 := Tr.of_below hbw9 hb.bd
 replace hB3 := hB3.mv (htr10.mv (i := 1) rfl)
 replace h2 := h2.mv (htr10.mv (i := 1) rfl)
 replace hb := hb.trans htr10
 refine sr_ev (v := .bool (!y6)) (ev_not rfl) (by decide) ?_
 refine sr_end (l' := [(0, .pointer (some ⟨gd_0, 0, none⟩)), (1, str to_1), (2, str s_2), (3, .int .i64 now_3), (14, .bool (!y6))]) (.cons rfl (.cons rfl (.cons rfl (.cons rfl (.cons rfl (.nil _)))))) ?_
 refine ke_cond (t := !y6) rfl (fun hc11 => ?_) (fun hc11 => ?_)
 ·replace hS := ite_true' hS hc11
  refine ke_seq ?_
  refine ke_region ?_
  refine sr_ev (v := .slice none 0 0) (ev_assign rfl) (by decide) ?_
  refine sr_end (l' := [(8, .slice none 0 0)]) (.cons rfl (.nil _)) ?_
  cases hS
  exact ke_ret1 Try.func20 rfl rfl ⟨_, rfl, _, rfl, SlR.nil, (hb.below (flat1_le _))⟩
 ·replace hS := ite_false' hS hc11
  refine ke_skip ?_
  refine ke_seq ?_
  refine ke_region ?_
  refine sr_makeMap (K := Str) (V := Bool) (ek := str) (c := boolC) (agg := false) 17 (by decide) hb.bd rfl (by decide) ?_
  intro v12 ρ14 w15 h13 htr16
  replace hB3 := hB3.mv (htr16.mv (i := 1) rfl)
  replace h2 := h2.mv (htr16.mv (i := 1) rfl)
  replace hb := hb.trans htr16
  refine sr_ev (v := str to_1) (ev_move rfl) (by decide) ?_
  obtain ⟨hk17, hS⟩ := chk_some hS
  refine sr_mapIns (k := to_1) (d := true) (u := .bool true) (cs := [.bool true]) h13 hk17 Try.keyB9 Try.underlying67 (by decide) hb.bd rfl rfl rfl rfl rfl ?_
  intro w18 h131 htr19
  replace hB3 := hB3.mv (htr19.mv (i := 1) rfl)
  replace h2 := h2.mv (htr19.mv (i := 1) rfl)
  replace hb := hb.trans htr19
  replace h13 := h131
  clear h131
  refine sr_ev (v := (.map (some v12))) (ev_move rfl) (by decide) ?_
  refine sr_ev (v := (.map (some v12))) (ev_assign rfl) (by decide) ?_
  refine sr_end (l' := [(0, .pointer (some ⟨gd_0, 0, none⟩)), (1, str to_1), (2, str s_2), (3, .int .i64 now_3), (9, (.map (some v12)))]) (.cons rfl (.cons rfl (.cons rfl (.cons rfl (.cons rfl (.nil _)))))) ?_
  refine ke_seq ?_
  refine ke_region ?_
  refine sr_ev (v := str to_1) (ev_move rfl) (by decide) ?_
  refine sr_litOwnT (i := 21) (c := strC) (ρ := ρ14) (E := 9) (xs := [to_1]) (vs := #[(0, str to_1)]) (cs := #[str to_1]) (css := [[str to_1]]) rfl (fun _ => by kernel_rfl) rfl ⟨rfl, trivial⟩ rfl (by decide) (by decide) hb.bd (by decide) ?_
  intro v20 ρ24 w22 h21 htr23
  replace h13 := h13.mv (htr23.mv (i := 17) rfl)
  replace hB3 := hB3.mv (htr23.mv (i := 1) rfl)
  replace h2 := h2.mv (htr23.mv (i := 1) rfl)
  replace hb := hb.trans htr23
  refine sr_ev (v := v20) (ev_assign rfl) (by decide) ?_
  refine sr_end (l' := [(0, .pointer (some ⟨gd_0, 0, none⟩)), (1, str to_1), (2, str s_2), (3, .int .i64 now_3), (9, (.map (some v12))), (10, v20)]) (.cons rfl (.cons rfl (.cons rfl (.cons rfl (.cons rfl (.cons rfl (.nil _))))))) ?_
  refine ke_seq ?_
  refine ke_block ?_
  have hK := delegate_Delegations_Reach_L1_ok hg hbd hz _ hS hb ⟨_, hB3, h2⟩ h13 h21.off
  exact ke_weaken (l' := [(0, .pointer (some ⟨gd_0, 0, none⟩)), (1, str to_1), (2, str s_2), (3, .int .i64 now_3), (9, (.map (some v12))), (10, v20)]) (.cons rfl (.cons rfl (.cons rfl (.cons rfl (.cons rfl (.cons rfl (.nil _))))))) (ke_loop hK)
theorem scope_Sorted_B2_ok {w0 : World} (hg : Gs w0) {A0 : Nat → Prop} (hA0 : ∀ b, A0 b → b < w0.heap.size) (r0 : List Str → List Str → List Str → Int → Int → Option (List Str))
  (hr0 : ∀ {r : List Str} {l_0 : List Str} {out_3 : List Str} {t_8 : List Str} {t_9 : Int} {t_10 : Int} {vl_0 : Value} {vout_3 : Value} {vt_8 : Value}, r0 l_0 out_3 t_8 t_9 t_10 = some r → ∀ {w : World} {A : Nat → Prop}, (Below w0.heap.size w0 w) → (∀ b, A b → b < w.heap.size) → (∀ b, A0 b → A b) → (Hp A w0.heap.size w []) → (SlR strC A w vl_0 l_0) → (OwnS strC 9 A w0.heap.size w vout_3 out_3) → (Dj vout_3 []) → (SlR strC A w vt_8 t_8) → KE Try.prog 34 (Ret (fun v w' => ∃ x1, v = x1 ∧ SlR strC A0 w' x1 r ∧ Below w0.heap.size w0 w')) 48 [.inLoop (sub (bodyOf Try.f34) [2, 1, 2, 2, 1, 2, 2, 1]), .inBlock 0, .code (sub (bodyOf Try.f34) [2, 1, 2, 2, 2]), .inScope (sub (bodyOf Try.f34) [2, 1])] [(0, vl_0), (3, vout_3), (8, vt_8), (9, .int .i64 t_9), (10, .int .i64 t_10)] w) {r : List Str} {l_0 : List Str} {out_3 : List Str} {t_8 : List Str} {t_9 : Int} {t_10 : Int} {vl_0 : Value} {vout_3 : Value} {vt_8 : Value} (hS : scope_Sorted_B2 r0 l_0 out_3 t_8 t_9 t_10 = some r) {w : World} {A : Nat → Prop} (hb : Below w0.heap.size w0 w) (hA : ∀ b, A b → b < w.heap.size) (hi : ∀ b, A0 b → A b) (hH : Hp A w0.heap.size w []) (hl_0 : SlR strC A w vl_0 l_0) (hout_3 : OwnS strC 9 A w0.heap.size w vout_3 out_3) (dout_3 : Dj vout_3 []) (ht_8 : SlR strC A w vt_8 t_8) :
  KE Try.prog 34 (Ret (fun v w' => ∃ x1, v = x1 ∧ SlR strC A0 w' x1 r ∧ Below w0.heap.size w0 w')) 48 [.code (sub (bodyOf Try.f34) [2, 1, 2, 2, 1, 2, 2, 1, 2, 2, 2]), .inLoop (sub (bodyOf Try.f34) [2, 1, 2, 2, 1, 2, 2, 1]), .inBlock 0, .code (sub (bodyOf Try.f34) [2, 1, 2, 2, 2]), .inScope (sub (bodyOf Try.f34) [2, 1])] [(0, vl_0), (3, vout_3), (8, vt_8), (9, .int .i64 t_9), (10, .int .i64 t_10)] w := by
 unfold scope_Sorted_B2 at hS
 refine ke_region ?_
 refine sr_ev (v := .int .i64 (IntKind.i64.wrap (t_10 + 1))) (ev_add rfl rfl) (by decide) ?_
 refine sr_ev (v := .int .i64 (IntKind.i64.wrap (t_10 + 1))) (ev_move rfl) (by decide) ?_
 refine sr_end (l' := [(0, vl_0), (3, vout_3), (8, vt_8), (9, .int .i64 t_9), (10, .int .i64 (IntKind.i64.wrap (t_10 + 1)))]) (.cons rfl (.cons rfl (.cons rfl (.cons rfl (.cons rfl (.nil _)))))) ?_
 have hK := hr0 hS hb hA hi hH hl_0 hout_3 dout_3 ht_8
 exact ke_weaken (l' := [(0, vl_0), (3, vout_3), (8, vt_8), (9, .int .i64 t_9), (10, .int .i64 (IntKind.i64.wrap (t_10 + 1)))]) (.cons rfl (.cons rfl (.cons rfl (.cons rfl (.cons rfl (.nil _)))))) hK
theorem scope_Sorted_L3_ok {w0 : World} (hg : Gs w0) {A0 : Nat → Prop} (hA0 : ∀ b, A0 b → b < w0.heap.size) (r0 : List Str → List Str → List Str → Int → Int → Option (List Str))
  (hr0 : ∀ {r : List Str} {l_0 : List Str} {out_3 : List Str} {t_8 : List Str} {t_9 : Int} {t_10 : Int} {vl_0 : Value} {vout_3 : Value} {vt_8 : Value}, r0 l_0 out_3 t_8 t_9 t_10 = some r → ∀ {w : World} {A : Nat → Prop}, (Below w0.heap.size w0 w) → (∀ b, A b → b < w.heap.size) → (∀ b, A0 b → A b) → (Hp A w0.heap.size w []) → (SlR strC A w vl_0 l_0) → (OwnS strC 9 A w0.heap.size w vout_3 out_3) → (Dj vout_3 []) → (SlR strC A w vt_8 t_8) → KE Try.prog 34 (Ret (fun v w' => ∃ x1, v = x1 ∧ SlR strC A0 w' x1 r ∧ Below w0.heap.size w0 w')) 48 [.inLoop (sub (bodyOf Try.f34) [2, 1, 2, 2, 1, 2, 2, 1]), .inBlock 0, .code (sub (bodyOf Try.f34) [2, 1, 2, 2, 2]), .inScope (sub (bodyOf Try.f34) [2, 1])] [(0, vl_0), (3, vout_3), (8, vt_8), (9, .int .i64 t_9), (10, .int .i64 t_10)] w) : ∀ (n : Nat), ∀ {r : List Str} {l_0 : List Str} {out_3 : List Str} {s_5 : Str} {t_8 : List Str} {t_9 : Int} {t_10 : Int} {t_25 : List Str} {t_26 : Int} {t_27 : Int} {vl_0 : Value} {vout_3 : Value} {vt_8 : Value} {vt_25 : Value}, scope_Sorted_L3 r0 n l_0 out_3 s_5 t_8 t_9 t_10 t_25 t_26 t_27 = some r → ∀ {w : World} {A : Nat → Prop}, (Below w0.heap.size w0 w) → (∀ b, A b → b < w.heap.size) → (∀ b, A0 b → A b) → (Hp A w0.heap.size w []) → (SlR strC A w vl_0 l_0) → (OwnS strC 9 A w0.heap.size w vout_3 out_3) → (Dj vout_3 []) → (SlR strC A w vt_8 t_8) → (SlR strC A w vt_25 t_25) → KE Try.prog 34 (Ret (fun v w' => ∃ x1, v = x1 ∧ SlR strC A0 w' x1 r ∧ Below w0.heap.size w0 w')) 48 [.code (sub (bodyOf Try.f34) [2, 1, 2, 2, 1, 2, 2, 1, 2, 2, 1, 2, 2, 2, 1, 2, 2, 1]), .inLoop (sub (bodyOf Try.f34) [2, 1, 2, 2, 1, 2, 2, 1, 2, 2, 1, 2, 2, 2, 1, 2, 2, 1]), .inBlock 2, .code (sub (bodyOf Try.f34) [2, 1, 2, 2, 1, 2, 2, 1, 2, 2, 1, 2, 2, 2, 2]), .inBlock 1, .code (sub (bodyOf Try.f34) [2, 1, 2, 2, 1, 2, 2, 1, 2, 2, 2]), .inLoop (sub (bodyOf Try.f34) [2, 1, 2, 2, 1, 2, 2, 1]), .inBlock 0, .code (sub (bodyOf Try.f34) [2, 1, 2, 2, 2]), .inScope (sub (bodyOf Try.f34) [2, 1])] [(0, vl_0), (3, vout_3), (5, str s_5), (8, vt_8), (9, .int .i64 t_9), (10, .int .i64 t_10), (25, vt_25), (26, .int .i64 t_26), (27, .int .i64 t_27)] w := by
 intro n
 induction n with
 | zero => intro r l_0 out_3 s_5 t_8 t_9 t_10 t_25 t_26 t_27 vl_0 vout_3 vt_8 vt_25 hS; cases hS
 | succ n ih =>
  have hr1 : ∀ {r : List Str} {l_0 : List Str} {out_3 : List Str} {s_5 : Str} {t_8 : List Str} {t_9 : Int} {t_10 : Int} {t_25 : List Str} {t_26 : Int} {t_27 : Int} {vl_0 : Value} {vout_3 : Value} {vt_8 : Value} {vt_25 : Value}, scope_Sorted_L3 r0 n l_0 out_3 s_5 t_8 t_9 t_10 t_25 t_26 t_27 = some r → ∀ {w : World} {A : Nat → Prop}, (Below w0.heap.size w0 w) → (∀ b, A b → b < w.heap.size) → (∀ b, A0 b → A b) → (Hp A w0.heap.size w []) → (SlR strC A w vl_0 l_0) → (OwnS strC 9 A w0.heap.size w vout_3 out_3) → (Dj vout_3 []) → (SlR strC A w vt_8 t_8) → (SlR strC A w vt_25 t_25) → KE Try.prog 34 (Ret (fun v w' => ∃ x1, v = x1 ∧ SlR strC A0 w' x1 r ∧ Below w0.heap.size w0 w')) 48 [.inLoop (sub (bodyOf Try.f34) [2, 1, 2, 2, 1, 2, 2, 1, 2, 2, 1, 2, 2, 2, 1, 2, 2, 1]), .inBlock 2, .code (sub (bodyOf Try.f34) [2, 1, 2, 2, 1, 2, 2, 1, 2, 2, 1, 2, 2, 2, 2]), .inBlock 1, .code (sub (bodyOf Try.f34) [2, 1, 2, 2, 1, 2, 2, 1, 2, 2, 2]), .inLoop (sub (bodyOf Try.f34) [2, 1, 2, 2, 1, 2, 2, 1]), .inBlock 0, .code (sub (bodyOf Try.f34) [2, 1, 2, 2, 2]), .inScope (sub (bodyOf Try.f34) [2, 1])] [(0, vl_0), (3, vout_3), (5, str s_5), (8, vt_8), (9, .int .i64 t_9), (10, .int .i64 t_10), (25, vt_25), (26, .int .i64 t_26), (27, .int .i64 t_27)] w := fun {r} {l_0} {out_3} {s_5} {t_8} {t_9} {t_10} {t_25} {t_26} {t_27} {vl_0} {vout_3} {vt_8} {vt_25} hS {w} {A} hb hA hi hH hl_0 hout_3 dout_3 ht_8 ht_25 => ke_inLoop (ih hS hb hA hi hH hl_0 hout_3 dout_3 ht_8 ht_25)
  clear ih
  intro r l_0 out_3 s_5 t_8 t_9 t_10 t_25 t_26 t_27 vl_0 vout_3 vt_8 vt_25 hS w A hb hA hi hH hl_0 hout_3 dout_3 ht_8 ht_25
  unfold scope_Sorted_L3 at hS
  refine ke_seq ?_
  refine ke_region ?_
  refine sr_ev (v := .bool (decide (t_27 < t_26))) (ev_lt rfl rfl) (by decide) ?_
  refine sr_end (l' := [(0, vl_0), (3, vout_3), (5, str s_5), (8, vt_8), (9, .int .i64 t_9), (10, .int .i64 t_10), (25, vt_25), (26, .int .i64 t_26), (27, .int .i64 t_27), (28, .bool (decide (t_27 < t_26)))]) (.cons rfl (.cons rfl (.cons rfl (.cons rfl (.cons rfl (.cons rfl (.cons rfl (.cons rfl (.cons rfl (.cons rfl (.nil _))))))))))) ?_
  refine ke_seq ?_
  refine ke_cond (t := decide (t_27 < t_26)) rfl (fun hc37 => ?_) (fun hc37 => ?_)
  ·replace hS := ite_true' hS hc37
   refine ke_skip ?_
   refine ke_seq ?_
   refine ke_block ?_
   refine ke_seq ?_
   refine ke_region ?_
   obtain ⟨y38, hy39, hS⟩ := bind_some' hS
   refine sr_index ht_25 Try.underlying23 Try.info9 rfl rfl rfl hy39 (by decide) ?_
   intro b40 o41 cs43 he42
   obtain rfl : cs43 = [str y38] := he42.rd
   refine sr_ev (v := str y38) (ev_load Try.isAgg9 rfl (he42.cell 0 _ rfl)) (by decide) ?_
   refine sr_ev (v := str y38) (ev_assign rfl) (by decide) ?_
   refine sr_end (l' := [(0, vl_0), (3, vout_3), (5, str s_5), (7, str y38), (8, vt_8), (9, .int .i64 t_9), (10, .int .i64 t_10), (25, vt_25), (26, .int .i64 t_26), (27, .int .i64 t_27)]) (.cons rfl (.cons rfl (.cons rfl (.cons rfl (.cons rfl (.cons rfl (.cons rfl (.cons rfl (.cons rfl (.cons rfl (.nil _))))))))))) ?_
   refine ke_seq ?_
   refine ke_region ?_
   refine sr_ev (v := str y38) (ev_move rfl) (by decide) ?_
   refine sr_ev (v := str s_5) (ev_move rfl) (by decide) ?_
   refine sr_ev (v := .bool (!(y38 == s_5))) (ev_sne rfl rfl) (by decide) ?_
   refine sr_ev (v := .bool (!(y38 == s_5))) (ev_move rfl) (by decide) ?_
   obtain ⟨z46, hz48, hS⟩ := bind_some' hS
   refine sr_join (m := 4) (C := fun (x : Bool) w1 => z46 = x ∧ Below w.heap.size w w1) (l' := fun x => [(0, vl_0), (3, vout_3), (5, str s_5), (8, vt_8), (9, .int .i64 t_9), (10, .int .i64 t_10), (25, vt_25), (26, .int .i64 t_26), (27, .int .i64 t_27), (38, .bool x)]) ?_ ?_
   ·rintro _ w49 ⟨rfl, hbw50⟩
    replace hb := hb.trans (hbw50.mono hb.size)
    replace hA := lt_mono hA hbw50.size
    replace hH := hH.below hbw50
    replace hl_0 := hl_0.below hbw50
    replace hout_3 := hout_3.below hbw50
    replace ht_8 := ht_8.below hbw50
    replace ht_25 := ht_25.below hbw50
    refine sr_end (l' := [(0, vl_0), (3, vout_3), (5, str s_5), (8, vt_8), (9, .int .i64 t_9), (10, .int .i64 t_10), (25, vt_25), (26, .int .i64 t_26), (27, .int .i64 t_27), (38, .bool z46)]) (.cons rfl (.cons rfl (.cons rfl (.cons rfl (.cons rfl (.cons rfl (.cons rfl (.cons rfl (.cons rfl (.cons rfl (.nil _))))))))))) ?_
    refine ke_cond (t := z46) rfl (fun hc55 => ?_) (fun hc55 => ?_)
    ·replace hS := ite_true' hS hc55
     refine ke_exit (k' := _) rfl ?_
     have hK := scope_Sorted_B2_ok hg hA0 _ hr0 hS hb hA hi hH hl_0 hout_3 dout_3 ht_8
     exact ke_weaken (l' := [(0, vl_0), (3, vout_3), (8, vt_8), (9, .int .i64 t_9), (10, .int .i64 t_10)]) (.cons rfl (.cons rfl (.cons rfl (.cons rfl (.cons rfl (.nil _)))))) hK
    ·replace hS := ite_false' hS hc55
     refine ke_skip ?_
     refine ke_inBlock ?_
     refine ke_region ?_
     refine sr_ev (v := .int .i64 (IntKind.i64.wrap (t_27 + 1))) (ev_add rfl rfl) (by decide) ?_
     refine sr_ev (v := .int .i64 (IntKind.i64.wrap (t_27 + 1))) (ev_move rfl) (by decide) ?_
     refine sr_end (l' := [(0, vl_0), (3, vout_3), (5, str s_5), (8, vt_8), (9, .int .i64 t_9), (10, .int .i64 t_10), (25, vt_25), (26, .int .i64 t_26), (27, .int .i64 (IntKind.i64.wrap (t_27 + 1)))]) (.cons rfl (.cons rfl (.cons rfl (.cons rfl (.cons rfl (.cons rfl (.cons rfl (.cons rfl (.cons rfl (.nil _)))))))))) ?_
     have hK := hr1 hS hb hA hi hH hl_0 hout_3 dout_3 ht_8 ht_25
     exact ke_weaken (l' := [(0, vl_0), (3, vout_3), (5, str s_5), (8, vt_8), (9, .int .i64 t_9), (10, .int .i64 t_10), (25, vt_25), (26, .int .i64 t_26), (27, .int .i64 (IntKind.i64.wrap (t_27 + 1)))]) (.cons rfl (.cons rfl (.cons rfl (.cons rfl (.cons rfl (.cons rfl (.cons rfl (.cons rfl (.cons rfl (.nil _)))))))))) hK
   ·intro K45
    clear hS
    have hj47 := Below.refl w.heap.size w
    rcases Bool.eq_false_or_eq_true (!(y38 == s_5)) with hg44 | hg44
    ·have hS := ite_true' hz48 hg44
     refine sr_evg (b := true) (e := 34) rfl rfl hg44 (v := str y38) (ev_move rfl) (by decide) ?_
     refine sr_evg (b := true) (e := 34) rfl rfl hg44 (v := str s_5) (ev_move rfl) (by decide) ?_
     obtain ⟨y51, hy52, hS⟩ := bind_some' hS
     refine sr_callg (b := true) (e := 34) rfl rfl hg44 (vs := [str y38, str s_5]) rfl Try.call58 rfl (scope_Implies_ok _ (hg.below hb) hy52) (by decide) ?_
     rintro _ w53 ⟨rfl, hbw54⟩
     replace hb := hb.trans (hbw54.mono hb.size)
     replace hj47 := hj47.trans (hbw54.mono hj47.size)
     replace hA := lt_mono hA hbw54.size
     replace hH := hH.below hbw54
     replace hl_0 := hl_0.below hbw54
     replace hout_3 := hout_3.below hbw54
     replace ht_8 := ht_8.below hbw54
     replace ht_25 := ht_25.below hbw54
     refine sr_ev (v := .bool y51) (ev_pick_t rfl hg44 rfl) (by decide) ?_
     exact sr_weaken (l' := [(0, vl_0), (3, vout_3), (5, str s_5), (8, vt_8), (9, .int .i64 t_9), (10, .int .i64 t_10), (25, vt_25), (26, .int .i64 t_26), (27, .int .i64 t_27), (38, .bool y51)]) (.cons rfl (.cons rfl (.cons rfl (.cons rfl (.cons rfl (.cons rfl (.cons rfl (.cons rfl (.cons rfl (.cons rfl (.nil _))))))))))) (K45 y51 _ ⟨(Option.some.inj hS).symm, hj47⟩)
    ·have hS := ite_false' hz48 hg44
     refine sr_pass (e := 34) rfl rfl (by rw [hg44]; rfl) (by decide) ?_
     refine sr_pass (e := 34) rfl rfl (by rw [hg44]; rfl) (by decide) ?_
     refine sr_pass (e := 34) rfl rfl (by rw [hg44]; rfl) (by decide) ?_
     refine sr_ev (v := .bool false) (ev_pick_f rfl hg44 rfl) (by decide) ?_
     exact sr_weaken (l' := [(0, vl_0), (3, vout_3), (5, str s_5), (8, vt_8), (9, .int .i64 t_9), (10, .int .i64 t_10), (25, vt_25), (26, .int .i64 t_26), (27, .int .i64 t_27), (38, .bool false)]) (.cons rfl (.cons rfl (.cons rfl (.cons rfl (.cons rfl (.cons rfl (.cons rfl (.cons rfl (.cons rfl (.cons rfl (.nil _))))))))))) (K45 false _ ⟨(Option.some.inj hS).symm, hj47⟩)
  ·replace hS := ite_false' hS hc37
   refine ke_exit (k' := _) rfl ?_
   refine ke_region ?_
   refine sr_ev (v := vout_3) (ev_move rfl) (by decide) ?_
   refine sr_ev (v := str s_5) (ev_move rfl) (by decide) ?_
   refine sr_lit (c := strC) (A := A) (E := 9) (xs := [s_5]) (vs := #[(0, str s_5)]) (cs := #[str s_5]) (css := [[str s_5]]) rfl (fun _ => by kernel_rfl) rfl ⟨rfl, trivial⟩ rfl (by decide) hA (by decide) ?_
   intro v56 w58 h57 hbw59
   replace hb := hb.trans (hbw59.mono hb.size)
   replace hA := lt_mono hA hbw59.size
   replace hH := hH.below hbw59
   replace hl_0 := hl_0.below hbw59
   replace ht_8 := ht_8.below hbw59
   replace hout_3 := hout_3.below hbw59
   obtain ⟨hk60, hS⟩ := chk_some hS
   refine sr_append (c := strC) (A := A) (B := w0.heap.size) (E := 9) (xs := out_3) (ys := ([s_5] : List Str)) hout_3 h57 Try.underlying23 Try.info9 rfl rfl rfl (by decide) (by decide) hA hb.size hk60 rfl rfl (by decide) ?_
   intro v61 A63 w64 h62 hst65 hbB66 hinc67 hA1 hoth68 hold
   have dj69 : Dj v61 [] := fun p hp e => by rcases hold _ e with h | h; exact dout_3 p hp h; have := hH.lt hp; omega
   replace hb := hb.trans hbB66
   replace hi := fun b hb => hinc67 b (hi b hb)
   replace hH := hH.keep hinc67 (fun p hp => hoth68 _ (hH.lt hp) (dout_3 p hp))
   replace hA := hA1
   clear hA1
   replace hl_0 := hl_0.step hst65
   replace ht_8 := ht_8.step hst65
   refine sr_ev (v := v61) (ev_assign rfl) (by decide) ?_
   refine sr_end (l' := [(0, vl_0), (3, v61), (8, vt_8), (9, .int .i64 t_9), (10, .int .i64 t_10)]) (.cons rfl (.cons rfl (.cons rfl (.cons rfl (.cons rfl (.nil _)))))) ?_
   refine ke_inBlock ?_
   have hK := scope_Sorted_B2_ok hg hA0 _ hr0 hS hb hA hi hH hl_0 h62 dj69 ht_8
   exact ke_weaken (l' := [(0, vl_0), (3, v61), (8, vt_8), (9, .int .i64 t_9), (10, .int .i64 t_10)]) (.cons rfl (.cons rfl (.cons rfl (.cons rfl (.cons rfl (.nil _)))))) hK

end Ytibmfjehbmdbkaa
end Go.Proofs
