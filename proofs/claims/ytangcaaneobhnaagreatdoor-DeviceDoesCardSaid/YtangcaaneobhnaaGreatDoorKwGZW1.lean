/- Own work: a part of the proofs of this seat. -/
import Derived.Test.YtangcaaneobhnaaGreatDoorProg
import Derived.Test.YtangcaaneobhnaaGreatDoorShelf
import Derived.Test.YtangcaaneobhnaaGreatDoorKwGZS
import Derived.KernelRfl
set_option linter.unusedVariables false
set_option linter.unusedSimpArgs false
set_option linter.unusedSectionVars false
set_option maxHeartbeats 8000000
set_option maxRecDepth 8000
namespace Go.Proofs
namespace YtangcaaneobhnaaGreatDoor
open Go Go.KW Go.KW.S Go.RowKit
theorem Tryz.mixed : Tryz.prog.follows .mixedOrders = true := by kernel_rfl
theorem Tryz.info0 : Tryz.prog.info? 0 = some Tryz.t0 := by kernel_rfl
theorem Tryz.info1 : Tryz.prog.info? 1 = some Tryz.t1 := by kernel_rfl
theorem Tryz.info2 : Tryz.prog.info? 2 = some Tryz.t2 := by kernel_rfl
theorem Tryz.info3 : Tryz.prog.info? 3 = some Tryz.t3 := by kernel_rfl
theorem Tryz.info4 : Tryz.prog.info? 4 = some Tryz.t4 := by kernel_rfl
theorem Tryz.info5 : Tryz.prog.info? 5 = some Tryz.t5 := by kernel_rfl
theorem Tryz.info6 : Tryz.prog.info? 6 = some Tryz.t6 := by kernel_rfl
theorem Tryz.info7 : Tryz.prog.info? 7 = some Tryz.t7 := by kernel_rfl
theorem Tryz.info8 : Tryz.prog.info? 8 = some Tryz.t8 := by kernel_rfl
theorem Tryz.info9 : Tryz.prog.info? 9 = some Tryz.t9 := by kernel_rfl
theorem Tryz.info10 : Tryz.prog.info? 10 = some Tryz.t10 := by kernel_rfl
theorem Tryz.info11 : Tryz.prog.info? 11 = some Tryz.t11 := by kernel_rfl
theorem Tryz.info12 : Tryz.prog.info? 12 = some Tryz.t12 := by kernel_rfl
theorem Tryz.info13 : Tryz.prog.info? 13 = some Tryz.t13 := by kernel_rfl
theorem Tryz.info14 : Tryz.prog.info? 14 = some Tryz.t14 := by kernel_rfl
theorem Tryz.info15 : Tryz.prog.info? 15 = some Tryz.t15 := by kernel_rfl
theorem Tryz.info16 : Tryz.prog.info? 16 = some Tryz.t16 := by kernel_rfl
theorem Tryz.info17 : Tryz.prog.info? 17 = some Tryz.t17 := by kernel_rfl
theorem Tryz.info18 : Tryz.prog.info? 18 = some Tryz.t18 := by kernel_rfl
theorem Tryz.info19 : Tryz.prog.info? 19 = some Tryz.t19 := by kernel_rfl
theorem Tryz.info20 : Tryz.prog.info? 20 = some Tryz.t20 := by kernel_rfl
theorem Tryz.info21 : Tryz.prog.info? 21 = some Tryz.t21 := by kernel_rfl
theorem Tryz.info22 : Tryz.prog.info? 22 = some Tryz.t22 := by kernel_rfl
theorem Tryz.info23 : Tryz.prog.info? 23 = some Tryz.t23 := by kernel_rfl
theorem Tryz.info24 : Tryz.prog.info? 24 = some Tryz.t24 := by kernel_rfl
theorem Tryz.info25 : Tryz.prog.info? 25 = some Tryz.t25 := by kernel_rfl
theorem Tryz.info26 : Tryz.prog.info? 26 = some Tryz.t26 := by kernel_rfl
theorem Tryz.info27 : Tryz.prog.info? 27 = some Tryz.t27 := by kernel_rfl
theorem Tryz.info28 : Tryz.prog.info? 28 = some Tryz.t28 := by kernel_rfl
theorem Tryz.info29 : Tryz.prog.info? 29 = some Tryz.t29 := by kernel_rfl
theorem Tryz.info30 : Tryz.prog.info? 30 = some Tryz.t30 := by kernel_rfl
theorem Tryz.info31 : Tryz.prog.info? 31 = some Tryz.t31 := by kernel_rfl
theorem Tryz.info32 : Tryz.prog.info? 32 = some Tryz.t32 := by kernel_rfl
theorem Tryz.info33 : Tryz.prog.info? 33 = some Tryz.t33 := by kernel_rfl
theorem Tryz.info34 : Tryz.prog.info? 34 = some Tryz.t34 := by kernel_rfl
theorem Tryz.info35 : Tryz.prog.info? 35 = some Tryz.t35 := by kernel_rfl
theorem Tryz.info36 : Tryz.prog.info? 36 = some Tryz.t36 := by kernel_rfl
theorem Tryz.info37 : Tryz.prog.info? 37 = some Tryz.t37 := by kernel_rfl
theorem Tryz.info38 : Tryz.prog.info? 38 = some Tryz.t38 := by kernel_rfl
theorem Tryz.info39 : Tryz.prog.info? 39 = some Tryz.t39 := by kernel_rfl
theorem Tryz.info40 : Tryz.prog.info? 40 = some Tryz.t40 := by kernel_rfl
theorem Tryz.info41 : Tryz.prog.info? 41 = some Tryz.t41 := by kernel_rfl
theorem Tryz.info42 : Tryz.prog.info? 42 = some Tryz.t42 := by kernel_rfl
theorem Tryz.info43 : Tryz.prog.info? 43 = some Tryz.t43 := by kernel_rfl
theorem Tryz.info44 : Tryz.prog.info? 44 = some Tryz.t44 := by kernel_rfl
theorem Tryz.info45 : Tryz.prog.info? 45 = some Tryz.t45 := by kernel_rfl
theorem Tryz.info46 : Tryz.prog.info? 46 = some Tryz.t46 := by kernel_rfl
theorem Tryz.info47 : Tryz.prog.info? 47 = some Tryz.t47 := by kernel_rfl
theorem Tryz.info48 : Tryz.prog.info? 48 = some Tryz.t48 := by kernel_rfl
theorem Tryz.info49 : Tryz.prog.info? 49 = some Tryz.t49 := by kernel_rfl
theorem Tryz.info50 : Tryz.prog.info? 50 = some Tryz.t50 := by kernel_rfl
theorem Tryz.info51 : Tryz.prog.info? 51 = some Tryz.t51 := by kernel_rfl
theorem Tryz.info52 : Tryz.prog.info? 52 = some Tryz.t52 := by kernel_rfl
theorem Tryz.info53 : Tryz.prog.info? 53 = some Tryz.t53 := by kernel_rfl
theorem Tryz.info54 : Tryz.prog.info? 54 = some Tryz.t54 := by kernel_rfl
theorem Tryz.info55 : Tryz.prog.info? 55 = some Tryz.t55 := by kernel_rfl
theorem Tryz.info56 : Tryz.prog.info? 56 = some Tryz.t56 := by kernel_rfl
theorem Tryz.info57 : Tryz.prog.info? 57 = some Tryz.t57 := by kernel_rfl
theorem Tryz.info58 : Tryz.prog.info? 58 = some Tryz.t58 := by kernel_rfl
theorem Tryz.info59 : Tryz.prog.info? 59 = some Tryz.t59 := by kernel_rfl
theorem Tryz.info60 : Tryz.prog.info? 60 = some Tryz.t60 := by kernel_rfl
theorem Tryz.info61 : Tryz.prog.info? 61 = some Tryz.t61 := by kernel_rfl
theorem Tryz.info62 : Tryz.prog.info? 62 = some Tryz.t62 := by kernel_rfl
theorem Tryz.info63 : Tryz.prog.info? 63 = some Tryz.t63 := by kernel_rfl
theorem Tryz.info64 : Tryz.prog.info? 64 = some Tryz.t64 := by kernel_rfl
theorem Tryz.info65 : Tryz.prog.info? 65 = some Tryz.t65 := by kernel_rfl
theorem Tryz.info66 : Tryz.prog.info? 66 = some Tryz.t66 := by kernel_rfl
theorem Tryz.info67 : Tryz.prog.info? 67 = some Tryz.t67 := by kernel_rfl
theorem Tryz.info68 : Tryz.prog.info? 68 = some Tryz.t68 := by kernel_rfl
theorem Tryz.info69 : Tryz.prog.info? 69 = some Tryz.t69 := by kernel_rfl
theorem Tryz.info70 : Tryz.prog.info? 70 = some Tryz.t70 := by kernel_rfl
theorem Tryz.info71 : Tryz.prog.info? 71 = some Tryz.t71 := by kernel_rfl
theorem Tryz.info72 : Tryz.prog.info? 72 = some Tryz.t72 := by kernel_rfl
theorem Tryz.info73 : Tryz.prog.info? 73 = some Tryz.t73 := by kernel_rfl
theorem Tryz.info74 : Tryz.prog.info? 74 = some Tryz.t74 := by kernel_rfl
theorem Tryz.info75 : Tryz.prog.info? 75 = some Tryz.t75 := by kernel_rfl
theorem Tryz.info76 : Tryz.prog.info? 76 = some Tryz.t76 := by kernel_rfl
theorem Tryz.info77 : Tryz.prog.info? 77 = some Tryz.t77 := by kernel_rfl
theorem Tryz.info78 : Tryz.prog.info? 78 = some Tryz.t78 := by kernel_rfl
theorem Tryz.info79 : Tryz.prog.info? 79 = some Tryz.t79 := by kernel_rfl
theorem Tryz.info80 : Tryz.prog.info? 80 = some Tryz.t80 := by kernel_rfl
theorem Tryz.info81 : Tryz.prog.info? 81 = some Tryz.t81 := by kernel_rfl
theorem Tryz.info82 : Tryz.prog.info? 82 = some Tryz.t82 := by kernel_rfl
theorem Tryz.info83 : Tryz.prog.info? 83 = some Tryz.t83 := by kernel_rfl
theorem Tryz.info84 : Tryz.prog.info? 84 = some Tryz.t84 := by kernel_rfl
theorem Tryz.info85 : Tryz.prog.info? 85 = some Tryz.t85 := by kernel_rfl
theorem Tryz.info86 : Tryz.prog.info? 86 = some Tryz.t86 := by kernel_rfl
theorem Tryz.info87 : Tryz.prog.info? 87 = some Tryz.t87 := by kernel_rfl
theorem Tryz.info88 : Tryz.prog.info? 88 = some Tryz.t88 := by kernel_rfl
theorem Tryz.info89 : Tryz.prog.info? 89 = some Tryz.t89 := by kernel_rfl
theorem Tryz.info90 : Tryz.prog.info? 90 = some Tryz.t90 := by kernel_rfl
theorem Tryz.info91 : Tryz.prog.info? 91 = some Tryz.t91 := by kernel_rfl
theorem Tryz.info92 : Tryz.prog.info? 92 = some Tryz.t92 := by kernel_rfl
theorem Tryz.info93 : Tryz.prog.info? 93 = some Tryz.t93 := by kernel_rfl
theorem Tryz.info94 : Tryz.prog.info? 94 = some Tryz.t94 := by kernel_rfl
theorem Tryz.info95 : Tryz.prog.info? 95 = some Tryz.t95 := by kernel_rfl
theorem Tryz.info96 : Tryz.prog.info? 96 = some Tryz.t96 := by kernel_rfl
theorem Tryz.info97 : Tryz.prog.info? 97 = some Tryz.t97 := by kernel_rfl
theorem Tryz.info98 : Tryz.prog.info? 98 = some Tryz.t98 := by kernel_rfl
theorem Tryz.info99 : Tryz.prog.info? 99 = some Tryz.t99 := by kernel_rfl
theorem Tryz.info100 : Tryz.prog.info? 100 = some Tryz.t100 := by kernel_rfl
theorem Tryz.info101 : Tryz.prog.info? 101 = some Tryz.t101 := by kernel_rfl
theorem Tryz.info102 : Tryz.prog.info? 102 = some Tryz.t102 := by kernel_rfl
theorem Tryz.info103 : Tryz.prog.info? 103 = some Tryz.t103 := by kernel_rfl
theorem Tryz.info104 : Tryz.prog.info? 104 = some Tryz.t104 := by kernel_rfl
theorem Tryz.info105 : Tryz.prog.info? 105 = some Tryz.t105 := by kernel_rfl
theorem Tryz.info106 : Tryz.prog.info? 106 = some Tryz.t106 := by kernel_rfl
theorem Tryz.info107 : Tryz.prog.info? 107 = some Tryz.t107 := by kernel_rfl
theorem Tryz.info108 : Tryz.prog.info? 108 = some Tryz.t108 := by kernel_rfl
theorem Tryz.info109 : Tryz.prog.info? 109 = some Tryz.t109 := by kernel_rfl
theorem Tryz.info110 : Tryz.prog.info? 110 = some Tryz.t110 := by kernel_rfl
theorem Tryz.info111 : Tryz.prog.info? 111 = some Tryz.t111 := by kernel_rfl
theorem Tryz.info112 : Tryz.prog.info? 112 = some Tryz.t112 := by kernel_rfl
theorem Tryz.info113 : Tryz.prog.info? 113 = some Tryz.t113 := by kernel_rfl
theorem Tryz.info114 : Tryz.prog.info? 114 = some Tryz.t114 := by kernel_rfl
theorem Tryz.info115 : Tryz.prog.info? 115 = some Tryz.t115 := by kernel_rfl
theorem Tryz.info116 : Tryz.prog.info? 116 = some Tryz.t116 := by kernel_rfl
theorem Tryz.info117 : Tryz.prog.info? 117 = some Tryz.t117 := by kernel_rfl
theorem Tryz.info118 : Tryz.prog.info? 118 = some Tryz.t118 := by kernel_rfl
theorem Tryz.info119 : Tryz.prog.info? 119 = some Tryz.t119 := by kernel_rfl
theorem Tryz.info120 : Tryz.prog.info? 120 = some Tryz.t120 := by kernel_rfl
theorem Tryz.info121 : Tryz.prog.info? 121 = some Tryz.t121 := by kernel_rfl
theorem Tryz.info122 : Tryz.prog.info? 122 = some Tryz.t122 := by kernel_rfl
theorem Tryz.info123 : Tryz.prog.info? 123 = some Tryz.t123 := by kernel_rfl
theorem Tryz.info124 : Tryz.prog.info? 124 = some Tryz.t124 := by kernel_rfl
theorem Tryz.info125 : Tryz.prog.info? 125 = some Tryz.t125 := by kernel_rfl
theorem Tryz.info126 : Tryz.prog.info? 126 = some Tryz.t126 := by kernel_rfl
theorem Tryz.info127 : Tryz.prog.info? 127 = some Tryz.t127 := by kernel_rfl
theorem Tryz.info128 : Tryz.prog.info? 128 = some Tryz.t128 := by kernel_rfl
theorem Tryz.info129 : Tryz.prog.info? 129 = some Tryz.t129 := by kernel_rfl
theorem Tryz.info130 : Tryz.prog.info? 130 = some Tryz.t130 := by kernel_rfl
theorem Tryz.info131 : Tryz.prog.info? 131 = some Tryz.t131 := by kernel_rfl
theorem Tryz.info132 : Tryz.prog.info? 132 = some Tryz.t132 := by kernel_rfl
theorem Tryz.info133 : Tryz.prog.info? 133 = some Tryz.t133 := by kernel_rfl
theorem Tryz.info134 : Tryz.prog.info? 134 = some Tryz.t134 := by kernel_rfl
theorem Tryz.info135 : Tryz.prog.info? 135 = some Tryz.t135 := by kernel_rfl
theorem Tryz.info136 : Tryz.prog.info? 136 = some Tryz.t136 := by kernel_rfl
theorem Tryz.info137 : Tryz.prog.info? 137 = some Tryz.t137 := by kernel_rfl
theorem Tryz.info138 : Tryz.prog.info? 138 = some Tryz.t138 := by kernel_rfl
theorem Tryz.info139 : Tryz.prog.info? 139 = some Tryz.t139 := by kernel_rfl
theorem Tryz.info140 : Tryz.prog.info? 140 = some Tryz.t140 := by kernel_rfl
theorem Tryz.info141 : Tryz.prog.info? 141 = some Tryz.t141 := by kernel_rfl
theorem Tryz.info142 : Tryz.prog.info? 142 = some Tryz.t142 := by kernel_rfl
theorem Tryz.info143 : Tryz.prog.info? 143 = some Tryz.t143 := by kernel_rfl
theorem Tryz.info144 : Tryz.prog.info? 144 = some Tryz.t144 := by kernel_rfl
theorem Tryz.info145 : Tryz.prog.info? 145 = some Tryz.t145 := by kernel_rfl
theorem Tryz.info146 : Tryz.prog.info? 146 = some Tryz.t146 := by kernel_rfl
structure Gs (w : World) : Prop where
 tab0_ : ∀ i x, idx tab_digest_digits i = some x → w.cell? ⟨0, 0 + i.toNat * 1, none⟩ = some (.int .u8 x)
 pow10_ : Lib.TabIs Tryz.prog w "internal/strconv.uint64pow10" .u64 Lib.pow10Tab
 iv6_ : ∃ m, w.cell? ⟨6, 0, none⟩ = some (.int .i64 m)
theorem Gs.below {w w' : World} (h : Gs w) (s : Below w.heap.size w w') : Gs w' := ⟨fun i x hx => cell_below (h.tab0_ i x hx) s, tabIs_below h.pow10_ s, h.iv6_.imp fun _ hm => cell_below hm s⟩
structure Gz (ρ : Tags) : Prop where
 z0 : ρ 0 = 0
 z1 : ∀ g, Tryz.prog.globalNamed "internal/strconv.uint64pow10" = some g → ρ g = 0
 z2 : ρ 6 = 0
theorem Gs.fr {ρ0 ρ : Tags} {w0 w : World} (h : Gs w0) (hz : Gz ρ0) (hb : Fr ρ0 w0 ρ w) : Gs w := ⟨fun i x hx => cell_fr (h.tab0_ i x hx) hz.z0 hb, tabIs_fr h.pow10_ hz.z1 hb, h.iv6_.imp fun _ hm => cell_fr hm hz.z2 hb⟩
theorem Gz.fr {ρ0 ρ : Tags} {w0 w : World} (hz : Gz ρ0) (h : Gs w0) (hb : Fr ρ0 w0 ρ w) : Gz ρ := ⟨tag_fr (h.tab0_ 0 _ rfl) hz.z0 hb, tabTag_fr h.pow10_ hz.z1 hb, h.iv6_.elim fun _ hm => tag_fr hm hz.z2 hb⟩
theorem Gz.enter {ρ : Tags} {o n : Nat} (hz : Gz ρ) (ho : 2 ≤ o) : Gz (enter ρ o n) := ⟨enter_zero ho hz.z0, fun g hg => enter_zero ho (hz.z1 g hg), enter_zero ho hz.z2⟩
theorem Gz.flat1 {ρ : Tags} (hz : Gz ρ) : Gz (flat1 ρ) := ⟨flat1_zero hz.z0, fun g hg => flat1_zero (hz.z1 g hg), flat1_zero hz.z2⟩
theorem Gs.tab0 {w : World} (h : Gs w) {i x : Int} (hx : idx tab_digest_digits i = some x) : w.cell? ⟨0, 0 + i.toNat * 1, none⟩ = some (.int .u8 x) := h.tab0_ i x hx
theorem lib_Sort_ok {w : World} {A : Nat → Prop} {B : Nat} {E : TypeId} {xs ys : List Str} {v : Value} (hv : OwnS strC E A B w v xs) (hB : B ≤ w.heap.size) (hS : lib_Sort xs = some ys) :
  Calls Tryz.prog 37 #[v] w (Ret fun u w' => u = .tuple #[] ∧ OwnS strC E A B w' v ys ∧ St A w A w' ∧ Below B w w' ∧ (∀ b, b < w.heap.size → v.ownBlock ≠ some b → w'.heap[b]? = w.heap[b]?)) :=
 sort_ok (fun p c w => Any.slices_Sort_string_none Tryz.lays190 p c w) (fun blk off cap ss w h1 h2 h3 => Tryz.slices_Sort_string blk off cap ss w h1 h2 h3) hv hB hS
theorem lib_Itoa_ok (w0 : World) (hg : Gs w0) {n : Int} {r : Str} (hS : lib_Itoa n = some r) : Calls Tryz.prog 38 #[.int .i64 n] w0 (Ret fun v w' => v = str r ∧ Below w0.heap.size w0 w') :=
 itoa_ok (fun n w h0 h1 ht => Tryz.strconv_Itoa n h0 h1 w ht) hg.pow10_ hS
theorem lib_Trim_ok (w0 : World) (hg : Gs w0) {s t : Str} {r : Str} (hS : lib_Trim s t = some r) : Calls Tryz.prog 63 #[str s, str t] w0 (Ret fun v w' => v = str r ∧ Below w0.heap.size w0 w') :=
 trim_ok (fun s c hc w hs => Tryz.strings_Trim_one s c hc w hs) hS
theorem Tryz.eq57 (x y : device_record) : EqAgg Tryz.prog 57 (#[str x.secret, str x.challenge, .int .i64 x.until_]) (#[str y.secret, str y.challenge, .int .i64 y.until_]) (device_record.eqb x y) :=
 eqAgg_of Tryz.underlying57 (by kernel_rfl) (by kernel_rfl) (.cons (by decide) Tryz.isAgg9 rfl rfl (eqCell_str Tryz.underlying9 _ _) (.cons (by decide) Tryz.isAgg9 rfl rfl (eqCell_str Tryz.underlying9 _ _) (.cons (by decide) Tryz.isAgg3 rfl rfl (eqCell_int Tryz.underlying3 _ _) (.nil)))) (by simp [device_record.eqb, Bool.and_assoc])
theorem device_record.eqb_iff (x y : device_record) : device_record.eqb x y = decide (x = y) := by
 cases x; cases y; rw [Bool.eq_iff_iff]; simp [device_record.eqb, and_assoc]
theorem Tryz.eq61 (x y : device_key) : EqAgg Tryz.prog 61 (#[str x.user, str x.id]) (#[str y.user, str y.id]) (device_key.eqb x y) :=
 eqAgg_of Tryz.underlying61 (by kernel_rfl) (by kernel_rfl) (.cons (by decide) Tryz.isAgg9 rfl rfl (eqCell_str Tryz.underlying9 _ _) (.cons (by decide) Tryz.isAgg9 rfl rfl (eqCell_str Tryz.underlying9 _ _) (.nil))) (by simp [device_key.eqb, Bool.and_assoc])
theorem device_key.eqb_iff (x y : device_key) : device_key.eqb x y = decide (x = y) := by
 cases x; cases y; rw [Bool.eq_iff_iff]; simp [device_key.eqb, and_assoc]
theorem Tryz.keyB61 : KeyB Tryz.prog 61 device_key.ek := keyB_struct (cells := fun (k : device_key) => #[str k.user, str k.id]) Tryz.underlying61 (fun k => .cons (by decide) Tryz.isAgg9 rfl (chk_str Tryz.underlying9 _) (.cons (by decide) Tryz.isAgg9 rfl (chk_str Tryz.underlying9 _) (.nil))) (fun a b => by rw [← device_key.eqb_iff]; exact Tryz.eq61 a b) (fun k => by simp [Instr.sameBits, str, bytes_self])
theorem device_New_ok (w0 : World) (hg : Gs w0) {ρA : Tags} (hbd : ∀ b, ρA b ≠ 0 → b < w0.heap.size) (hz : Gz ρA) {o : Nat} (ho2 : 2 ≤ o) {r : device_Devices} (hS : device_New = some r) :
  Calls Tryz.prog 4 #[] w0 (Ret (fun v w' => ∃ ρ' zr0, v = .pointer (some ⟨zr0, 0, none⟩) ∧ device_Devices.O (fun p => o + p) ρ' w' zr0 r ∧ Tr ρA w0 (rng o 2) ρ' w')) := by
 unfold device_New at hS
 have hb := enter_fr (ρ := ρA) (w := w0) (n := 2) ho2 hbd
 have hz := hz.enter (n := 2) ho2
 refine calls_of_ke Tryz.func4 rfl (n := 4) rfl rfl (l := []) rfl ?_
 refine ke_seq ?_
 refine ke_region ?_
 refine sr_ev (v := .pointer none) (ev_assign rfl) (by decide) ?_
 refine sr_end (l' := []) (.nil _) ?_
 refine ke_seq ?_
 refine ke_region ?_
 refine sr_makeMap (K := device_key) (V := device_record) (ek := device_key.ek) (c := device_record.c) (agg := true) 3 (by decide) hb.bd rfl (by decide) ?_
 intro v1 ρ3 w4 h2 htr5
 replace hb := hb.trans htr5
 refine sr_ev (v := .agg #[(.map (some v1)), .int .i64 0]) (ev_build (vs := #[(0, (.map (some v1)))]) rfl (fun _ => by kernel_rfl)) (by decide) ?_
 refine sr_boxT 100 (by decide) hb.bd rfl (by decide) ?_
 intro g6 ρ7 w8 hB10 htr9
 replace h2 := h2.mv (htr9.mv (i := 3) rfl)
 replace hb := hb.trans htr9
 replace hB10 : Blk ρ7 100 w8 g6 (.cells #[(.map (some v1)), .int .i64 0] 41 (0, 0)) := hB10
 refine sr_ev (v := .pointer (some ⟨g6, 0, none⟩)) (ev_assign rfl) (by decide) ?_
 refine sr_end (l' := [(0, .pointer (some ⟨g6, 0, none⟩))]) (.cons rfl (.nil _)) ?_
 have htr11 := rtg_tr (ρ := ρ7) (w := w8) (i := 3) 101 (by decide) hb.bd
 have hmv12 : Mv ρ7 w8 3 (rtg ρ7 3 101) w8 101 := rtg_mv (by decide)
 replace hB10 := hB10.mv (htr11.mv (i := 100) rfl)
 replace hb := hb.trans htr11
 replace h2 := h2.mv hmv12
 cases hS
 exact ke_ret1 Tryz.func4 rfl rfl ⟨_, rfl, leave ρA w0 o 2 (rtg ρ7 3 101), _, rfl, ⟨_, (hB10.mv (leave_mv (p := 0) (by decide) hb)), (h2.mv (leave_mv (p := 1) (by decide) hb))⟩, (leave_tr ho2 hb)⟩
theorem ref02_Great_L1_ok {w0 : World} (hg : Gs w0) {A0 : Nat → Prop} (hA0 : ∀ b, A0 b → b < w0.heap.size) : ∀ (n : Nat), ∀ {r : Bool} {l_0 : List Str} {long_2 : Int} {i_7 : Int} {vl_0 : Value}, ref02_Great_L1 n l_0 long_2 i_7 = some r → ∀ {w : World} {A : Nat → Prop}, (Below w0.heap.size w0 w) → (∀ b, A b → b < w.heap.size) → (∀ b, A0 b → A b) → (Hp A w0.heap.size w []) → (SlR strC A w vl_0 l_0) → KE Tryz.prog 11 (Ret (fun v w' => v = .bool r ∧ Below w0.heap.size w0 w')) 25 [.code (sub (bodyOf Tryz.f11) [2, 2, 1, 2, 2, 1]), .inLoop (sub (bodyOf Tryz.f11) [2, 2, 1, 2, 2, 1]), .inBlock 0, .code (sub (bodyOf Tryz.f11) [2, 2, 2])] [(0, vl_0), (2, .int .i64 long_2), (7, .int .i64 i_7)] w := by
 intro n
 induction n with
 | zero => intro r l_0 long_2 i_7 vl_0 hS; cases hS
 | succ n ih =>
  have hr0 : ∀ {r : Bool} {l_0 : List Str} {long_2 : Int} {i_7 : Int} {vl_0 : Value}, ref02_Great_L1 n l_0 long_2 i_7 = some r → ∀ {w : World} {A : Nat → Prop}, (Below w0.heap.size w0 w) → (∀ b, A b → b < w.heap.size) → (∀ b, A0 b → A b) → (Hp A w0.heap.size w []) → (SlR strC A w vl_0 l_0) → KE Tryz.prog 11 (Ret (fun v w' => v = .bool r ∧ Below w0.heap.size w0 w')) 25 [.inLoop (sub (bodyOf Tryz.f11) [2, 2, 1, 2, 2, 1]), .inBlock 0, .code (sub (bodyOf Tryz.f11) [2, 2, 2])] [(0, vl_0), (2, .int .i64 long_2), (7, .int .i64 i_7)] w := fun {r} {l_0} {long_2} {i_7} {vl_0} hS {w} {A} hb hA hi hH hl_0 => ke_inLoop (ih hS hb hA hi hH hl_0)
  clear ih
  intro r l_0 long_2 i_7 vl_0 hS w A hb hA hi hH hl_0
  unfold ref02_Great_L1 at hS
  refine ke_seq ?_
  refine ke_seq ?_
  refine ke_region ?_
  refine sr_ev (v := .int .i64 i_7) (ev_move rfl) (by decide) ?_
  refine sr_ev (v := vl_0) (ev_move rfl) (by decide) ?_
  refine sr_ev (v := .int .i64 (l_0.length : Int)) (ev_sllen Tryz.underlying29 rfl hl_0) (by decide) ?_
  refine sr_ev (v := .bool (decide (i_7 < (l_0.length : Int)))) (ev_lt rfl rfl) (by decide) ?_
  refine sr_end (l' := [(0, vl_0), (2, .int .i64 long_2), (7, .int .i64 i_7), (15, .bool (decide (i_7 < (l_0.length : Int))))]) (.cons rfl (.cons rfl (.cons rfl (.cons rfl (.nil _))))) ?_
  refine ke_cond (t := decide (i_7 < (l_0.length : Int))) rfl (fun hc4 => ?_) (fun hc4 => ?_)
  ·replace hS := ite_true' hS hc4
   refine ke_skip ?_
   refine ke_seq ?_
   refine ke_block ?_
   refine ke_seq ?_
   refine ke_region ?_
   refine sr_ev (v := vl_0) (ev_move rfl) (by decide) ?_
   refine sr_ev (v := .int .i64 i_7) (ev_move rfl) (by decide) ?_
   obtain ⟨y5, hy6, hS⟩ := bind_some' hS
   refine sr_index hl_0 Tryz.underlying29 Tryz.info9 rfl rfl rfl hy6 (by decide) ?_
   intro b7 o8 cs10 he9
   obtain rfl : cs10 = [str y5] := he9.rd
   refine sr_ev (v := str y5) (ev_load Tryz.isAgg9 rfl (he9.cell 0 _ rfl)) (by decide) ?_
   refine sr_ev (v := .int .i64 (y5.length : Int)) (ev_slen Tryz.underlying9 rfl) (by decide) ?_
   refine sr_ev (v := .int .i64 long_2) (ev_move rfl) (by decide) ?_
   refine sr_ev (v := .bool (decide ((y5.length : Int) > long_2))) (ev_gt rfl rfl) (by decide) ?_
   refine sr_end (l' := [(0, vl_0), (2, .int .i64 long_2), (7, .int .i64 i_7), (24, .bool (decide ((y5.length : Int) > long_2)))]) (.cons rfl (.cons rfl (.cons rfl (.cons rfl (.nil _))))) ?_
   refine ke_cond (t := decide ((y5.length : Int) > long_2)) rfl (fun hc11 => ?_) (fun hc11 => ?_)
   ·replace hS := ite_true' hS hc11
    refine ke_seq ?_
    refine ke_region ?_
    refine sr_ev (v := .bool true) (ev_assign rfl) (by decide) ?_
    refine sr_end (l' := [(6, .bool true)]) (.cons rfl (.nil _)) ?_
    cases hS
    exact ke_ret1 Tryz.func11 rfl rfl ⟨_, rfl, rfl, hb⟩
   ·replace hS := ite_false' hS hc11
    refine ke_skip ?_
    refine ke_inBlock ?_
    refine ke_region ?_
    refine sr_ev (v := .int .i64 i_7) (ev_move rfl) (by decide) ?_
    refine sr_ev (v := .int .i64 (IntKind.i64.wrap (i_7 + 1))) (ev_add rfl rfl) (by decide) ?_
    refine sr_ev (v := .int .i64 (IntKind.i64.wrap (i_7 + 1))) (ev_assign rfl) (by decide) ?_
    refine sr_end (l' := [(0, vl_0), (2, .int .i64 long_2), (7, .int .i64 (IntKind.i64.wrap (i_7 + 1)))]) (.cons rfl (.cons rfl (.cons rfl (.nil _)))) ?_
    have hK := hr0 hS hb hA hi hH hl_0
    exact ke_weaken (l' := [(0, vl_0), (2, .int .i64 long_2), (7, .int .i64 (IntKind.i64.wrap (i_7 + 1)))]) (.cons rfl (.cons rfl (.cons rfl (.nil _)))) hK
  ·replace hS := ite_false' hS hc4
   refine ke_exit (k' := _) rfl ?_
   refine ke_seq ?_
   refine ke_region ?_
   refine sr_ev (v := .bool false) (ev_assign rfl) (by decide) ?_
   refine sr_end (l' := [(6, .bool false)]) (.cons rfl (.nil _)) ?_
   cases hS
   exact ke_ret1 Tryz.func11 rfl rfl ⟨_, rfl, rfl, hb⟩
theorem ref02_Great_ok {A0 : Nat → Prop} (w0 : World) (hg : Gs w0) {l_0 : List Str} {most_1 : Int} {long_2 : Int} {v1 : Value} {r : Bool} (h2 : SlR strC A0 w0 v1 l_0) (hS : ref02_Great l_0 most_1 long_2 = some r) :
  Calls Tryz.prog 11 #[v1, .int .i64 most_1, .int .i64 long_2] w0 (Ret (fun v w' => v = .bool r ∧ Below w0.heap.size w0 w')) := by
 unfold ref02_Great at hS
 have hb := Below.refl w0.heap.size w0
 replace h2 := h2.weak (A' := fun _ => False) (fun _ h => h.elim)
 obtain ⟨A0, hA0, hAe⟩ : ∃ A0 : Nat → Prop, (∀ b, A0 b → b < w0.heap.size) ∧ A0 = fun _ => False := ⟨_, fun _ h => h.elim, rfl⟩
 rw [← hAe] at h2
 clear hAe
 have hA := hA0
 have hi : ∀ b, A0 b → A0 b := fun _ h => h
 have hH := Hp.nil A0 w0.heap.size w0
 refine calls_of_ke Tryz.func11 rfl (n := 25) rfl rfl (l := [(0, v1), (1, .int .i64 most_1), (2, .int .i64 long_2)]) rfl ?_
 refine ke_seq ?_
 refine ke_region ?_
 refine sr_ev (v := .bool false) (ev_assign rfl) (by decide) ?_
 refine sr_end (l' := [(0, v1), (1, .int .i64 most_1), (2, .int .i64 long_2)]) (.cons rfl (.cons rfl (.cons rfl (.nil _)))) ?_
 refine ke_seq ?_
 refine ke_seq ?_
 refine ke_region ?_
 refine sr_ev (v := v1) (ev_move rfl) (by decide) ?_
 refine sr_ev (v := .int .i64 (l_0.length : Int)) (ev_sllen Tryz.underlying29 rfl h2) (by decide) ?_
 refine sr_ev (v := .int .i64 most_1) (ev_move rfl) (by decide) ?_
 refine sr_ev (v := .bool (decide ((l_0.length : Int) > most_1))) (ev_gt rfl rfl) (by decide) ?_
 refine sr_end (l' := [(0, v1), (2, .int .i64 long_2), (11, .bool (decide ((l_0.length : Int) > most_1)))]) (.cons rfl (.cons rfl (.cons rfl (.nil _)))) ?_
 refine ke_cond (t := decide ((l_0.length : Int) > most_1)) rfl (fun hc3 => ?_) (fun hc3 => ?_)
 ·replace hS := ite_true' hS hc3
  refine ke_seq ?_
  refine ke_region ?_
  refine sr_ev (v := .bool true) (ev_assign rfl) (by decide) ?_
  refine sr_end (l' := [(6, .bool true)]) (.cons rfl (.nil _)) ?_
  cases hS
  exact ke_ret1 Tryz.func11 rfl rfl ⟨_, rfl, rfl, hb⟩
 ·replace hS := ite_false' hS hc3
  refine ke_skip ?_
  refine ke_seq ?_
  refine ke_seq ?_
  refine ke_region ?_
  refine sr_ev (v := .int .i64 0) (ev_assign rfl) (by decide) ?_
  refine sr_end (l' := [(0, v1), (2, .int .i64 long_2), (7, .int .i64 0)]) (.cons rfl (.cons rfl (.cons rfl (.nil _)))) ?_
  refine ke_block ?_
  have hK := ref02_Great_L1_ok hg hA0 _ hS hb hA hi hH h2
  exact ke_weaken (l' := [(0, v1), (2, .int .i64 long_2), (7, .int .i64 0)]) (.cons rfl (.cons rfl (.cons rfl (.nil _)))) (ke_loop hK)
theorem law37_long_L1_ok {w0 : World} (hg : Gs w0) {ρA : Tags} (hbd : ∀ b, ρA b ≠ 0 → b < w0.heap.size) (hz : Gz (flat1 ρA)) : ∀ (n : Nat), ∀ {r : Bool} {ops_0 : List law37_Op} {t_11 : Int} {t_12 : Int} {vops_0 : Value}, law37_long_L1 n ops_0 t_11 t_12 = some r → ∀ {ρ : Tags} {w : World}, (Fr (flat1 ρA) w0 ρ w) → (SlR law37_Op.c (Wb ρ) w vops_0 ops_0) → KE Tryz.prog 5 (Ret (fun v w' => v = .bool r ∧ Below w0.heap.size w0 w')) 33 [.code (sub (bodyOf Tryz.f5) [2, 2, 1, 2, 2, 1]), .inLoop (sub (bodyOf Tryz.f5) [2, 2, 1, 2, 2, 1]), .inBlock 0, .code (sub (bodyOf Tryz.f5) [2, 2, 2])] [(0, vops_0), (11, .int .i64 t_11), (12, .int .i64 t_12)] w := by
 intro n
 induction n with
 | zero => intro r ops_0 t_11 t_12 vops_0 hS; cases hS
 | succ n ih =>
  have hr0 : ∀ {r : Bool} {ops_0 : List law37_Op} {t_11 : Int} {t_12 : Int} {vops_0 : Value}, law37_long_L1 n ops_0 t_11 t_12 = some r → ∀ {ρ : Tags} {w : World}, (Fr (flat1 ρA) w0 ρ w) → (SlR law37_Op.c (Wb ρ) w vops_0 ops_0) → KE Tryz.prog 5 (Ret (fun v w' => v = .bool r ∧ Below w0.heap.size w0 w')) 33 [.inLoop (sub (bodyOf Tryz.f5) [2, 2, 1, 2, 2, 1]), .inBlock 0, .code (sub (bodyOf Tryz.f5) [2, 2, 2])] [(0, vops_0), (11, .int .i64 t_11), (12, .int .i64 t_12)] w := fun {r} {ops_0} {t_11} {t_12} {vops_0} hS {ρ} {w} hb hops_0 => ke_inLoop (ih hS hb hops_0)
  clear ih
  intro r ops_0 t_11 t_12 vops_0 hS ρ w hb hops_0
  unfold law37_long_L1 at hS
  refine ke_seq ?_
  refine ke_region ?_
  refine sr_ev (v := .bool (decide (t_12 < t_11))) (ev_lt rfl rfl) (by decide) ?_
  refine sr_end (l' := [(0, vops_0), (11, .int .i64 t_11), (12, .int .i64 t_12), (13, .bool (decide (t_12 < t_11)))]) (.cons rfl (.cons rfl (.cons rfl (.cons rfl (.nil _))))) ?_
  refine ke_seq ?_
  refine ke_cond (t := decide (t_12 < t_11)) rfl (fun hc4 => ?_) (fun hc4 => ?_)
  ·replace hS := ite_true' hS hc4
   refine ke_skip ?_
   refine ke_seq ?_
   refine ke_block ?_
   refine ke_seq ?_
   refine ke_region ?_
   refine sr_ev (v := .int .i64 t_12) (ev_move rfl) (by decide) ?_
   refine sr_ev (v := .int .i64 t_12) (ev_assign rfl) (by decide) ?_
   refine sr_end (l' := [(0, vops_0), (5, .int .i64 t_12), (11, .int .i64 t_11), (12, .int .i64 t_12)]) (.cons rfl (.cons rfl (.cons rfl (.cons rfl (.nil _))))) ?_
   refine ke_seq ?_
   refine ke_region_j (ρ := ρ) (fun _ => false) 17 Tryz.mixed (fun w6 hw5 => ?_)
   have htr7 := Tr.of_below hw5 hb.bd
   replace hops_0 := hops_0.mv htr7.rd
   replace hb := hb.trans htr7
   refine dj_H 0 (v := vops_0) (by kernel_rfl) (by kernel_rfl) rfl (fun _ _ _ h => h) (sj_refl hb.bd rfl rfl) (fun w1 ρ1 hw1 => ev_move rfl) (by decide) ?_
   refine dj_H 1 (v := .int .i64 t_12) (by kernel_rfl) (by kernel_rfl) rfl (fun _ _ _ h => h) (sj_refl hb.bd rfl rfl) (fun w1 ρ1 hw1 => ev_move rfl) (by decide) ?_
   obtain ⟨y75, hy76, hS⟩ := bind_some' hS
   obtain ⟨b77, o78, cs80, hq81, he79⟩ := ((SlT.of_sl (i := 0) hops_0)).elem (P := Tryz.prog) Tryz.underlying22 Tryz.info35 rfl hy76
   obtain rfl : cs80 = [.int .i64 y75.Kind, str y75.User, str y75.ID, str y75.Secret, .int .i64 y75.Until, .int .i64 y75.Now] := he79.rd
   refine dj_H 2 (v := .pointer (some ⟨b77, o78, none⟩)) (by kernel_rfl) (by kernel_rfl) rfl (fun _ _ _ h => h) (sj_refl hb.bd rfl rfl) (fun w1 ρ1 hw1 => hq81 w1 rfl rfl) (by decide) ?_
   refine dj_H 3 (v := .pointer (some ⟨b77, o78 + 1, none⟩)) (by kernel_rfl) (by kernel_rfl) rfl (fun _ _ _ h => h) (sj_refl hb.bd rfl rfl) (fun w1 ρ1 hw1 => ev_fieldAddr (i := 1) Tryz.underlying35 rfl Tryz.info9 rfl rfl) (by decide) ?_
   refine dj_H 4 (v := str y75.User) (by kernel_rfl) (by kernel_rfl) rfl (fun _ _ _ h => h) (sj_refl hb.bd rfl rfl) (fun w1 ρ1 hw1 => ev_load Tryz.isAgg9 rfl ((he79.mv (hw1.mv (i := 0) rfl) (Nat.succ_pos _)).cell 1 _ rfl)) (by decide) ?_
   refine dj_H 5 (v := vops_0) (by kernel_rfl) (by kernel_rfl) rfl (fun _ _ _ h => h) (sj_refl hb.bd rfl rfl) (fun w1 ρ1 hw1 => ev_move rfl) (by decide) ?_
   refine dj_H 6 (v := .int .i64 t_12) (by kernel_rfl) (by kernel_rfl) rfl (fun _ _ _ h => h) (sj_refl hb.bd rfl rfl) (fun w1 ρ1 hw1 => ev_move rfl) (by decide) ?_
   obtain ⟨y82, hy83, hS⟩ := bind_some' hS
   obtain ⟨b84, o85, cs87, hq88, he86⟩ := ((SlT.of_sl (i := 0) hops_0)).elem (P := Tryz.prog) Tryz.underlying22 Tryz.info35 rfl hy83
   obtain rfl : cs87 = [.int .i64 y82.Kind, str y82.User, str y82.ID, str y82.Secret, .int .i64 y82.Until, .int .i64 y82.Now] := he86.rd
   refine dj_H 7 (v := .pointer (some ⟨b84, o85, none⟩)) (by kernel_rfl) (by kernel_rfl) rfl (fun _ _ _ h => h) (sj_refl hb.bd rfl rfl) (fun w1 ρ1 hw1 => hq88 w1 rfl rfl) (by decide) ?_
   refine dj_H 8 (v := .pointer (some ⟨b84, o85 + 2, none⟩)) (by kernel_rfl) (by kernel_rfl) rfl (fun _ _ _ h => h) (sj_refl hb.bd rfl rfl) (fun w1 ρ1 hw1 => ev_fieldAddr (i := 2) Tryz.underlying35 rfl Tryz.info9 rfl rfl) (by decide) ?_
   refine dj_H 9 (v := str y82.ID) (by kernel_rfl) (by kernel_rfl) rfl (fun _ _ _ h => h) (sj_refl hb.bd rfl rfl) (fun w1 ρ1 hw1 => ev_load Tryz.isAgg9 rfl ((he86.mv (hw1.mv (i := 0) rfl) (Nat.succ_pos _)).cell 2 _ rfl)) (by decide) ?_
   refine dj_H 10 (v := vops_0) (by kernel_rfl) (by kernel_rfl) rfl (fun _ _ _ h => h) (sj_refl hb.bd rfl rfl) (fun w1 ρ1 hw1 => ev_move rfl) (by decide) ?_
   refine dj_H 11 (v := .int .i64 t_12) (by kernel_rfl) (by kernel_rfl) rfl (fun _ _ _ h => h) (sj_refl hb.bd rfl rfl) (fun w1 ρ1 hw1 => ev_move rfl) (by decide) ?_
   obtain ⟨y89, hy90, hS⟩ := bind_some' hS
   obtain ⟨b91, o92, cs94, hq95, he93⟩ := ((SlT.of_sl (i := 0) hops_0)).elem (P := Tryz.prog) Tryz.underlying22 Tryz.info35 rfl hy90
   obtain rfl : cs94 = [.int .i64 y89.Kind, str y89.User, str y89.ID, str y89.Secret, .int .i64 y89.Until, .int .i64 y89.Now] := he93.rd
   refine dj_H 12 (v := .pointer (some ⟨b91, o92, none⟩)) (by kernel_rfl) (by kernel_rfl) rfl (fun _ _ _ h => h) (sj_refl hb.bd rfl rfl) (fun w1 ρ1 hw1 => hq95 w1 rfl rfl) (by decide) ?_
   refine dj_H 13 (v := .pointer (some ⟨b91, o92 + 3, none⟩)) (by kernel_rfl) (by kernel_rfl) rfl (fun _ _ _ h => h) (sj_refl hb.bd rfl rfl) (fun w1 ρ1 hw1 => ev_fieldAddr (i := 3) Tryz.underlying35 rfl Tryz.info9 rfl rfl) (by decide) ?_
   refine dj_H 14 (v := str y89.Secret) (by kernel_rfl) (by kernel_rfl) rfl (fun _ _ _ h => h) (sj_refl hb.bd rfl rfl) (fun w1 ρ1 hw1 => ev_load Tryz.isAgg9 rfl ((he93.mv (hw1.mv (i := 0) rfl) (Nat.succ_pos _)).cell 3 _ rfl)) (by decide) ?_
   refine dj_E 15 (by kernel_rfl) rfl ?_
   have jt96 : Tr ρ w6 (fun _ => false) ρ w6 := (Tr.refl hb.bd).weak (fun _ _ => rfl) rfl rfl
   refine sr_litT (c := strC) (ρ := ρ) (E := 9) (xs := [y75.User, y82.ID, y89.Secret]) (vs := #[(0, str y75.User), (1, str y82.ID), (2, str y89.Secret)]) (cs := #[str y75.User, str y82.ID, str y89.Secret]) (css := [[str y75.User], [str y82.ID], [str y89.Secret]]) rfl (fun _ => by kernel_rfl) rfl ⟨rfl, ⟨rfl, ⟨rfl, trivial⟩⟩⟩ rfl (by decide) hb.bd (by decide) ?_
   intro v97 w99 h98 hbw101
   have htr100 := Tr.of_below hbw101 hb.bd
   replace hops_0 := hops_0.mv htr100.rd
   replace hb := hb.trans htr100
   replace jt96 := (jt96.trans htr100).weak (J' := (fun _ => false)) (by intro t h; simp [rng] at h ⊢ <;> omega) rfl rfl
   refine dj_next (l' := [(0, vops_0), (11, .int .i64 t_11), (12, .int .i64 t_12), (30, v97)]) rfl (.cons rfl (.cons rfl (.cons rfl (.cons rfl (.nil _))))) jt96 (by intro t h; simp [rng] at h ⊢ <;> omega) rfl rfl ?_
   refine dj_E 16 (by kernel_rfl) rfl ?_
   have jt102 : Tr ρ w99 (fun _ => false) ρ w99 := (Tr.refl hb.bd).weak (fun _ _ => rfl) rfl rfl
   obtain ⟨y103, hy104, hS⟩ := bind_some' hS
   refine sr_call (vs := [v97, .int .i64 3, .int .i64 300]) rfl Tryz.call11 rfl (ref02_Great_ok _ (hg.fr hz hb) h98.asSl hy104) (by decide) ?_
   rintro _ w105 ⟨rfl, hbw106⟩
   have htr107 := Tr.of_below hbw106 hb.bd
   replace hops_0 := hops_0.mv htr107.rd
   replace hb := hb.trans htr107
   replace jt102 := (jt102.trans htr107).weak (J' := (fun _ => false)) (by intro t h; simp [rng] at h ⊢ <;> omega) rfl rfl
   refine dj_next (l' := [(0, vops_0), (11, .int .i64 t_11), (12, .int .i64 t_12), (31, .bool y103)]) rfl (.cons rfl (.cons rfl (.cons rfl (.cons rfl (.nil _))))) jt102 (by intro t h; simp [rng] at h ⊢ <;> omega) rfl rfl ?_
   refine dj_done rfl (by kernel_rfl) ?_
   refine ke_weaken (l' := [(0, vops_0), (11, .int .i64 t_11), (12, .int .i64 t_12), (31, .bool y103)]) (.cons rfl (.cons rfl (.cons rfl (.cons rfl (.nil _))))) ?_
   refine ke_cond (t := y103) rfl (fun hc108 => ?_) (fun hc108 => ?_)
   ·replace hS := ite_true' hS hc108
    refine ke_seq ?_
    refine ke_region ?_
    refine sr_ev (v := .bool true) (ev_assign rfl) (by decide) ?_
    refine sr_end (l' := [(4, .bool true)]) (.cons rfl (.nil _)) ?_
    cases hS
    exact ke_ret1 Tryz.func5 rfl rfl ⟨_, rfl, rfl, (hb.below (flat1_le _))⟩
   ·replace hS := ite_false' hS hc108
    refine ke_skip ?_
    refine ke_inBlock ?_
    refine ke_region ?_
    refine sr_ev (v := .int .i64 (IntKind.i64.wrap (t_12 + 1))) (ev_add rfl rfl) (by decide) ?_
    refine sr_ev (v := .int .i64 (IntKind.i64.wrap (t_12 + 1))) (ev_move rfl) (by decide) ?_
    refine sr_end (l' := [(0, vops_0), (11, .int .i64 t_11), (12, .int .i64 (IntKind.i64.wrap (t_12 + 1)))]) (.cons rfl (.cons rfl (.cons rfl (.nil _)))) ?_
    have hK := hr0 hS hb hops_0
    exact ke_weaken (l' := [(0, vops_0), (11, .int .i64 t_11), (12, .int .i64 (IntKind.i64.wrap (t_12 + 1)))]) (.cons rfl (.cons rfl (.cons rfl (.nil _)))) hK
  ·replace hS := ite_false' hS hc4
   refine ke_exit (k' := _) rfl ?_
   refine ke_seq ?_
   refine ke_region ?_
   refine sr_ev (v := .bool false) (ev_assign rfl) (by decide) ?_
   refine sr_end (l' := [(4, .bool false)]) (.cons rfl (.nil _)) ?_
   cases hS
   exact ke_ret1 Tryz.func5 rfl rfl ⟨_, rfl, rfl, (hb.below (flat1_le _))⟩
theorem law37_long_ok (w0 : World) (hg : Gs w0) {ρA : Tags} (hbd : ∀ b, ρA b ≠ 0 → b < w0.heap.size) (hz : Gz ρA) {ops_0 : List law37_Op} {most_1 : Int} {v1 : Value} {r : Bool} (h2 : SlR law37_Op.c (Wb ρA) w0 v1 ops_0) (hS : law37_long ops_0 most_1 = some r) :
  Calls Tryz.prog 5 #[v1, .int .i64 most_1] w0 (Ret (fun v w' => v = .bool r ∧ Below w0.heap.size w0 w')) := by
 unfold law37_long at hS
 have hb := flat1_fr (ρ := ρA) (w := w0) hbd
 have hz := hz.flat1
 replace h2 := SlR.mv h2 flat1_rd
 refine calls_of_ke Tryz.func5 rfl (n := 33) rfl rfl (l := [(0, v1), (1, .int .i64 most_1)]) rfl ?_
 refine ke_seq ?_
 refine ke_region ?_
 refine sr_ev (v := .bool false) (ev_assign rfl) (by decide) ?_
 refine sr_end (l' := [(0, v1), (1, .int .i64 most_1)]) (.cons rfl (.cons rfl (.nil _))) ?_
 refine ke_seq ?_
 refine ke_seq ?_
 refine ke_region ?_
 refine sr_ev (v := v1) (ev_move rfl) (by decide) ?_
 refine sr_ev (v := .int .i64 (ops_0.length : Int)) (ev_sllen Tryz.underlying22 rfl h2.asSl) (by decide) ?_
 refine sr_ev (v := .int .i64 most_1) (ev_move rfl) (by decide) ?_
 refine sr_ev (v := .bool (decide ((ops_0.length : Int) > most_1))) (ev_gt rfl rfl) (by decide) ?_
 refine sr_end (l' := [(0, v1), (9, .bool (decide ((ops_0.length : Int) > most_1)))]) (.cons rfl (.cons rfl (.nil _))) ?_
 refine ke_cond (t := decide ((ops_0.length : Int) > most_1)) rfl (fun hc3 => ?_) (fun hc3 => ?_)
 ·replace hS := ite_true' hS hc3
  refine ke_seq ?_
  refine ke_region ?_
  refine sr_ev (v := .bool true) (ev_assign rfl) (by decide) ?_
  refine sr_end (l' := [(4, .bool true)]) (.cons rfl (.nil _)) ?_
  cases hS
  exact ke_ret1 Tryz.func5 rfl rfl ⟨_, rfl, rfl, (hb.below (flat1_le _))⟩
 ·replace hS := ite_false' hS hc3
  refine ke_skip ?_
  refine ke_seq ?_
  refine ke_seq ?_
  refine ke_region ?_
  refine sr_ev (v := v1) (ev_move rfl) (by decide) ?_
  refine sr_ev (v := .int .i64 (ops_0.length : Int)) (ev_sllen Tryz.underlying22 rfl h2.asSl) (by decide) ?_
  refine sr_ev (v := .int .i64 0) (ev_move rfl) (by decide) ?_
  refine sr_end (l' := [(0, v1), (11, .int .i64 (ops_0.length : Int)), (12, .int .i64 0)]) (.cons rfl (.cons rfl (.cons rfl (.nil _)))) ?_
  refine ke_block ?_
  have hK := law37_long_L1_ok hg hbd hz _ hS hb h2
  exact ke_weaken (l' := [(0, v1), (11, .int .i64 (ops_0.length : Int)), (12, .int .i64 0)]) (.cons rfl (.cons rfl (.cons rfl (.nil _)))) (ke_loop hK)
theorem device_Devices_made_ok (w0 : World) (hg : Gs w0) {ρA : Tags} (hbd : ∀ b, ρA b ≠ 0 → b < w0.heap.size) (hz : Gz ρA) {τ0 : Nat → Nat} (hτ0 : ∀ p, 1 ≤ τ0 p) {d_0 : device_Devices} {gd_0 : Nat} {r : Bool} (ho0 : device_Devices.O τ0 ρA w0 gd_0 d_0) (hS : device_Devices_made d_0 = some r) :
  Calls Tryz.prog 32 #[.pointer (some ⟨gd_0, 0, none⟩)] w0 (Ret (fun v w' => v = .bool r ∧ Below w0.heap.size w0 w')) := by
 unfold device_Devices_made at hS
 have hb := flat1_fr (ρ := ρA) (w := w0) hbd
 have hz := hz.flat1
 obtain ⟨v1, hB3, h2⟩ := ho0
 replace hB3 := hB3.mv (flat1_mv (hτ0 0))
 replace h2 := h2.mv (flat1_mv (hτ0 1))
 replace hB3 : Blk (flat1 ρA) 1 w0 gd_0 (.cells #[v1, .int .i64 d_0.given] 41 (0, 0)) := hB3
 replace h2 : MapT device_key.ek device_record.c true (flat1 ρA) 1 w0 v1 d_0.records := h2
 refine calls_of_ke Tryz.func32 rfl (n := 12) rfl rfl (l := [(0, .pointer (some ⟨gd_0, 0, none⟩))]) rfl ?_
 refine ke_seq ?_
 refine ke_region ?_
 refine sr_ev (v := .bool false) (ev_assign rfl) (by decide) ?_
 refine sr_end (l' := [(0, .pointer (some ⟨gd_0, 0, none⟩))]) (.cons rfl (.nil _)) ?_
 refine ke_seq ?_
 refine ke_region ?_
 refine sr_ev (v := .pointer (some ⟨gd_0, 0, none⟩)) (ev_move rfl) (by decide) ?_
 refine sr_ev (v := .bool true) (ev_pneT_some Tryz.underlying23 rfl rfl) (by decide) ?_
 refine sr_ev (v := .bool true) (ev_move rfl) (by decide) ?_
 refine sr_evg (b := true) (e := 5) rfl rfl rfl (v := .pointer (some ⟨gd_0, 0, none⟩)) (ev_move rfl) (by decide) ?_
 refine sr_evg (b := true) (e := 5) rfl rfl rfl (v := .pointer (some ⟨gd_0, 0, none⟩)) (ev_nilCheck rfl) (by decide) ?_
 refine sr_evg (b := true) (e := 5) rfl rfl rfl (v := .pointer (some ⟨gd_0, 0, none⟩)) (ev_fieldAddr (i := 0) Tryz.underlying41 rfl Tryz.info39 rfl rfl) (by decide) ?_
 refine sr_evg (b := true) (e := 5) rfl rfl rfl (v := v1) (ev_load Tryz.isAgg39 rfl (hB3.cell rfl)) (by decide) ?_
 refine sr_evg (b := true) (e := 5) rfl rfl rfl (v := .bool (!d_0.records.isNone)) (ev_mapNe h2 Tryz.underlying39 w0 rfl rfl) (by decide) ?_
 refine sr_ev (v := .bool (!d_0.records.isNone)) (ev_pick_t rfl rfl rfl) (by decide) ?_
 refine sr_ev (v := .bool (!d_0.records.isNone)) (ev_assign rfl) (by decide) ?_
 refine sr_end (l' := [(2, .bool (!d_0.records.isNone))]) (.cons rfl (.nil _)) ?_
 cases hS
 exact ke_ret1 Tryz.func32 rfl rfl ⟨_, rfl, rfl, (hb.below (flat1_le _))⟩
theorem device_limited_ok (w0 : World) (hg : Gs w0) {n_0 : Int} {r : Int} (hS : device_limited n_0 = some r) :
  Calls Tryz.prog 31 #[.int .i64 n_0] w0 (Ret (fun v w' => v = .int .i64 r ∧ Below w0.heap.size w0 w')) := by
 unfold device_limited at hS
 have hb := Below.refl w0.heap.size w0
 refine calls_of_ke Tryz.func31 rfl (n := 6) rfl rfl (l := [(0, .int .i64 n_0)]) rfl ?_
 refine ke_seq ?_
 refine ke_region ?_
 refine sr_ev (v := .int .i64 0) (ev_assign rfl) (by decide) ?_
 refine sr_end (l' := [(0, .int .i64 n_0)]) (.cons rfl (.nil _)) ?_
 refine ke_seq ?_
 refine ke_region ?_
 refine sr_ev (v := .int .i64 n_0) (ev_move rfl) (by decide) ?_
 refine sr_ev (v := .int .i64 (gmax n_0 0)) (ev_max rfl rfl) (by decide) ?_
 refine sr_ev (v := .int .i64 (gmin (gmax n_0 0) 1099511627776)) (ev_min rfl rfl) (by decide) ?_
 refine sr_ev (v := .int .i64 (gmin (gmax n_0 0) 1099511627776)) (ev_assign rfl) (by decide) ?_
 refine sr_end (l' := [(2, .int .i64 (gmin (gmax n_0 0) 1099511627776))]) (.cons rfl (.nil _)) ?_
 cases hS
 exact ke_ret1 Tryz.func31 rfl rfl ⟨_, rfl, rfl, hb⟩
theorem device_Devices_find_ok (w0 : World) (hg : Gs w0) {ρA : Tags} (hbd : ∀ b, ρA b ≠ 0 → b < w0.heap.size) (hz : Gz ρA) {τ0 : Nat → Nat} (hτ0 : ∀ p, 1 ≤ τ0 p) {d_0 : device_Devices} {user_1 : Str} {id_2 : Str} {now_3 : Int} {gd_0 : Nat} {r : device_record × Int} (ho0 : device_Devices.O τ0 ρA w0 gd_0 d_0) (hS : device_Devices_find d_0 user_1 id_2 now_3 = some r) :
  Calls Tryz.prog 30 #[.pointer (some ⟨gd_0, 0, none⟩), str user_1, str id_2, .int .i64 now_3] w0 (Ret (fun v w' => v = .tuple #[.agg #[str r.1.secret, str r.1.challenge, .int .i64 r.1.until_], .int .i64 r.2] ∧ Below w0.heap.size w0 w')) := by
 unfold device_Devices_find at hS
 have hb := flat1_fr (ρ := ρA) (w := w0) hbd
 have hz := hz.flat1
 obtain ⟨v1, hB3, h2⟩ := ho0
 replace hB3 := hB3.mv (flat1_mv (hτ0 0))
 replace h2 := h2.mv (flat1_mv (hτ0 1))
 replace hB3 : Blk (flat1 ρA) 1 w0 gd_0 (.cells #[v1, .int .i64 d_0.given] 41 (0, 0)) := hB3
 replace h2 : MapT device_key.ek device_record.c true (flat1 ρA) 1 w0 v1 d_0.records := h2
 refine calls_of_ke Tryz.func30 rfl (n := 39) rfl rfl (l := [(0, .pointer (some ⟨gd_0, 0, none⟩)), (1, str user_1), (2, str id_2), (3, .int .i64 now_3)]) rfl ?_
 refine ke_seq ?_
 refine ke_region ?_
 refine sr_allocT 10 (by decide) hb.bd Tryz.zeroValue57 (by decide) ?_
 intro g4 ρ5 w6 hB8 htr7
 replace hB3 := hB3.mv (htr7.mv (i := 1) rfl)
 replace h2 := h2.mv (htr7.mv (i := 1) rfl)
 replace hb := hb.trans htr7
 replace hB8 : Blk ρ5 10 w6 g4 (.cells #[str ([]), str ([]), .int .i64 0] 57 (0, 0)) := hB8
 refine sr_ev (v := .int .i64 0) (ev_assign rfl) (by decide) ?_
 refine sr_end (l' := [(0, .pointer (some ⟨gd_0, 0, none⟩)), (1, str user_1), (2, str id_2), (3, .int .i64 now_3), (8, .pointer (some ⟨g4, 0, none⟩))]) (.cons rfl (.cons rfl (.cons rfl (.cons rfl (.cons rfl (.nil _)))))) ?_
 refine ke_seq ?_
 refine ke_seq ?_
 refine ke_region ?_
 refine sr_ev (v := .pointer (some ⟨gd_0, 0, none⟩)) (ev_move rfl) (by decide) ?_
 obtain ⟨y9, hy10, hS⟩ := bind_some' hS
 refine sr_call (vs := [.pointer (some ⟨gd_0, 0, none⟩)]) rfl Tryz.call32 rfl (device_Devices_made_ok _ (hg.fr hz hb) (ρA := ρ5) hb.bd (hz.fr hg hb) (τ0 := (fun _ => 1)) (fun _ => Nat.le_refl 1) (⟨_, hB3, h2⟩ : device_Devices.O (fun _ => 1) ρ5 w6 gd_0 d_0) hy10) (by decide) ?_
 rintro _ w11 ⟨rfl, hbw12⟩
 have htr13 := Tr.of_below hbw12 hb.bd
 replace hB8 := hB8.mv (htr13.mv (i := 10) rfl)
 replace hB3 := hB3.mv (htr13.mv (i := 1) rfl)
 replace h2 := h2.mv (htr13.mv (i := 1) rfl)
 replace hb := hb.trans htr13
 refine sr_ev (v := .bool (!y9)) (ev_not rfl) (by decide) ?_
 refine sr_end (l' := [(0, .pointer (some ⟨gd_0, 0, none⟩)), (1, str user_1), (2, str id_2), (3, .int .i64 now_3), (8, .pointer (some ⟨g4, 0, none⟩)), (14, .bool (!y9))]) (.cons rfl (.cons rfl (.cons rfl (.cons rfl (.cons rfl (.cons rfl (.nil _))))))) ?_
 refine ke_cond (t := !y9) rfl (fun hc14 => ?_) (fun hc14 => ?_)
 ·replace hS := ite_true' hS hc14
  refine ke_seq ?_
  refine ke_region ?_
  refine sr_ev (v := .agg #[str ([]), str ([]), .int .i64 0]) (ev_build (vs := #[]) rfl (fun _ => by kernel_rfl)) (by decide) ?_
  refine sr_storeT (v := .agg #[str ([]), str ([]), .int .i64 0]) (vs := [str ([]), str ([]), .int .i64 0]) (cs' := #[str ([]), str ([]), .int .i64 0]) hB8 (by decide) hb.bd rfl rfl rfl Tryz.sizeOf57 rfl rfl rfl ?_
  intro w15 hB81 htr16
  replace hb := hb.trans htr16
  replace hB8 : Blk ρ5 10 w15 g4 (.cells #[str ([]), str ([]), .int .i64 0] 57 (0, 0)) := hB81
  clear hB81
  refine sr_ev (v := .int .i64 1) (ev_assign rfl) (by decide) ?_
  refine sr_end (l' := [(8, .pointer (some ⟨g4, 0, none⟩)), (9, .int .i64 1)]) (.cons rfl (.cons rfl (.nil _))) ?_
  cases hS
  exact ke_ret (rs := [.cell 8 57, .tmp 9]) (vs := [.agg #[str ([]), str ([]), .int .i64 0], .int .i64 1]) Tryz.func30 rfl ⟨⟨_, rfl, run_loadVar_s (cs := [str ([]), str ([]), .int .i64 0]) Tryz.isAgg57 Tryz.sizeOf57 (hB8.cells (vs := [str ([]), str ([]), .int .i64 0]) rfl)⟩, rfl, trivial⟩ rfl ⟨_, rfl, rfl, (hb.below (flat1_le _))⟩
 ·replace hS := ite_false' hS hc14
  refine ke_skip ?_
  refine ke_seq ?_
  refine ke_region ?_
  refine sr_ev (v := .pointer (some ⟨gd_0, 0, none⟩)) (ev_move rfl) (by decide) ?_
  refine sr_ev (v := .pointer (some ⟨gd_0, 0, none⟩)) (ev_nilCheck rfl) (by decide) ?_
  refine sr_ev (v := .pointer (some ⟨gd_0, 0, none⟩)) (ev_fieldAddr (i := 0) Tryz.underlying41 rfl Tryz.info39 rfl rfl) (by decide) ?_
  refine sr_ev (v := v1) (ev_load Tryz.isAgg39 rfl (hB3.cell rfl)) (by decide) ?_
  refine sr_ev (v := str user_1) (ev_move rfl) (by decide) ?_
  refine sr_ev (v := str id_2) (ev_move rfl) (by decide) ?_
  refine sr_ev (v := .agg #[str user_1, str id_2]) (ev_build (vs := #[(0, str user_1), (1, str id_2)]) rfl (fun _ => by kernel_rfl)) (by decide) ?_
  obtain ⟨y21, hy22, hS⟩ := bind_some' hS
  replace hy22 := Option.some.inj hy22
  obtain ⟨cs17, hrd18, hl19, hl20⟩ := h2.look (zcs := [str ([]), str ([]), .int .i64 0]) (z := (device_record.mk ([]) ([]) 0)) Tryz.keyB61 Tryz.underlying39 Tryz.zeroValue57 rfl (device_key.mk user_1 id_2)
  rw [hy22] at hrd18
  obtain rfl : cs17 = [str y21.secret, str y21.challenge, .int .i64 y21.until_] := hrd18
  refine sr_ev (v := .tuple #[.agg #[str y21.secret, str y21.challenge, .int .i64 y21.until_], .bool (mhas d_0.records (device_key.mk user_1 id_2))]) (hl20 w11 _ _ (Mv.of_below (i := 1) (ρ := ρ5) (Below.refl _ _)) rfl rfl) (by decide) ?_
  refine sr_ev (v := .tuple #[.agg #[str y21.secret, str y21.challenge, .int .i64 y21.until_], .bool (mhas d_0.records (device_key.mk user_1 id_2))]) (ev_move rfl) (by decide) ?_
  refine sr_ev (v := .agg #[str y21.secret, str y21.challenge, .int .i64 y21.until_]) (ev_extract rfl rfl) (by decide) ?_
  refine sr_ev (v := .bool (mhas d_0.records (device_key.mk user_1 id_2))) (ev_extract rfl rfl) (by decide) ?_
  refine sr_allocT 12 (by decide) hb.bd Tryz.zeroValue57 (by decide) ?_
  intro g23 ρ24 w25 hB27 htr26
  replace hB8 := hB8.mv (htr26.mv (i := 10) rfl)
  replace hb := hb.trans htr26
  replace hB27 : Blk ρ24 12 w25 g23 (.cells #[str ([]), str ([]), .int .i64 0] 57 (0, 0)) := hB27
  refine sr_storeT (v := .agg #[str y21.secret, str y21.challenge, .int .i64 y21.until_]) (vs := [str y21.secret, str y21.challenge, .int .i64 y21.until_]) (cs' := #[str y21.secret, str y21.challenge, .int .i64 y21.until_]) hB27 (by decide) hb.bd rfl rfl rfl Tryz.sizeOf57 rfl rfl rfl ?_
  intro w28 hB271 htr29
  replace hB8 := hB8.mv (htr29.mv (i := 10) rfl)
  replace hb := hb.trans htr29
  replace hB27 : Blk ρ24 12 w28 g23 (.cells #[str y21.secret, str y21.challenge, .int .i64 y21.until_] 57 (0, 0)) := hB271
  clear hB271
  refine sr_ev (v := .bool (mhas d_0.records (device_key.mk user_1 id_2))) (ev_assign rfl) (by decide) ?_
  refine sr_end (l' := [(3, .int .i64 now_3), (8, .pointer (some ⟨g4, 0, none⟩)), (10, .pointer (some ⟨g23, 0, none⟩)), (11, .bool (mhas d_0.records (device_key.mk user_1 id_2)))]) (.cons rfl (.cons rfl (.cons rfl (.cons rfl (.nil _))))) ?_
  refine ke_seq ?_
  refine ke_block ?_
  refine ke_seq ?_
  refine ke_region ?_
  refine sr_ev (v := .bool (mhas d_0.records (device_key.mk user_1 id_2))) (ev_move rfl) (by decide) ?_
  refine sr_ev (v := .bool (!(mhas d_0.records (device_key.mk user_1 id_2)))) (ev_not rfl) (by decide) ?_
  refine sr_ev (v := .bool (!(mhas d_0.records (device_key.mk user_1 id_2)))) (ev_assign rfl) (by decide) ?_
  refine sr_end (l' := [(3, .int .i64 now_3), (8, .pointer (some ⟨g4, 0, none⟩)), (10, .pointer (some ⟨g23, 0, none⟩)), (27, .bool (!(mhas d_0.records (device_key.mk user_1 id_2))))]) (.cons rfl (.cons rfl (.cons rfl (.cons rfl (.nil _))))) ?_
  refine ke_cond (t := !(mhas d_0.records (device_key.mk user_1 id_2))) rfl (fun hc30 => ?_) (fun hc30 => ?_)
  ·replace hS := ite_true' hS hc30
   refine ke_seq ?_
   refine ke_region ?_
   refine sr_ev (v := .agg #[str ([]), str ([]), .int .i64 0]) (ev_build (vs := #[]) rfl (fun _ => by kernel_rfl)) (by decide) ?_
   refine sr_storeT (v := .agg #[str ([]), str ([]), .int .i64 0]) (vs := [str ([]), str ([]), .int .i64 0]) (cs' := #[str ([]), str ([]), .int .i64 0]) hB8 (by decide) hb.bd rfl rfl rfl Tryz.sizeOf57 rfl rfl rfl ?_
   intro w31 hB81 htr32
   replace hb := hb.trans htr32
   replace hB8 : Blk ρ24 10 w31 g4 (.cells #[str ([]), str ([]), .int .i64 0] 57 (0, 0)) := hB81
   clear hB81
   refine sr_ev (v := .int .i64 6) (ev_assign rfl) (by decide) ?_
   refine sr_end (l' := [(8, .pointer (some ⟨g4, 0, none⟩)), (9, .int .i64 6)]) (.cons rfl (.cons rfl (.nil _))) ?_
   cases hS
   exact ke_ret (rs := [.cell 8 57, .tmp 9]) (vs := [.agg #[str ([]), str ([]), .int .i64 0], .int .i64 6]) Tryz.func30 rfl ⟨⟨_, rfl, run_loadVar_s (cs := [str ([]), str ([]), .int .i64 0]) Tryz.isAgg57 Tryz.sizeOf57 (hB8.cells (vs := [str ([]), str ([]), .int .i64 0]) rfl)⟩, rfl, trivial⟩ rfl ⟨_, rfl, rfl, (hb.below (flat1_le _))⟩
  ·replace hS := ite_false' hS hc30
   refine ke_seq ?_
   refine ke_region_q Tryz.mixed (by kernel_rfl) ?_
   refine sq_ev (v := .int .i64 now_3) (fun w1 hw1 => ev_move rfl) (by decide) ?_
   obtain ⟨y35, hy36, hS⟩ := bind_some' hS
   refine sq_call (v := .int .i64 y35) (vs := [.int .i64 now_3]) rfl Tryz.call31 rfl (fun w1 hw1 => (device_limited_ok _ ((hg.fr hz hb).below hw1) hy36)) (by decide) ?_
   refine sq_ev (v := .pointer (some ⟨g23, 2, none⟩)) (fun w1 hw1 => ev_fieldAddr (i := 2) Tryz.underlying57 rfl Tryz.info3 rfl rfl) (by decide) ?_
   refine sq_ev (v := .int .i64 y21.until_) (fun w1 hw1 => ev_load Tryz.isAgg3 rfl ((hB27.mv (Mv.of_below (i := 12) (ρ := ρ24) hw1)).cell rfl)) (by decide) ?_
   refine sq_ev (v := .bool (decide (y35 ≥ y21.until_))) (fun w1 hw1 => ev_ge rfl rfl) (by decide) ?_
   refine sq_ev (v := .bool (decide (y35 ≥ y21.until_))) (fun w1 hw1 => ev_assign rfl) (by decide) ?_
   refine sq_end (l' := [(8, .pointer (some ⟨g4, 0, none⟩)), (10, .pointer (some ⟨g23, 0, none⟩)), (31, .bool (decide (y35 ≥ y21.until_)))]) (.cons rfl (.cons rfl (.cons rfl (.nil _)))) (fun w34 hw33 => ?_)
   have htr40 := Tr.of_below hw33 hb.bd
   replace hB27 := hB27.mv (htr40.mv (i := 12) rfl)
   replace hB8 := hB8.mv (htr40.mv (i := 10) rfl)
   replace hb := hb.trans htr40
   refine ke_cond (t := decide (y35 ≥ y21.until_)) rfl (fun hc41 => ?_) (fun hc41 => ?_)
   ·replace hS := ite_true' hS hc41
    refine ke_seq ?_
    refine ke_region ?_
    refine sr_ev (v := .agg #[str ([]), str ([]), .int .i64 0]) (ev_build (vs := #[]) rfl (fun _ => by kernel_rfl)) (by decide) ?_
    refine sr_storeT (v := .agg #[str ([]), str ([]), .int .i64 0]) (vs := [str ([]), str ([]), .int .i64 0]) (cs' := #[str ([]), str ([]), .int .i64 0]) hB8 (by decide) hb.bd rfl rfl rfl Tryz.sizeOf57 rfl rfl rfl ?_
    intro w42 hB81 htr43
    replace hb := hb.trans htr43
    replace hB8 : Blk ρ24 10 w42 g4 (.cells #[str ([]), str ([]), .int .i64 0] 57 (0, 0)) := hB81
    clear hB81
    refine sr_ev (v := .int .i64 13) (ev_assign rfl) (by decide) ?_
    refine sr_end (l' := [(8, .pointer (some ⟨g4, 0, none⟩)), (9, .int .i64 13)]) (.cons rfl (.cons rfl (.nil _))) ?_
    cases hS
    exact ke_ret (rs := [.cell 8 57, .tmp 9]) (vs := [.agg #[str ([]), str ([]), .int .i64 0], .int .i64 13]) Tryz.func30 rfl ⟨⟨_, rfl, run_loadVar_s (cs := [str ([]), str ([]), .int .i64 0]) Tryz.isAgg57 Tryz.sizeOf57 (hB8.cells (vs := [str ([]), str ([]), .int .i64 0]) rfl)⟩, rfl, trivial⟩ rfl ⟨_, rfl, rfl, (hb.below (flat1_le _))⟩
   ·replace hS := ite_false' hS hc41
    refine ke_skip ?_
    refine ke_inBlock ?_
    refine ke_seq ?_
    refine ke_region ?_
    refine sr_ev (v := .agg #[str y21.secret, str y21.challenge, .int .i64 y21.until_]) (ev_loads (cs := [str y21.secret, str y21.challenge, .int .i64 y21.until_]) Tryz.isAgg57 Tryz.sizeOf57 rfl (hB27.cells (vs := [str y21.secret, str y21.challenge, .int .i64 y21.until_]) rfl)) (by decide) ?_
    refine sr_storeT (v := .agg #[str y21.secret, str y21.challenge, .int .i64 y21.until_]) (vs := [str y21.secret, str y21.challenge, .int .i64 y21.until_]) (cs' := #[str y21.secret, str y21.challenge, .int .i64 y21.until_]) hB8 (by decide) hb.bd rfl rfl rfl Tryz.sizeOf57 rfl rfl rfl ?_
    intro w44 hB81 htr45
    replace hb := hb.trans htr45
    replace hB8 : Blk ρ24 10 w44 g4 (.cells #[str y21.secret, str y21.challenge, .int .i64 y21.until_] 57 (0, 0)) := hB81
    clear hB81
    refine sr_ev (v := .int .i64 0) (ev_assign rfl) (by decide) ?_
    refine sr_end (l' := [(8, .pointer (some ⟨g4, 0, none⟩)), (9, .int .i64 0)]) (.cons rfl (.cons rfl (.nil _))) ?_
    cases hS
    exact ke_ret (rs := [.cell 8 57, .tmp 9]) (vs := [.agg #[str y21.secret, str y21.challenge, .int .i64 y21.until_], .int .i64 0]) Tryz.func30 rfl ⟨⟨_, rfl, run_loadVar_s (cs := [str y21.secret, str y21.challenge, .int .i64 y21.until_]) Tryz.isAgg57 Tryz.sizeOf57 (hB8.cells (vs := [str y21.secret, str y21.challenge, .int .i64 y21.until_]) rfl)⟩, rfl, trivial⟩ rfl ⟨_, rfl, rfl, (hb.below (flat1_le _))⟩
theorem codec_Int_ok (w0 : World) (hg : Gs w0) {n_0 : Int} {r : Str} (hS : codec_Int n_0 = some r) :
  Calls Tryz.prog 36 #[.int .i64 n_0] w0 (Ret (fun v w' => v = str r ∧ Below w0.heap.size w0 w')) := by
 unfold codec_Int at hS
 have hb := Below.refl w0.heap.size w0
 refine calls_of_ke Tryz.func36 rfl (n := 5) rfl rfl (l := [(0, .int .i64 n_0)]) rfl ?_
 refine ke_seq ?_
 refine ke_region ?_
 refine sr_ev (v := str ([])) (ev_assign rfl) (by decide) ?_
 refine sr_end (l' := [(0, .int .i64 n_0)]) (.cons rfl (.nil _)) ?_
 refine ke_seq ?_
 refine ke_region ?_
 refine sr_ev (v := .int .i64 n_0) (ev_move rfl) (by decide) ?_
 obtain ⟨y1, hy2, hS⟩ := bind_some' hS
 refine sr_call (vs := [.int .i64 n_0]) rfl Tryz.call38 rfl (lib_Itoa_ok _ (hg.below hb) hy2) (by decide) ?_
 rintro _ w3 ⟨rfl, hbw4⟩
 replace hb := hb.trans (hbw4.mono hb.size)
 refine sr_ev (v := str y1) (ev_assign rfl) (by decide) ?_
 refine sr_end (l' := [(2, str y1)]) (.cons rfl (.nil _)) ?_
 cases hS
 exact ke_ret1 Tryz.func36 rfl rfl ⟨_, rfl, rfl, hb⟩
theorem digest_Sum_L1_ok {w0 : World} (hg : Gs w0) : ∀ (n : Nat), ∀ {r : Int} {s_0 : Str} {h_3 : Int} {t_6 : Int} {t_7 : Int}, digest_Sum_L1 n s_0 h_3 t_6 t_7 = some r → ∀ {w : World}, (Below w0.heap.size w0 w) → KE Tryz.prog 53 (Ret (fun v w' => v = .int .u64 r ∧ Below w0.heap.size w0 w')) 34 [.code (sub (bodyOf Tryz.f53) [2, 2, 1, 2, 2, 1]), .inLoop (sub (bodyOf Tryz.f53) [2, 2, 1, 2, 2, 1]), .inBlock 0, .code (sub (bodyOf Tryz.f53) [2, 2, 2])] [(0, str s_0), (3, .int .u64 h_3), (6, .int .i64 t_6), (7, .int .i64 t_7)] w := by
 intro n
 induction n with
 | zero => intro r s_0 h_3 t_6 t_7 hS; cases hS
 | succ n ih =>
  have hr0 : ∀ {r : Int} {s_0 : Str} {h_3 : Int} {t_6 : Int} {t_7 : Int}, digest_Sum_L1 n s_0 h_3 t_6 t_7 = some r → ∀ {w : World}, (Below w0.heap.size w0 w) → KE Tryz.prog 53 (Ret (fun v w' => v = .int .u64 r ∧ Below w0.heap.size w0 w')) 34 [.inLoop (sub (bodyOf Tryz.f53) [2, 2, 1, 2, 2, 1]), .inBlock 0, .code (sub (bodyOf Tryz.f53) [2, 2, 2])] [(0, str s_0), (3, .int .u64 h_3), (6, .int .i64 t_6), (7, .int .i64 t_7)] w := fun {r} {s_0} {h_3} {t_6} {t_7} hS {w} hb => ke_inLoop (ih hS hb)
  clear ih
  intro r s_0 h_3 t_6 t_7 hS w hb
  unfold digest_Sum_L1 at hS
  refine ke_seq ?_
  refine ke_region ?_
  refine sr_ev (v := .bool (decide (t_7 < t_6))) (ev_lt rfl rfl) (by decide) ?_
  refine sr_end (l' := [(0, str s_0), (3, .int .u64 h_3), (6, .int .i64 t_6), (7, .int .i64 t_7), (8, .bool (decide (t_7 < t_6)))]) (.cons rfl (.cons rfl (.cons rfl (.cons rfl (.cons rfl (.nil _)))))) ?_
  refine ke_seq ?_
  refine ke_cond (t := decide (t_7 < t_6)) rfl (fun hc1 => ?_) (fun hc1 => ?_)
  ·replace hS := ite_true' hS hc1
   refine ke_skip ?_
   refine ke_seq ?_
   refine ke_block ?_
   refine ke_seq ?_
   refine ke_region ?_
   refine sr_ev (v := .int .i64 t_7) (ev_move rfl) (by decide) ?_
   refine sr_ev (v := .int .i64 t_7) (ev_assign rfl) (by decide) ?_
   refine sr_end (l' := [(0, str s_0), (3, .int .u64 h_3), (4, .int .i64 t_7), (6, .int .i64 t_6), (7, .int .i64 t_7)]) (.cons rfl (.cons rfl (.cons rfl (.cons rfl (.cons rfl (.nil _)))))) ?_
   refine ke_region ?_
   refine sr_ev (v := .int .u64 h_3) (ev_move rfl) (by decide) ?_
   refine sr_ev (v := str s_0) (ev_move rfl) (by decide) ?_
   refine sr_ev (v := .int .i64 t_7) (ev_move rfl) (by decide) ?_
   obtain ⟨hk2, hS⟩ := chk_some hS
   refine sr_ev (v := .int .u8 (byteAt s_0 t_7)) (ev_sindex Tryz.underlying9 rfl rfl hk2) (by decide) ?_
   refine sr_ev (v := .int .u64 (IntKind.u64.wrap (byteAt s_0 t_7))) (ev_conv Tryz.underlying77 Tryz.underlying5 rfl) (by decide) ?_
   refine sr_ev (v := .int .u64 (bXor .u64 h_3 (IntKind.u64.wrap (byteAt s_0 t_7)))) (ev_xor rfl rfl) (by decide) ?_
   refine sr_ev (v := .int .u64 (IntKind.u64.wrap ((bXor .u64 h_3 (IntKind.u64.wrap (byteAt s_0 t_7))) * 1099511628211))) (ev_mul rfl rfl) (by decide) ?_
   refine sr_ev (v := .int .u64 (IntKind.u64.wrap ((bXor .u64 h_3 (IntKind.u64.wrap (byteAt s_0 t_7))) * 1099511628211))) (ev_assign rfl) (by decide) ?_
   refine sr_end (l' := [(0, str s_0), (3, .int .u64 (IntKind.u64.wrap ((bXor .u64 h_3 (IntKind.u64.wrap (byteAt s_0 t_7))) * 1099511628211))), (6, .int .i64 t_6), (7, .int .i64 t_7)]) (.cons rfl (.cons rfl (.cons rfl (.cons rfl (.nil _))))) ?_
   refine ke_inBlock ?_
   refine ke_region ?_
   refine sr_ev (v := .int .i64 (IntKind.i64.wrap (t_7 + 1))) (ev_add rfl rfl) (by decide) ?_
   refine sr_ev (v := .int .i64 (IntKind.i64.wrap (t_7 + 1))) (ev_move rfl) (by decide) ?_
   refine sr_end (l' := [(0, str s_0), (3, .int .u64 (IntKind.u64.wrap ((bXor .u64 h_3 (IntKind.u64.wrap (byteAt s_0 t_7))) * 1099511628211))), (6, .int .i64 t_6), (7, .int .i64 (IntKind.i64.wrap (t_7 + 1)))]) (.cons rfl (.cons rfl (.cons rfl (.cons rfl (.nil _))))) ?_
   have hK := hr0 hS hb
   exact ke_weaken (l' := [(0, str s_0), (3, .int .u64 (IntKind.u64.wrap ((bXor .u64 h_3 (IntKind.u64.wrap (byteAt s_0 t_7))) * 1099511628211))), (6, .int .i64 t_6), (7, .int .i64 (IntKind.i64.wrap (t_7 + 1)))]) (.cons rfl (.cons rfl (.cons rfl (.cons rfl (.nil _))))) hK
  ·replace hS := ite_false' hS hc1
   refine ke_exit (k' := _) rfl ?_
   refine ke_seq ?_
   refine ke_region ?_
   refine sr_ev (v := .int .u64 h_3) (ev_move rfl) (by decide) ?_
   refine sr_ev (v := .int .u64 h_3) (ev_move rfl) (by decide) ?_
   refine sr_ev (v := .int .u64 (bShr .u64 h_3 33)) (ev_shr rfl rfl (by decide)) (by decide) ?_
   refine sr_ev (v := .int .u64 (bXor .u64 h_3 (bShr .u64 h_3 33))) (ev_xor rfl rfl) (by decide) ?_
   refine sr_ev (v := .int .u64 (bXor .u64 h_3 (bShr .u64 h_3 33))) (ev_assign rfl) (by decide) ?_
   refine sr_end (l' := [(3, .int .u64 (bXor .u64 h_3 (bShr .u64 h_3 33)))]) (.cons rfl (.nil _)) ?_
   refine ke_seq ?_
   refine ke_region ?_
   refine sr_ev (v := .int .u64 (bXor .u64 h_3 (bShr .u64 h_3 33))) (ev_move rfl) (by decide) ?_
   refine sr_ev (v := .int .u64 (IntKind.u64.wrap ((bXor .u64 h_3 (bShr .u64 h_3 33)) * 18397679294719823053))) (ev_mul rfl rfl) (by decide) ?_
   refine sr_ev (v := .int .u64 (IntKind.u64.wrap ((bXor .u64 h_3 (bShr .u64 h_3 33)) * 18397679294719823053))) (ev_assign rfl) (by decide) ?_
   refine sr_end (l' := [(3, .int .u64 (IntKind.u64.wrap ((bXor .u64 h_3 (bShr .u64 h_3 33)) * 18397679294719823053)))]) (.cons rfl (.nil _)) ?_
   refine ke_seq ?_
   refine ke_region ?_
   refine sr_ev (v := .int .u64 (IntKind.u64.wrap ((bXor .u64 h_3 (bShr .u64 h_3 33)) * 18397679294719823053))) (ev_move rfl) (by decide) ?_
   refine sr_ev (v := .int .u64 (IntKind.u64.wrap ((bXor .u64 h_3 (bShr .u64 h_3 33)) * 18397679294719823053))) (ev_move rfl) (by decide) ?_
   refine sr_ev (v := .int .u64 (bShr .u64 (IntKind.u64.wrap ((bXor .u64 h_3 (bShr .u64 h_3 33)) * 18397679294719823053)) 33)) (ev_shr rfl rfl (by decide)) (by decide) ?_
   refine sr_ev (v := .int .u64 (bXor .u64 (IntKind.u64.wrap ((bXor .u64 h_3 (bShr .u64 h_3 33)) * 18397679294719823053)) (bShr .u64 (IntKind.u64.wrap ((bXor .u64 h_3 (bShr .u64 h_3 33)) * 18397679294719823053)) 33))) (ev_xor rfl rfl) (by decide) ?_
   refine sr_ev (v := .int .u64 (bXor .u64 (IntKind.u64.wrap ((bXor .u64 h_3 (bShr .u64 h_3 33)) * 18397679294719823053)) (bShr .u64 (IntKind.u64.wrap ((bXor .u64 h_3 (bShr .u64 h_3 33)) * 18397679294719823053)) 33))) (ev_assign rfl) (by decide) ?_
   refine sr_end (l' := [(3, .int .u64 (bXor .u64 (IntKind.u64.wrap ((bXor .u64 h_3 (bShr .u64 h_3 33)) * 18397679294719823053)) (bShr .u64 (IntKind.u64.wrap ((bXor .u64 h_3 (bShr .u64 h_3 33)) * 18397679294719823053)) 33)))]) (.cons rfl (.nil _)) ?_
   refine ke_seq ?_
   refine ke_region ?_
   refine sr_ev (v := .int .u64 (bXor .u64 (IntKind.u64.wrap ((bXor .u64 h_3 (bShr .u64 h_3 33)) * 18397679294719823053)) (bShr .u64 (IntKind.u64.wrap ((bXor .u64 h_3 (bShr .u64 h_3 33)) * 18397679294719823053)) 33))) (ev_move rfl) (by decide) ?_
   refine sr_ev (v := .int .u64 (IntKind.u64.wrap ((bXor .u64 (IntKind.u64.wrap ((bXor .u64 h_3 (bShr .u64 h_3 33)) * 18397679294719823053)) (bShr .u64 (IntKind.u64.wrap ((bXor .u64 h_3 (bShr .u64 h_3 33)) * 18397679294719823053)) 33)) * 14181476777654086739))) (ev_mul rfl rfl) (by decide) ?_
   refine sr_ev (v := .int .u64 (IntKind.u64.wrap ((bXor .u64 (IntKind.u64.wrap ((bXor .u64 h_3 (bShr .u64 h_3 33)) * 18397679294719823053)) (bShr .u64 (IntKind.u64.wrap ((bXor .u64 h_3 (bShr .u64 h_3 33)) * 18397679294719823053)) 33)) * 14181476777654086739))) (ev_assign rfl) (by decide) ?_
   refine sr_end (l' := [(3, .int .u64 (IntKind.u64.wrap ((bXor .u64 (IntKind.u64.wrap ((bXor .u64 h_3 (bShr .u64 h_3 33)) * 18397679294719823053)) (bShr .u64 (IntKind.u64.wrap ((bXor .u64 h_3 (bShr .u64 h_3 33)) * 18397679294719823053)) 33)) * 14181476777654086739)))]) (.cons rfl (.nil _)) ?_
   refine ke_seq ?_
   refine ke_region ?_
   refine sr_ev (v := .int .u64 (IntKind.u64.wrap ((bXor .u64 (IntKind.u64.wrap ((bXor .u64 h_3 (bShr .u64 h_3 33)) * 18397679294719823053)) (bShr .u64 (IntKind.u64.wrap ((bXor .u64 h_3 (bShr .u64 h_3 33)) * 18397679294719823053)) 33)) * 14181476777654086739))) (ev_move rfl) (by decide) ?_
   refine sr_ev (v := .int .u64 (IntKind.u64.wrap ((bXor .u64 (IntKind.u64.wrap ((bXor .u64 h_3 (bShr .u64 h_3 33)) * 18397679294719823053)) (bShr .u64 (IntKind.u64.wrap ((bXor .u64 h_3 (bShr .u64 h_3 33)) * 18397679294719823053)) 33)) * 14181476777654086739))) (ev_move rfl) (by decide) ?_
   refine sr_ev (v := .int .u64 (bShr .u64 (IntKind.u64.wrap ((bXor .u64 (IntKind.u64.wrap ((bXor .u64 h_3 (bShr .u64 h_3 33)) * 18397679294719823053)) (bShr .u64 (IntKind.u64.wrap ((bXor .u64 h_3 (bShr .u64 h_3 33)) * 18397679294719823053)) 33)) * 14181476777654086739)) 33)) (ev_shr rfl rfl (by decide)) (by decide) ?_
   refine sr_ev (v := .int .u64 (bXor .u64 (IntKind.u64.wrap ((bXor .u64 (IntKind.u64.wrap ((bXor .u64 h_3 (bShr .u64 h_3 33)) * 18397679294719823053)) (bShr .u64 (IntKind.u64.wrap ((bXor .u64 h_3 (bShr .u64 h_3 33)) * 18397679294719823053)) 33)) * 14181476777654086739)) (bShr .u64 (IntKind.u64.wrap ((bXor .u64 (IntKind.u64.wrap ((bXor .u64 h_3 (bShr .u64 h_3 33)) * 18397679294719823053)) (bShr .u64 (IntKind.u64.wrap ((bXor .u64 h_3 (bShr .u64 h_3 33)) * 18397679294719823053)) 33)) * 14181476777654086739)) 33))) (ev_xor rfl rfl) (by decide) ?_
   refine sr_ev (v := .int .u64 (bXor .u64 (IntKind.u64.wrap ((bXor .u64 (IntKind.u64.wrap ((bXor .u64 h_3 (bShr .u64 h_3 33)) * 18397679294719823053)) (bShr .u64 (IntKind.u64.wrap ((bXor .u64 h_3 (bShr .u64 h_3 33)) * 18397679294719823053)) 33)) * 14181476777654086739)) (bShr .u64 (IntKind.u64.wrap ((bXor .u64 (IntKind.u64.wrap ((bXor .u64 h_3 (bShr .u64 h_3 33)) * 18397679294719823053)) (bShr .u64 (IntKind.u64.wrap ((bXor .u64 h_3 (bShr .u64 h_3 33)) * 18397679294719823053)) 33)) * 14181476777654086739)) 33))) (ev_assign rfl) (by decide) ?_
   refine sr_end (l' := [(2, .int .u64 (bXor .u64 (IntKind.u64.wrap ((bXor .u64 (IntKind.u64.wrap ((bXor .u64 h_3 (bShr .u64 h_3 33)) * 18397679294719823053)) (bShr .u64 (IntKind.u64.wrap ((bXor .u64 h_3 (bShr .u64 h_3 33)) * 18397679294719823053)) 33)) * 14181476777654086739)) (bShr .u64 (IntKind.u64.wrap ((bXor .u64 (IntKind.u64.wrap ((bXor .u64 h_3 (bShr .u64 h_3 33)) * 18397679294719823053)) (bShr .u64 (IntKind.u64.wrap ((bXor .u64 h_3 (bShr .u64 h_3 33)) * 18397679294719823053)) 33)) * 14181476777654086739)) 33)))]) (.cons rfl (.nil _)) ?_
   cases hS
   exact ke_ret1 Tryz.func53 rfl rfl ⟨_, rfl, rfl, hb⟩
theorem digest_Sum_ok (w0 : World) (hg : Gs w0) {s_0 : Str} {r : Int} (hS : digest_Sum s_0 = some r) :
  Calls Tryz.prog 53 #[str s_0] w0 (Ret (fun v w' => v = .int .u64 r ∧ Below w0.heap.size w0 w')) := by
 unfold digest_Sum at hS
 have hb := Below.refl w0.heap.size w0
 refine calls_of_ke Tryz.func53 rfl (n := 34) rfl rfl (l := [(0, str s_0)]) rfl ?_
 refine ke_seq ?_
 refine ke_region ?_
 refine sr_ev (v := .int .u64 0) (ev_assign rfl) (by decide) ?_
 refine sr_end (l' := [(0, str s_0)]) (.cons rfl (.nil _)) ?_
 refine ke_seq ?_
 refine ke_region ?_
 refine sr_ev (v := .int .u64 14695981039346656037) (ev_assign rfl) (by decide) ?_
 refine sr_end (l' := [(0, str s_0), (3, .int .u64 14695981039346656037)]) (.cons rfl (.cons rfl (.nil _))) ?_
 refine ke_seq ?_
 refine ke_seq ?_
 refine ke_region ?_
 refine sr_ev (v := str s_0) (ev_move rfl) (by decide) ?_
 refine sr_ev (v := .int .i64 (s_0.length : Int)) (ev_slen Tryz.underlying9 rfl) (by decide) ?_
 refine sr_ev (v := .int .i64 0) (ev_move rfl) (by decide) ?_
 refine sr_end (l' := [(0, str s_0), (3, .int .u64 14695981039346656037), (6, .int .i64 (s_0.length : Int)), (7, .int .i64 0)]) (.cons rfl (.cons rfl (.cons rfl (.cons rfl (.nil _))))) ?_
 refine ke_block ?_
 have hK := digest_Sum_L1_ok hg _ hS hb
 exact ke_weaken (l' := [(0, str s_0), (3, .int .u64 14695981039346656037), (6, .int .i64 (s_0.length : Int)), (7, .int .i64 0)]) (.cons rfl (.cons rfl (.cons rfl (.cons rfl (.nil _))))) (ke_loop hK)
theorem digest_Hex_L1_ok {w0 : World} (hg : Gs w0) {A0 : Nat → Prop} (hA0 : ∀ b, A0 b → b < w0.heap.size) : ∀ (n : Nat), ∀ {r : Str} {n_0 : Int} {b_3 : List Int} {t_5 : Int} {gb_3 : Nat}, digest_Hex_L1 n n_0 b_3 t_5 = some r → ∀ {w : World} {A : Nat → Prop}, (Below w0.heap.size w0 w) → (∀ b, A b → b < w.heap.size) → (∀ b, A0 b → A b) → (Hp A w0.heap.size w [(gb_3, .cells (b_3.map (Value.int .u8)).toArray 82 (0, 0))]) → KE Tryz.prog 52 (Ret (fun v w' => v = str r ∧ Below w0.heap.size w0 w')) 21 [.code (sub (bodyOf Tryz.f52) [2, 2, 1, 2, 2, 1]), .inLoop (sub (bodyOf Tryz.f52) [2, 2, 1, 2, 2, 1]), .inBlock 0, .code (sub (bodyOf Tryz.f52) [2, 2, 2])] [(0, .int .u64 n_0), (3, .pointer (some ⟨gb_3, 0, none⟩)), (5, .int .i64 t_5)] w := by
 intro n
 induction n with
 | zero => intro r n_0 b_3 t_5 gb_3 hS; cases hS
 | succ n ih =>
  have hr0 : ∀ {r : Str} {n_0 : Int} {b_3 : List Int} {t_5 : Int} {gb_3 : Nat}, digest_Hex_L1 n n_0 b_3 t_5 = some r → ∀ {w : World} {A : Nat → Prop}, (Below w0.heap.size w0 w) → (∀ b, A b → b < w.heap.size) → (∀ b, A0 b → A b) → (Hp A w0.heap.size w [(gb_3, .cells (b_3.map (Value.int .u8)).toArray 82 (0, 0))]) → KE Tryz.prog 52 (Ret (fun v w' => v = str r ∧ Below w0.heap.size w0 w')) 21 [.inLoop (sub (bodyOf Tryz.f52) [2, 2, 1, 2, 2, 1]), .inBlock 0, .code (sub (bodyOf Tryz.f52) [2, 2, 2])] [(0, .int .u64 n_0), (3, .pointer (some ⟨gb_3, 0, none⟩)), (5, .int .i64 t_5)] w := fun {r} {n_0} {b_3} {t_5} {gb_3} hS {w} {A} hb hA hi hH => ke_inLoop (ih hS hb hA hi hH)
  clear ih
  intro r n_0 b_3 t_5 gb_3 hS w A hb hA hi hH
  unfold digest_Hex_L1 at hS
  refine ke_seq ?_
  refine ke_region ?_
  refine sr_ev (v := .bool (decide (t_5 < 16))) (ev_lt rfl rfl) (by decide) ?_
  refine sr_end (l' := [(0, .int .u64 n_0), (3, .pointer (some ⟨gb_3, 0, none⟩)), (5, .int .i64 t_5), (6, .bool (decide (t_5 < 16)))]) (.cons rfl (.cons rfl (.cons rfl (.cons rfl (.nil _))))) ?_
  refine ke_seq ?_
  refine ke_cond (t := decide (t_5 < 16)) rfl (fun hc8 => ?_) (fun hc8 => ?_)
  ·replace hS := ite_true' hS hc8
   refine ke_skip ?_
   refine ke_seq ?_
   refine ke_block ?_
   refine ke_seq ?_
   refine ke_region ?_
   refine sr_ev (v := .int .i64 t_5) (ev_move rfl) (by decide) ?_
   refine sr_ev (v := .int .i64 t_5) (ev_assign rfl) (by decide) ?_
   refine sr_end (l' := [(0, .int .u64 n_0), (3, .pointer (some ⟨gb_3, 0, none⟩)), (4, .int .i64 t_5), (5, .int .i64 t_5)]) (.cons rfl (.cons rfl (.cons rfl (.cons rfl (.nil _))))) ?_
   refine ke_region ?_
   refine sr_ev (v := .int .i64 t_5) (ev_move rfl) (by decide) ?_
   refine sr_ev (v := .int .i64 (IntKind.i64.wrap (15 - t_5))) (ev_sub rfl rfl) (by decide) ?_
   refine sr_ev (v := .int .u64 n_0) (ev_move rfl) (by decide) ?_
   refine sr_ev (v := .int .i64 t_5) (ev_move rfl) (by decide) ?_
   refine sr_ev (v := .int .i64 (IntKind.i64.wrap (4 * t_5))) (ev_mul rfl rfl) (by decide) ?_
   obtain ⟨hk9, hS⟩ := chk_some hS
   refine sr_ev (v := .int .u64 (bShr .u64 n_0 (IntKind.i64.wrap (4 * t_5)))) (ev_shr rfl rfl hk9) (by decide) ?_
   refine sr_ev (v := .int .u64 (bAnd .u64 (bShr .u64 n_0 (IntKind.i64.wrap (4 * t_5))) 15)) (ev_and rfl rfl) (by decide) ?_
   obtain ⟨hk10, hS⟩ := chk_some hS
   refine sr_ev (v := .pointer (some ⟨0, 0 + (bAnd .u64 (bShr .u64 n_0 (IntKind.i64.wrap (4 * t_5))) 15).toNat * 1, none⟩)) (ev_arrindex Tryz.underlying82 Tryz.info5 rfl rfl rfl hk10) (by decide) ?_
   obtain ⟨y11, hy12, hS⟩ := bind_some' hS
   refine sr_ev (v := .int .u8 y11) (ev_load Tryz.isAgg5 rfl ((hg.below hb).tab0 hy12)) (by decide) ?_
   obtain ⟨hk13, hS⟩ := chk_some hS
   refine sr_ev (v := .pointer (some ⟨gb_3, 0 + (IntKind.i64.wrap (15 - t_5)).toNat * 1, none⟩)) (ev_arrindex Tryz.underlying82 Tryz.info5 rfl rfl rfl hk13) (by decide) ?_
   obtain ⟨hk14, hS⟩ := chk_some hS
   refine sr_store_arr (j := 0) hH rfl Tryz.sizeOf5 rfl rfl hk14 ?_
   intro w15 hH1 hwr16
   replace hb := hwr16.below hb (hH.base _ (List.mem_of_getElem? (i := 0) rfl))
   replace hA := hwr16.lt hA
   replace hH : Hp A w0.heap.size w15 [(gb_3, .cells ((setAt b_3 (IntKind.i64.wrap (15 - t_5)) y11).map (Value.int .u8)).toArray 82 (0, 0))] := hH1
   clear hH1
   refine sr_end (l' := [(0, .int .u64 n_0), (3, .pointer (some ⟨gb_3, 0, none⟩)), (5, .int .i64 t_5)]) (.cons rfl (.cons rfl (.cons rfl (.nil _)))) ?_
   refine ke_inBlock ?_
   refine ke_region ?_
   refine sr_ev (v := .int .i64 (IntKind.i64.wrap (t_5 + 1))) (ev_add rfl rfl) (by decide) ?_
   refine sr_ev (v := .int .i64 (IntKind.i64.wrap (t_5 + 1))) (ev_move rfl) (by decide) ?_
   refine sr_end (l' := [(0, .int .u64 n_0), (3, .pointer (some ⟨gb_3, 0, none⟩)), (5, .int .i64 (IntKind.i64.wrap (t_5 + 1)))]) (.cons rfl (.cons rfl (.cons rfl (.nil _)))) ?_
   have hK := hr0 hS hb hA hi hH
   exact ke_weaken (l' := [(0, .int .u64 n_0), (3, .pointer (some ⟨gb_3, 0, none⟩)), (5, .int .i64 (IntKind.i64.wrap (t_5 + 1)))]) (.cons rfl (.cons rfl (.cons rfl (.nil _)))) hK
  ·replace hS := ite_false' hS hc8
   refine ke_exit (k' := _) rfl ?_
   refine ke_seq ?_
   refine ke_region ?_
   refine sr_ev (v := .slice (some ⟨gb_3, 0, none⟩) 16 16) (ev_arrslice Tryz.underlying82 Tryz.info5 rfl) (by decide) ?_
   obtain ⟨hk17, hS⟩ := chk_some hS
   refine sr_ev (v := str (bytesStr b_3)) (ev_arr2s (j := 0) hH rfl (by simpa using hk17) rfl Tryz.underlying83 Tryz.underlying5 Tryz.underlying9 rfl) (by decide) ?_
   refine sr_ev (v := str (bytesStr b_3)) (ev_assign rfl) (by decide) ?_
   refine sr_end (l' := [(2, str (bytesStr b_3))]) (.cons rfl (.nil _)) ?_
   cases hS
   exact ke_ret1 Tryz.func52 rfl rfl ⟨_, rfl, rfl, hb⟩
theorem digest_Hex_ok (w0 : World) (hg : Gs w0) {n_0 : Int} {r : Str} (hS : digest_Hex n_0 = some r) :
  Calls Tryz.prog 52 #[.int .u64 n_0] w0 (Ret (fun v w' => v = str r ∧ Below w0.heap.size w0 w')) := by
 unfold digest_Hex at hS
 have hb := Below.refl w0.heap.size w0
 obtain ⟨A0, hA0, hAe⟩ : ∃ A0 : Nat → Prop, (∀ b, A0 b → b < w0.heap.size) ∧ A0 = fun _ => False := ⟨_, fun _ h => h.elim, rfl⟩
 clear hAe
 have hA := hA0
 have hi : ∀ b, A0 b → A0 b := fun _ h => h
 have hH := Hp.nil A0 w0.heap.size w0
 refine calls_of_ke Tryz.func52 rfl (n := 21) rfl rfl (l := [(0, .int .u64 n_0)]) rfl ?_
 refine ke_seq ?_
 refine ke_region ?_
 refine sr_ev (v := str ([])) (ev_assign rfl) (by decide) ?_
 refine sr_end (l' := [(0, .int .u64 n_0)]) (.cons rfl (.nil _)) ?_
 refine ke_seq ?_
 refine ke_region ?_
 refine sr_alloc hH hb.size hA Tryz.zeroValue82 (by decide) ?_
 intro g1 A2 w3 hH1 hst4 hbw5 hinc6 hA1 hge7
 replace hb := hb.trans (hbw5.mono hb.size)
 replace hi := fun b hb => hinc6 b (hi b hb)
 replace hH : Hp A2 w0.heap.size w3 [(g1, .cells (([0, 0, 0, 0, 0, 0, 0, 0, 0, 0, 0, 0, 0, 0, 0, 0]).map (Value.int .u8)).toArray 82 (0, 0))] := hH1
 replace hA := hA1
 clear hH1 hA1
 refine sr_end (l' := [(0, .int .u64 n_0), (3, .pointer (some ⟨g1, 0, none⟩))]) (.cons rfl (.cons rfl (.nil _))) ?_
 refine ke_seq ?_
 refine ke_seq ?_
 refine ke_region ?_
 refine sr_ev (v := .int .i64 0) (ev_move rfl) (by decide) ?_
 refine sr_end (l' := [(0, .int .u64 n_0), (3, .pointer (some ⟨g1, 0, none⟩)), (5, .int .i64 0)]) (.cons rfl (.cons rfl (.cons rfl (.nil _)))) ?_
 refine ke_block ?_
 have hK := digest_Hex_L1_ok hg hA0 _ hS hb hA hi hH
 exact ke_weaken (l' := [(0, .int .u64 n_0), (3, .pointer (some ⟨g1, 0, none⟩)), (5, .int .i64 0)]) (.cons rfl (.cons rfl (.cons rfl (.nil _)))) (ke_loop hK)
theorem digest_Text_ok (w0 : World) (hg : Gs w0) {s_0 : Str} {r : Str} (hS : digest_Text s_0 = some r) :
  Calls Tryz.prog 35 #[str s_0] w0 (Ret (fun v w' => v = str r ∧ Below w0.heap.size w0 w')) := by
 unfold digest_Text at hS
 have hb := Below.refl w0.heap.size w0
 refine calls_of_ke Tryz.func35 rfl (n := 6) rfl rfl (l := [(0, str s_0)]) rfl ?_
 refine ke_seq ?_
 refine ke_region ?_
 refine sr_ev (v := str ([])) (ev_assign rfl) (by decide) ?_
 refine sr_end (l' := [(0, str s_0)]) (.cons rfl (.nil _)) ?_
 refine ke_seq ?_
 refine ke_region ?_
 refine sr_ev (v := str s_0) (ev_move rfl) (by decide) ?_
 obtain ⟨y1, hy2, hS⟩ := bind_some' hS
 refine sr_call (vs := [str s_0]) rfl Tryz.call53 rfl (digest_Sum_ok _ (hg.below hb) hy2) (by decide) ?_
 rintro _ w3 ⟨rfl, hbw4⟩
 replace hb := hb.trans (hbw4.mono hb.size)
 obtain ⟨y5, hy6, hS⟩ := bind_some' hS
 refine sr_call (vs := [.int .u64 y1]) rfl Tryz.call52 rfl (digest_Hex_ok _ (hg.below hb) hy6) (by decide) ?_
 rintro _ w7 ⟨rfl, hbw8⟩
 replace hb := hb.trans (hbw8.mono hb.size)
 refine sr_ev (v := str y5) (ev_assign rfl) (by decide) ?_
 refine sr_end (l' := [(2, str y5)]) (.cons rfl (.nil _)) ?_
 cases hS
 exact ke_ret1 Tryz.func35 rfl rfl ⟨_, rfl, rfl, hb⟩
theorem proof_Unique_ok (w0 : World) (hg : Gs w0) {seed_0 : Str} {n_1 : Int} {r : Str} (hS : proof_Unique seed_0 n_1 = some r) :
  Calls Tryz.prog 16 #[str seed_0, .int .i64 n_1] w0 (Ret (fun v w' => v = str r ∧ Below w0.heap.size w0 w')) := by
 unfold proof_Unique at hS
 have hb := Below.refl w0.heap.size w0
 refine calls_of_ke Tryz.func16 rfl (n := 12) rfl rfl (l := [(0, str seed_0), (1, .int .i64 n_1)]) rfl ?_
 refine ke_seq ?_
 refine ke_region ?_
 refine sr_ev (v := str ([])) (ev_assign rfl) (by decide) ?_
 refine sr_end (l' := [(0, str seed_0), (1, .int .i64 n_1)]) (.cons rfl (.cons rfl (.nil _))) ?_
 refine ke_seq ?_
 refine ke_region ?_
 refine sr_ev (v := .int .i64 n_1) (ev_move rfl) (by decide) ?_
 obtain ⟨y1, hy2, hS⟩ := bind_some' hS
 refine sr_call (vs := [.int .i64 n_1]) rfl Tryz.call36 rfl (codec_Int_ok _ (hg.below hb) hy2) (by decide) ?_
 rintro _ w3 ⟨rfl, hbw4⟩
 replace hb := hb.trans (hbw4.mono hb.size)
 obtain ⟨hk5, hS⟩ := chk_some hS
 refine sr_ev (v := str (y1 ++ ([58]))) (ev_cat rfl rfl hk5) (by decide) ?_
 refine sr_ev (v := str seed_0) (ev_move rfl) (by decide) ?_
 obtain ⟨hk6, hS⟩ := chk_some hS
 refine sr_ev (v := str ((y1 ++ ([58])) ++ seed_0)) (ev_cat rfl rfl hk6) (by decide) ?_
 obtain ⟨y7, hy8, hS⟩ := bind_some' hS
 refine sr_call (vs := [str ((y1 ++ ([58])) ++ seed_0)]) rfl Tryz.call35 rfl (digest_Text_ok _ (hg.below hb) hy8) (by decide) ?_
 rintro _ w9 ⟨rfl, hbw10⟩
 replace hb := hb.trans (hbw10.mono hb.size)
 obtain ⟨hk11, hS⟩ := chk_some hS
 refine sr_ev (v := str (([117]) ++ y7)) (ev_cat rfl rfl hk11) (by decide) ?_
 refine sr_ev (v := str (([117]) ++ y7)) (ev_assign rfl) (by decide) ?_
 refine sr_end (l' := [(4, str (([117]) ++ y7))]) (.cons rfl (.nil _)) ?_
 cases hS
 exact ke_ret1 Tryz.func16 rfl rfl ⟨_, rfl, rfl, hb⟩
theorem device_Devices_Challenge_ok (w0 : World) (hg : Gs w0) {ρA : Tags} (hbd : ∀ b, ρA b ≠ 0 → b < w0.heap.size) (hz : Gz ρA) {o : Nat} (ho2 : 2 ≤ o) {d_0 : device_Devices} {user_1 : Str} {id_2 : Str} {now_3 : Int} {gd_0 : Nat} {r : Str × Int × device_Devices} (ho0 : device_Devices.O (fun p => o + p) ρA w0 gd_0 d_0) (hS : device_Devices_Challenge d_0 user_1 id_2 now_3 = some r) :
  Calls Tryz.prog 12 #[.pointer (some ⟨gd_0, 0, none⟩), str user_1, str id_2, .int .i64 now_3] w0 (Ret (fun v w' => ∃ ρ', v = .tuple #[str r.1, .int .i64 r.2.1] ∧ device_Devices.O (fun p => o + p) ρ' w' gd_0 r.2.2 ∧ Tr ρA w0 (rng o 2) ρ' w')) := by
 unfold device_Devices_Challenge at hS
 have hb := enter_fr (ρ := ρA) (w := w0) (n := 2) ho2 hbd
 have hz := hz.enter (n := 2) ho2
 obtain ⟨v1, hB3, h2⟩ := ho0
 replace hB3 := hB3.mv (enter_mv (p := 0) (n := 2) (by decide) ho2)
 replace h2 := h2.mv (enter_mv (p := 1) (n := 2) (by decide) ho2)
 replace hB3 : Blk (enter ρA o 2) 100 w0 gd_0 (.cells #[v1, .int .i64 d_0.given] 41 (0, 0)) := hB3
 replace h2 : MapT device_key.ek device_record.c true (enter ρA o 2) 101 w0 v1 d_0.records := h2
 refine calls_of_ke Tryz.func12 rfl (n := 50) rfl rfl (l := [(0, .pointer (some ⟨gd_0, 0, none⟩)), (1, str user_1), (2, str id_2), (3, .int .i64 now_3)]) rfl ?_
 refine ke_seq ?_
 refine ke_region ?_
 refine sr_ev (v := str ([])) (ev_assign rfl) (by decide) ?_
 refine sr_ev (v := .int .i64 0) (ev_assign rfl) (by decide) ?_
 refine sr_end (l' := [(0, .pointer (some ⟨gd_0, 0, none⟩)), (1, str user_1), (2, str id_2), (3, .int .i64 now_3)]) (.cons rfl (.cons rfl (.cons rfl (.cons rfl (.nil _))))) ?_
 refine ke_seq ?_
 refine ke_region ?_
 refine sr_ev (v := .pointer (some ⟨gd_0, 0, none⟩)) (ev_move rfl) (by decide) ?_
 refine sr_ev (v := str user_1) (ev_move rfl) (by decide) ?_
 refine sr_ev (v := str id_2) (ev_move rfl) (by decide) ?_
 refine sr_ev (v := .int .i64 now_3) (ev_move rfl) (by decide) ?_
 obtain ⟨y4, hy5, hS⟩ := bind_some' hS
 refine sr_call (vs := [.pointer (some ⟨gd_0, 0, none⟩), str user_1, str id_2, .int .i64 now_3]) rfl Tryz.call30 rfl (device_Devices_find_ok _ (hg.fr hz hb) (ρA := (enter ρA o 2)) hb.bd (hz.fr hg hb) (τ0 := (fun p => 100 + p)) (fun p => Nat.le_add_right_of_le (by decide)) (⟨_, hB3, h2⟩ : device_Devices.O (fun p => 100 + p) (enter ρA o 2) w0 gd_0 d_0) hy5) (by decide) ?_
 rintro _ w6 ⟨rfl, hbw7⟩
 have htr8 := Tr.of_below hbw7 hb.bd
 replace hB3 := hB3.mv (htr8.mv (i := 100) rfl)
 replace h2 := h2.mv (htr8.mv (i := 101) rfl)
 replace hb := hb.trans htr8
 refine sr_ev (v := .tuple #[.agg #[str y4.1.secret, str y4.1.challenge, .int .i64 y4.1.until_], .int .i64 y4.2]) (ev_move rfl) (by decide) ?_
 refine sr_ev (v := .agg #[str y4.1.secret, str y4.1.challenge, .int .i64 y4.1.until_]) (ev_extract rfl rfl) (by decide) ?_
 refine sr_ev (v := .int .i64 y4.2) (ev_extract rfl rfl) (by decide) ?_
 refine sr_allocT 12 (by decide) hb.bd Tryz.zeroValue57 (by decide) ?_
 intro g9 ρ10 w11 hB13 htr12
 replace hB3 := hB3.mv (htr12.mv (i := 100) rfl)
 replace h2 := h2.mv (htr12.mv (i := 101) rfl)
 replace hb := hb.trans htr12
 replace hB13 : Blk ρ10 12 w11 g9 (.cells #[str ([]), str ([]), .int .i64 0] 57 (0, 0)) := hB13
 refine sr_storeT (v := .agg #[str y4.1.secret, str y4.1.challenge, .int .i64 y4.1.until_]) (vs := [str y4.1.secret, str y4.1.challenge, .int .i64 y4.1.until_]) (cs' := #[str y4.1.secret, str y4.1.challenge, .int .i64 y4.1.until_]) hB13 (by decide) hb.bd rfl rfl rfl Tryz.sizeOf57 rfl rfl rfl ?_
 intro w14 hB131 htr15
 replace hB3 := hB3.mv (htr15.mv (i := 100) rfl)
 replace h2 := h2.mv (htr15.mv (i := 101) rfl)
 replace hb := hb.trans htr15
 replace hB13 : Blk ρ10 12 w14 g9 (.cells #[str y4.1.secret, str y4.1.challenge, .int .i64 y4.1.until_] 57 (0, 0)) := hB131
 clear hB131
 refine sr_ev (v := .int .i64 y4.2) (ev_assign rfl) (by decide) ?_
 refine sr_end (l' := [(0, .pointer (some ⟨gd_0, 0, none⟩)), (1, str user_1), (2, str id_2), (10, .pointer (some ⟨g9, 0, none⟩)), (11, .int .i64 y4.2)]) (.cons rfl (.cons rfl (.cons rfl (.cons rfl (.cons rfl (.nil _)))))) ?_
 refine ke_seq ?_
 refine ke_seq ?_
 refine ke_region ?_
 refine sr_ev (v := .int .i64 y4.2) (ev_move rfl) (by decide) ?_
 refine sr_ev (v := .bool (y4.2 != 0)) (ev_ne rfl rfl) (by decide) ?_
 refine sr_end (l' := [(0, .pointer (some ⟨gd_0, 0, none⟩)), (1, str user_1), (2, str id_2), (10, .pointer (some ⟨g9, 0, none⟩)), (11, .int .i64 y4.2), (21, .bool (y4.2 != 0))]) (.cons rfl (.cons rfl (.cons rfl (.cons rfl (.cons rfl (.cons rfl (.nil _))))))) ?_
 refine ke_cond (t := y4.2 != 0) rfl (fun hc16 => ?_) (fun hc16 => ?_)
 ·replace hS := ite_true' hS hc16
  refine ke_seq ?_
  refine ke_region ?_
  refine sr_ev (v := .int .i64 y4.2) (ev_move rfl) (by decide) ?_
  refine sr_ev (v := str ([])) (ev_assign rfl) (by decide) ?_
  refine sr_ev (v := .int .i64 y4.2) (ev_assign rfl) (by decide) ?_
  refine sr_end (l' := [(8, str ([])), (9, .int .i64 y4.2)]) (.cons rfl (.cons rfl (.nil _))) ?_
  cases hS
  exact ke_ret2 Tryz.func12 rfl rfl rfl ⟨_, rfl, leave ρA w0 o 2 ρ10, rfl, ⟨_, (hB3.mv (leave_mv (p := 0) (by decide) hb)), (h2.mv (leave_mv (p := 1) (by decide) hb))⟩, (leave_tr ho2 hb)⟩
 ·replace hS := ite_false' hS hc16
  refine ke_skip ?_
  refine ke_seq ?_
  refine ke_region ?_
  refine sr_ev (v := .pointer (some ⟨gd_0, 0, none⟩)) (ev_move rfl) (by decide) ?_
  refine sr_ev (v := .pointer (some ⟨gd_0, 0, none⟩)) (ev_nilCheck rfl) (by decide) ?_
  refine sr_ev (v := .pointer (some ⟨gd_0, 1, none⟩)) (ev_fieldAddr (i := 1) Tryz.underlying41 rfl Tryz.info3 rfl rfl) (by decide) ?_
  refine sr_ev (v := .int .i64 d_0.given) (ev_load Tryz.isAgg3 rfl (hB3.cell rfl)) (by decide) ?_
  refine sr_ev (v := .int .i64 (IntKind.i64.wrap (d_0.given + 1))) (ev_add rfl rfl) (by decide) ?_
  refine sr_ev (v := .pointer (some ⟨gd_0, 0, none⟩)) (ev_nilCheck rfl) (by decide) ?_
  refine sr_ev (v := .pointer (some ⟨gd_0, 1, none⟩)) (ev_fieldAddr (i := 1) Tryz.underlying41 rfl Tryz.info3 rfl rfl) (by decide) ?_
  refine sr_storeT (v := .int .i64 (IntKind.i64.wrap (d_0.given + 1))) (vs := [.int .i64 (IntKind.i64.wrap (d_0.given + 1))]) (cs' := #[v1, .int .i64 (IntKind.i64.wrap (d_0.given + 1))]) hB3 (by decide) hb.bd rfl rfl rfl Tryz.sizeOf3 rfl rfl rfl ?_
  intro w17 hB31 htr18
  replace hB13 := hB13.mv (htr18.mv (i := 12) rfl)
  replace h2 := h2.mv (htr18.mv (i := 101) rfl)
  replace hb := hb.trans htr18
  replace hB3 : Blk ρ10 100 w17 gd_0 (.cells #[v1, .int .i64 (IntKind.i64.wrap (d_0.given + 1))] 41 (0, 0)) := hB31
  clear hB31
  refine sr_end (l' := [(0, .pointer (some ⟨gd_0, 0, none⟩)), (1, str user_1), (2, str id_2), (10, .pointer (some ⟨g9, 0, none⟩))]) (.cons rfl (.cons rfl (.cons rfl (.cons rfl (.nil _))))) ?_
  refine ke_seq ?_
  refine ke_region ?_
  refine sr_ev (v := str user_1) (ev_move rfl) (by decide) ?_
  obtain ⟨hk19, hS⟩ := chk_some hS
  refine sr_ev (v := str (user_1 ++ ([124]))) (ev_cat rfl rfl hk19) (by decide) ?_
  refine sr_ev (v := str id_2) (ev_move rfl) (by decide) ?_
  obtain ⟨hk20, hS⟩ := chk_some hS
  refine sr_ev (v := str ((user_1 ++ ([124])) ++ id_2)) (ev_cat rfl rfl hk20) (by decide) ?_
  refine sr_ev (v := .pointer (some ⟨gd_0, 0, none⟩)) (ev_move rfl) (by decide) ?_
  refine sr_ev (v := .pointer (some ⟨gd_0, 0, none⟩)) (ev_nilCheck rfl) (by decide) ?_
  refine sr_ev (v := .pointer (some ⟨gd_0, 1, none⟩)) (ev_fieldAddr (i := 1) Tryz.underlying41 rfl Tryz.info3 rfl rfl) (by decide) ?_
  refine sr_ev (v := .int .i64 (IntKind.i64.wrap (d_0.given + 1))) (ev_load Tryz.isAgg3 rfl (hB3.cell rfl)) (by decide) ?_
  obtain ⟨y21, hy22, hS⟩ := bind_some' hS
  refine sr_call (vs := [str ((user_1 ++ ([124])) ++ id_2), .int .i64 (IntKind.i64.wrap (d_0.given + 1))]) rfl Tryz.call16 rfl (proof_Unique_ok _ (hg.fr hz hb) hy22) (by decide) ?_
  rintro _ w23 ⟨rfl, hbw24⟩
  have htr25 := Tr.of_below hbw24 hb.bd
  replace hB13 := hB13.mv (htr25.mv (i := 12) rfl)
  replace hB3 := hB3.mv (htr25.mv (i := 100) rfl)
  replace h2 := h2.mv (htr25.mv (i := 101) rfl)
  replace hb := hb.trans htr25
  refine sr_ev (v := .pointer (some ⟨g9, 1, none⟩)) (ev_fieldAddr (i := 1) Tryz.underlying57 rfl Tryz.info9 rfl rfl) (by decide) ?_
  refine sr_storeT (v := str y21) (vs := [str y21]) (cs' := #[str y4.1.secret, str y21, .int .i64 y4.1.until_]) hB13 (by decide) hb.bd rfl rfl rfl Tryz.sizeOf9 rfl rfl rfl ?_
  intro w26 hB131 htr27
  replace hB3 := hB3.mv (htr27.mv (i := 100) rfl)
  replace h2 := h2.mv (htr27.mv (i := 101) rfl)
  replace hb := hb.trans htr27
  replace hB13 : Blk ρ10 12 w26 g9 (.cells #[str y4.1.secret, str y21, .int .i64 y4.1.until_] 57 (0, 0)) := hB131
  clear hB131
  refine sr_end (l' := [(0, .pointer (some ⟨gd_0, 0, none⟩)), (1, str user_1), (2, str id_2), (10, .pointer (some ⟨g9, 0, none⟩))]) (.cons rfl (.cons rfl (.cons rfl (.cons rfl (.nil _))))) ?_
  refine ke_seq ?_
  refine ke_region_j (ρ := ρ10) (fun t => ([101] : List Nat).contains t) 9 Tryz.mixed (fun w29 hw28 => ?_)
  have htr30 := Tr.of_below hw28 hb.bd
  replace hB13 := hB13.mv (htr30.mv (i := 12) rfl)
  replace hB3 := hB3.mv (htr30.mv (i := 100) rfl)
  replace h2 := h2.mv (htr30.mv (i := 101) rfl)
  replace hb := hb.trans htr30
  refine dj_H 0 (v := .pointer (some ⟨gd_0, 0, none⟩)) (by kernel_rfl) (by kernel_rfl) rfl (fun _ _ _ h => h) (sj_refl hb.bd rfl rfl) (fun w1 ρ1 hw1 => ev_move rfl) (by decide) ?_
  refine dj_H 1 (v := .pointer (some ⟨gd_0, 0, none⟩)) (by kernel_rfl) (by kernel_rfl) rfl (fun _ _ _ h => h) (sj_refl hb.bd rfl rfl) (fun w1 ρ1 hw1 => ev_nilCheck rfl) (by decide) ?_
  refine dj_H 2 (v := .pointer (some ⟨gd_0, 0, none⟩)) (by kernel_rfl) (by kernel_rfl) rfl (fun _ _ _ h => h) (sj_refl hb.bd rfl rfl) (fun w1 ρ1 hw1 => ev_fieldAddr (i := 0) Tryz.underlying41 rfl Tryz.info39 rfl rfl) (by decide) ?_
  refine dj_H 3 (v := v1) (by kernel_rfl) (by kernel_rfl) rfl (fun _ _ _ h => h) (sj_refl hb.bd rfl rfl) (fun w1 ρ1 hw1 => ev_load Tryz.isAgg39 rfl ((hB3.mv (hw1.mv (i := 100) rfl)).cell rfl)) (by decide) ?_
  refine dj_H 4 (v := str user_1) (by kernel_rfl) (by kernel_rfl) rfl (fun _ _ _ h => h) (sj_refl hb.bd rfl rfl) (fun w1 ρ1 hw1 => ev_move rfl) (by decide) ?_
  refine dj_H 5 (v := str id_2) (by kernel_rfl) (by kernel_rfl) rfl (fun _ _ _ h => h) (sj_refl hb.bd rfl rfl) (fun w1 ρ1 hw1 => ev_move rfl) (by decide) ?_
  refine dj_H 6 (v := .agg #[str user_1, str id_2]) (by kernel_rfl) (by kernel_rfl) rfl (fun _ _ _ h => h) (sj_refl hb.bd rfl rfl) (fun w1 ρ1 hw1 => ev_build (vs := #[(0, str user_1), (1, str id_2)]) rfl (fun _ => by kernel_rfl)) (by decide) ?_
  refine dj_H 7 (v := .agg #[str y4.1.secret, str y21, .int .i64 y4.1.until_]) (by kernel_rfl) (by kernel_rfl) rfl (fun _ _ _ h => h) (sj_refl hb.bd rfl rfl) (fun w1 ρ1 hw1 => ev_loads (cs := [str y4.1.secret, str y21, .int .i64 y4.1.until_]) Tryz.isAgg57 Tryz.sizeOf57 rfl ((hB13.mv (hw1.mv (i := 12) rfl)).cells (vs := [str y4.1.secret, str y21, .int .i64 y4.1.until_]) rfl)) (by decide) ?_
  refine dj_E 8 (by kernel_rfl) rfl ?_
  have jt40 : Tr ρ10 w29 (fun t => ([101] : List Nat).contains t) ρ10 w29 := (Tr.refl hb.bd).weak (fun _ _ => rfl) rfl rfl
  obtain ⟨hk41, hS⟩ := chk_some hS
  refine sr_mapPut (k := (device_key.mk user_1 id_2)) (d := (device_record.mk y4.1.secret y21 y4.1.until_)) (u := .agg #[str y4.1.secret, str y21, .int .i64 y4.1.until_]) (cs := [str y4.1.secret, str y21, .int .i64 y4.1.until_]) h2 hk41 Tryz.keyB61 Tryz.underlying39 (by decide) hb.bd rfl rfl rfl rfl rfl ?_
  intro w42 h21 htr43
  replace hB13 := hB13.mv (htr43.mv (i := 12) rfl)
  replace hB3 := hB3.mv (htr43.mv (i := 100) rfl)
  replace hb := hb.trans htr43
  replace jt40 := (jt40.trans htr43).weak (J' := (fun t => ([101] : List Nat).contains t)) (by intro t h; simp [rng] at h ⊢ <;> omega) rfl rfl
  replace h2 := h21
  clear h21
  refine dj_next (l' := [(10, .pointer (some ⟨g9, 0, none⟩))]) rfl (.cons rfl (.nil _)) jt40 (by intro t h; simp [rng] at h ⊢ <;> omega) rfl rfl ?_
  refine dj_done rfl (by kernel_rfl) ?_
  refine ke_weaken (l' := [(10, .pointer (some ⟨g9, 0, none⟩))]) (.cons rfl (.nil _)) ?_
  refine ke_seq ?_
  refine ke_region ?_
  refine sr_ev (v := .pointer (some ⟨g9, 1, none⟩)) (ev_fieldAddr (i := 1) Tryz.underlying57 rfl Tryz.info9 rfl rfl) (by decide) ?_
  refine sr_ev (v := str y21) (ev_load Tryz.isAgg9 rfl (hB13.cell rfl)) (by decide) ?_
  refine sr_ev (v := str y21) (ev_assign rfl) (by decide) ?_
  refine sr_ev (v := .int .i64 0) (ev_assign rfl) (by decide) ?_
  refine sr_end (l' := [(8, str y21), (9, .int .i64 0)]) (.cons rfl (.cons rfl (.nil _))) ?_
  cases hS
  exact ke_ret2 Tryz.func12 rfl rfl rfl ⟨_, rfl, leave ρA w0 o 2 ρ10, rfl, ⟨_, (hB3.mv (leave_mv (p := 0) (by decide) hb)), (h2.mv (leave_mv (p := 1) (by decide) hb))⟩, (leave_tr ho2 hb)⟩
theorem fold_upper_ok (w0 : World) (hg : Gs w0) {c_0 : Int} {r : Bool} (hS : fold_upper c_0 = some r) :
  Calls Tryz.prog 62 #[.int .u8 c_0] w0 (Ret (fun v w' => v = .bool r ∧ Below w0.heap.size w0 w')) := by
 unfold fold_upper at hS
 have hb := Below.refl w0.heap.size w0
 refine calls_of_ke Tryz.func62 rfl (n := 9) rfl rfl (l := [(0, .int .u8 c_0)]) rfl ?_
 refine ke_seq ?_
 refine ke_region ?_
 refine sr_ev (v := .bool false) (ev_assign rfl) (by decide) ?_
 refine sr_end (l' := [(0, .int .u8 c_0)]) (.cons rfl (.nil _)) ?_
 refine ke_seq ?_
 refine ke_region ?_
 refine sr_ev (v := .int .u8 c_0) (ev_move rfl) (by decide) ?_
 refine sr_ev (v := .bool (decide (c_0 ≥ 65))) (ev_ge rfl rfl) (by decide) ?_
 refine sr_ev (v := .bool (decide (c_0 ≥ 65))) (ev_move rfl) (by decide) ?_
 refine sr_join (m := 3) (C := fun (x : Bool) w1 => x = ((decide (c_0 ≥ 65)) && (decide (c_0 ≤ 90))) ∧ w0 = w1) (l' := fun x => [(8, .bool x)]) ?_ ?_
 ·rintro _ _ ⟨rfl, rfl⟩
  refine sr_ev (v := .bool ((decide (c_0 ≥ 65)) && (decide (c_0 ≤ 90)))) (ev_assign rfl) (by decide) ?_
  refine sr_end (l' := [(2, .bool ((decide (c_0 ≥ 65)) && (decide (c_0 ≤ 90))))]) (.cons rfl (.nil _)) ?_
  cases hS
  exact ke_ret1 Tryz.func62 rfl rfl ⟨_, rfl, rfl, hb⟩
 ·intro K2
  rcases Bool.eq_false_or_eq_true (decide (c_0 ≥ 65)) with hg1 | hg1
  ·refine sr_evg (b := true) (e := 5) rfl rfl hg1 (v := .int .u8 c_0) (ev_move rfl) (by decide) ?_
   refine sr_evg (b := true) (e := 5) rfl rfl hg1 (v := .bool (decide (c_0 ≤ 90))) (ev_le rfl rfl) (by decide) ?_
   refine sr_ev (v := .bool (decide (c_0 ≤ 90))) (ev_pick_t rfl hg1 rfl) (by decide) ?_
   exact sr_weaken (l' := [(8, .bool (decide (c_0 ≤ 90)))]) (.cons rfl (.nil _)) (K2 (decide (c_0 ≤ 90)) _ ⟨by rw [hg1]; rfl, rfl⟩)
  ·refine sr_pass (e := 5) rfl rfl (by rw [hg1]; rfl) (by decide) ?_
   refine sr_pass (e := 5) rfl rfl (by rw [hg1]; rfl) (by decide) ?_
   refine sr_ev (v := .bool false) (ev_pick_f rfl hg1 rfl) (by decide) ?_
   exact sr_weaken (l' := [(8, .bool false)]) (.cons rfl (.nil _)) (K2 false _ ⟨by rw [hg1]; rfl, rfl⟩)
theorem fold_letter_ok (w0 : World) (hg : Gs w0) {c_0 : Int} {r : Bool} (hS : fold_letter c_0 = some r) :
  Calls Tryz.prog 49 #[.int .u8 c_0] w0 (Ret (fun v w' => v = .bool r ∧ Below w0.heap.size w0 w')) := by
 unfold fold_letter at hS
 have hb := Below.refl w0.heap.size w0
 refine calls_of_ke Tryz.func49 rfl (n := 13) rfl rfl (l := [(0, .int .u8 c_0)]) rfl ?_
 refine ke_seq ?_
 refine ke_region ?_
 refine sr_ev (v := .bool false) (ev_assign rfl) (by decide) ?_
 refine sr_end (l' := [(0, .int .u8 c_0)]) (.cons rfl (.nil _)) ?_
 refine ke_seq ?_
 refine ke_region ?_
 refine sr_ev (v := .int .u8 c_0) (ev_move rfl) (by decide) ?_
 obtain ⟨y1, hy2, hS⟩ := bind_some' hS
 refine sr_call (vs := [.int .u8 c_0]) rfl Tryz.call62 rfl (fold_upper_ok _ (hg.below hb) hy2) (by decide) ?_
 rintro _ w3 ⟨rfl, hbw4⟩
 replace hb := hb.trans (hbw4.mono hb.size)
 refine sr_ev (v := .bool y1) (ev_move rfl) (by decide) ?_
 refine sr_join (m := 7) (C := fun (x : Bool) w1 => x = (y1 || ((decide (c_0 ≥ 97)) && (decide (c_0 ≤ 122)))) ∧ w3 = w1) (l' := fun x => [(12, .bool x)]) ?_ ?_
 ·rintro _ _ ⟨rfl, rfl⟩
  refine sr_ev (v := .bool (y1 || ((decide (c_0 ≥ 97)) && (decide (c_0 ≤ 122))))) (ev_assign rfl) (by decide) ?_
  refine sr_end (l' := [(2, .bool (y1 || ((decide (c_0 ≥ 97)) && (decide (c_0 ≤ 122)))))]) (.cons rfl (.nil _)) ?_
  cases hS
  exact ke_ret1 Tryz.func49 rfl rfl ⟨_, rfl, rfl, hb⟩
 ·intro K6
  rcases Bool.eq_false_or_eq_true y1 with hg5 | hg5
  ·refine sr_pass (e := 5) rfl rfl (by rw [hg5]; rfl) (by decide) ?_
   refine sr_pass (e := 5) rfl rfl (by rw [hg5]; rfl) (by decide) ?_
   refine sr_pass (e := 5) rfl rfl (by rw [hg5]; rfl) (by decide) ?_
   refine sr_pass_undef (e := 8) rfl rfl (by decide) ?_
   refine sr_pass_undef (e := 8) rfl rfl (by decide) ?_
   refine sr_pass (e := 5) rfl rfl (by rw [hg5]; rfl) (by decide) ?_
   refine sr_ev (v := .bool true) (ev_pick_t rfl hg5 rfl) (by decide) ?_
   exact sr_weaken (l' := [(12, .bool true)]) (.cons rfl (.nil _)) (K6 true _ ⟨by rw [hg5]; rfl, rfl⟩)
  ·refine sr_evg (b := false) (e := 5) rfl rfl hg5 (v := .int .u8 c_0) (ev_move rfl) (by decide) ?_
   refine sr_evg (b := false) (e := 5) rfl rfl hg5 (v := .bool (decide (c_0 ≥ 97))) (ev_ge rfl rfl) (by decide) ?_
   refine sr_evg (b := false) (e := 5) rfl rfl hg5 (v := .bool (decide (c_0 ≥ 97))) (ev_move rfl) (by decide) ?_
   refine sr_join (m := 3) (C := fun (x : Bool) w1 => x = ((decide (c_0 ≥ 97)) && (decide (c_0 ≤ 122))) ∧ w3 = w1) (l' := fun x => [(5, .bool y1), (11, .bool x)]) ?_ ?_
   ·rintro _ _ ⟨rfl, rfl⟩
    refine sr_ev (v := .bool ((decide (c_0 ≥ 97)) && (decide (c_0 ≤ 122)))) (ev_pick_f rfl hg5 rfl) (by decide) ?_
    exact sr_weaken (l' := [(12, .bool ((decide (c_0 ≥ 97)) && (decide (c_0 ≤ 122))))]) (.cons rfl (.nil _)) (K6 ((decide (c_0 ≥ 97)) && (decide (c_0 ≤ 122))) _ ⟨by rw [hg5]; rfl, rfl⟩)
   ·intro K13
    rcases Bool.eq_false_or_eq_true (decide (c_0 ≥ 97)) with hg12 | hg12
    ·refine sr_evg (b := true) (e := 8) rfl rfl hg12 (v := .int .u8 c_0) (ev_move rfl) (by decide) ?_
     refine sr_evg (b := true) (e := 8) rfl rfl hg12 (v := .bool (decide (c_0 ≤ 122))) (ev_le rfl rfl) (by decide) ?_
     refine sr_evg (b := false) (e := 5) rfl rfl hg5 (v := .bool (decide (c_0 ≤ 122))) (ev_pick_t rfl hg12 rfl) (by decide) ?_
     exact sr_weaken (l' := [(5, .bool y1), (11, .bool (decide (c_0 ≤ 122)))]) (.cons rfl (.cons rfl (.nil _))) (K13 (decide (c_0 ≤ 122)) _ ⟨by rw [hg12]; rfl, rfl⟩)
    ·refine sr_pass (e := 8) rfl rfl (by rw [hg12]; rfl) (by decide) ?_
     refine sr_pass (e := 8) rfl rfl (by rw [hg12]; rfl) (by decide) ?_
     refine sr_evg (b := false) (e := 5) rfl rfl hg5 (v := .bool false) (ev_pick_f rfl hg12 rfl) (by decide) ?_
     exact sr_weaken (l' := [(5, .bool y1), (11, .bool false)]) (.cons rfl (.cons rfl (.nil _))) (K13 false _ ⟨by rw [hg12]; rfl, rfl⟩)
theorem fold_digit_ok (w0 : World) (hg : Gs w0) {c_0 : Int} {r : Bool} (hS : fold_digit c_0 = some r) :
  Calls Tryz.prog 50 #[.int .u8 c_0] w0 (Ret (fun v w' => v = .bool r ∧ Below w0.heap.size w0 w')) := by
 unfold fold_digit at hS
 have hb := Below.refl w0.heap.size w0
 refine calls_of_ke Tryz.func50 rfl (n := 9) rfl rfl (l := [(0, .int .u8 c_0)]) rfl ?_
 refine ke_seq ?_
 refine ke_region ?_
 refine sr_ev (v := .bool false) (ev_assign rfl) (by decide) ?_
 refine sr_end (l' := [(0, .int .u8 c_0)]) (.cons rfl (.nil _)) ?_
 refine ke_seq ?_
 refine ke_region ?_
 refine sr_ev (v := .int .u8 c_0) (ev_move rfl) (by decide) ?_
 refine sr_ev (v := .bool (decide (c_0 ≥ 48))) (ev_ge rfl rfl) (by decide) ?_
 refine sr_ev (v := .bool (decide (c_0 ≥ 48))) (ev_move rfl) (by decide) ?_
 refine sr_join (m := 3) (C := fun (x : Bool) w1 => x = ((decide (c_0 ≥ 48)) && (decide (c_0 ≤ 57))) ∧ w0 = w1) (l' := fun x => [(8, .bool x)]) ?_ ?_
 ·rintro _ _ ⟨rfl, rfl⟩
  refine sr_ev (v := .bool ((decide (c_0 ≥ 48)) && (decide (c_0 ≤ 57)))) (ev_assign rfl) (by decide) ?_
  refine sr_end (l' := [(2, .bool ((decide (c_0 ≥ 48)) && (decide (c_0 ≤ 57))))]) (.cons rfl (.nil _)) ?_
  cases hS
  exact ke_ret1 Tryz.func50 rfl rfl ⟨_, rfl, rfl, hb⟩
 ·intro K2
  rcases Bool.eq_false_or_eq_true (decide (c_0 ≥ 48)) with hg1 | hg1
  ·refine sr_evg (b := true) (e := 5) rfl rfl hg1 (v := .int .u8 c_0) (ev_move rfl) (by decide) ?_
   refine sr_evg (b := true) (e := 5) rfl rfl hg1 (v := .bool (decide (c_0 ≤ 57))) (ev_le rfl rfl) (by decide) ?_
   refine sr_ev (v := .bool (decide (c_0 ≤ 57))) (ev_pick_t rfl hg1 rfl) (by decide) ?_
   exact sr_weaken (l' := [(8, .bool (decide (c_0 ≤ 57)))]) (.cons rfl (.nil _)) (K2 (decide (c_0 ≤ 57)) _ ⟨by rw [hg1]; rfl, rfl⟩)
  ·refine sr_pass (e := 5) rfl rfl (by rw [hg1]; rfl) (by decide) ?_
   refine sr_pass (e := 5) rfl rfl (by rw [hg1]; rfl) (by decide) ?_
   refine sr_ev (v := .bool false) (ev_pick_f rfl hg1 rfl) (by decide) ?_
   exact sr_weaken (l' := [(8, .bool false)]) (.cons rfl (.nil _)) (K2 false _ ⟨by rw [hg1]; rfl, rfl⟩)
theorem fold_Word_1_ok (w0 : World) (hg : Gs w0) {c_0 : Int} {r : Bool} (hS : fold_Word_1 c_0 = some r) :
  Calls Tryz.prog 48 #[.int .u8 c_0] w0 (Ret (fun v w' => v = .bool r ∧ Below w0.heap.size w0 w')) := by
 unfold fold_Word_1 at hS
 have hb := Below.refl w0.heap.size w0
 refine calls_of_ke Tryz.func48 rfl (n := 25) rfl rfl (l := [(0, .int .u8 c_0)]) rfl ?_
 refine ke_seq ?_
 refine ke_region ?_
 refine sr_ev (v := .bool false) (ev_assign rfl) (by decide) ?_
 refine sr_end (l' := [(0, .int .u8 c_0)]) (.cons rfl (.nil _)) ?_
 refine ke_seq ?_
 refine ke_region ?_
 refine sr_ev (v := .int .u8 c_0) (ev_move rfl) (by decide) ?_
 obtain ⟨y1, hy2, hS⟩ := bind_some' hS
 refine sr_call (vs := [.int .u8 c_0]) rfl Tryz.call49 rfl (fold_letter_ok _ (hg.below hb) hy2) (by decide) ?_
 rintro _ w3 ⟨rfl, hbw4⟩
 replace hb := hb.trans (hbw4.mono hb.size)
 refine sr_ev (v := .bool y1) (ev_move rfl) (by decide) ?_
 obtain ⟨z7, hz9, hS⟩ := bind_some' hS
 refine sr_join (m := 3) (C := fun (x : Bool) w1 => z7 = x ∧ Below w3.heap.size w3 w1) (l' := fun x => [(0, .int .u8 c_0), (8, .bool x)]) ?_ ?_
 ·rintro _ w10 ⟨rfl, hbw11⟩
  replace hb := hb.trans (hbw11.mono hb.size)
  refine sr_ev (v := .bool z7) (ev_move rfl) (by decide) ?_
  refine sr_join (m := 3) (C := fun (x : Bool) w1 => x = (z7 || (c_0 == 45)) ∧ w10 = w1) (l' := fun x => [(0, .int .u8 c_0), (12, .bool x)]) ?_ ?_
  ·rintro _ _ ⟨rfl, rfl⟩
   refine sr_ev (v := .bool (z7 || (c_0 == 45))) (ev_move rfl) (by decide) ?_
   refine sr_join (m := 3) (C := fun (x : Bool) w1 => x = ((z7 || (c_0 == 45)) || (c_0 == 95)) ∧ w10 = w1) (l' := fun x => [(0, .int .u8 c_0), (16, .bool x)]) ?_ ?_
   ·rintro _ _ ⟨rfl, rfl⟩
    refine sr_ev (v := .bool ((z7 || (c_0 == 45)) || (c_0 == 95))) (ev_move rfl) (by decide) ?_
    refine sr_join (m := 3) (C := fun (x : Bool) w1 => x = (((z7 || (c_0 == 45)) || (c_0 == 95)) || (c_0 == 46)) ∧ w10 = w1) (l' := fun x => [(0, .int .u8 c_0), (20, .bool x)]) ?_ ?_
    ·rintro _ _ ⟨rfl, rfl⟩
     refine sr_ev (v := .bool (((z7 || (c_0 == 45)) || (c_0 == 95)) || (c_0 == 46))) (ev_move rfl) (by decide) ?_
     refine sr_join (m := 3) (C := fun (x : Bool) w1 => x = ((((z7 || (c_0 == 45)) || (c_0 == 95)) || (c_0 == 46)) || (c_0 == 58)) ∧ w10 = w1) (l' := fun x => [(24, .bool x)]) ?_ ?_
     ·rintro _ _ ⟨rfl, rfl⟩
      refine sr_ev (v := .bool ((((z7 || (c_0 == 45)) || (c_0 == 95)) || (c_0 == 46)) || (c_0 == 58))) (ev_assign rfl) (by decide) ?_
      refine sr_end (l' := [(2, .bool ((((z7 || (c_0 == 45)) || (c_0 == 95)) || (c_0 == 46)) || (c_0 == 58)))]) (.cons rfl (.nil _)) ?_
      cases hS
      exact ke_ret1 Tryz.func48 rfl rfl ⟨_, rfl, rfl, hb⟩
     ·intro K38
      rcases Bool.eq_false_or_eq_true (((z7 || (c_0 == 45)) || (c_0 == 95)) || (c_0 == 46)) with hg37 | hg37
      ·refine sr_pass (e := 21) rfl rfl (by rw [hg37]; rfl) (by decide) ?_
       refine sr_pass (e := 21) rfl rfl (by rw [hg37]; rfl) (by decide) ?_
       refine sr_ev (v := .bool true) (ev_pick_t rfl hg37 rfl) (by decide) ?_
       exact sr_weaken (l' := [(24, .bool true)]) (.cons rfl (.nil _)) (K38 true _ ⟨by rw [hg37]; rfl, rfl⟩)
      ·refine sr_evg (b := false) (e := 21) rfl rfl hg37 (v := .int .u8 c_0) (ev_move rfl) (by decide) ?_
       refine sr_evg (b := false) (e := 21) rfl rfl hg37 (v := .bool (c_0 == 58)) (ev_eq rfl rfl) (by decide) ?_
       refine sr_ev (v := .bool (c_0 == 58)) (ev_pick_f rfl hg37 rfl) (by decide) ?_
       exact sr_weaken (l' := [(24, .bool (c_0 == 58))]) (.cons rfl (.nil _)) (K38 (c_0 == 58) _ ⟨by rw [hg37]; rfl, rfl⟩)
    ·intro K31
     rcases Bool.eq_false_or_eq_true ((z7 || (c_0 == 45)) || (c_0 == 95)) with hg30 | hg30
     ·refine sr_pass (e := 17) rfl rfl (by rw [hg30]; rfl) (by decide) ?_
      refine sr_pass (e := 17) rfl rfl (by rw [hg30]; rfl) (by decide) ?_
      refine sr_ev (v := .bool true) (ev_pick_t rfl hg30 rfl) (by decide) ?_
      exact sr_weaken (l' := [(0, .int .u8 c_0), (20, .bool true)]) (.cons rfl (.cons rfl (.nil _))) (K31 true _ ⟨by rw [hg30]; rfl, rfl⟩)
     ·refine sr_evg (b := false) (e := 17) rfl rfl hg30 (v := .int .u8 c_0) (ev_move rfl) (by decide) ?_
      refine sr_evg (b := false) (e := 17) rfl rfl hg30 (v := .bool (c_0 == 46)) (ev_eq rfl rfl) (by decide) ?_
      refine sr_ev (v := .bool (c_0 == 46)) (ev_pick_f rfl hg30 rfl) (by decide) ?_
      exact sr_weaken (l' := [(0, .int .u8 c_0), (20, .bool (c_0 == 46))]) (.cons rfl (.cons rfl (.nil _))) (K31 (c_0 == 46) _ ⟨by rw [hg30]; rfl, rfl⟩)
   ·intro K24
    rcases Bool.eq_false_or_eq_true (z7 || (c_0 == 45)) with hg23 | hg23
    ·refine sr_pass (e := 13) rfl rfl (by rw [hg23]; rfl) (by decide) ?_
     refine sr_pass (e := 13) rfl rfl (by rw [hg23]; rfl) (by decide) ?_
     refine sr_ev (v := .bool true) (ev_pick_t rfl hg23 rfl) (by decide) ?_
     exact sr_weaken (l' := [(0, .int .u8 c_0), (16, .bool true)]) (.cons rfl (.cons rfl (.nil _))) (K24 true _ ⟨by rw [hg23]; rfl, rfl⟩)
    ·refine sr_evg (b := false) (e := 13) rfl rfl hg23 (v := .int .u8 c_0) (ev_move rfl) (by decide) ?_
     refine sr_evg (b := false) (e := 13) rfl rfl hg23 (v := .bool (c_0 == 95)) (ev_eq rfl rfl) (by decide) ?_
     refine sr_ev (v := .bool (c_0 == 95)) (ev_pick_f rfl hg23 rfl) (by decide) ?_
     exact sr_weaken (l' := [(0, .int .u8 c_0), (16, .bool (c_0 == 95))]) (.cons rfl (.cons rfl (.nil _))) (K24 (c_0 == 95) _ ⟨by rw [hg23]; rfl, rfl⟩)
  ·intro K17
   rcases Bool.eq_false_or_eq_true z7 with hg16 | hg16
   ·refine sr_pass (e := 9) rfl rfl (by rw [hg16]; rfl) (by decide) ?_
    refine sr_pass (e := 9) rfl rfl (by rw [hg16]; rfl) (by decide) ?_
    refine sr_ev (v := .bool true) (ev_pick_t rfl hg16 rfl) (by decide) ?_
    exact sr_weaken (l' := [(0, .int .u8 c_0), (12, .bool true)]) (.cons rfl (.cons rfl (.nil _))) (K17 true _ ⟨by rw [hg16]; rfl, rfl⟩)
   ·refine sr_evg (b := false) (e := 9) rfl rfl hg16 (v := .int .u8 c_0) (ev_move rfl) (by decide) ?_
    refine sr_evg (b := false) (e := 9) rfl rfl hg16 (v := .bool (c_0 == 45)) (ev_eq rfl rfl) (by decide) ?_
    refine sr_ev (v := .bool (c_0 == 45)) (ev_pick_f rfl hg16 rfl) (by decide) ?_
    exact sr_weaken (l' := [(0, .int .u8 c_0), (12, .bool (c_0 == 45))]) (.cons rfl (.cons rfl (.nil _))) (K17 (c_0 == 45) _ ⟨by rw [hg16]; rfl, rfl⟩)
 ·intro K6
  clear hS
  have hj8 := Below.refl w3.heap.size w3
  rcases Bool.eq_false_or_eq_true y1 with hg5 | hg5
  ·have hS := ite_true' hz9 hg5
   refine sr_pass (e := 5) rfl rfl (by rw [hg5]; rfl) (by decide) ?_
   refine sr_pass (e := 5) rfl rfl (by rw [hg5]; rfl) (by decide) ?_
   refine sr_ev (v := .bool true) (ev_pick_t rfl hg5 rfl) (by decide) ?_
   exact sr_weaken (l' := [(0, .int .u8 c_0), (8, .bool true)]) (.cons rfl (.cons rfl (.nil _))) (K6 true _ ⟨(Option.some.inj hS).symm, hj8⟩)
  ·have hS := ite_false' hz9 hg5
   refine sr_evg (b := false) (e := 5) rfl rfl hg5 (v := .int .u8 c_0) (ev_move rfl) (by decide) ?_
   obtain ⟨y12, hy13, hS⟩ := bind_some' hS
   refine sr_callg (b := false) (e := 5) rfl rfl hg5 (vs := [.int .u8 c_0]) rfl Tryz.call50 rfl (fold_digit_ok _ (hg.below hb) hy13) (by decide) ?_
   rintro _ w14 ⟨rfl, hbw15⟩
   replace hb := hb.trans (hbw15.mono hb.size)
   replace hj8 := hj8.trans (hbw15.mono hj8.size)
   refine sr_ev (v := .bool y12) (ev_pick_f rfl hg5 rfl) (by decide) ?_
   exact sr_weaken (l' := [(0, .int .u8 c_0), (8, .bool y12)]) (.cons rfl (.cons rfl (.nil _))) (K6 y12 _ ⟨(Option.some.inj hS).symm, hj8⟩)
theorem fold_made__Word_1_L1_ok {w0 : World} (hg : Gs w0) : ∀ (n : Nat), ∀ {r : Bool} {s_0 : Str} {t_7 : Int} {t_8 : Int}, fold_made__Word_1_L1 n s_0 t_7 t_8 = some r → ∀ {w : World}, (Below w0.heap.size w0 w) → KE Tryz.prog 47 (Ret (fun v w' => v = .bool r ∧ Below w0.heap.size w0 w')) 25 [.code (sub (bodyOf Tryz.f47) [2, 1, 2, 2, 1]), .inLoop (sub (bodyOf Tryz.f47) [2, 1, 2, 2, 1]), .inBlock 0, .code (sub (bodyOf Tryz.f47) [2, 2])] [(0, str s_0), (1, .func (.func 48) #[] #[]), (7, .int .i64 t_7), (8, .int .i64 t_8)] w := by
 intro n
 induction n with
 | zero => intro r s_0 t_7 t_8 hS; cases hS
 | succ n ih =>
  have hr0 : ∀ {r : Bool} {s_0 : Str} {t_7 : Int} {t_8 : Int}, fold_made__Word_1_L1 n s_0 t_7 t_8 = some r → ∀ {w : World}, (Below w0.heap.size w0 w) → KE Tryz.prog 47 (Ret (fun v w' => v = .bool r ∧ Below w0.heap.size w0 w')) 25 [.inLoop (sub (bodyOf Tryz.f47) [2, 1, 2, 2, 1]), .inBlock 0, .code (sub (bodyOf Tryz.f47) [2, 2])] [(0, str s_0), (1, .func (.func 48) #[] #[]), (7, .int .i64 t_7), (8, .int .i64 t_8)] w := fun {r} {s_0} {t_7} {t_8} hS {w} hb => ke_inLoop (ih hS hb)
  clear ih
  intro r s_0 t_7 t_8 hS w hb
  unfold fold_made__Word_1_L1 at hS
  refine ke_seq ?_
  refine ke_region ?_
  refine sr_ev (v := .bool (decide (t_8 < t_7))) (ev_lt rfl rfl) (by decide) ?_
  refine sr_end (l' := [(0, str s_0), (1, .func (.func 48) #[] #[]), (7, .int .i64 t_7), (8, .int .i64 t_8), (9, .bool (decide (t_8 < t_7)))]) (.cons rfl (.cons rfl (.cons rfl (.cons rfl (.cons rfl (.nil _)))))) ?_
  refine ke_seq ?_
  refine ke_cond (t := decide (t_8 < t_7)) rfl (fun hc1 => ?_) (fun hc1 => ?_)
  ·replace hS := ite_true' hS hc1
   refine ke_skip ?_
   refine ke_seq ?_
   refine ke_block ?_
   refine ke_seq ?_
   refine ke_region ?_
   refine sr_ev (v := .int .i64 t_8) (ev_move rfl) (by decide) ?_
   refine sr_ev (v := .int .i64 t_8) (ev_assign rfl) (by decide) ?_
   refine sr_end (l' := [(0, str s_0), (1, .func (.func 48) #[] #[]), (5, .int .i64 t_8), (7, .int .i64 t_7), (8, .int .i64 t_8)]) (.cons rfl (.cons rfl (.cons rfl (.cons rfl (.cons rfl (.nil _)))))) ?_
   refine ke_seq ?_
   refine ke_region ?_
   refine sr_ev (v := .func (.func 48) #[] #[]) (ev_move rfl) (by decide) ?_
   refine sr_ev (v := str s_0) (ev_move rfl) (by decide) ?_
   refine sr_ev (v := .int .i64 t_8) (ev_move rfl) (by decide) ?_
   obtain ⟨hk2, hS⟩ := chk_some hS
   refine sr_ev (v := .int .u8 (byteAt s_0 t_8)) (ev_sindex Tryz.underlying9 rfl rfl hk2) (by decide) ?_
   obtain ⟨y3, hy4, hS⟩ := bind_some' hS
   refine sr_call (vs := [.int .u8 (byteAt s_0 t_8)]) rfl Tryz.call48 rfl (fold_Word_1_ok _ (hg.below hb) hy4) (by decide) ?_
   rintro _ w5 ⟨rfl, hbw6⟩
   replace hb := hb.trans (hbw6.mono hb.size)
   refine sr_ev (v := .bool (!y3)) (ev_not rfl) (by decide) ?_
   refine sr_end (l' := [(0, str s_0), (1, .func (.func 48) #[] #[]), (7, .int .i64 t_7), (8, .int .i64 t_8), (16, .bool (!y3))]) (.cons rfl (.cons rfl (.cons rfl (.cons rfl (.cons rfl (.nil _)))))) ?_
   refine ke_cond (t := !y3) rfl (fun hc7 => ?_) (fun hc7 => ?_)
   ·replace hS := ite_true' hS hc7
    refine ke_seq ?_
    refine ke_region ?_
    refine sr_ev (v := .bool false) (ev_assign rfl) (by decide) ?_
    refine sr_end (l' := [(4, .bool false)]) (.cons rfl (.nil _)) ?_
    cases hS
    exact ke_ret1 Tryz.func47 rfl rfl ⟨_, rfl, rfl, hb⟩
   ·replace hS := ite_false' hS hc7
    refine ke_skip ?_
    refine ke_inBlock ?_
    refine ke_region ?_
    refine sr_ev (v := .int .i64 (IntKind.i64.wrap (t_8 + 1))) (ev_add rfl rfl) (by decide) ?_
    refine sr_ev (v := .int .i64 (IntKind.i64.wrap (t_8 + 1))) (ev_move rfl) (by decide) ?_
    refine sr_end (l' := [(0, str s_0), (1, .func (.func 48) #[] #[]), (7, .int .i64 t_7), (8, .int .i64 (IntKind.i64.wrap (t_8 + 1)))]) (.cons rfl (.cons rfl (.cons rfl (.cons rfl (.nil _))))) ?_
    have hK := hr0 hS hb
    exact ke_weaken (l' := [(0, str s_0), (1, .func (.func 48) #[] #[]), (7, .int .i64 t_7), (8, .int .i64 (IntKind.i64.wrap (t_8 + 1)))]) (.cons rfl (.cons rfl (.cons rfl (.cons rfl (.nil _))))) hK
  ·replace hS := ite_false' hS hc1
   refine ke_exit (k' := _) rfl ?_
   refine ke_seq ?_
   refine ke_region ?_
   refine sr_ev (v := str s_0) (ev_move rfl) (by decide) ?_
   refine sr_ev (v := .bool (!(s_0 == ([])))) (ev_sne rfl rfl) (by decide) ?_
   refine sr_ev (v := .bool (!(s_0 == ([])))) (ev_move rfl) (by decide) ?_
   refine sr_join (m := 4) (C := fun (x : Bool) w1 => x = ((!(s_0 == ([]))) && (decide ((s_0.length : Int) ≤ 64))) ∧ w = w1) (l' := fun x => [(24, .bool x)]) ?_ ?_
   ·rintro _ _ ⟨rfl, rfl⟩
    refine sr_ev (v := .bool ((!(s_0 == ([]))) && (decide ((s_0.length : Int) ≤ 64)))) (ev_assign rfl) (by decide) ?_
    refine sr_end (l' := [(4, .bool ((!(s_0 == ([]))) && (decide ((s_0.length : Int) ≤ 64))))]) (.cons rfl (.nil _)) ?_
    cases hS
    exact ke_ret1 Tryz.func47 rfl rfl ⟨_, rfl, rfl, hb⟩
   ·intro K9
    rcases Bool.eq_false_or_eq_true (!(s_0 == ([]))) with hg8 | hg8
    ·refine sr_evg (b := true) (e := 20) rfl rfl hg8 (v := str s_0) (ev_move rfl) (by decide) ?_
     refine sr_evg (b := true) (e := 20) rfl rfl hg8 (v := .int .i64 (s_0.length : Int)) (ev_slen Tryz.underlying9 rfl) (by decide) ?_
     refine sr_evg (b := true) (e := 20) rfl rfl hg8 (v := .bool (decide ((s_0.length : Int) ≤ 64))) (ev_le rfl rfl) (by decide) ?_
     refine sr_ev (v := .bool (decide ((s_0.length : Int) ≤ 64))) (ev_pick_t rfl hg8 rfl) (by decide) ?_
     exact sr_weaken (l' := [(24, .bool (decide ((s_0.length : Int) ≤ 64)))]) (.cons rfl (.nil _)) (K9 (decide ((s_0.length : Int) ≤ 64)) _ ⟨by rw [hg8]; rfl, rfl⟩)
    ·refine sr_pass (e := 20) rfl rfl (by rw [hg8]; rfl) (by decide) ?_
     refine sr_pass (e := 20) rfl rfl (by rw [hg8]; rfl) (by decide) ?_
     refine sr_pass (e := 20) rfl rfl (by rw [hg8]; rfl) (by decide) ?_
     refine sr_ev (v := .bool false) (ev_pick_f rfl hg8 rfl) (by decide) ?_
     exact sr_weaken (l' := [(24, .bool false)]) (.cons rfl (.nil _)) (K9 false _ ⟨by rw [hg8]; rfl, rfl⟩)
theorem fold_made__Word_1_ok (w0 : World) (hg : Gs w0) {s_0 : Str} {r : Bool} (hS : fold_made__Word_1 s_0 = some r) :
  Calls Tryz.prog 47 #[str s_0, .func (.func 48) #[] #[]] w0 (Ret (fun v w' => v = .bool r ∧ Below w0.heap.size w0 w')) := by
 unfold fold_made__Word_1 at hS
 have hb := Below.refl w0.heap.size w0
 refine calls_of_ke Tryz.func47 rfl (n := 25) rfl rfl (l := [(0, str s_0), (1, .func (.func 48) #[] #[])]) rfl ?_
 refine ke_seq ?_
 refine ke_region ?_
 refine sr_ev (v := .bool false) (ev_assign rfl) (by decide) ?_
 refine sr_end (l' := [(0, str s_0), (1, .func (.func 48) #[] #[])]) (.cons rfl (.cons rfl (.nil _))) ?_
 refine ke_seq ?_
 refine ke_seq ?_
 refine ke_region ?_
 refine sr_ev (v := str s_0) (ev_move rfl) (by decide) ?_
 refine sr_ev (v := .int .i64 (s_0.length : Int)) (ev_slen Tryz.underlying9 rfl) (by decide) ?_
 refine sr_ev (v := .int .i64 0) (ev_move rfl) (by decide) ?_
 refine sr_end (l' := [(0, str s_0), (1, .func (.func 48) #[] #[]), (7, .int .i64 (s_0.length : Int)), (8, .int .i64 0)]) (.cons rfl (.cons rfl (.cons rfl (.cons rfl (.nil _))))) ?_
 refine ke_block ?_
 have hK := fold_made__Word_1_L1_ok hg _ hS hb
 exact ke_weaken (l' := [(0, str s_0), (1, .func (.func 48) #[] #[]), (7, .int .i64 (s_0.length : Int)), (8, .int .i64 0)]) (.cons rfl (.cons rfl (.cons rfl (.cons rfl (.nil _))))) (ke_loop hK)
theorem fold_Word_ok (w0 : World) (hg : Gs w0) {s_0 : Str} {r : Bool} (hS : fold_Word s_0 = some r) :
  Calls Tryz.prog 33 #[str s_0] w0 (Ret (fun v w' => v = .bool r ∧ Below w0.heap.size w0 w')) := by
 unfold fold_Word at hS
 have hb := Below.refl w0.heap.size w0
 refine calls_of_ke Tryz.func33 rfl (n := 5) rfl rfl (l := [(0, str s_0)]) rfl ?_
 refine ke_seq ?_
 refine ke_region ?_
 refine sr_ev (v := .bool false) (ev_assign rfl) (by decide) ?_
 refine sr_end (l' := [(0, str s_0)]) (.cons rfl (.nil _)) ?_
 refine ke_seq ?_
 refine ke_region ?_
 refine sr_ev (v := str s_0) (ev_move rfl) (by decide) ?_
 obtain ⟨y1, hy2, hS⟩ := bind_some' hS
 refine sr_call (vs := [str s_0, .func (.func 48) #[] #[]]) rfl Tryz.call47 rfl (fold_made__Word_1_ok _ (hg.below hb) hy2) (by decide) ?_
 rintro _ w3 ⟨rfl, hbw4⟩
 replace hb := hb.trans (hbw4.mono hb.size)
 refine sr_ev (v := .bool y1) (ev_assign rfl) (by decide) ?_
 refine sr_end (l' := [(2, .bool y1)]) (.cons rfl (.nil _)) ?_
 cases hS
 exact ke_ret1 Tryz.func33 rfl rfl ⟨_, rfl, rfl, hb⟩
theorem fold_Trim_ok (w0 : World) (hg : Gs w0) {s_0 : Str} {r : Str} (hS : fold_Trim s_0 = some r) :
  Calls Tryz.prog 51 #[str s_0] w0 (Ret (fun v w' => v = str r ∧ Below w0.heap.size w0 w')) := by
 unfold fold_Trim at hS
 have hb := Below.refl w0.heap.size w0
 refine calls_of_ke Tryz.func51 rfl (n := 5) rfl rfl (l := [(0, str s_0)]) rfl ?_
 refine ke_seq ?_
 refine ke_region ?_
 refine sr_ev (v := str ([])) (ev_assign rfl) (by decide) ?_
 refine sr_end (l' := [(0, str s_0)]) (.cons rfl (.nil _)) ?_
 refine ke_seq ?_
 refine ke_region ?_
 refine sr_ev (v := str s_0) (ev_move rfl) (by decide) ?_
 obtain ⟨y1, hy2, hS⟩ := bind_some' hS
 refine sr_call (vs := [str s_0, str ([32])]) rfl Tryz.call63 rfl (lib_Trim_ok _ (hg.below hb) hy2) (by decide) ?_
 rintro _ w3 ⟨rfl, hbw4⟩
 replace hb := hb.trans (hbw4.mono hb.size)
 refine sr_ev (v := str y1) (ev_assign rfl) (by decide) ?_
 refine sr_end (l' := [(2, str y1)]) (.cons rfl (.nil _)) ?_
 cases hS
 exact ke_ret1 Tryz.func51 rfl rfl ⟨_, rfl, rfl, hb⟩
theorem fold_Clean_L1_ok {w0 : World} (hg : Gs w0) {A0 : Nat → Prop} (hA0 : ∀ b, A0 b → b < w0.heap.size) : ∀ (n : Nat), ∀ {r : Bool} {s_0 : Str} {t_6s : Str} {t_6p : Nat} {gt_6 : Nat}, fold_Clean_L1 n s_0 t_6s t_6p = some r → ∀ {w : World} {A : Nat → Prop}, (Below w0.heap.size w0 w) → (∀ b, A b → b < w.heap.size) → (∀ b, A0 b → A b) → (Hp A w0.heap.size w [(gt_6, .stringIter ⟨t_6s.toArray⟩ t_6p)]) → KE Tryz.prog 34 (Ret (fun v w' => v = .bool r ∧ Below w0.heap.size w0 w')) 29 [.code (sub (bodyOf Tryz.f34) [2, 1, 2, 2, 1]), .inLoop (sub (bodyOf Tryz.f34) [2, 1, 2, 2, 1]), .inBlock 0, .code (sub (bodyOf Tryz.f34) [2, 2])] [(0, str s_0), (6, .pointer (some ⟨gt_6, 0, none⟩))] w := by
 intro n
 induction n with
 | zero => intro r s_0 t_6s t_6p gt_6 hS; cases hS
 | succ n ih =>
  have hr0 : ∀ {r : Bool} {s_0 : Str} {t_6s : Str} {t_6p : Nat} {gt_6 : Nat}, fold_Clean_L1 n s_0 t_6s t_6p = some r → ∀ {w : World} {A : Nat → Prop}, (Below w0.heap.size w0 w) → (∀ b, A b → b < w.heap.size) → (∀ b, A0 b → A b) → (Hp A w0.heap.size w [(gt_6, .stringIter ⟨t_6s.toArray⟩ t_6p)]) → KE Tryz.prog 34 (Ret (fun v w' => v = .bool r ∧ Below w0.heap.size w0 w')) 29 [.inLoop (sub (bodyOf Tryz.f34) [2, 1, 2, 2, 1]), .inBlock 0, .code (sub (bodyOf Tryz.f34) [2, 2])] [(0, str s_0), (6, .pointer (some ⟨gt_6, 0, none⟩))] w := fun {r} {s_0} {t_6s} {t_6p} {gt_6} hS {w} {A} hb hA hi hH => ke_inLoop (ih hS hb hA hi hH)
  clear ih
  intro r s_0 t_6s t_6p gt_6 hS w A hb hA hi hH
  unfold fold_Clean_L1 at hS
  refine ke_seq ?_
  refine ke_region ?_
  refine sr_next_s (j := 0) hH rfl rfl (by decide) (fun hc8 w9 hH1 hwr10 => ?_) (fun hc8 => ?_)
  ·replace hS := ite_true' hS hc8
   replace hb := hwr10.below hb (hH.base _ (List.mem_of_getElem? (i := 0) rfl))
   replace hA := hwr10.lt hA
   replace hH : Hp A w0.heap.size w9 [(gt_6, .stringIter ⟨t_6s.toArray⟩ (t_6p + (sdec t_6s t_6p).2))] := hH1
   clear hH1
   refine sr_ev (v := .bool true) (ev_extract rfl rfl) (by decide) ?_
   refine sr_end (l' := [(0, str s_0), (6, .pointer (some ⟨gt_6, 0, none⟩)), (7, .tuple #[.bool true, .int .i64 ((t_6p : Nat) : Int), .int .i32 ((sdec t_6s t_6p).1)]), (8, .bool true)]) (.cons rfl (.cons rfl (.cons rfl (.cons rfl (.nil _))))) ?_
   refine ke_seq ?_
   refine ke_cond (t := true) rfl (fun _ => ?_) (fun h => by cases h)
   refine ke_skip ?_
   refine ke_block ?_
   refine ke_seq ?_
   refine ke_region ?_
   refine sr_ev (v := .int .i32 ((sdec t_6s t_6p).1)) (ev_extract rfl rfl) (by decide) ?_
   refine sr_ev (v := .int .i32 ((sdec t_6s t_6p).1)) (ev_assign rfl) (by decide) ?_
   refine sr_end (l' := [(0, str s_0), (4, .int .i32 ((sdec t_6s t_6p).1)), (6, .pointer (some ⟨gt_6, 0, none⟩))]) (.cons rfl (.cons rfl (.cons rfl (.nil _)))) ?_
   refine ke_seq ?_
   refine ke_region ?_
   refine sr_ev (v := .int .i32 ((sdec t_6s t_6p).1)) (ev_move rfl) (by decide) ?_
   refine sr_ev (v := .bool (decide (((sdec t_6s t_6p).1) < 32))) (ev_lt rfl rfl) (by decide) ?_
   refine sr_ev (v := .bool (decide (((sdec t_6s t_6p).1) < 32))) (ev_move rfl) (by decide) ?_
   refine sr_join (m := 3) (C := fun (x : Bool) w1 => x = ((decide (((sdec t_6s t_6p).1) < 32)) || (decide (((sdec t_6s t_6p).1) > 126))) ∧ w9 = w1) (l' := fun x => [(0, str s_0), (6, .pointer (some ⟨gt_6, 0, none⟩)), (15, .bool x)]) ?_ ?_
   ·rintro _ _ ⟨rfl, rfl⟩
    refine sr_end (l' := [(0, str s_0), (6, .pointer (some ⟨gt_6, 0, none⟩)), (15, .bool ((decide (((sdec t_6s t_6p).1) < 32)) || (decide (((sdec t_6s t_6p).1) > 126))))]) (.cons rfl (.cons rfl (.cons rfl (.nil _)))) ?_
    refine ke_cond (t := (decide (((sdec t_6s t_6p).1) < 32)) || (decide (((sdec t_6s t_6p).1) > 126))) rfl (fun hc18 => ?_) (fun hc18 => ?_)
    ·replace hS := ite_true' hS hc18
     refine ke_seq ?_
     refine ke_region ?_
     refine sr_ev (v := .bool false) (ev_assign rfl) (by decide) ?_
     refine sr_end (l' := [(2, .bool false)]) (.cons rfl (.nil _)) ?_
     cases hS
     exact ke_ret1 Tryz.func34 rfl rfl ⟨_, rfl, rfl, hb⟩
    ·replace hS := ite_false' hS hc18
     refine ke_skip ?_
     refine ke_inBlock ?_
     have hK := hr0 hS hb hA hi hH
     exact ke_weaken (l' := [(0, str s_0), (6, .pointer (some ⟨gt_6, 0, none⟩))]) (.cons rfl (.cons rfl (.nil _))) hK
   ·intro K12
    rcases Bool.eq_false_or_eq_true (decide (((sdec t_6s t_6p).1) < 32)) with hg11 | hg11
    ·refine sr_pass (e := 12) rfl rfl (by rw [hg11]; rfl) (by decide) ?_
     refine sr_pass (e := 12) rfl rfl (by rw [hg11]; rfl) (by decide) ?_
     refine sr_ev (v := .bool true) (ev_pick_t rfl hg11 rfl) (by decide) ?_
     exact sr_weaken (l' := [(0, str s_0), (6, .pointer (some ⟨gt_6, 0, none⟩)), (15, .bool true)]) (.cons rfl (.cons rfl (.cons rfl (.nil _)))) (K12 true _ ⟨by rw [hg11]; rfl, rfl⟩)
    ·refine sr_evg (b := false) (e := 12) rfl rfl hg11 (v := .int .i32 ((sdec t_6s t_6p).1)) (ev_move rfl) (by decide) ?_
     refine sr_evg (b := false) (e := 12) rfl rfl hg11 (v := .bool (decide (((sdec t_6s t_6p).1) > 126))) (ev_gt rfl rfl) (by decide) ?_
     refine sr_ev (v := .bool (decide (((sdec t_6s t_6p).1) > 126))) (ev_pick_f rfl hg11 rfl) (by decide) ?_
     exact sr_weaken (l' := [(0, str s_0), (6, .pointer (some ⟨gt_6, 0, none⟩)), (15, .bool (decide (((sdec t_6s t_6p).1) > 126)))]) (.cons rfl (.cons rfl (.cons rfl (.nil _)))) (K12 (decide (((sdec t_6s t_6p).1) > 126)) _ ⟨by rw [hg11]; rfl, rfl⟩)
  ·replace hS := ite_false' hS hc8
   refine sr_ev (v := .bool false) (ev_extract rfl rfl) (by decide) ?_
   refine sr_end (l' := [(0, str s_0), (6, .pointer (some ⟨gt_6, 0, none⟩)), (7, .tuple #[.bool false]), (8, .bool false)]) (.cons rfl (.cons rfl (.cons rfl (.cons rfl (.nil _))))) ?_
   refine ke_seq ?_
   refine ke_cond (t := false) rfl (fun h => by cases h) (fun _ => ?_)
   refine ke_exit (k' := _) rfl ?_
   refine ke_seq ?_
   refine ke_region ?_
   refine sr_ev (v := str s_0) (ev_move rfl) (by decide) ?_
   refine sr_ev (v := .bool (!(s_0 == ([])))) (ev_sne rfl rfl) (by decide) ?_
   refine sr_ev (v := .bool (!(s_0 == ([])))) (ev_move rfl) (by decide) ?_
   refine sr_join (m := 4) (C := fun (x : Bool) w1 => x = ((!(s_0 == ([]))) && (decide ((s_0.length : Int) ≤ 256))) ∧ w = w1) (l' := fun x => [(0, str s_0), (22, .bool x)]) ?_ ?_
   ·rintro _ _ ⟨rfl, rfl⟩
    refine sr_ev (v := .bool ((!(s_0 == ([]))) && (decide ((s_0.length : Int) ≤ 256)))) (ev_move rfl) (by decide) ?_
    obtain ⟨z28, hz30, hS⟩ := bind_some' hS
    refine sr_join (m := 5) (C := fun (x : Bool) w1 => z28 = x ∧ Below w.heap.size w w1) (l' := fun x => [(28, .bool x)]) ?_ ?_
    ·rintro _ w31 ⟨rfl, hbw32⟩
     replace hb := hb.trans (hbw32.mono hb.size)
     replace hA := lt_mono hA hbw32.size
     replace hH := hH.below hbw32
     refine sr_ev (v := .bool z28) (ev_assign rfl) (by decide) ?_
     refine sr_end (l' := [(2, .bool z28)]) (.cons rfl (.nil _)) ?_
     cases hS
     exact ke_ret1 Tryz.func34 rfl rfl ⟨_, rfl, rfl, hb⟩
    ·intro K27
     clear hS
     have hj29 := Below.refl w.heap.size w
     rcases Bool.eq_false_or_eq_true ((!(s_0 == ([]))) && (decide ((s_0.length : Int) ≤ 256))) with hg26 | hg26
     ·have hS := ite_true' hz30 hg26
      refine sr_evg (b := true) (e := 23) rfl rfl hg26 (v := str s_0) (ev_move rfl) (by decide) ?_
      obtain ⟨y33, hy34, hS⟩ := bind_some' hS
      refine sr_callg (b := true) (e := 23) rfl rfl hg26 (vs := [str s_0]) rfl Tryz.call51 rfl (fold_Trim_ok _ (hg.below hb) hy34) (by decide) ?_
      rintro _ w35 ⟨rfl, hbw36⟩
      replace hb := hb.trans (hbw36.mono hb.size)
      replace hj29 := hj29.trans (hbw36.mono hj29.size)
      replace hA := lt_mono hA hbw36.size
      replace hH := hH.below hbw36
      refine sr_evg (b := true) (e := 23) rfl rfl hg26 (v := str s_0) (ev_move rfl) (by decide) ?_
      refine sr_evg (b := true) (e := 23) rfl rfl hg26 (v := .bool (y33 == s_0)) (ev_seq rfl rfl) (by decide) ?_
      refine sr_ev (v := .bool (y33 == s_0)) (ev_pick_t rfl hg26 rfl) (by decide) ?_
      exact sr_weaken (l' := [(28, .bool (y33 == s_0))]) (.cons rfl (.nil _)) (K27 (y33 == s_0) _ ⟨(Option.some.inj hS).symm, hj29⟩)
     ·have hS := ite_false' hz30 hg26
      refine sr_pass (e := 23) rfl rfl (by rw [hg26]; rfl) (by decide) ?_
      refine sr_pass (e := 23) rfl rfl (by rw [hg26]; rfl) (by decide) ?_
      refine sr_pass (e := 23) rfl rfl (by rw [hg26]; rfl) (by decide) ?_
      refine sr_pass (e := 23) rfl rfl (by rw [hg26]; rfl) (by decide) ?_
      refine sr_ev (v := .bool false) (ev_pick_f rfl hg26 rfl) (by decide) ?_
      exact sr_weaken (l' := [(28, .bool false)]) (.cons rfl (.nil _)) (K27 false _ ⟨(Option.some.inj hS).symm, hj29⟩)
   ·intro K20
    rcases Bool.eq_false_or_eq_true (!(s_0 == ([]))) with hg19 | hg19
    ·refine sr_evg (b := true) (e := 18) rfl rfl hg19 (v := str s_0) (ev_move rfl) (by decide) ?_
     refine sr_evg (b := true) (e := 18) rfl rfl hg19 (v := .int .i64 (s_0.length : Int)) (ev_slen Tryz.underlying9 rfl) (by decide) ?_
     refine sr_evg (b := true) (e := 18) rfl rfl hg19 (v := .bool (decide ((s_0.length : Int) ≤ 256))) (ev_le rfl rfl) (by decide) ?_
     refine sr_ev (v := .bool (decide ((s_0.length : Int) ≤ 256))) (ev_pick_t rfl hg19 rfl) (by decide) ?_
     exact sr_weaken (l' := [(0, str s_0), (22, .bool (decide ((s_0.length : Int) ≤ 256)))]) (.cons rfl (.cons rfl (.nil _))) (K20 (decide ((s_0.length : Int) ≤ 256)) _ ⟨by rw [hg19]; rfl, rfl⟩)
    ·refine sr_pass (e := 18) rfl rfl (by rw [hg19]; rfl) (by decide) ?_
     refine sr_pass (e := 18) rfl rfl (by rw [hg19]; rfl) (by decide) ?_
     refine sr_pass (e := 18) rfl rfl (by rw [hg19]; rfl) (by decide) ?_
     refine sr_ev (v := .bool false) (ev_pick_f rfl hg19 rfl) (by decide) ?_
     exact sr_weaken (l' := [(0, str s_0), (22, .bool false)]) (.cons rfl (.cons rfl (.nil _))) (K20 false _ ⟨by rw [hg19]; rfl, rfl⟩)
theorem fold_Clean_ok (w0 : World) (hg : Gs w0) {s_0 : Str} {r : Bool} (hS : fold_Clean s_0 = some r) :
  Calls Tryz.prog 34 #[str s_0] w0 (Ret (fun v w' => v = .bool r ∧ Below w0.heap.size w0 w')) := by
 unfold fold_Clean at hS
 have hb := Below.refl w0.heap.size w0
 obtain ⟨A0, hA0, hAe⟩ : ∃ A0 : Nat → Prop, (∀ b, A0 b → b < w0.heap.size) ∧ A0 = fun _ => False := ⟨_, fun _ h => h.elim, rfl⟩
 clear hAe
 have hA := hA0
 have hi : ∀ b, A0 b → A0 b := fun _ h => h
 have hH := Hp.nil A0 w0.heap.size w0
 refine calls_of_ke Tryz.func34 rfl (n := 29) rfl rfl (l := [(0, str s_0)]) rfl ?_
 refine ke_seq ?_
 refine ke_region ?_
 refine sr_ev (v := .bool false) (ev_assign rfl) (by decide) ?_
 refine sr_end (l' := [(0, str s_0)]) (.cons rfl (.nil _)) ?_
 refine ke_seq ?_
 refine ke_seq ?_
 refine ke_region ?_
 refine sr_ev (v := str s_0) (ev_move rfl) (by decide) ?_
 refine sr_range_s hH hb.size hA Tryz.underlying9 rfl (by decide) ?_
 intro g1 A2 w3 hH1 hst4 hbw5 hinc6 hA1 hge7
 replace hb := hb.trans (hbw5.mono hb.size)
 replace hi := fun b hb => hinc6 b (hi b hb)
 replace hH : Hp A2 w0.heap.size w3 [(g1, .stringIter ⟨s_0.toArray⟩ 0)] := hH1
 replace hA := hA1
 clear hH1 hA1
 refine sr_end (l' := [(0, str s_0), (6, .pointer (some ⟨g1, 0, none⟩))]) (.cons rfl (.cons rfl (.nil _))) ?_
 refine ke_block ?_
 have hK := fold_Clean_L1_ok hg hA0 _ hS hb hA hi hH
 exact ke_weaken (l' := [(0, str s_0), (6, .pointer (some ⟨g1, 0, none⟩))]) (.cons rfl (.cons rfl (.nil _))) (ke_loop hK)
theorem device_Devices_Trust_B2_ok {w0 : World} (hg : Gs w0) {ρA : Tags} (hbd : ∀ b, ρA b ≠ 0 → b < w0.heap.size) {o : Nat} (ho2 : 2 ≤ o) {gd_0 : Nat} (hz : Gz (enter ρA o 2)) {r : Int × device_Devices} {ogd_0 : device_Devices} (hS : device_Devices_Trust_B2 ogd_0 = some r) {ρ : Tags} {w : World} (hb : Fr (enter ρA o 2) w0 ρ w) (hogd_0 : device_Devices.O (fun p => 100 + p) ρ w gd_0 ogd_0) :
  KE Tryz.prog 13 (Ret (fun v w' => ∃ ρ', v = .int .i64 r.1 ∧ device_Devices.O (fun p => o + p) ρ' w' gd_0 r.2 ∧ Tr ρA w0 (rng o 2) ρ' w')) 86 [.code (sub (bodyOf Tryz.f13) [2, 2, 2, 2, 2, 2, 2, 2, 2])] [] w := by
 unfold device_Devices_Trust_B2 at hS
 obtain ⟨v141, hB143, h142⟩ := hogd_0
 replace hB143 : Blk ρ 100 w gd_0 (.cells #[v141, .int .i64 ogd_0.given] 41 (0, 0)) := hB143
 replace h142 : MapT device_key.ek device_record.c true ρ 101 w v141 ogd_0.records := h142
 refine ke_seq ?_
 refine ke_region ?_
 refine sr_ev (v := .int .i64 0) (ev_assign rfl) (by decide) ?_
 refine sr_end (l' := [(12, .int .i64 0)]) (.cons rfl (.nil _)) ?_
 cases hS
 exact ke_ret1 Tryz.func13 rfl rfl ⟨_, rfl, leave ρA w0 o 2 ρ, rfl, ⟨_, (hB143.mv (leave_mv (p := 0) (by decide) hb)), (h142.mv (leave_mv (p := 1) (by decide) hb))⟩, (leave_tr ho2 hb)⟩
theorem device_Devices_Trust_B1_ok {w0 : World} (hg : Gs w0) {ρA : Tags} (hbd : ∀ b, ρA b ≠ 0 → b < w0.heap.size) {o : Nat} (ho2 : 2 ≤ o) {gd_0 : Nat} (hz : Gz (enter ρA o 2)) {r : Int × device_Devices} {od_0 : device_Devices} {k_13_0 : Str} {k_13_1 : Str} {r_14_0 : Str} {r_14_1 : Str} {r_14_2 : Int} {n_16_0 : Str} {n_16_1 : Str} {n_16_2 : Int} {gk_13 : Nat} {gr_14 : Nat} {gn_16 : Nat} (hS : device_Devices_Trust_B1 od_0 k_13_0 k_13_1 r_14_0 r_14_1 r_14_2 n_16_0 n_16_1 n_16_2 = some r) {ρ : Tags} {w : World} (hb : Fr (enter ρA o 2) w0 ρ w) (hod_0 : device_Devices.O (fun p => 100 + p) ρ w gd_0 od_0) (hBk_13 : Blk ρ 15 w gk_13 (.cells #[str k_13_0, str k_13_1] 61 (0, 0))) (hBr_14 : Blk ρ 16 w gr_14 (.cells #[str r_14_0, str r_14_1, .int .i64 r_14_2] 57 (0, 0))) (hBn_16 : Blk ρ 18 w gn_16 (.cells #[str n_16_0, str n_16_1, .int .i64 n_16_2] 57 (0, 0))) :
  KE Tryz.prog 13 (Ret (fun v w' => ∃ ρ', v = .int .i64 r.1 ∧ device_Devices.O (fun p => o + p) ρ' w' gd_0 r.2 ∧ Tr ρA w0 (rng o 2) ρ' w')) 86 [.code (sub (bodyOf Tryz.f13) [2, 2, 2, 2, 2, 2, 2, 2])] [(0, .pointer (some ⟨gd_0, 0, none⟩)), (13, .pointer (some ⟨gk_13, 0, none⟩)), (14, .pointer (some ⟨gr_14, 0, none⟩)), (16, .pointer (some ⟨gn_16, 0, none⟩))] w := by
 unfold device_Devices_Trust_B1 at hS
 obtain ⟨v121, hB123, h122⟩ := hod_0
 replace hB123 : Blk ρ 100 w gd_0 (.cells #[v121, .int .i64 od_0.given] 41 (0, 0)) := hB123
 replace h122 : MapT device_key.ek device_record.c true ρ 101 w v121 od_0.records := h122
 refine ke_seq ?_
 refine ke_seq ?_
 refine ke_region ?_
 refine sr_ev (v := .agg #[str n_16_0, str n_16_1, .int .i64 n_16_2]) (ev_loads (cs := [str n_16_0, str n_16_1, .int .i64 n_16_2]) Tryz.isAgg57 Tryz.sizeOf57 rfl (hBn_16.cells (vs := [str n_16_0, str n_16_1, .int .i64 n_16_2]) rfl)) (by decide) ?_
 refine sr_ev (v := .agg #[str r_14_0, str r_14_1, .int .i64 r_14_2]) (ev_loads (cs := [str r_14_0, str r_14_1, .int .i64 r_14_2]) Tryz.isAgg57 Tryz.sizeOf57 rfl (hBr_14.cells (vs := [str r_14_0, str r_14_1, .int .i64 r_14_2]) rfl)) (by decide) ?_
 refine sr_ev (v := .bool (!(device_record.eqb (device_record.mk n_16_0 n_16_1 n_16_2) (device_record.mk r_14_0 r_14_1 r_14_2)))) (ev_ane (Tryz.eq57 (device_record.mk n_16_0 n_16_1 n_16_2) (device_record.mk r_14_0 r_14_1 r_14_2)) rfl rfl) (by decide) ?_
 refine sr_end (l' := [(0, .pointer (some ⟨gd_0, 0, none⟩)), (13, .pointer (some ⟨gk_13, 0, none⟩)), (16, .pointer (some ⟨gn_16, 0, none⟩)), (79, .bool (!(device_record.eqb (device_record.mk n_16_0 n_16_1 n_16_2) (device_record.mk r_14_0 r_14_1 r_14_2))))]) (.cons rfl (.cons rfl (.cons rfl (.cons rfl (.nil _))))) ?_
 refine ke_cond (t := !(device_record.eqb (device_record.mk n_16_0 n_16_1 n_16_2) (device_record.mk r_14_0 r_14_1 r_14_2))) rfl (fun hc124 => ?_) (fun hc124 => ?_)
 ·replace hS := ite_true' hS hc124
  refine ke_region_j (ρ := ρ) (fun t => ([101] : List Nat).contains t) 7 Tryz.mixed (fun w126 hw125 => ?_)
  have htr127 := Tr.of_below hw125 hb.bd
  replace hB123 := hB123.mv (htr127.mv (i := 100) rfl)
  replace h122 := h122.mv (htr127.mv (i := 101) rfl)
  replace hBk_13 := hBk_13.mv (htr127.mv (i := 15) rfl)
  replace hBn_16 := hBn_16.mv (htr127.mv (i := 18) rfl)
  replace hb := hb.trans htr127
  refine dj_H 0 (v := .pointer (some ⟨gd_0, 0, none⟩)) (by kernel_rfl) (by kernel_rfl) rfl (fun _ _ _ h => h) (sj_refl hb.bd rfl rfl) (fun w1 ρ1 hw1 => ev_move rfl) (by decide) ?_
  refine dj_H 1 (v := .pointer (some ⟨gd_0, 0, none⟩)) (by kernel_rfl) (by kernel_rfl) rfl (fun _ _ _ h => h) (sj_refl hb.bd rfl rfl) (fun w1 ρ1 hw1 => ev_nilCheck rfl) (by decide) ?_
  refine dj_H 2 (v := .pointer (some ⟨gd_0, 0, none⟩)) (by kernel_rfl) (by kernel_rfl) rfl (fun _ _ _ h => h) (sj_refl hb.bd rfl rfl) (fun w1 ρ1 hw1 => ev_fieldAddr (i := 0) Tryz.underlying41 rfl Tryz.info39 rfl rfl) (by decide) ?_
  refine dj_H 3 (v := v121) (by kernel_rfl) (by kernel_rfl) rfl (fun _ _ _ h => h) (sj_refl hb.bd rfl rfl) (fun w1 ρ1 hw1 => ev_load Tryz.isAgg39 rfl ((hB123.mv (hw1.mv (i := 100) rfl)).cell rfl)) (by decide) ?_
  refine dj_H 4 (v := .agg #[str k_13_0, str k_13_1]) (by kernel_rfl) (by kernel_rfl) rfl (fun _ _ _ h => h) (sj_refl hb.bd rfl rfl) (fun w1 ρ1 hw1 => ev_loads (cs := [str k_13_0, str k_13_1]) Tryz.isAgg61 Tryz.sizeOf61 rfl ((hBk_13.mv (hw1.mv (i := 15) rfl)).cells (vs := [str k_13_0, str k_13_1]) rfl)) (by decide) ?_
  refine dj_H 5 (v := .agg #[str n_16_0, str n_16_1, .int .i64 n_16_2]) (by kernel_rfl) (by kernel_rfl) rfl (fun _ _ _ h => h) (sj_refl hb.bd rfl rfl) (fun w1 ρ1 hw1 => ev_loads (cs := [str n_16_0, str n_16_1, .int .i64 n_16_2]) Tryz.isAgg57 Tryz.sizeOf57 rfl ((hBn_16.mv (hw1.mv (i := 18) rfl)).cells (vs := [str n_16_0, str n_16_1, .int .i64 n_16_2]) rfl)) (by decide) ?_
  refine dj_E 6 (by kernel_rfl) rfl ?_
  have jt137 : Tr ρ w126 (fun t => ([101] : List Nat).contains t) ρ w126 := (Tr.refl hb.bd).weak (fun _ _ => rfl) rfl rfl
  obtain ⟨hk138, hS⟩ := chk_some hS
  refine sr_mapPut (k := (device_key.mk k_13_0 k_13_1)) (d := (device_record.mk n_16_0 n_16_1 n_16_2)) (u := .agg #[str n_16_0, str n_16_1, .int .i64 n_16_2]) (cs := [str n_16_0, str n_16_1, .int .i64 n_16_2]) h122 hk138 Tryz.keyB61 Tryz.underlying39 (by decide) hb.bd rfl rfl rfl rfl rfl ?_
  intro w139 h1221 htr140
  replace hB123 := hB123.mv (htr140.mv (i := 100) rfl)
  replace hb := hb.trans htr140
  replace jt137 := (jt137.trans htr140).weak (J' := (fun t => ([101] : List Nat).contains t)) (by intro t h; simp [rng] at h ⊢ <;> omega) rfl rfl
  replace h122 := h1221
  clear h1221
  refine dj_next (l' := []) rfl (.nil _) jt137 (by intro t h; simp [rng] at h ⊢ <;> omega) rfl rfl ?_
  refine dj_done rfl (by kernel_rfl) ?_
  refine ke_weaken (l' := []) (.nil _) ?_
  have hK := device_Devices_Trust_B2_ok hg hbd ho2 hz hS hb ⟨_, hB123, h122⟩
  exact ke_weaken (l' := []) (.nil _) hK
 ·replace hS := ite_false' hS hc124
  refine ke_skip ?_
  have hK := device_Devices_Trust_B2_ok hg hbd ho2 hz hS hb ⟨_, hB123, h122⟩
  exact ke_weaken (l' := []) (.nil _) hK
theorem device_Devices_Trust_ok (w0 : World) (hg : Gs w0) {ρA : Tags} (hbd : ∀ b, ρA b ≠ 0 → b < w0.heap.size) (hz : Gz ρA) {o : Nat} (ho2 : 2 ≤ o) {d_0 : device_Devices} {user_1 : Str} {id_2 : Str} {secret_3 : Str} {until_4 : Int} {now_5 : Int} {gd_0 : Nat} {r : Int × device_Devices} (ho0 : device_Devices.O (fun p => o + p) ρA w0 gd_0 d_0) (hS : device_Devices_Trust d_0 user_1 id_2 secret_3 until_4 now_5 = some r) :
  Calls Tryz.prog 13 #[.pointer (some ⟨gd_0, 0, none⟩), str user_1, str id_2, str secret_3, .int .i64 until_4, .int .i64 now_5] w0 (Ret (fun v w' => ∃ ρ', v = .int .i64 r.1 ∧ device_Devices.O (fun p => o + p) ρ' w' gd_0 r.2 ∧ Tr ρA w0 (rng o 2) ρ' w')) := by
 unfold device_Devices_Trust at hS
 have hb := enter_fr (ρ := ρA) (w := w0) (n := 2) ho2 hbd
 have hz := hz.enter (n := 2) ho2
 obtain ⟨v1, hB3, h2⟩ := ho0
 replace hB3 := hB3.mv (enter_mv (p := 0) (n := 2) (by decide) ho2)
 replace h2 := h2.mv (enter_mv (p := 1) (n := 2) (by decide) ho2)
 replace hB3 : Blk (enter ρA o 2) 100 w0 gd_0 (.cells #[v1, .int .i64 d_0.given] 41 (0, 0)) := hB3
 replace h2 : MapT device_key.ek device_record.c true (enter ρA o 2) 101 w0 v1 d_0.records := h2
 refine calls_of_ke Tryz.func13 rfl (n := 86) rfl rfl (l := [(0, .pointer (some ⟨gd_0, 0, none⟩)), (1, str user_1), (2, str id_2), (3, str secret_3), (4, .int .i64 until_4), (5, .int .i64 now_5)]) rfl ?_
 refine ke_seq ?_
 refine ke_region ?_
 refine sr_ev (v := .int .i64 0) (ev_assign rfl) (by decide) ?_
 refine sr_end (l' := [(0, .pointer (some ⟨gd_0, 0, none⟩)), (1, str user_1), (2, str id_2), (3, str secret_3), (4, .int .i64 until_4), (5, .int .i64 now_5)]) (.cons rfl (.cons rfl (.cons rfl (.cons rfl (.cons rfl (.cons rfl (.nil _))))))) ?_
 refine ke_seq ?_
 refine ke_region ?_
 refine sr_ev (v := .int .i64 until_4) (ev_move rfl) (by decide) ?_
 obtain ⟨y4, hy5, hS⟩ := bind_some' hS
 refine sr_call (vs := [.int .i64 until_4]) rfl Tryz.call31 rfl (device_limited_ok _ (hg.fr hz hb) hy5) (by decide) ?_
 rintro _ w6 ⟨rfl, hbw7⟩
 have htr8 := Tr.of_below hbw7 hb.bd
 replace hB3 := hB3.mv (htr8.mv (i := 100) rfl)
 replace h2 := h2.mv (htr8.mv (i := 101) rfl)
 replace hb := hb.trans htr8
 refine sr_ev (v := .int .i64 now_5) (ev_move rfl) (by decide) ?_
 obtain ⟨y9, hy10, hS⟩ := bind_some' hS
 refine sr_call (vs := [.int .i64 now_5]) rfl Tryz.call31 rfl (device_limited_ok _ (hg.fr hz hb) hy10) (by decide) ?_
 rintro _ w11 ⟨rfl, hbw12⟩
 have htr13 := Tr.of_below hbw12 hb.bd
 replace hB3 := hB3.mv (htr13.mv (i := 100) rfl)
 replace h2 := h2.mv (htr13.mv (i := 101) rfl)
 replace hb := hb.trans htr13
 refine sr_ev (v := .int .i64 y4) (ev_assign rfl) (by decide) ?_
 refine sr_ev (v := .int .i64 y9) (ev_assign rfl) (by decide) ?_
 refine sr_end (l' := [(0, .pointer (some ⟨gd_0, 0, none⟩)), (1, str user_1), (2, str id_2), (3, str secret_3), (4, .int .i64 y4), (5, .int .i64 y9)]) (.cons rfl (.cons rfl (.cons rfl (.cons rfl (.cons rfl (.cons rfl (.nil _))))))) ?_
 refine ke_seq ?_
 refine ke_region ?_
 refine sr_ev (v := str user_1) (ev_move rfl) (by decide) ?_
 refine sr_ev (v := str id_2) (ev_move rfl) (by decide) ?_
 refine sr_ev (v := .agg #[str user_1, str id_2]) (ev_build (vs := #[(0, str user_1), (1, str id_2)]) rfl (fun _ => by kernel_rfl)) (by decide) ?_
 refine sr_allocT 15 (by decide) hb.bd Tryz.zeroValue61 (by decide) ?_
 intro g14 ρ15 w16 hB18 htr17
 replace hB3 := hB3.mv (htr17.mv (i := 100) rfl)
 replace h2 := h2.mv (htr17.mv (i := 101) rfl)
 replace hb := hb.trans htr17
 replace hB18 : Blk ρ15 15 w16 g14 (.cells #[str ([]), str ([])] 61 (0, 0)) := hB18
 refine sr_storeT (v := .agg #[str user_1, str id_2]) (vs := [str user_1, str id_2]) (cs' := #[str user_1, str id_2]) hB18 (by decide) hb.bd rfl rfl rfl Tryz.sizeOf61 rfl rfl rfl ?_
 intro w19 hB181 htr20
 replace hB3 := hB3.mv (htr20.mv (i := 100) rfl)
 replace h2 := h2.mv (htr20.mv (i := 101) rfl)
 replace hb := hb.trans htr20
 replace hB18 : Blk ρ15 15 w19 g14 (.cells #[str user_1, str id_2] 61 (0, 0)) := hB181
 clear hB181
 refine sr_end (l' := [(0, .pointer (some ⟨gd_0, 0, none⟩)), (1, str user_1), (2, str id_2), (3, str secret_3), (4, .int .i64 y4), (5, .int .i64 y9), (13, .pointer (some ⟨g14, 0, none⟩))]) (.cons rfl (.cons rfl (.cons rfl (.cons rfl (.cons rfl (.cons rfl (.cons rfl (.nil _)))))))) ?_
 refine ke_seq ?_
 refine ke_block ?_
 refine ke_seq ?_
 refine ke_region ?_
 refine sr_ev (v := .pointer (some ⟨gd_0, 0, none⟩)) (ev_move rfl) (by decide) ?_
 obtain ⟨y21, hy22, hS⟩ := bind_some' hS
 refine sr_call (vs := [.pointer (some ⟨gd_0, 0, none⟩)]) rfl Tryz.call32 rfl (device_Devices_made_ok _ (hg.fr hz hb) (ρA := ρ15) hb.bd (hz.fr hg hb) (τ0 := (fun p => 100 + p)) (fun p => Nat.le_add_right_of_le (by decide)) (⟨_, hB3, h2⟩ : device_Devices.O (fun p => 100 + p) ρ15 w19 gd_0 d_0) hy22) (by decide) ?_
 rintro _ w23 ⟨rfl, hbw24⟩
 have htr25 := Tr.of_below hbw24 hb.bd
 replace hB18 := hB18.mv (htr25.mv (i := 15) rfl)
 replace hB3 := hB3.mv (htr25.mv (i := 100) rfl)
 replace h2 := h2.mv (htr25.mv (i := 101) rfl)
 replace hb := hb.trans htr25
 refine sr_ev (v := .bool (!y21)) (ev_not rfl) (by decide) ?_
 refine sr_ev (v := .bool (!y21)) (ev_assign rfl) (by decide) ?_
 refine sr_end (l' := [(0, .pointer (some ⟨gd_0, 0, none⟩)), (1, str user_1), (2, str id_2), (3, str secret_3), (4, .int .i64 y4), (5, .int .i64 y9), (13, .pointer (some ⟨g14, 0, none⟩)), (24, .bool (!y21))]) (.cons rfl (.cons rfl (.cons rfl (.cons rfl (.cons rfl (.cons rfl (.cons rfl (.cons rfl (.nil _))))))))) ?_
 refine ke_cond (t := !y21) rfl (fun hc26 => ?_) (fun hc26 => ?_)
 ·replace hS := ite_true' hS hc26
  refine ke_seq ?_
  refine ke_region ?_
  refine sr_ev (v := .int .i64 1) (ev_assign rfl) (by decide) ?_
  refine sr_end (l' := [(12, .int .i64 1)]) (.cons rfl (.nil _)) ?_
  cases hS
  exact ke_ret1 Tryz.func13 rfl rfl ⟨_, rfl, leave ρA w0 o 2 ρ15, rfl, ⟨_, (hB3.mv (leave_mv (p := 0) (by decide) hb)), (h2.mv (leave_mv (p := 1) (by decide) hb))⟩, (leave_tr ho2 hb)⟩
 ·replace hS := ite_false' hS hc26
  refine ke_seq ?_
  refine ke_region ?_
  refine sr_ev (v := str user_1) (ev_move rfl) (by decide) ?_
  obtain ⟨y27, hy28, hS⟩ := bind_some' hS
  refine sr_call (vs := [str user_1]) rfl Tryz.call33 rfl (fold_Word_ok _ (hg.fr hz hb) hy28) (by decide) ?_
  rintro _ w29 ⟨rfl, hbw30⟩
  have htr31 := Tr.of_below hbw30 hb.bd
  replace hB18 := hB18.mv (htr31.mv (i := 15) rfl)
  replace hB3 := hB3.mv (htr31.mv (i := 100) rfl)
  replace h2 := h2.mv (htr31.mv (i := 101) rfl)
  replace hb := hb.trans htr31
  refine sr_ev (v := .bool (!y27)) (ev_not rfl) (by decide) ?_
  refine sr_ev (v := .bool (!y27)) (ev_move rfl) (by decide) ?_
  obtain ⟨z34, hz36, hS⟩ := bind_some' hS
  refine sr_join (m := 4) (C := fun (z : Bool) w1 => z34 = z ∧ ∃ ρ1, Tr ρ15 w29 (fun _ => false) ρ1 w1) (l' := fun z => [(0, .pointer (some ⟨gd_0, 0, none⟩)), (3, str secret_3), (4, .int .i64 y4), (5, .int .i64 y9), (13, .pointer (some ⟨g14, 0, none⟩)), (36, .bool z)]) ?_ ?_
  ·rintro _ w37 ⟨rfl, ρ38, hj35⟩
   replace hB18 := hB18.mv (hj35.mv (i := 15) rfl)
   replace hB3 := hB3.mv (hj35.mv (i := 100) rfl)
   replace h2 := h2.mv (hj35.mv (i := 101) rfl)
   replace hb := hb.trans hj35
   refine sr_ev (v := .bool z34) (ev_assign rfl) (by decide) ?_
   refine sr_end (l' := [(0, .pointer (some ⟨gd_0, 0, none⟩)), (3, str secret_3), (4, .int .i64 y4), (5, .int .i64 y9), (13, .pointer (some ⟨g14, 0, none⟩)), (28, .bool z34)]) (.cons rfl (.cons rfl (.cons rfl (.cons rfl (.cons rfl (.cons rfl (.nil _))))))) ?_
   refine ke_cond (t := z34) rfl (fun hc45 => ?_) (fun hc45 => ?_)
   ·replace hS := ite_true' hS hc45
    refine ke_seq ?_
    refine ke_region ?_
    refine sr_ev (v := .int .i64 5) (ev_assign rfl) (by decide) ?_
    refine sr_end (l' := [(12, .int .i64 5)]) (.cons rfl (.nil _)) ?_
    cases hS
    exact ke_ret1 Tryz.func13 rfl rfl ⟨_, rfl, leave ρA w0 o 2 ρ38, rfl, ⟨_, (hB3.mv (leave_mv (p := 0) (by decide) hb)), (h2.mv (leave_mv (p := 1) (by decide) hb))⟩, (leave_tr ho2 hb)⟩
   ·replace hS := ite_false' hS hc45
    refine ke_seq ?_
    refine ke_region ?_
    refine sr_ev (v := str secret_3) (ev_move rfl) (by decide) ?_
    obtain ⟨y46, hy47, hS⟩ := bind_some' hS
    refine sr_call (vs := [str secret_3]) rfl Tryz.call34 rfl (fold_Clean_ok _ (hg.fr hz hb) hy47) (by decide) ?_
    rintro _ w48 ⟨rfl, hbw49⟩
    have htr50 := Tr.of_below hbw49 hb.bd
    replace hB18 := hB18.mv (htr50.mv (i := 15) rfl)
    replace hB3 := hB3.mv (htr50.mv (i := 100) rfl)
    replace h2 := h2.mv (htr50.mv (i := 101) rfl)
    replace hb := hb.trans htr50
    refine sr_ev (v := .bool (!y46)) (ev_not rfl) (by decide) ?_
    refine sr_ev (v := .bool (!y46)) (ev_assign rfl) (by decide) ?_
    refine sr_end (l' := [(0, .pointer (some ⟨gd_0, 0, none⟩)), (3, str secret_3), (4, .int .i64 y4), (5, .int .i64 y9), (13, .pointer (some ⟨g14, 0, none⟩)), (37, .bool (!y46))]) (.cons rfl (.cons rfl (.cons rfl (.cons rfl (.cons rfl (.cons rfl (.nil _))))))) ?_
    refine ke_cond (t := !y46) rfl (fun hc51 => ?_) (fun hc51 => ?_)
    ·replace hS := ite_true' hS hc51
     refine ke_seq ?_
     refine ke_region ?_
     refine sr_ev (v := .int .i64 4) (ev_assign rfl) (by decide) ?_
     refine sr_end (l' := [(12, .int .i64 4)]) (.cons rfl (.nil _)) ?_
     cases hS
     exact ke_ret1 Tryz.func13 rfl rfl ⟨_, rfl, leave ρA w0 o 2 ρ38, rfl, ⟨_, (hB3.mv (leave_mv (p := 0) (by decide) hb)), (h2.mv (leave_mv (p := 1) (by decide) hb))⟩, (leave_tr ho2 hb)⟩
    ·replace hS := ite_false' hS hc51
     refine ke_seq ?_
     refine ke_region ?_
     refine sr_ev (v := .int .i64 y4) (ev_move rfl) (by decide) ?_
     refine sr_ev (v := .int .i64 y9) (ev_move rfl) (by decide) ?_
     refine sr_ev (v := .bool (decide (y4 ≤ y9))) (ev_le rfl rfl) (by decide) ?_
     refine sr_ev (v := .bool (decide (y4 ≤ y9))) (ev_assign rfl) (by decide) ?_
     refine sr_end (l' := [(0, .pointer (some ⟨gd_0, 0, none⟩)), (3, str secret_3), (4, .int .i64 y4), (13, .pointer (some ⟨g14, 0, none⟩)), (41, .bool (decide (y4 ≤ y9)))]) (.cons rfl (.cons rfl (.cons rfl (.cons rfl (.cons rfl (.nil _)))))) ?_
     refine ke_cond (t := decide (y4 ≤ y9)) rfl (fun hc52 => ?_) (fun hc52 => ?_)
     ·replace hS := ite_true' hS hc52
      refine ke_seq ?_
      refine ke_region ?_
      refine sr_ev (v := .int .i64 13) (ev_assign rfl) (by decide) ?_
      refine sr_end (l' := [(12, .int .i64 13)]) (.cons rfl (.nil _)) ?_
      cases hS
      exact ke_ret1 Tryz.func13 rfl rfl ⟨_, rfl, leave ρA w0 o 2 ρ38, rfl, ⟨_, (hB3.mv (leave_mv (p := 0) (by decide) hb)), (h2.mv (leave_mv (p := 1) (by decide) hb))⟩, (leave_tr ho2 hb)⟩
     ·replace hS := ite_false' hS hc52
      refine ke_skip ?_
      refine ke_inBlock ?_
      refine ke_seq ?_
      refine ke_region_j (ρ := ρ38) (fun t => ([16] : List Nat).contains t) 12 Tryz.mixed (fun w54 hw53 => ?_)
      have htr55 := Tr.of_below hw53 hb.bd
      replace hB18 := hB18.mv (htr55.mv (i := 15) rfl)
      replace hB3 := hB3.mv (htr55.mv (i := 100) rfl)
      replace h2 := h2.mv (htr55.mv (i := 101) rfl)
      replace hb := hb.trans htr55
      refine dj_H 0 (v := .pointer (some ⟨gd_0, 0, none⟩)) (by kernel_rfl) (by kernel_rfl) rfl (fun _ _ _ h => h) (sj_refl hb.bd rfl rfl) (fun w1 ρ1 hw1 => ev_move rfl) (by decide) ?_
      refine dj_H 1 (v := .pointer (some ⟨gd_0, 0, none⟩)) (by kernel_rfl) (by kernel_rfl) rfl (fun _ _ _ h => h) (sj_refl hb.bd rfl rfl) (fun w1 ρ1 hw1 => ev_nilCheck rfl) (by decide) ?_
      refine dj_H 2 (v := .pointer (some ⟨gd_0, 0, none⟩)) (by kernel_rfl) (by kernel_rfl) rfl (fun _ _ _ h => h) (sj_refl hb.bd rfl rfl) (fun w1 ρ1 hw1 => ev_fieldAddr (i := 0) Tryz.underlying41 rfl Tryz.info39 rfl rfl) (by decide) ?_
      refine dj_H 3 (v := v1) (by kernel_rfl) (by kernel_rfl) rfl (fun _ _ _ h => h) (sj_refl hb.bd rfl rfl) (fun w1 ρ1 hw1 => ev_load Tryz.isAgg39 rfl ((hB3.mv (hw1.mv (i := 100) rfl)).cell rfl)) (by decide) ?_
      refine dj_H 4 (v := .agg #[str user_1, str id_2]) (by kernel_rfl) (by kernel_rfl) rfl (fun _ _ _ h => h) (sj_refl hb.bd rfl rfl) (fun w1 ρ1 hw1 => ev_loads (cs := [str user_1, str id_2]) Tryz.isAgg61 Tryz.sizeOf61 rfl ((hB18.mv (hw1.mv (i := 15) rfl)).cells (vs := [str user_1, str id_2]) rfl)) (by decide) ?_
      obtain ⟨y91, hy92, hS⟩ := bind_some' hS
      replace hy92 := Option.some.inj hy92
      obtain ⟨cs87, hrd88, hl89, hl90⟩ := h2.look (zcs := [str ([]), str ([]), .int .i64 0]) (z := (device_record.mk ([]) ([]) 0)) Tryz.keyB61 Tryz.underlying39 Tryz.zeroValue57 rfl (device_key.mk user_1 id_2)
      rw [hy92] at hrd88
      obtain rfl : cs87 = [str y91.secret, str y91.challenge, .int .i64 y91.until_] := hrd88
      refine dj_H 5 (v := .tuple #[.agg #[str y91.secret, str y91.challenge, .int .i64 y91.until_], .bool (mhas d_0.records (device_key.mk user_1 id_2))]) (by kernel_rfl) (by kernel_rfl) rfl (fun _ _ _ h => h) (sj_refl hb.bd rfl rfl) (fun w1 ρ1 hw1 => hl90 w1 _ _ (hw1.mv (i := 101) rfl) rfl rfl) (by decide) ?_
      refine dj_H 6 (v := .tuple #[.agg #[str y91.secret, str y91.challenge, .int .i64 y91.until_], .bool (mhas d_0.records (device_key.mk user_1 id_2))]) (by kernel_rfl) (by kernel_rfl) rfl (fun _ _ _ h => h) (sj_refl hb.bd rfl rfl) (fun w1 ρ1 hw1 => ev_move rfl) (by decide) ?_
      refine dj_H 7 (v := .agg #[str y91.secret, str y91.challenge, .int .i64 y91.until_]) (by kernel_rfl) (by kernel_rfl) rfl (fun _ _ _ h => h) (sj_refl hb.bd rfl rfl) (fun w1 ρ1 hw1 => ev_extract rfl rfl) (by decide) ?_
      refine dj_H 8 (v := .bool (mhas d_0.records (device_key.mk user_1 id_2))) (by kernel_rfl) (by kernel_rfl) rfl (fun _ _ _ h => h) (sj_refl hb.bd rfl rfl) (fun w1 ρ1 hw1 => ev_extract rfl rfl) (by decide) ?_
      refine dj_E 9 (by kernel_rfl) rfl ?_
      have jt93 : Tr ρ38 w54 (fun t => ([16] : List Nat).contains t) ρ38 w54 := (Tr.refl hb.bd).weak (fun _ _ => rfl) rfl rfl
      refine sr_allocT 16 (by decide) hb.bd Tryz.zeroValue57 (by decide) ?_
      intro g94 ρ95 w96 hB98 htr97
      replace hB18 := hB18.mv (htr97.mv (i := 15) rfl)
      replace hB3 := hB3.mv (htr97.mv (i := 100) rfl)
      replace h2 := h2.mv (htr97.mv (i := 101) rfl)
      replace hb := hb.trans htr97
      replace jt93 := (jt93.trans htr97).weak (J' := (fun t => ([16] : List Nat).contains t)) (by intro t h; simp [rng] at h ⊢ <;> omega) rfl rfl
      replace hB98 : Blk ρ95 16 w96 g94 (.cells #[str ([]), str ([]), .int .i64 0] 57 (0, 0)) := hB98
      refine dj_next (l' := [(0, .pointer (some ⟨gd_0, 0, none⟩)), (3, str secret_3), (4, .int .i64 y4), (13, .pointer (some ⟨g14, 0, none⟩)), (14, .pointer (some ⟨g94, 0, none⟩)), (52, .agg #[str y91.secret, str y91.challenge, .int .i64 y91.until_]), (53, .bool (mhas d_0.records (device_key.mk user_1 id_2)))]) rfl (.cons rfl (.cons rfl (.cons rfl (.cons rfl (.cons rfl (.cons rfl (.cons rfl (.nil _)))))))) jt93 (by intro t h; simp [rng] at h ⊢ <;> omega) rfl rfl ?_
      refine dj_E 10 (by kernel_rfl) rfl ?_
      have jt99 : Tr ρ95 w96 (fun t => ([16] : List Nat).contains t) ρ95 w96 := (Tr.refl hb.bd).weak (fun _ _ => rfl) rfl rfl
      refine sr_storeT (v := .agg #[str y91.secret, str y91.challenge, .int .i64 y91.until_]) (vs := [str y91.secret, str y91.challenge, .int .i64 y91.until_]) (cs' := #[str y91.secret, str y91.challenge, .int .i64 y91.until_]) hB98 (by decide) hb.bd rfl rfl rfl Tryz.sizeOf57 rfl rfl rfl ?_
      intro w100 hB981 htr101
      replace hB18 := hB18.mv (htr101.mv (i := 15) rfl)
      replace hB3 := hB3.mv (htr101.mv (i := 100) rfl)
      replace h2 := h2.mv (htr101.mv (i := 101) rfl)
      replace hb := hb.trans htr101
      replace jt99 := (jt99.trans htr101).weak (J' := (fun t => ([16] : List Nat).contains t)) (by intro t h; simp [rng] at h ⊢ <;> omega) rfl rfl
      replace hB98 : Blk ρ95 16 w100 g94 (.cells #[str y91.secret, str y91.challenge, .int .i64 y91.until_] 57 (0, 0)) := hB981
      clear hB981
      refine dj_next (l' := [(0, .pointer (some ⟨gd_0, 0, none⟩)), (3, str secret_3), (4, .int .i64 y4), (13, .pointer (some ⟨g14, 0, none⟩)), (14, .pointer (some ⟨g94, 0, none⟩)), (53, .bool (mhas d_0.records (device_key.mk user_1 id_2)))]) rfl (.cons rfl (.cons rfl (.cons rfl (.cons rfl (.cons rfl (.cons rfl (.nil _))))))) jt99 (by intro t h; simp [rng] at h ⊢ <;> omega) rfl rfl ?_
      refine dj_H 11 (v := .bool (mhas d_0.records (device_key.mk user_1 id_2))) (by kernel_rfl) (by kernel_rfl) rfl (fun _ _ _ h => h) (sj_refl hb.bd rfl rfl) (fun w1 ρ1 hw1 => ev_assign rfl) (by decide) ?_
      refine dj_done rfl (by kernel_rfl) ?_
      refine ke_weaken (l' := [(0, .pointer (some ⟨gd_0, 0, none⟩)), (3, str secret_3), (4, .int .i64 y4), (13, .pointer (some ⟨g14, 0, none⟩)), (14, .pointer (some ⟨g94, 0, none⟩)), (15, .bool (mhas d_0.records (device_key.mk user_1 id_2)))]) (.cons rfl (.cons rfl (.cons rfl (.cons rfl (.cons rfl (.cons rfl (.nil _))))))) ?_
      refine ke_seq ?_
      refine ke_seq ?_
      refine ke_region ?_
      refine sr_ev (v := .bool (mhas d_0.records (device_key.mk user_1 id_2))) (ev_move rfl) (by decide) ?_
      refine sr_ev (v := .bool (!(mhas d_0.records (device_key.mk user_1 id_2)))) (ev_not rfl) (by decide) ?_
      refine sr_ev (v := .bool (!(mhas d_0.records (device_key.mk user_1 id_2)))) (ev_move rfl) (by decide) ?_
      refine sr_join (m := 7) (C := fun (x : Bool) w1 => x = ((!(mhas d_0.records (device_key.mk user_1 id_2))) && (decide ((mlen d_0.records) ≥ 256))) ∧ w100 = w1) (l' := fun x => [(0, .pointer (some ⟨gd_0, 0, none⟩)), (3, str secret_3), (4, .int .i64 y4), (13, .pointer (some ⟨g14, 0, none⟩)), (14, .pointer (some ⟨g94, 0, none⟩)), (63, .bool x)]) ?_ ?_
      ·rintro _ _ ⟨rfl, rfl⟩
       refine sr_end (l' := [(0, .pointer (some ⟨gd_0, 0, none⟩)), (3, str secret_3), (4, .int .i64 y4), (13, .pointer (some ⟨g14, 0, none⟩)), (14, .pointer (some ⟨g94, 0, none⟩)), (63, .bool ((!(mhas d_0.records (device_key.mk user_1 id_2))) && (decide ((mlen d_0.records) ≥ 256))))]) (.cons rfl (.cons rfl (.cons rfl (.cons rfl (.cons rfl (.cons rfl (.nil _))))))) ?_
       refine ke_cond (t := (!(mhas d_0.records (device_key.mk user_1 id_2))) && (decide ((mlen d_0.records) ≥ 256))) rfl (fun hc110 => ?_) (fun hc110 => ?_)
       ·replace hS := ite_true' hS hc110
        refine ke_seq ?_
        refine ke_region ?_
        refine sr_ev (v := .int .i64 3) (ev_assign rfl) (by decide) ?_
        refine sr_end (l' := [(12, .int .i64 3)]) (.cons rfl (.nil _)) ?_
        cases hS
        exact ke_ret1 Tryz.func13 rfl rfl ⟨_, rfl, leave ρA w0 o 2 ρ95, rfl, ⟨_, (hB3.mv (leave_mv (p := 0) (by decide) hb)), (h2.mv (leave_mv (p := 1) (by decide) hb))⟩, (leave_tr ho2 hb)⟩
       ·replace hS := ite_false' hS hc110
        refine ke_skip ?_
        refine ke_seq ?_
        refine ke_region ?_
        refine sr_ev (v := str secret_3) (ev_move rfl) (by decide) ?_
        refine sr_ev (v := .pointer (some ⟨g94, 2, none⟩)) (ev_fieldAddr (i := 2) Tryz.underlying57 rfl Tryz.info3 rfl rfl) (by decide) ?_
        refine sr_ev (v := .int .i64 y91.until_) (ev_load Tryz.isAgg3 rfl (hB98.cell rfl)) (by decide) ?_
        refine sr_ev (v := .int .i64 y4) (ev_move rfl) (by decide) ?_
        refine sr_ev (v := .int .i64 (gmax y91.until_ y4)) (ev_max rfl rfl) (by decide) ?_
        refine sr_ev (v := .agg #[str secret_3, str ([]), .int .i64 (gmax y91.until_ y4)]) (ev_build (vs := #[(0, str secret_3), (2, .int .i64 (gmax y91.until_ y4))]) rfl (fun _ => by kernel_rfl)) (by decide) ?_
        refine sr_allocT 18 (by decide) hb.bd Tryz.zeroValue57 (by decide) ?_
        intro g111 ρ112 w113 hB115 htr114
        replace hB98 := hB98.mv (htr114.mv (i := 16) rfl)
        replace hB18 := hB18.mv (htr114.mv (i := 15) rfl)
        replace hB3 := hB3.mv (htr114.mv (i := 100) rfl)
        replace h2 := h2.mv (htr114.mv (i := 101) rfl)
        replace hb := hb.trans htr114
        replace hB115 : Blk ρ112 18 w113 g111 (.cells #[str ([]), str ([]), .int .i64 0] 57 (0, 0)) := hB115
        refine sr_storeT (v := .agg #[str secret_3, str ([]), .int .i64 (gmax y91.until_ y4)]) (vs := [str secret_3, str ([]), .int .i64 (gmax y91.until_ y4)]) (cs' := #[str secret_3, str ([]), .int .i64 (gmax y91.until_ y4)]) hB115 (by decide) hb.bd rfl rfl rfl Tryz.sizeOf57 rfl rfl rfl ?_
        intro w116 hB1151 htr117
        replace hB98 := hB98.mv (htr117.mv (i := 16) rfl)
        replace hB18 := hB18.mv (htr117.mv (i := 15) rfl)
        replace hB3 := hB3.mv (htr117.mv (i := 100) rfl)
        replace h2 := h2.mv (htr117.mv (i := 101) rfl)
        replace hb := hb.trans htr117
        replace hB115 : Blk ρ112 18 w116 g111 (.cells #[str secret_3, str ([]), .int .i64 (gmax y91.until_ y4)] 57 (0, 0)) := hB1151
        clear hB1151
        refine sr_end (l' := [(0, .pointer (some ⟨gd_0, 0, none⟩)), (3, str secret_3), (13, .pointer (some ⟨g14, 0, none⟩)), (14, .pointer (some ⟨g94, 0, none⟩)), (16, .pointer (some ⟨g111, 0, none⟩))]) (.cons rfl (.cons rfl (.cons rfl (.cons rfl (.cons rfl (.nil _)))))) ?_
        refine ke_seq ?_
        refine ke_seq ?_
        refine ke_region ?_
        refine sr_ev (v := .pointer (some ⟨g94, 0, none⟩)) (ev_fieldAddr (i := 0) Tryz.underlying57 rfl Tryz.info9 rfl rfl) (by decide) ?_
        refine sr_ev (v := str y91.secret) (ev_load Tryz.isAgg9 rfl (hB98.cell rfl)) (by decide) ?_
        refine sr_ev (v := str secret_3) (ev_move rfl) (by decide) ?_
        refine sr_ev (v := .bool (y91.secret == secret_3)) (ev_seq rfl rfl) (by decide) ?_
        refine sr_end (l' := [(0, .pointer (some ⟨gd_0, 0, none⟩)), (13, .pointer (some ⟨g14, 0, none⟩)), (14, .pointer (some ⟨g94, 0, none⟩)), (16, .pointer (some ⟨g111, 0, none⟩)), (73, .bool (y91.secret == secret_3))]) (.cons rfl (.cons rfl (.cons rfl (.cons rfl (.cons rfl (.nil _)))))) ?_
        refine ke_cond (t := y91.secret == secret_3) rfl (fun hc118 => ?_) (fun hc118 => ?_)
        ·replace hS := ite_true' hS hc118
         refine ke_region ?_
         refine sr_ev (v := .pointer (some ⟨g94, 1, none⟩)) (ev_fieldAddr (i := 1) Tryz.underlying57 rfl Tryz.info9 rfl rfl) (by decide) ?_
         refine sr_ev (v := str y91.challenge) (ev_load Tryz.isAgg9 rfl (hB98.cell rfl)) (by decide) ?_
         refine sr_ev (v := .pointer (some ⟨g111, 1, none⟩)) (ev_fieldAddr (i := 1) Tryz.underlying57 rfl Tryz.info9 rfl rfl) (by decide) ?_
         refine sr_storeT (v := str y91.challenge) (vs := [str y91.challenge]) (cs' := #[str secret_3, str y91.challenge, .int .i64 (gmax y91.until_ y4)]) hB115 (by decide) hb.bd rfl rfl rfl Tryz.sizeOf9 rfl rfl rfl ?_
         intro w119 hB1151 htr120
         replace hB98 := hB98.mv (htr120.mv (i := 16) rfl)
         replace hB18 := hB18.mv (htr120.mv (i := 15) rfl)
         replace hB3 := hB3.mv (htr120.mv (i := 100) rfl)
         replace h2 := h2.mv (htr120.mv (i := 101) rfl)
         replace hb := hb.trans htr120
         replace hB115 : Blk ρ112 18 w119 g111 (.cells #[str secret_3, str y91.challenge, .int .i64 (gmax y91.until_ y4)] 57 (0, 0)) := hB1151
         clear hB1151
         refine sr_end (l' := [(0, .pointer (some ⟨gd_0, 0, none⟩)), (13, .pointer (some ⟨g14, 0, none⟩)), (14, .pointer (some ⟨g94, 0, none⟩)), (16, .pointer (some ⟨g111, 0, none⟩))]) (.cons rfl (.cons rfl (.cons rfl (.cons rfl (.nil _))))) ?_
         have hK := device_Devices_Trust_B1_ok hg hbd ho2 hz hS hb ⟨_, hB3, h2⟩ hB18 hB98 hB115
         exact ke_weaken (l' := [(0, .pointer (some ⟨gd_0, 0, none⟩)), (13, .pointer (some ⟨g14, 0, none⟩)), (14, .pointer (some ⟨g94, 0, none⟩)), (16, .pointer (some ⟨g111, 0, none⟩))]) (.cons rfl (.cons rfl (.cons rfl (.cons rfl (.nil _))))) hK
        ·replace hS := ite_false' hS hc118
         refine ke_skip ?_
         have hK := device_Devices_Trust_B1_ok hg hbd ho2 hz hS hb ⟨_, hB3, h2⟩ hB18 hB98 hB115
         exact ke_weaken (l' := [(0, .pointer (some ⟨gd_0, 0, none⟩)), (13, .pointer (some ⟨g14, 0, none⟩)), (14, .pointer (some ⟨g94, 0, none⟩)), (16, .pointer (some ⟨g111, 0, none⟩))]) (.cons rfl (.cons rfl (.cons rfl (.cons rfl (.nil _))))) hK
      ·intro K103
       rcases Bool.eq_false_or_eq_true (!(mhas d_0.records (device_key.mk user_1 id_2))) with hg102 | hg102
       all_goals try have hj105 : Tr ρ95 w100 (fun _ => false) ρ95 w100 := Tr.refl hb.bd
       ·refine sr_evg (b := true) (e := 56) rfl rfl hg102 (v := .pointer (some ⟨gd_0, 0, none⟩)) (ev_move rfl) (by decide) ?_
        refine sr_evg (b := true) (e := 56) rfl rfl hg102 (v := .pointer (some ⟨gd_0, 0, none⟩)) (ev_nilCheck rfl) (by decide) ?_
        refine sr_evg (b := true) (e := 56) rfl rfl hg102 (v := .pointer (some ⟨gd_0, 0, none⟩)) (ev_fieldAddr (i := 0) Tryz.underlying41 rfl Tryz.info39 rfl rfl) (by decide) ?_
        refine sr_evg (b := true) (e := 56) rfl rfl hg102 (v := v1) (ev_load Tryz.isAgg39 rfl (hB3.cell rfl)) (by decide) ?_
        refine sr_evg (b := true) (e := 56) rfl rfl hg102 (v := .int .i64 (mlen d_0.records)) (ev_mapLen h2 Tryz.underlying39 (Mv.of_below (i := 101) (ρ := ρ95) (Below.refl _ _)) rfl) (by decide) ?_
        refine sr_evg (b := true) (e := 56) rfl rfl hg102 (v := .bool (decide ((mlen d_0.records) ≥ 256))) (ev_ge rfl rfl) (by decide) ?_
        refine sr_ev (v := .bool (decide ((mlen d_0.records) ≥ 256))) (ev_pick_t rfl hg102 rfl) (by decide) ?_
        exact sr_weaken (l' := [(0, .pointer (some ⟨gd_0, 0, none⟩)), (3, str secret_3), (4, .int .i64 y4), (13, .pointer (some ⟨g14, 0, none⟩)), (14, .pointer (some ⟨g94, 0, none⟩)), (63, .bool (decide ((mlen d_0.records) ≥ 256)))]) (.cons rfl (.cons rfl (.cons rfl (.cons rfl (.cons rfl (.cons rfl (.nil _))))))) (K103 (decide ((mlen d_0.records) ≥ 256)) _ ⟨by rw [hg102]; rfl, rfl⟩)
       ·refine sr_pass (e := 56) rfl rfl (by rw [hg102]; rfl) (by decide) ?_
        refine sr_pass (e := 56) rfl rfl (by rw [hg102]; rfl) (by decide) ?_
        refine sr_pass (e := 56) rfl rfl (by rw [hg102]; rfl) (by decide) ?_
        refine sr_pass (e := 56) rfl rfl (by rw [hg102]; rfl) (by decide) ?_
        refine sr_pass (e := 56) rfl rfl (by rw [hg102]; rfl) (by decide) ?_
        refine sr_pass (e := 56) rfl rfl (by rw [hg102]; rfl) (by decide) ?_
        refine sr_ev (v := .bool false) (ev_pick_f rfl hg102 rfl) (by decide) ?_
        exact sr_weaken (l' := [(0, .pointer (some ⟨gd_0, 0, none⟩)), (3, str secret_3), (4, .int .i64 y4), (13, .pointer (some ⟨g14, 0, none⟩)), (14, .pointer (some ⟨g94, 0, none⟩)), (63, .bool false)]) (.cons rfl (.cons rfl (.cons rfl (.cons rfl (.cons rfl (.cons rfl (.nil _))))))) (K103 false _ ⟨by rw [hg102]; rfl, rfl⟩)
  ·intro K33
   clear hS
   have hj35 : Tr ρ15 w29 (fun _ => false) ρ15 w29 := (Tr.refl hb.bd).weak (fun _ _ => rfl) rfl rfl
   rcases Bool.eq_false_or_eq_true (!y27) with hg32 | hg32
   ·have hS := ite_true' hz36 hg32
    refine sr_pass (e := 32) rfl rfl (by rw [hg32]; rfl) (by decide) ?_
    refine sr_pass (e := 32) rfl rfl (by rw [hg32]; rfl) (by decide) ?_
    refine sr_pass (e := 32) rfl rfl (by rw [hg32]; rfl) (by decide) ?_
    refine sr_ev (v := .bool true) (ev_pick_t rfl hg32 rfl) (by decide) ?_
    exact sr_weaken (l' := [(0, .pointer (some ⟨gd_0, 0, none⟩)), (3, str secret_3), (4, .int .i64 y4), (5, .int .i64 y9), (13, .pointer (some ⟨g14, 0, none⟩)), (36, .bool true)]) (.cons rfl (.cons rfl (.cons rfl (.cons rfl (.cons rfl (.cons rfl (.nil _))))))) (K33 true _ ⟨(Option.some.inj hS).symm, _, hj35⟩)
   ·have hS := ite_false' hz36 hg32
    refine sr_evg (b := false) (e := 32) rfl rfl hg32 (v := str id_2) (ev_move rfl) (by decide) ?_
    obtain ⟨y40, hy41, hS⟩ := bind_some' hS
    refine sr_callg (b := false) (e := 32) rfl rfl hg32 (vs := [str id_2]) rfl Tryz.call33 rfl (fold_Word_ok _ (hg.fr hz hb) hy41) (by decide) ?_
    rintro _ w42 ⟨rfl, hbw43⟩
    have htr44 := Tr.of_below hbw43 hb.bd
    replace hB18 := hB18.mv (htr44.mv (i := 15) rfl)
    replace hB3 := hB3.mv (htr44.mv (i := 100) rfl)
    replace h2 := h2.mv (htr44.mv (i := 101) rfl)
    replace hb := hb.trans htr44
    replace hj35 := (hj35.trans htr44).weak (J' := (fun _ => false)) (by intro t h; simp [rng] at h ⊢ <;> omega) rfl rfl
    refine sr_evg (b := false) (e := 32) rfl rfl hg32 (v := .bool (!y40)) (ev_not rfl) (by decide) ?_
    refine sr_ev (v := .bool (!y40)) (ev_pick_f rfl hg32 rfl) (by decide) ?_
    exact sr_weaken (l' := [(0, .pointer (some ⟨gd_0, 0, none⟩)), (3, str secret_3), (4, .int .i64 y4), (5, .int .i64 y9), (13, .pointer (some ⟨g14, 0, none⟩)), (36, .bool (!y40))]) (.cons rfl (.cons rfl (.cons rfl (.cons rfl (.cons rfl (.cons rfl (.nil _))))))) (K33 (!y40) _ ⟨(Option.some.inj hS).symm, _, hj35⟩)
theorem digest_Mac_ok (w0 : World) (hg : Gs w0) {key_0 : Str} {s_1 : Str} {r : Str} (hS : digest_Mac key_0 s_1 = some r) :
  Calls Tryz.prog 21 #[str key_0, str s_1] w0 (Ret (fun v w' => v = str r ∧ Below w0.heap.size w0 w')) := by
 unfold digest_Mac at hS
 have hb := Below.refl w0.heap.size w0
 refine calls_of_ke Tryz.func21 rfl (n := 19) rfl rfl (l := [(0, str key_0), (1, str s_1)]) rfl ?_
 refine ke_seq ?_
 refine ke_region ?_
 refine sr_ev (v := str ([])) (ev_assign rfl) (by decide) ?_
 refine sr_end (l' := [(0, str key_0), (1, str s_1)]) (.cons rfl (.cons rfl (.nil _))) ?_
 refine ke_seq ?_
 refine ke_region ?_
 refine sr_ev (v := str key_0) (ev_move rfl) (by decide) ?_
 refine sr_ev (v := .int .i64 (key_0.length : Int)) (ev_slen Tryz.underlying9 rfl) (by decide) ?_
 obtain ⟨y1, hy2, hS⟩ := bind_some' hS
 refine sr_call (vs := [.int .i64 (key_0.length : Int)]) rfl Tryz.call38 rfl (lib_Itoa_ok _ (hg.below hb) hy2) (by decide) ?_
 rintro _ w3 ⟨rfl, hbw4⟩
 replace hb := hb.trans (hbw4.mono hb.size)
 obtain ⟨hk5, hS⟩ := chk_some hS
 refine sr_ev (v := str (y1 ++ ([58]))) (ev_cat rfl rfl hk5) (by decide) ?_
 refine sr_ev (v := str key_0) (ev_move rfl) (by decide) ?_
 obtain ⟨hk6, hS⟩ := chk_some hS
 refine sr_ev (v := str ((y1 ++ ([58])) ++ key_0)) (ev_cat rfl rfl hk6) (by decide) ?_
 refine sr_ev (v := str ((y1 ++ ([58])) ++ key_0)) (ev_assign rfl) (by decide) ?_
 refine sr_end (l' := [(1, str s_1), (5, str ((y1 ++ ([58])) ++ key_0))]) (.cons rfl (.cons rfl (.nil _))) ?_
 refine ke_seq ?_
 refine ke_region ?_
 refine sr_ev (v := str ((y1 ++ ([58])) ++ key_0)) (ev_move rfl) (by decide) ?_
 refine sr_ev (v := str ((y1 ++ ([58])) ++ key_0)) (ev_move rfl) (by decide) ?_
 refine sr_ev (v := str s_1) (ev_move rfl) (by decide) ?_
 obtain ⟨hk7, hS⟩ := chk_some hS
 refine sr_ev (v := str (((y1 ++ ([58])) ++ key_0) ++ s_1)) (ev_cat rfl rfl hk7) (by decide) ?_
 obtain ⟨y8, hy9, hS⟩ := bind_some' hS
 refine sr_call (vs := [str (((y1 ++ ([58])) ++ key_0) ++ s_1)]) rfl Tryz.call35 rfl (digest_Text_ok _ (hg.below hb) hy9) (by decide) ?_
 rintro _ w10 ⟨rfl, hbw11⟩
 replace hb := hb.trans (hbw11.mono hb.size)
 obtain ⟨hk12, hS⟩ := chk_some hS
 refine sr_ev (v := str (((y1 ++ ([58])) ++ key_0) ++ y8)) (ev_cat rfl rfl hk12) (by decide) ?_
 obtain ⟨y13, hy14, hS⟩ := bind_some' hS
 refine sr_call (vs := [str (((y1 ++ ([58])) ++ key_0) ++ y8)]) rfl Tryz.call35 rfl (digest_Text_ok _ (hg.below hb) hy14) (by decide) ?_
 rintro _ w15 ⟨rfl, hbw16⟩
 replace hb := hb.trans (hbw16.mono hb.size)
 refine sr_ev (v := str y13) (ev_assign rfl) (by decide) ?_
 refine sr_end (l' := [(4, str y13)]) (.cons rfl (.nil _)) ?_
 cases hS
 exact ke_ret1 Tryz.func21 rfl rfl ⟨_, rfl, rfl, hb⟩
theorem device_Answer_ok (w0 : World) (hg : Gs w0) {secret_0 : Str} {challenge_1 : Str} {r : Str} (hS : device_Answer secret_0 challenge_1 = some r) :
  Calls Tryz.prog 15 #[str secret_0, str challenge_1] w0 (Ret (fun v w' => v = str r ∧ Below w0.heap.size w0 w')) := by
 unfold device_Answer at hS
 have hb := Below.refl w0.heap.size w0
 refine calls_of_ke Tryz.func15 rfl (n := 8) rfl rfl (l := [(0, str secret_0), (1, str challenge_1)]) rfl ?_
 refine ke_seq ?_
 refine ke_region ?_
 refine sr_ev (v := str ([])) (ev_assign rfl) (by decide) ?_
 refine sr_end (l' := [(0, str secret_0), (1, str challenge_1)]) (.cons rfl (.cons rfl (.nil _))) ?_
 refine ke_seq ?_
 refine ke_region ?_
 refine sr_ev (v := str secret_0) (ev_move rfl) (by decide) ?_
 refine sr_ev (v := str challenge_1) (ev_move rfl) (by decide) ?_
 obtain ⟨y1, hy2, hS⟩ := bind_some' hS
 refine sr_call (vs := [str secret_0, str challenge_1]) rfl Tryz.call21 rfl (digest_Mac_ok _ (hg.below hb) hy2) (by decide) ?_
 rintro _ w3 ⟨rfl, hbw4⟩
 replace hb := hb.trans (hbw4.mono hb.size)
 refine sr_ev (v := str y1) (ev_assign rfl) (by decide) ?_
 refine sr_end (l' := [(4, str y1)]) (.cons rfl (.nil _)) ?_
 cases hS
 exact ke_ret1 Tryz.func15 rfl rfl ⟨_, rfl, rfl, hb⟩
theorem device_Devices_Prove_ok (w0 : World) (hg : Gs w0) {ρA : Tags} (hbd : ∀ b, ρA b ≠ 0 → b < w0.heap.size) (hz : Gz ρA) {o : Nat} (ho2 : 2 ≤ o) {d_0 : device_Devices} {user_1 : Str} {id_2 : Str} {answer_3 : Str} {now_4 : Int} {gd_0 : Nat} {r : Int × device_Devices} (ho0 : device_Devices.O (fun p => o + p) ρA w0 gd_0 d_0) (hS : device_Devices_Prove d_0 user_1 id_2 answer_3 now_4 = some r) :
  Calls Tryz.prog 14 #[.pointer (some ⟨gd_0, 0, none⟩), str user_1, str id_2, str answer_3, .int .i64 now_4] w0 (Ret (fun v w' => ∃ ρ', v = .int .i64 r.1 ∧ device_Devices.O (fun p => o + p) ρ' w' gd_0 r.2 ∧ Tr ρA w0 (rng o 2) ρ' w')) := by
 unfold device_Devices_Prove at hS
 have hb := enter_fr (ρ := ρA) (w := w0) (n := 2) ho2 hbd
 have hz := hz.enter (n := 2) ho2
 obtain ⟨v1, hB3, h2⟩ := ho0
 replace hB3 := hB3.mv (enter_mv (p := 0) (n := 2) (by decide) ho2)
 replace h2 := h2.mv (enter_mv (p := 1) (n := 2) (by decide) ho2)
 replace hB3 : Blk (enter ρA o 2) 100 w0 gd_0 (.cells #[v1, .int .i64 d_0.given] 41 (0, 0)) := hB3
 replace h2 : MapT device_key.ek device_record.c true (enter ρA o 2) 101 w0 v1 d_0.records := h2
 refine calls_of_ke Tryz.func14 rfl (n := 46) rfl rfl (l := [(0, .pointer (some ⟨gd_0, 0, none⟩)), (1, str user_1), (2, str id_2), (3, str answer_3), (4, .int .i64 now_4)]) rfl ?_
 refine ke_seq ?_
 refine ke_region ?_
 refine sr_ev (v := .int .i64 0) (ev_assign rfl) (by decide) ?_
 refine sr_end (l' := [(0, .pointer (some ⟨gd_0, 0, none⟩)), (1, str user_1), (2, str id_2), (3, str answer_3), (4, .int .i64 now_4)]) (.cons rfl (.cons rfl (.cons rfl (.cons rfl (.cons rfl (.nil _)))))) ?_
 refine ke_seq ?_
 refine ke_region ?_
 refine sr_ev (v := .pointer (some ⟨gd_0, 0, none⟩)) (ev_move rfl) (by decide) ?_
 refine sr_ev (v := str user_1) (ev_move rfl) (by decide) ?_
 refine sr_ev (v := str id_2) (ev_move rfl) (by decide) ?_
 refine sr_ev (v := .int .i64 now_4) (ev_move rfl) (by decide) ?_
 obtain ⟨y4, hy5, hS⟩ := bind_some' hS
 refine sr_call (vs := [.pointer (some ⟨gd_0, 0, none⟩), str user_1, str id_2, .int .i64 now_4]) rfl Tryz.call30 rfl (device_Devices_find_ok _ (hg.fr hz hb) (ρA := (enter ρA o 2)) hb.bd (hz.fr hg hb) (τ0 := (fun p => 100 + p)) (fun p => Nat.le_add_right_of_le (by decide)) (⟨_, hB3, h2⟩ : device_Devices.O (fun p => 100 + p) (enter ρA o 2) w0 gd_0 d_0) hy5) (by decide) ?_
 rintro _ w6 ⟨rfl, hbw7⟩
 have htr8 := Tr.of_below hbw7 hb.bd
 replace hB3 := hB3.mv (htr8.mv (i := 100) rfl)
 replace h2 := h2.mv (htr8.mv (i := 101) rfl)
 replace hb := hb.trans htr8
 refine sr_ev (v := .tuple #[.agg #[str y4.1.secret, str y4.1.challenge, .int .i64 y4.1.until_], .int .i64 y4.2]) (ev_move rfl) (by decide) ?_
 refine sr_ev (v := .agg #[str y4.1.secret, str y4.1.challenge, .int .i64 y4.1.until_]) (ev_extract rfl rfl) (by decide) ?_
 refine sr_ev (v := .int .i64 y4.2) (ev_extract rfl rfl) (by decide) ?_
 refine sr_allocT 13 (by decide) hb.bd Tryz.zeroValue57 (by decide) ?_
 intro g9 ρ10 w11 hB13 htr12
 replace hB3 := hB3.mv (htr12.mv (i := 100) rfl)
 replace h2 := h2.mv (htr12.mv (i := 101) rfl)
 replace hb := hb.trans htr12
 replace hB13 : Blk ρ10 13 w11 g9 (.cells #[str ([]), str ([]), .int .i64 0] 57 (0, 0)) := hB13
 refine sr_storeT (v := .agg #[str y4.1.secret, str y4.1.challenge, .int .i64 y4.1.until_]) (vs := [str y4.1.secret, str y4.1.challenge, .int .i64 y4.1.until_]) (cs' := #[str y4.1.secret, str y4.1.challenge, .int .i64 y4.1.until_]) hB13 (by decide) hb.bd rfl rfl rfl Tryz.sizeOf57 rfl rfl rfl ?_
 intro w14 hB131 htr15
 replace hB3 := hB3.mv (htr15.mv (i := 100) rfl)
 replace h2 := h2.mv (htr15.mv (i := 101) rfl)
 replace hb := hb.trans htr15
 replace hB13 : Blk ρ10 13 w14 g9 (.cells #[str y4.1.secret, str y4.1.challenge, .int .i64 y4.1.until_] 57 (0, 0)) := hB131
 clear hB131
 refine sr_ev (v := .int .i64 y4.2) (ev_assign rfl) (by decide) ?_
 refine sr_end (l' := [(0, .pointer (some ⟨gd_0, 0, none⟩)), (1, str user_1), (2, str id_2), (3, str answer_3), (11, .pointer (some ⟨g9, 0, none⟩)), (12, .int .i64 y4.2)]) (.cons rfl (.cons rfl (.cons rfl (.cons rfl (.cons rfl (.cons rfl (.nil _))))))) ?_
 refine ke_seq ?_
 refine ke_seq ?_
 refine ke_region ?_
 refine sr_ev (v := .int .i64 y4.2) (ev_move rfl) (by decide) ?_
 refine sr_ev (v := .bool (y4.2 != 0)) (ev_ne rfl rfl) (by decide) ?_
 refine sr_end (l' := [(0, .pointer (some ⟨gd_0, 0, none⟩)), (1, str user_1), (2, str id_2), (3, str answer_3), (11, .pointer (some ⟨g9, 0, none⟩)), (12, .int .i64 y4.2), (23, .bool (y4.2 != 0))]) (.cons rfl (.cons rfl (.cons rfl (.cons rfl (.cons rfl (.cons rfl (.cons rfl (.nil _)))))))) ?_
 refine ke_cond (t := y4.2 != 0) rfl (fun hc16 => ?_) (fun hc16 => ?_)
 ·replace hS := ite_true' hS hc16
  refine ke_seq ?_
  refine ke_region ?_
  refine sr_ev (v := .int .i64 y4.2) (ev_move rfl) (by decide) ?_
  refine sr_ev (v := .int .i64 y4.2) (ev_assign rfl) (by decide) ?_
  refine sr_end (l' := [(10, .int .i64 y4.2)]) (.cons rfl (.nil _)) ?_
  cases hS
  exact ke_ret1 Tryz.func14 rfl rfl ⟨_, rfl, leave ρA w0 o 2 ρ10, rfl, ⟨_, (hB3.mv (leave_mv (p := 0) (by decide) hb)), (h2.mv (leave_mv (p := 1) (by decide) hb))⟩, (leave_tr ho2 hb)⟩
 ·replace hS := ite_false' hS hc16
  refine ke_skip ?_
  refine ke_seq ?_
  refine ke_seq ?_
  refine ke_region ?_
  refine sr_ev (v := .pointer (some ⟨g9, 1, none⟩)) (ev_fieldAddr (i := 1) Tryz.underlying57 rfl Tryz.info9 rfl rfl) (by decide) ?_
  refine sr_ev (v := str y4.1.challenge) (ev_load Tryz.isAgg9 rfl (hB13.cell rfl)) (by decide) ?_
  refine sr_ev (v := .bool (y4.1.challenge == ([]))) (ev_seq rfl rfl) (by decide) ?_
  refine sr_end (l' := [(0, .pointer (some ⟨gd_0, 0, none⟩)), (1, str user_1), (2, str id_2), (3, str answer_3), (11, .pointer (some ⟨g9, 0, none⟩)), (27, .bool (y4.1.challenge == ([])))]) (.cons rfl (.cons rfl (.cons rfl (.cons rfl (.cons rfl (.cons rfl (.nil _))))))) ?_
  refine ke_cond (t := y4.1.challenge == ([])) rfl (fun hc17 => ?_) (fun hc17 => ?_)
  ·replace hS := ite_true' hS hc17
   refine ke_seq ?_
   refine ke_region ?_
   refine sr_ev (v := .int .i64 12) (ev_assign rfl) (by decide) ?_
   refine sr_end (l' := [(10, .int .i64 12)]) (.cons rfl (.nil _)) ?_
   cases hS
   exact ke_ret1 Tryz.func14 rfl rfl ⟨_, rfl, leave ρA w0 o 2 ρ10, rfl, ⟨_, (hB3.mv (leave_mv (p := 0) (by decide) hb)), (h2.mv (leave_mv (p := 1) (by decide) hb))⟩, (leave_tr ho2 hb)⟩
  ·replace hS := ite_false' hS hc17
   refine ke_skip ?_
   refine ke_seq ?_
   refine ke_region ?_
   refine sr_ev (v := str answer_3) (ev_move rfl) (by decide) ?_
   refine sr_ev (v := .pointer (some ⟨g9, 0, none⟩)) (ev_fieldAddr (i := 0) Tryz.underlying57 rfl Tryz.info9 rfl rfl) (by decide) ?_
   refine sr_ev (v := str y4.1.secret) (ev_load Tryz.isAgg9 rfl (hB13.cell rfl)) (by decide) ?_
   refine sr_ev (v := .pointer (some ⟨g9, 1, none⟩)) (ev_fieldAddr (i := 1) Tryz.underlying57 rfl Tryz.info9 rfl rfl) (by decide) ?_
   refine sr_ev (v := str y4.1.challenge) (ev_load Tryz.isAgg9 rfl (hB13.cell rfl)) (by decide) ?_
   obtain ⟨y18, hy19, hS⟩ := bind_some' hS
   refine sr_call (vs := [str y4.1.secret, str y4.1.challenge]) rfl Tryz.call15 rfl (device_Answer_ok _ (hg.fr hz hb) hy19) (by decide) ?_
   rintro _ w20 ⟨rfl, hbw21⟩
   have htr22 := Tr.of_below hbw21 hb.bd
   replace hB13 := hB13.mv (htr22.mv (i := 13) rfl)
   replace hB3 := hB3.mv (htr22.mv (i := 100) rfl)
   replace h2 := h2.mv (htr22.mv (i := 101) rfl)
   replace hb := hb.trans htr22
   refine sr_ev (v := .bool (answer_3 == y18)) (ev_seq rfl rfl) (by decide) ?_
   refine sr_ev (v := .bool (answer_3 == y18)) (ev_assign rfl) (by decide) ?_
   refine sr_end (l' := [(0, .pointer (some ⟨gd_0, 0, none⟩)), (1, str user_1), (2, str id_2), (11, .pointer (some ⟨g9, 0, none⟩)), (13, .bool (answer_3 == y18))]) (.cons rfl (.cons rfl (.cons rfl (.cons rfl (.cons rfl (.nil _)))))) ?_
   refine ke_seq ?_
   refine ke_region ?_
   refine sr_ev (v := .pointer (some ⟨g9, 1, none⟩)) (ev_fieldAddr (i := 1) Tryz.underlying57 rfl Tryz.info9 rfl rfl) (by decide) ?_
   refine sr_storeT (v := str ([])) (vs := [str ([])]) (cs' := #[str y4.1.secret, str ([]), .int .i64 y4.1.until_]) hB13 (by decide) hb.bd rfl rfl rfl Tryz.sizeOf9 rfl rfl rfl ?_
   intro w23 hB131 htr24
   replace hB3 := hB3.mv (htr24.mv (i := 100) rfl)
   replace h2 := h2.mv (htr24.mv (i := 101) rfl)
   replace hb := hb.trans htr24
   replace hB13 : Blk ρ10 13 w23 g9 (.cells #[str y4.1.secret, str ([]), .int .i64 y4.1.until_] 57 (0, 0)) := hB131
   clear hB131
   refine sr_end (l' := [(0, .pointer (some ⟨gd_0, 0, none⟩)), (1, str user_1), (2, str id_2), (11, .pointer (some ⟨g9, 0, none⟩)), (13, .bool (answer_3 == y18))]) (.cons rfl (.cons rfl (.cons rfl (.cons rfl (.cons rfl (.nil _)))))) ?_
   refine ke_seq ?_
   refine ke_region_j (ρ := ρ10) (fun t => ([101] : List Nat).contains t) 9 Tryz.mixed (fun w26 hw25 => ?_)
   have htr27 := Tr.of_below hw25 hb.bd
   replace hB13 := hB13.mv (htr27.mv (i := 13) rfl)
   replace hB3 := hB3.mv (htr27.mv (i := 100) rfl)
   replace h2 := h2.mv (htr27.mv (i := 101) rfl)
   replace hb := hb.trans htr27
   refine dj_H 0 (v := .pointer (some ⟨gd_0, 0, none⟩)) (by kernel_rfl) (by kernel_rfl) rfl (fun _ _ _ h => h) (sj_refl hb.bd rfl rfl) (fun w1 ρ1 hw1 => ev_move rfl) (by decide) ?_
   refine dj_H 1 (v := .pointer (some ⟨gd_0, 0, none⟩)) (by kernel_rfl) (by kernel_rfl) rfl (fun _ _ _ h => h) (sj_refl hb.bd rfl rfl) (fun w1 ρ1 hw1 => ev_nilCheck rfl) (by decide) ?_
   refine dj_H 2 (v := .pointer (some ⟨gd_0, 0, none⟩)) (by kernel_rfl) (by kernel_rfl) rfl (fun _ _ _ h => h) (sj_refl hb.bd rfl rfl) (fun w1 ρ1 hw1 => ev_fieldAddr (i := 0) Tryz.underlying41 rfl Tryz.info39 rfl rfl) (by decide) ?_
   refine dj_H 3 (v := v1) (by kernel_rfl) (by kernel_rfl) rfl (fun _ _ _ h => h) (sj_refl hb.bd rfl rfl) (fun w1 ρ1 hw1 => ev_load Tryz.isAgg39 rfl ((hB3.mv (hw1.mv (i := 100) rfl)).cell rfl)) (by decide) ?_
   refine dj_H 4 (v := str user_1) (by kernel_rfl) (by kernel_rfl) rfl (fun _ _ _ h => h) (sj_refl hb.bd rfl rfl) (fun w1 ρ1 hw1 => ev_move rfl) (by decide) ?_
   refine dj_H 5 (v := str id_2) (by kernel_rfl) (by kernel_rfl) rfl (fun _ _ _ h => h) (sj_refl hb.bd rfl rfl) (fun w1 ρ1 hw1 => ev_move rfl) (by decide) ?_
   refine dj_H 6 (v := .agg #[str user_1, str id_2]) (by kernel_rfl) (by kernel_rfl) rfl (fun _ _ _ h => h) (sj_refl hb.bd rfl rfl) (fun w1 ρ1 hw1 => ev_build (vs := #[(0, str user_1), (1, str id_2)]) rfl (fun _ => by kernel_rfl)) (by decide) ?_
   refine dj_H 7 (v := .agg #[str y4.1.secret, str ([]), .int .i64 y4.1.until_]) (by kernel_rfl) (by kernel_rfl) rfl (fun _ _ _ h => h) (sj_refl hb.bd rfl rfl) (fun w1 ρ1 hw1 => ev_loads (cs := [str y4.1.secret, str ([]), .int .i64 y4.1.until_]) Tryz.isAgg57 Tryz.sizeOf57 rfl ((hB13.mv (hw1.mv (i := 13) rfl)).cells (vs := [str y4.1.secret, str ([]), .int .i64 y4.1.until_]) rfl)) (by decide) ?_
   refine dj_E 8 (by kernel_rfl) rfl ?_
   have jt37 : Tr ρ10 w26 (fun t => ([101] : List Nat).contains t) ρ10 w26 := (Tr.refl hb.bd).weak (fun _ _ => rfl) rfl rfl
   obtain ⟨hk38, hS⟩ := chk_some hS
   refine sr_mapPut (k := (device_key.mk user_1 id_2)) (d := (device_record.mk y4.1.secret ([]) y4.1.until_)) (u := .agg #[str y4.1.secret, str ([]), .int .i64 y4.1.until_]) (cs := [str y4.1.secret, str ([]), .int .i64 y4.1.until_]) h2 hk38 Tryz.keyB61 Tryz.underlying39 (by decide) hb.bd rfl rfl rfl rfl rfl ?_
   intro w39 h21 htr40
   replace hB3 := hB3.mv (htr40.mv (i := 100) rfl)
   replace hb := hb.trans htr40
   replace jt37 := (jt37.trans htr40).weak (J' := (fun t => ([101] : List Nat).contains t)) (by intro t h; simp [rng] at h ⊢ <;> omega) rfl rfl
   replace h2 := h21
   clear h21
   refine dj_next (l' := [(13, .bool (answer_3 == y18))]) rfl (.cons rfl (.nil _)) jt37 (by intro t h; simp [rng] at h ⊢ <;> omega) rfl rfl ?_
   refine dj_done rfl (by kernel_rfl) ?_
   refine ke_weaken (l' := [(13, .bool (answer_3 == y18))]) (.cons rfl (.nil _)) ?_
   refine ke_seq ?_
   refine ke_seq ?_
   refine ke_region ?_
   refine sr_ev (v := .bool (answer_3 == y18)) (ev_move rfl) (by decide) ?_
   refine sr_ev (v := .bool (!(answer_3 == y18))) (ev_not rfl) (by decide) ?_
   refine sr_end (l' := [(45, .bool (!(answer_3 == y18)))]) (.cons rfl (.nil _)) ?_
   refine ke_cond (t := !(answer_3 == y18)) rfl (fun hc41 => ?_) (fun hc41 => ?_)
   ·replace hS := ite_true' hS hc41
    refine ke_seq ?_
    refine ke_region ?_
    refine sr_ev (v := .int .i64 11) (ev_assign rfl) (by decide) ?_
    refine sr_end (l' := [(10, .int .i64 11)]) (.cons rfl (.nil _)) ?_
    cases hS
    exact ke_ret1 Tryz.func14 rfl rfl ⟨_, rfl, leave ρA w0 o 2 ρ10, rfl, ⟨_, (hB3.mv (leave_mv (p := 0) (by decide) hb)), (h2.mv (leave_mv (p := 1) (by decide) hb))⟩, (leave_tr ho2 hb)⟩
   ·replace hS := ite_false' hS hc41
    refine ke_skip ?_
    refine ke_seq ?_
    refine ke_region ?_
    refine sr_ev (v := .int .i64 0) (ev_assign rfl) (by decide) ?_
    refine sr_end (l' := [(10, .int .i64 0)]) (.cons rfl (.nil _)) ?_
    cases hS
    exact ke_ret1 Tryz.func14 rfl rfl ⟨_, rfl, leave ρA w0 o 2 ρ10, rfl, ⟨_, (hB3.mv (leave_mv (p := 0) (by decide) hb)), (h2.mv (leave_mv (p := 1) (by decide) hb))⟩, (leave_tr ho2 hb)⟩
theorem device_Devices_Trusted_ok (w0 : World) (hg : Gs w0) {ρA : Tags} (hbd : ∀ b, ρA b ≠ 0 → b < w0.heap.size) (hz : Gz ρA) {τ0 : Nat → Nat} (hτ0 : ∀ p, 1 ≤ τ0 p) {d_0 : device_Devices} {user_1 : Str} {id_2 : Str} {now_3 : Int} {gd_0 : Nat} {r : Bool} (ho0 : device_Devices.O τ0 ρA w0 gd_0 d_0) (hS : device_Devices_Trusted d_0 user_1 id_2 now_3 = some r) :
  Calls Tryz.prog 17 #[.pointer (some ⟨gd_0, 0, none⟩), str user_1, str id_2, .int .i64 now_3] w0 (Ret (fun v w' => v = .bool r ∧ Below w0.heap.size w0 w')) := by
 unfold device_Devices_Trusted at hS
 have hb := flat1_fr (ρ := ρA) (w := w0) hbd
 have hz := hz.flat1
 obtain ⟨v1, hB3, h2⟩ := ho0
 replace hB3 := hB3.mv (flat1_mv (hτ0 0))
 replace h2 := h2.mv (flat1_mv (hτ0 1))
 replace hB3 : Blk (flat1 ρA) 1 w0 gd_0 (.cells #[v1, .int .i64 d_0.given] 41 (0, 0)) := hB3
 replace h2 : MapT device_key.ek device_record.c true (flat1 ρA) 1 w0 v1 d_0.records := h2
 refine calls_of_ke Tryz.func17 rfl (n := 33) rfl rfl (l := [(0, .pointer (some ⟨gd_0, 0, none⟩)), (1, str user_1), (2, str id_2), (3, .int .i64 now_3)]) rfl ?_
 refine ke_seq ?_
 refine ke_region ?_
 refine sr_ev (v := .bool false) (ev_assign rfl) (by decide) ?_
 refine sr_end (l' := [(0, .pointer (some ⟨gd_0, 0, none⟩)), (1, str user_1), (2, str id_2), (3, .int .i64 now_3)]) (.cons rfl (.cons rfl (.cons rfl (.cons rfl (.nil _))))) ?_
 refine ke_seq ?_
 refine ke_seq ?_
 refine ke_region ?_
 refine sr_ev (v := .pointer (some ⟨gd_0, 0, none⟩)) (ev_move rfl) (by decide) ?_
 obtain ⟨y4, hy5, hS⟩ := bind_some' hS
 refine sr_call (vs := [.pointer (some ⟨gd_0, 0, none⟩)]) rfl Tryz.call32 rfl (device_Devices_made_ok _ (hg.fr hz hb) (ρA := (flat1 ρA)) hb.bd (hz.fr hg hb) (τ0 := (fun _ => 1)) (fun _ => Nat.le_refl 1) (⟨_, hB3, h2⟩ : device_Devices.O (fun _ => 1) (flat1 ρA) w0 gd_0 d_0) hy5) (by decide) ?_
 rintro _ w6 ⟨rfl, hbw7⟩
 have htr8 := Tr.of_below hbw7 hb.bd
 replace hB3 := hB3.mv (htr8.mv (i := 1) rfl)
 replace h2 := h2.mv (htr8.mv (i := 1) rfl)
 replace hb := hb.trans htr8
 refine sr_ev (v := .bool (!y4)) (ev_not rfl) (by decide) ?_
 refine sr_end (l' := [(0, .pointer (some ⟨gd_0, 0, none⟩)), (1, str user_1), (2, str id_2), (3, .int .i64 now_3), (13, .bool (!y4))]) (.cons rfl (.cons rfl (.cons rfl (.cons rfl (.cons rfl (.nil _)))))) ?_
 refine ke_cond (t := !y4) rfl (fun hc9 => ?_) (fun hc9 => ?_)
 ·replace hS := ite_true' hS hc9
  refine ke_seq ?_
  refine ke_region ?_
  refine sr_ev (v := .bool false) (ev_assign rfl) (by decide) ?_
  refine sr_end (l' := [(8, .bool false)]) (.cons rfl (.nil _)) ?_
  cases hS
  exact ke_ret1 Tryz.func17 rfl rfl ⟨_, rfl, rfl, (hb.below (flat1_le _))⟩
 ·replace hS := ite_false' hS hc9
  refine ke_skip ?_
  refine ke_seq ?_
  refine ke_region ?_
  refine sr_ev (v := .pointer (some ⟨gd_0, 0, none⟩)) (ev_move rfl) (by decide) ?_
  refine sr_ev (v := .pointer (some ⟨gd_0, 0, none⟩)) (ev_nilCheck rfl) (by decide) ?_
  refine sr_ev (v := .pointer (some ⟨gd_0, 0, none⟩)) (ev_fieldAddr (i := 0) Tryz.underlying41 rfl Tryz.info39 rfl rfl) (by decide) ?_
  refine sr_ev (v := v1) (ev_load Tryz.isAgg39 rfl (hB3.cell rfl)) (by decide) ?_
  refine sr_ev (v := str user_1) (ev_move rfl) (by decide) ?_
  refine sr_ev (v := str id_2) (ev_move rfl) (by decide) ?_
  refine sr_ev (v := .agg #[str user_1, str id_2]) (ev_build (vs := #[(0, str user_1), (1, str id_2)]) rfl (fun _ => by kernel_rfl)) (by decide) ?_
  obtain ⟨y14, hy15, hS⟩ := bind_some' hS
  replace hy15 := Option.some.inj hy15
  obtain ⟨cs10, hrd11, hl12, hl13⟩ := h2.look (zcs := [str ([]), str ([]), .int .i64 0]) (z := (device_record.mk ([]) ([]) 0)) Tryz.keyB61 Tryz.underlying39 Tryz.zeroValue57 rfl (device_key.mk user_1 id_2)
  rw [hy15] at hrd11
  obtain rfl : cs10 = [str y14.secret, str y14.challenge, .int .i64 y14.until_] := hrd11
  refine sr_ev (v := .tuple #[.agg #[str y14.secret, str y14.challenge, .int .i64 y14.until_], .bool (mhas d_0.records (device_key.mk user_1 id_2))]) (hl13 w6 _ _ (Mv.of_below (i := 1) (ρ := (flat1 ρA)) (Below.refl _ _)) rfl rfl) (by decide) ?_
  refine sr_ev (v := .tuple #[.agg #[str y14.secret, str y14.challenge, .int .i64 y14.until_], .bool (mhas d_0.records (device_key.mk user_1 id_2))]) (ev_move rfl) (by decide) ?_
  refine sr_ev (v := .agg #[str y14.secret, str y14.challenge, .int .i64 y14.until_]) (ev_extract rfl rfl) (by decide) ?_
  refine sr_ev (v := .bool (mhas d_0.records (device_key.mk user_1 id_2))) (ev_extract rfl rfl) (by decide) ?_
  refine sr_allocT 11 (by decide) hb.bd Tryz.zeroValue57 (by decide) ?_
  intro g16 ρ17 w18 hB20 htr19
  replace hb := hb.trans htr19
  replace hB20 : Blk ρ17 11 w18 g16 (.cells #[str ([]), str ([]), .int .i64 0] 57 (0, 0)) := hB20
  refine sr_storeT (v := .agg #[str y14.secret, str y14.challenge, .int .i64 y14.until_]) (vs := [str y14.secret, str y14.challenge, .int .i64 y14.until_]) (cs' := #[str y14.secret, str y14.challenge, .int .i64 y14.until_]) hB20 (by decide) hb.bd rfl rfl rfl Tryz.sizeOf57 rfl rfl rfl ?_
  intro w21 hB201 htr22
  replace hb := hb.trans htr22
  replace hB20 : Blk ρ17 11 w21 g16 (.cells #[str y14.secret, str y14.challenge, .int .i64 y14.until_] 57 (0, 0)) := hB201
  clear hB201
  refine sr_ev (v := .bool (mhas d_0.records (device_key.mk user_1 id_2))) (ev_assign rfl) (by decide) ?_
  refine sr_end (l' := [(3, .int .i64 now_3), (9, .pointer (some ⟨g16, 0, none⟩)), (10, .bool (mhas d_0.records (device_key.mk user_1 id_2)))]) (.cons rfl (.cons rfl (.cons rfl (.nil _)))) ?_
  refine ke_seq ?_
  refine ke_region_q Tryz.mixed (by kernel_rfl) ?_
  refine sq_ev (v := .bool (mhas d_0.records (device_key.mk user_1 id_2))) (fun w1 hw1 => ev_move rfl) (by decide) ?_
  refine sq_ev (v := .bool (mhas d_0.records (device_key.mk user_1 id_2))) (fun w1 hw1 => ev_move rfl) (by decide) ?_
  obtain ⟨z27, hz29, hS⟩ := bind_some' hS
  refine sq_join (m := 6) (C := fun (x : Bool) => z27 = x) (l' := fun x => [(32, .bool x)]) ?_ ?_
  ·rintro _ rfl
   refine sq_ev (v := .bool z27) (fun w1 hw1 => ev_assign rfl) (by decide) ?_
   refine sq_end (l' := [(8, .bool z27)]) (.cons rfl (.nil _)) (fun w24 hw23 => ?_)
   have htr37 := Tr.of_below hw23 hb.bd
   replace hb := hb.trans htr37
   cases hS
   exact ke_ret1 Tryz.func17 rfl rfl ⟨_, rfl, rfl, (hb.below (flat1_le _))⟩
  ·intro K26
   clear hS
   rcases Bool.eq_false_or_eq_true (mhas d_0.records (device_key.mk user_1 id_2)) with hg25 | hg25
   ·have hS := ite_true' hz29 hg25
    refine sq_evg (b := true) (e := 26) rfl rfl hg25 (v := .int .i64 now_3) (fun w1 hw1 => ev_move rfl) (by decide) ?_
    obtain ⟨y32, hy33, hS⟩ := bind_some' hS
    refine sq_callg (b := true) (e := 26) rfl rfl hg25 (v := .int .i64 y32) (vs := [.int .i64 now_3]) rfl Tryz.call31 rfl (fun w1 hw1 => (device_limited_ok _ ((hg.fr hz hb).below hw1) hy33)) (by decide) ?_
    refine sq_evg (b := true) (e := 26) rfl rfl hg25 (v := .pointer (some ⟨g16, 2, none⟩)) (fun w1 hw1 => ev_fieldAddr (i := 2) Tryz.underlying57 rfl Tryz.info3 rfl rfl) (by decide) ?_
    refine sq_evg (b := true) (e := 26) rfl rfl hg25 (v := .int .i64 y14.until_) (fun w1 hw1 => ev_load Tryz.isAgg3 rfl ((hB20.mv (Mv.of_below (i := 11) (ρ := ρ17) hw1)).cell rfl)) (by decide) ?_
    refine sq_evg (b := true) (e := 26) rfl rfl hg25 (v := .bool (decide (y32 < y14.until_))) (fun w1 hw1 => ev_lt rfl rfl) (by decide) ?_
    refine sq_ev (v := .bool (decide (y32 < y14.until_))) (fun w1 hw1 => ev_pick_t rfl hg25 rfl) (by decide) ?_
    exact sq_weaken (l' := [(32, .bool (decide (y32 < y14.until_)))]) (.cons rfl (.nil _)) (K26 (decide (y32 < y14.until_)) (Option.some.inj hS).symm)
   ·have hS := ite_false' hz29 hg25
    refine sq_pass (e := 26) rfl rfl (by rw [hg25]; rfl) (by decide) ?_
    refine sq_pass (e := 26) rfl rfl (by rw [hg25]; rfl) (by decide) ?_
    refine sq_pass (e := 26) rfl rfl (by rw [hg25]; rfl) (by decide) ?_
    refine sq_pass (e := 26) rfl rfl (by rw [hg25]; rfl) (by decide) ?_
    refine sq_pass (e := 26) rfl rfl (by rw [hg25]; rfl) (by decide) ?_
    refine sq_ev (v := .bool false) (fun w1 hw1 => ev_pick_f rfl hg25 rfl) (by decide) ?_
    exact sq_weaken (l' := [(32, .bool false)]) (.cons rfl (.nil _)) (K26 false (Option.some.inj hS).symm)
theorem device_Devices_List_B2_ok {w0 : World} (hg : Gs w0) {ρA : Tags} (hbd : ∀ b, ρA b ≠ 0 → b < w0.heap.size) (hz : Gz (flat1 ρA)) (r0 : device_Devices → Str → Int → List Str → List device_key → Option (List Str))
  (hr0 : ∀ {r : List Str} {od_0 : device_Devices} {user_1 : Str} {now_2 : Int} {out_7 : List Str} {t_16 : List device_key} {gd_0 : Nat} {v17 : Value} {vout_7 : Value} {rt_16 : Nat}, r0 od_0 user_1 now_2 out_7 t_16 = some r → ∀ {ρ : Tags} {w : World}, (Fr (flat1 ρA) w0 ρ w) → (Blk ρ 1 w gd_0 (.cells #[v17, .int .i64 od_0.given] 41 (0, 0))) → (MapT device_key.ek device_record.c true ρ 1 w v17 od_0.records) → (OwnT strC 9 ρ 9 w vout_7 out_7) → (IterT device_key.ek device_record.c true ρ 1 18 w rt_16 v17 od_0.records t_16) → KE Tryz.prog 18 (Ret (fun v w' => ∃ x1, v = x1 ∧ SlR strC (Wb ρA) w' x1 r ∧ Below w0.heap.size w0 w')) 41 [.inLoop (sub (bodyOf Tryz.f18) [2, 2, 2, 1, 2, 2, 1]), .inBlock 0, .code (sub (bodyOf Tryz.f18) [2, 2, 2, 2])] [(0, .pointer (some ⟨gd_0, 0, none⟩)), (1, str user_1), (2, .int .i64 now_2), (7, vout_7), (16, .pointer (some ⟨rt_16, 0, none⟩))] w) {r : List Str} {od_0 : device_Devices} {user_1 : Str} {now_2 : Int} {out_7 : List Str} {t_16 : List device_key} {gd_0 : Nat} {v60 : Value} {vout_7 : Value} {rt_16 : Nat} (hS : device_Devices_List_B2 r0 od_0 user_1 now_2 out_7 t_16 = some r) {ρ : Tags} {w : World} (hb : Fr (flat1 ρA) w0 ρ w) (hBd_0 : Blk ρ 1 w gd_0 (.cells #[v60, .int .i64 od_0.given] 41 (0, 0))) (h61 : MapT device_key.ek device_record.c true ρ 1 w v60 od_0.records) (hout_7 : OwnT strC 9 ρ 9 w vout_7 out_7) (ht_16 : IterT device_key.ek device_record.c true ρ 1 18 w rt_16 v60 od_0.records t_16) :
  KE Tryz.prog 18 (Ret (fun v w' => ∃ x1, v = x1 ∧ SlR strC (Wb ρA) w' x1 r ∧ Below w0.heap.size w0 w')) 41 [.inBlock 1, .inLoop (sub (bodyOf Tryz.f18) [2, 2, 2, 1, 2, 2, 1]), .inBlock 0, .code (sub (bodyOf Tryz.f18) [2, 2, 2, 2])] [(0, .pointer (some ⟨gd_0, 0, none⟩)), (1, str user_1), (2, .int .i64 now_2), (7, vout_7), (16, .pointer (some ⟨rt_16, 0, none⟩))] w := by
 unfold device_Devices_List_B2 at hS
 refine ke_inBlock ?_
 have hK := hr0 hS hb hBd_0 h61 hout_7 ht_16
 exact ke_weaken (l' := [(0, .pointer (some ⟨gd_0, 0, none⟩)), (1, str user_1), (2, .int .i64 now_2), (7, vout_7), (16, .pointer (some ⟨rt_16, 0, none⟩))]) (.cons rfl (.cons rfl (.cons rfl (.cons rfl (.cons rfl (.nil _)))))) hK
theorem device_Devices_List_L1_ok {w0 : World} (hg : Gs w0) {ρA : Tags} (hbd : ∀ b, ρA b ≠ 0 → b < w0.heap.size) (hz : Gz (flat1 ρA)) : ∀ (n : Nat), ∀ {r : List Str} {od_0 : device_Devices} {user_1 : Str} {now_2 : Int} {out_7 : List Str} {t_16 : List device_key} {gd_0 : Nat} {v17 : Value} {vout_7 : Value} {rt_16 : Nat}, device_Devices_List_L1 n od_0 user_1 now_2 out_7 t_16 = some r → ∀ {ρ : Tags} {w : World}, (Fr (flat1 ρA) w0 ρ w) → (Blk ρ 1 w gd_0 (.cells #[v17, .int .i64 od_0.given] 41 (0, 0))) → (MapT device_key.ek device_record.c true ρ 1 w v17 od_0.records) → (OwnT strC 9 ρ 9 w vout_7 out_7) → (IterT device_key.ek device_record.c true ρ 1 18 w rt_16 v17 od_0.records t_16) → KE Tryz.prog 18 (Ret (fun v w' => ∃ x1, v = x1 ∧ SlR strC (Wb ρA) w' x1 r ∧ Below w0.heap.size w0 w')) 41 [.code (sub (bodyOf Tryz.f18) [2, 2, 2, 1, 2, 2, 1]), .inLoop (sub (bodyOf Tryz.f18) [2, 2, 2, 1, 2, 2, 1]), .inBlock 0, .code (sub (bodyOf Tryz.f18) [2, 2, 2, 2])] [(0, .pointer (some ⟨gd_0, 0, none⟩)), (1, str user_1), (2, .int .i64 now_2), (7, vout_7), (16, .pointer (some ⟨rt_16, 0, none⟩))] w := by
 intro n
 induction n with
 | zero => intro r od_0 user_1 now_2 out_7 t_16 gd_0 v17 vout_7 rt_16 hS; cases hS
 | succ n ih =>
  have hr0 : ∀ {r : List Str} {od_0 : device_Devices} {user_1 : Str} {now_2 : Int} {out_7 : List Str} {t_16 : List device_key} {gd_0 : Nat} {v17 : Value} {vout_7 : Value} {rt_16 : Nat}, device_Devices_List_L1 n od_0 user_1 now_2 out_7 t_16 = some r → ∀ {ρ : Tags} {w : World}, (Fr (flat1 ρA) w0 ρ w) → (Blk ρ 1 w gd_0 (.cells #[v17, .int .i64 od_0.given] 41 (0, 0))) → (MapT device_key.ek device_record.c true ρ 1 w v17 od_0.records) → (OwnT strC 9 ρ 9 w vout_7 out_7) → (IterT device_key.ek device_record.c true ρ 1 18 w rt_16 v17 od_0.records t_16) → KE Tryz.prog 18 (Ret (fun v w' => ∃ x1, v = x1 ∧ SlR strC (Wb ρA) w' x1 r ∧ Below w0.heap.size w0 w')) 41 [.inLoop (sub (bodyOf Tryz.f18) [2, 2, 2, 1, 2, 2, 1]), .inBlock 0, .code (sub (bodyOf Tryz.f18) [2, 2, 2, 2])] [(0, .pointer (some ⟨gd_0, 0, none⟩)), (1, str user_1), (2, .int .i64 now_2), (7, vout_7), (16, .pointer (some ⟨rt_16, 0, none⟩))] w := fun {r} {od_0} {user_1} {now_2} {out_7} {t_16} {gd_0} {v17} {vout_7} {rt_16} hS {ρ} {w} hb hBd_0 h18 hout_7 ht_16 => ke_inLoop (ih hS hb hBd_0 h18 hout_7 ht_16)
  clear ih
  intro r od_0 user_1 now_2 out_7 t_16 gd_0 v17 vout_7 rt_16 hS ρ w hb hBd_0 h18 hout_7 ht_16
  unfold device_Devices_List_L1 at hS
  refine ke_seq ?_
  refine ke_region ?_
  refine sr_nextM ht_16 rfl (by decide) hb.bd hS rfl (by decide) (fun hS => ?_) (fun e22 cs23 w24 hS hrd26 ht_161 htr25 hent27 => ?_)
  ·refine sr_ev (v := .bool false) (ev_extract rfl rfl) (by decide) ?_
   refine sr_end (l' := [(0, .pointer (some ⟨gd_0, 0, none⟩)), (1, str user_1), (2, .int .i64 now_2), (7, vout_7), (16, .pointer (some ⟨rt_16, 0, none⟩)), (18, .bool false)]) (.cons rfl (.cons rfl (.cons rfl (.cons rfl (.cons rfl (.cons rfl (.nil _))))))) ?_
   refine ke_seq ?_
   refine ke_cond (t := false) rfl (fun h => by cases h) (fun _ => ?_)
   refine ke_exit (k' := _) rfl ?_
   refine ke_seq ?_
   refine ke_region ?_
   refine sr_ev (v := vout_7) (ev_move rfl) (by decide) ?_
   obtain ⟨y65, hy66, hS⟩ := bind_some' hS
   refine sr_call (vs := [vout_7]) rfl Tryz.call37 rfl (lib_Sort_ok (E := 9) (A := Wb ρ) (B := 0) hout_7.own (Nat.zero_le _) hy66) (by decide) ?_
   rintro _ w68 ⟨rfl, hso70⟩
   obtain ⟨h67, htr69⟩ := sortT hout_7.tag (by decide) hb.bd hso70
   replace hb := hb.trans htr69
   refine sr_end (l' := [(7, vout_7)]) (.cons rfl (.nil _)) ?_
   refine ke_seq ?_
   refine ke_region ?_
   refine sr_ev (v := vout_7) (ev_move rfl) (by decide) ?_
   refine sr_ev (v := vout_7) (ev_assign rfl) (by decide) ?_
   refine sr_end (l' := [(6, vout_7)]) (.cons rfl (.nil _)) ?_
   have htr71 := frz_tr (ρ := ρ) (w := w68) (i := 9) (by decide) hb.bd
   have h72 : SlR strC (Wb (frz ρ 9)) w68 vout_7 y65 := (SlT.mv h67.sl (frz_mv (ρ := ρ) (w := w68) (i := 9))).sl
   replace hb := hb.trans htr71
   cases hS
   exact ke_ret1 Tryz.func18 rfl rfl ⟨_, rfl, _, rfl, (SlR.mv h72 (flat1_back hb hbd)), (hb.below (flat1_le _))⟩
  ·skip
   replace hout_7 := hout_7.mv (htr25.mv (i := 9) rfl) (by decide)
   replace h18 := h18.mv (htr25.mv (i := 1) rfl)
   replace hBd_0 := hBd_0.mv (htr25.mv (i := 1) rfl)
   replace hb := hb.trans htr25
   replace ht_16 := ht_161
   clear ht_161
   obtain rfl : cs23 = [str e22.2.secret, str e22.2.challenge, .int .i64 e22.2.until_] := hrd26
   refine sr_ev (v := .bool true) (ev_extract rfl rfl) (by decide) ?_
   refine sr_end (l' := [(0, .pointer (some ⟨gd_0, 0, none⟩)), (1, str user_1), (2, .int .i64 now_2), (7, vout_7), (16, .pointer (some ⟨rt_16, 0, none⟩)), (18, .bool true)]) (.cons rfl (.cons rfl (.cons rfl (.cons rfl (.cons rfl (.cons rfl (.nil _))))))) ?_
   refine ke_seq ?_
   refine ke_cond (t := true) rfl (fun _ => ?_) (fun h => by cases h)
   refine ke_skip ?_
   refine ke_block ?_
   refine ke_seq ?_
   refine ke_region ?_
   refine sr_ev (v := .tuple #[.agg #[str e22.1.user, str e22.1.id], .agg #[str e22.2.secret, str e22.2.challenge, .int .i64 e22.2.until_]]) (hent27 rfl) (by decide) ?_
   refine sr_ev (v := .agg #[str e22.1.user, str e22.1.id]) (ev_extract rfl rfl) (by decide) ?_
   refine sr_allocT 10 (by decide) hb.bd Tryz.zeroValue61 (by decide) ?_
   intro g28 ρ29 w30 hB32 htr31
   replace hout_7 := hout_7.mv (htr31.mv (i := 9) rfl) (by decide)
   replace ht_16 := ht_16.mv (htr31.mv (i := 1) rfl) (htr31.mv (i := 18) rfl)
   replace h18 := h18.mv (htr31.mv (i := 1) rfl)
   replace hBd_0 := hBd_0.mv (htr31.mv (i := 1) rfl)
   replace hb := hb.trans htr31
   replace hB32 : Blk ρ29 10 w30 g28 (.cells #[str ([]), str ([])] 61 (0, 0)) := hB32
   refine sr_storeT (v := .agg #[str e22.1.user, str e22.1.id]) (vs := [str e22.1.user, str e22.1.id]) (cs' := #[str e22.1.user, str e22.1.id]) hB32 (by decide) hb.bd rfl rfl rfl Tryz.sizeOf61 rfl rfl rfl ?_
   intro w33 hB321 htr34
   replace hout_7 := hout_7.mv (htr34.mv (i := 9) rfl) (by decide)
   replace ht_16 := ht_16.mv (htr34.mv (i := 1) rfl) (htr34.mv (i := 18) rfl)
   replace h18 := h18.mv (htr34.mv (i := 1) rfl)
   replace hBd_0 := hBd_0.mv (htr34.mv (i := 1) rfl)
   replace hb := hb.trans htr34
   replace hB32 : Blk ρ29 10 w33 g28 (.cells #[str e22.1.user, str e22.1.id] 61 (0, 0)) := hB321
   clear hB321
   refine sr_end (l' := [(0, .pointer (some ⟨gd_0, 0, none⟩)), (1, str user_1), (2, .int .i64 now_2), (7, vout_7), (8, .pointer (some ⟨g28, 0, none⟩)), (16, .pointer (some ⟨rt_16, 0, none⟩))]) (.cons rfl (.cons rfl (.cons rfl (.cons rfl (.cons rfl (.cons rfl (.nil _))))))) ?_
   refine ke_seq ?_
   refine ke_region ?_
   refine sr_ev (v := .pointer (some ⟨g28, 0, none⟩)) (ev_fieldAddr (i := 0) Tryz.underlying61 rfl Tryz.info9 rfl rfl) (by decide) ?_
   refine sr_ev (v := str e22.1.user) (ev_load Tryz.isAgg9 rfl (hB32.cell rfl)) (by decide) ?_
   refine sr_ev (v := str user_1) (ev_move rfl) (by decide) ?_
   refine sr_ev (v := .bool (e22.1.user == user_1)) (ev_seq rfl rfl) (by decide) ?_
   refine sr_ev (v := .bool (e22.1.user == user_1)) (ev_move rfl) (by decide) ?_
   obtain ⟨z37, hz39, hS⟩ := bind_some' hS
   refine sr_join (m := 7) (C := fun (z : Bool) w1 => z37 = z ∧ ∃ ρ1, Tr ρ29 w33 (fun _ => false) ρ1 w1) (l' := fun z => [(0, .pointer (some ⟨gd_0, 0, none⟩)), (1, str user_1), (2, .int .i64 now_2), (7, vout_7), (8, .pointer (some ⟨g28, 0, none⟩)), (16, .pointer (some ⟨rt_16, 0, none⟩)), (32, .bool z)]) ?_ ?_
   ·rintro _ w40 ⟨rfl, ρ41, hj38⟩
    replace hout_7 := hout_7.mv (hj38.mv (i := 9) rfl) (by decide)
    replace ht_16 := ht_16.mv (hj38.mv (i := 1) rfl) (hj38.mv (i := 18) rfl)
    replace h18 := h18.mv (hj38.mv (i := 1) rfl)
    replace hB32 := hB32.mv (hj38.mv (i := 10) rfl)
    replace hBd_0 := hBd_0.mv (hj38.mv (i := 1) rfl)
    replace hb := hb.trans hj38
    refine sr_end (l' := [(0, .pointer (some ⟨gd_0, 0, none⟩)), (1, str user_1), (2, .int .i64 now_2), (7, vout_7), (8, .pointer (some ⟨g28, 0, none⟩)), (16, .pointer (some ⟨rt_16, 0, none⟩)), (32, .bool z37)]) (.cons rfl (.cons rfl (.cons rfl (.cons rfl (.cons rfl (.cons rfl (.cons rfl (.nil _)))))))) ?_
    refine ke_cond (t := z37) rfl (fun hc48 => ?_) (fun hc48 => ?_)
    ·replace hS := ite_true' hS hc48
     refine ke_region ?_
     refine sr_ev (v := vout_7) (ev_move rfl) (by decide) ?_
     refine sr_ev (v := .pointer (some ⟨g28, 1, none⟩)) (ev_fieldAddr (i := 1) Tryz.underlying61 rfl Tryz.info9 rfl rfl) (by decide) ?_
     refine sr_ev (v := str e22.1.id) (ev_load Tryz.isAgg9 rfl (hB32.cell rfl)) (by decide) ?_
     refine sr_litT (c := strC) (ρ := ρ41) (E := 9) (xs := [e22.1.id]) (vs := #[(0, str e22.1.id)]) (cs := #[str e22.1.id]) (css := [[str e22.1.id]]) rfl (fun _ => by kernel_rfl) rfl ⟨rfl, trivial⟩ rfl (by decide) hb.bd (by decide) ?_
     intro v49 w51 h50 hbw53
     have htr52 := Tr.of_below hbw53 hb.bd
     replace ht_16 := ht_16.mv (htr52.mv (i := 1) rfl) (htr52.mv (i := 18) rfl)
     replace h18 := h18.mv (htr52.mv (i := 1) rfl)
     replace hout_7 := hout_7.mv (htr52.mv (i := 9) rfl) (by decide)
     replace hBd_0 := hBd_0.mv (htr52.mv (i := 1) rfl)
     replace hb := hb.trans htr52
     obtain ⟨hk54, hS⟩ := chk_some hS
     refine sr_appendT (i := 9) (c := strC) (ρ := ρ41) (E := 9) (xs := out_7) (ys := ([e22.1.id] : List Str)) hout_7 ((SlT.of_sl (i := 0) h50)).x Tryz.underlying29 Tryz.info9 rfl rfl rfl (by decide) (by decide) (by decide) hb.bd hk54 rfl rfl (by decide) ?_
     intro v55 ρ57 w58 h56 htr59
     replace ht_16 := ht_16.mv (htr59.mv (i := 1) rfl) (htr59.mv (i := 18) rfl)
     replace h18 := h18.mv (htr59.mv (i := 1) rfl)
     replace hBd_0 := hBd_0.mv (htr59.mv (i := 1) rfl)
     replace hb := hb.trans htr59
     refine sr_ev (v := v55) (ev_assign rfl) (by decide) ?_
     refine sr_end (l' := [(0, .pointer (some ⟨gd_0, 0, none⟩)), (1, str user_1), (2, .int .i64 now_2), (7, v55), (16, .pointer (some ⟨rt_16, 0, none⟩))]) (.cons rfl (.cons rfl (.cons rfl (.cons rfl (.cons rfl (.nil _)))))) ?_
     have hK := device_Devices_List_B2_ok hg hbd hz _ hr0 hS hb hBd_0 h18 h56 ht_16
     exact ke_weaken (l' := [(0, .pointer (some ⟨gd_0, 0, none⟩)), (1, str user_1), (2, .int .i64 now_2), (7, v55), (16, .pointer (some ⟨rt_16, 0, none⟩))]) (.cons rfl (.cons rfl (.cons rfl (.cons rfl (.cons rfl (.nil _)))))) hK
    ·replace hS := ite_false' hS hc48
     refine ke_skip ?_
     have hK := device_Devices_List_B2_ok hg hbd hz _ hr0 hS hb hBd_0 h18 hout_7 ht_16
     exact ke_weaken (l' := [(0, .pointer (some ⟨gd_0, 0, none⟩)), (1, str user_1), (2, .int .i64 now_2), (7, vout_7), (16, .pointer (some ⟨rt_16, 0, none⟩))]) (.cons rfl (.cons rfl (.cons rfl (.cons rfl (.cons rfl (.nil _)))))) hK
   ·intro K36
    clear hS
    have hj38 : Tr ρ29 w33 (fun _ => false) ρ29 w33 := (Tr.refl hb.bd).weak (fun _ _ => rfl) rfl rfl
    rcases Bool.eq_false_or_eq_true (e22.1.user == user_1) with hg35 | hg35
    ·have hS := ite_true' hz39 hg35
     refine sr_evg (b := true) (e := 25) rfl rfl hg35 (v := .pointer (some ⟨gd_0, 0, none⟩)) (ev_move rfl) (by decide) ?_
     refine sr_evg (b := true) (e := 25) rfl rfl hg35 (v := str user_1) (ev_move rfl) (by decide) ?_
     refine sr_evg (b := true) (e := 25) rfl rfl hg35 (v := .pointer (some ⟨g28, 1, none⟩)) (ev_fieldAddr (i := 1) Tryz.underlying61 rfl Tryz.info9 rfl rfl) (by decide) ?_
     refine sr_evg (b := true) (e := 25) rfl rfl hg35 (v := str e22.1.id) (ev_load Tryz.isAgg9 rfl (hB32.cell rfl)) (by decide) ?_
     refine sr_evg (b := true) (e := 25) rfl rfl hg35 (v := .int .i64 now_2) (ev_move rfl) (by decide) ?_
     obtain ⟨y43, hy44, hS⟩ := bind_some' hS
     refine sr_callg (b := true) (e := 25) rfl rfl hg35 (vs := [.pointer (some ⟨gd_0, 0, none⟩), str user_1, str e22.1.id, .int .i64 now_2]) rfl Tryz.call17 rfl (device_Devices_Trusted_ok _ (hg.fr hz hb) (ρA := ρ29) hb.bd (hz.fr hg hb) (τ0 := (fun _ => 1)) (fun _ => Nat.le_refl 1) (⟨_, hBd_0, h18⟩ : device_Devices.O (fun _ => 1) ρ29 w33 gd_0 od_0) hy44) (by decide) ?_
     rintro _ w45 ⟨rfl, hbw46⟩
     have htr47 := Tr.of_below hbw46 hb.bd
     replace hout_7 := hout_7.mv (htr47.mv (i := 9) rfl) (by decide)
     replace ht_16 := ht_16.mv (htr47.mv (i := 1) rfl) (htr47.mv (i := 18) rfl)
     replace h18 := h18.mv (htr47.mv (i := 1) rfl)
     replace hB32 := hB32.mv (htr47.mv (i := 10) rfl)
     replace hBd_0 := hBd_0.mv (htr47.mv (i := 1) rfl)
     replace hb := hb.trans htr47
     replace hj38 := (hj38.trans htr47).weak (J' := (fun _ => false)) (by intro t h; simp [rng] at h ⊢ <;> omega) rfl rfl
     refine sr_ev (v := .bool y43) (ev_pick_t rfl hg35 rfl) (by decide) ?_
     exact sr_weaken (l' := [(0, .pointer (some ⟨gd_0, 0, none⟩)), (1, str user_1), (2, .int .i64 now_2), (7, vout_7), (8, .pointer (some ⟨g28, 0, none⟩)), (16, .pointer (some ⟨rt_16, 0, none⟩)), (32, .bool y43)]) (.cons rfl (.cons rfl (.cons rfl (.cons rfl (.cons rfl (.cons rfl (.cons rfl (.nil _)))))))) (K36 y43 _ ⟨(Option.some.inj hS).symm, _, hj38⟩)
    ·have hS := ite_false' hz39 hg35
     refine sr_pass (e := 25) rfl rfl (by rw [hg35]; rfl) (by decide) ?_
     refine sr_pass (e := 25) rfl rfl (by rw [hg35]; rfl) (by decide) ?_
     refine sr_pass (e := 25) rfl rfl (by rw [hg35]; rfl) (by decide) ?_
     refine sr_pass (e := 25) rfl rfl (by rw [hg35]; rfl) (by decide) ?_
     refine sr_pass (e := 25) rfl rfl (by rw [hg35]; rfl) (by decide) ?_
     refine sr_pass (e := 25) rfl rfl (by rw [hg35]; rfl) (by decide) ?_
     refine sr_ev (v := .bool false) (ev_pick_f rfl hg35 rfl) (by decide) ?_
     exact sr_weaken (l' := [(0, .pointer (some ⟨gd_0, 0, none⟩)), (1, str user_1), (2, .int .i64 now_2), (7, vout_7), (8, .pointer (some ⟨g28, 0, none⟩)), (16, .pointer (some ⟨rt_16, 0, none⟩)), (32, .bool false)]) (.cons rfl (.cons rfl (.cons rfl (.cons rfl (.cons rfl (.cons rfl (.cons rfl (.nil _)))))))) (K36 false _ ⟨(Option.some.inj hS).symm, _, hj38⟩)
theorem device_Devices_List_ok (w0 : World) (hg : Gs w0) {ρA : Tags} (hbd : ∀ b, ρA b ≠ 0 → b < w0.heap.size) (hz : Gz ρA) {τ0 : Nat → Nat} (hτ0 : ∀ p, 1 ≤ τ0 p) {d_0 : device_Devices} {user_1 : Str} {now_2 : Int} {gd_0 : Nat} {r : List Str} (ho0 : device_Devices.O τ0 ρA w0 gd_0 d_0) (hS : device_Devices_List d_0 user_1 now_2 = some r) :
  Calls Tryz.prog 18 #[.pointer (some ⟨gd_0, 0, none⟩), str user_1, .int .i64 now_2] w0 (Ret (fun v w' => ∃ x1, v = x1 ∧ SlR strC (Wb ρA) w' x1 r ∧ Below w0.heap.size w0 w')) := by
 unfold device_Devices_List at hS
 have hb := flat1_fr (ρ := ρA) (w := w0) hbd
 have hz := hz.flat1
 obtain ⟨v1, hB3, h2⟩ := ho0
 replace hB3 := hB3.mv (flat1_mv (hτ0 0))
 replace h2 := h2.mv (flat1_mv (hτ0 1))
 replace hB3 : Blk (flat1 ρA) 1 w0 gd_0 (.cells #[v1, .int .i64 d_0.given] 41 (0, 0)) := hB3
 replace h2 : MapT device_key.ek device_record.c true (flat1 ρA) 1 w0 v1 d_0.records := h2
 refine calls_of_ke Tryz.func18 rfl (n := 41) rfl rfl (l := [(0, .pointer (some ⟨gd_0, 0, none⟩)), (1, str user_1), (2, .int .i64 now_2)]) rfl ?_
 refine ke_seq ?_
 refine ke_region ?_
 refine sr_ev (v := .slice none 0 0) (ev_assign rfl) (by decide) ?_
 refine sr_end (l' := [(0, .pointer (some ⟨gd_0, 0, none⟩)), (1, str user_1), (2, .int .i64 now_2)]) (.cons rfl (.cons rfl (.cons rfl (.nil _)))) ?_
 refine ke_seq ?_
 refine ke_seq ?_
 refine ke_region ?_
 refine sr_ev (v := .pointer (some ⟨gd_0, 0, none⟩)) (ev_move rfl) (by decide) ?_
 obtain ⟨y6, hy7, hS⟩ := bind_some' hS
 refine sr_call (vs := [.pointer (some ⟨gd_0, 0, none⟩)]) rfl Tryz.call32 rfl (device_Devices_made_ok _ (hg.fr hz hb) (ρA := (flat1 ρA)) hb.bd (hz.fr hg hb) (τ0 := (fun _ => 1)) (fun _ => Nat.le_refl 1) (⟨_, hB3, h2⟩ : device_Devices.O (fun _ => 1) (flat1 ρA) w0 gd_0 d_0) hy7) (by decide) ?_
 rintro _ w8 ⟨rfl, hbw9⟩
 have htr10 := Tr.of_below hbw9 hb.bd
 replace hB3 := hB3.mv (htr10.mv (i := 1) rfl)
 replace h2 := h2.mv (htr10.mv (i := 1) rfl)
 replace hb := hb.trans htr10
 refine sr_ev (v := .bool (!y6)) (ev_not rfl) (by decide) ?_
 refine sr_end (l' := [(0, .pointer (some ⟨gd_0, 0, none⟩)), (1, str user_1), (2, .int .i64 now_2), (11, .bool (!y6))]) (.cons rfl (.cons rfl (.cons rfl (.cons rfl (.nil _))))) ?_
 refine ke_cond (t := !y6) rfl (fun hc11 => ?_) (fun hc11 => ?_)
 ·replace hS := ite_true' hS hc11
  refine ke_seq ?_
  refine ke_region ?_
  refine sr_ev (v := .slice none 0 0) (ev_assign rfl) (by decide) ?_
  refine sr_end (l' := [(6, .slice none 0 0)]) (.cons rfl (.nil _)) ?_
  cases hS
  exact ke_ret1 Tryz.func18 rfl rfl ⟨_, rfl, _, rfl, SlR.nil, (hb.below (flat1_le _))⟩
 ·replace hS := ite_false' hS hc11
  refine ke_skip ?_
  refine ke_seq ?_
  refine ke_region ?_
  refine sr_ev (v := .slice none 0 0) (ev_assign rfl) (by decide) ?_
  refine sr_end (l' := [(0, .pointer (some ⟨gd_0, 0, none⟩)), (1, str user_1), (2, .int .i64 now_2), (7, .slice none 0 0)]) (.cons rfl (.cons rfl (.cons rfl (.cons rfl (.nil _))))) ?_
  refine ke_seq ?_
  refine ke_seq ?_
  refine ke_region ?_
  refine sr_ev (v := .pointer (some ⟨gd_0, 0, none⟩)) (ev_move rfl) (by decide) ?_
  refine sr_ev (v := .pointer (some ⟨gd_0, 0, none⟩)) (ev_nilCheck rfl) (by decide) ?_
  refine sr_ev (v := .pointer (some ⟨gd_0, 0, none⟩)) (ev_fieldAddr (i := 0) Tryz.underlying41 rfl Tryz.info39 rfl rfl) (by decide) ?_
  refine sr_ev (v := v1) (ev_load Tryz.isAgg39 rfl (hB3.cell rfl)) (by decide) ?_
  refine sr_rangeM 18 (by decide) h2 rfl Tryz.underlying39 hb.bd rfl (by decide) ?_
  intro r12 ρ13 w14 h15 htr16
  replace h2 := h2.mv (htr16.mv (i := 1) rfl)
  replace hB3 := hB3.mv (htr16.mv (i := 1) rfl)
  replace hb := hb.trans htr16
  refine sr_end (l' := [(0, .pointer (some ⟨gd_0, 0, none⟩)), (1, str user_1), (2, .int .i64 now_2), (7, .slice none 0 0), (16, .pointer (some ⟨r12, 0, none⟩))]) (.cons rfl (.cons rfl (.cons rfl (.cons rfl (.cons rfl (.nil _)))))) ?_
  refine ke_block ?_
  have hK := device_Devices_List_L1_ok hg hbd hz _ hS hb hB3 h2 OwnT.nil h15
  exact ke_weaken (l' := [(0, .pointer (some ⟨gd_0, 0, none⟩)), (1, str user_1), (2, .int .i64 now_2), (7, (.slice none 0 0)), (16, .pointer (some ⟨r12, 0, none⟩))]) (.cons rfl (.cons rfl (.cons rfl (.cons rfl (.cons rfl (.nil _)))))) (ke_loop hK)
theorem ref02_Same_L1_ok {w0 : World} (hg : Gs w0) {A0 : Nat → Prop} (hA0 : ∀ b, A0 b → b < w0.heap.size) : ∀ (n : Nat), ∀ {r : Bool} {a_0 : List Str} {b_1 : List Str} {i_5 : Int} {va_0 : Value} {vb_1 : Value}, ref02_Same_L1 n a_0 b_1 i_5 = some r → ∀ {w : World} {A : Nat → Prop}, (Below w0.heap.size w0 w) → (∀ b, A b → b < w.heap.size) → (∀ b, A0 b → A b) → (Hp A w0.heap.size w []) → (SlR strC A w va_0 a_0) → (SlR strC A w vb_1 b_1) → KE Tryz.prog 10 (Ret (fun v w' => v = .bool r ∧ Below w0.heap.size w0 w')) 26 [.code (sub (bodyOf Tryz.f10) [2, 2, 1, 2, 2, 1]), .inLoop (sub (bodyOf Tryz.f10) [2, 2, 1, 2, 2, 1]), .inBlock 0, .code (sub (bodyOf Tryz.f10) [2, 2, 2])] [(0, va_0), (1, vb_1), (5, .int .i64 i_5)] w := by
 intro n
 induction n with
 | zero => intro r a_0 b_1 i_5 va_0 vb_1 hS; cases hS
 | succ n ih =>
  have hr0 : ∀ {r : Bool} {a_0 : List Str} {b_1 : List Str} {i_5 : Int} {va_0 : Value} {vb_1 : Value}, ref02_Same_L1 n a_0 b_1 i_5 = some r → ∀ {w : World} {A : Nat → Prop}, (Below w0.heap.size w0 w) → (∀ b, A b → b < w.heap.size) → (∀ b, A0 b → A b) → (Hp A w0.heap.size w []) → (SlR strC A w va_0 a_0) → (SlR strC A w vb_1 b_1) → KE Tryz.prog 10 (Ret (fun v w' => v = .bool r ∧ Below w0.heap.size w0 w')) 26 [.inLoop (sub (bodyOf Tryz.f10) [2, 2, 1, 2, 2, 1]), .inBlock 0, .code (sub (bodyOf Tryz.f10) [2, 2, 2])] [(0, va_0), (1, vb_1), (5, .int .i64 i_5)] w := fun {r} {a_0} {b_1} {i_5} {va_0} {vb_1} hS {w} {A} hb hA hi hH ha_0 hb_1 => ke_inLoop (ih hS hb hA hi hH ha_0 hb_1)
  clear ih
  intro r a_0 b_1 i_5 va_0 vb_1 hS w A hb hA hi hH ha_0 hb_1
  unfold ref02_Same_L1 at hS
  refine ke_seq ?_
  refine ke_seq ?_
  refine ke_region ?_
  refine sr_ev (v := .int .i64 i_5) (ev_move rfl) (by decide) ?_
  refine sr_ev (v := va_0) (ev_move rfl) (by decide) ?_
  refine sr_ev (v := .int .i64 (a_0.length : Int)) (ev_sllen Tryz.underlying29 rfl ha_0) (by decide) ?_
  refine sr_ev (v := .bool (decide (i_5 < (a_0.length : Int)))) (ev_lt rfl rfl) (by decide) ?_
  refine sr_end (l' := [(0, va_0), (1, vb_1), (5, .int .i64 i_5), (14, .bool (decide (i_5 < (a_0.length : Int))))]) (.cons rfl (.cons rfl (.cons rfl (.cons rfl (.nil _))))) ?_
  refine ke_cond (t := decide (i_5 < (a_0.length : Int))) rfl (fun hc6 => ?_) (fun hc6 => ?_)
  ·replace hS := ite_true' hS hc6
   refine ke_skip ?_
   refine ke_seq ?_
   refine ke_block ?_
   refine ke_seq ?_
   refine ke_region_q Tryz.mixed (by kernel_rfl) ?_
   refine sq_ev (v := va_0) (fun w1 hw1 => ev_move rfl) (by decide) ?_
   refine sq_ev (v := .int .i64 i_5) (fun w1 hw1 => ev_move rfl) (by decide) ?_
   obtain ⟨y9, hy10, hS⟩ := bind_some' hS
   obtain ⟨b11, o12, cs14, he13, hixhe13⟩ := ha_0.elem Tryz.underlying29 Tryz.info9 rfl (P := Tryz.prog) hy10
   obtain rfl : cs14 = [str y9] := he13.rd
   refine sq_ev (v := .pointer (some ⟨b11, o12, none⟩)) (fun w1 hw1 => hixhe13 w1 hw1 rfl rfl) (by decide) ?_
   refine sq_ev (v := str y9) (fun w1 hw1 => ev_load Tryz.isAgg9 rfl ((he13.step (.of_below hw1) (Nat.succ_pos _)).cell 0 _ rfl)) (by decide) ?_
   refine sq_ev (v := vb_1) (fun w1 hw1 => ev_move rfl) (by decide) ?_
   refine sq_ev (v := .int .i64 i_5) (fun w1 hw1 => ev_move rfl) (by decide) ?_
   obtain ⟨y15, hy16, hS⟩ := bind_some' hS
   obtain ⟨b17, o18, cs20, he19, hixhe19⟩ := hb_1.elem Tryz.underlying29 Tryz.info9 rfl (P := Tryz.prog) hy16
   obtain rfl : cs20 = [str y15] := he19.rd
   refine sq_ev (v := .pointer (some ⟨b17, o18, none⟩)) (fun w1 hw1 => hixhe19 w1 hw1 rfl rfl) (by decide) ?_
   refine sq_ev (v := str y15) (fun w1 hw1 => ev_load Tryz.isAgg9 rfl ((he19.step (.of_below hw1) (Nat.succ_pos _)).cell 0 _ rfl)) (by decide) ?_
   refine sq_ev (v := .bool (!(y9 == y15))) (fun w1 hw1 => ev_sne rfl rfl) (by decide) ?_
   refine sq_end (l' := [(0, va_0), (1, vb_1), (5, .int .i64 i_5), (25, .bool (!(y9 == y15)))]) (.cons rfl (.cons rfl (.cons rfl (.cons rfl (.nil _))))) (fun w8 hw7 => ?_)
   replace hb := hb.trans (hw7.mono hb.size)
   replace hA := lt_mono hA hw7.size
   replace hH := hH.below hw7
   replace ha_0 := ha_0.below hw7
   replace hb_1 := hb_1.below hw7
   refine ke_cond (t := !(y9 == y15)) rfl (fun hc21 => ?_) (fun hc21 => ?_)
   ·replace hS := ite_true' hS hc21
    refine ke_seq ?_
    refine ke_region ?_
    refine sr_ev (v := .bool false) (ev_assign rfl) (by decide) ?_
    refine sr_end (l' := [(4, .bool false)]) (.cons rfl (.nil _)) ?_
    cases hS
    exact ke_ret1 Tryz.func10 rfl rfl ⟨_, rfl, rfl, hb⟩
   ·replace hS := ite_false' hS hc21
    refine ke_skip ?_
    refine ke_inBlock ?_
    refine ke_region ?_
    refine sr_ev (v := .int .i64 i_5) (ev_move rfl) (by decide) ?_
    refine sr_ev (v := .int .i64 (IntKind.i64.wrap (i_5 + 1))) (ev_add rfl rfl) (by decide) ?_
    refine sr_ev (v := .int .i64 (IntKind.i64.wrap (i_5 + 1))) (ev_assign rfl) (by decide) ?_
    refine sr_end (l' := [(0, va_0), (1, vb_1), (5, .int .i64 (IntKind.i64.wrap (i_5 + 1)))]) (.cons rfl (.cons rfl (.cons rfl (.nil _)))) ?_
    have hK := hr0 hS hb hA hi hH ha_0 hb_1
    exact ke_weaken (l' := [(0, va_0), (1, vb_1), (5, .int .i64 (IntKind.i64.wrap (i_5 + 1)))]) (.cons rfl (.cons rfl (.cons rfl (.nil _)))) hK
  ·replace hS := ite_false' hS hc6
   refine ke_exit (k' := _) rfl ?_
   refine ke_seq ?_
   refine ke_region ?_
   refine sr_ev (v := .bool true) (ev_assign rfl) (by decide) ?_
   refine sr_end (l' := [(4, .bool true)]) (.cons rfl (.nil _)) ?_
   cases hS
   exact ke_ret1 Tryz.func10 rfl rfl ⟨_, rfl, rfl, hb⟩
theorem ref02_Same_ok {A0 : Nat → Prop} (w0 : World) (hg : Gs w0) {a_0 : List Str} {b_1 : List Str} {v1 : Value} {v3 : Value} {r : Bool} (h2 : SlR strC A0 w0 v1 a_0) (h4 : SlR strC A0 w0 v3 b_1) (hS : ref02_Same a_0 b_1 = some r) :
  Calls Tryz.prog 10 #[v1, v3] w0 (Ret (fun v w' => v = .bool r ∧ Below w0.heap.size w0 w')) := by
 unfold ref02_Same at hS
 have hb := Below.refl w0.heap.size w0
 replace h2 := h2.weak (A' := fun _ => False) (fun _ h => h.elim)
 replace h4 := h4.weak (A' := fun _ => False) (fun _ h => h.elim)
 obtain ⟨A0, hA0, hAe⟩ : ∃ A0 : Nat → Prop, (∀ b, A0 b → b < w0.heap.size) ∧ A0 = fun _ => False := ⟨_, fun _ h => h.elim, rfl⟩
 rw [← hAe] at h2
 rw [← hAe] at h4
 clear hAe
 have hA := hA0
 have hi : ∀ b, A0 b → A0 b := fun _ h => h
 have hH := Hp.nil A0 w0.heap.size w0
 refine calls_of_ke Tryz.func10 rfl (n := 26) rfl rfl (l := [(0, v1), (1, v3)]) rfl ?_
 refine ke_seq ?_
 refine ke_region ?_
 refine sr_ev (v := .bool false) (ev_assign rfl) (by decide) ?_
 refine sr_end (l' := [(0, v1), (1, v3)]) (.cons rfl (.cons rfl (.nil _))) ?_
 refine ke_seq ?_
 refine ke_seq ?_
 refine ke_region ?_
 refine sr_ev (v := v1) (ev_move rfl) (by decide) ?_
 refine sr_ev (v := .int .i64 (a_0.length : Int)) (ev_sllen Tryz.underlying29 rfl h2) (by decide) ?_
 refine sr_ev (v := v3) (ev_move rfl) (by decide) ?_
 refine sr_ev (v := .int .i64 (b_1.length : Int)) (ev_sllen Tryz.underlying29 rfl h4) (by decide) ?_
 refine sr_ev (v := .bool ((a_0.length : Int) != (b_1.length : Int))) (ev_ne rfl rfl) (by decide) ?_
 refine sr_end (l' := [(0, v1), (1, v3), (10, .bool ((a_0.length : Int) != (b_1.length : Int)))]) (.cons rfl (.cons rfl (.cons rfl (.nil _)))) ?_
 refine ke_cond (t := (a_0.length : Int) != (b_1.length : Int)) rfl (fun hc5 => ?_) (fun hc5 => ?_)
 ·replace hS := ite_true' hS hc5
  refine ke_seq ?_
  refine ke_region ?_
  refine sr_ev (v := .bool false) (ev_assign rfl) (by decide) ?_
  refine sr_end (l' := [(4, .bool false)]) (.cons rfl (.nil _)) ?_
  cases hS
  exact ke_ret1 Tryz.func10 rfl rfl ⟨_, rfl, rfl, hb⟩
 ·replace hS := ite_false' hS hc5
  refine ke_skip ?_
  refine ke_seq ?_
  refine ke_seq ?_
  refine ke_region ?_
  refine sr_ev (v := .int .i64 0) (ev_assign rfl) (by decide) ?_
  refine sr_end (l' := [(0, v1), (1, v3), (5, .int .i64 0)]) (.cons rfl (.cons rfl (.cons rfl (.nil _)))) ?_
  refine ke_block ?_
  have hK := ref02_Same_L1_ok hg hA0 _ hS hb hA hi hH h2 h4
  exact ke_weaken (l' := [(0, v1), (1, v3), (5, .int .i64 0)]) (.cons rfl (.cons rfl (.cons rfl (.nil _)))) (ke_loop hK)
theorem device_Devices_Drop_B2_ok {w0 : World} (hg : Gs w0) {ρA : Tags} (hbd : ∀ b, ρA b ≠ 0 → b < w0.heap.size) {o : Nat} (ho2 : 2 ≤ o) {gd_0 : Nat} (hz : Gz (enter ρA o 2)) (r0 : device_Devices → Str → Int → List device_key → Option (Int × device_Devices))
  (hr0 : ∀ {r : Int × device_Devices} {od_0 : device_Devices} {user_1 : Str} {n_5 : Int} {t_19 : List device_key} {v15 : Value} {rt_19 : Nat}, r0 od_0 user_1 n_5 t_19 = some r → ∀ {ρ : Tags} {w : World}, (Fr (enter ρA o 2) w0 ρ w) → (Blk ρ 100 w gd_0 (.cells #[v15, .int .i64 od_0.given] 41 (0, 0))) → (MapT device_key.ek device_record.c true ρ 101 w v15 od_0.records) → (IterT device_key.ek device_record.c true ρ 101 21 w rt_19 v15 od_0.records t_19) → KE Tryz.prog 19 (Ret (fun v w' => ∃ ρ', v = .int .i64 r.1 ∧ device_Devices.O (fun p => o + p) ρ' w' gd_0 r.2 ∧ Tr ρA w0 (rng o 2) ρ' w')) 40 [.inLoop (sub (bodyOf Tryz.f19) [2, 2, 2, 1, 2, 2, 1]), .inBlock 0, .code (sub (bodyOf Tryz.f19) [2, 2, 2, 2])] [(0, .pointer (some ⟨gd_0, 0, none⟩)), (1, str user_1), (5, .int .i64 n_5), (19, .pointer (some ⟨rt_19, 0, none⟩))] w) {r : Int × device_Devices} {od_0 : device_Devices} {user_1 : Str} {n_5 : Int} {t_19 : List device_key} {v45 : Value} {rt_19 : Nat} (hS : device_Devices_Drop_B2 r0 od_0 user_1 n_5 t_19 = some r) {ρ : Tags} {w : World} (hb : Fr (enter ρA o 2) w0 ρ w) (hBd_0 : Blk ρ 100 w gd_0 (.cells #[v45, .int .i64 od_0.given] 41 (0, 0))) (h46 : MapT device_key.ek device_record.c true ρ 101 w v45 od_0.records) (ht_19 : IterT device_key.ek device_record.c true ρ 101 21 w rt_19 v45 od_0.records t_19) :
  KE Tryz.prog 19 (Ret (fun v w' => ∃ ρ', v = .int .i64 r.1 ∧ device_Devices.O (fun p => o + p) ρ' w' gd_0 r.2 ∧ Tr ρA w0 (rng o 2) ρ' w')) 40 [.inBlock 1, .inLoop (sub (bodyOf Tryz.f19) [2, 2, 2, 1, 2, 2, 1]), .inBlock 0, .code (sub (bodyOf Tryz.f19) [2, 2, 2, 2])] [(0, .pointer (some ⟨gd_0, 0, none⟩)), (1, str user_1), (5, .int .i64 n_5), (19, .pointer (some ⟨rt_19, 0, none⟩))] w := by
 unfold device_Devices_Drop_B2 at hS
 refine ke_inBlock ?_
 have hK := hr0 hS hb hBd_0 h46 ht_19
 exact ke_weaken (l' := [(0, .pointer (some ⟨gd_0, 0, none⟩)), (1, str user_1), (5, .int .i64 n_5), (19, .pointer (some ⟨rt_19, 0, none⟩))]) (.cons rfl (.cons rfl (.cons rfl (.cons rfl (.nil _))))) hK
theorem device_Devices_Drop_L1_ok {w0 : World} (hg : Gs w0) {ρA : Tags} (hbd : ∀ b, ρA b ≠ 0 → b < w0.heap.size) {o : Nat} (ho2 : 2 ≤ o) {gd_0 : Nat} (hz : Gz (enter ρA o 2)) : ∀ (n : Nat), ∀ {r : Int × device_Devices} {od_0 : device_Devices} {user_1 : Str} {n_5 : Int} {t_19 : List device_key} {v15 : Value} {rt_19 : Nat}, device_Devices_Drop_L1 n od_0 user_1 n_5 t_19 = some r → ∀ {ρ : Tags} {w : World}, (Fr (enter ρA o 2) w0 ρ w) → (Blk ρ 100 w gd_0 (.cells #[v15, .int .i64 od_0.given] 41 (0, 0))) → (MapT device_key.ek device_record.c true ρ 101 w v15 od_0.records) → (IterT device_key.ek device_record.c true ρ 101 21 w rt_19 v15 od_0.records t_19) → KE Tryz.prog 19 (Ret (fun v w' => ∃ ρ', v = .int .i64 r.1 ∧ device_Devices.O (fun p => o + p) ρ' w' gd_0 r.2 ∧ Tr ρA w0 (rng o 2) ρ' w')) 40 [.code (sub (bodyOf Tryz.f19) [2, 2, 2, 1, 2, 2, 1]), .inLoop (sub (bodyOf Tryz.f19) [2, 2, 2, 1, 2, 2, 1]), .inBlock 0, .code (sub (bodyOf Tryz.f19) [2, 2, 2, 2])] [(0, .pointer (some ⟨gd_0, 0, none⟩)), (1, str user_1), (5, .int .i64 n_5), (19, .pointer (some ⟨rt_19, 0, none⟩))] w := by
 intro n
 induction n with
 | zero => intro r od_0 user_1 n_5 t_19 v15 rt_19 hS; cases hS
 | succ n ih =>
  have hr0 : ∀ {r : Int × device_Devices} {od_0 : device_Devices} {user_1 : Str} {n_5 : Int} {t_19 : List device_key} {v15 : Value} {rt_19 : Nat}, device_Devices_Drop_L1 n od_0 user_1 n_5 t_19 = some r → ∀ {ρ : Tags} {w : World}, (Fr (enter ρA o 2) w0 ρ w) → (Blk ρ 100 w gd_0 (.cells #[v15, .int .i64 od_0.given] 41 (0, 0))) → (MapT device_key.ek device_record.c true ρ 101 w v15 od_0.records) → (IterT device_key.ek device_record.c true ρ 101 21 w rt_19 v15 od_0.records t_19) → KE Tryz.prog 19 (Ret (fun v w' => ∃ ρ', v = .int .i64 r.1 ∧ device_Devices.O (fun p => o + p) ρ' w' gd_0 r.2 ∧ Tr ρA w0 (rng o 2) ρ' w')) 40 [.inLoop (sub (bodyOf Tryz.f19) [2, 2, 2, 1, 2, 2, 1]), .inBlock 0, .code (sub (bodyOf Tryz.f19) [2, 2, 2, 2])] [(0, .pointer (some ⟨gd_0, 0, none⟩)), (1, str user_1), (5, .int .i64 n_5), (19, .pointer (some ⟨rt_19, 0, none⟩))] w := fun {r} {od_0} {user_1} {n_5} {t_19} {v15} {rt_19} hS {ρ} {w} hb hBd_0 h16 ht_19 => ke_inLoop (ih hS hb hBd_0 h16 ht_19)
  clear ih
  intro r od_0 user_1 n_5 t_19 v15 rt_19 hS ρ w hb hBd_0 h16 ht_19
  unfold device_Devices_Drop_L1 at hS
  refine ke_seq ?_
  refine ke_region ?_
  refine sr_nextM ht_19 rfl (by decide) hb.bd hS rfl (by decide) (fun hS => ?_) (fun e18 cs19 w20 hS hrd22 ht_191 htr21 hent23 => ?_)
  ·refine sr_ev (v := .bool false) (ev_extract rfl rfl) (by decide) ?_
   refine sr_end (l' := [(0, .pointer (some ⟨gd_0, 0, none⟩)), (1, str user_1), (5, .int .i64 n_5), (19, .pointer (some ⟨rt_19, 0, none⟩)), (21, .bool false)]) (.cons rfl (.cons rfl (.cons rfl (.cons rfl (.cons rfl (.nil _)))))) ?_
   refine ke_seq ?_
   refine ke_cond (t := false) rfl (fun h => by cases h) (fun _ => ?_)
   refine ke_exit (k' := _) rfl ?_
   refine ke_seq ?_
   refine ke_region ?_
   refine sr_ev (v := .int .i64 n_5) (ev_move rfl) (by decide) ?_
   refine sr_ev (v := .pointer (some ⟨gd_0, 0, none⟩)) (ev_move rfl) (by decide) ?_
   refine sr_ev (v := .pointer (some ⟨gd_0, 0, none⟩)) (ev_nilCheck rfl) (by decide) ?_
   refine sr_ev (v := .pointer (some ⟨gd_0, 0, none⟩)) (ev_fieldAddr (i := 0) Tryz.underlying41 rfl Tryz.info39 rfl rfl) (by decide) ?_
   refine sr_ev (v := v15) (ev_load Tryz.isAgg39 rfl (hBd_0.cell rfl)) (by decide) ?_
   refine sr_ev (v := .int .i64 (mlen od_0.records)) (ev_mapLen h16 Tryz.underlying39 (Mv.of_below (i := 101) (ρ := ρ) (Below.refl _ _)) rfl) (by decide) ?_
   refine sr_ev (v := .int .i64 (IntKind.i64.wrap (n_5 - (mlen od_0.records)))) (ev_sub rfl rfl) (by decide) ?_
   refine sr_ev (v := .int .i64 (IntKind.i64.wrap (n_5 - (mlen od_0.records)))) (ev_assign rfl) (by decide) ?_
   refine sr_end (l' := [(4, .int .i64 (IntKind.i64.wrap (n_5 - (mlen od_0.records))))]) (.cons rfl (.nil _)) ?_
   cases hS
   exact ke_ret1 Tryz.func19 rfl rfl ⟨_, rfl, leave ρA w0 o 2 ρ, rfl, ⟨_, (hBd_0.mv (leave_mv (p := 0) (by decide) hb)), (h16.mv (leave_mv (p := 1) (by decide) hb))⟩, (leave_tr ho2 hb)⟩
  ·skip
   replace h16 := h16.mv (htr21.mv (i := 101) rfl)
   replace hBd_0 := hBd_0.mv (htr21.mv (i := 100) rfl)
   replace hb := hb.trans htr21
   replace ht_19 := ht_191
   clear ht_191
   obtain rfl : cs19 = [str e18.2.secret, str e18.2.challenge, .int .i64 e18.2.until_] := hrd22
   refine sr_ev (v := .bool true) (ev_extract rfl rfl) (by decide) ?_
   refine sr_end (l' := [(0, .pointer (some ⟨gd_0, 0, none⟩)), (1, str user_1), (5, .int .i64 n_5), (19, .pointer (some ⟨rt_19, 0, none⟩)), (21, .bool true)]) (.cons rfl (.cons rfl (.cons rfl (.cons rfl (.cons rfl (.nil _)))))) ?_
   refine ke_seq ?_
   refine ke_cond (t := true) rfl (fun _ => ?_) (fun h => by cases h)
   refine ke_skip ?_
   refine ke_block ?_
   refine ke_seq ?_
   refine ke_region ?_
   refine sr_ev (v := .tuple #[.agg #[str e18.1.user, str e18.1.id], .agg #[str e18.2.secret, str e18.2.challenge, .int .i64 e18.2.until_]]) (hent23 rfl) (by decide) ?_
   refine sr_ev (v := .agg #[str e18.1.user, str e18.1.id]) (ev_extract rfl rfl) (by decide) ?_
   refine sr_allocT 8 (by decide) hb.bd Tryz.zeroValue61 (by decide) ?_
   intro g24 ρ25 w26 hB28 htr27
   replace ht_19 := ht_19.mv (htr27.mv (i := 101) rfl) (htr27.mv (i := 21) rfl)
   replace h16 := h16.mv (htr27.mv (i := 101) rfl)
   replace hBd_0 := hBd_0.mv (htr27.mv (i := 100) rfl)
   replace hb := hb.trans htr27
   replace hB28 : Blk ρ25 8 w26 g24 (.cells #[str ([]), str ([])] 61 (0, 0)) := hB28
   refine sr_storeT (v := .agg #[str e18.1.user, str e18.1.id]) (vs := [str e18.1.user, str e18.1.id]) (cs' := #[str e18.1.user, str e18.1.id]) hB28 (by decide) hb.bd rfl rfl rfl Tryz.sizeOf61 rfl rfl rfl ?_
   intro w29 hB281 htr30
   replace ht_19 := ht_19.mv (htr30.mv (i := 101) rfl) (htr30.mv (i := 21) rfl)
   replace h16 := h16.mv (htr30.mv (i := 101) rfl)
   replace hBd_0 := hBd_0.mv (htr30.mv (i := 100) rfl)
   replace hb := hb.trans htr30
   replace hB28 : Blk ρ25 8 w29 g24 (.cells #[str e18.1.user, str e18.1.id] 61 (0, 0)) := hB281
   clear hB281
   refine sr_end (l' := [(0, .pointer (some ⟨gd_0, 0, none⟩)), (1, str user_1), (5, .int .i64 n_5), (6, .pointer (some ⟨g24, 0, none⟩)), (19, .pointer (some ⟨rt_19, 0, none⟩))]) (.cons rfl (.cons rfl (.cons rfl (.cons rfl (.cons rfl (.nil _)))))) ?_
   refine ke_seq ?_
   refine ke_region ?_
   refine sr_ev (v := .pointer (some ⟨g24, 0, none⟩)) (ev_fieldAddr (i := 0) Tryz.underlying61 rfl Tryz.info9 rfl rfl) (by decide) ?_
   refine sr_ev (v := str e18.1.user) (ev_load Tryz.isAgg9 rfl (hB28.cell rfl)) (by decide) ?_
   refine sr_ev (v := str user_1) (ev_move rfl) (by decide) ?_
   refine sr_ev (v := .bool (e18.1.user == user_1)) (ev_seq rfl rfl) (by decide) ?_
   refine sr_end (l' := [(0, .pointer (some ⟨gd_0, 0, none⟩)), (1, str user_1), (5, .int .i64 n_5), (6, .pointer (some ⟨g24, 0, none⟩)), (19, .pointer (some ⟨rt_19, 0, none⟩)), (27, .bool (e18.1.user == user_1))]) (.cons rfl (.cons rfl (.cons rfl (.cons rfl (.cons rfl (.cons rfl (.nil _))))))) ?_
   refine ke_cond (t := e18.1.user == user_1) rfl (fun hc31 => ?_) (fun hc31 => ?_)
   ·replace hS := ite_true' hS hc31
    refine ke_region_j (ρ := ρ25) (fun t => ([101] : List Nat).contains t) 6 Tryz.mixed (fun w33 hw32 => ?_)
    have htr34 := Tr.of_below hw32 hb.bd
    replace ht_19 := ht_19.mv (htr34.mv (i := 101) rfl) (htr34.mv (i := 21) rfl)
    replace h16 := h16.mv (htr34.mv (i := 101) rfl)
    replace hB28 := hB28.mv (htr34.mv (i := 8) rfl)
    replace hBd_0 := hBd_0.mv (htr34.mv (i := 100) rfl)
    replace hb := hb.trans htr34
    refine dj_H 0 (v := .pointer (some ⟨gd_0, 0, none⟩)) (by kernel_rfl) (by kernel_rfl) rfl (fun _ _ _ h => h) (sj_refl hb.bd rfl rfl) (fun w1 ρ1 hw1 => ev_move rfl) (by decide) ?_
    refine dj_H 1 (v := .pointer (some ⟨gd_0, 0, none⟩)) (by kernel_rfl) (by kernel_rfl) rfl (fun _ _ _ h => h) (sj_refl hb.bd rfl rfl) (fun w1 ρ1 hw1 => ev_nilCheck rfl) (by decide) ?_
    refine dj_H 2 (v := .pointer (some ⟨gd_0, 0, none⟩)) (by kernel_rfl) (by kernel_rfl) rfl (fun _ _ _ h => h) (sj_refl hb.bd rfl rfl) (fun w1 ρ1 hw1 => ev_fieldAddr (i := 0) Tryz.underlying41 rfl Tryz.info39 rfl rfl) (by decide) ?_
    refine dj_H 3 (v := v15) (by kernel_rfl) (by kernel_rfl) rfl (fun _ _ _ h => h) (sj_refl hb.bd rfl rfl) (fun w1 ρ1 hw1 => ev_load Tryz.isAgg39 rfl ((hBd_0.mv (hw1.mv (i := 100) rfl)).cell rfl)) (by decide) ?_
    refine dj_H 4 (v := .agg #[str e18.1.user, str e18.1.id]) (by kernel_rfl) (by kernel_rfl) rfl (fun _ _ _ h => h) (sj_refl hb.bd rfl rfl) (fun w1 ρ1 hw1 => ev_loads (cs := [str e18.1.user, str e18.1.id]) Tryz.isAgg61 Tryz.sizeOf61 rfl ((hB28.mv (hw1.mv (i := 8) rfl)).cells (vs := [str e18.1.user, str e18.1.id]) rfl)) (by decide) ?_
    refine dj_E 5 (by kernel_rfl) rfl ?_
    have jt42 : Tr ρ25 w33 (fun t => ([101] : List Nat).contains t) ρ25 w33 := (Tr.refl hb.bd).weak (fun _ _ => rfl) rfl rfl
    obtain ⟨w43, hrunw43, ht_191, htr44⟩ := sr_mapDelIt (n := 40) (l := [(0, .pointer (some ⟨gd_0, 0, none⟩)), (1, str user_1), (5, .int .i64 n_5), (6, .pointer (some ⟨g24, 0, none⟩)), (19, .pointer (some ⟨rt_19, 0, none⟩)), (27, .bool (e18.1.user == user_1)), (28, .pointer (some ⟨gd_0, 0, none⟩)), (29, .pointer (some ⟨gd_0, 0, none⟩)), (30, .pointer (some ⟨gd_0, 0, none⟩)), (31, v15), (32, .agg #[str e18.1.user, str e18.1.id])]) (d := none) (x := _) (y := _) (pos := _) (after := _) (t := _) (k := e18.1) ht_19 rfl Tryz.keyB61 Tryz.underlying39 (by decide) hb.bd
    refine sr_run0 (fun a ha => hrunw43 (ha.weaken (.cons rfl (.cons rfl (.cons rfl (.cons rfl (.cons rfl (.cons rfl (.cons rfl (.cons rfl (.cons rfl (.cons rfl (.cons rfl (.nil _))))))))))))) rfl rfl) ?_
    replace hBd_0 := hBd_0.mv (htr44.mv (i := 100) rfl)
    replace hb := hb.trans htr44
    replace jt42 := (jt42.trans htr44).weak (J' := (fun t => ([101] : List Nat).contains t)) (by intro t h; simp [rng] at h ⊢ <;> omega) rfl rfl
    replace ht_19 := ht_191
    clear ht_191
    replace h16 := ht_19.map
    refine dj_next (l' := [(0, .pointer (some ⟨gd_0, 0, none⟩)), (1, str user_1), (5, .int .i64 n_5), (19, .pointer (some ⟨rt_19, 0, none⟩))]) rfl (.cons rfl (.cons rfl (.cons rfl (.cons rfl (.nil _))))) jt42 (by intro t h; simp [rng] at h ⊢ <;> omega) rfl rfl ?_
    refine dj_done rfl (by kernel_rfl) ?_
    refine ke_weaken (l' := [(0, .pointer (some ⟨gd_0, 0, none⟩)), (1, str user_1), (5, .int .i64 n_5), (19, .pointer (some ⟨rt_19, 0, none⟩))]) (.cons rfl (.cons rfl (.cons rfl (.cons rfl (.nil _))))) ?_
    have hK := device_Devices_Drop_B2_ok hg hbd ho2 hz _ hr0 hS hb hBd_0 h16 ht_19
    exact ke_weaken (l' := [(0, .pointer (some ⟨gd_0, 0, none⟩)), (1, str user_1), (5, .int .i64 n_5), (19, .pointer (some ⟨rt_19, 0, none⟩))]) (.cons rfl (.cons rfl (.cons rfl (.cons rfl (.nil _))))) hK
   ·replace hS := ite_false' hS hc31
    refine ke_skip ?_
    have hK := device_Devices_Drop_B2_ok hg hbd ho2 hz _ hr0 hS hb hBd_0 h16 ht_19
    exact ke_weaken (l' := [(0, .pointer (some ⟨gd_0, 0, none⟩)), (1, str user_1), (5, .int .i64 n_5), (19, .pointer (some ⟨rt_19, 0, none⟩))]) (.cons rfl (.cons rfl (.cons rfl (.cons rfl (.nil _))))) hK
theorem device_Devices_Drop_ok (w0 : World) (hg : Gs w0) {ρA : Tags} (hbd : ∀ b, ρA b ≠ 0 → b < w0.heap.size) (hz : Gz ρA) {o : Nat} (ho2 : 2 ≤ o) {d_0 : device_Devices} {user_1 : Str} {gd_0 : Nat} {r : Int × device_Devices} (ho0 : device_Devices.O (fun p => o + p) ρA w0 gd_0 d_0) (hS : device_Devices_Drop d_0 user_1 = some r) :
  Calls Tryz.prog 19 #[.pointer (some ⟨gd_0, 0, none⟩), str user_1] w0 (Ret (fun v w' => ∃ ρ', v = .int .i64 r.1 ∧ device_Devices.O (fun p => o + p) ρ' w' gd_0 r.2 ∧ Tr ρA w0 (rng o 2) ρ' w')) := by
 unfold device_Devices_Drop at hS
 have hb := enter_fr (ρ := ρA) (w := w0) (n := 2) ho2 hbd
 have hz := hz.enter (n := 2) ho2
 obtain ⟨v1, hB3, h2⟩ := ho0
 replace hB3 := hB3.mv (enter_mv (p := 0) (n := 2) (by decide) ho2)
 replace h2 := h2.mv (enter_mv (p := 1) (n := 2) (by decide) ho2)
 replace hB3 : Blk (enter ρA o 2) 100 w0 gd_0 (.cells #[v1, .int .i64 d_0.given] 41 (0, 0)) := hB3
 replace h2 : MapT device_key.ek device_record.c true (enter ρA o 2) 101 w0 v1 d_0.records := h2
 refine calls_of_ke Tryz.func19 rfl (n := 40) rfl rfl (l := [(0, .pointer (some ⟨gd_0, 0, none⟩)), (1, str user_1)]) rfl ?_
 refine ke_seq ?_
 refine ke_region ?_
 refine sr_ev (v := .int .i64 0) (ev_assign rfl) (by decide) ?_
 refine sr_end (l' := [(0, .pointer (some ⟨gd_0, 0, none⟩)), (1, str user_1)]) (.cons rfl (.cons rfl (.nil _))) ?_
 refine ke_seq ?_
 refine ke_seq ?_
 refine ke_region ?_
 refine sr_ev (v := .pointer (some ⟨gd_0, 0, none⟩)) (ev_move rfl) (by decide) ?_
 obtain ⟨y4, hy5, hS⟩ := bind_some' hS
 refine sr_call (vs := [.pointer (some ⟨gd_0, 0, none⟩)]) rfl Tryz.call32 rfl (device_Devices_made_ok _ (hg.fr hz hb) (ρA := (enter ρA o 2)) hb.bd (hz.fr hg hb) (τ0 := (fun p => 100 + p)) (fun p => Nat.le_add_right_of_le (by decide)) (⟨_, hB3, h2⟩ : device_Devices.O (fun p => 100 + p) (enter ρA o 2) w0 gd_0 d_0) hy5) (by decide) ?_
 rintro _ w6 ⟨rfl, hbw7⟩
 have htr8 := Tr.of_below hbw7 hb.bd
 replace hB3 := hB3.mv (htr8.mv (i := 100) rfl)
 replace h2 := h2.mv (htr8.mv (i := 101) rfl)
 replace hb := hb.trans htr8
 refine sr_ev (v := .bool (!y4)) (ev_not rfl) (by decide) ?_
 refine sr_end (l' := [(0, .pointer (some ⟨gd_0, 0, none⟩)), (1, str user_1), (9, .bool (!y4))]) (.cons rfl (.cons rfl (.cons rfl (.nil _)))) ?_
 refine ke_cond (t := !y4) rfl (fun hc9 => ?_) (fun hc9 => ?_)
 ·replace hS := ite_true' hS hc9
  refine ke_seq ?_
  refine ke_region ?_
  refine sr_ev (v := .int .i64 0) (ev_assign rfl) (by decide) ?_
  refine sr_end (l' := [(4, .int .i64 0)]) (.cons rfl (.nil _)) ?_
  cases hS
  exact ke_ret1 Tryz.func19 rfl rfl ⟨_, rfl, leave ρA w0 o 2 (enter ρA o 2), rfl, ⟨_, (hB3.mv (leave_mv (p := 0) (by decide) hb)), (h2.mv (leave_mv (p := 1) (by decide) hb))⟩, (leave_tr ho2 hb)⟩
 ·replace hS := ite_false' hS hc9
  refine ke_skip ?_
  refine ke_seq ?_
  refine ke_region ?_
  refine sr_ev (v := .pointer (some ⟨gd_0, 0, none⟩)) (ev_move rfl) (by decide) ?_
  refine sr_ev (v := .pointer (some ⟨gd_0, 0, none⟩)) (ev_nilCheck rfl) (by decide) ?_
  refine sr_ev (v := .pointer (some ⟨gd_0, 0, none⟩)) (ev_fieldAddr (i := 0) Tryz.underlying41 rfl Tryz.info39 rfl rfl) (by decide) ?_
  refine sr_ev (v := v1) (ev_load Tryz.isAgg39 rfl (hB3.cell rfl)) (by decide) ?_
  refine sr_ev (v := .int .i64 (mlen d_0.records)) (ev_mapLen h2 Tryz.underlying39 (Mv.of_below (i := 101) (ρ := (enter ρA o 2)) (Below.refl _ _)) rfl) (by decide) ?_
  refine sr_ev (v := .int .i64 (mlen d_0.records)) (ev_assign rfl) (by decide) ?_
  refine sr_end (l' := [(0, .pointer (some ⟨gd_0, 0, none⟩)), (1, str user_1), (5, .int .i64 (mlen d_0.records))]) (.cons rfl (.cons rfl (.cons rfl (.nil _)))) ?_
  refine ke_seq ?_
  refine ke_seq ?_
  refine ke_region ?_
  refine sr_ev (v := .pointer (some ⟨gd_0, 0, none⟩)) (ev_move rfl) (by decide) ?_
  refine sr_ev (v := .pointer (some ⟨gd_0, 0, none⟩)) (ev_nilCheck rfl) (by decide) ?_
  refine sr_ev (v := .pointer (some ⟨gd_0, 0, none⟩)) (ev_fieldAddr (i := 0) Tryz.underlying41 rfl Tryz.info39 rfl rfl) (by decide) ?_
  refine sr_ev (v := v1) (ev_load Tryz.isAgg39 rfl (hB3.cell rfl)) (by decide) ?_
  refine sr_rangeM 21 (by decide) h2 rfl Tryz.underlying39 hb.bd rfl (by decide) ?_
  intro r10 ρ11 w12 h13 htr14
  replace h2 := h2.mv (htr14.mv (i := 101) rfl)
  replace hB3 := hB3.mv (htr14.mv (i := 100) rfl)
  replace hb := hb.trans htr14
  refine sr_end (l' := [(0, .pointer (some ⟨gd_0, 0, none⟩)), (1, str user_1), (5, .int .i64 (mlen d_0.records)), (19, .pointer (some ⟨r10, 0, none⟩))]) (.cons rfl (.cons rfl (.cons rfl (.cons rfl (.nil _))))) ?_
  refine ke_block ?_
  have hK := device_Devices_Drop_L1_ok hg hbd ho2 hz _ hS hb hB3 h2 h13
  exact ke_weaken (l' := [(0, .pointer (some ⟨gd_0, 0, none⟩)), (1, str user_1), (5, .int .i64 (mlen d_0.records)), (19, .pointer (some ⟨r10, 0, none⟩))]) (.cons rfl (.cons rfl (.cons rfl (.cons rfl (.nil _))))) (ke_loop hK)
theorem device_Devices_Revoke_ok (w0 : World) (hg : Gs w0) {ρA : Tags} (hbd : ∀ b, ρA b ≠ 0 → b < w0.heap.size) (hz : Gz ρA) {o : Nat} (ho2 : 2 ≤ o) {d_0 : device_Devices} {user_1 : Str} {id_2 : Str} {gd_0 : Nat} {r : Bool × device_Devices} (ho0 : device_Devices.O (fun p => o + p) ρA w0 gd_0 d_0) (hS : device_Devices_Revoke d_0 user_1 id_2 = some r) :
  Calls Tryz.prog 20 #[.pointer (some ⟨gd_0, 0, none⟩), str user_1, str id_2] w0 (Ret (fun v w' => ∃ ρ', v = .bool r.1 ∧ device_Devices.O (fun p => o + p) ρ' w' gd_0 r.2 ∧ Tr ρA w0 (rng o 2) ρ' w')) := by
 unfold device_Devices_Revoke at hS
 have hb := enter_fr (ρ := ρA) (w := w0) (n := 2) ho2 hbd
 have hz := hz.enter (n := 2) ho2
 obtain ⟨v1, hB3, h2⟩ := ho0
 replace hB3 := hB3.mv (enter_mv (p := 0) (n := 2) (by decide) ho2)
 replace h2 := h2.mv (enter_mv (p := 1) (n := 2) (by decide) ho2)
 replace hB3 : Blk (enter ρA o 2) 100 w0 gd_0 (.cells #[v1, .int .i64 d_0.given] 41 (0, 0)) := hB3
 replace h2 : MapT device_key.ek device_record.c true (enter ρA o 2) 101 w0 v1 d_0.records := h2
 refine calls_of_ke Tryz.func20 rfl (n := 31) rfl rfl (l := [(0, .pointer (some ⟨gd_0, 0, none⟩)), (1, str user_1), (2, str id_2)]) rfl ?_
 refine ke_seq ?_
 refine ke_region ?_
 refine sr_ev (v := .bool false) (ev_assign rfl) (by decide) ?_
 refine sr_end (l' := [(0, .pointer (some ⟨gd_0, 0, none⟩)), (1, str user_1), (2, str id_2)]) (.cons rfl (.cons rfl (.cons rfl (.nil _)))) ?_
 refine ke_seq ?_
 refine ke_seq ?_
 refine ke_region ?_
 refine sr_ev (v := .pointer (some ⟨gd_0, 0, none⟩)) (ev_move rfl) (by decide) ?_
 obtain ⟨y4, hy5, hS⟩ := bind_some' hS
 refine sr_call (vs := [.pointer (some ⟨gd_0, 0, none⟩)]) rfl Tryz.call32 rfl (device_Devices_made_ok _ (hg.fr hz hb) (ρA := (enter ρA o 2)) hb.bd (hz.fr hg hb) (τ0 := (fun p => 100 + p)) (fun p => Nat.le_add_right_of_le (by decide)) (⟨_, hB3, h2⟩ : device_Devices.O (fun p => 100 + p) (enter ρA o 2) w0 gd_0 d_0) hy5) (by decide) ?_
 rintro _ w6 ⟨rfl, hbw7⟩
 have htr8 := Tr.of_below hbw7 hb.bd
 replace hB3 := hB3.mv (htr8.mv (i := 100) rfl)
 replace h2 := h2.mv (htr8.mv (i := 101) rfl)
 replace hb := hb.trans htr8
 refine sr_ev (v := .bool (!y4)) (ev_not rfl) (by decide) ?_
 refine sr_end (l' := [(0, .pointer (some ⟨gd_0, 0, none⟩)), (1, str user_1), (2, str id_2), (12, .bool (!y4))]) (.cons rfl (.cons rfl (.cons rfl (.cons rfl (.nil _))))) ?_
 refine ke_cond (t := !y4) rfl (fun hc9 => ?_) (fun hc9 => ?_)
 ·replace hS := ite_true' hS hc9
  refine ke_seq ?_
  refine ke_region ?_
  refine sr_ev (v := .bool false) (ev_assign rfl) (by decide) ?_
  refine sr_end (l' := [(6, .bool false)]) (.cons rfl (.nil _)) ?_
  cases hS
  exact ke_ret1 Tryz.func20 rfl rfl ⟨_, rfl, leave ρA w0 o 2 (enter ρA o 2), rfl, ⟨_, (hB3.mv (leave_mv (p := 0) (by decide) hb)), (h2.mv (leave_mv (p := 1) (by decide) hb))⟩, (leave_tr ho2 hb)⟩
 ·replace hS := ite_false' hS hc9
  refine ke_skip ?_
  refine ke_seq ?_
  refine ke_region ?_
  refine sr_ev (v := str user_1) (ev_move rfl) (by decide) ?_
  refine sr_ev (v := str id_2) (ev_move rfl) (by decide) ?_
  refine sr_ev (v := .agg #[str user_1, str id_2]) (ev_build (vs := #[(0, str user_1), (1, str id_2)]) rfl (fun _ => by kernel_rfl)) (by decide) ?_
  refine sr_allocT 9 (by decide) hb.bd Tryz.zeroValue61 (by decide) ?_
  intro g10 ρ11 w12 hB14 htr13
  replace hB3 := hB3.mv (htr13.mv (i := 100) rfl)
  replace h2 := h2.mv (htr13.mv (i := 101) rfl)
  replace hb := hb.trans htr13
  replace hB14 : Blk ρ11 9 w12 g10 (.cells #[str ([]), str ([])] 61 (0, 0)) := hB14
  refine sr_storeT (v := .agg #[str user_1, str id_2]) (vs := [str user_1, str id_2]) (cs' := #[str user_1, str id_2]) hB14 (by decide) hb.bd rfl rfl rfl Tryz.sizeOf61 rfl rfl rfl ?_
  intro w15 hB141 htr16
  replace hB3 := hB3.mv (htr16.mv (i := 100) rfl)
  replace h2 := h2.mv (htr16.mv (i := 101) rfl)
  replace hb := hb.trans htr16
  replace hB14 : Blk ρ11 9 w15 g10 (.cells #[str user_1, str id_2] 61 (0, 0)) := hB141
  clear hB141
  refine sr_end (l' := [(0, .pointer (some ⟨gd_0, 0, none⟩)), (7, .pointer (some ⟨g10, 0, none⟩))]) (.cons rfl (.cons rfl (.nil _))) ?_
  refine ke_seq ?_
  refine ke_region_j (ρ := ρ11) (fun t => ([10] : List Nat).contains t) 12 Tryz.mixed (fun w18 hw17 => ?_)
  have htr19 := Tr.of_below hw17 hb.bd
  replace hB14 := hB14.mv (htr19.mv (i := 9) rfl)
  replace hB3 := hB3.mv (htr19.mv (i := 100) rfl)
  replace h2 := h2.mv (htr19.mv (i := 101) rfl)
  replace hb := hb.trans htr19
  refine dj_H 0 (v := .pointer (some ⟨gd_0, 0, none⟩)) (by kernel_rfl) (by kernel_rfl) rfl (fun _ _ _ h => h) (sj_refl hb.bd rfl rfl) (fun w1 ρ1 hw1 => ev_move rfl) (by decide) ?_
  refine dj_H 1 (v := .pointer (some ⟨gd_0, 0, none⟩)) (by kernel_rfl) (by kernel_rfl) rfl (fun _ _ _ h => h) (sj_refl hb.bd rfl rfl) (fun w1 ρ1 hw1 => ev_nilCheck rfl) (by decide) ?_
  refine dj_H 2 (v := .pointer (some ⟨gd_0, 0, none⟩)) (by kernel_rfl) (by kernel_rfl) rfl (fun _ _ _ h => h) (sj_refl hb.bd rfl rfl) (fun w1 ρ1 hw1 => ev_fieldAddr (i := 0) Tryz.underlying41 rfl Tryz.info39 rfl rfl) (by decide) ?_
  refine dj_H 3 (v := v1) (by kernel_rfl) (by kernel_rfl) rfl (fun _ _ _ h => h) (sj_refl hb.bd rfl rfl) (fun w1 ρ1 hw1 => ev_load Tryz.isAgg39 rfl ((hB3.mv (hw1.mv (i := 100) rfl)).cell rfl)) (by decide) ?_
  refine dj_H 4 (v := .agg #[str user_1, str id_2]) (by kernel_rfl) (by kernel_rfl) rfl (fun _ _ _ h => h) (sj_refl hb.bd rfl rfl) (fun w1 ρ1 hw1 => ev_loads (cs := [str user_1, str id_2]) Tryz.isAgg61 Tryz.sizeOf61 rfl ((hB14.mv (hw1.mv (i := 9) rfl)).cells (vs := [str user_1, str id_2]) rfl)) (by decide) ?_
  obtain ⟨y55, hy56, hS⟩ := bind_some' hS
  replace hy56 := Option.some.inj hy56
  obtain ⟨cs51, hrd52, hl53, hl54⟩ := h2.look (zcs := [str ([]), str ([]), .int .i64 0]) (z := (device_record.mk ([]) ([]) 0)) Tryz.keyB61 Tryz.underlying39 Tryz.zeroValue57 rfl (device_key.mk user_1 id_2)
  rw [hy56] at hrd52
  obtain rfl : cs51 = [str y55.secret, str y55.challenge, .int .i64 y55.until_] := hrd52
  refine dj_H 5 (v := .tuple #[.agg #[str y55.secret, str y55.challenge, .int .i64 y55.until_], .bool (mhas d_0.records (device_key.mk user_1 id_2))]) (by kernel_rfl) (by kernel_rfl) rfl (fun _ _ _ h => h) (sj_refl hb.bd rfl rfl) (fun w1 ρ1 hw1 => hl54 w1 _ _ (hw1.mv (i := 101) rfl) rfl rfl) (by decide) ?_
  refine dj_H 6 (v := .tuple #[.agg #[str y55.secret, str y55.challenge, .int .i64 y55.until_], .bool (mhas d_0.records (device_key.mk user_1 id_2))]) (by kernel_rfl) (by kernel_rfl) rfl (fun _ _ _ h => h) (sj_refl hb.bd rfl rfl) (fun w1 ρ1 hw1 => ev_move rfl) (by decide) ?_
  refine dj_H 7 (v := .agg #[str y55.secret, str y55.challenge, .int .i64 y55.until_]) (by kernel_rfl) (by kernel_rfl) rfl (fun _ _ _ h => h) (sj_refl hb.bd rfl rfl) (fun w1 ρ1 hw1 => ev_extract rfl rfl) (by decide) ?_
  refine dj_H 8 (v := .bool (mhas d_0.records (device_key.mk user_1 id_2))) (by kernel_rfl) (by kernel_rfl) rfl (fun _ _ _ h => h) (sj_refl hb.bd rfl rfl) (fun w1 ρ1 hw1 => ev_extract rfl rfl) (by decide) ?_
  refine dj_E 9 (by kernel_rfl) rfl ?_
  have jt57 : Tr ρ11 w18 (fun t => ([10] : List Nat).contains t) ρ11 w18 := (Tr.refl hb.bd).weak (fun _ _ => rfl) rfl rfl
  refine sr_allocT 10 (by decide) hb.bd Tryz.zeroValue57 (by decide) ?_
  intro g58 ρ59 w60 hB62 htr61
  replace hB14 := hB14.mv (htr61.mv (i := 9) rfl)
  replace hB3 := hB3.mv (htr61.mv (i := 100) rfl)
  replace h2 := h2.mv (htr61.mv (i := 101) rfl)
  replace hb := hb.trans htr61
  replace jt57 := (jt57.trans htr61).weak (J' := (fun t => ([10] : List Nat).contains t)) (by intro t h; simp [rng] at h ⊢ <;> omega) rfl rfl
  replace hB62 : Blk ρ59 10 w60 g58 (.cells #[str ([]), str ([]), .int .i64 0] 57 (0, 0)) := hB62
  refine dj_next (l' := [(0, .pointer (some ⟨gd_0, 0, none⟩)), (7, .pointer (some ⟨g10, 0, none⟩)), (8, .pointer (some ⟨g58, 0, none⟩)), (23, .agg #[str y55.secret, str y55.challenge, .int .i64 y55.until_]), (24, .bool (mhas d_0.records (device_key.mk user_1 id_2)))]) rfl (.cons rfl (.cons rfl (.cons rfl (.cons rfl (.cons rfl (.nil _)))))) jt57 (by intro t h; simp [rng] at h ⊢ <;> omega) rfl rfl ?_
  refine dj_E 10 (by kernel_rfl) rfl ?_
  have jt63 : Tr ρ59 w60 (fun t => ([10] : List Nat).contains t) ρ59 w60 := (Tr.refl hb.bd).weak (fun _ _ => rfl) rfl rfl
  refine sr_storeT (v := .agg #[str y55.secret, str y55.challenge, .int .i64 y55.until_]) (vs := [str y55.secret, str y55.challenge, .int .i64 y55.until_]) (cs' := #[str y55.secret, str y55.challenge, .int .i64 y55.until_]) hB62 (by decide) hb.bd rfl rfl rfl Tryz.sizeOf57 rfl rfl rfl ?_
  intro w64 hB621 htr65
  replace hB14 := hB14.mv (htr65.mv (i := 9) rfl)
  replace hB3 := hB3.mv (htr65.mv (i := 100) rfl)
  replace h2 := h2.mv (htr65.mv (i := 101) rfl)
  replace hb := hb.trans htr65
  replace jt63 := (jt63.trans htr65).weak (J' := (fun t => ([10] : List Nat).contains t)) (by intro t h; simp [rng] at h ⊢ <;> omega) rfl rfl
  replace hB62 : Blk ρ59 10 w64 g58 (.cells #[str y55.secret, str y55.challenge, .int .i64 y55.until_] 57 (0, 0)) := hB621
  clear hB621
  refine dj_next (l' := [(0, .pointer (some ⟨gd_0, 0, none⟩)), (7, .pointer (some ⟨g10, 0, none⟩)), (24, .bool (mhas d_0.records (device_key.mk user_1 id_2)))]) rfl (.cons rfl (.cons rfl (.cons rfl (.nil _)))) jt63 (by intro t h; simp [rng] at h ⊢ <;> omega) rfl rfl ?_
  refine dj_H 11 (v := .bool (mhas d_0.records (device_key.mk user_1 id_2))) (by kernel_rfl) (by kernel_rfl) rfl (fun _ _ _ h => h) (sj_refl hb.bd rfl rfl) (fun w1 ρ1 hw1 => ev_assign rfl) (by decide) ?_
  refine dj_done rfl (by kernel_rfl) ?_
  refine ke_weaken (l' := [(0, .pointer (some ⟨gd_0, 0, none⟩)), (7, .pointer (some ⟨g10, 0, none⟩)), (9, .bool (mhas d_0.records (device_key.mk user_1 id_2)))]) (.cons rfl (.cons rfl (.cons rfl (.nil _)))) ?_
  refine ke_seq ?_
  refine ke_region_j (ρ := ρ59) (fun t => ([101] : List Nat).contains t) 6 Tryz.mixed (fun w67 hw66 => ?_)
  have htr68 := Tr.of_below hw66 hb.bd
  replace hB14 := hB14.mv (htr68.mv (i := 9) rfl)
  replace hB3 := hB3.mv (htr68.mv (i := 100) rfl)
  replace h2 := h2.mv (htr68.mv (i := 101) rfl)
  replace hb := hb.trans htr68
  refine dj_H 0 (v := .pointer (some ⟨gd_0, 0, none⟩)) (by kernel_rfl) (by kernel_rfl) rfl (fun _ _ _ h => h) (sj_refl hb.bd rfl rfl) (fun w1 ρ1 hw1 => ev_move rfl) (by decide) ?_
  refine dj_H 1 (v := .pointer (some ⟨gd_0, 0, none⟩)) (by kernel_rfl) (by kernel_rfl) rfl (fun _ _ _ h => h) (sj_refl hb.bd rfl rfl) (fun w1 ρ1 hw1 => ev_nilCheck rfl) (by decide) ?_
  refine dj_H 2 (v := .pointer (some ⟨gd_0, 0, none⟩)) (by kernel_rfl) (by kernel_rfl) rfl (fun _ _ _ h => h) (sj_refl hb.bd rfl rfl) (fun w1 ρ1 hw1 => ev_fieldAddr (i := 0) Tryz.underlying41 rfl Tryz.info39 rfl rfl) (by decide) ?_
  refine dj_H 3 (v := v1) (by kernel_rfl) (by kernel_rfl) rfl (fun _ _ _ h => h) (sj_refl hb.bd rfl rfl) (fun w1 ρ1 hw1 => ev_load Tryz.isAgg39 rfl ((hB3.mv (hw1.mv (i := 100) rfl)).cell rfl)) (by decide) ?_
  refine dj_H 4 (v := .agg #[str user_1, str id_2]) (by kernel_rfl) (by kernel_rfl) rfl (fun _ _ _ h => h) (sj_refl hb.bd rfl rfl) (fun w1 ρ1 hw1 => ev_loads (cs := [str user_1, str id_2]) Tryz.isAgg61 Tryz.sizeOf61 rfl ((hB14.mv (hw1.mv (i := 9) rfl)).cells (vs := [str user_1, str id_2]) rfl)) (by decide) ?_
  refine dj_E 5 (by kernel_rfl) rfl ?_
  have jt76 : Tr ρ59 w67 (fun t => ([101] : List Nat).contains t) ρ59 w67 := (Tr.refl hb.bd).weak (fun _ _ => rfl) rfl rfl
  refine sr_mapDel0 (k := (device_key.mk user_1 id_2)) h2 Tryz.keyB61 Tryz.underlying39 (by decide) hb.bd rfl rfl ?_
  intro w77 h21 htr78
  replace hB3 := hB3.mv (htr78.mv (i := 100) rfl)
  replace hb := hb.trans htr78
  replace jt76 := (jt76.trans htr78).weak (J' := (fun t => ([101] : List Nat).contains t)) (by intro t h; simp [rng] at h ⊢ <;> omega) rfl rfl
  replace h2 := h21
  clear h21
  refine dj_next (l' := [(9, .bool (mhas d_0.records (device_key.mk user_1 id_2)))]) rfl (.cons rfl (.nil _)) jt76 (by intro t h; simp [rng] at h ⊢ <;> omega) rfl rfl ?_
  refine dj_done rfl (by kernel_rfl) ?_
  refine ke_weaken (l' := [(9, .bool (mhas d_0.records (device_key.mk user_1 id_2)))]) (.cons rfl (.nil _)) ?_
  refine ke_seq ?_
  refine ke_region ?_
  refine sr_ev (v := .bool (mhas d_0.records (device_key.mk user_1 id_2))) (ev_move rfl) (by decide) ?_
  refine sr_ev (v := .bool (mhas d_0.records (device_key.mk user_1 id_2))) (ev_assign rfl) (by decide) ?_
  refine sr_end (l' := [(6, .bool (mhas d_0.records (device_key.mk user_1 id_2)))]) (.cons rfl (.nil _)) ?_
  cases hS
  exact ke_ret1 Tryz.func20 rfl rfl ⟨_, rfl, leave ρA w0 o 2 ρ59, rfl, ⟨_, (hB3.mv (leave_mv (p := 0) (by decide) hb)), (h2.mv (leave_mv (p := 1) (by decide) hb))⟩, (leave_tr ho2 hb)⟩

end YtangcaaneobhnaaGreatDoor
end Go.Proofs
