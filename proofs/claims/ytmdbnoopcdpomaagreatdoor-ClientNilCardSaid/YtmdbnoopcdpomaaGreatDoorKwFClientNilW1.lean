/- Own work: a part of the proofs of this seat. -/
import Derived.Test.YtmdbnoopcdpomaaGreatDoorProg
import Derived.Test.YtmdbnoopcdpomaaGreatDoorShelf
import Derived.Test.YtmdbnoopcdpomaaGreatDoorIter
import Derived.Test.YtmdbnoopcdpomaaGreatDoorKwFS
import Derived.KernelRfl
set_option linter.unusedVariables false
set_option linter.unusedSimpArgs false
set_option linter.unusedSectionVars false
set_option maxHeartbeats 8000000
set_option maxRecDepth 8000
namespace Go.Proofs
namespace YtmdbnoopcdpomaaGreatDoor
open Go Go.KW Go.KW.S Go.RowKit
theorem Tryz.mixed : Tryz.prog.follows .mixedOrders = true := by kernel_rfl
theorem Tryz.info0 : Tryz.prog.info? 0 = some Tryz.t0 := by kernel_rfl
theorem Tryz.info1 : Tryz.prog.info? 1 = some Tryz.t1 := by kernel_rfl
theorem Tryz.info2 : Tryz.prog.info? 2 = some Tryz.t2 := by kernel_rfl
theorem Tryz.info3 : Tryz.prog.info? 3 = some Tryz.t3 := by kernel_rfl
theorem Tryz.info4 : Tryz.prog.info? 4 = some Tryz.t4 := by kernel_rfl
theorem Tryz.info5 : Tryz.prog.info? 5 = some Tryz.t5 := by kernel_rfl
theorem Tryz.info6 : Tryz.prog.info? 6 = some Tryz.t6 := by kernel_rfl
theorem Tryz.info7 : Tryz.prog.info? 7 = some Tryz.t7 := by kernel_rfl
theorem Tryz.info8 : Tryz.prog.info? 8 = some Tryz.t8 := by kernel_rfl
theorem Tryz.info9 : Tryz.prog.info? 9 = some Tryz.t9 := by kernel_rfl
theorem Tryz.info10 : Tryz.prog.info? 10 = some Tryz.t10 := by kernel_rfl
theorem Tryz.info11 : Tryz.prog.info? 11 = some Tryz.t11 := by kernel_rfl
theorem Tryz.info12 : Tryz.prog.info? 12 = some Tryz.t12 := by kernel_rfl
theorem Tryz.info13 : Tryz.prog.info? 13 = some Tryz.t13 := by kernel_rfl
theorem Tryz.info14 : Tryz.prog.info? 14 = some Tryz.t14 := by kernel_rfl
theorem Tryz.info15 : Tryz.prog.info? 15 = some Tryz.t15 := by kernel_rfl
theorem Tryz.info16 : Tryz.prog.info? 16 = some Tryz.t16 := by kernel_rfl
theorem Tryz.info17 : Tryz.prog.info? 17 = some Tryz.t17 := by kernel_rfl
theorem Tryz.info18 : Tryz.prog.info? 18 = some Tryz.t18 := by kernel_rfl
theorem Tryz.info19 : Tryz.prog.info? 19 = some Tryz.t19 := by kernel_rfl
theorem Tryz.info20 : Tryz.prog.info? 20 = some Tryz.t20 := by kernel_rfl
theorem Tryz.info21 : Tryz.prog.info? 21 = some Tryz.t21 := by kernel_rfl
theorem Tryz.info22 : Tryz.prog.info? 22 = some Tryz.t22 := by kernel_rfl
theorem Tryz.info23 : Tryz.prog.info? 23 = some Tryz.t23 := by kernel_rfl
theorem Tryz.info24 : Tryz.prog.info? 24 = some Tryz.t24 := by kernel_rfl
theorem Tryz.info25 : Tryz.prog.info? 25 = some Tryz.t25 := by kernel_rfl
theorem Tryz.info26 : Tryz.prog.info? 26 = some Tryz.t26 := by kernel_rfl
theorem Tryz.info27 : Tryz.prog.info? 27 = some Tryz.t27 := by kernel_rfl
theorem Tryz.info28 : Tryz.prog.info? 28 = some Tryz.t28 := by kernel_rfl
theorem Tryz.info29 : Tryz.prog.info? 29 = some Tryz.t29 := by kernel_rfl
theorem Tryz.info30 : Tryz.prog.info? 30 = some Tryz.t30 := by kernel_rfl
theorem Tryz.info31 : Tryz.prog.info? 31 = some Tryz.t31 := by kernel_rfl
theorem Tryz.info32 : Tryz.prog.info? 32 = some Tryz.t32 := by kernel_rfl
theorem Tryz.info33 : Tryz.prog.info? 33 = some Tryz.t33 := by kernel_rfl
theorem Tryz.info34 : Tryz.prog.info? 34 = some Tryz.t34 := by kernel_rfl
theorem Tryz.info35 : Tryz.prog.info? 35 = some Tryz.t35 := by kernel_rfl
theorem Tryz.info36 : Tryz.prog.info? 36 = some Tryz.t36 := by kernel_rfl
theorem Tryz.info37 : Tryz.prog.info? 37 = some Tryz.t37 := by kernel_rfl
theorem Tryz.info38 : Tryz.prog.info? 38 = some Tryz.t38 := by kernel_rfl
theorem Tryz.info39 : Tryz.prog.info? 39 = some Tryz.t39 := by kernel_rfl
theorem Tryz.info40 : Tryz.prog.info? 40 = some Tryz.t40 := by kernel_rfl
theorem Tryz.info41 : Tryz.prog.info? 41 = some Tryz.t41 := by kernel_rfl
theorem Tryz.info42 : Tryz.prog.info? 42 = some Tryz.t42 := by kernel_rfl
theorem Tryz.info43 : Tryz.prog.info? 43 = some Tryz.t43 := by kernel_rfl
theorem Tryz.info44 : Tryz.prog.info? 44 = some Tryz.t44 := by kernel_rfl
theorem Tryz.info45 : Tryz.prog.info? 45 = some Tryz.t45 := by kernel_rfl
theorem Tryz.info46 : Tryz.prog.info? 46 = some Tryz.t46 := by kernel_rfl
theorem Tryz.info47 : Tryz.prog.info? 47 = some Tryz.t47 := by kernel_rfl
theorem Tryz.info48 : Tryz.prog.info? 48 = some Tryz.t48 := by kernel_rfl
theorem Tryz.info49 : Tryz.prog.info? 49 = some Tryz.t49 := by kernel_rfl
theorem Tryz.info50 : Tryz.prog.info? 50 = some Tryz.t50 := by kernel_rfl
theorem Tryz.info51 : Tryz.prog.info? 51 = some Tryz.t51 := by kernel_rfl
theorem Tryz.info52 : Tryz.prog.info? 52 = some Tryz.t52 := by kernel_rfl
theorem Tryz.info53 : Tryz.prog.info? 53 = some Tryz.t53 := by kernel_rfl
theorem Tryz.info54 : Tryz.prog.info? 54 = some Tryz.t54 := by kernel_rfl
theorem Tryz.info55 : Tryz.prog.info? 55 = some Tryz.t55 := by kernel_rfl
theorem Tryz.info56 : Tryz.prog.info? 56 = some Tryz.t56 := by kernel_rfl
theorem Tryz.info57 : Tryz.prog.info? 57 = some Tryz.t57 := by kernel_rfl
theorem Tryz.info58 : Tryz.prog.info? 58 = some Tryz.t58 := by kernel_rfl
theorem Tryz.info59 : Tryz.prog.info? 59 = some Tryz.t59 := by kernel_rfl
theorem Tryz.info60 : Tryz.prog.info? 60 = some Tryz.t60 := by kernel_rfl
theorem Tryz.info61 : Tryz.prog.info? 61 = some Tryz.t61 := by kernel_rfl
theorem Tryz.info62 : Tryz.prog.info? 62 = some Tryz.t62 := by kernel_rfl
theorem Tryz.info63 : Tryz.prog.info? 63 = some Tryz.t63 := by kernel_rfl
theorem Tryz.info64 : Tryz.prog.info? 64 = some Tryz.t64 := by kernel_rfl
theorem Tryz.info65 : Tryz.prog.info? 65 = some Tryz.t65 := by kernel_rfl
theorem Tryz.info66 : Tryz.prog.info? 66 = some Tryz.t66 := by kernel_rfl
theorem Tryz.info67 : Tryz.prog.info? 67 = some Tryz.t67 := by kernel_rfl
theorem Tryz.info68 : Tryz.prog.info? 68 = some Tryz.t68 := by kernel_rfl
theorem Tryz.info69 : Tryz.prog.info? 69 = some Tryz.t69 := by kernel_rfl
theorem Tryz.info70 : Tryz.prog.info? 70 = some Tryz.t70 := by kernel_rfl
theorem Tryz.info71 : Tryz.prog.info? 71 = some Tryz.t71 := by kernel_rfl
theorem Tryz.info72 : Tryz.prog.info? 72 = some Tryz.t72 := by kernel_rfl
theorem Tryz.info73 : Tryz.prog.info? 73 = some Tryz.t73 := by kernel_rfl
theorem Tryz.info74 : Tryz.prog.info? 74 = some Tryz.t74 := by kernel_rfl
theorem Tryz.info75 : Tryz.prog.info? 75 = some Tryz.t75 := by kernel_rfl
theorem Tryz.info76 : Tryz.prog.info? 76 = some Tryz.t76 := by kernel_rfl
theorem Tryz.info77 : Tryz.prog.info? 77 = some Tryz.t77 := by kernel_rfl
theorem Tryz.info78 : Tryz.prog.info? 78 = some Tryz.t78 := by kernel_rfl
theorem Tryz.info79 : Tryz.prog.info? 79 = some Tryz.t79 := by kernel_rfl
theorem Tryz.info80 : Tryz.prog.info? 80 = some Tryz.t80 := by kernel_rfl
theorem Tryz.info81 : Tryz.prog.info? 81 = some Tryz.t81 := by kernel_rfl
theorem Tryz.info82 : Tryz.prog.info? 82 = some Tryz.t82 := by kernel_rfl
theorem Tryz.info83 : Tryz.prog.info? 83 = some Tryz.t83 := by kernel_rfl
theorem Tryz.info84 : Tryz.prog.info? 84 = some Tryz.t84 := by kernel_rfl
theorem Tryz.info85 : Tryz.prog.info? 85 = some Tryz.t85 := by kernel_rfl
theorem Tryz.info86 : Tryz.prog.info? 86 = some Tryz.t86 := by kernel_rfl
theorem Tryz.info87 : Tryz.prog.info? 87 = some Tryz.t87 := by kernel_rfl
theorem Tryz.info88 : Tryz.prog.info? 88 = some Tryz.t88 := by kernel_rfl
theorem Tryz.info89 : Tryz.prog.info? 89 = some Tryz.t89 := by kernel_rfl
theorem Tryz.info90 : Tryz.prog.info? 90 = some Tryz.t90 := by kernel_rfl
theorem Tryz.info91 : Tryz.prog.info? 91 = some Tryz.t91 := by kernel_rfl
theorem Tryz.info92 : Tryz.prog.info? 92 = some Tryz.t92 := by kernel_rfl
theorem Tryz.info93 : Tryz.prog.info? 93 = some Tryz.t93 := by kernel_rfl
theorem Tryz.info94 : Tryz.prog.info? 94 = some Tryz.t94 := by kernel_rfl
theorem Tryz.info95 : Tryz.prog.info? 95 = some Tryz.t95 := by kernel_rfl
theorem Tryz.info96 : Tryz.prog.info? 96 = some Tryz.t96 := by kernel_rfl
theorem Tryz.info97 : Tryz.prog.info? 97 = some Tryz.t97 := by kernel_rfl
theorem Tryz.info98 : Tryz.prog.info? 98 = some Tryz.t98 := by kernel_rfl
theorem Tryz.info99 : Tryz.prog.info? 99 = some Tryz.t99 := by kernel_rfl
theorem Tryz.info100 : Tryz.prog.info? 100 = some Tryz.t100 := by kernel_rfl
theorem Tryz.info101 : Tryz.prog.info? 101 = some Tryz.t101 := by kernel_rfl
theorem Tryz.info102 : Tryz.prog.info? 102 = some Tryz.t102 := by kernel_rfl
theorem Tryz.info103 : Tryz.prog.info? 103 = some Tryz.t103 := by kernel_rfl
theorem Tryz.info104 : Tryz.prog.info? 104 = some Tryz.t104 := by kernel_rfl
theorem Tryz.info105 : Tryz.prog.info? 105 = some Tryz.t105 := by kernel_rfl
theorem Tryz.info106 : Tryz.prog.info? 106 = some Tryz.t106 := by kernel_rfl
theorem Tryz.info107 : Tryz.prog.info? 107 = some Tryz.t107 := by kernel_rfl
theorem Tryz.info108 : Tryz.prog.info? 108 = some Tryz.t108 := by kernel_rfl
theorem Tryz.info109 : Tryz.prog.info? 109 = some Tryz.t109 := by kernel_rfl
theorem Tryz.info110 : Tryz.prog.info? 110 = some Tryz.t110 := by kernel_rfl
theorem Tryz.info111 : Tryz.prog.info? 111 = some Tryz.t111 := by kernel_rfl
theorem Tryz.info112 : Tryz.prog.info? 112 = some Tryz.t112 := by kernel_rfl
theorem Tryz.info113 : Tryz.prog.info? 113 = some Tryz.t113 := by kernel_rfl
theorem Tryz.info114 : Tryz.prog.info? 114 = some Tryz.t114 := by kernel_rfl
theorem Tryz.info115 : Tryz.prog.info? 115 = some Tryz.t115 := by kernel_rfl
theorem Tryz.info116 : Tryz.prog.info? 116 = some Tryz.t116 := by kernel_rfl
theorem Tryz.info117 : Tryz.prog.info? 117 = some Tryz.t117 := by kernel_rfl
theorem Tryz.info118 : Tryz.prog.info? 118 = some Tryz.t118 := by kernel_rfl
theorem Tryz.info119 : Tryz.prog.info? 119 = some Tryz.t119 := by kernel_rfl
theorem Tryz.info120 : Tryz.prog.info? 120 = some Tryz.t120 := by kernel_rfl
theorem Tryz.info121 : Tryz.prog.info? 121 = some Tryz.t121 := by kernel_rfl
theorem Tryz.info122 : Tryz.prog.info? 122 = some Tryz.t122 := by kernel_rfl
theorem Tryz.info123 : Tryz.prog.info? 123 = some Tryz.t123 := by kernel_rfl
theorem Tryz.info124 : Tryz.prog.info? 124 = some Tryz.t124 := by kernel_rfl
theorem Tryz.info125 : Tryz.prog.info? 125 = some Tryz.t125 := by kernel_rfl
theorem Tryz.info126 : Tryz.prog.info? 126 = some Tryz.t126 := by kernel_rfl
theorem Tryz.info127 : Tryz.prog.info? 127 = some Tryz.t127 := by kernel_rfl
theorem Tryz.info128 : Tryz.prog.info? 128 = some Tryz.t128 := by kernel_rfl
theorem Tryz.info129 : Tryz.prog.info? 129 = some Tryz.t129 := by kernel_rfl
theorem Tryz.info130 : Tryz.prog.info? 130 = some Tryz.t130 := by kernel_rfl
theorem Tryz.info131 : Tryz.prog.info? 131 = some Tryz.t131 := by kernel_rfl
theorem Tryz.info132 : Tryz.prog.info? 132 = some Tryz.t132 := by kernel_rfl
theorem Tryz.info133 : Tryz.prog.info? 133 = some Tryz.t133 := by kernel_rfl
theorem Tryz.info134 : Tryz.prog.info? 134 = some Tryz.t134 := by kernel_rfl
theorem Tryz.info135 : Tryz.prog.info? 135 = some Tryz.t135 := by kernel_rfl
theorem Tryz.info136 : Tryz.prog.info? 136 = some Tryz.t136 := by kernel_rfl
theorem Tryz.info137 : Tryz.prog.info? 137 = some Tryz.t137 := by kernel_rfl
theorem Tryz.info138 : Tryz.prog.info? 138 = some Tryz.t138 := by kernel_rfl
theorem Tryz.info139 : Tryz.prog.info? 139 = some Tryz.t139 := by kernel_rfl
theorem Tryz.info140 : Tryz.prog.info? 140 = some Tryz.t140 := by kernel_rfl
theorem Tryz.info141 : Tryz.prog.info? 141 = some Tryz.t141 := by kernel_rfl
theorem Tryz.info142 : Tryz.prog.info? 142 = some Tryz.t142 := by kernel_rfl
theorem Tryz.info143 : Tryz.prog.info? 143 = some Tryz.t143 := by kernel_rfl
theorem Tryz.info144 : Tryz.prog.info? 144 = some Tryz.t144 := by kernel_rfl
theorem Tryz.info145 : Tryz.prog.info? 145 = some Tryz.t145 := by kernel_rfl
theorem Tryz.info146 : Tryz.prog.info? 146 = some Tryz.t146 := by kernel_rfl
theorem Tryz.info147 : Tryz.prog.info? 147 = some Tryz.t147 := by kernel_rfl
theorem Tryz.info148 : Tryz.prog.info? 148 = some Tryz.t148 := by kernel_rfl
theorem Tryz.info149 : Tryz.prog.info? 149 = some Tryz.t149 := by kernel_rfl
theorem Tryz.info150 : Tryz.prog.info? 150 = some Tryz.t150 := by kernel_rfl
theorem Tryz.info151 : Tryz.prog.info? 151 = some Tryz.t151 := by kernel_rfl
theorem Tryz.info152 : Tryz.prog.info? 152 = some Tryz.t152 := by kernel_rfl
theorem Tryz.info153 : Tryz.prog.info? 153 = some Tryz.t153 := by kernel_rfl
theorem Tryz.info154 : Tryz.prog.info? 154 = some Tryz.t154 := by kernel_rfl
theorem Tryz.info155 : Tryz.prog.info? 155 = some Tryz.t155 := by kernel_rfl
theorem Tryz.info156 : Tryz.prog.info? 156 = some Tryz.t156 := by kernel_rfl
theorem Tryz.info157 : Tryz.prog.info? 157 = some Tryz.t157 := by kernel_rfl
theorem Tryz.info158 : Tryz.prog.info? 158 = some Tryz.t158 := by kernel_rfl
structure Gs (w : World) : Prop where
 tab0_ : ∀ i x, idx tab_digest_digits i = some x → w.cell? ⟨0, 0 + i.toNat * 1, none⟩ = some (.int .u8 x)
 iv1_ : ∃ m, w.cell? ⟨1, 0, none⟩ = some (.int .i64 m)
theorem Gs.below {w w' : World} (h : Gs w) (s : Below w.heap.size w w') : Gs w' := ⟨fun i x hx => cell_below (h.tab0_ i x hx) s, h.iv1_.imp fun _ hm => cell_below hm s⟩
structure Gz (ρ : Tags) : Prop where
 z0 : ρ 0 = 0
 z1 : ρ 1 = 0
theorem Gs.fr {ρ0 ρ : Tags} {w0 w : World} (h : Gs w0) (hz : Gz ρ0) (hb : Fr ρ0 w0 ρ w) : Gs w := ⟨fun i x hx => cell_fr (h.tab0_ i x hx) hz.z0 hb, h.iv1_.imp fun _ hm => cell_fr hm hz.z1 hb⟩
theorem Gz.fr {ρ0 ρ : Tags} {w0 w : World} (hz : Gz ρ0) (h : Gs w0) (hb : Fr ρ0 w0 ρ w) : Gz ρ := ⟨tag_fr (h.tab0_ 0 _ rfl) hz.z0 hb, h.iv1_.elim fun _ hm => tag_fr hm hz.z1 hb⟩
theorem Gz.enter {ρ : Tags} {o n : Nat} (hz : Gz ρ) (ho : 2 ≤ o) : Gz (enter ρ o n) := ⟨enter_zero ho hz.z0, enter_zero ho hz.z1⟩
theorem Gz.flat1 {ρ : Tags} (hz : Gz ρ) : Gz (flat1 ρ) := ⟨flat1_zero hz.z0, flat1_zero hz.z1⟩
theorem Gs.tab0 {w : World} (h : Gs w) {i x : Int} (hx : idx tab_digest_digits i = some x) : w.cell? ⟨0, 0 + i.toNat * 1, none⟩ = some (.int .u8 x) := h.tab0_ i x hx
theorem lib_Clone_ok {w : World} {A A1 : Nat → Prop} {B : Nat} {v : Value} {xs r : List Str} (hv : SlR strC A1 w v xs) (hA : ∀ b, A b → b < w.heap.size) (hB : B ≤ w.heap.size) (hS : lib_Clone xs = some r) :
  Calls Tryz.prog 81 #[v] w (Ret (Fresh strC 9 A B w r)) :=
 clone_ok (fun b off n c zs w h1 h2 h3 => Tryz.slices_Clone_string b off n c zs w h1 h2 h3) (fun n c w => Tryz.slices_Clone_string_nil n c w) (fun a c w => Tryz.slices_Clone_string_zero a c w) hv hA hB hS
theorem lib_Contains_ok (w0 : World) (hg : Gs w0) {s t : Str} {r : Bool} (hS : lib_Contains s t = some r) : Calls Tryz.prog 75 #[str s, str t] w0 (Ret fun v w' => v = .bool r ∧ Below w0.heap.size w0 w') :=
 contains_ok (gm := 1) (fun s t m w hs hm => Tryz.strings_Contains s t m w hs hm) hg.iv1_ hS
theorem lib_Trim_ok (w0 : World) (hg : Gs w0) {s t : Str} {r : Str} (hS : lib_Trim s t = some r) : Calls Tryz.prog 103 #[str s, str t] w0 (Ret fun v w' => v = str r ∧ Below w0.heap.size w0 w') :=
 trim_ok (fun s c hc w hs => Tryz.strings_Trim_one s c hc w hs) hS
theorem Tryz.eq24 (x y : api_Verifier) : EqAgg Tryz.prog 24 (#[str x.Salt, .int .i64 x.Rounds, str x.Hash]) (#[str y.Salt, .int .i64 y.Rounds, str y.Hash]) (api_Verifier.eqb x y) :=
 eqAgg_of Tryz.underlying24 (by kernel_rfl) (by kernel_rfl) (.cons (by decide) Tryz.isAgg9 rfl rfl (eqCell_str Tryz.underlying9 _ _) (.cons (by decide) Tryz.isAgg3 rfl rfl (eqCell_int Tryz.underlying3 _ _) (.cons (by decide) Tryz.isAgg9 rfl rfl (eqCell_str Tryz.underlying9 _ _) (.nil)))) (by simp [api_Verifier.eqb, Bool.and_assoc])
theorem api_Verifier.eqb_iff (x y : api_Verifier) : api_Verifier.eqb x y = decide (x = y) := by
 cases x; cases y; rw [Bool.eq_iff_iff]; simp [api_Verifier.eqb, and_assoc]
theorem Tryz.keyB9 : KeyB Tryz.prog 9 str := keyB_str Tryz.underlying9
theorem law36_short_L1_ok {w0 : World} (hg : Gs w0) {A0 : Nat → Prop} (hA0 : ∀ b, A0 b → b < w0.heap.size) : ∀ (n : Nat), ∀ {r : Bool} {l_0 : List Str} {i_3 : Int} {vl_0 : Value}, law36_short_L1 n l_0 i_3 = some r → ∀ {w : World} {A : Nat → Prop}, (Below w0.heap.size w0 w) → (∀ b, A b → b < w.heap.size) → (∀ b, A0 b → A b) → (Hp A w0.heap.size w []) → (SlR strC A w vl_0 l_0) → KE Tryz.prog 14 (Ret (fun v w' => v = .bool r ∧ Below w0.heap.size w0 w')) 19 [.code (sub (bodyOf Tryz.f14) [2, 1, 2, 2, 1]), .inLoop (sub (bodyOf Tryz.f14) [2, 1, 2, 2, 1]), .inBlock 0, .code (sub (bodyOf Tryz.f14) [2, 2])] [(0, vl_0), (3, .int .i64 i_3)] w := by
 intro n
 induction n with
 | zero => intro r l_0 i_3 vl_0 hS; cases hS
 | succ n ih =>
  have hr0 : ∀ {r : Bool} {l_0 : List Str} {i_3 : Int} {vl_0 : Value}, law36_short_L1 n l_0 i_3 = some r → ∀ {w : World} {A : Nat → Prop}, (Below w0.heap.size w0 w) → (∀ b, A b → b < w.heap.size) → (∀ b, A0 b → A b) → (Hp A w0.heap.size w []) → (SlR strC A w vl_0 l_0) → KE Tryz.prog 14 (Ret (fun v w' => v = .bool r ∧ Below w0.heap.size w0 w')) 19 [.inLoop (sub (bodyOf Tryz.f14) [2, 1, 2, 2, 1]), .inBlock 0, .code (sub (bodyOf Tryz.f14) [2, 2])] [(0, vl_0), (3, .int .i64 i_3)] w := fun {r} {l_0} {i_3} {vl_0} hS {w} {A} hb hA hi hH hl_0 => ke_inLoop (ih hS hb hA hi hH hl_0)
  clear ih
  intro r l_0 i_3 vl_0 hS w A hb hA hi hH hl_0
  unfold law36_short_L1 at hS
  refine ke_seq ?_
  refine ke_seq ?_
  refine ke_region ?_
  refine sr_ev (v := .int .i64 i_3) (ev_move rfl) (by decide) ?_
  refine sr_ev (v := vl_0) (ev_move rfl) (by decide) ?_
  refine sr_ev (v := .int .i64 (l_0.length : Int)) (ev_sllen Tryz.underlying25 rfl hl_0) (by decide) ?_
  refine sr_ev (v := .bool (decide (i_3 < (l_0.length : Int)))) (ev_lt rfl rfl) (by decide) ?_
  refine sr_end (l' := [(0, vl_0), (3, .int .i64 i_3), (7, .bool (decide (i_3 < (l_0.length : Int))))]) (.cons rfl (.cons rfl (.cons rfl (.nil _)))) ?_
  refine ke_cond (t := decide (i_3 < (l_0.length : Int))) rfl (fun hc3 => ?_) (fun hc3 => ?_)
  ·replace hS := ite_true' hS hc3
   refine ke_skip ?_
   refine ke_seq ?_
   refine ke_block ?_
   refine ke_seq ?_
   refine ke_region ?_
   refine sr_ev (v := vl_0) (ev_move rfl) (by decide) ?_
   refine sr_ev (v := .int .i64 i_3) (ev_move rfl) (by decide) ?_
   obtain ⟨y4, hy5, hS⟩ := bind_some' hS
   refine sr_index hl_0 Tryz.underlying25 Tryz.info9 rfl rfl rfl hy5 (by decide) ?_
   intro b6 o7 cs9 he8
   obtain rfl : cs9 = [str y4] := he8.rd
   refine sr_ev (v := str y4) (ev_load Tryz.isAgg9 rfl (he8.cell 0 _ rfl)) (by decide) ?_
   refine sr_ev (v := .int .i64 (y4.length : Int)) (ev_slen Tryz.underlying9 rfl) (by decide) ?_
   refine sr_ev (v := .bool (decide ((y4.length : Int) > 300))) (ev_gt rfl rfl) (by decide) ?_
   refine sr_end (l' := [(0, vl_0), (3, .int .i64 i_3), (15, .bool (decide ((y4.length : Int) > 300)))]) (.cons rfl (.cons rfl (.cons rfl (.nil _)))) ?_
   refine ke_cond (t := decide ((y4.length : Int) > 300)) rfl (fun hc10 => ?_) (fun hc10 => ?_)
   ·replace hS := ite_true' hS hc10
    refine ke_seq ?_
    refine ke_region ?_
    refine sr_ev (v := .bool false) (ev_assign rfl) (by decide) ?_
    refine sr_end (l' := [(2, .bool false)]) (.cons rfl (.nil _)) ?_
    cases hS
    exact ke_ret1 Tryz.func14 rfl rfl ⟨_, rfl, rfl, hb⟩
   ·replace hS := ite_false' hS hc10
    refine ke_skip ?_
    refine ke_inBlock ?_
    refine ke_region ?_
    refine sr_ev (v := .int .i64 i_3) (ev_move rfl) (by decide) ?_
    refine sr_ev (v := .int .i64 (IntKind.i64.wrap (i_3 + 1))) (ev_add rfl rfl) (by decide) ?_
    refine sr_ev (v := .int .i64 (IntKind.i64.wrap (i_3 + 1))) (ev_assign rfl) (by decide) ?_
    refine sr_end (l' := [(0, vl_0), (3, .int .i64 (IntKind.i64.wrap (i_3 + 1)))]) (.cons rfl (.cons rfl (.nil _))) ?_
    have hK := hr0 hS hb hA hi hH hl_0
    exact ke_weaken (l' := [(0, vl_0), (3, .int .i64 (IntKind.i64.wrap (i_3 + 1)))]) (.cons rfl (.cons rfl (.nil _))) hK
  ·replace hS := ite_false' hS hc3
   refine ke_exit (k' := _) rfl ?_
   refine ke_seq ?_
   refine ke_region ?_
   refine sr_ev (v := vl_0) (ev_move rfl) (by decide) ?_
   refine sr_ev (v := .int .i64 (l_0.length : Int)) (ev_sllen Tryz.underlying25 rfl hl_0) (by decide) ?_
   refine sr_ev (v := .bool (decide ((l_0.length : Int) ≤ 20))) (ev_le rfl rfl) (by decide) ?_
   refine sr_ev (v := .bool (decide ((l_0.length : Int) ≤ 20))) (ev_assign rfl) (by decide) ?_
   refine sr_end (l' := [(2, .bool (decide ((l_0.length : Int) ≤ 20)))]) (.cons rfl (.nil _)) ?_
   cases hS
   exact ke_ret1 Tryz.func14 rfl rfl ⟨_, rfl, rfl, hb⟩
theorem law36_short_ok {A0 : Nat → Prop} (w0 : World) (hg : Gs w0) {l_0 : List Str} {v1 : Value} {r : Bool} (h2 : SlR strC A0 w0 v1 l_0) (hS : law36_short l_0 = some r) :
  Calls Tryz.prog 14 #[v1] w0 (Ret (fun v w' => v = .bool r ∧ Below w0.heap.size w0 w')) := by
 unfold law36_short at hS
 have hb := Below.refl w0.heap.size w0
 replace h2 := h2.weak (A' := fun _ => False) (fun _ h => h.elim)
 obtain ⟨A0, hA0, hAe⟩ : ∃ A0 : Nat → Prop, (∀ b, A0 b → b < w0.heap.size) ∧ A0 = fun _ => False := ⟨_, fun _ h => h.elim, rfl⟩
 rw [← hAe] at h2
 clear hAe
 have hA := hA0
 have hi : ∀ b, A0 b → A0 b := fun _ h => h
 have hH := Hp.nil A0 w0.heap.size w0
 refine calls_of_ke Tryz.func14 rfl (n := 19) rfl rfl (l := [(0, v1)]) rfl ?_
 refine ke_seq ?_
 refine ke_region ?_
 refine sr_ev (v := .bool false) (ev_assign rfl) (by decide) ?_
 refine sr_end (l' := [(0, v1)]) (.cons rfl (.nil _)) ?_
 refine ke_seq ?_
 refine ke_seq ?_
 refine ke_region ?_
 refine sr_ev (v := .int .i64 0) (ev_assign rfl) (by decide) ?_
 refine sr_end (l' := [(0, v1), (3, .int .i64 0)]) (.cons rfl (.cons rfl (.nil _))) ?_
 refine ke_block ?_
 have hK := law36_short_L1_ok hg hA0 _ hS hb hA hi hH h2
 exact ke_weaken (l' := [(0, v1), (3, .int .i64 0)]) (.cons rfl (.cons rfl (.nil _))) (ke_loop hK)
theorem law36_small_ok (w0 : World) (hg : Gs w0) {ρA : Tags} (hbd : ∀ b, ρA b ≠ 0 → b < w0.heap.size) (hz : Gz ρA) {c_0 : api_Client} {v1 : Value} {v3 : Value} {r : Bool} (h2 : SlR strC (Wb ρA) w0 v1 c_0.Redirects) (h4 : SlR strC (Wb ρA) w0 v3 c_0.Scopes) (hS : law36_small c_0 = some r) :
  Calls Tryz.prog 10 #[.agg #[str c_0.ID, .int .i64 c_0.Kind, str c_0.Tenant, str c_0.Secret.Salt, .int .i64 c_0.Secret.Rounds, str c_0.Secret.Hash, v1, v3, str c_0.Logout]] w0 (Ret (fun v w' => v = .bool r ∧ Below w0.heap.size w0 w')) := by
 unfold law36_small at hS
 have hb := flat1_fr (ρ := ρA) (w := w0) hbd
 have hz := hz.flat1
 replace h2 := SlR.mv h2 flat1_rd
 replace h4 := SlR.mv h4 flat1_rd
 refine calls_of_ke Tryz.func10 rfl (n := 43) rfl rfl (l := [(0, .agg #[str c_0.ID, .int .i64 c_0.Kind, str c_0.Tenant, str c_0.Secret.Salt, .int .i64 c_0.Secret.Rounds, str c_0.Secret.Hash, v1, v3, str c_0.Logout])]) rfl ?_
 refine ke_seq ?_
 refine ke_region ?_
 refine sr_boxT 3 (by decide) hb.bd rfl (by decide) ?_
 intro g5 ρ6 w7 hB9 htr8
 replace h2 := h2.mv htr8.rd
 replace h4 := h4.mv htr8.rd
 replace hb := hb.trans htr8
 replace hB9 : Blk ρ6 3 w7 g5 (.cells #[str c_0.ID, .int .i64 c_0.Kind, str c_0.Tenant, str c_0.Secret.Salt, .int .i64 c_0.Secret.Rounds, str c_0.Secret.Hash, v1, v3, str c_0.Logout] 27 (0, 0)) := hB9
 refine sr_ev (v := .bool false) (ev_assign rfl) (by decide) ?_
 refine sr_end (l' := [(1, .pointer (some ⟨g5, 0, none⟩))]) (.cons rfl (.nil _)) ?_
 refine ke_seq ?_
 refine ke_region ?_
 refine sr_ev (v := .pointer (some ⟨g5, 0, none⟩)) (ev_fieldAddr (i := 0) Tryz.underlying27 rfl Tryz.info9 rfl rfl) (by decide) ?_
 refine sr_ev (v := str c_0.ID) (ev_load Tryz.isAgg9 rfl (hB9.cell rfl)) (by decide) ?_
 refine sr_ev (v := .int .i64 (c_0.ID.length : Int)) (ev_slen Tryz.underlying9 rfl) (by decide) ?_
 refine sr_ev (v := .bool (decide ((c_0.ID.length : Int) ≤ 300))) (ev_le rfl rfl) (by decide) ?_
 refine sr_ev (v := .bool (decide ((c_0.ID.length : Int) ≤ 300))) (ev_move rfl) (by decide) ?_
 refine sr_join (m := 5) (C := fun (x : Bool) w1 => x = ((decide ((c_0.ID.length : Int) ≤ 300)) && (decide ((c_0.Tenant.length : Int) ≤ 300))) ∧ w7 = w1) (l' := fun x => [(1, .pointer (some ⟨g5, 0, none⟩)), (12, .bool x)]) ?_ ?_
 ·rintro _ _ ⟨rfl, rfl⟩
  refine sr_ev (v := .bool ((decide ((c_0.ID.length : Int) ≤ 300)) && (decide ((c_0.Tenant.length : Int) ≤ 300)))) (ev_move rfl) (by decide) ?_
  refine sr_join (m := 5) (C := fun (x : Bool) w1 => x = (((decide ((c_0.ID.length : Int) ≤ 300)) && (decide ((c_0.Tenant.length : Int) ≤ 300))) && (decide ((c_0.Logout.length : Int) ≤ 300))) ∧ w7 = w1) (l' := fun x => [(1, .pointer (some ⟨g5, 0, none⟩)), (18, .bool x)]) ?_ ?_
  ·rintro _ _ ⟨rfl, rfl⟩
   refine sr_ev (v := .bool (((decide ((c_0.ID.length : Int) ≤ 300)) && (decide ((c_0.Tenant.length : Int) ≤ 300))) && (decide ((c_0.Logout.length : Int) ≤ 300)))) (ev_move rfl) (by decide) ?_
   refine sr_join (m := 6) (C := fun (x : Bool) w1 => x = ((((decide ((c_0.ID.length : Int) ≤ 300)) && (decide ((c_0.Tenant.length : Int) ≤ 300))) && (decide ((c_0.Logout.length : Int) ≤ 300))) && (decide ((c_0.Secret.Salt.length : Int) ≤ 300))) ∧ w7 = w1) (l' := fun x => [(1, .pointer (some ⟨g5, 0, none⟩)), (25, .bool x)]) ?_ ?_
   ·rintro _ _ ⟨rfl, rfl⟩
    refine sr_ev (v := .bool ((((decide ((c_0.ID.length : Int) ≤ 300)) && (decide ((c_0.Tenant.length : Int) ≤ 300))) && (decide ((c_0.Logout.length : Int) ≤ 300))) && (decide ((c_0.Secret.Salt.length : Int) ≤ 300)))) (ev_move rfl) (by decide) ?_
    refine sr_join (m := 6) (C := fun (x : Bool) w1 => x = (((((decide ((c_0.ID.length : Int) ≤ 300)) && (decide ((c_0.Tenant.length : Int) ≤ 300))) && (decide ((c_0.Logout.length : Int) ≤ 300))) && (decide ((c_0.Secret.Salt.length : Int) ≤ 300))) && (decide ((c_0.Secret.Hash.length : Int) ≤ 300))) ∧ w7 = w1) (l' := fun x => [(1, .pointer (some ⟨g5, 0, none⟩)), (32, .bool x)]) ?_ ?_
    ·rintro _ _ ⟨rfl, rfl⟩
     refine sr_ev (v := .bool (((((decide ((c_0.ID.length : Int) ≤ 300)) && (decide ((c_0.Tenant.length : Int) ≤ 300))) && (decide ((c_0.Logout.length : Int) ≤ 300))) && (decide ((c_0.Secret.Salt.length : Int) ≤ 300))) && (decide ((c_0.Secret.Hash.length : Int) ≤ 300)))) (ev_move rfl) (by decide) ?_
     obtain ⟨z44, hz46, hS⟩ := bind_some' hS
     refine sr_join (m := 4) (C := fun (z : Bool) w1 => z44 = z ∧ ∃ ρ1, Tr ρ6 w7 (fun _ => false) ρ1 w1) (l' := fun z => [(1, .pointer (some ⟨g5, 0, none⟩)), (37, .bool z)]) ?_ ?_
     ·rintro _ w47 ⟨rfl, ρ48, hj45⟩
      replace hB9 := hB9.mv (hj45.mv (i := 3) rfl)
      replace h2 := h2.mv hj45.rd
      replace h4 := h4.mv hj45.rd
      replace hb := hb.trans hj45
      refine sr_ev (v := .bool z44) (ev_move rfl) (by decide) ?_
      obtain ⟨z57, hz59, hS⟩ := bind_some' hS
      refine sr_join (m := 4) (C := fun (z : Bool) w1 => z57 = z ∧ ∃ ρ1, Tr ρ48 w47 (fun _ => false) ρ1 w1) (l' := fun z => [(42, .bool z)]) ?_ ?_
      ·rintro _ w60 ⟨rfl, ρ61, hj58⟩
       replace hb := hb.trans hj58
       refine sr_ev (v := .bool z57) (ev_assign rfl) (by decide) ?_
       refine sr_end (l' := [(2, .bool z57)]) (.cons rfl (.nil _)) ?_
       cases hS
       exact ke_ret1 Tryz.func10 rfl rfl ⟨_, rfl, rfl, (hb.below (flat1_le _))⟩
      ·intro K56
       clear hS
       have hj58 : Tr ρ48 w47 (fun _ => false) ρ48 w47 := (Tr.refl hb.bd).weak (fun _ _ => rfl) rfl rfl
       rcases Bool.eq_false_or_eq_true z44 with hg55 | hg55
       ·have hS := ite_true' hz59 hg55
        refine sr_evg (b := true) (e := 38) rfl rfl hg55 (v := .pointer (some ⟨g5, 7, none⟩)) (ev_fieldAddr (i := 5) Tryz.underlying27 rfl Tryz.info25 rfl rfl) (by decide) ?_
        refine sr_evg (b := true) (e := 38) rfl rfl hg55 (v := v3) (ev_load Tryz.isAgg25 rfl (hB9.cell rfl)) (by decide) ?_
        obtain ⟨y63, hy64, hS⟩ := bind_some' hS
        refine sr_callg (b := true) (e := 38) rfl rfl hg55 (vs := [v3]) rfl Tryz.call14 rfl (law36_short_ok _ (hg.fr hz hb) h4.asSl hy64) (by decide) ?_
        rintro _ w65 ⟨rfl, hbw66⟩
        have htr67 := Tr.of_below hbw66 hb.bd
        replace hb := hb.trans htr67
        replace hj58 := (hj58.trans htr67).weak (J' := (fun _ => false)) (by intro t h; simp [rng] at h ⊢ <;> omega) rfl rfl
        refine sr_ev (v := .bool y63) (ev_pick_t rfl hg55 rfl) (by decide) ?_
        exact sr_weaken (l' := [(42, .bool y63)]) (.cons rfl (.nil _)) (K56 y63 _ ⟨(Option.some.inj hS).symm, _, hj58⟩)
       ·have hS := ite_false' hz59 hg55
        refine sr_pass (e := 38) rfl rfl (by rw [hg55]; rfl) (by decide) ?_
        refine sr_pass (e := 38) rfl rfl (by rw [hg55]; rfl) (by decide) ?_
        refine sr_pass (e := 38) rfl rfl (by rw [hg55]; rfl) (by decide) ?_
        refine sr_ev (v := .bool false) (ev_pick_f rfl hg55 rfl) (by decide) ?_
        exact sr_weaken (l' := [(42, .bool false)]) (.cons rfl (.nil _)) (K56 false _ ⟨(Option.some.inj hS).symm, _, hj58⟩)
     ·intro K43
      clear hS
      have hj45 : Tr ρ6 w7 (fun _ => false) ρ6 w7 := (Tr.refl hb.bd).weak (fun _ _ => rfl) rfl rfl
      rcases Bool.eq_false_or_eq_true (((((decide ((c_0.ID.length : Int) ≤ 300)) && (decide ((c_0.Tenant.length : Int) ≤ 300))) && (decide ((c_0.Logout.length : Int) ≤ 300))) && (decide ((c_0.Secret.Salt.length : Int) ≤ 300))) && (decide ((c_0.Secret.Hash.length : Int) ≤ 300))) with hg42 | hg42
      ·have hS := ite_true' hz46 hg42
       refine sr_evg (b := true) (e := 33) rfl rfl hg42 (v := .pointer (some ⟨g5, 6, none⟩)) (ev_fieldAddr (i := 4) Tryz.underlying27 rfl Tryz.info25 rfl rfl) (by decide) ?_
       refine sr_evg (b := true) (e := 33) rfl rfl hg42 (v := v1) (ev_load Tryz.isAgg25 rfl (hB9.cell rfl)) (by decide) ?_
       obtain ⟨y50, hy51, hS⟩ := bind_some' hS
       refine sr_callg (b := true) (e := 33) rfl rfl hg42 (vs := [v1]) rfl Tryz.call14 rfl (law36_short_ok _ (hg.fr hz hb) h2.asSl hy51) (by decide) ?_
       rintro _ w52 ⟨rfl, hbw53⟩
       have htr54 := Tr.of_below hbw53 hb.bd
       replace hB9 := hB9.mv (htr54.mv (i := 3) rfl)
       replace h2 := h2.mv htr54.rd
       replace h4 := h4.mv htr54.rd
       replace hb := hb.trans htr54
       replace hj45 := (hj45.trans htr54).weak (J' := (fun _ => false)) (by intro t h; simp [rng] at h ⊢ <;> omega) rfl rfl
       refine sr_ev (v := .bool y50) (ev_pick_t rfl hg42 rfl) (by decide) ?_
       exact sr_weaken (l' := [(1, .pointer (some ⟨g5, 0, none⟩)), (37, .bool y50)]) (.cons rfl (.cons rfl (.nil _))) (K43 y50 _ ⟨(Option.some.inj hS).symm, _, hj45⟩)
      ·have hS := ite_false' hz46 hg42
       refine sr_pass (e := 33) rfl rfl (by rw [hg42]; rfl) (by decide) ?_
       refine sr_pass (e := 33) rfl rfl (by rw [hg42]; rfl) (by decide) ?_
       refine sr_pass (e := 33) rfl rfl (by rw [hg42]; rfl) (by decide) ?_
       refine sr_ev (v := .bool false) (ev_pick_f rfl hg42 rfl) (by decide) ?_
       exact sr_weaken (l' := [(1, .pointer (some ⟨g5, 0, none⟩)), (37, .bool false)]) (.cons rfl (.cons rfl (.nil _))) (K43 false _ ⟨(Option.some.inj hS).symm, _, hj45⟩)
    ·intro K35
     rcases Bool.eq_false_or_eq_true ((((decide ((c_0.ID.length : Int) ≤ 300)) && (decide ((c_0.Tenant.length : Int) ≤ 300))) && (decide ((c_0.Logout.length : Int) ≤ 300))) && (decide ((c_0.Secret.Salt.length : Int) ≤ 300))) with hg34 | hg34
     all_goals try have hj37 : Tr ρ6 w7 (fun _ => false) ρ6 w7 := Tr.refl hb.bd
     ·refine sr_evg (b := true) (e := 26) rfl rfl hg34 (v := .pointer (some ⟨g5, 3, none⟩)) (ev_fieldAddr (i := 3) Tryz.underlying27 rfl Tryz.info24 rfl rfl) (by decide) ?_
      refine sr_evg (b := true) (e := 26) rfl rfl hg34 (v := .pointer (some ⟨g5, 5, none⟩)) (ev_fieldAddr (i := 2) Tryz.underlying24 rfl Tryz.info9 rfl rfl) (by decide) ?_
      refine sr_evg (b := true) (e := 26) rfl rfl hg34 (v := str c_0.Secret.Hash) (ev_load Tryz.isAgg9 rfl (hB9.cell rfl)) (by decide) ?_
      refine sr_evg (b := true) (e := 26) rfl rfl hg34 (v := .int .i64 (c_0.Secret.Hash.length : Int)) (ev_slen Tryz.underlying9 rfl) (by decide) ?_
      refine sr_evg (b := true) (e := 26) rfl rfl hg34 (v := .bool (decide ((c_0.Secret.Hash.length : Int) ≤ 300))) (ev_le rfl rfl) (by decide) ?_
      refine sr_ev (v := .bool (decide ((c_0.Secret.Hash.length : Int) ≤ 300))) (ev_pick_t rfl hg34 rfl) (by decide) ?_
      exact sr_weaken (l' := [(1, .pointer (some ⟨g5, 0, none⟩)), (32, .bool (decide ((c_0.Secret.Hash.length : Int) ≤ 300)))]) (.cons rfl (.cons rfl (.nil _))) (K35 (decide ((c_0.Secret.Hash.length : Int) ≤ 300)) _ ⟨by first | (rw [hg34]; rfl) | rfl, rfl⟩)
     ·refine sr_pass (e := 26) rfl rfl (by rw [hg34]; rfl) (by decide) ?_
      refine sr_pass (e := 26) rfl rfl (by rw [hg34]; rfl) (by decide) ?_
      refine sr_pass (e := 26) rfl rfl (by rw [hg34]; rfl) (by decide) ?_
      refine sr_pass (e := 26) rfl rfl (by rw [hg34]; rfl) (by decide) ?_
      refine sr_pass (e := 26) rfl rfl (by rw [hg34]; rfl) (by decide) ?_
      refine sr_ev (v := .bool false) (ev_pick_f rfl hg34 rfl) (by decide) ?_
      exact sr_weaken (l' := [(1, .pointer (some ⟨g5, 0, none⟩)), (32, .bool false)]) (.cons rfl (.cons rfl (.nil _))) (K35 false _ ⟨by first | (rw [hg34]; rfl) | rfl, rfl⟩)
   ·intro K27
    rcases Bool.eq_false_or_eq_true (((decide ((c_0.ID.length : Int) ≤ 300)) && (decide ((c_0.Tenant.length : Int) ≤ 300))) && (decide ((c_0.Logout.length : Int) ≤ 300))) with hg26 | hg26
    all_goals try have hj29 : Tr ρ6 w7 (fun _ => false) ρ6 w7 := Tr.refl hb.bd
    ·refine sr_evg (b := true) (e := 19) rfl rfl hg26 (v := .pointer (some ⟨g5, 3, none⟩)) (ev_fieldAddr (i := 3) Tryz.underlying27 rfl Tryz.info24 rfl rfl) (by decide) ?_
     refine sr_evg (b := true) (e := 19) rfl rfl hg26 (v := .pointer (some ⟨g5, 3, none⟩)) (ev_fieldAddr (i := 0) Tryz.underlying24 rfl Tryz.info9 rfl rfl) (by decide) ?_
     refine sr_evg (b := true) (e := 19) rfl rfl hg26 (v := str c_0.Secret.Salt) (ev_load Tryz.isAgg9 rfl (hB9.cell rfl)) (by decide) ?_
     refine sr_evg (b := true) (e := 19) rfl rfl hg26 (v := .int .i64 (c_0.Secret.Salt.length : Int)) (ev_slen Tryz.underlying9 rfl) (by decide) ?_
     refine sr_evg (b := true) (e := 19) rfl rfl hg26 (v := .bool (decide ((c_0.Secret.Salt.length : Int) ≤ 300))) (ev_le rfl rfl) (by decide) ?_
     refine sr_ev (v := .bool (decide ((c_0.Secret.Salt.length : Int) ≤ 300))) (ev_pick_t rfl hg26 rfl) (by decide) ?_
     exact sr_weaken (l' := [(1, .pointer (some ⟨g5, 0, none⟩)), (25, .bool (decide ((c_0.Secret.Salt.length : Int) ≤ 300)))]) (.cons rfl (.cons rfl (.nil _))) (K27 (decide ((c_0.Secret.Salt.length : Int) ≤ 300)) _ ⟨by first | (rw [hg26]; rfl) | rfl, rfl⟩)
    ·refine sr_pass (e := 19) rfl rfl (by rw [hg26]; rfl) (by decide) ?_
     refine sr_pass (e := 19) rfl rfl (by rw [hg26]; rfl) (by decide) ?_
     refine sr_pass (e := 19) rfl rfl (by rw [hg26]; rfl) (by decide) ?_
     refine sr_pass (e := 19) rfl rfl (by rw [hg26]; rfl) (by decide) ?_
     refine sr_pass (e := 19) rfl rfl (by rw [hg26]; rfl) (by decide) ?_
     refine sr_ev (v := .bool false) (ev_pick_f rfl hg26 rfl) (by decide) ?_
     exact sr_weaken (l' := [(1, .pointer (some ⟨g5, 0, none⟩)), (25, .bool false)]) (.cons rfl (.cons rfl (.nil _))) (K27 false _ ⟨by first | (rw [hg26]; rfl) | rfl, rfl⟩)
  ·intro K19
   rcases Bool.eq_false_or_eq_true ((decide ((c_0.ID.length : Int) ≤ 300)) && (decide ((c_0.Tenant.length : Int) ≤ 300))) with hg18 | hg18
   all_goals try have hj21 : Tr ρ6 w7 (fun _ => false) ρ6 w7 := Tr.refl hb.bd
   ·refine sr_evg (b := true) (e := 13) rfl rfl hg18 (v := .pointer (some ⟨g5, 8, none⟩)) (ev_fieldAddr (i := 6) Tryz.underlying27 rfl Tryz.info9 rfl rfl) (by decide) ?_
    refine sr_evg (b := true) (e := 13) rfl rfl hg18 (v := str c_0.Logout) (ev_load Tryz.isAgg9 rfl (hB9.cell rfl)) (by decide) ?_
    refine sr_evg (b := true) (e := 13) rfl rfl hg18 (v := .int .i64 (c_0.Logout.length : Int)) (ev_slen Tryz.underlying9 rfl) (by decide) ?_
    refine sr_evg (b := true) (e := 13) rfl rfl hg18 (v := .bool (decide ((c_0.Logout.length : Int) ≤ 300))) (ev_le rfl rfl) (by decide) ?_
    refine sr_ev (v := .bool (decide ((c_0.Logout.length : Int) ≤ 300))) (ev_pick_t rfl hg18 rfl) (by decide) ?_
    exact sr_weaken (l' := [(1, .pointer (some ⟨g5, 0, none⟩)), (18, .bool (decide ((c_0.Logout.length : Int) ≤ 300)))]) (.cons rfl (.cons rfl (.nil _))) (K19 (decide ((c_0.Logout.length : Int) ≤ 300)) _ ⟨by first | (rw [hg18]; rfl) | rfl, rfl⟩)
   ·refine sr_pass (e := 13) rfl rfl (by rw [hg18]; rfl) (by decide) ?_
    refine sr_pass (e := 13) rfl rfl (by rw [hg18]; rfl) (by decide) ?_
    refine sr_pass (e := 13) rfl rfl (by rw [hg18]; rfl) (by decide) ?_
    refine sr_pass (e := 13) rfl rfl (by rw [hg18]; rfl) (by decide) ?_
    refine sr_ev (v := .bool false) (ev_pick_f rfl hg18 rfl) (by decide) ?_
    exact sr_weaken (l' := [(1, .pointer (some ⟨g5, 0, none⟩)), (18, .bool false)]) (.cons rfl (.cons rfl (.nil _))) (K19 false _ ⟨by first | (rw [hg18]; rfl) | rfl, rfl⟩)
 ·intro K11
  rcases Bool.eq_false_or_eq_true (decide ((c_0.ID.length : Int) ≤ 300)) with hg10 | hg10
  all_goals try have hj13 : Tr ρ6 w7 (fun _ => false) ρ6 w7 := Tr.refl hb.bd
  ·refine sr_evg (b := true) (e := 7) rfl rfl hg10 (v := .pointer (some ⟨g5, 2, none⟩)) (ev_fieldAddr (i := 2) Tryz.underlying27 rfl Tryz.info9 rfl rfl) (by decide) ?_
   refine sr_evg (b := true) (e := 7) rfl rfl hg10 (v := str c_0.Tenant) (ev_load Tryz.isAgg9 rfl (hB9.cell rfl)) (by decide) ?_
   refine sr_evg (b := true) (e := 7) rfl rfl hg10 (v := .int .i64 (c_0.Tenant.length : Int)) (ev_slen Tryz.underlying9 rfl) (by decide) ?_
   refine sr_evg (b := true) (e := 7) rfl rfl hg10 (v := .bool (decide ((c_0.Tenant.length : Int) ≤ 300))) (ev_le rfl rfl) (by decide) ?_
   refine sr_ev (v := .bool (decide ((c_0.Tenant.length : Int) ≤ 300))) (ev_pick_t rfl hg10 rfl) (by decide) ?_
   exact sr_weaken (l' := [(1, .pointer (some ⟨g5, 0, none⟩)), (12, .bool (decide ((c_0.Tenant.length : Int) ≤ 300)))]) (.cons rfl (.cons rfl (.nil _))) (K11 (decide ((c_0.Tenant.length : Int) ≤ 300)) _ ⟨by first | (rw [hg10]; rfl) | rfl, rfl⟩)
  ·refine sr_pass (e := 7) rfl rfl (by rw [hg10]; rfl) (by decide) ?_
   refine sr_pass (e := 7) rfl rfl (by rw [hg10]; rfl) (by decide) ?_
   refine sr_pass (e := 7) rfl rfl (by rw [hg10]; rfl) (by decide) ?_
   refine sr_pass (e := 7) rfl rfl (by rw [hg10]; rfl) (by decide) ?_
   refine sr_ev (v := .bool false) (ev_pick_f rfl hg10 rfl) (by decide) ?_
   exact sr_weaken (l' := [(1, .pointer (some ⟨g5, 0, none⟩)), (12, .bool false)]) (.cons rfl (.cons rfl (.nil _))) (K11 false _ ⟨by first | (rw [hg10]; rfl) | rfl, rfl⟩)
theorem law36_few_L1_ok {w0 : World} (hg : Gs w0) {ρA : Tags} (hbd : ∀ b, ρA b ≠ 0 → b < w0.heap.size) (hz : Gz (flat1 ρA)) : ∀ (n : Nat), ∀ {r : Bool} {l_0 : List law36_Op} {i_3 : Int} {vl_0 : Value}, law36_few_L1 n l_0 i_3 = some r → ∀ {ρ : Tags} {w : World}, (Fr (flat1 ρA) w0 ρ w) → (SlR law36_Op.c (Wb ρ) w vl_0 l_0) → KE Tryz.prog 21 (Ret (fun v w' => v = .bool r ∧ Below w0.heap.size w0 w')) 47 [.code (sub (bodyOf Tryz.f21) [2, 1, 2, 2, 1]), .inLoop (sub (bodyOf Tryz.f21) [2, 1, 2, 2, 1]), .inBlock 0, .code (sub (bodyOf Tryz.f21) [2, 2])] [(0, vl_0), (3, .int .i64 i_3)] w := by
 intro n
 induction n with
 | zero => intro r l_0 i_3 vl_0 hS; cases hS
 | succ n ih =>
  have hr0 : ∀ {r : Bool} {l_0 : List law36_Op} {i_3 : Int} {vl_0 : Value}, law36_few_L1 n l_0 i_3 = some r → ∀ {ρ : Tags} {w : World}, (Fr (flat1 ρA) w0 ρ w) → (SlR law36_Op.c (Wb ρ) w vl_0 l_0) → KE Tryz.prog 21 (Ret (fun v w' => v = .bool r ∧ Below w0.heap.size w0 w')) 47 [.inLoop (sub (bodyOf Tryz.f21) [2, 1, 2, 2, 1]), .inBlock 0, .code (sub (bodyOf Tryz.f21) [2, 2])] [(0, vl_0), (3, .int .i64 i_3)] w := fun {r} {l_0} {i_3} {vl_0} hS {ρ} {w} hb hl_0 => ke_inLoop (ih hS hb hl_0)
  clear ih
  intro r l_0 i_3 vl_0 hS ρ w hb hl_0
  unfold law36_few_L1 at hS
  refine ke_seq ?_
  refine ke_seq ?_
  refine ke_region ?_
  refine sr_ev (v := .int .i64 i_3) (ev_move rfl) (by decide) ?_
  refine sr_ev (v := vl_0) (ev_move rfl) (by decide) ?_
  refine sr_ev (v := .int .i64 (l_0.length : Int)) (ev_sllenW Tryz.underlying39 rfl hl_0.asSl) (by decide) ?_
  refine sr_ev (v := .bool (decide (i_3 < (l_0.length : Int)))) (ev_lt rfl rfl) (by decide) ?_
  refine sr_end (l' := [(0, vl_0), (3, .int .i64 i_3), (7, .bool (decide (i_3 < (l_0.length : Int))))]) (.cons rfl (.cons rfl (.cons rfl (.nil _)))) ?_
  refine ke_cond (t := decide (i_3 < (l_0.length : Int))) rfl (fun hc3 => ?_) (fun hc3 => ?_)
  ·replace hS := ite_true' hS hc3
   refine ke_skip ?_
   refine ke_seq ?_
   refine ke_block ?_
   refine ke_seq ?_
   refine ke_region ?_
   refine sr_ev (v := vl_0) (ev_move rfl) (by decide) ?_
   refine sr_ev (v := .int .i64 i_3) (ev_move rfl) (by decide) ?_
   obtain ⟨y4, hy5, hS⟩ := bind_some' hS
   obtain ⟨b6, o7, cs9, hq10, he8⟩ := ((SlT.of_sl (i := 0) hl_0)).elem (P := Tryz.prog) Tryz.underlying39 Tryz.info44 rfl hy5
   obtain ⟨v11, v13, v15, hcshe8, h12, h14, h16⟩ := he8.rd
   obtain rfl : cs9 = [.int .i64 y4.Kind, str y4.Client.ID, .int .i64 y4.Client.Kind, str y4.Client.Tenant, str y4.Client.Secret.Salt, .int .i64 y4.Client.Secret.Rounds, str y4.Client.Secret.Hash, v11, v13, str y4.Client.Logout, str y4.ID, str y4.S, v15] := hcshe8
   refine sr_ev (v := .pointer (some ⟨b6, o7, none⟩)) (hq10 w rfl rfl) (by decide) ?_
   refine sr_ev (v := .pointer (some ⟨b6, o7 + 1, none⟩)) (ev_fieldAddr (i := 1) Tryz.underlying44 rfl Tryz.info27 rfl rfl) (by decide) ?_
   refine sr_ev (v := .agg #[str y4.Client.ID, .int .i64 y4.Client.Kind, str y4.Client.Tenant, str y4.Client.Secret.Salt, .int .i64 y4.Client.Secret.Rounds, str y4.Client.Secret.Hash, v11, v13, str y4.Client.Logout]) (ev_loads (cs := [str y4.Client.ID, .int .i64 y4.Client.Kind, str y4.Client.Tenant, str y4.Client.Secret.Salt, .int .i64 y4.Client.Secret.Rounds, str y4.Client.Secret.Hash, v11, v13, str y4.Client.Logout]) Tryz.isAgg27 Tryz.sizeOf27 rfl (he8.part (off := 1) (vs := [str y4.Client.ID, .int .i64 y4.Client.Kind, str y4.Client.Tenant, str y4.Client.Secret.Salt, .int .i64 y4.Client.Secret.Rounds, str y4.Client.Secret.Hash, v11, v13, str y4.Client.Logout]) rfl)) (by decide) ?_
   obtain ⟨y17, hy18, hS⟩ := bind_some' hS
   refine sr_call (vs := [.agg #[str y4.Client.ID, .int .i64 y4.Client.Kind, str y4.Client.Tenant, str y4.Client.Secret.Salt, .int .i64 y4.Client.Secret.Rounds, str y4.Client.Secret.Hash, v11, v13, str y4.Client.Logout]]) rfl Tryz.call10 rfl (law36_small_ok _ (hg.fr hz hb) (ρA := ρ) hb.bd (hz.fr hg hb) h12 h14 hy18) (by decide) ?_
   rintro _ w19 ⟨rfl, hbw20⟩
   have htr21 := Tr.of_below hbw20 hb.bd
   replace hl_0 := hl_0.mv htr21.rd
   replace hb := hb.trans htr21
   refine sr_ev (v := .bool (!y17)) (ev_not rfl) (by decide) ?_
   refine sr_ev (v := .bool (!y17)) (ev_move rfl) (by decide) ?_
   obtain ⟨z24, hz26, hS⟩ := bind_some' hS
   refine sr_join (m := 8) (C := fun (z : Bool) w1 => z24 = z ∧ ∃ ρ1, Tr ρ w19 (fun _ => false) ρ1 w1) (l' := fun z => [(0, vl_0), (3, .int .i64 i_3), (25, .bool z)]) ?_ ?_
   ·rintro _ w27 ⟨rfl, ρ28, hj25⟩
    replace hl_0 := hl_0.mv hj25.rd
    replace hb := hb.trans hj25
    refine sr_ev (v := .bool z24) (ev_move rfl) (by decide) ?_
    obtain ⟨z45, hz47, hS⟩ := bind_some' hS
    refine sr_join (m := 8) (C := fun (z : Bool) w1 => z45 = z ∧ ∃ ρ1, Tr ρ28 w27 (fun _ => false) ρ1 w1) (l' := fun z => [(0, vl_0), (3, .int .i64 i_3), (34, .bool z)]) ?_ ?_
    ·rintro _ w48 ⟨rfl, ρ49, hj46⟩
     replace hl_0 := hl_0.mv hj46.rd
     replace hb := hb.trans hj46
     refine sr_ev (v := .bool z45) (ev_move rfl) (by decide) ?_
     obtain ⟨z66, hz68, hS⟩ := bind_some' hS
     refine sr_join (m := 8) (C := fun (z : Bool) w1 => z66 = z ∧ ∃ ρ1, Tr ρ49 w48 (fun _ => false) ρ1 w1) (l' := fun z => [(0, vl_0), (3, .int .i64 i_3), (43, .bool z)]) ?_ ?_
     ·rintro _ w69 ⟨rfl, ρ70, hj67⟩
      replace hl_0 := hl_0.mv hj67.rd
      replace hb := hb.trans hj67
      refine sr_end (l' := [(0, vl_0), (3, .int .i64 i_3), (43, .bool z66)]) (.cons rfl (.cons rfl (.cons rfl (.nil _)))) ?_
      refine ke_cond (t := z66) rfl (fun hc90 => ?_) (fun hc90 => ?_)
      ·replace hS := ite_true' hS hc90
       refine ke_seq ?_
       refine ke_region ?_
       refine sr_ev (v := .bool false) (ev_assign rfl) (by decide) ?_
       refine sr_end (l' := [(2, .bool false)]) (.cons rfl (.nil _)) ?_
       cases hS
       exact ke_ret1 Tryz.func21 rfl rfl ⟨_, rfl, rfl, (hb.below (flat1_le _))⟩
      ·replace hS := ite_false' hS hc90
       refine ke_skip ?_
       refine ke_inBlock ?_
       refine ke_region ?_
       refine sr_ev (v := .int .i64 i_3) (ev_move rfl) (by decide) ?_
       refine sr_ev (v := .int .i64 (IntKind.i64.wrap (i_3 + 1))) (ev_add rfl rfl) (by decide) ?_
       refine sr_ev (v := .int .i64 (IntKind.i64.wrap (i_3 + 1))) (ev_assign rfl) (by decide) ?_
       refine sr_end (l' := [(0, vl_0), (3, .int .i64 (IntKind.i64.wrap (i_3 + 1)))]) (.cons rfl (.cons rfl (.nil _))) ?_
       have hK := hr0 hS hb hl_0
       exact ke_weaken (l' := [(0, vl_0), (3, .int .i64 (IntKind.i64.wrap (i_3 + 1)))]) (.cons rfl (.cons rfl (.nil _))) hK
     ·intro K65
      clear hS
      have hj67 : Tr ρ49 w48 (fun _ => false) ρ49 w48 := (Tr.refl hb.bd).weak (fun _ _ => rfl) rfl rfl
      rcases Bool.eq_false_or_eq_true z45 with hg64 | hg64
      ·have hS := ite_true' hz68 hg64
       refine sr_pass (e := 35) rfl rfl (by rw [hg64]; rfl) (by decide) ?_
       refine sr_pass (e := 35) rfl rfl (by rw [hg64]; rfl) (by decide) ?_
       refine sr_pass (e := 35) rfl rfl (by rw [hg64]; rfl) (by decide) ?_
       refine sr_pass (e := 35) rfl rfl (by rw [hg64]; rfl) (by decide) ?_
       refine sr_pass (e := 35) rfl rfl (by rw [hg64]; rfl) (by decide) ?_
       refine sr_pass (e := 35) rfl rfl (by rw [hg64]; rfl) (by decide) ?_
       refine sr_pass (e := 35) rfl rfl (by rw [hg64]; rfl) (by decide) ?_
       refine sr_ev (v := .bool true) (ev_pick_t rfl hg64 rfl) (by decide) ?_
       exact sr_weaken (l' := [(0, vl_0), (3, .int .i64 i_3), (43, .bool true)]) (.cons rfl (.cons rfl (.cons rfl (.nil _)))) (K65 true _ ⟨(Option.some.inj hS).symm, _, hj67⟩)
      ·have hS := ite_false' hz68 hg64
       refine sr_evg (b := false) (e := 35) rfl rfl hg64 (v := vl_0) (ev_move rfl) (by decide) ?_
       refine sr_evg (b := false) (e := 35) rfl rfl hg64 (v := .int .i64 i_3) (ev_move rfl) (by decide) ?_
       obtain ⟨y72, hy73, hS⟩ := bind_some' hS
       obtain ⟨b74, o75, cs77, hq78, he76⟩ := ((SlT.of_sl (i := 0) hl_0)).elem (P := Tryz.prog) Tryz.underlying39 Tryz.info44 rfl hy73
       obtain ⟨v79, v81, v83, hcshe76, h80, h82, h84⟩ := he76.rd
       obtain rfl : cs77 = [.int .i64 y72.Kind, str y72.Client.ID, .int .i64 y72.Client.Kind, str y72.Client.Tenant, str y72.Client.Secret.Salt, .int .i64 y72.Client.Secret.Rounds, str y72.Client.Secret.Hash, v79, v81, str y72.Client.Logout, str y72.ID, str y72.S, v83] := hcshe76
       refine sr_evg (b := false) (e := 35) rfl rfl hg64 (v := .pointer (some ⟨b74, o75, none⟩)) (hq78 w48 rfl rfl) (by decide) ?_
       refine sr_evg (b := false) (e := 35) rfl rfl hg64 (v := .pointer (some ⟨b74, o75 + 12, none⟩)) (ev_fieldAddr (i := 4) Tryz.underlying44 rfl Tryz.info25 rfl rfl) (by decide) ?_
       refine sr_evg (b := false) (e := 35) rfl rfl hg64 (v := v83) (ev_load Tryz.isAgg25 rfl (he76.cell 12 _ rfl)) (by decide) ?_
       obtain ⟨y85, hy86, hS⟩ := bind_some' hS
       refine sr_callg (b := false) (e := 35) rfl rfl hg64 (vs := [v83]) rfl Tryz.call14 rfl (law36_short_ok _ (hg.fr hz hb) h84.asSl hy86) (by decide) ?_
       rintro _ w87 ⟨rfl, hbw88⟩
       have htr89 := Tr.of_below hbw88 hb.bd
       replace hl_0 := hl_0.mv htr89.rd
       replace hb := hb.trans htr89
       replace hj67 := (hj67.trans htr89).weak (J' := (fun _ => false)) (by intro t h; simp [rng] at h ⊢ <;> omega) rfl rfl
       refine sr_evg (b := false) (e := 35) rfl rfl hg64 (v := .bool (!y85)) (ev_not rfl) (by decide) ?_
       refine sr_ev (v := .bool (!y85)) (ev_pick_f rfl hg64 rfl) (by decide) ?_
       exact sr_weaken (l' := [(0, vl_0), (3, .int .i64 i_3), (43, .bool (!y85))]) (.cons rfl (.cons rfl (.cons rfl (.nil _)))) (K65 (!y85) _ ⟨(Option.some.inj hS).symm, _, hj67⟩)
    ·intro K44
     clear hS
     have hj46 : Tr ρ28 w27 (fun _ => false) ρ28 w27 := (Tr.refl hb.bd).weak (fun _ _ => rfl) rfl rfl
     rcases Bool.eq_false_or_eq_true z24 with hg43 | hg43
     ·have hS := ite_true' hz47 hg43
      refine sr_pass (e := 26) rfl rfl (by rw [hg43]; rfl) (by decide) ?_
      refine sr_pass (e := 26) rfl rfl (by rw [hg43]; rfl) (by decide) ?_
      refine sr_pass (e := 26) rfl rfl (by rw [hg43]; rfl) (by decide) ?_
      refine sr_pass (e := 26) rfl rfl (by rw [hg43]; rfl) (by decide) ?_
      refine sr_pass (e := 26) rfl rfl (by rw [hg43]; rfl) (by decide) ?_
      refine sr_pass (e := 26) rfl rfl (by rw [hg43]; rfl) (by decide) ?_
      refine sr_pass (e := 26) rfl rfl (by rw [hg43]; rfl) (by decide) ?_
      refine sr_ev (v := .bool true) (ev_pick_t rfl hg43 rfl) (by decide) ?_
      exact sr_weaken (l' := [(0, vl_0), (3, .int .i64 i_3), (34, .bool true)]) (.cons rfl (.cons rfl (.cons rfl (.nil _)))) (K44 true _ ⟨(Option.some.inj hS).symm, _, hj46⟩)
     ·have hS := ite_false' hz47 hg43
      refine sr_evg (b := false) (e := 26) rfl rfl hg43 (v := vl_0) (ev_move rfl) (by decide) ?_
      refine sr_evg (b := false) (e := 26) rfl rfl hg43 (v := .int .i64 i_3) (ev_move rfl) (by decide) ?_
      obtain ⟨y51, hy52, hS⟩ := bind_some' hS
      obtain ⟨b53, o54, cs56, hq57, he55⟩ := ((SlT.of_sl (i := 0) hl_0)).elem (P := Tryz.prog) Tryz.underlying39 Tryz.info44 rfl hy52
      obtain ⟨v58, v60, v62, hcshe55, h59, h61, h63⟩ := he55.rd
      obtain rfl : cs56 = [.int .i64 y51.Kind, str y51.Client.ID, .int .i64 y51.Client.Kind, str y51.Client.Tenant, str y51.Client.Secret.Salt, .int .i64 y51.Client.Secret.Rounds, str y51.Client.Secret.Hash, v58, v60, str y51.Client.Logout, str y51.ID, str y51.S, v62] := hcshe55
      refine sr_evg (b := false) (e := 26) rfl rfl hg43 (v := .pointer (some ⟨b53, o54, none⟩)) (hq57 w27 rfl rfl) (by decide) ?_
      refine sr_evg (b := false) (e := 26) rfl rfl hg43 (v := .pointer (some ⟨b53, o54 + 11, none⟩)) (ev_fieldAddr (i := 3) Tryz.underlying44 rfl Tryz.info9 rfl rfl) (by decide) ?_
      refine sr_evg (b := false) (e := 26) rfl rfl hg43 (v := str y51.S) (ev_load Tryz.isAgg9 rfl (he55.cell 11 _ rfl)) (by decide) ?_
      refine sr_evg (b := false) (e := 26) rfl rfl hg43 (v := .int .i64 (y51.S.length : Int)) (ev_slen Tryz.underlying9 rfl) (by decide) ?_
      refine sr_evg (b := false) (e := 26) rfl rfl hg43 (v := .bool (decide ((y51.S.length : Int) > 300))) (ev_gt rfl rfl) (by decide) ?_
      refine sr_ev (v := .bool (decide ((y51.S.length : Int) > 300))) (ev_pick_f rfl hg43 rfl) (by decide) ?_
      exact sr_weaken (l' := [(0, vl_0), (3, .int .i64 i_3), (34, .bool (decide ((y51.S.length : Int) > 300)))]) (.cons rfl (.cons rfl (.cons rfl (.nil _)))) (K44 (decide ((y51.S.length : Int) > 300)) _ ⟨(Option.some.inj hS).symm, _, hj46⟩)
   ·intro K23
    clear hS
    have hj25 : Tr ρ w19 (fun _ => false) ρ w19 := (Tr.refl hb.bd).weak (fun _ _ => rfl) rfl rfl
    rcases Bool.eq_false_or_eq_true (!y17) with hg22 | hg22
    ·have hS := ite_true' hz26 hg22
     refine sr_pass (e := 17) rfl rfl (by rw [hg22]; rfl) (by decide) ?_
     refine sr_pass (e := 17) rfl rfl (by rw [hg22]; rfl) (by decide) ?_
     refine sr_pass (e := 17) rfl rfl (by rw [hg22]; rfl) (by decide) ?_
     refine sr_pass (e := 17) rfl rfl (by rw [hg22]; rfl) (by decide) ?_
     refine sr_pass (e := 17) rfl rfl (by rw [hg22]; rfl) (by decide) ?_
     refine sr_pass (e := 17) rfl rfl (by rw [hg22]; rfl) (by decide) ?_
     refine sr_pass (e := 17) rfl rfl (by rw [hg22]; rfl) (by decide) ?_
     refine sr_ev (v := .bool true) (ev_pick_t rfl hg22 rfl) (by decide) ?_
     exact sr_weaken (l' := [(0, vl_0), (3, .int .i64 i_3), (25, .bool true)]) (.cons rfl (.cons rfl (.cons rfl (.nil _)))) (K23 true _ ⟨(Option.some.inj hS).symm, _, hj25⟩)
    ·have hS := ite_false' hz26 hg22
     refine sr_evg (b := false) (e := 17) rfl rfl hg22 (v := vl_0) (ev_move rfl) (by decide) ?_
     refine sr_evg (b := false) (e := 17) rfl rfl hg22 (v := .int .i64 i_3) (ev_move rfl) (by decide) ?_
     obtain ⟨y30, hy31, hS⟩ := bind_some' hS
     obtain ⟨b32, o33, cs35, hq36, he34⟩ := ((SlT.of_sl (i := 0) hl_0)).elem (P := Tryz.prog) Tryz.underlying39 Tryz.info44 rfl hy31
     obtain ⟨v37, v39, v41, hcshe34, h38, h40, h42⟩ := he34.rd
     obtain rfl : cs35 = [.int .i64 y30.Kind, str y30.Client.ID, .int .i64 y30.Client.Kind, str y30.Client.Tenant, str y30.Client.Secret.Salt, .int .i64 y30.Client.Secret.Rounds, str y30.Client.Secret.Hash, v37, v39, str y30.Client.Logout, str y30.ID, str y30.S, v41] := hcshe34
     refine sr_evg (b := false) (e := 17) rfl rfl hg22 (v := .pointer (some ⟨b32, o33, none⟩)) (hq36 w19 rfl rfl) (by decide) ?_
     refine sr_evg (b := false) (e := 17) rfl rfl hg22 (v := .pointer (some ⟨b32, o33 + 10, none⟩)) (ev_fieldAddr (i := 2) Tryz.underlying44 rfl Tryz.info9 rfl rfl) (by decide) ?_
     refine sr_evg (b := false) (e := 17) rfl rfl hg22 (v := str y30.ID) (ev_load Tryz.isAgg9 rfl (he34.cell 10 _ rfl)) (by decide) ?_
     refine sr_evg (b := false) (e := 17) rfl rfl hg22 (v := .int .i64 (y30.ID.length : Int)) (ev_slen Tryz.underlying9 rfl) (by decide) ?_
     refine sr_evg (b := false) (e := 17) rfl rfl hg22 (v := .bool (decide ((y30.ID.length : Int) > 300))) (ev_gt rfl rfl) (by decide) ?_
     refine sr_ev (v := .bool (decide ((y30.ID.length : Int) > 300))) (ev_pick_f rfl hg22 rfl) (by decide) ?_
     exact sr_weaken (l' := [(0, vl_0), (3, .int .i64 i_3), (25, .bool (decide ((y30.ID.length : Int) > 300)))]) (.cons rfl (.cons rfl (.cons rfl (.nil _)))) (K23 (decide ((y30.ID.length : Int) > 300)) _ ⟨(Option.some.inj hS).symm, _, hj25⟩)
  ·replace hS := ite_false' hS hc3
   refine ke_exit (k' := _) rfl ?_
   refine ke_seq ?_
   refine ke_region ?_
   refine sr_ev (v := vl_0) (ev_move rfl) (by decide) ?_
   refine sr_ev (v := .int .i64 (l_0.length : Int)) (ev_sllenW Tryz.underlying39 rfl hl_0.asSl) (by decide) ?_
   refine sr_ev (v := .bool (decide ((l_0.length : Int) ≤ 12))) (ev_le rfl rfl) (by decide) ?_
   refine sr_ev (v := .bool (decide ((l_0.length : Int) ≤ 12))) (ev_assign rfl) (by decide) ?_
   refine sr_end (l' := [(2, .bool (decide ((l_0.length : Int) ≤ 12)))]) (.cons rfl (.nil _)) ?_
   cases hS
   exact ke_ret1 Tryz.func21 rfl rfl ⟨_, rfl, rfl, (hb.below (flat1_le _))⟩
theorem law36_few_ok (w0 : World) (hg : Gs w0) {ρA : Tags} (hbd : ∀ b, ρA b ≠ 0 → b < w0.heap.size) (hz : Gz ρA) {l_0 : List law36_Op} {v1 : Value} {r : Bool} (h2 : SlR law36_Op.c (Wb ρA) w0 v1 l_0) (hS : law36_few l_0 = some r) :
  Calls Tryz.prog 21 #[v1] w0 (Ret (fun v w' => v = .bool r ∧ Below w0.heap.size w0 w')) := by
 unfold law36_few at hS
 have hb := flat1_fr (ρ := ρA) (w := w0) hbd
 have hz := hz.flat1
 replace h2 := SlR.mv h2 flat1_rd
 refine calls_of_ke Tryz.func21 rfl (n := 47) rfl rfl (l := [(0, v1)]) rfl ?_
 refine ke_seq ?_
 refine ke_region ?_
 refine sr_ev (v := .bool false) (ev_assign rfl) (by decide) ?_
 refine sr_end (l' := [(0, v1)]) (.cons rfl (.nil _)) ?_
 refine ke_seq ?_
 refine ke_seq ?_
 refine ke_region ?_
 refine sr_ev (v := .int .i64 0) (ev_assign rfl) (by decide) ?_
 refine sr_end (l' := [(0, v1), (3, .int .i64 0)]) (.cons rfl (.cons rfl (.nil _))) ?_
 refine ke_block ?_
 have hK := law36_few_L1_ok hg hbd hz _ hS hb h2
 exact ke_weaken (l' := [(0, v1), (3, .int .i64 0)]) (.cons rfl (.cons rfl (.nil _))) (ke_loop hK)
theorem client_New_ok (w0 : World) (hg : Gs w0) {ρA : Tags} (hbd : ∀ b, ρA b ≠ 0 → b < w0.heap.size) (hz : Gz ρA) {o : Nat} (ho2 : 2 ≤ o) {r : client_Clients} (hS : client_New = some r) :
  Calls Tryz.prog 15 #[] w0 (Ret (fun v w' => ∃ ρ' zr0, v = .pointer (some ⟨zr0, 0, none⟩) ∧ client_Clients.O (fun p => o + p) ρ' w' zr0 r ∧ Tr ρA w0 (rng o 2) ρ' w')) := by
 unfold client_New at hS
 have hb := enter_fr (ρ := ρA) (w := w0) (n := 2) ho2 hbd
 have hz := hz.enter (n := 2) ho2
 refine calls_of_ke Tryz.func15 rfl (n := 4) rfl rfl (l := []) rfl ?_
 refine ke_seq ?_
 refine ke_region ?_
 refine sr_ev (v := .pointer none) (ev_assign rfl) (by decide) ?_
 refine sr_end (l' := []) (.nil _) ?_
 refine ke_seq ?_
 refine ke_region ?_
 refine sr_makeMap (K := Str) (V := api_Client) (ek := str) (c := api_Client.c) (agg := true) 3 (by decide) hb.bd rfl (by decide) ?_
 intro v1 ρ3 w4 h2 htr5
 replace hb := hb.trans htr5
 refine sr_ev (v := .agg #[(.map (some v1))]) (ev_build (vs := #[(0, (.map (some v1)))]) rfl (fun _ => by kernel_rfl)) (by decide) ?_
 refine sr_boxT 100 (by decide) hb.bd rfl (by decide) ?_
 intro g6 ρ7 w8 hB10 htr9
 replace h2 := h2.mv (htr9.mv (i := 3) rfl)
 replace hb := hb.trans htr9
 replace hB10 : Blk ρ7 100 w8 g6 (.cells #[(.map (some v1))] 57 (0, 0)) := hB10
 refine sr_ev (v := .pointer (some ⟨g6, 0, none⟩)) (ev_assign rfl) (by decide) ?_
 refine sr_end (l' := [(0, .pointer (some ⟨g6, 0, none⟩))]) (.cons rfl (.nil _)) ?_
 have htr11 := rtg_tr (ρ := ρ7) (w := w8) (i := 3) 101 (by decide) hb.bd
 have hmv12 : Mv ρ7 w8 3 (rtg ρ7 3 101) w8 101 := rtg_mv (by decide)
 replace hB10 := hB10.mv (htr11.mv (i := 100) rfl)
 replace hb := hb.trans htr11
 replace h2 := h2.mv hmv12
 cases hS
 exact ke_ret1 Tryz.func15 rfl rfl ⟨_, rfl, leave ρA w0 o 2 (rtg ρ7 3 101), _, rfl, ⟨_, (hB10.mv (leave_mv (p := 0) (by decide) hb)), (h2.mv (leave_mv (p := 1) (by decide) hb))⟩, (leave_tr ho2 hb)⟩
theorem law36_app_ok (w0 : World) (hg : Gs w0) {ρA : Tags} (hbd : ∀ b, ρA b ≠ 0 → b < w0.heap.size) (hz : Gz ρA) {r : api_Client} (hS : law36_app = some r) :
  Calls Tryz.prog 16 #[] w0 (Ret (fun v w' => ∃ x1 x2, v = .agg #[str r.ID, .int .i64 r.Kind, str r.Tenant, str r.Secret.Salt, .int .i64 r.Secret.Rounds, str r.Secret.Hash, x1, x2, str r.Logout] ∧ SlR strC (Wb ρA) w' x1 r.Redirects ∧ SlR strC (Wb ρA) w' x2 r.Scopes ∧ Below w0.heap.size w0 w')) := by
 unfold law36_app at hS
 have hb := flat1_fr (ρ := ρA) (w := w0) hbd
 have hz := hz.flat1
 refine calls_of_ke Tryz.func16 rfl (n := 4) rfl rfl (l := []) rfl ?_
 refine ke_seq ?_
 refine ke_region ?_
 refine sr_allocT 2 (by decide) hb.bd Tryz.zeroValue27 (by decide) ?_
 intro g5 ρ6 w7 hB9 htr8
 replace hb := hb.trans htr8
 replace hB9 : Blk ρ6 2 w7 g5 (.cells #[str ([]), .int .i64 0, str ([]), str ([]), .int .i64 0, str ([]), (.slice none 0 0), (.slice none 0 0), str ([])] 27 (0, 0)) := hB9
 refine sr_end (l' := [(0, .pointer (some ⟨g5, 0, none⟩))]) (.cons rfl (.nil _)) ?_
 refine ke_seq ?_
 refine ke_region ?_
 refine sr_litT (c := strC) (ρ := ρ6) (E := 9) (xs := [[104, 116, 116, 112, 115, 58, 47, 47, 97, 112, 112, 47, 99, 98]]) (vs := #[(0, str ([104, 116, 116, 112, 115, 58, 47, 47, 97, 112, 112, 47, 99, 98]))]) (cs := #[str ([104, 116, 116, 112, 115, 58, 47, 47, 97, 112, 112, 47, 99, 98])]) (css := [[str ([104, 116, 116, 112, 115, 58, 47, 47, 97, 112, 112, 47, 99, 98])]]) rfl (fun _ => by kernel_rfl) rfl ⟨rfl, trivial⟩ rfl (by decide) hb.bd (by decide) ?_
 intro v10 w12 h11 hbw14
 have htr13 := Tr.of_below hbw14 hb.bd
 replace hB9 := hB9.mv (htr13.mv (i := 2) rfl)
 replace hb := hb.trans htr13
 refine sr_litT (c := strC) (ρ := ρ6) (E := 9) (xs := [[109, 97, 105, 108]]) (vs := #[(0, str ([109, 97, 105, 108]))]) (cs := #[str ([109, 97, 105, 108])]) (css := [[str ([109, 97, 105, 108])]]) rfl (fun _ => by kernel_rfl) rfl ⟨rfl, trivial⟩ rfl (by decide) hb.bd (by decide) ?_
 intro v15 w17 h16 hbw19
 have htr18 := Tr.of_below hbw19 hb.bd
 replace h11 := h11.mv htr18.rd
 replace hB9 := hB9.mv (htr18.mv (i := 2) rfl)
 replace hb := hb.trans htr18
 have hbl20 : ∀ w, (Instr.build 27 #[(0, str ([97, 112, 112])), (1, .int .i64 1), (2, str ([116])), (4, v10), (5, v15)]).run Tryz.prog w = .ok (.agg #[str ([97, 112, 112]), .int .i64 1, str ([116]), str ([]), .int .i64 0, str ([]), v10, v15, str ([])]) w := by
  obtain ⟨_, _, _, rfl⟩ := SlR.isSl h11
  obtain ⟨_, _, _, rfl⟩ := SlR.isSl h16
  first | exact fun _ => by kernel_rfl | (intro w; simp [Instr.build, Tryz.zeroValue27, run_underlying Tryz.underlying27, Tryz.sizeOf9, Tryz.sizeOf22, Tryz.sizeOf24, Tryz.sizeOf25]; first | done | kernel_rfl)
 refine sr_ev (v := .agg #[str ([97, 112, 112]), .int .i64 1, str ([116]), str ([]), .int .i64 0, str ([]), v10, v15, str ([])]) (ev_build (vs := #[(0, str ([97, 112, 112])), (1, .int .i64 1), (2, str ([116])), (4, v10), (5, v15)]) rfl hbl20) (by decide) ?_
 refine sr_storeT (v := .agg #[str ([97, 112, 112]), .int .i64 1, str ([116]), str ([]), .int .i64 0, str ([]), v10, v15, str ([])]) (vs := [str ([97, 112, 112]), .int .i64 1, str ([116]), str ([]), .int .i64 0, str ([]), v10, v15, str ([])]) (cs' := #[str ([97, 112, 112]), .int .i64 1, str ([116]), str ([]), .int .i64 0, str ([]), v10, v15, str ([])]) hB9 (by decide) hb.bd rfl rfl rfl Tryz.sizeOf27 rfl (by first | rfl | (simp only [List.all_cons, List.all_nil, SlR.oneCell h11, SlR.oneCell h16]; done) | (simp only [List.all_cons, List.all_nil, SlR.oneCell h11, SlR.oneCell h16]; rfl)) rfl ?_
 intro w21 hB91 htr22
 replace h11 := h11.mv htr22.rd
 replace h16 := h16.mv htr22.rd
 replace hb := hb.trans htr22
 replace hB9 : Blk ρ6 2 w21 g5 (.cells #[str ([97, 112, 112]), .int .i64 1, str ([116]), str ([]), .int .i64 0, str ([]), v10, v15, str ([])] 27 (0, 0)) := hB91
 clear hB91
 refine sr_end (l' := [(0, .pointer (some ⟨g5, 0, none⟩))]) (.cons rfl (.nil _)) ?_
 cases hS
 exact ke_ret (rs := [.cell 0 27]) (vs := [.agg #[str ([97, 112, 112]), .int .i64 1, str ([116]), str ([]), .int .i64 0, str ([]), v10, v15, str ([])]]) Tryz.func16 rfl ⟨⟨_, rfl, run_loadVar_s (cs := [str ([97, 112, 112]), .int .i64 1, str ([116]), str ([]), .int .i64 0, str ([]), v10, v15, str ([])]) Tryz.isAgg27 Tryz.sizeOf27 (hB9.cells (vs := [str ([97, 112, 112]), .int .i64 1, str ([116]), str ([]), .int .i64 0, str ([]), v10, v15, str ([])]) rfl)⟩, trivial⟩ rfl ⟨_, rfl, _, _, rfl, (SlR.mv h11 (flat1_back hb hbd)), (SlR.mv h16 (flat1_back hb hbd)), (hb.below (flat1_le _))⟩
theorem client_Clients_ready_ok (w0 : World) (hg : Gs w0) {ρA : Tags} (hbd : ∀ b, ρA b ≠ 0 → b < w0.heap.size) (hz : Gz ρA) {τ0 : Nat → Nat} (hτ0 : ∀ p, 1 ≤ τ0 p) {r_0 : client_Clients} {gr_0 : Nat} {r : Bool} (ho0 : client_Clients.O τ0 ρA w0 gr_0 r_0) (hS : client_Clients_ready r_0 = some r) :
  Calls Tryz.prog 50 #[.pointer (some ⟨gr_0, 0, none⟩)] w0 (Ret (fun v w' => v = .bool r ∧ Below w0.heap.size w0 w')) := by
 unfold client_Clients_ready at hS
 have hb := flat1_fr (ρ := ρA) (w := w0) hbd
 have hz := hz.flat1
 obtain ⟨v1, hB3, h2⟩ := ho0
 replace hB3 := hB3.mv (flat1_mv (hτ0 0))
 replace h2 := h2.mv (flat1_mv (hτ0 1))
 replace hB3 : Blk (flat1 ρA) 1 w0 gr_0 (.cells #[v1] 57 (0, 0)) := hB3
 replace h2 : MapT str api_Client.c true (flat1 ρA) 1 w0 v1 r_0.of_ := h2
 refine calls_of_ke Tryz.func50 rfl (n := 12) rfl rfl (l := [(0, .pointer (some ⟨gr_0, 0, none⟩))]) rfl ?_
 refine ke_seq ?_
 refine ke_region ?_
 refine sr_ev (v := .bool false) (ev_assign rfl) (by decide) ?_
 refine sr_end (l' := [(0, .pointer (some ⟨gr_0, 0, none⟩))]) (.cons rfl (.nil _)) ?_
 refine ke_seq ?_
 refine ke_region ?_
 refine sr_ev (v := .pointer (some ⟨gr_0, 0, none⟩)) (ev_move rfl) (by decide) ?_
 refine sr_ev (v := .bool true) (ev_pneT_some Tryz.underlying33 rfl rfl) (by decide) ?_
 refine sr_ev (v := .bool true) (ev_move rfl) (by decide) ?_
 refine sr_evg (b := true) (e := 5) rfl rfl rfl (v := .pointer (some ⟨gr_0, 0, none⟩)) (ev_move rfl) (by decide) ?_
 refine sr_evg (b := true) (e := 5) rfl rfl rfl (v := .pointer (some ⟨gr_0, 0, none⟩)) (ev_nilCheck rfl) (by decide) ?_
 refine sr_evg (b := true) (e := 5) rfl rfl rfl (v := .pointer (some ⟨gr_0, 0, none⟩)) (ev_fieldAddr (i := 0) Tryz.underlying57 rfl Tryz.info55 rfl rfl) (by decide) ?_
 refine sr_evg (b := true) (e := 5) rfl rfl rfl (v := v1) (ev_load Tryz.isAgg55 rfl (hB3.cell rfl)) (by decide) ?_
 refine sr_evg (b := true) (e := 5) rfl rfl rfl (v := .bool (!r_0.of_.isNone)) (ev_mapNe h2 Tryz.underlying55 w0 rfl rfl) (by decide) ?_
 refine sr_ev (v := .bool (!r_0.of_.isNone)) (ev_pick_t rfl rfl rfl) (by decide) ?_
 refine sr_ev (v := .bool (!r_0.of_.isNone)) (ev_assign rfl) (by decide) ?_
 refine sr_end (l' := [(2, .bool (!r_0.of_.isNone))]) (.cons rfl (.nil _)) ?_
 cases hS
 exact ke_ret1 Tryz.func50 rfl rfl ⟨_, rfl, rfl, (hb.below (flat1_le _))⟩
theorem fold_upper_ok (w0 : World) (hg : Gs w0) {c_0 : Int} {r : Bool} (hS : fold_upper c_0 = some r) :
  Calls Tryz.prog 92 #[.int .u8 c_0] w0 (Ret (fun v w' => v = .bool r ∧ Below w0.heap.size w0 w')) := by
 unfold fold_upper at hS
 have hb := Below.refl w0.heap.size w0
 refine calls_of_ke Tryz.func92 rfl (n := 9) rfl rfl (l := [(0, .int .u8 c_0)]) rfl ?_
 refine ke_seq ?_
 refine ke_region ?_
 refine sr_ev (v := .bool false) (ev_assign rfl) (by decide) ?_
 refine sr_end (l' := [(0, .int .u8 c_0)]) (.cons rfl (.nil _)) ?_
 refine ke_seq ?_
 refine ke_region ?_
 refine sr_ev (v := .int .u8 c_0) (ev_move rfl) (by decide) ?_
 refine sr_ev (v := .bool (decide (c_0 ≥ 65))) (ev_ge rfl rfl) (by decide) ?_
 refine sr_ev (v := .bool (decide (c_0 ≥ 65))) (ev_move rfl) (by decide) ?_
 refine sr_join (m := 3) (C := fun (x : Bool) w1 => x = ((decide (c_0 ≥ 65)) && (decide (c_0 ≤ 90))) ∧ w0 = w1) (l' := fun x => [(8, .bool x)]) ?_ ?_
 ·rintro _ _ ⟨rfl, rfl⟩
  refine sr_ev (v := .bool ((decide (c_0 ≥ 65)) && (decide (c_0 ≤ 90)))) (ev_assign rfl) (by decide) ?_
  refine sr_end (l' := [(2, .bool ((decide (c_0 ≥ 65)) && (decide (c_0 ≤ 90))))]) (.cons rfl (.nil _)) ?_
  cases hS
  exact ke_ret1 Tryz.func92 rfl rfl ⟨_, rfl, rfl, hb⟩
 ·intro K2
  rcases Bool.eq_false_or_eq_true (decide (c_0 ≥ 65)) with hg1 | hg1
  ·refine sr_evg (b := true) (e := 5) rfl rfl hg1 (v := .int .u8 c_0) (ev_move rfl) (by decide) ?_
   refine sr_evg (b := true) (e := 5) rfl rfl hg1 (v := .bool (decide (c_0 ≤ 90))) (ev_le rfl rfl) (by decide) ?_
   refine sr_ev (v := .bool (decide (c_0 ≤ 90))) (ev_pick_t rfl hg1 rfl) (by decide) ?_
   exact sr_weaken (l' := [(8, .bool (decide (c_0 ≤ 90)))]) (.cons rfl (.nil _)) (K2 (decide (c_0 ≤ 90)) _ ⟨by rw [hg1]; rfl, rfl⟩)
  ·refine sr_pass (e := 5) rfl rfl (by rw [hg1]; rfl) (by decide) ?_
   refine sr_pass (e := 5) rfl rfl (by rw [hg1]; rfl) (by decide) ?_
   refine sr_ev (v := .bool false) (ev_pick_f rfl hg1 rfl) (by decide) ?_
   exact sr_weaken (l' := [(8, .bool false)]) (.cons rfl (.nil _)) (K2 false _ ⟨by rw [hg1]; rfl, rfl⟩)
theorem fold_letter_ok (w0 : World) (hg : Gs w0) {c_0 : Int} {r : Bool} (hS : fold_letter c_0 = some r) :
  Calls Tryz.prog 69 #[.int .u8 c_0] w0 (Ret (fun v w' => v = .bool r ∧ Below w0.heap.size w0 w')) := by
 unfold fold_letter at hS
 have hb := Below.refl w0.heap.size w0
 refine calls_of_ke Tryz.func69 rfl (n := 13) rfl rfl (l := [(0, .int .u8 c_0)]) rfl ?_
 refine ke_seq ?_
 refine ke_region ?_
 refine sr_ev (v := .bool false) (ev_assign rfl) (by decide) ?_
 refine sr_end (l' := [(0, .int .u8 c_0)]) (.cons rfl (.nil _)) ?_
 refine ke_seq ?_
 refine ke_region ?_
 refine sr_ev (v := .int .u8 c_0) (ev_move rfl) (by decide) ?_
 obtain ⟨y1, hy2, hS⟩ := bind_some' hS
 refine sr_call (vs := [.int .u8 c_0]) rfl Tryz.call92 rfl (fold_upper_ok _ (hg.below hb) hy2) (by decide) ?_
 rintro _ w3 ⟨rfl, hbw4⟩
 replace hb := hb.trans (hbw4.mono hb.size)
 refine sr_ev (v := .bool y1) (ev_move rfl) (by decide) ?_
 refine sr_join (m := 7) (C := fun (x : Bool) w1 => x = (y1 || ((decide (c_0 ≥ 97)) && (decide (c_0 ≤ 122)))) ∧ w3 = w1) (l' := fun x => [(12, .bool x)]) ?_ ?_
 ·rintro _ _ ⟨rfl, rfl⟩
  refine sr_ev (v := .bool (y1 || ((decide (c_0 ≥ 97)) && (decide (c_0 ≤ 122))))) (ev_assign rfl) (by decide) ?_
  refine sr_end (l' := [(2, .bool (y1 || ((decide (c_0 ≥ 97)) && (decide (c_0 ≤ 122)))))]) (.cons rfl (.nil _)) ?_
  cases hS
  exact ke_ret1 Tryz.func69 rfl rfl ⟨_, rfl, rfl, hb⟩
 ·intro K6
  rcases Bool.eq_false_or_eq_true y1 with hg5 | hg5
  ·refine sr_pass (e := 5) rfl rfl (by rw [hg5]; rfl) (by decide) ?_
   refine sr_pass (e := 5) rfl rfl (by rw [hg5]; rfl) (by decide) ?_
   refine sr_pass (e := 5) rfl rfl (by rw [hg5]; rfl) (by decide) ?_
   refine sr_pass_undef (e := 8) rfl rfl (by decide) ?_
   refine sr_pass_undef (e := 8) rfl rfl (by decide) ?_
   refine sr_pass (e := 5) rfl rfl (by rw [hg5]; rfl) (by decide) ?_
   refine sr_ev (v := .bool true) (ev_pick_t rfl hg5 rfl) (by decide) ?_
   exact sr_weaken (l' := [(12, .bool true)]) (.cons rfl (.nil _)) (K6 true _ ⟨by rw [hg5]; rfl, rfl⟩)
  ·refine sr_evg (b := false) (e := 5) rfl rfl hg5 (v := .int .u8 c_0) (ev_move rfl) (by decide) ?_
   refine sr_evg (b := false) (e := 5) rfl rfl hg5 (v := .bool (decide (c_0 ≥ 97))) (ev_ge rfl rfl) (by decide) ?_
   refine sr_evg (b := false) (e := 5) rfl rfl hg5 (v := .bool (decide (c_0 ≥ 97))) (ev_move rfl) (by decide) ?_
   refine sr_join (m := 3) (C := fun (x : Bool) w1 => x = ((decide (c_0 ≥ 97)) && (decide (c_0 ≤ 122))) ∧ w3 = w1) (l' := fun x => [(5, .bool y1), (11, .bool x)]) ?_ ?_
   ·rintro _ _ ⟨rfl, rfl⟩
    refine sr_ev (v := .bool ((decide (c_0 ≥ 97)) && (decide (c_0 ≤ 122)))) (ev_pick_f rfl hg5 rfl) (by decide) ?_
    exact sr_weaken (l' := [(12, .bool ((decide (c_0 ≥ 97)) && (decide (c_0 ≤ 122))))]) (.cons rfl (.nil _)) (K6 ((decide (c_0 ≥ 97)) && (decide (c_0 ≤ 122))) _ ⟨by rw [hg5]; rfl, rfl⟩)
   ·intro K13
    rcases Bool.eq_false_or_eq_true (decide (c_0 ≥ 97)) with hg12 | hg12
    ·refine sr_evg (b := true) (e := 8) rfl rfl hg12 (v := .int .u8 c_0) (ev_move rfl) (by decide) ?_
     refine sr_evg (b := true) (e := 8) rfl rfl hg12 (v := .bool (decide (c_0 ≤ 122))) (ev_le rfl rfl) (by decide) ?_
     refine sr_evg (b := false) (e := 5) rfl rfl hg5 (v := .bool (decide (c_0 ≤ 122))) (ev_pick_t rfl hg12 rfl) (by decide) ?_
     exact sr_weaken (l' := [(5, .bool y1), (11, .bool (decide (c_0 ≤ 122)))]) (.cons rfl (.cons rfl (.nil _))) (K13 (decide (c_0 ≤ 122)) _ ⟨by rw [hg12]; rfl, rfl⟩)
    ·refine sr_pass (e := 8) rfl rfl (by rw [hg12]; rfl) (by decide) ?_
     refine sr_pass (e := 8) rfl rfl (by rw [hg12]; rfl) (by decide) ?_
     refine sr_evg (b := false) (e := 5) rfl rfl hg5 (v := .bool false) (ev_pick_f rfl hg12 rfl) (by decide) ?_
     exact sr_weaken (l' := [(5, .bool y1), (11, .bool false)]) (.cons rfl (.cons rfl (.nil _))) (K13 false _ ⟨by rw [hg12]; rfl, rfl⟩)
theorem fold_digit_ok (w0 : World) (hg : Gs w0) {c_0 : Int} {r : Bool} (hS : fold_digit c_0 = some r) :
  Calls Tryz.prog 70 #[.int .u8 c_0] w0 (Ret (fun v w' => v = .bool r ∧ Below w0.heap.size w0 w')) := by
 unfold fold_digit at hS
 have hb := Below.refl w0.heap.size w0
 refine calls_of_ke Tryz.func70 rfl (n := 9) rfl rfl (l := [(0, .int .u8 c_0)]) rfl ?_
 refine ke_seq ?_
 refine ke_region ?_
 refine sr_ev (v := .bool false) (ev_assign rfl) (by decide) ?_
 refine sr_end (l' := [(0, .int .u8 c_0)]) (.cons rfl (.nil _)) ?_
 refine ke_seq ?_
 refine ke_region ?_
 refine sr_ev (v := .int .u8 c_0) (ev_move rfl) (by decide) ?_
 refine sr_ev (v := .bool (decide (c_0 ≥ 48))) (ev_ge rfl rfl) (by decide) ?_
 refine sr_ev (v := .bool (decide (c_0 ≥ 48))) (ev_move rfl) (by decide) ?_
 refine sr_join (m := 3) (C := fun (x : Bool) w1 => x = ((decide (c_0 ≥ 48)) && (decide (c_0 ≤ 57))) ∧ w0 = w1) (l' := fun x => [(8, .bool x)]) ?_ ?_
 ·rintro _ _ ⟨rfl, rfl⟩
  refine sr_ev (v := .bool ((decide (c_0 ≥ 48)) && (decide (c_0 ≤ 57)))) (ev_assign rfl) (by decide) ?_
  refine sr_end (l' := [(2, .bool ((decide (c_0 ≥ 48)) && (decide (c_0 ≤ 57))))]) (.cons rfl (.nil _)) ?_
  cases hS
  exact ke_ret1 Tryz.func70 rfl rfl ⟨_, rfl, rfl, hb⟩
 ·intro K2
  rcases Bool.eq_false_or_eq_true (decide (c_0 ≥ 48)) with hg1 | hg1
  ·refine sr_evg (b := true) (e := 5) rfl rfl hg1 (v := .int .u8 c_0) (ev_move rfl) (by decide) ?_
   refine sr_evg (b := true) (e := 5) rfl rfl hg1 (v := .bool (decide (c_0 ≤ 57))) (ev_le rfl rfl) (by decide) ?_
   refine sr_ev (v := .bool (decide (c_0 ≤ 57))) (ev_pick_t rfl hg1 rfl) (by decide) ?_
   exact sr_weaken (l' := [(8, .bool (decide (c_0 ≤ 57)))]) (.cons rfl (.nil _)) (K2 (decide (c_0 ≤ 57)) _ ⟨by rw [hg1]; rfl, rfl⟩)
  ·refine sr_pass (e := 5) rfl rfl (by rw [hg1]; rfl) (by decide) ?_
   refine sr_pass (e := 5) rfl rfl (by rw [hg1]; rfl) (by decide) ?_
   refine sr_ev (v := .bool false) (ev_pick_f rfl hg1 rfl) (by decide) ?_
   exact sr_weaken (l' := [(8, .bool false)]) (.cons rfl (.nil _)) (K2 false _ ⟨by rw [hg1]; rfl, rfl⟩)
theorem fold_Word_1_ok (w0 : World) (hg : Gs w0) {c_0 : Int} {r : Bool} (hS : fold_Word_1 c_0 = some r) :
  Calls Tryz.prog 68 #[.int .u8 c_0] w0 (Ret (fun v w' => v = .bool r ∧ Below w0.heap.size w0 w')) := by
 unfold fold_Word_1 at hS
 have hb := Below.refl w0.heap.size w0
 refine calls_of_ke Tryz.func68 rfl (n := 25) rfl rfl (l := [(0, .int .u8 c_0)]) rfl ?_
 refine ke_seq ?_
 refine ke_region ?_
 refine sr_ev (v := .bool false) (ev_assign rfl) (by decide) ?_
 refine sr_end (l' := [(0, .int .u8 c_0)]) (.cons rfl (.nil _)) ?_
 refine ke_seq ?_
 refine ke_region ?_
 refine sr_ev (v := .int .u8 c_0) (ev_move rfl) (by decide) ?_
 obtain ⟨y1, hy2, hS⟩ := bind_some' hS
 refine sr_call (vs := [.int .u8 c_0]) rfl Tryz.call69 rfl (fold_letter_ok _ (hg.below hb) hy2) (by decide) ?_
 rintro _ w3 ⟨rfl, hbw4⟩
 replace hb := hb.trans (hbw4.mono hb.size)
 refine sr_ev (v := .bool y1) (ev_move rfl) (by decide) ?_
 obtain ⟨z7, hz9, hS⟩ := bind_some' hS
 refine sr_join (m := 3) (C := fun (x : Bool) w1 => z7 = x ∧ Below w3.heap.size w3 w1) (l' := fun x => [(0, .int .u8 c_0), (8, .bool x)]) ?_ ?_
 ·rintro _ w10 ⟨rfl, hbw11⟩
  replace hb := hb.trans (hbw11.mono hb.size)
  refine sr_ev (v := .bool z7) (ev_move rfl) (by decide) ?_
  refine sr_join (m := 3) (C := fun (x : Bool) w1 => x = (z7 || (c_0 == 45)) ∧ w10 = w1) (l' := fun x => [(0, .int .u8 c_0), (12, .bool x)]) ?_ ?_
  ·rintro _ _ ⟨rfl, rfl⟩
   refine sr_ev (v := .bool (z7 || (c_0 == 45))) (ev_move rfl) (by decide) ?_
   refine sr_join (m := 3) (C := fun (x : Bool) w1 => x = ((z7 || (c_0 == 45)) || (c_0 == 95)) ∧ w10 = w1) (l' := fun x => [(0, .int .u8 c_0), (16, .bool x)]) ?_ ?_
   ·rintro _ _ ⟨rfl, rfl⟩
    refine sr_ev (v := .bool ((z7 || (c_0 == 45)) || (c_0 == 95))) (ev_move rfl) (by decide) ?_
    refine sr_join (m := 3) (C := fun (x : Bool) w1 => x = (((z7 || (c_0 == 45)) || (c_0 == 95)) || (c_0 == 46)) ∧ w10 = w1) (l' := fun x => [(0, .int .u8 c_0), (20, .bool x)]) ?_ ?_
    ·rintro _ _ ⟨rfl, rfl⟩
     refine sr_ev (v := .bool (((z7 || (c_0 == 45)) || (c_0 == 95)) || (c_0 == 46))) (ev_move rfl) (by decide) ?_
     refine sr_join (m := 3) (C := fun (x : Bool) w1 => x = ((((z7 || (c_0 == 45)) || (c_0 == 95)) || (c_0 == 46)) || (c_0 == 58)) ∧ w10 = w1) (l' := fun x => [(24, .bool x)]) ?_ ?_
     ·rintro _ _ ⟨rfl, rfl⟩
      refine sr_ev (v := .bool ((((z7 || (c_0 == 45)) || (c_0 == 95)) || (c_0 == 46)) || (c_0 == 58))) (ev_assign rfl) (by decide) ?_
      refine sr_end (l' := [(2, .bool ((((z7 || (c_0 == 45)) || (c_0 == 95)) || (c_0 == 46)) || (c_0 == 58)))]) (.cons rfl (.nil _)) ?_
      cases hS
      exact ke_ret1 Tryz.func68 rfl rfl ⟨_, rfl, rfl, hb⟩
     ·intro K38
      rcases Bool.eq_false_or_eq_true (((z7 || (c_0 == 45)) || (c_0 == 95)) || (c_0 == 46)) with hg37 | hg37
      ·refine sr_pass (e := 21) rfl rfl (by rw [hg37]; rfl) (by decide) ?_
       refine sr_pass (e := 21) rfl rfl (by rw [hg37]; rfl) (by decide) ?_
       refine sr_ev (v := .bool true) (ev_pick_t rfl hg37 rfl) (by decide) ?_
       exact sr_weaken (l' := [(24, .bool true)]) (.cons rfl (.nil _)) (K38 true _ ⟨by rw [hg37]; rfl, rfl⟩)
      ·refine sr_evg (b := false) (e := 21) rfl rfl hg37 (v := .int .u8 c_0) (ev_move rfl) (by decide) ?_
       refine sr_evg (b := false) (e := 21) rfl rfl hg37 (v := .bool (c_0 == 58)) (ev_eq rfl rfl) (by decide) ?_
       refine sr_ev (v := .bool (c_0 == 58)) (ev_pick_f rfl hg37 rfl) (by decide) ?_
       exact sr_weaken (l' := [(24, .bool (c_0 == 58))]) (.cons rfl (.nil _)) (K38 (c_0 == 58) _ ⟨by rw [hg37]; rfl, rfl⟩)
    ·intro K31
     rcases Bool.eq_false_or_eq_true ((z7 || (c_0 == 45)) || (c_0 == 95)) with hg30 | hg30
     ·refine sr_pass (e := 17) rfl rfl (by rw [hg30]; rfl) (by decide) ?_
      refine sr_pass (e := 17) rfl rfl (by rw [hg30]; rfl) (by decide) ?_
      refine sr_ev (v := .bool true) (ev_pick_t rfl hg30 rfl) (by decide) ?_
      exact sr_weaken (l' := [(0, .int .u8 c_0), (20, .bool true)]) (.cons rfl (.cons rfl (.nil _))) (K31 true _ ⟨by rw [hg30]; rfl, rfl⟩)
     ·refine sr_evg (b := false) (e := 17) rfl rfl hg30 (v := .int .u8 c_0) (ev_move rfl) (by decide) ?_
      refine sr_evg (b := false) (e := 17) rfl rfl hg30 (v := .bool (c_0 == 46)) (ev_eq rfl rfl) (by decide) ?_
      refine sr_ev (v := .bool (c_0 == 46)) (ev_pick_f rfl hg30 rfl) (by decide) ?_
      exact sr_weaken (l' := [(0, .int .u8 c_0), (20, .bool (c_0 == 46))]) (.cons rfl (.cons rfl (.nil _))) (K31 (c_0 == 46) _ ⟨by rw [hg30]; rfl, rfl⟩)
   ·intro K24
    rcases Bool.eq_false_or_eq_true (z7 || (c_0 == 45)) with hg23 | hg23
    ·refine sr_pass (e := 13) rfl rfl (by rw [hg23]; rfl) (by decide) ?_
     refine sr_pass (e := 13) rfl rfl (by rw [hg23]; rfl) (by decide) ?_
     refine sr_ev (v := .bool true) (ev_pick_t rfl hg23 rfl) (by decide) ?_
     exact sr_weaken (l' := [(0, .int .u8 c_0), (16, .bool true)]) (.cons rfl (.cons rfl (.nil _))) (K24 true _ ⟨by rw [hg23]; rfl, rfl⟩)
    ·refine sr_evg (b := false) (e := 13) rfl rfl hg23 (v := .int .u8 c_0) (ev_move rfl) (by decide) ?_
     refine sr_evg (b := false) (e := 13) rfl rfl hg23 (v := .bool (c_0 == 95)) (ev_eq rfl rfl) (by decide) ?_
     refine sr_ev (v := .bool (c_0 == 95)) (ev_pick_f rfl hg23 rfl) (by decide) ?_
     exact sr_weaken (l' := [(0, .int .u8 c_0), (16, .bool (c_0 == 95))]) (.cons rfl (.cons rfl (.nil _))) (K24 (c_0 == 95) _ ⟨by rw [hg23]; rfl, rfl⟩)
  ·intro K17
   rcases Bool.eq_false_or_eq_true z7 with hg16 | hg16
   ·refine sr_pass (e := 9) rfl rfl (by rw [hg16]; rfl) (by decide) ?_
    refine sr_pass (e := 9) rfl rfl (by rw [hg16]; rfl) (by decide) ?_
    refine sr_ev (v := .bool true) (ev_pick_t rfl hg16 rfl) (by decide) ?_
    exact sr_weaken (l' := [(0, .int .u8 c_0), (12, .bool true)]) (.cons rfl (.cons rfl (.nil _))) (K17 true _ ⟨by rw [hg16]; rfl, rfl⟩)
   ·refine sr_evg (b := false) (e := 9) rfl rfl hg16 (v := .int .u8 c_0) (ev_move rfl) (by decide) ?_
    refine sr_evg (b := false) (e := 9) rfl rfl hg16 (v := .bool (c_0 == 45)) (ev_eq rfl rfl) (by decide) ?_
    refine sr_ev (v := .bool (c_0 == 45)) (ev_pick_f rfl hg16 rfl) (by decide) ?_
    exact sr_weaken (l' := [(0, .int .u8 c_0), (12, .bool (c_0 == 45))]) (.cons rfl (.cons rfl (.nil _))) (K17 (c_0 == 45) _ ⟨by rw [hg16]; rfl, rfl⟩)
 ·intro K6
  clear hS
  have hj8 := Below.refl w3.heap.size w3
  rcases Bool.eq_false_or_eq_true y1 with hg5 | hg5
  ·have hS := ite_true' hz9 hg5
   refine sr_pass (e := 5) rfl rfl (by rw [hg5]; rfl) (by decide) ?_
   refine sr_pass (e := 5) rfl rfl (by rw [hg5]; rfl) (by decide) ?_
   refine sr_ev (v := .bool true) (ev_pick_t rfl hg5 rfl) (by decide) ?_
   exact sr_weaken (l' := [(0, .int .u8 c_0), (8, .bool true)]) (.cons rfl (.cons rfl (.nil _))) (K6 true _ ⟨(Option.some.inj hS).symm, hj8⟩)
  ·have hS := ite_false' hz9 hg5
   refine sr_evg (b := false) (e := 5) rfl rfl hg5 (v := .int .u8 c_0) (ev_move rfl) (by decide) ?_
   obtain ⟨y12, hy13, hS⟩ := bind_some' hS
   refine sr_callg (b := false) (e := 5) rfl rfl hg5 (vs := [.int .u8 c_0]) rfl Tryz.call70 rfl (fold_digit_ok _ (hg.below hb) hy13) (by decide) ?_
   rintro _ w14 ⟨rfl, hbw15⟩
   replace hb := hb.trans (hbw15.mono hb.size)
   replace hj8 := hj8.trans (hbw15.mono hj8.size)
   refine sr_ev (v := .bool y12) (ev_pick_f rfl hg5 rfl) (by decide) ?_
   exact sr_weaken (l' := [(0, .int .u8 c_0), (8, .bool y12)]) (.cons rfl (.cons rfl (.nil _))) (K6 y12 _ ⟨(Option.some.inj hS).symm, hj8⟩)
theorem fold_made__Word_1_L1_ok {w0 : World} (hg : Gs w0) : ∀ (n : Nat), ∀ {r : Bool} {s_0 : Str} {t_7 : Int} {t_8 : Int}, fold_made__Word_1_L1 n s_0 t_7 t_8 = some r → ∀ {w : World}, (Below w0.heap.size w0 w) → KE Tryz.prog 67 (Ret (fun v w' => v = .bool r ∧ Below w0.heap.size w0 w')) 25 [.code (sub (bodyOf Tryz.f67) [2, 1, 2, 2, 1]), .inLoop (sub (bodyOf Tryz.f67) [2, 1, 2, 2, 1]), .inBlock 0, .code (sub (bodyOf Tryz.f67) [2, 2])] [(0, str s_0), (1, .func (.func 68) #[] #[]), (7, .int .i64 t_7), (8, .int .i64 t_8)] w := by
 intro n
 induction n with
 | zero => intro r s_0 t_7 t_8 hS; cases hS
 | succ n ih =>
  have hr0 : ∀ {r : Bool} {s_0 : Str} {t_7 : Int} {t_8 : Int}, fold_made__Word_1_L1 n s_0 t_7 t_8 = some r → ∀ {w : World}, (Below w0.heap.size w0 w) → KE Tryz.prog 67 (Ret (fun v w' => v = .bool r ∧ Below w0.heap.size w0 w')) 25 [.inLoop (sub (bodyOf Tryz.f67) [2, 1, 2, 2, 1]), .inBlock 0, .code (sub (bodyOf Tryz.f67) [2, 2])] [(0, str s_0), (1, .func (.func 68) #[] #[]), (7, .int .i64 t_7), (8, .int .i64 t_8)] w := fun {r} {s_0} {t_7} {t_8} hS {w} hb => ke_inLoop (ih hS hb)
  clear ih
  intro r s_0 t_7 t_8 hS w hb
  unfold fold_made__Word_1_L1 at hS
  refine ke_seq ?_
  refine ke_region ?_
  refine sr_ev (v := .bool (decide (t_8 < t_7))) (ev_lt rfl rfl) (by decide) ?_
  refine sr_end (l' := [(0, str s_0), (1, .func (.func 68) #[] #[]), (7, .int .i64 t_7), (8, .int .i64 t_8), (9, .bool (decide (t_8 < t_7)))]) (.cons rfl (.cons rfl (.cons rfl (.cons rfl (.cons rfl (.nil _)))))) ?_
  refine ke_seq ?_
  refine ke_cond (t := decide (t_8 < t_7)) rfl (fun hc1 => ?_) (fun hc1 => ?_)
  ·replace hS := ite_true' hS hc1
   refine ke_skip ?_
   refine ke_seq ?_
   refine ke_block ?_
   refine ke_seq ?_
   refine ke_region ?_
   refine sr_ev (v := .int .i64 t_8) (ev_move rfl) (by decide) ?_
   refine sr_ev (v := .int .i64 t_8) (ev_assign rfl) (by decide) ?_
   refine sr_end (l' := [(0, str s_0), (1, .func (.func 68) #[] #[]), (5, .int .i64 t_8), (7, .int .i64 t_7), (8, .int .i64 t_8)]) (.cons rfl (.cons rfl (.cons rfl (.cons rfl (.cons rfl (.nil _)))))) ?_
   refine ke_seq ?_
   refine ke_region ?_
   refine sr_ev (v := .func (.func 68) #[] #[]) (ev_move rfl) (by decide) ?_
   refine sr_ev (v := str s_0) (ev_move rfl) (by decide) ?_
   refine sr_ev (v := .int .i64 t_8) (ev_move rfl) (by decide) ?_
   obtain ⟨hk2, hS⟩ := chk_some hS
   refine sr_ev (v := .int .u8 (byteAt s_0 t_8)) (ev_sindex Tryz.underlying9 rfl rfl hk2) (by decide) ?_
   obtain ⟨y3, hy4, hS⟩ := bind_some' hS
   refine sr_call (vs := [.int .u8 (byteAt s_0 t_8)]) rfl Tryz.call68 rfl (fold_Word_1_ok _ (hg.below hb) hy4) (by decide) ?_
   rintro _ w5 ⟨rfl, hbw6⟩
   replace hb := hb.trans (hbw6.mono hb.size)
   refine sr_ev (v := .bool (!y3)) (ev_not rfl) (by decide) ?_
   refine sr_end (l' := [(0, str s_0), (1, .func (.func 68) #[] #[]), (7, .int .i64 t_7), (8, .int .i64 t_8), (16, .bool (!y3))]) (.cons rfl (.cons rfl (.cons rfl (.cons rfl (.cons rfl (.nil _)))))) ?_
   refine ke_cond (t := !y3) rfl (fun hc7 => ?_) (fun hc7 => ?_)
   ·replace hS := ite_true' hS hc7
    refine ke_seq ?_
    refine ke_region ?_
    refine sr_ev (v := .bool false) (ev_assign rfl) (by decide) ?_
    refine sr_end (l' := [(4, .bool false)]) (.cons rfl (.nil _)) ?_
    cases hS
    exact ke_ret1 Tryz.func67 rfl rfl ⟨_, rfl, rfl, hb⟩
   ·replace hS := ite_false' hS hc7
    refine ke_skip ?_
    refine ke_inBlock ?_
    refine ke_region ?_
    refine sr_ev (v := .int .i64 (IntKind.i64.wrap (t_8 + 1))) (ev_add rfl rfl) (by decide) ?_
    refine sr_ev (v := .int .i64 (IntKind.i64.wrap (t_8 + 1))) (ev_move rfl) (by decide) ?_
    refine sr_end (l' := [(0, str s_0), (1, .func (.func 68) #[] #[]), (7, .int .i64 t_7), (8, .int .i64 (IntKind.i64.wrap (t_8 + 1)))]) (.cons rfl (.cons rfl (.cons rfl (.cons rfl (.nil _))))) ?_
    have hK := hr0 hS hb
    exact ke_weaken (l' := [(0, str s_0), (1, .func (.func 68) #[] #[]), (7, .int .i64 t_7), (8, .int .i64 (IntKind.i64.wrap (t_8 + 1)))]) (.cons rfl (.cons rfl (.cons rfl (.cons rfl (.nil _))))) hK
  ·replace hS := ite_false' hS hc1
   refine ke_exit (k' := _) rfl ?_
   refine ke_seq ?_
   refine ke_region ?_
   refine sr_ev (v := str s_0) (ev_move rfl) (by decide) ?_
   refine sr_ev (v := .bool (!(s_0 == ([])))) (ev_sne rfl rfl) (by decide) ?_
   refine sr_ev (v := .bool (!(s_0 == ([])))) (ev_move rfl) (by decide) ?_
   refine sr_join (m := 4) (C := fun (x : Bool) w1 => x = ((!(s_0 == ([]))) && (decide ((s_0.length : Int) ≤ 64))) ∧ w = w1) (l' := fun x => [(24, .bool x)]) ?_ ?_
   ·rintro _ _ ⟨rfl, rfl⟩
    refine sr_ev (v := .bool ((!(s_0 == ([]))) && (decide ((s_0.length : Int) ≤ 64)))) (ev_assign rfl) (by decide) ?_
    refine sr_end (l' := [(4, .bool ((!(s_0 == ([]))) && (decide ((s_0.length : Int) ≤ 64))))]) (.cons rfl (.nil _)) ?_
    cases hS
    exact ke_ret1 Tryz.func67 rfl rfl ⟨_, rfl, rfl, hb⟩
   ·intro K9
    rcases Bool.eq_false_or_eq_true (!(s_0 == ([]))) with hg8 | hg8
    ·refine sr_evg (b := true) (e := 20) rfl rfl hg8 (v := str s_0) (ev_move rfl) (by decide) ?_
     refine sr_evg (b := true) (e := 20) rfl rfl hg8 (v := .int .i64 (s_0.length : Int)) (ev_slen Tryz.underlying9 rfl) (by decide) ?_
     refine sr_evg (b := true) (e := 20) rfl rfl hg8 (v := .bool (decide ((s_0.length : Int) ≤ 64))) (ev_le rfl rfl) (by decide) ?_
     refine sr_ev (v := .bool (decide ((s_0.length : Int) ≤ 64))) (ev_pick_t rfl hg8 rfl) (by decide) ?_
     exact sr_weaken (l' := [(24, .bool (decide ((s_0.length : Int) ≤ 64)))]) (.cons rfl (.nil _)) (K9 (decide ((s_0.length : Int) ≤ 64)) _ ⟨by rw [hg8]; rfl, rfl⟩)
    ·refine sr_pass (e := 20) rfl rfl (by rw [hg8]; rfl) (by decide) ?_
     refine sr_pass (e := 20) rfl rfl (by rw [hg8]; rfl) (by decide) ?_
     refine sr_pass (e := 20) rfl rfl (by rw [hg8]; rfl) (by decide) ?_
     refine sr_ev (v := .bool false) (ev_pick_f rfl hg8 rfl) (by decide) ?_
     exact sr_weaken (l' := [(24, .bool false)]) (.cons rfl (.nil _)) (K9 false _ ⟨by rw [hg8]; rfl, rfl⟩)
theorem fold_made__Word_1_ok (w0 : World) (hg : Gs w0) {s_0 : Str} {r : Bool} (hS : fold_made__Word_1 s_0 = some r) :
  Calls Tryz.prog 67 #[str s_0, .func (.func 68) #[] #[]] w0 (Ret (fun v w' => v = .bool r ∧ Below w0.heap.size w0 w')) := by
 unfold fold_made__Word_1 at hS
 have hb := Below.refl w0.heap.size w0
 refine calls_of_ke Tryz.func67 rfl (n := 25) rfl rfl (l := [(0, str s_0), (1, .func (.func 68) #[] #[])]) rfl ?_
 refine ke_seq ?_
 refine ke_region ?_
 refine sr_ev (v := .bool false) (ev_assign rfl) (by decide) ?_
 refine sr_end (l' := [(0, str s_0), (1, .func (.func 68) #[] #[])]) (.cons rfl (.cons rfl (.nil _))) ?_
 refine ke_seq ?_
 refine ke_seq ?_
 refine ke_region ?_
 refine sr_ev (v := str s_0) (ev_move rfl) (by decide) ?_
 refine sr_ev (v := .int .i64 (s_0.length : Int)) (ev_slen Tryz.underlying9 rfl) (by decide) ?_
 refine sr_ev (v := .int .i64 0) (ev_move rfl) (by decide) ?_
 refine sr_end (l' := [(0, str s_0), (1, .func (.func 68) #[] #[]), (7, .int .i64 (s_0.length : Int)), (8, .int .i64 0)]) (.cons rfl (.cons rfl (.cons rfl (.cons rfl (.nil _))))) ?_
 refine ke_block ?_
 have hK := fold_made__Word_1_L1_ok hg _ hS hb
 exact ke_weaken (l' := [(0, str s_0), (1, .func (.func 68) #[] #[]), (7, .int .i64 (s_0.length : Int)), (8, .int .i64 0)]) (.cons rfl (.cons rfl (.cons rfl (.cons rfl (.nil _))))) (ke_loop hK)
theorem fold_Word_ok (w0 : World) (hg : Gs w0) {s_0 : Str} {r : Bool} (hS : fold_Word s_0 = some r) :
  Calls Tryz.prog 41 #[str s_0] w0 (Ret (fun v w' => v = .bool r ∧ Below w0.heap.size w0 w')) := by
 unfold fold_Word at hS
 have hb := Below.refl w0.heap.size w0
 refine calls_of_ke Tryz.func41 rfl (n := 5) rfl rfl (l := [(0, str s_0)]) rfl ?_
 refine ke_seq ?_
 refine ke_region ?_
 refine sr_ev (v := .bool false) (ev_assign rfl) (by decide) ?_
 refine sr_end (l' := [(0, str s_0)]) (.cons rfl (.nil _)) ?_
 refine ke_seq ?_
 refine ke_region ?_
 refine sr_ev (v := str s_0) (ev_move rfl) (by decide) ?_
 obtain ⟨y1, hy2, hS⟩ := bind_some' hS
 refine sr_call (vs := [str s_0, .func (.func 68) #[] #[]]) rfl Tryz.call67 rfl (fold_made__Word_1_ok _ (hg.below hb) hy2) (by decide) ?_
 rintro _ w3 ⟨rfl, hbw4⟩
 replace hb := hb.trans (hbw4.mono hb.size)
 refine sr_ev (v := .bool y1) (ev_assign rfl) (by decide) ?_
 refine sr_end (l' := [(2, .bool y1)]) (.cons rfl (.nil _)) ?_
 cases hS
 exact ke_ret1 Tryz.func41 rfl rfl ⟨_, rfl, rfl, hb⟩
theorem digest_ReadHex_B3_ok {w0 : World} (hg : Gs w0) (r0 : Str → Int → Int → Int → Option (Int × Int)) (r1 : Str → Int → Int → Int → Int → Int → Int → Option (Int × Int))
  (hr0 : ∀ {r : Int × Int} {s_0 : Str} {n_4 : Int} {t_13 : Int} {t_14 : Int}, r0 s_0 n_4 t_13 t_14 = some r → ∀ {w : World}, (Below w0.heap.size w0 w) → KE Tryz.prog 91 (Ret (fun v w' => v = .tuple #[.int .u64 r.1, .int .i64 r.2] ∧ Below w0.heap.size w0 w')) 38 [.inLoop (sub (bodyOf Tryz.f91) [2, 2, 2, 1, 2, 2, 1]), .inBlock 0, .code (sub (bodyOf Tryz.f91) [2, 2, 2, 2])] [(0, str s_0), (4, .int .u64 n_4), (13, .int .i64 t_13), (14, .int .i64 t_14)] w)
  (hr1 : ∀ {r : Int × Int} {s_0 : Str} {n_4 : Int} {i_5 : Int} {v_6 : Int} {t_13 : Int} {t_14 : Int} {t_18 : Int}, r1 s_0 n_4 i_5 v_6 t_13 t_14 t_18 = some r → ∀ {w : World}, (Below w0.heap.size w0 w) → KE Tryz.prog 91 (Ret (fun v w' => v = .tuple #[.int .u64 r.1, .int .i64 r.2] ∧ Below w0.heap.size w0 w')) 38 [.inLoop (sub (bodyOf Tryz.f91) [2, 2, 2, 1, 2, 2, 1, 2, 2, 1, 2, 2, 2, 1, 2, 2, 1]), .inBlock 2, .code (sub (bodyOf Tryz.f91) [2, 2, 2, 1, 2, 2, 1, 2, 2, 1, 2, 2, 2, 2]), .inBlock 1, .code (sub (bodyOf Tryz.f91) [2, 2, 2, 1, 2, 2, 1, 2, 2, 2]), .inLoop (sub (bodyOf Tryz.f91) [2, 2, 2, 1, 2, 2, 1]), .inBlock 0, .code (sub (bodyOf Tryz.f91) [2, 2, 2, 2])] [(0, str s_0), (4, .int .u64 n_4), (5, .int .i64 i_5), (6, .int .i64 v_6), (13, .int .i64 t_13), (14, .int .i64 t_14), (17, arrV .u8 tab_digest_digits), (18, .int .i64 t_18)] w) {r : Int × Int} {s_0 : Str} {n_4 : Int} {i_5 : Int} {v_6 : Int} {t_13 : Int} {t_14 : Int} {t_18 : Int} (hS : digest_ReadHex_B3 r0 r1 s_0 n_4 i_5 v_6 t_13 t_14 t_18 = some r) {w : World} (hb : Below w0.heap.size w0 w) :
  KE Tryz.prog 91 (Ret (fun v w' => v = .tuple #[.int .u64 r.1, .int .i64 r.2] ∧ Below w0.heap.size w0 w')) 38 [.inBlock 3, .code (sub (bodyOf Tryz.f91) [2, 2, 2, 1, 2, 2, 1, 2, 2, 1, 2, 2, 2, 1, 2, 2, 1, 2, 2, 2]), .inLoop (sub (bodyOf Tryz.f91) [2, 2, 2, 1, 2, 2, 1, 2, 2, 1, 2, 2, 2, 1, 2, 2, 1]), .inBlock 2, .code (sub (bodyOf Tryz.f91) [2, 2, 2, 1, 2, 2, 1, 2, 2, 1, 2, 2, 2, 2]), .inBlock 1, .code (sub (bodyOf Tryz.f91) [2, 2, 2, 1, 2, 2, 1, 2, 2, 2]), .inLoop (sub (bodyOf Tryz.f91) [2, 2, 2, 1, 2, 2, 1]), .inBlock 0, .code (sub (bodyOf Tryz.f91) [2, 2, 2, 2])] [(0, str s_0), (4, .int .u64 n_4), (5, .int .i64 i_5), (6, .int .i64 v_6), (13, .int .i64 t_13), (14, .int .i64 t_14), (17, arrV .u8 tab_digest_digits), (18, .int .i64 t_18)] w := by
 unfold digest_ReadHex_B3 at hS
 refine ke_inBlock ?_
 refine ke_region ?_
 refine sr_ev (v := .int .i64 (IntKind.i64.wrap (t_18 + 1))) (ev_add rfl rfl) (by decide) ?_
 refine sr_ev (v := .int .i64 (IntKind.i64.wrap (t_18 + 1))) (ev_move rfl) (by decide) ?_
 refine sr_end (l' := [(0, str s_0), (4, .int .u64 n_4), (5, .int .i64 i_5), (6, .int .i64 v_6), (13, .int .i64 t_13), (14, .int .i64 t_14), (17, arrV .u8 tab_digest_digits), (18, .int .i64 (IntKind.i64.wrap (t_18 + 1)))]) (.cons rfl (.cons rfl (.cons rfl (.cons rfl (.cons rfl (.cons rfl (.cons rfl (.cons rfl (.nil _))))))))) ?_
 have hK := hr1 hS hb
 exact ke_weaken (l' := [(0, str s_0), (4, .int .u64 n_4), (5, .int .i64 i_5), (6, .int .i64 v_6), (13, .int .i64 t_13), (14, .int .i64 t_14), (17, arrV .u8 tab_digest_digits), (18, .int .i64 (IntKind.i64.wrap (t_18 + 1)))]) (.cons rfl (.cons rfl (.cons rfl (.cons rfl (.cons rfl (.cons rfl (.cons rfl (.cons rfl (.nil _))))))))) hK
theorem digest_ReadHex_L2_ok {w0 : World} (hg : Gs w0) (r0 : Str → Int → Int → Int → Option (Int × Int))
  (hr0 : ∀ {r : Int × Int} {s_0 : Str} {n_4 : Int} {t_13 : Int} {t_14 : Int}, r0 s_0 n_4 t_13 t_14 = some r → ∀ {w : World}, (Below w0.heap.size w0 w) → KE Tryz.prog 91 (Ret (fun v w' => v = .tuple #[.int .u64 r.1, .int .i64 r.2] ∧ Below w0.heap.size w0 w')) 38 [.inLoop (sub (bodyOf Tryz.f91) [2, 2, 2, 1, 2, 2, 1]), .inBlock 0, .code (sub (bodyOf Tryz.f91) [2, 2, 2, 2])] [(0, str s_0), (4, .int .u64 n_4), (13, .int .i64 t_13), (14, .int .i64 t_14)] w) : ∀ (n : Nat), ∀ {r : Int × Int} {s_0 : Str} {n_4 : Int} {i_5 : Int} {v_6 : Int} {t_13 : Int} {t_14 : Int} {t_18 : Int}, digest_ReadHex_L2 r0 n s_0 n_4 i_5 v_6 t_13 t_14 t_18 = some r → ∀ {w : World}, (Below w0.heap.size w0 w) → KE Tryz.prog 91 (Ret (fun v w' => v = .tuple #[.int .u64 r.1, .int .i64 r.2] ∧ Below w0.heap.size w0 w')) 38 [.code (sub (bodyOf Tryz.f91) [2, 2, 2, 1, 2, 2, 1, 2, 2, 1, 2, 2, 2, 1, 2, 2, 1]), .inLoop (sub (bodyOf Tryz.f91) [2, 2, 2, 1, 2, 2, 1, 2, 2, 1, 2, 2, 2, 1, 2, 2, 1]), .inBlock 2, .code (sub (bodyOf Tryz.f91) [2, 2, 2, 1, 2, 2, 1, 2, 2, 1, 2, 2, 2, 2]), .inBlock 1, .code (sub (bodyOf Tryz.f91) [2, 2, 2, 1, 2, 2, 1, 2, 2, 2]), .inLoop (sub (bodyOf Tryz.f91) [2, 2, 2, 1, 2, 2, 1]), .inBlock 0, .code (sub (bodyOf Tryz.f91) [2, 2, 2, 2])] [(0, str s_0), (4, .int .u64 n_4), (5, .int .i64 i_5), (6, .int .i64 v_6), (13, .int .i64 t_13), (14, .int .i64 t_14), (17, arrV .u8 tab_digest_digits), (18, .int .i64 t_18)] w := by
 intro n
 induction n with
 | zero => intro r s_0 n_4 i_5 v_6 t_13 t_14 t_18 hS; cases hS
 | succ n ih =>
  have hr1 : ∀ {r : Int × Int} {s_0 : Str} {n_4 : Int} {i_5 : Int} {v_6 : Int} {t_13 : Int} {t_14 : Int} {t_18 : Int}, digest_ReadHex_L2 r0 n s_0 n_4 i_5 v_6 t_13 t_14 t_18 = some r → ∀ {w : World}, (Below w0.heap.size w0 w) → KE Tryz.prog 91 (Ret (fun v w' => v = .tuple #[.int .u64 r.1, .int .i64 r.2] ∧ Below w0.heap.size w0 w')) 38 [.inLoop (sub (bodyOf Tryz.f91) [2, 2, 2, 1, 2, 2, 1, 2, 2, 1, 2, 2, 2, 1, 2, 2, 1]), .inBlock 2, .code (sub (bodyOf Tryz.f91) [2, 2, 2, 1, 2, 2, 1, 2, 2, 1, 2, 2, 2, 2]), .inBlock 1, .code (sub (bodyOf Tryz.f91) [2, 2, 2, 1, 2, 2, 1, 2, 2, 2]), .inLoop (sub (bodyOf Tryz.f91) [2, 2, 2, 1, 2, 2, 1]), .inBlock 0, .code (sub (bodyOf Tryz.f91) [2, 2, 2, 2])] [(0, str s_0), (4, .int .u64 n_4), (5, .int .i64 i_5), (6, .int .i64 v_6), (13, .int .i64 t_13), (14, .int .i64 t_14), (17, arrV .u8 tab_digest_digits), (18, .int .i64 t_18)] w := fun {r} {s_0} {n_4} {i_5} {v_6} {t_13} {t_14} {t_18} hS {w} hb => ke_inLoop (ih hS hb)
  clear ih
  intro r s_0 n_4 i_5 v_6 t_13 t_14 t_18 hS w hb
  unfold digest_ReadHex_L2 at hS
  refine ke_seq ?_
  refine ke_region ?_
  refine sr_ev (v := .bool (decide (t_18 < 16))) (ev_lt rfl rfl) (by decide) ?_
  refine sr_end (l' := [(0, str s_0), (4, .int .u64 n_4), (5, .int .i64 i_5), (6, .int .i64 v_6), (13, .int .i64 t_13), (14, .int .i64 t_14), (17, arrV .u8 tab_digest_digits), (18, .int .i64 t_18), (19, .bool (decide (t_18 < 16)))]) (.cons rfl (.cons rfl (.cons rfl (.cons rfl (.cons rfl (.cons rfl (.cons rfl (.cons rfl (.cons rfl (.nil _)))))))))) ?_
  refine ke_seq ?_
  refine ke_cond (t := decide (t_18 < 16)) rfl (fun hc3 => ?_) (fun hc3 => ?_)
  ·replace hS := ite_true' hS hc3
   refine ke_skip ?_
   refine ke_seq ?_
   refine ke_block ?_
   refine ke_seq ?_
   refine ke_region ?_
   refine sr_ev (v := .int .i64 t_18) (ev_move rfl) (by decide) ?_
   obtain ⟨y4, hy5, hS⟩ := bind_some' hS
   refine sr_ev (v := .int .u8 y4) (ev_avindex Tryz.underlying100 Tryz.sizeOf5 Tryz.isAgg5 rfl rfl rfl hy5) (by decide) ?_
   refine sr_ev (v := .int .i64 t_18) (ev_assign rfl) (by decide) ?_
   refine sr_ev (v := .int .u8 y4) (ev_assign rfl) (by decide) ?_
   refine sr_end (l' := [(0, str s_0), (4, .int .u64 n_4), (5, .int .i64 i_5), (6, .int .i64 v_6), (7, .int .i64 t_18), (8, .int .u8 y4), (13, .int .i64 t_13), (14, .int .i64 t_14), (17, arrV .u8 tab_digest_digits), (18, .int .i64 t_18)]) (.cons rfl (.cons rfl (.cons rfl (.cons rfl (.cons rfl (.cons rfl (.cons rfl (.cons rfl (.cons rfl (.cons rfl (.nil _))))))))))) ?_
   refine ke_seq ?_
   refine ke_region ?_
   refine sr_ev (v := .int .u8 y4) (ev_move rfl) (by decide) ?_
   refine sr_ev (v := str s_0) (ev_move rfl) (by decide) ?_
   refine sr_ev (v := .int .i64 i_5) (ev_move rfl) (by decide) ?_
   obtain ⟨hk6, hS⟩ := chk_some hS
   refine sr_ev (v := .int .u8 (byteAt s_0 i_5)) (ev_sindex Tryz.underlying9 rfl rfl hk6) (by decide) ?_
   refine sr_ev (v := .bool (y4 == (byteAt s_0 i_5))) (ev_eq rfl rfl) (by decide) ?_
   refine sr_end (l' := [(0, str s_0), (4, .int .u64 n_4), (5, .int .i64 i_5), (6, .int .i64 v_6), (7, .int .i64 t_18), (13, .int .i64 t_13), (14, .int .i64 t_14), (17, arrV .u8 tab_digest_digits), (18, .int .i64 t_18), (26, .bool (y4 == (byteAt s_0 i_5)))]) (.cons rfl (.cons rfl (.cons rfl (.cons rfl (.cons rfl (.cons rfl (.cons rfl (.cons rfl (.cons rfl (.cons rfl (.nil _))))))))))) ?_
   refine ke_cond (t := y4 == (byteAt s_0 i_5)) rfl (fun hc7 => ?_) (fun hc7 => ?_)
   ·replace hS := ite_true' hS hc7
    refine ke_region ?_
    refine sr_ev (v := .int .i64 t_18) (ev_move rfl) (by decide) ?_
    refine sr_ev (v := .int .i64 t_18) (ev_assign rfl) (by decide) ?_
    refine sr_end (l' := [(0, str s_0), (4, .int .u64 n_4), (5, .int .i64 i_5), (6, .int .i64 t_18), (13, .int .i64 t_13), (14, .int .i64 t_14), (17, arrV .u8 tab_digest_digits), (18, .int .i64 t_18)]) (.cons rfl (.cons rfl (.cons rfl (.cons rfl (.cons rfl (.cons rfl (.cons rfl (.cons rfl (.nil _))))))))) ?_
    have hK := digest_ReadHex_B3_ok hg _ _ hr0 hr1 hS hb
    exact ke_weaken (l' := [(0, str s_0), (4, .int .u64 n_4), (5, .int .i64 i_5), (6, .int .i64 t_18), (13, .int .i64 t_13), (14, .int .i64 t_14), (17, arrV .u8 tab_digest_digits), (18, .int .i64 t_18)]) (.cons rfl (.cons rfl (.cons rfl (.cons rfl (.cons rfl (.cons rfl (.cons rfl (.cons rfl (.nil _))))))))) hK
   ·replace hS := ite_false' hS hc7
    refine ke_skip ?_
    have hK := digest_ReadHex_B3_ok hg _ _ hr0 hr1 hS hb
    exact ke_weaken (l' := [(0, str s_0), (4, .int .u64 n_4), (5, .int .i64 i_5), (6, .int .i64 v_6), (13, .int .i64 t_13), (14, .int .i64 t_14), (17, arrV .u8 tab_digest_digits), (18, .int .i64 t_18)]) (.cons rfl (.cons rfl (.cons rfl (.cons rfl (.cons rfl (.cons rfl (.cons rfl (.cons rfl (.nil _))))))))) hK
  ·replace hS := ite_false' hS hc3
   refine ke_exit (k' := _) rfl ?_
   refine ke_seq ?_
   refine ke_seq ?_
   refine ke_region ?_
   refine sr_ev (v := .int .i64 v_6) (ev_move rfl) (by decide) ?_
   refine sr_ev (v := .bool (decide (v_6 < 0))) (ev_lt rfl rfl) (by decide) ?_
   refine sr_end (l' := [(0, str s_0), (4, .int .u64 n_4), (6, .int .i64 v_6), (13, .int .i64 t_13), (14, .int .i64 t_14), (30, .bool (decide (v_6 < 0)))]) (.cons rfl (.cons rfl (.cons rfl (.cons rfl (.cons rfl (.cons rfl (.nil _))))))) ?_
   refine ke_cond (t := decide (v_6 < 0)) rfl (fun hc8 => ?_) (fun hc8 => ?_)
   ·replace hS := ite_true' hS hc8
    refine ke_seq ?_
    refine ke_region ?_
    refine sr_ev (v := .int .u64 0) (ev_assign rfl) (by decide) ?_
    refine sr_ev (v := .int .i64 4) (ev_assign rfl) (by decide) ?_
    refine sr_end (l' := [(2, .int .u64 0), (3, .int .i64 4)]) (.cons rfl (.cons rfl (.nil _))) ?_
    cases hS
    exact ke_ret2 Tryz.func91 rfl rfl rfl ⟨_, rfl, rfl, hb⟩
   ·replace hS := ite_false' hS hc8
    refine ke_skip ?_
    refine ke_region ?_
    refine sr_ev (v := .int .u64 n_4) (ev_move rfl) (by decide) ?_
    refine sr_ev (v := .int .u64 (bShl .u64 n_4 4)) (ev_shl rfl rfl (by decide)) (by decide) ?_
    refine sr_ev (v := .int .i64 v_6) (ev_move rfl) (by decide) ?_
    refine sr_ev (v := .int .u64 (IntKind.u64.wrap v_6)) (ev_conv Tryz.underlying86 Tryz.underlying3 rfl) (by decide) ?_
    refine sr_ev (v := .int .u64 (bOr .u64 (bShl .u64 n_4 4) (IntKind.u64.wrap v_6))) (ev_or rfl rfl) (by decide) ?_
    refine sr_ev (v := .int .u64 (bOr .u64 (bShl .u64 n_4 4) (IntKind.u64.wrap v_6))) (ev_assign rfl) (by decide) ?_
    refine sr_end (l' := [(0, str s_0), (4, .int .u64 (bOr .u64 (bShl .u64 n_4 4) (IntKind.u64.wrap v_6))), (13, .int .i64 t_13), (14, .int .i64 t_14)]) (.cons rfl (.cons rfl (.cons rfl (.cons rfl (.nil _))))) ?_
    refine ke_inBlock ?_
    refine ke_region ?_
    refine sr_ev (v := .int .i64 (IntKind.i64.wrap (t_14 + 1))) (ev_add rfl rfl) (by decide) ?_
    refine sr_ev (v := .int .i64 (IntKind.i64.wrap (t_14 + 1))) (ev_move rfl) (by decide) ?_
    refine sr_end (l' := [(0, str s_0), (4, .int .u64 (bOr .u64 (bShl .u64 n_4 4) (IntKind.u64.wrap v_6))), (13, .int .i64 t_13), (14, .int .i64 (IntKind.i64.wrap (t_14 + 1)))]) (.cons rfl (.cons rfl (.cons rfl (.cons rfl (.nil _))))) ?_
    have hK := hr0 hS hb
    exact ke_weaken (l' := [(0, str s_0), (4, .int .u64 (bOr .u64 (bShl .u64 n_4 4) (IntKind.u64.wrap v_6))), (13, .int .i64 t_13), (14, .int .i64 (IntKind.i64.wrap (t_14 + 1)))]) (.cons rfl (.cons rfl (.cons rfl (.cons rfl (.nil _))))) hK
theorem digest_ReadHex_L1_ok {w0 : World} (hg : Gs w0) : ∀ (n : Nat), ∀ {r : Int × Int} {s_0 : Str} {n_4 : Int} {t_13 : Int} {t_14 : Int}, digest_ReadHex_L1 n s_0 n_4 t_13 t_14 = some r → ∀ {w : World}, (Below w0.heap.size w0 w) → KE Tryz.prog 91 (Ret (fun v w' => v = .tuple #[.int .u64 r.1, .int .i64 r.2] ∧ Below w0.heap.size w0 w')) 38 [.code (sub (bodyOf Tryz.f91) [2, 2, 2, 1, 2, 2, 1]), .inLoop (sub (bodyOf Tryz.f91) [2, 2, 2, 1, 2, 2, 1]), .inBlock 0, .code (sub (bodyOf Tryz.f91) [2, 2, 2, 2])] [(0, str s_0), (4, .int .u64 n_4), (13, .int .i64 t_13), (14, .int .i64 t_14)] w := by
 intro n
 induction n with
 | zero => intro r s_0 n_4 t_13 t_14 hS; cases hS
 | succ n ih =>
  have hr0 : ∀ {r : Int × Int} {s_0 : Str} {n_4 : Int} {t_13 : Int} {t_14 : Int}, digest_ReadHex_L1 n s_0 n_4 t_13 t_14 = some r → ∀ {w : World}, (Below w0.heap.size w0 w) → KE Tryz.prog 91 (Ret (fun v w' => v = .tuple #[.int .u64 r.1, .int .i64 r.2] ∧ Below w0.heap.size w0 w')) 38 [.inLoop (sub (bodyOf Tryz.f91) [2, 2, 2, 1, 2, 2, 1]), .inBlock 0, .code (sub (bodyOf Tryz.f91) [2, 2, 2, 2])] [(0, str s_0), (4, .int .u64 n_4), (13, .int .i64 t_13), (14, .int .i64 t_14)] w := fun {r} {s_0} {n_4} {t_13} {t_14} hS {w} hb => ke_inLoop (ih hS hb)
  clear ih
  intro r s_0 n_4 t_13 t_14 hS w hb
  unfold digest_ReadHex_L1 at hS
  refine ke_seq ?_
  refine ke_region ?_
  refine sr_ev (v := .bool (decide (t_14 < t_13))) (ev_lt rfl rfl) (by decide) ?_
  refine sr_end (l' := [(0, str s_0), (4, .int .u64 n_4), (13, .int .i64 t_13), (14, .int .i64 t_14), (15, .bool (decide (t_14 < t_13)))]) (.cons rfl (.cons rfl (.cons rfl (.cons rfl (.cons rfl (.nil _)))))) ?_
  refine ke_seq ?_
  refine ke_cond (t := decide (t_14 < t_13)) rfl (fun hc2 => ?_) (fun hc2 => ?_)
  ·replace hS := ite_true' hS hc2
   refine ke_skip ?_
   refine ke_seq ?_
   refine ke_block ?_
   refine ke_seq ?_
   refine ke_region ?_
   refine sr_ev (v := .int .i64 t_14) (ev_move rfl) (by decide) ?_
   refine sr_ev (v := .int .i64 t_14) (ev_assign rfl) (by decide) ?_
   refine sr_end (l' := [(0, str s_0), (4, .int .u64 n_4), (5, .int .i64 t_14), (13, .int .i64 t_13), (14, .int .i64 t_14)]) (.cons rfl (.cons rfl (.cons rfl (.cons rfl (.cons rfl (.nil _)))))) ?_
   refine ke_seq ?_
   refine ke_region ?_
   refine sr_ev (v := .int .i64 (-1)) (ev_assign rfl) (by decide) ?_
   refine sr_end (l' := [(0, str s_0), (4, .int .u64 n_4), (5, .int .i64 t_14), (6, .int .i64 (-1)), (13, .int .i64 t_13), (14, .int .i64 t_14)]) (.cons rfl (.cons rfl (.cons rfl (.cons rfl (.cons rfl (.cons rfl (.nil _))))))) ?_
   refine ke_seq ?_
   refine ke_seq ?_
   refine ke_region ?_
   refine sr_ev (v := arrV .u8 tab_digest_digits) (ev_globload Tryz.isAgg100 Tryz.sizeOf100 (fun i x hx => (hg.below hb).tab0 hx)) (by decide) ?_
   refine sr_ev (v := .int .i64 0) (ev_move rfl) (by decide) ?_
   refine sr_end (l' := [(0, str s_0), (4, .int .u64 n_4), (5, .int .i64 t_14), (6, .int .i64 (-1)), (13, .int .i64 t_13), (14, .int .i64 t_14), (17, arrV .u8 tab_digest_digits), (18, .int .i64 0)]) (.cons rfl (.cons rfl (.cons rfl (.cons rfl (.cons rfl (.cons rfl (.cons rfl (.cons rfl (.nil _))))))))) ?_
   refine ke_block ?_
   have hK := digest_ReadHex_L2_ok hg _ hr0 _ hS hb
   exact ke_weaken (l' := [(0, str s_0), (4, .int .u64 n_4), (5, .int .i64 t_14), (6, .int .i64 (-1)), (13, .int .i64 t_13), (14, .int .i64 t_14), (17, arrV .u8 tab_digest_digits), (18, .int .i64 0)]) (.cons rfl (.cons rfl (.cons rfl (.cons rfl (.cons rfl (.cons rfl (.cons rfl (.cons rfl (.nil _))))))))) (ke_loop hK)
  ·replace hS := ite_false' hS hc2
   refine ke_exit (k' := _) rfl ?_
   refine ke_seq ?_
   refine ke_region ?_
   refine sr_ev (v := .int .u64 n_4) (ev_move rfl) (by decide) ?_
   refine sr_ev (v := .int .u64 n_4) (ev_assign rfl) (by decide) ?_
   refine sr_ev (v := .int .i64 0) (ev_assign rfl) (by decide) ?_
   refine sr_end (l' := [(2, .int .u64 n_4), (3, .int .i64 0)]) (.cons rfl (.cons rfl (.nil _))) ?_
   cases hS
   exact ke_ret2 Tryz.func91 rfl rfl rfl ⟨_, rfl, rfl, hb⟩
theorem digest_ReadHex_ok (w0 : World) (hg : Gs w0) {s_0 : Str} {r : Int × Int} (hS : digest_ReadHex s_0 = some r) :
  Calls Tryz.prog 91 #[str s_0] w0 (Ret (fun v w' => v = .tuple #[.int .u64 r.1, .int .i64 r.2] ∧ Below w0.heap.size w0 w')) := by
 unfold digest_ReadHex at hS
 have hb := Below.refl w0.heap.size w0
 refine calls_of_ke Tryz.func91 rfl (n := 38) rfl rfl (l := [(0, str s_0)]) rfl ?_
 refine ke_seq ?_
 refine ke_region ?_
 refine sr_ev (v := .int .u64 0) (ev_assign rfl) (by decide) ?_
 refine sr_ev (v := .int .i64 0) (ev_assign rfl) (by decide) ?_
 refine sr_end (l' := [(0, str s_0)]) (.cons rfl (.nil _)) ?_
 refine ke_seq ?_
 refine ke_seq ?_
 refine ke_region ?_
 refine sr_ev (v := str s_0) (ev_move rfl) (by decide) ?_
 refine sr_ev (v := .int .i64 (s_0.length : Int)) (ev_slen Tryz.underlying9 rfl) (by decide) ?_
 refine sr_ev (v := .bool ((s_0.length : Int) != 16)) (ev_ne rfl rfl) (by decide) ?_
 refine sr_end (l' := [(0, str s_0), (11, .bool ((s_0.length : Int) != 16))]) (.cons rfl (.cons rfl (.nil _))) ?_
 refine ke_cond (t := (s_0.length : Int) != 16) rfl (fun hc1 => ?_) (fun hc1 => ?_)
 ·replace hS := ite_true' hS hc1
  refine ke_seq ?_
  refine ke_region ?_
  refine sr_ev (v := .int .u64 0) (ev_assign rfl) (by decide) ?_
  refine sr_ev (v := .int .i64 4) (ev_assign rfl) (by decide) ?_
  refine sr_end (l' := [(2, .int .u64 0), (3, .int .i64 4)]) (.cons rfl (.cons rfl (.nil _))) ?_
  cases hS
  exact ke_ret2 Tryz.func91 rfl rfl rfl ⟨_, rfl, rfl, hb⟩
 ·replace hS := ite_false' hS hc1
  refine ke_skip ?_
  refine ke_seq ?_
  refine ke_region ?_
  refine sr_ev (v := .int .u64 0) (ev_assign rfl) (by decide) ?_
  refine sr_end (l' := [(0, str s_0), (4, .int .u64 0)]) (.cons rfl (.cons rfl (.nil _))) ?_
  refine ke_seq ?_
  refine ke_seq ?_
  refine ke_region ?_
  refine sr_ev (v := str s_0) (ev_move rfl) (by decide) ?_
  refine sr_ev (v := .int .i64 (s_0.length : Int)) (ev_slen Tryz.underlying9 rfl) (by decide) ?_
  refine sr_ev (v := .int .i64 0) (ev_move rfl) (by decide) ?_
  refine sr_end (l' := [(0, str s_0), (4, .int .u64 0), (13, .int .i64 (s_0.length : Int)), (14, .int .i64 0)]) (.cons rfl (.cons rfl (.cons rfl (.cons rfl (.nil _))))) ?_
  refine ke_block ?_
  have hK := digest_ReadHex_L1_ok hg _ hS hb
  exact ke_weaken (l' := [(0, str s_0), (4, .int .u64 0), (13, .int .i64 (s_0.length : Int)), (14, .int .i64 0)]) (.cons rfl (.cons rfl (.cons rfl (.cons rfl (.nil _))))) (ke_loop hK)
theorem secret_Valid_ok (w0 : World) (hg : Gs w0) {v_0 : api_Verifier} {r : Bool} (hS : secret_Valid v_0 = some r) :
  Calls Tryz.prog 66 #[.agg #[str v_0.Salt, .int .i64 v_0.Rounds, str v_0.Hash]] w0 (Ret (fun v w' => v = .bool r ∧ Below w0.heap.size w0 w')) := by
 unfold secret_Valid at hS
 have hb := Below.refl w0.heap.size w0
 obtain ⟨A0, hA0, hAe⟩ : ∃ A0 : Nat → Prop, (∀ b, A0 b → b < w0.heap.size) ∧ A0 = fun _ => False := ⟨_, fun _ h => h.elim, rfl⟩
 clear hAe
 have hA := hA0
 have hi : ∀ b, A0 b → A0 b := fun _ h => h
 have hH := Hp.nil A0 w0.heap.size w0
 refine calls_of_ke Tryz.func66 rfl (n := 28) rfl rfl (l := [(0, .agg #[str v_0.Salt, .int .i64 v_0.Rounds, str v_0.Hash])]) rfl ?_
 refine ke_seq ?_
 refine ke_region ?_
 refine sr_box hH hb.size hA rfl (by decide) ?_
 intro g1 A2 w3 hH1 hst4 hbw5 hinc6 hA1 hge7
 replace hb := hb.trans (hbw5.mono hb.size)
 replace hi := fun b hb => hinc6 b (hi b hb)
 replace hH : Hp A2 w0.heap.size w3 [(g1, .cells #[str v_0.Salt, .int .i64 v_0.Rounds, str v_0.Hash] 24 (0, 0))] := hH1
 replace hA := hA1
 clear hH1 hA1
 refine sr_ev (v := .bool false) (ev_assign rfl) (by decide) ?_
 refine sr_end (l' := [(1, .pointer (some ⟨g1, 0, none⟩))]) (.cons rfl (.nil _)) ?_
 refine ke_seq ?_
 refine ke_region ?_
 refine sr_ev (v := .pointer (some ⟨g1, 2, none⟩)) (ev_fieldAddr (i := 2) Tryz.underlying24 rfl Tryz.info9 rfl rfl) (by decide) ?_
 refine sr_ev (v := str v_0.Hash) (ev_load Tryz.isAgg9 rfl (hH.cell (i := 0) rfl rfl)) (by decide) ?_
 obtain ⟨y8, hy9, hS⟩ := bind_some' hS
 refine sr_call (vs := [str v_0.Hash]) rfl Tryz.call91 rfl (digest_ReadHex_ok _ (hg.below hb) hy9) (by decide) ?_
 rintro _ w10 ⟨rfl, hbw11⟩
 replace hb := hb.trans (hbw11.mono hb.size)
 replace hA := lt_mono hA hbw11.size
 replace hH := hH.below hbw11
 refine sr_ev (v := .tuple #[.int .u64 y8.1, .int .i64 y8.2]) (ev_move rfl) (by decide) ?_
 refine sr_ev (v := .int .u64 y8.1) (ev_extract rfl rfl) (by decide) ?_
 refine sr_ev (v := .int .i64 y8.2) (ev_extract rfl rfl) (by decide) ?_
 refine sr_ev (v := .int .u64 y8.1) (ev_assign rfl) (by decide) ?_
 refine sr_ev (v := .int .i64 y8.2) (ev_assign rfl) (by decide) ?_
 refine sr_end (l' := [(1, .pointer (some ⟨g1, 0, none⟩)), (4, .int .i64 y8.2)]) (.cons rfl (.cons rfl (.nil _))) ?_
 refine ke_seq ?_
 refine ke_region ?_
 refine sr_ev (v := .pointer (some ⟨g1, 0, none⟩)) (ev_fieldAddr (i := 0) Tryz.underlying24 rfl Tryz.info9 rfl rfl) (by decide) ?_
 refine sr_ev (v := str v_0.Salt) (ev_load Tryz.isAgg9 rfl (hH.cell (i := 0) rfl rfl)) (by decide) ?_
 obtain ⟨y12, hy13, hS⟩ := bind_some' hS
 refine sr_call (vs := [str v_0.Salt]) rfl Tryz.call41 rfl (fold_Word_ok _ (hg.below hb) hy13) (by decide) ?_
 rintro _ w14 ⟨rfl, hbw15⟩
 replace hb := hb.trans (hbw15.mono hb.size)
 replace hA := lt_mono hA hbw15.size
 replace hH := hH.below hbw15
 refine sr_ev (v := .bool y12) (ev_move rfl) (by decide) ?_
 refine sr_join (m := 4) (C := fun (x : Bool) w1 => x = (y12 && (decide (v_0.Rounds ≥ 1))) ∧ w14 = w1) (l' := fun x => [(1, .pointer (some ⟨g1, 0, none⟩)), (4, .int .i64 y8.2), (18, .bool x)]) ?_ ?_
 ·rintro _ _ ⟨rfl, rfl⟩
  refine sr_ev (v := .bool (y12 && (decide (v_0.Rounds ≥ 1)))) (ev_move rfl) (by decide) ?_
  refine sr_join (m := 4) (C := fun (x : Bool) w1 => x = ((y12 && (decide (v_0.Rounds ≥ 1))) && (decide (v_0.Rounds ≤ 64))) ∧ w14 = w1) (l' := fun x => [(4, .int .i64 y8.2), (23, .bool x)]) ?_ ?_
  ·rintro _ _ ⟨rfl, rfl⟩
   refine sr_ev (v := .bool ((y12 && (decide (v_0.Rounds ≥ 1))) && (decide (v_0.Rounds ≤ 64)))) (ev_move rfl) (by decide) ?_
   refine sr_join (m := 3) (C := fun (x : Bool) w1 => x = (((y12 && (decide (v_0.Rounds ≥ 1))) && (decide (v_0.Rounds ≤ 64))) && (y8.2 == 0)) ∧ w14 = w1) (l' := fun x => [(27, .bool x)]) ?_ ?_
   ·rintro _ _ ⟨rfl, rfl⟩
    refine sr_ev (v := .bool (((y12 && (decide (v_0.Rounds ≥ 1))) && (decide (v_0.Rounds ≤ 64))) && (y8.2 == 0))) (ev_assign rfl) (by decide) ?_
    refine sr_end (l' := [(2, .bool (((y12 && (decide (v_0.Rounds ≥ 1))) && (decide (v_0.Rounds ≤ 64))) && (y8.2 == 0)))]) (.cons rfl (.nil _)) ?_
    cases hS
    exact ke_ret1 Tryz.func66 rfl rfl ⟨_, rfl, rfl, hb⟩
   ·intro K31
    rcases Bool.eq_false_or_eq_true ((y12 && (decide (v_0.Rounds ≥ 1))) && (decide (v_0.Rounds ≤ 64))) with hg30 | hg30
    ·refine sr_evg (b := true) (e := 24) rfl rfl hg30 (v := .int .i64 y8.2) (ev_move rfl) (by decide) ?_
     refine sr_evg (b := true) (e := 24) rfl rfl hg30 (v := .bool (y8.2 == 0)) (ev_eq rfl rfl) (by decide) ?_
     refine sr_ev (v := .bool (y8.2 == 0)) (ev_pick_t rfl hg30 rfl) (by decide) ?_
     exact sr_weaken (l' := [(27, .bool (y8.2 == 0))]) (.cons rfl (.nil _)) (K31 (y8.2 == 0) _ ⟨by rw [hg30]; rfl, rfl⟩)
    ·refine sr_pass (e := 24) rfl rfl (by rw [hg30]; rfl) (by decide) ?_
     refine sr_pass (e := 24) rfl rfl (by rw [hg30]; rfl) (by decide) ?_
     refine sr_ev (v := .bool false) (ev_pick_f rfl hg30 rfl) (by decide) ?_
     exact sr_weaken (l' := [(27, .bool false)]) (.cons rfl (.nil _)) (K31 false _ ⟨by rw [hg30]; rfl, rfl⟩)
  ·intro K24
   rcases Bool.eq_false_or_eq_true (y12 && (decide (v_0.Rounds ≥ 1))) with hg23 | hg23
   ·refine sr_evg (b := true) (e := 19) rfl rfl hg23 (v := .pointer (some ⟨g1, 1, none⟩)) (ev_fieldAddr (i := 1) Tryz.underlying24 rfl Tryz.info3 rfl rfl) (by decide) ?_
    refine sr_evg (b := true) (e := 19) rfl rfl hg23 (v := .int .i64 v_0.Rounds) (ev_load Tryz.isAgg3 rfl (hH.cell (i := 0) rfl rfl)) (by decide) ?_
    refine sr_evg (b := true) (e := 19) rfl rfl hg23 (v := .bool (decide (v_0.Rounds ≤ 64))) (ev_le rfl rfl) (by decide) ?_
    refine sr_ev (v := .bool (decide (v_0.Rounds ≤ 64))) (ev_pick_t rfl hg23 rfl) (by decide) ?_
    exact sr_weaken (l' := [(4, .int .i64 y8.2), (23, .bool (decide (v_0.Rounds ≤ 64)))]) (.cons rfl (.cons rfl (.nil _))) (K24 (decide (v_0.Rounds ≤ 64)) _ ⟨by rw [hg23]; rfl, rfl⟩)
   ·refine sr_pass (e := 19) rfl rfl (by rw [hg23]; rfl) (by decide) ?_
    refine sr_pass (e := 19) rfl rfl (by rw [hg23]; rfl) (by decide) ?_
    refine sr_pass (e := 19) rfl rfl (by rw [hg23]; rfl) (by decide) ?_
    refine sr_ev (v := .bool false) (ev_pick_f rfl hg23 rfl) (by decide) ?_
    exact sr_weaken (l' := [(4, .int .i64 y8.2), (23, .bool false)]) (.cons rfl (.cons rfl (.nil _))) (K24 false _ ⟨by rw [hg23]; rfl, rfl⟩)
 ·intro K17
  rcases Bool.eq_false_or_eq_true y12 with hg16 | hg16
  ·refine sr_evg (b := true) (e := 14) rfl rfl hg16 (v := .pointer (some ⟨g1, 1, none⟩)) (ev_fieldAddr (i := 1) Tryz.underlying24 rfl Tryz.info3 rfl rfl) (by decide) ?_
   refine sr_evg (b := true) (e := 14) rfl rfl hg16 (v := .int .i64 v_0.Rounds) (ev_load Tryz.isAgg3 rfl (hH.cell (i := 0) rfl rfl)) (by decide) ?_
   refine sr_evg (b := true) (e := 14) rfl rfl hg16 (v := .bool (decide (v_0.Rounds ≥ 1))) (ev_ge rfl rfl) (by decide) ?_
   refine sr_ev (v := .bool (decide (v_0.Rounds ≥ 1))) (ev_pick_t rfl hg16 rfl) (by decide) ?_
   exact sr_weaken (l' := [(1, .pointer (some ⟨g1, 0, none⟩)), (4, .int .i64 y8.2), (18, .bool (decide (v_0.Rounds ≥ 1)))]) (.cons rfl (.cons rfl (.cons rfl (.nil _)))) (K17 (decide (v_0.Rounds ≥ 1)) _ ⟨by rw [hg16]; rfl, rfl⟩)
  ·refine sr_pass (e := 14) rfl rfl (by rw [hg16]; rfl) (by decide) ?_
   refine sr_pass (e := 14) rfl rfl (by rw [hg16]; rfl) (by decide) ?_
   refine sr_pass (e := 14) rfl rfl (by rw [hg16]; rfl) (by decide) ?_
   refine sr_ev (v := .bool false) (ev_pick_f rfl hg16 rfl) (by decide) ?_
   exact sr_weaken (l' := [(1, .pointer (some ⟨g1, 0, none⟩)), (4, .int .i64 y8.2), (18, .bool false)]) (.cons rfl (.cons rfl (.cons rfl (.nil _)))) (K17 false _ ⟨by rw [hg16]; rfl, rfl⟩)
theorem client_secretFits_ok (w0 : World) (hg : Gs w0) {ρA : Tags} (hbd : ∀ b, ρA b ≠ 0 → b < w0.heap.size) (hz : Gz ρA) {c_0 : api_Client} {v1 : Value} {v3 : Value} {r : Bool} (h2 : SlR strC (Wb ρA) w0 v1 c_0.Redirects) (h4 : SlR strC (Wb ρA) w0 v3 c_0.Scopes) (hS : client_secretFits c_0 = some r) :
  Calls Tryz.prog 42 #[.agg #[str c_0.ID, .int .i64 c_0.Kind, str c_0.Tenant, str c_0.Secret.Salt, .int .i64 c_0.Secret.Rounds, str c_0.Secret.Hash, v1, v3, str c_0.Logout]] w0 (Ret (fun v w' => v = .bool r ∧ Below w0.heap.size w0 w')) := by
 unfold client_secretFits at hS
 have hb := flat1_fr (ρ := ρA) (w := w0) hbd
 have hz := hz.flat1
 replace h2 := SlR.mv h2 flat1_rd
 replace h4 := SlR.mv h4 flat1_rd
 refine calls_of_ke Tryz.func42 rfl (n := 13) rfl rfl (l := [(0, .agg #[str c_0.ID, .int .i64 c_0.Kind, str c_0.Tenant, str c_0.Secret.Salt, .int .i64 c_0.Secret.Rounds, str c_0.Secret.Hash, v1, v3, str c_0.Logout])]) rfl ?_
 refine ke_seq ?_
 refine ke_region ?_
 refine sr_boxT 3 (by decide) hb.bd rfl (by decide) ?_
 intro g5 ρ6 w7 hB9 htr8
 replace h2 := h2.mv htr8.rd
 replace h4 := h4.mv htr8.rd
 replace hb := hb.trans htr8
 replace hB9 : Blk ρ6 3 w7 g5 (.cells #[str c_0.ID, .int .i64 c_0.Kind, str c_0.Tenant, str c_0.Secret.Salt, .int .i64 c_0.Secret.Rounds, str c_0.Secret.Hash, v1, v3, str c_0.Logout] 27 (0, 0)) := hB9
 refine sr_ev (v := .bool false) (ev_assign rfl) (by decide) ?_
 refine sr_end (l' := [(1, .pointer (some ⟨g5, 0, none⟩))]) (.cons rfl (.nil _)) ?_
 refine ke_seq ?_
 refine ke_seq ?_
 refine ke_region ?_
 refine sr_ev (v := .pointer (some ⟨g5, 1, none⟩)) (ev_fieldAddr (i := 1) Tryz.underlying27 rfl Tryz.info22 rfl rfl) (by decide) ?_
 refine sr_ev (v := .int .i64 c_0.Kind) (ev_load Tryz.isAgg22 rfl (hB9.cell rfl)) (by decide) ?_
 refine sr_ev (v := .bool (c_0.Kind == 2)) (ev_eq rfl rfl) (by decide) ?_
 refine sr_end (l' := [(1, .pointer (some ⟨g5, 0, none⟩)), (5, .bool (c_0.Kind == 2))]) (.cons rfl (.cons rfl (.nil _))) ?_
 refine ke_cond (t := c_0.Kind == 2) rfl (fun hc10 => ?_) (fun hc10 => ?_)
 ·replace hS := ite_true' hS hc10
  refine ke_seq ?_
  refine ke_region ?_
  refine sr_ev (v := .pointer (some ⟨g5, 3, none⟩)) (ev_fieldAddr (i := 3) Tryz.underlying27 rfl Tryz.info24 rfl rfl) (by decide) ?_
  refine sr_ev (v := .agg #[str c_0.Secret.Salt, .int .i64 c_0.Secret.Rounds, str c_0.Secret.Hash]) (ev_loads (cs := [str c_0.Secret.Salt, .int .i64 c_0.Secret.Rounds, str c_0.Secret.Hash]) Tryz.isAgg24 Tryz.sizeOf24 rfl (hB9.cells (vs := [str c_0.Secret.Salt, .int .i64 c_0.Secret.Rounds, str c_0.Secret.Hash]) rfl)) (by decide) ?_
  obtain ⟨y11, hy12, hS⟩ := bind_some' hS
  refine sr_call (vs := [.agg #[str c_0.Secret.Salt, .int .i64 c_0.Secret.Rounds, str c_0.Secret.Hash]]) rfl Tryz.call66 rfl (secret_Valid_ok _ (hg.fr hz hb) hy12) (by decide) ?_
  rintro _ w13 ⟨rfl, hbw14⟩
  have htr15 := Tr.of_below hbw14 hb.bd
  replace hb := hb.trans htr15
  refine sr_ev (v := .bool y11) (ev_assign rfl) (by decide) ?_
  refine sr_end (l' := [(2, .bool y11)]) (.cons rfl (.nil _)) ?_
  cases hS
  exact ke_ret1 Tryz.func42 rfl rfl ⟨_, rfl, rfl, (hb.below (flat1_le _))⟩
 ·replace hS := ite_false' hS hc10
  refine ke_skip ?_
  refine ke_seq ?_
  refine ke_region ?_
  refine sr_ev (v := .pointer (some ⟨g5, 3, none⟩)) (ev_fieldAddr (i := 3) Tryz.underlying27 rfl Tryz.info24 rfl rfl) (by decide) ?_
  refine sr_ev (v := .agg #[str c_0.Secret.Salt, .int .i64 c_0.Secret.Rounds, str c_0.Secret.Hash]) (ev_loads (cs := [str c_0.Secret.Salt, .int .i64 c_0.Secret.Rounds, str c_0.Secret.Hash]) Tryz.isAgg24 Tryz.sizeOf24 rfl (hB9.cells (vs := [str c_0.Secret.Salt, .int .i64 c_0.Secret.Rounds, str c_0.Secret.Hash]) rfl)) (by decide) ?_
  refine sr_ev (v := .agg #[str ([]), .int .i64 0, str ([])]) (ev_build (vs := #[]) rfl (fun _ => by kernel_rfl)) (by decide) ?_
  refine sr_ev (v := .bool (api_Verifier.eqb c_0.Secret (api_Verifier.mk ([]) 0 ([])))) (ev_aeq (Tryz.eq24 c_0.Secret (api_Verifier.mk ([]) 0 ([]))) rfl rfl) (by decide) ?_
  refine sr_ev (v := .bool (api_Verifier.eqb c_0.Secret (api_Verifier.mk ([]) 0 ([])))) (ev_assign rfl) (by decide) ?_
  refine sr_end (l' := [(2, .bool (api_Verifier.eqb c_0.Secret (api_Verifier.mk ([]) 0 ([]))))]) (.cons rfl (.nil _)) ?_
  cases hS
  exact ke_ret1 Tryz.func42 rfl rfl ⟨_, rfl, rfl, (hb.below (flat1_le _))⟩
theorem fold_Trim_ok (w0 : World) (hg : Gs w0) {s_0 : Str} {r : Str} (hS : fold_Trim s_0 = some r) :
  Calls Tryz.prog 93 #[str s_0] w0 (Ret (fun v w' => v = str r ∧ Below w0.heap.size w0 w')) := by
 unfold fold_Trim at hS
 have hb := Below.refl w0.heap.size w0
 refine calls_of_ke Tryz.func93 rfl (n := 5) rfl rfl (l := [(0, str s_0)]) rfl ?_
 refine ke_seq ?_
 refine ke_region ?_
 refine sr_ev (v := str ([])) (ev_assign rfl) (by decide) ?_
 refine sr_end (l' := [(0, str s_0)]) (.cons rfl (.nil _)) ?_
 refine ke_seq ?_
 refine ke_region ?_
 refine sr_ev (v := str s_0) (ev_move rfl) (by decide) ?_
 obtain ⟨y1, hy2, hS⟩ := bind_some' hS
 refine sr_call (vs := [str s_0, str ([32])]) rfl Tryz.call103 rfl (lib_Trim_ok _ (hg.below hb) hy2) (by decide) ?_
 rintro _ w3 ⟨rfl, hbw4⟩
 replace hb := hb.trans (hbw4.mono hb.size)
 refine sr_ev (v := str y1) (ev_assign rfl) (by decide) ?_
 refine sr_end (l' := [(2, str y1)]) (.cons rfl (.nil _)) ?_
 cases hS
 exact ke_ret1 Tryz.func93 rfl rfl ⟨_, rfl, rfl, hb⟩
theorem fold_Clean_L1_ok {w0 : World} (hg : Gs w0) {A0 : Nat → Prop} (hA0 : ∀ b, A0 b → b < w0.heap.size) : ∀ (n : Nat), ∀ {r : Bool} {s_0 : Str} {t_6s : Str} {t_6p : Nat} {gt_6 : Nat}, fold_Clean_L1 n s_0 t_6s t_6p = some r → ∀ {w : World} {A : Nat → Prop}, (Below w0.heap.size w0 w) → (∀ b, A b → b < w.heap.size) → (∀ b, A0 b → A b) → (Hp A w0.heap.size w [(gt_6, .stringIter ⟨t_6s.toArray⟩ t_6p)]) → KE Tryz.prog 73 (Ret (fun v w' => v = .bool r ∧ Below w0.heap.size w0 w')) 29 [.code (sub (bodyOf Tryz.f73) [2, 1, 2, 2, 1]), .inLoop (sub (bodyOf Tryz.f73) [2, 1, 2, 2, 1]), .inBlock 0, .code (sub (bodyOf Tryz.f73) [2, 2])] [(0, str s_0), (6, .pointer (some ⟨gt_6, 0, none⟩))] w := by
 intro n
 induction n with
 | zero => intro r s_0 t_6s t_6p gt_6 hS; cases hS
 | succ n ih =>
  have hr0 : ∀ {r : Bool} {s_0 : Str} {t_6s : Str} {t_6p : Nat} {gt_6 : Nat}, fold_Clean_L1 n s_0 t_6s t_6p = some r → ∀ {w : World} {A : Nat → Prop}, (Below w0.heap.size w0 w) → (∀ b, A b → b < w.heap.size) → (∀ b, A0 b → A b) → (Hp A w0.heap.size w [(gt_6, .stringIter ⟨t_6s.toArray⟩ t_6p)]) → KE Tryz.prog 73 (Ret (fun v w' => v = .bool r ∧ Below w0.heap.size w0 w')) 29 [.inLoop (sub (bodyOf Tryz.f73) [2, 1, 2, 2, 1]), .inBlock 0, .code (sub (bodyOf Tryz.f73) [2, 2])] [(0, str s_0), (6, .pointer (some ⟨gt_6, 0, none⟩))] w := fun {r} {s_0} {t_6s} {t_6p} {gt_6} hS {w} {A} hb hA hi hH => ke_inLoop (ih hS hb hA hi hH)
  clear ih
  intro r s_0 t_6s t_6p gt_6 hS w A hb hA hi hH
  unfold fold_Clean_L1 at hS
  refine ke_seq ?_
  refine ke_region ?_
  refine sr_next_s (j := 0) hH rfl rfl (by decide) (fun hc8 w9 hH1 hwr10 => ?_) (fun hc8 => ?_)
  ·replace hS := ite_true' hS hc8
   replace hb := hwr10.below hb (hH.base _ (List.mem_of_getElem? (i := 0) rfl))
   replace hA := hwr10.lt hA
   replace hH : Hp A w0.heap.size w9 [(gt_6, .stringIter ⟨t_6s.toArray⟩ (t_6p + (sdec t_6s t_6p).2))] := hH1
   clear hH1
   refine sr_ev (v := .bool true) (ev_extract rfl rfl) (by decide) ?_
   refine sr_end (l' := [(0, str s_0), (6, .pointer (some ⟨gt_6, 0, none⟩)), (7, .tuple #[.bool true, .int .i64 ((t_6p : Nat) : Int), .int .i32 ((sdec t_6s t_6p).1)]), (8, .bool true)]) (.cons rfl (.cons rfl (.cons rfl (.cons rfl (.nil _))))) ?_
   refine ke_seq ?_
   refine ke_cond (t := true) rfl (fun _ => ?_) (fun h => by cases h)
   refine ke_skip ?_
   refine ke_block ?_
   refine ke_seq ?_
   refine ke_region ?_
   refine sr_ev (v := .int .i32 ((sdec t_6s t_6p).1)) (ev_extract rfl rfl) (by decide) ?_
   refine sr_ev (v := .int .i32 ((sdec t_6s t_6p).1)) (ev_assign rfl) (by decide) ?_
   refine sr_end (l' := [(0, str s_0), (4, .int .i32 ((sdec t_6s t_6p).1)), (6, .pointer (some ⟨gt_6, 0, none⟩))]) (.cons rfl (.cons rfl (.cons rfl (.nil _)))) ?_
   refine ke_seq ?_
   refine ke_region ?_
   refine sr_ev (v := .int .i32 ((sdec t_6s t_6p).1)) (ev_move rfl) (by decide) ?_
   refine sr_ev (v := .bool (decide (((sdec t_6s t_6p).1) < 32))) (ev_lt rfl rfl) (by decide) ?_
   refine sr_ev (v := .bool (decide (((sdec t_6s t_6p).1) < 32))) (ev_move rfl) (by decide) ?_
   refine sr_join (m := 3) (C := fun (x : Bool) w1 => x = ((decide (((sdec t_6s t_6p).1) < 32)) || (decide (((sdec t_6s t_6p).1) > 126))) ∧ w9 = w1) (l' := fun x => [(0, str s_0), (6, .pointer (some ⟨gt_6, 0, none⟩)), (15, .bool x)]) ?_ ?_
   ·rintro _ _ ⟨rfl, rfl⟩
    refine sr_end (l' := [(0, str s_0), (6, .pointer (some ⟨gt_6, 0, none⟩)), (15, .bool ((decide (((sdec t_6s t_6p).1) < 32)) || (decide (((sdec t_6s t_6p).1) > 126))))]) (.cons rfl (.cons rfl (.cons rfl (.nil _)))) ?_
    refine ke_cond (t := (decide (((sdec t_6s t_6p).1) < 32)) || (decide (((sdec t_6s t_6p).1) > 126))) rfl (fun hc18 => ?_) (fun hc18 => ?_)
    ·replace hS := ite_true' hS hc18
     refine ke_seq ?_
     refine ke_region ?_
     refine sr_ev (v := .bool false) (ev_assign rfl) (by decide) ?_
     refine sr_end (l' := [(2, .bool false)]) (.cons rfl (.nil _)) ?_
     cases hS
     exact ke_ret1 Tryz.func73 rfl rfl ⟨_, rfl, rfl, hb⟩
    ·replace hS := ite_false' hS hc18
     refine ke_skip ?_
     refine ke_inBlock ?_
     have hK := hr0 hS hb hA hi hH
     exact ke_weaken (l' := [(0, str s_0), (6, .pointer (some ⟨gt_6, 0, none⟩))]) (.cons rfl (.cons rfl (.nil _))) hK
   ·intro K12
    rcases Bool.eq_false_or_eq_true (decide (((sdec t_6s t_6p).1) < 32)) with hg11 | hg11
    ·refine sr_pass (e := 12) rfl rfl (by rw [hg11]; rfl) (by decide) ?_
     refine sr_pass (e := 12) rfl rfl (by rw [hg11]; rfl) (by decide) ?_
     refine sr_ev (v := .bool true) (ev_pick_t rfl hg11 rfl) (by decide) ?_
     exact sr_weaken (l' := [(0, str s_0), (6, .pointer (some ⟨gt_6, 0, none⟩)), (15, .bool true)]) (.cons rfl (.cons rfl (.cons rfl (.nil _)))) (K12 true _ ⟨by rw [hg11]; rfl, rfl⟩)
    ·refine sr_evg (b := false) (e := 12) rfl rfl hg11 (v := .int .i32 ((sdec t_6s t_6p).1)) (ev_move rfl) (by decide) ?_
     refine sr_evg (b := false) (e := 12) rfl rfl hg11 (v := .bool (decide (((sdec t_6s t_6p).1) > 126))) (ev_gt rfl rfl) (by decide) ?_
     refine sr_ev (v := .bool (decide (((sdec t_6s t_6p).1) > 126))) (ev_pick_f rfl hg11 rfl) (by decide) ?_
     exact sr_weaken (l' := [(0, str s_0), (6, .pointer (some ⟨gt_6, 0, none⟩)), (15, .bool (decide (((sdec t_6s t_6p).1) > 126)))]) (.cons rfl (.cons rfl (.cons rfl (.nil _)))) (K12 (decide (((sdec t_6s t_6p).1) > 126)) _ ⟨by rw [hg11]; rfl, rfl⟩)
  ·replace hS := ite_false' hS hc8
   refine sr_ev (v := .bool false) (ev_extract rfl rfl) (by decide) ?_
   refine sr_end (l' := [(0, str s_0), (6, .pointer (some ⟨gt_6, 0, none⟩)), (7, .tuple #[.bool false]), (8, .bool false)]) (.cons rfl (.cons rfl (.cons rfl (.cons rfl (.nil _))))) ?_
   refine ke_seq ?_
   refine ke_cond (t := false) rfl (fun h => by cases h) (fun _ => ?_)
   refine ke_exit (k' := _) rfl ?_
   refine ke_seq ?_
   refine ke_region ?_
   refine sr_ev (v := str s_0) (ev_move rfl) (by decide) ?_
   refine sr_ev (v := .bool (!(s_0 == ([])))) (ev_sne rfl rfl) (by decide) ?_
   refine sr_ev (v := .bool (!(s_0 == ([])))) (ev_move rfl) (by decide) ?_
   refine sr_join (m := 4) (C := fun (x : Bool) w1 => x = ((!(s_0 == ([]))) && (decide ((s_0.length : Int) ≤ 256))) ∧ w = w1) (l' := fun x => [(0, str s_0), (22, .bool x)]) ?_ ?_
   ·rintro _ _ ⟨rfl, rfl⟩
    refine sr_ev (v := .bool ((!(s_0 == ([]))) && (decide ((s_0.length : Int) ≤ 256)))) (ev_move rfl) (by decide) ?_
    obtain ⟨z28, hz30, hS⟩ := bind_some' hS
    refine sr_join (m := 5) (C := fun (x : Bool) w1 => z28 = x ∧ Below w.heap.size w w1) (l' := fun x => [(28, .bool x)]) ?_ ?_
    ·rintro _ w31 ⟨rfl, hbw32⟩
     replace hb := hb.trans (hbw32.mono hb.size)
     replace hA := lt_mono hA hbw32.size
     replace hH := hH.below hbw32
     refine sr_ev (v := .bool z28) (ev_assign rfl) (by decide) ?_
     refine sr_end (l' := [(2, .bool z28)]) (.cons rfl (.nil _)) ?_
     cases hS
     exact ke_ret1 Tryz.func73 rfl rfl ⟨_, rfl, rfl, hb⟩
    ·intro K27
     clear hS
     have hj29 := Below.refl w.heap.size w
     rcases Bool.eq_false_or_eq_true ((!(s_0 == ([]))) && (decide ((s_0.length : Int) ≤ 256))) with hg26 | hg26
     ·have hS := ite_true' hz30 hg26
      refine sr_evg (b := true) (e := 23) rfl rfl hg26 (v := str s_0) (ev_move rfl) (by decide) ?_
      obtain ⟨y33, hy34, hS⟩ := bind_some' hS
      refine sr_callg (b := true) (e := 23) rfl rfl hg26 (vs := [str s_0]) rfl Tryz.call93 rfl (fold_Trim_ok _ (hg.below hb) hy34) (by decide) ?_
      rintro _ w35 ⟨rfl, hbw36⟩
      replace hb := hb.trans (hbw36.mono hb.size)
      replace hj29 := hj29.trans (hbw36.mono hj29.size)
      replace hA := lt_mono hA hbw36.size
      replace hH := hH.below hbw36
      refine sr_evg (b := true) (e := 23) rfl rfl hg26 (v := str s_0) (ev_move rfl) (by decide) ?_
      refine sr_evg (b := true) (e := 23) rfl rfl hg26 (v := .bool (y33 == s_0)) (ev_seq rfl rfl) (by decide) ?_
      refine sr_ev (v := .bool (y33 == s_0)) (ev_pick_t rfl hg26 rfl) (by decide) ?_
      exact sr_weaken (l' := [(28, .bool (y33 == s_0))]) (.cons rfl (.nil _)) (K27 (y33 == s_0) _ ⟨(Option.some.inj hS).symm, hj29⟩)
     ·have hS := ite_false' hz30 hg26
      refine sr_pass (e := 23) rfl rfl (by rw [hg26]; rfl) (by decide) ?_
      refine sr_pass (e := 23) rfl rfl (by rw [hg26]; rfl) (by decide) ?_
      refine sr_pass (e := 23) rfl rfl (by rw [hg26]; rfl) (by decide) ?_
      refine sr_pass (e := 23) rfl rfl (by rw [hg26]; rfl) (by decide) ?_
      refine sr_ev (v := .bool false) (ev_pick_f rfl hg26 rfl) (by decide) ?_
      exact sr_weaken (l' := [(28, .bool false)]) (.cons rfl (.nil _)) (K27 false _ ⟨(Option.some.inj hS).symm, hj29⟩)
   ·intro K20
    rcases Bool.eq_false_or_eq_true (!(s_0 == ([]))) with hg19 | hg19
    ·refine sr_evg (b := true) (e := 18) rfl rfl hg19 (v := str s_0) (ev_move rfl) (by decide) ?_
     refine sr_evg (b := true) (e := 18) rfl rfl hg19 (v := .int .i64 (s_0.length : Int)) (ev_slen Tryz.underlying9 rfl) (by decide) ?_
     refine sr_evg (b := true) (e := 18) rfl rfl hg19 (v := .bool (decide ((s_0.length : Int) ≤ 256))) (ev_le rfl rfl) (by decide) ?_
     refine sr_ev (v := .bool (decide ((s_0.length : Int) ≤ 256))) (ev_pick_t rfl hg19 rfl) (by decide) ?_
     exact sr_weaken (l' := [(0, str s_0), (22, .bool (decide ((s_0.length : Int) ≤ 256)))]) (.cons rfl (.cons rfl (.nil _))) (K20 (decide ((s_0.length : Int) ≤ 256)) _ ⟨by rw [hg19]; rfl, rfl⟩)
    ·refine sr_pass (e := 18) rfl rfl (by rw [hg19]; rfl) (by decide) ?_
     refine sr_pass (e := 18) rfl rfl (by rw [hg19]; rfl) (by decide) ?_
     refine sr_pass (e := 18) rfl rfl (by rw [hg19]; rfl) (by decide) ?_
     refine sr_ev (v := .bool false) (ev_pick_f rfl hg19 rfl) (by decide) ?_
     exact sr_weaken (l' := [(0, str s_0), (22, .bool false)]) (.cons rfl (.cons rfl (.nil _))) (K20 false _ ⟨by rw [hg19]; rfl, rfl⟩)
theorem fold_Clean_ok (w0 : World) (hg : Gs w0) {s_0 : Str} {r : Bool} (hS : fold_Clean s_0 = some r) :
  Calls Tryz.prog 73 #[str s_0] w0 (Ret (fun v w' => v = .bool r ∧ Below w0.heap.size w0 w')) := by
 unfold fold_Clean at hS
 have hb := Below.refl w0.heap.size w0
 obtain ⟨A0, hA0, hAe⟩ : ∃ A0 : Nat → Prop, (∀ b, A0 b → b < w0.heap.size) ∧ A0 = fun _ => False := ⟨_, fun _ h => h.elim, rfl⟩
 clear hAe
 have hA := hA0
 have hi : ∀ b, A0 b → A0 b := fun _ h => h
 have hH := Hp.nil A0 w0.heap.size w0
 refine calls_of_ke Tryz.func73 rfl (n := 29) rfl rfl (l := [(0, str s_0)]) rfl ?_
 refine ke_seq ?_
 refine ke_region ?_
 refine sr_ev (v := .bool false) (ev_assign rfl) (by decide) ?_
 refine sr_end (l' := [(0, str s_0)]) (.cons rfl (.nil _)) ?_
 refine ke_seq ?_
 refine ke_seq ?_
 refine ke_region ?_
 refine sr_ev (v := str s_0) (ev_move rfl) (by decide) ?_
 refine sr_range_s hH hb.size hA Tryz.underlying9 rfl (by decide) ?_
 intro g1 A2 w3 hH1 hst4 hbw5 hinc6 hA1 hge7
 replace hb := hb.trans (hbw5.mono hb.size)
 replace hi := fun b hb => hinc6 b (hi b hb)
 replace hH : Hp A2 w0.heap.size w3 [(g1, .stringIter ⟨s_0.toArray⟩ 0)] := hH1
 replace hA := hA1
 clear hH1 hA1
 refine sr_end (l' := [(0, str s_0), (6, .pointer (some ⟨g1, 0, none⟩))]) (.cons rfl (.cons rfl (.nil _))) ?_
 refine ke_block ?_
 have hK := fold_Clean_L1_ok hg hA0 _ hS hb hA hi hH
 exact ke_weaken (l' := [(0, str s_0), (6, .pointer (some ⟨g1, 0, none⟩))]) (.cons rfl (.cons rfl (.nil _))) (ke_loop hK)
theorem internal_stringslite_HasPrefix_ok (w0 : World) (hg : Gs w0) {s_0 : Str} {prefix_1 : Str} {r : Bool} (hS : internal_stringslite_HasPrefix s_0 prefix_1 = some r) :
  Calls Tryz.prog 94 #[str s_0, str prefix_1] w0 (Ret (fun v w' => v = .bool r ∧ Below w0.heap.size w0 w')) := by
 unfold internal_stringslite_HasPrefix at hS
 have hb := Below.refl w0.heap.size w0
 refine calls_of_ke Tryz.func94 rfl (n := 18) rfl rfl (l := [(0, str s_0), (1, str prefix_1)]) rfl ?_
 refine ke_seq ?_
 refine ke_region ?_
 refine sr_ev (v := .bool false) (ev_assign rfl) (by decide) ?_
 refine sr_end (l' := [(0, str s_0), (1, str prefix_1)]) (.cons rfl (.cons rfl (.nil _))) ?_
 refine ke_seq ?_
 refine ke_region ?_
 refine sr_ev (v := str s_0) (ev_move rfl) (by decide) ?_
 refine sr_ev (v := .int .i64 (s_0.length : Int)) (ev_slen Tryz.underlying9 rfl) (by decide) ?_
 refine sr_ev (v := str prefix_1) (ev_move rfl) (by decide) ?_
 refine sr_ev (v := .int .i64 (prefix_1.length : Int)) (ev_slen Tryz.underlying9 rfl) (by decide) ?_
 refine sr_ev (v := .bool (decide ((s_0.length : Int) ≥ (prefix_1.length : Int)))) (ev_ge rfl rfl) (by decide) ?_
 refine sr_ev (v := .bool (decide ((s_0.length : Int) ≥ (prefix_1.length : Int)))) (ev_move rfl) (by decide) ?_
 obtain ⟨z3, hz5, hS⟩ := bind_some' hS
 refine sr_join (m := 7) (C := fun (x : Bool) w1 => z3 = x ∧ Below w0.heap.size w0 w1) (l' := fun x => [(17, .bool x)]) ?_ ?_
 ·rintro _ w6 ⟨rfl, hbw7⟩
  replace hb := hb.trans (hbw7.mono hb.size)
  refine sr_ev (v := .bool z3) (ev_assign rfl) (by decide) ?_
  refine sr_end (l' := [(4, .bool z3)]) (.cons rfl (.nil _)) ?_
  cases hS
  exact ke_ret1 Tryz.func94 rfl rfl ⟨_, rfl, rfl, hb⟩
 ·intro K2
  clear hS
  have hj4 := Below.refl w0.heap.size w0
  rcases Bool.eq_false_or_eq_true (decide ((s_0.length : Int) ≥ (prefix_1.length : Int))) with hg1 | hg1
  ·have hS := ite_true' hz5 hg1
   refine sr_evg (b := true) (e := 10) rfl rfl hg1 (v := str s_0) (ev_move rfl) (by decide) ?_
   refine sr_evg (b := true) (e := 10) rfl rfl hg1 (v := str prefix_1) (ev_move rfl) (by decide) ?_
   refine sr_evg (b := true) (e := 10) rfl rfl hg1 (v := .int .i64 (prefix_1.length : Int)) (ev_slen Tryz.underlying9 rfl) (by decide) ?_
   obtain ⟨hk8, hS⟩ := chk_some hS
   refine sr_evg (b := true) (e := 10) rfl rfl hg1 (v := str (cut s_0 0 (prefix_1.length : Int))) (ev_sslice_to Tryz.underlying9 rfl rfl hk8) (by decide) ?_
   refine sr_evg (b := true) (e := 10) rfl rfl hg1 (v := str prefix_1) (ev_move rfl) (by decide) ?_
   refine sr_evg (b := true) (e := 10) rfl rfl hg1 (v := .bool ((cut s_0 0 (prefix_1.length : Int)) == prefix_1)) (ev_seq rfl rfl) (by decide) ?_
   refine sr_ev (v := .bool ((cut s_0 0 (prefix_1.length : Int)) == prefix_1)) (ev_pick_t rfl hg1 rfl) (by decide) ?_
   exact sr_weaken (l' := [(17, .bool ((cut s_0 0 (prefix_1.length : Int)) == prefix_1))]) (.cons rfl (.nil _)) (K2 ((cut s_0 0 (prefix_1.length : Int)) == prefix_1) _ ⟨(Option.some.inj hS).symm, hj4⟩)
  ·have hS := ite_false' hz5 hg1
   refine sr_pass (e := 10) rfl rfl (by rw [hg1]; rfl) (by decide) ?_
   refine sr_pass (e := 10) rfl rfl (by rw [hg1]; rfl) (by decide) ?_
   refine sr_pass (e := 10) rfl rfl (by rw [hg1]; rfl) (by decide) ?_
   refine sr_pass (e := 10) rfl rfl (by rw [hg1]; rfl) (by decide) ?_
   refine sr_pass (e := 10) rfl rfl (by rw [hg1]; rfl) (by decide) ?_
   refine sr_pass (e := 10) rfl rfl (by rw [hg1]; rfl) (by decide) ?_
   refine sr_ev (v := .bool false) (ev_pick_f rfl hg1 rfl) (by decide) ?_
   exact sr_weaken (l' := [(17, .bool false)]) (.cons rfl (.nil _)) (K2 false _ ⟨(Option.some.inj hS).symm, hj4⟩)
theorem strings_HasPrefix_ok (w0 : World) (hg : Gs w0) {s_0 : Str} {prefix_1 : Str} {r : Bool} (hS : strings_HasPrefix s_0 prefix_1 = some r) :
  Calls Tryz.prog 74 #[str s_0, str prefix_1] w0 (Ret (fun v w' => v = .bool r ∧ Below w0.heap.size w0 w')) := by
 unfold strings_HasPrefix at hS
 have hb := Below.refl w0.heap.size w0
 refine calls_of_ke Tryz.func74 rfl (n := 8) rfl rfl (l := [(0, str s_0), (1, str prefix_1)]) rfl ?_
 refine ke_seq ?_
 refine ke_region ?_
 refine sr_ev (v := .bool false) (ev_assign rfl) (by decide) ?_
 refine sr_end (l' := [(0, str s_0), (1, str prefix_1)]) (.cons rfl (.cons rfl (.nil _))) ?_
 refine ke_seq ?_
 refine ke_region ?_
 refine sr_ev (v := str s_0) (ev_move rfl) (by decide) ?_
 refine sr_ev (v := str prefix_1) (ev_move rfl) (by decide) ?_
 obtain ⟨y1, hy2, hS⟩ := bind_some' hS
 refine sr_call (vs := [str s_0, str prefix_1]) rfl Tryz.call94 rfl (internal_stringslite_HasPrefix_ok _ (hg.below hb) hy2) (by decide) ?_
 rintro _ w3 ⟨rfl, hbw4⟩
 replace hb := hb.trans (hbw4.mono hb.size)
 refine sr_ev (v := .bool y1) (ev_assign rfl) (by decide) ?_
 refine sr_end (l' := [(4, .bool y1)]) (.cons rfl (.nil _)) ?_
 cases hS
 exact ke_ret1 Tryz.func74 rfl rfl ⟨_, rfl, rfl, hb⟩
theorem client_address_ok (w0 : World) (hg : Gs w0) {s_0 : Str} {r : Bool} (hS : client_address s_0 = some r) :
  Calls Tryz.prog 44 #[str s_0] w0 (Ret (fun v w' => v = .bool r ∧ Below w0.heap.size w0 w')) := by
 unfold client_address at hS
 have hb := Below.refl w0.heap.size w0
 refine calls_of_ke Tryz.func44 rfl (n := 14) rfl rfl (l := [(0, str s_0)]) rfl ?_
 refine ke_seq ?_
 refine ke_region ?_
 refine sr_ev (v := .bool false) (ev_assign rfl) (by decide) ?_
 refine sr_end (l' := [(0, str s_0)]) (.cons rfl (.nil _)) ?_
 refine ke_seq ?_
 refine ke_region ?_
 refine sr_ev (v := str s_0) (ev_move rfl) (by decide) ?_
 obtain ⟨y1, hy2, hS⟩ := bind_some' hS
 refine sr_call (vs := [str s_0]) rfl Tryz.call73 rfl (fold_Clean_ok _ (hg.below hb) hy2) (by decide) ?_
 rintro _ w3 ⟨rfl, hbw4⟩
 replace hb := hb.trans (hbw4.mono hb.size)
 refine sr_ev (v := .bool y1) (ev_move rfl) (by decide) ?_
 obtain ⟨z7, hz9, hS⟩ := bind_some' hS
 refine sr_join (m := 3) (C := fun (x : Bool) w1 => z7 = x ∧ Below w3.heap.size w3 w1) (l' := fun x => [(0, str s_0), (8, .bool x)]) ?_ ?_
 ·rintro _ w10 ⟨rfl, hbw11⟩
  replace hb := hb.trans (hbw11.mono hb.size)
  refine sr_ev (v := .bool z7) (ev_move rfl) (by decide) ?_
  obtain ⟨z18, hz20, hS⟩ := bind_some' hS
  refine sr_join (m := 4) (C := fun (x : Bool) w1 => z18 = x ∧ Below w10.heap.size w10 w1) (l' := fun x => [(13, .bool x)]) ?_ ?_
  ·rintro _ w21 ⟨rfl, hbw22⟩
   replace hb := hb.trans (hbw22.mono hb.size)
   refine sr_ev (v := .bool z18) (ev_assign rfl) (by decide) ?_
   refine sr_end (l' := [(2, .bool z18)]) (.cons rfl (.nil _)) ?_
   cases hS
   exact ke_ret1 Tryz.func44 rfl rfl ⟨_, rfl, rfl, hb⟩
  ·intro K17
   clear hS
   have hj19 := Below.refl w10.heap.size w10
   rcases Bool.eq_false_or_eq_true z7 with hg16 | hg16
   ·have hS := ite_true' hz20 hg16
    refine sr_evg (b := true) (e := 9) rfl rfl hg16 (v := str s_0) (ev_move rfl) (by decide) ?_
    obtain ⟨y23, hy24, hS⟩ := bind_some' hS
    refine sr_callg (b := true) (e := 9) rfl rfl hg16 (vs := [str s_0, str ([35])]) rfl Tryz.call75 rfl (lib_Contains_ok _ (hg.below hb) hy24) (by decide) ?_
    rintro _ w25 ⟨rfl, hbw26⟩
    replace hb := hb.trans (hbw26.mono hb.size)
    replace hj19 := hj19.trans (hbw26.mono hj19.size)
    refine sr_evg (b := true) (e := 9) rfl rfl hg16 (v := .bool (!y23)) (ev_not rfl) (by decide) ?_
    refine sr_ev (v := .bool (!y23)) (ev_pick_t rfl hg16 rfl) (by decide) ?_
    exact sr_weaken (l' := [(13, .bool (!y23))]) (.cons rfl (.nil _)) (K17 (!y23) _ ⟨(Option.some.inj hS).symm, hj19⟩)
   ·have hS := ite_false' hz20 hg16
    refine sr_pass (e := 9) rfl rfl (by rw [hg16]; rfl) (by decide) ?_
    refine sr_pass (e := 9) rfl rfl (by rw [hg16]; rfl) (by decide) ?_
    refine sr_pass (e := 9) rfl rfl (by rw [hg16]; rfl) (by decide) ?_
    refine sr_ev (v := .bool false) (ev_pick_f rfl hg16 rfl) (by decide) ?_
    exact sr_weaken (l' := [(13, .bool false)]) (.cons rfl (.nil _)) (K17 false _ ⟨(Option.some.inj hS).symm, hj19⟩)
 ·intro K6
  clear hS
  have hj8 := Below.refl w3.heap.size w3
  rcases Bool.eq_false_or_eq_true y1 with hg5 | hg5
  ·have hS := ite_true' hz9 hg5
   refine sr_evg (b := true) (e := 5) rfl rfl hg5 (v := str s_0) (ev_move rfl) (by decide) ?_
   obtain ⟨y12, hy13, hS⟩ := bind_some' hS
   refine sr_callg (b := true) (e := 5) rfl rfl hg5 (vs := [str s_0, str ([104, 116, 116, 112, 115, 58, 47, 47])]) rfl Tryz.call74 rfl (strings_HasPrefix_ok _ (hg.below hb) hy13) (by decide) ?_
   rintro _ w14 ⟨rfl, hbw15⟩
   replace hb := hb.trans (hbw15.mono hb.size)
   replace hj8 := hj8.trans (hbw15.mono hj8.size)
   refine sr_ev (v := .bool y12) (ev_pick_t rfl hg5 rfl) (by decide) ?_
   exact sr_weaken (l' := [(0, str s_0), (8, .bool y12)]) (.cons rfl (.cons rfl (.nil _))) (K6 y12 _ ⟨(Option.some.inj hS).symm, hj8⟩)
  ·have hS := ite_false' hz9 hg5
   refine sr_pass (e := 5) rfl rfl (by rw [hg5]; rfl) (by decide) ?_
   refine sr_pass (e := 5) rfl rfl (by rw [hg5]; rfl) (by decide) ?_
   refine sr_ev (v := .bool false) (ev_pick_f rfl hg5 rfl) (by decide) ?_
   exact sr_weaken (l' := [(0, str s_0), (8, .bool false)]) (.cons rfl (.cons rfl (.nil _))) (K6 false _ ⟨(Option.some.inj hS).symm, hj8⟩)
theorem client_redirects_1_ok (w0 : World) (hg : Gs w0) {s_0 : Str} {r : Bool} (hS : client_redirects_1 s_0 = some r) :
  Calls Tryz.prog 72 #[str s_0] w0 (Ret (fun v w' => v = .bool r ∧ Below w0.heap.size w0 w')) := by
 unfold client_redirects_1 at hS
 have hb := Below.refl w0.heap.size w0
 refine calls_of_ke Tryz.func72 rfl (n := 6) rfl rfl (l := [(0, str s_0)]) rfl ?_
 refine ke_seq ?_
 refine ke_region ?_
 refine sr_ev (v := .bool false) (ev_assign rfl) (by decide) ?_
 refine sr_end (l' := [(0, str s_0)]) (.cons rfl (.nil _)) ?_
 refine ke_seq ?_
 refine ke_region ?_
 refine sr_ev (v := str s_0) (ev_move rfl) (by decide) ?_
 obtain ⟨y1, hy2, hS⟩ := bind_some' hS
 refine sr_call (vs := [str s_0]) rfl Tryz.call44 rfl (client_address_ok _ (hg.below hb) hy2) (by decide) ?_
 rintro _ w3 ⟨rfl, hbw4⟩
 replace hb := hb.trans (hbw4.mono hb.size)
 refine sr_ev (v := .bool (!y1)) (ev_not rfl) (by decide) ?_
 refine sr_ev (v := .bool (!y1)) (ev_assign rfl) (by decide) ?_
 refine sr_end (l' := [(2, .bool (!y1))]) (.cons rfl (.nil _)) ?_
 cases hS
 exact ke_ret1 Tryz.func72 rfl rfl ⟨_, rfl, rfl, hb⟩
theorem slices_Index_string_string_L1_ok {w0 : World} (hg : Gs w0) {A0 : Nat → Prop} (hA0 : ∀ b, A0 b → b < w0.heap.size) : ∀ (n : Nat), ∀ {r : Int} {s_0 : List Str} {v_1 : Str} {t_7 : Int} {t_8 : Int} {vs_0 : Value}, slices_Index_string_string_L1 n s_0 v_1 t_7 t_8 = some r → ∀ {w : World} {A : Nat → Prop}, (Below w0.heap.size w0 w) → (∀ b, A b → b < w.heap.size) → (∀ b, A0 b → A b) → (Hp A w0.heap.size w []) → (SlR strC A w vs_0 s_0) → KE Tryz.prog 82 (Ret (fun v w' => v = .int .i64 r ∧ Below w0.heap.size w0 w')) 19 [.code (sub (bodyOf Tryz.f82) [2, 1, 2, 2, 1]), .inLoop (sub (bodyOf Tryz.f82) [2, 1, 2, 2, 1]), .inBlock 0, .code (sub (bodyOf Tryz.f82) [2, 2])] [(0, vs_0), (1, str v_1), (7, .int .i64 t_7), (8, .int .i64 t_8)] w := by
 intro n
 induction n with
 | zero => intro r s_0 v_1 t_7 t_8 vs_0 hS; cases hS
 | succ n ih =>
  have hr0 : ∀ {r : Int} {s_0 : List Str} {v_1 : Str} {t_7 : Int} {t_8 : Int} {vs_0 : Value}, slices_Index_string_string_L1 n s_0 v_1 t_7 t_8 = some r → ∀ {w : World} {A : Nat → Prop}, (Below w0.heap.size w0 w) → (∀ b, A b → b < w.heap.size) → (∀ b, A0 b → A b) → (Hp A w0.heap.size w []) → (SlR strC A w vs_0 s_0) → KE Tryz.prog 82 (Ret (fun v w' => v = .int .i64 r ∧ Below w0.heap.size w0 w')) 19 [.inLoop (sub (bodyOf Tryz.f82) [2, 1, 2, 2, 1]), .inBlock 0, .code (sub (bodyOf Tryz.f82) [2, 2])] [(0, vs_0), (1, str v_1), (7, .int .i64 t_7), (8, .int .i64 t_8)] w := fun {r} {s_0} {v_1} {t_7} {t_8} {vs_0} hS {w} {A} hb hA hi hH hs_0 => ke_inLoop (ih hS hb hA hi hH hs_0)
  clear ih
  intro r s_0 v_1 t_7 t_8 vs_0 hS w A hb hA hi hH hs_0
  unfold slices_Index_string_string_L1 at hS
  refine ke_seq ?_
  refine ke_region ?_
  refine sr_ev (v := .bool (decide (t_8 < t_7))) (ev_lt rfl rfl) (by decide) ?_
  refine sr_end (l' := [(0, vs_0), (1, str v_1), (7, .int .i64 t_7), (8, .int .i64 t_8), (9, .bool (decide (t_8 < t_7)))]) (.cons rfl (.cons rfl (.cons rfl (.cons rfl (.cons rfl (.nil _)))))) ?_
  refine ke_seq ?_
  refine ke_cond (t := decide (t_8 < t_7)) rfl (fun hc3 => ?_) (fun hc3 => ?_)
  ·replace hS := ite_true' hS hc3
   refine ke_skip ?_
   refine ke_seq ?_
   refine ke_block ?_
   refine ke_seq ?_
   refine ke_region ?_
   refine sr_ev (v := .int .i64 t_8) (ev_move rfl) (by decide) ?_
   refine sr_ev (v := .int .i64 t_8) (ev_assign rfl) (by decide) ?_
   refine sr_end (l' := [(0, vs_0), (1, str v_1), (5, .int .i64 t_8), (7, .int .i64 t_7), (8, .int .i64 t_8)]) (.cons rfl (.cons rfl (.cons rfl (.cons rfl (.cons rfl (.nil _)))))) ?_
   refine ke_seq ?_
   refine ke_region ?_
   refine sr_ev (v := str v_1) (ev_move rfl) (by decide) ?_
   refine sr_ev (v := vs_0) (ev_move rfl) (by decide) ?_
   refine sr_ev (v := .int .i64 t_8) (ev_move rfl) (by decide) ?_
   obtain ⟨y4, hy5, hS⟩ := bind_some' hS
   refine sr_index hs_0 Tryz.underlying25 Tryz.info9 rfl rfl rfl hy5 (by decide) ?_
   intro b6 o7 cs9 he8
   obtain rfl : cs9 = [str y4] := he8.rd
   refine sr_ev (v := str y4) (ev_load Tryz.isAgg9 rfl (he8.cell 0 _ rfl)) (by decide) ?_
   refine sr_ev (v := .bool (v_1 == y4)) (ev_seq rfl rfl) (by decide) ?_
   refine sr_end (l' := [(0, vs_0), (1, str v_1), (5, .int .i64 t_8), (7, .int .i64 t_7), (8, .int .i64 t_8), (16, .bool (v_1 == y4))]) (.cons rfl (.cons rfl (.cons rfl (.cons rfl (.cons rfl (.cons rfl (.nil _))))))) ?_
   refine ke_cond (t := v_1 == y4) rfl (fun hc10 => ?_) (fun hc10 => ?_)
   ·replace hS := ite_true' hS hc10
    refine ke_seq ?_
    refine ke_region ?_
    refine sr_ev (v := .int .i64 t_8) (ev_move rfl) (by decide) ?_
    refine sr_ev (v := .int .i64 t_8) (ev_assign rfl) (by decide) ?_
    refine sr_end (l' := [(4, .int .i64 t_8)]) (.cons rfl (.nil _)) ?_
    cases hS
    exact ke_ret1 Tryz.func82 rfl rfl ⟨_, rfl, rfl, hb⟩
   ·replace hS := ite_false' hS hc10
    refine ke_skip ?_
    refine ke_inBlock ?_
    refine ke_region ?_
    refine sr_ev (v := .int .i64 (IntKind.i64.wrap (t_8 + 1))) (ev_add rfl rfl) (by decide) ?_
    refine sr_ev (v := .int .i64 (IntKind.i64.wrap (t_8 + 1))) (ev_move rfl) (by decide) ?_
    refine sr_end (l' := [(0, vs_0), (1, str v_1), (7, .int .i64 t_7), (8, .int .i64 (IntKind.i64.wrap (t_8 + 1)))]) (.cons rfl (.cons rfl (.cons rfl (.cons rfl (.nil _))))) ?_
    have hK := hr0 hS hb hA hi hH hs_0
    exact ke_weaken (l' := [(0, vs_0), (1, str v_1), (7, .int .i64 t_7), (8, .int .i64 (IntKind.i64.wrap (t_8 + 1)))]) (.cons rfl (.cons rfl (.cons rfl (.cons rfl (.nil _))))) hK
  ·replace hS := ite_false' hS hc3
   refine ke_exit (k' := _) rfl ?_
   refine ke_seq ?_
   refine ke_region ?_
   refine sr_ev (v := .int .i64 (-1)) (ev_assign rfl) (by decide) ?_
   refine sr_end (l' := [(4, .int .i64 (-1))]) (.cons rfl (.nil _)) ?_
   cases hS
   exact ke_ret1 Tryz.func82 rfl rfl ⟨_, rfl, rfl, hb⟩
theorem slices_Index_string_string_ok {A0 : Nat → Prop} (w0 : World) (hg : Gs w0) {s_0 : List Str} {v_1 : Str} {v1 : Value} {r : Int} (h2 : SlR strC A0 w0 v1 s_0) (hS : slices_Index_string_string s_0 v_1 = some r) :
  Calls Tryz.prog 82 #[v1, str v_1] w0 (Ret (fun v w' => v = .int .i64 r ∧ Below w0.heap.size w0 w')) := by
 unfold slices_Index_string_string at hS
 have hb := Below.refl w0.heap.size w0
 replace h2 := h2.weak (A' := fun _ => False) (fun _ h => h.elim)
 obtain ⟨A0, hA0, hAe⟩ : ∃ A0 : Nat → Prop, (∀ b, A0 b → b < w0.heap.size) ∧ A0 = fun _ => False := ⟨_, fun _ h => h.elim, rfl⟩
 rw [← hAe] at h2
 clear hAe
 have hA := hA0
 have hi : ∀ b, A0 b → A0 b := fun _ h => h
 have hH := Hp.nil A0 w0.heap.size w0
 refine calls_of_ke Tryz.func82 rfl (n := 19) rfl rfl (l := [(0, v1), (1, str v_1)]) rfl ?_
 refine ke_seq ?_
 refine ke_region ?_
 refine sr_ev (v := .int .i64 0) (ev_assign rfl) (by decide) ?_
 refine sr_end (l' := [(0, v1), (1, str v_1)]) (.cons rfl (.cons rfl (.nil _))) ?_
 refine ke_seq ?_
 refine ke_seq ?_
 refine ke_region ?_
 refine sr_ev (v := v1) (ev_move rfl) (by decide) ?_
 refine sr_ev (v := .int .i64 (s_0.length : Int)) (ev_sllen Tryz.underlying25 rfl h2) (by decide) ?_
 refine sr_ev (v := .int .i64 0) (ev_move rfl) (by decide) ?_
 refine sr_end (l' := [(0, v1), (1, str v_1), (7, .int .i64 (s_0.length : Int)), (8, .int .i64 0)]) (.cons rfl (.cons rfl (.cons rfl (.cons rfl (.nil _))))) ?_
 refine ke_block ?_
 have hK := slices_Index_string_string_L1_ok hg hA0 _ hS hb hA hi hH h2
 exact ke_weaken (l' := [(0, v1), (1, str v_1), (7, .int .i64 (s_0.length : Int)), (8, .int .i64 0)]) (.cons rfl (.cons rfl (.cons rfl (.cons rfl (.nil _))))) (ke_loop hK)
theorem slices_Contains_string_string_ok {A0 : Nat → Prop} (w0 : World) (hg : Gs w0) {s_0 : List Str} {v_1 : Str} {v1 : Value} {r : Bool} (h2 : SlR strC A0 w0 v1 s_0) (hS : slices_Contains_string_string s_0 v_1 = some r) :
  Calls Tryz.prog 53 #[v1, str v_1] w0 (Ret (fun v w' => v = .bool r ∧ Below w0.heap.size w0 w')) := by
 unfold slices_Contains_string_string at hS
 have hb := Below.refl w0.heap.size w0
 replace h2 := h2.weak (A' := fun _ => False) (fun _ h => h.elim)
 obtain ⟨A0, hA0, hAe⟩ : ∃ A0 : Nat → Prop, (∀ b, A0 b → b < w0.heap.size) ∧ A0 = fun _ => False := ⟨_, fun _ h => h.elim, rfl⟩
 rw [← hAe] at h2
 clear hAe
 have hA := hA0
 have hi : ∀ b, A0 b → A0 b := fun _ h => h
 have hH := Hp.nil A0 w0.heap.size w0
 refine calls_of_ke Tryz.func53 rfl (n := 9) rfl rfl (l := [(0, v1), (1, str v_1)]) rfl ?_
 refine ke_seq ?_
 refine ke_region ?_
 refine sr_ev (v := .bool false) (ev_assign rfl) (by decide) ?_
 refine sr_end (l' := [(0, v1), (1, str v_1)]) (.cons rfl (.cons rfl (.nil _))) ?_
 refine ke_seq ?_
 refine ke_region ?_
 refine sr_ev (v := v1) (ev_move rfl) (by decide) ?_
 refine sr_ev (v := str v_1) (ev_move rfl) (by decide) ?_
 obtain ⟨y3, hy4, hS⟩ := bind_some' hS
 refine sr_call (vs := [v1, str v_1]) rfl Tryz.call82 rfl (slices_Index_string_string_ok _ (hg.below hb) h2 hy4) (by decide) ?_
 rintro _ w5 ⟨rfl, hbw6⟩
 replace hb := hb.trans (hbw6.mono hb.size)
 replace hA := lt_mono hA hbw6.size
 replace hH := hH.below hbw6
 refine sr_ev (v := .bool (decide (y3 ≥ 0))) (ev_ge rfl rfl) (by decide) ?_
 refine sr_ev (v := .bool (decide (y3 ≥ 0))) (ev_assign rfl) (by decide) ?_
 refine sr_end (l' := [(4, .bool (decide (y3 ≥ 0)))]) (.cons rfl (.nil _)) ?_
 cases hS
 exact ke_ret1 Tryz.func53 rfl rfl ⟨_, rfl, rfl, hb⟩
theorem client_first_string__redirects_1_L1_ok {w0 : World} (hg : Gs w0) {A0 : Nat → Prop} (hA0 : ∀ b, A0 b → b < w0.heap.size) : ∀ (n : Nat), ∀ {r : Int} {l_0 : List Str} {t_7 : List Str} {t_8 : Int} {t_9 : Int} {vl_0 : Value} {vt_7 : Value}, client_first_string__redirects_1_L1 n l_0 t_7 t_8 t_9 = some r → ∀ {w : World} {A : Nat → Prop}, (Below w0.heap.size w0 w) → (∀ b, A b → b < w.heap.size) → (∀ b, A0 b → A b) → (Hp A w0.heap.size w []) → (SlR strC A w vl_0 l_0) → (SlR strC A w vt_7 t_7) → KE Tryz.prog 71 (Ret (fun v w' => v = .int .i64 r ∧ Below w0.heap.size w0 w')) 23 [.code (sub (bodyOf Tryz.f71) [2, 1, 2, 2, 1]), .inLoop (sub (bodyOf Tryz.f71) [2, 1, 2, 2, 1]), .inBlock 0, .code (sub (bodyOf Tryz.f71) [2, 2])] [(0, vl_0), (1, .func (.func 72) #[] #[]), (7, vt_7), (8, .int .i64 t_8), (9, .int .i64 t_9)] w := by
 intro n
 induction n with
 | zero => intro r l_0 t_7 t_8 t_9 vl_0 vt_7 hS; cases hS
 | succ n ih =>
  have hr0 : ∀ {r : Int} {l_0 : List Str} {t_7 : List Str} {t_8 : Int} {t_9 : Int} {vl_0 : Value} {vt_7 : Value}, client_first_string__redirects_1_L1 n l_0 t_7 t_8 t_9 = some r → ∀ {w : World} {A : Nat → Prop}, (Below w0.heap.size w0 w) → (∀ b, A b → b < w.heap.size) → (∀ b, A0 b → A b) → (Hp A w0.heap.size w []) → (SlR strC A w vl_0 l_0) → (SlR strC A w vt_7 t_7) → KE Tryz.prog 71 (Ret (fun v w' => v = .int .i64 r ∧ Below w0.heap.size w0 w')) 23 [.inLoop (sub (bodyOf Tryz.f71) [2, 1, 2, 2, 1]), .inBlock 0, .code (sub (bodyOf Tryz.f71) [2, 2])] [(0, vl_0), (1, .func (.func 72) #[] #[]), (7, vt_7), (8, .int .i64 t_8), (9, .int .i64 t_9)] w := fun {r} {l_0} {t_7} {t_8} {t_9} {vl_0} {vt_7} hS {w} {A} hb hA hi hH hl_0 ht_7 => ke_inLoop (ih hS hb hA hi hH hl_0 ht_7)
  clear ih
  intro r l_0 t_7 t_8 t_9 vl_0 vt_7 hS w A hb hA hi hH hl_0 ht_7
  unfold client_first_string__redirects_1_L1 at hS
  refine ke_seq ?_
  refine ke_region ?_
  refine sr_ev (v := .bool (decide (t_9 < t_8))) (ev_lt rfl rfl) (by decide) ?_
  refine sr_end (l' := [(0, vl_0), (1, .func (.func 72) #[] #[]), (7, vt_7), (8, .int .i64 t_8), (9, .int .i64 t_9), (10, .bool (decide (t_9 < t_8)))]) (.cons rfl (.cons rfl (.cons rfl (.cons rfl (.cons rfl (.cons rfl (.nil _))))))) ?_
  refine ke_seq ?_
  refine ke_cond (t := decide (t_9 < t_8)) rfl (fun hc3 => ?_) (fun hc3 => ?_)
  ·replace hS := ite_true' hS hc3
   refine ke_skip ?_
   refine ke_seq ?_
   refine ke_block ?_
   refine ke_seq ?_
   refine ke_region ?_
   refine sr_ev (v := .int .i64 t_9) (ev_move rfl) (by decide) ?_
   obtain ⟨y4, hy5, hS⟩ := bind_some' hS
   refine sr_index ht_7 Tryz.underlying25 Tryz.info9 rfl rfl rfl hy5 (by decide) ?_
   intro b6 o7 cs9 he8
   obtain rfl : cs9 = [str y4] := he8.rd
   refine sr_ev (v := str y4) (ev_load Tryz.isAgg9 rfl (he8.cell 0 _ rfl)) (by decide) ?_
   refine sr_ev (v := .int .i64 t_9) (ev_assign rfl) (by decide) ?_
   refine sr_ev (v := str y4) (ev_assign rfl) (by decide) ?_
   refine sr_end (l' := [(0, vl_0), (1, .func (.func 72) #[] #[]), (5, .int .i64 t_9), (6, str y4), (7, vt_7), (8, .int .i64 t_8), (9, .int .i64 t_9)]) (.cons rfl (.cons rfl (.cons rfl (.cons rfl (.cons rfl (.cons rfl (.cons rfl (.nil _)))))))) ?_
   refine ke_seq ?_
   refine ke_seq ?_
   refine ke_region ?_
   refine sr_ev (v := .func (.func 72) #[] #[]) (ev_move rfl) (by decide) ?_
   refine sr_ev (v := str y4) (ev_move rfl) (by decide) ?_
   obtain ⟨y10, hy11, hS⟩ := bind_some' hS
   refine sr_call (vs := [str y4]) rfl Tryz.call72 rfl (client_redirects_1_ok _ (hg.below hb) hy11) (by decide) ?_
   rintro _ w12 ⟨rfl, hbw13⟩
   replace hb := hb.trans (hbw13.mono hb.size)
   replace hA := lt_mono hA hbw13.size
   replace hH := hH.below hbw13
   replace hl_0 := hl_0.below hbw13
   replace ht_7 := ht_7.below hbw13
   refine sr_end (l' := [(0, vl_0), (1, .func (.func 72) #[] #[]), (5, .int .i64 t_9), (6, str y4), (7, vt_7), (8, .int .i64 t_8), (9, .int .i64 t_9), (16, .bool y10)]) (.cons rfl (.cons rfl (.cons rfl (.cons rfl (.cons rfl (.cons rfl (.cons rfl (.cons rfl (.nil _))))))))) ?_
   refine ke_cond (t := y10) rfl (fun hc14 => ?_) (fun hc14 => ?_)
   ·replace hS := ite_true' hS hc14
    refine ke_seq ?_
    refine ke_region ?_
    refine sr_ev (v := .int .i64 4) (ev_assign rfl) (by decide) ?_
    refine sr_end (l' := [(4, .int .i64 4)]) (.cons rfl (.nil _)) ?_
    cases hS
    exact ke_ret1 Tryz.func71 rfl rfl ⟨_, rfl, rfl, hb⟩
   ·replace hS := ite_false' hS hc14
    refine ke_skip ?_
    refine ke_seq ?_
    refine ke_region ?_
    refine sr_ev (v := vl_0) (ev_move rfl) (by decide) ?_
    refine sr_ev (v := .int .i64 t_9) (ev_move rfl) (by decide) ?_
    obtain ⟨hk15, hS⟩ := chk_some hS
    refine sr_slice_h hl_0 Tryz.underlying25 Tryz.info9 rfl rfl rfl  hk15 (by decide) ?_
    intro v16 h17
    refine sr_ev (v := str y4) (ev_move rfl) (by decide) ?_
    obtain ⟨y18, hy19, hS⟩ := bind_some' hS
    refine sr_call (vs := [v16, str y4]) rfl Tryz.call53 rfl (slices_Contains_string_string_ok _ (hg.below hb) h17 hy19) (by decide) ?_
    rintro _ w20 ⟨rfl, hbw21⟩
    replace hb := hb.trans (hbw21.mono hb.size)
    replace hA := lt_mono hA hbw21.size
    replace hH := hH.below hbw21
    replace hl_0 := hl_0.below hbw21
    replace ht_7 := ht_7.below hbw21
    refine sr_end (l' := [(0, vl_0), (1, .func (.func 72) #[] #[]), (7, vt_7), (8, .int .i64 t_8), (9, .int .i64 t_9), (21, .bool y18)]) (.cons rfl (.cons rfl (.cons rfl (.cons rfl (.cons rfl (.cons rfl (.nil _))))))) ?_
    refine ke_cond (t := y18) rfl (fun hc22 => ?_) (fun hc22 => ?_)
    ·replace hS := ite_true' hS hc22
     refine ke_seq ?_
     refine ke_region ?_
     refine sr_ev (v := .int .i64 7) (ev_assign rfl) (by decide) ?_
     refine sr_end (l' := [(4, .int .i64 7)]) (.cons rfl (.nil _)) ?_
     cases hS
     exact ke_ret1 Tryz.func71 rfl rfl ⟨_, rfl, rfl, hb⟩
    ·replace hS := ite_false' hS hc22
     refine ke_skip ?_
     refine ke_inBlock ?_
     refine ke_region ?_
     refine sr_ev (v := .int .i64 (IntKind.i64.wrap (t_9 + 1))) (ev_add rfl rfl) (by decide) ?_
     refine sr_ev (v := .int .i64 (IntKind.i64.wrap (t_9 + 1))) (ev_move rfl) (by decide) ?_
     refine sr_end (l' := [(0, vl_0), (1, .func (.func 72) #[] #[]), (7, vt_7), (8, .int .i64 t_8), (9, .int .i64 (IntKind.i64.wrap (t_9 + 1)))]) (.cons rfl (.cons rfl (.cons rfl (.cons rfl (.cons rfl (.nil _)))))) ?_
     have hK := hr0 hS hb hA hi hH hl_0 ht_7
     exact ke_weaken (l' := [(0, vl_0), (1, .func (.func 72) #[] #[]), (7, vt_7), (8, .int .i64 t_8), (9, .int .i64 (IntKind.i64.wrap (t_9 + 1)))]) (.cons rfl (.cons rfl (.cons rfl (.cons rfl (.cons rfl (.nil _)))))) hK
  ·replace hS := ite_false' hS hc3
   refine ke_exit (k' := _) rfl ?_
   refine ke_seq ?_
   refine ke_region ?_
   refine sr_ev (v := .int .i64 0) (ev_assign rfl) (by decide) ?_
   refine sr_end (l' := [(4, .int .i64 0)]) (.cons rfl (.nil _)) ?_
   cases hS
   exact ke_ret1 Tryz.func71 rfl rfl ⟨_, rfl, rfl, hb⟩
theorem client_first_string__redirects_1_ok {A0 : Nat → Prop} (w0 : World) (hg : Gs w0) {l_0 : List Str} {v1 : Value} {r : Int} (h2 : SlR strC A0 w0 v1 l_0) (hS : client_first_string__redirects_1 l_0 = some r) :
  Calls Tryz.prog 71 #[v1, .func (.func 72) #[] #[]] w0 (Ret (fun v w' => v = .int .i64 r ∧ Below w0.heap.size w0 w')) := by
 unfold client_first_string__redirects_1 at hS
 have hb := Below.refl w0.heap.size w0
 replace h2 := h2.weak (A' := fun _ => False) (fun _ h => h.elim)
 obtain ⟨A0, hA0, hAe⟩ : ∃ A0 : Nat → Prop, (∀ b, A0 b → b < w0.heap.size) ∧ A0 = fun _ => False := ⟨_, fun _ h => h.elim, rfl⟩
 rw [← hAe] at h2
 clear hAe
 have hA := hA0
 have hi : ∀ b, A0 b → A0 b := fun _ h => h
 have hH := Hp.nil A0 w0.heap.size w0
 refine calls_of_ke Tryz.func71 rfl (n := 23) rfl rfl (l := [(0, v1), (1, .func (.func 72) #[] #[])]) rfl ?_
 refine ke_seq ?_
 refine ke_region ?_
 refine sr_ev (v := .int .i64 0) (ev_assign rfl) (by decide) ?_
 refine sr_end (l' := [(0, v1), (1, .func (.func 72) #[] #[])]) (.cons rfl (.cons rfl (.nil _))) ?_
 refine ke_seq ?_
 refine ke_seq ?_
 refine ke_region ?_
 refine sr_ev (v := v1) (ev_move rfl) (by decide) ?_
 refine sr_ev (v := .int .i64 (l_0.length : Int)) (ev_sllen Tryz.underlying25 rfl h2) (by decide) ?_
 refine sr_ev (v := .int .i64 0) (ev_move rfl) (by decide) ?_
 refine sr_end (l' := [(0, v1), (1, .func (.func 72) #[] #[]), (7, v1), (8, .int .i64 (l_0.length : Int)), (9, .int .i64 0)]) (.cons rfl (.cons rfl (.cons rfl (.cons rfl (.cons rfl (.nil _)))))) ?_
 refine ke_block ?_
 have hK := client_first_string__redirects_1_L1_ok hg hA0 _ hS hb hA hi hH h2 h2
 exact ke_weaken (l' := [(0, v1), (1, .func (.func 72) #[] #[]), (7, v1), (8, .int .i64 (l_0.length : Int)), (9, .int .i64 0)]) (.cons rfl (.cons rfl (.cons rfl (.cons rfl (.cons rfl (.nil _)))))) (ke_loop hK)
theorem client_redirects_ok {A0 : Nat → Prop} (w0 : World) (hg : Gs w0) {l_0 : List Str} {v1 : Value} {r : Int} (h2 : SlR strC A0 w0 v1 l_0) (hS : client_redirects l_0 = some r) :
  Calls Tryz.prog 43 #[v1] w0 (Ret (fun v w' => v = .int .i64 r ∧ Below w0.heap.size w0 w')) := by
 unfold client_redirects at hS
 have hb := Below.refl w0.heap.size w0
 replace h2 := h2.weak (A' := fun _ => False) (fun _ h => h.elim)
 obtain ⟨A0, hA0, hAe⟩ : ∃ A0 : Nat → Prop, (∀ b, A0 b → b < w0.heap.size) ∧ A0 = fun _ => False := ⟨_, fun _ h => h.elim, rfl⟩
 rw [← hAe] at h2
 clear hAe
 have hA := hA0
 have hi : ∀ b, A0 b → A0 b := fun _ h => h
 have hH := Hp.nil A0 w0.heap.size w0
 refine calls_of_ke Tryz.func43 rfl (n := 13) rfl rfl (l := [(0, v1)]) rfl ?_
 refine ke_seq ?_
 refine ke_region ?_
 refine sr_ev (v := .int .i64 0) (ev_assign rfl) (by decide) ?_
 refine sr_end (l' := [(0, v1)]) (.cons rfl (.nil _)) ?_
 refine ke_seq ?_
 refine ke_block ?_
 refine ke_seq ?_
 refine ke_region ?_
 refine sr_ev (v := v1) (ev_move rfl) (by decide) ?_
 refine sr_ev (v := .int .i64 (l_0.length : Int)) (ev_sllen Tryz.underlying25 rfl h2) (by decide) ?_
 refine sr_ev (v := .bool ((l_0.length : Int) == 0)) (ev_eq rfl rfl) (by decide) ?_
 refine sr_ev (v := .bool ((l_0.length : Int) == 0)) (ev_assign rfl) (by decide) ?_
 refine sr_end (l' := [(0, v1), (3, .bool ((l_0.length : Int) == 0))]) (.cons rfl (.cons rfl (.nil _))) ?_
 refine ke_cond (t := (l_0.length : Int) == 0) rfl (fun hc3 => ?_) (fun hc3 => ?_)
 ·replace hS := ite_true' hS hc3
  refine ke_seq ?_
  refine ke_region ?_
  refine sr_ev (v := .int .i64 6) (ev_assign rfl) (by decide) ?_
  refine sr_end (l' := [(2, .int .i64 6)]) (.cons rfl (.nil _)) ?_
  cases hS
  exact ke_ret1 Tryz.func43 rfl rfl ⟨_, rfl, rfl, hb⟩
 ·replace hS := ite_false' hS hc3
  refine ke_seq ?_
  refine ke_region ?_
  refine sr_ev (v := v1) (ev_move rfl) (by decide) ?_
  refine sr_ev (v := .int .i64 (l_0.length : Int)) (ev_sllen Tryz.underlying25 rfl h2) (by decide) ?_
  refine sr_ev (v := .bool (decide ((l_0.length : Int) > 8))) (ev_gt rfl rfl) (by decide) ?_
  refine sr_ev (v := .bool (decide ((l_0.length : Int) > 8))) (ev_assign rfl) (by decide) ?_
  refine sr_end (l' := [(0, v1), (7, .bool (decide ((l_0.length : Int) > 8)))]) (.cons rfl (.cons rfl (.nil _))) ?_
  refine ke_cond (t := decide ((l_0.length : Int) > 8)) rfl (fun hc4 => ?_) (fun hc4 => ?_)
  ·replace hS := ite_true' hS hc4
   refine ke_seq ?_
   refine ke_region ?_
   refine sr_ev (v := .int .i64 3) (ev_assign rfl) (by decide) ?_
   refine sr_end (l' := [(2, .int .i64 3)]) (.cons rfl (.nil _)) ?_
   cases hS
   exact ke_ret1 Tryz.func43 rfl rfl ⟨_, rfl, rfl, hb⟩
  ·replace hS := ite_false' hS hc4
   refine ke_skip ?_
   refine ke_inBlock ?_
   refine ke_seq ?_
   refine ke_region ?_
   refine sr_ev (v := v1) (ev_move rfl) (by decide) ?_
   obtain ⟨y5, hy6, hS⟩ := bind_some' hS
   refine sr_call (vs := [v1, .func (.func 72) #[] #[]]) rfl Tryz.call71 rfl (client_first_string__redirects_1_ok _ (hg.below hb) h2 hy6) (by decide) ?_
   rintro _ w7 ⟨rfl, hbw8⟩
   replace hb := hb.trans (hbw8.mono hb.size)
   replace hA := lt_mono hA hbw8.size
   replace hH := hH.below hbw8
   refine sr_ev (v := .int .i64 y5) (ev_assign rfl) (by decide) ?_
   refine sr_end (l' := [(2, .int .i64 y5)]) (.cons rfl (.nil _)) ?_
   cases hS
   exact ke_ret1 Tryz.func43 rfl rfl ⟨_, rfl, rfl, hb⟩
theorem scope_valid_ok (w0 : World) (hg : Gs w0) {s_0 : Str} {r : Bool} (hS : scope_valid s_0 = some r) :
  Calls Tryz.prog 52 #[str s_0] w0 (Ret (fun v w' => v = .bool r ∧ Below w0.heap.size w0 w')) := by
 unfold scope_valid at hS
 have hb := Below.refl w0.heap.size w0
 refine calls_of_ke Tryz.func52 rfl (n := 23) rfl rfl (l := [(0, str s_0)]) rfl ?_
 refine ke_seq ?_
 refine ke_region ?_
 refine sr_ev (v := .bool false) (ev_assign rfl) (by decide) ?_
 refine sr_end (l' := [(0, str s_0)]) (.cons rfl (.nil _)) ?_
 refine ke_seq ?_
 refine ke_region ?_
 refine sr_ev (v := str s_0) (ev_move rfl) (by decide) ?_
 obtain ⟨y1, hy2, hS⟩ := bind_some' hS
 refine sr_call (vs := [str s_0]) rfl Tryz.call41 rfl (fold_Word_ok _ (hg.below hb) hy2) (by decide) ?_
 rintro _ w3 ⟨rfl, hbw4⟩
 replace hb := hb.trans (hbw4.mono hb.size)
 refine sr_ev (v := .bool y1) (ev_move rfl) (by decide) ?_
 obtain ⟨z7, hz9, hS⟩ := bind_some' hS
 refine sr_join (m := 4) (C := fun (x : Bool) w1 => z7 = x ∧ Below w3.heap.size w3 w1) (l' := fun x => [(0, str s_0), (9, .bool x)]) ?_ ?_
 ·rintro _ w10 ⟨rfl, hbw11⟩
  replace hb := hb.trans (hbw11.mono hb.size)
  refine sr_ev (v := .bool z7) (ev_move rfl) (by decide) ?_
  obtain ⟨z15, hz17, hS⟩ := bind_some' hS
  refine sr_join (m := 7) (C := fun (x : Bool) w1 => z15 = x ∧ Below w10.heap.size w10 w1) (l' := fun x => [(0, str s_0), (17, .bool x)]) ?_ ?_
  ·rintro _ w18 ⟨rfl, hbw19⟩
   replace hb := hb.trans (hbw19.mono hb.size)
   refine sr_ev (v := .bool z15) (ev_move rfl) (by decide) ?_
   obtain ⟨z23, hz25, hS⟩ := bind_some' hS
   refine sr_join (m := 4) (C := fun (x : Bool) w1 => z23 = x ∧ Below w18.heap.size w18 w1) (l' := fun x => [(22, .bool x)]) ?_ ?_
   ·rintro _ w26 ⟨rfl, hbw27⟩
    replace hb := hb.trans (hbw27.mono hb.size)
    refine sr_ev (v := .bool z23) (ev_assign rfl) (by decide) ?_
    refine sr_end (l' := [(2, .bool z23)]) (.cons rfl (.nil _)) ?_
    cases hS
    exact ke_ret1 Tryz.func52 rfl rfl ⟨_, rfl, rfl, hb⟩
   ·intro K22
    clear hS
    have hj24 := Below.refl w18.heap.size w18
    rcases Bool.eq_false_or_eq_true z15 with hg21 | hg21
    ·have hS := ite_true' hz25 hg21
     refine sr_evg (b := true) (e := 18) rfl rfl hg21 (v := str s_0) (ev_move rfl) (by decide) ?_
     obtain ⟨y28, hy29, hS⟩ := bind_some' hS
     refine sr_callg (b := true) (e := 18) rfl rfl hg21 (vs := [str s_0, str ([46, 46])]) rfl Tryz.call75 rfl (lib_Contains_ok _ (hg.below hb) hy29) (by decide) ?_
     rintro _ w30 ⟨rfl, hbw31⟩
     replace hb := hb.trans (hbw31.mono hb.size)
     replace hj24 := hj24.trans (hbw31.mono hj24.size)
     refine sr_evg (b := true) (e := 18) rfl rfl hg21 (v := .bool (!y28)) (ev_not rfl) (by decide) ?_
     refine sr_ev (v := .bool (!y28)) (ev_pick_t rfl hg21 rfl) (by decide) ?_
     exact sr_weaken (l' := [(22, .bool (!y28))]) (.cons rfl (.nil _)) (K22 (!y28) _ ⟨(Option.some.inj hS).symm, hj24⟩)
    ·have hS := ite_false' hz25 hg21
     refine sr_pass (e := 18) rfl rfl (by rw [hg21]; rfl) (by decide) ?_
     refine sr_pass (e := 18) rfl rfl (by rw [hg21]; rfl) (by decide) ?_
     refine sr_pass (e := 18) rfl rfl (by rw [hg21]; rfl) (by decide) ?_
     refine sr_ev (v := .bool false) (ev_pick_f rfl hg21 rfl) (by decide) ?_
     exact sr_weaken (l' := [(22, .bool false)]) (.cons rfl (.nil _)) (K22 false _ ⟨(Option.some.inj hS).symm, hj24⟩)
  ·intro K14
   clear hS
   have hj16 := Below.refl w10.heap.size w10
   rcases Bool.eq_false_or_eq_true z7 with hg13 | hg13
   ·have hS := ite_true' hz17 hg13
    refine sr_evg (b := true) (e := 10) rfl rfl hg13 (v := str s_0) (ev_move rfl) (by decide) ?_
    refine sr_evg (b := true) (e := 10) rfl rfl hg13 (v := str s_0) (ev_move rfl) (by decide) ?_
    refine sr_evg (b := true) (e := 10) rfl rfl hg13 (v := .int .i64 (s_0.length : Int)) (ev_slen Tryz.underlying9 rfl) (by decide) ?_
    refine sr_evg (b := true) (e := 10) rfl rfl hg13 (v := .int .i64 (IntKind.i64.wrap ((s_0.length : Int) - 1))) (ev_sub rfl rfl) (by decide) ?_
    obtain ⟨hk20, hS⟩ := chk_some hS
    refine sr_evg (b := true) (e := 10) rfl rfl hg13 (v := .int .u8 (byteAt s_0 (IntKind.i64.wrap ((s_0.length : Int) - 1)))) (ev_sindex Tryz.underlying9 rfl rfl hk20) (by decide) ?_
    refine sr_evg (b := true) (e := 10) rfl rfl hg13 (v := .bool ((byteAt s_0 (IntKind.i64.wrap ((s_0.length : Int) - 1))) != 46)) (ev_ne rfl rfl) (by decide) ?_
    refine sr_ev (v := .bool ((byteAt s_0 (IntKind.i64.wrap ((s_0.length : Int) - 1))) != 46)) (ev_pick_t rfl hg13 rfl) (by decide) ?_
    exact sr_weaken (l' := [(0, str s_0), (17, .bool ((byteAt s_0 (IntKind.i64.wrap ((s_0.length : Int) - 1))) != 46))]) (.cons rfl (.cons rfl (.nil _))) (K14 ((byteAt s_0 (IntKind.i64.wrap ((s_0.length : Int) - 1))) != 46) _ ⟨(Option.some.inj hS).symm, hj16⟩)
   ·have hS := ite_false' hz17 hg13
    refine sr_pass (e := 10) rfl rfl (by rw [hg13]; rfl) (by decide) ?_
    refine sr_pass (e := 10) rfl rfl (by rw [hg13]; rfl) (by decide) ?_
    refine sr_pass (e := 10) rfl rfl (by rw [hg13]; rfl) (by decide) ?_
    refine sr_pass (e := 10) rfl rfl (by rw [hg13]; rfl) (by decide) ?_
    refine sr_pass (e := 10) rfl rfl (by rw [hg13]; rfl) (by decide) ?_
    refine sr_pass (e := 10) rfl rfl (by rw [hg13]; rfl) (by decide) ?_
    refine sr_ev (v := .bool false) (ev_pick_f rfl hg13 rfl) (by decide) ?_
    exact sr_weaken (l' := [(0, str s_0), (17, .bool false)]) (.cons rfl (.cons rfl (.nil _))) (K14 false _ ⟨(Option.some.inj hS).symm, hj16⟩)
 ·intro K6
  clear hS
  have hj8 := Below.refl w3.heap.size w3
  rcases Bool.eq_false_or_eq_true y1 with hg5 | hg5
  ·have hS := ite_true' hz9 hg5
   refine sr_evg (b := true) (e := 5) rfl rfl hg5 (v := str s_0) (ev_move rfl) (by decide) ?_
   obtain ⟨hk12, hS⟩ := chk_some hS
   refine sr_evg (b := true) (e := 5) rfl rfl hg5 (v := .int .u8 (byteAt s_0 0)) (ev_sindex Tryz.underlying9 rfl rfl hk12) (by decide) ?_
   refine sr_evg (b := true) (e := 5) rfl rfl hg5 (v := .bool ((byteAt s_0 0) != 46)) (ev_ne rfl rfl) (by decide) ?_
   refine sr_ev (v := .bool ((byteAt s_0 0) != 46)) (ev_pick_t rfl hg5 rfl) (by decide) ?_
   exact sr_weaken (l' := [(0, str s_0), (9, .bool ((byteAt s_0 0) != 46))]) (.cons rfl (.cons rfl (.nil _))) (K6 ((byteAt s_0 0) != 46) _ ⟨(Option.some.inj hS).symm, hj8⟩)
  ·have hS := ite_false' hz9 hg5
   refine sr_pass (e := 5) rfl rfl (by rw [hg5]; rfl) (by decide) ?_
   refine sr_pass (e := 5) rfl rfl (by rw [hg5]; rfl) (by decide) ?_
   refine sr_pass (e := 5) rfl rfl (by rw [hg5]; rfl) (by decide) ?_
   refine sr_ev (v := .bool false) (ev_pick_f rfl hg5 rfl) (by decide) ?_
   exact sr_weaken (l' := [(0, str s_0), (9, .bool false)]) (.cons rfl (.cons rfl (.nil _))) (K6 false _ ⟨(Option.some.inj hS).symm, hj8⟩)
theorem scope_Check_L1_ok {w0 : World} (hg : Gs w0) {A0 : Nat → Prop} (hA0 : ∀ b, A0 b → b < w0.heap.size) : ∀ (n : Nat), ∀ {r : Int} {l_0 : List Str} {t_8 : List Str} {t_9 : Int} {t_10 : Int} {vl_0 : Value} {vt_8 : Value}, scope_Check_L1 n l_0 t_8 t_9 t_10 = some r → ∀ {w : World} {A : Nat → Prop}, (Below w0.heap.size w0 w) → (∀ b, A b → b < w.heap.size) → (∀ b, A0 b → A b) → (Hp A w0.heap.size w []) → (SlR strC A w vl_0 l_0) → (SlR strC A w vt_8 t_8) → KE Tryz.prog 18 (Ret (fun v w' => v = .int .i64 r ∧ Below w0.heap.size w0 w')) 24 [.code (sub (bodyOf Tryz.f18) [2, 2, 1, 2, 2, 1]), .inLoop (sub (bodyOf Tryz.f18) [2, 2, 1, 2, 2, 1]), .inBlock 0, .code (sub (bodyOf Tryz.f18) [2, 2, 2])] [(0, vl_0), (8, vt_8), (9, .int .i64 t_9), (10, .int .i64 t_10)] w := by
 intro n
 induction n with
 | zero => intro r l_0 t_8 t_9 t_10 vl_0 vt_8 hS; cases hS
 | succ n ih =>
  have hr0 : ∀ {r : Int} {l_0 : List Str} {t_8 : List Str} {t_9 : Int} {t_10 : Int} {vl_0 : Value} {vt_8 : Value}, scope_Check_L1 n l_0 t_8 t_9 t_10 = some r → ∀ {w : World} {A : Nat → Prop}, (Below w0.heap.size w0 w) → (∀ b, A b → b < w.heap.size) → (∀ b, A0 b → A b) → (Hp A w0.heap.size w []) → (SlR strC A w vl_0 l_0) → (SlR strC A w vt_8 t_8) → KE Tryz.prog 18 (Ret (fun v w' => v = .int .i64 r ∧ Below w0.heap.size w0 w')) 24 [.inLoop (sub (bodyOf Tryz.f18) [2, 2, 1, 2, 2, 1]), .inBlock 0, .code (sub (bodyOf Tryz.f18) [2, 2, 2])] [(0, vl_0), (8, vt_8), (9, .int .i64 t_9), (10, .int .i64 t_10)] w := fun {r} {l_0} {t_8} {t_9} {t_10} {vl_0} {vt_8} hS {w} {A} hb hA hi hH hl_0 ht_8 => ke_inLoop (ih hS hb hA hi hH hl_0 ht_8)
  clear ih
  intro r l_0 t_8 t_9 t_10 vl_0 vt_8 hS w A hb hA hi hH hl_0 ht_8
  unfold scope_Check_L1 at hS
  refine ke_seq ?_
  refine ke_region ?_
  refine sr_ev (v := .bool (decide (t_10 < t_9))) (ev_lt rfl rfl) (by decide) ?_
  refine sr_end (l' := [(0, vl_0), (8, vt_8), (9, .int .i64 t_9), (10, .int .i64 t_10), (11, .bool (decide (t_10 < t_9)))]) (.cons rfl (.cons rfl (.cons rfl (.cons rfl (.cons rfl (.nil _)))))) ?_
  refine ke_seq ?_
  refine ke_cond (t := decide (t_10 < t_9)) rfl (fun hc4 => ?_) (fun hc4 => ?_)
  ·replace hS := ite_true' hS hc4
   refine ke_skip ?_
   refine ke_seq ?_
   refine ke_block ?_
   refine ke_seq ?_
   refine ke_region ?_
   refine sr_ev (v := .int .i64 t_10) (ev_move rfl) (by decide) ?_
   obtain ⟨y5, hy6, hS⟩ := bind_some' hS
   refine sr_index ht_8 Tryz.underlying25 Tryz.info9 rfl rfl rfl hy6 (by decide) ?_
   intro b7 o8 cs10 he9
   obtain rfl : cs10 = [str y5] := he9.rd
   refine sr_ev (v := str y5) (ev_load Tryz.isAgg9 rfl (he9.cell 0 _ rfl)) (by decide) ?_
   refine sr_ev (v := .int .i64 t_10) (ev_assign rfl) (by decide) ?_
   refine sr_ev (v := str y5) (ev_assign rfl) (by decide) ?_
   refine sr_end (l' := [(0, vl_0), (3, .int .i64 t_10), (4, str y5), (8, vt_8), (9, .int .i64 t_9), (10, .int .i64 t_10)]) (.cons rfl (.cons rfl (.cons rfl (.cons rfl (.cons rfl (.cons rfl (.nil _))))))) ?_
   refine ke_seq ?_
   refine ke_seq ?_
   refine ke_region ?_
   refine sr_ev (v := str y5) (ev_move rfl) (by decide) ?_
   obtain ⟨y11, hy12, hS⟩ := bind_some' hS
   refine sr_call (vs := [str y5]) rfl Tryz.call52 rfl (scope_valid_ok _ (hg.below hb) hy12) (by decide) ?_
   rintro _ w13 ⟨rfl, hbw14⟩
   replace hb := hb.trans (hbw14.mono hb.size)
   replace hA := lt_mono hA hbw14.size
   replace hH := hH.below hbw14
   replace hl_0 := hl_0.below hbw14
   replace ht_8 := ht_8.below hbw14
   refine sr_ev (v := .bool (!y11)) (ev_not rfl) (by decide) ?_
   refine sr_end (l' := [(0, vl_0), (3, .int .i64 t_10), (4, str y5), (8, vt_8), (9, .int .i64 t_9), (10, .int .i64 t_10), (17, .bool (!y11))]) (.cons rfl (.cons rfl (.cons rfl (.cons rfl (.cons rfl (.cons rfl (.cons rfl (.nil _)))))))) ?_
   refine ke_cond (t := !y11) rfl (fun hc15 => ?_) (fun hc15 => ?_)
   ·replace hS := ite_true' hS hc15
    refine ke_seq ?_
    refine ke_region ?_
    refine sr_ev (v := .int .i64 5) (ev_assign rfl) (by decide) ?_
    refine sr_end (l' := [(2, .int .i64 5)]) (.cons rfl (.nil _)) ?_
    cases hS
    exact ke_ret1 Tryz.func18 rfl rfl ⟨_, rfl, rfl, hb⟩
   ·replace hS := ite_false' hS hc15
    refine ke_skip ?_
    refine ke_seq ?_
    refine ke_region ?_
    refine sr_ev (v := vl_0) (ev_move rfl) (by decide) ?_
    refine sr_ev (v := .int .i64 t_10) (ev_move rfl) (by decide) ?_
    obtain ⟨hk16, hS⟩ := chk_some hS
    refine sr_slice_h hl_0 Tryz.underlying25 Tryz.info9 rfl rfl rfl  hk16 (by decide) ?_
    intro v17 h18
    refine sr_ev (v := str y5) (ev_move rfl) (by decide) ?_
    obtain ⟨y19, hy20, hS⟩ := bind_some' hS
    refine sr_call (vs := [v17, str y5]) rfl Tryz.call53 rfl (slices_Contains_string_string_ok _ (hg.below hb) h18 hy20) (by decide) ?_
    rintro _ w21 ⟨rfl, hbw22⟩
    replace hb := hb.trans (hbw22.mono hb.size)
    replace hA := lt_mono hA hbw22.size
    replace hH := hH.below hbw22
    replace hl_0 := hl_0.below hbw22
    replace ht_8 := ht_8.below hbw22
    refine sr_end (l' := [(0, vl_0), (8, vt_8), (9, .int .i64 t_9), (10, .int .i64 t_10), (22, .bool y19)]) (.cons rfl (.cons rfl (.cons rfl (.cons rfl (.cons rfl (.nil _)))))) ?_
    refine ke_cond (t := y19) rfl (fun hc23 => ?_) (fun hc23 => ?_)
    ·replace hS := ite_true' hS hc23
     refine ke_seq ?_
     refine ke_region ?_
     refine sr_ev (v := .int .i64 7) (ev_assign rfl) (by decide) ?_
     refine sr_end (l' := [(2, .int .i64 7)]) (.cons rfl (.nil _)) ?_
     cases hS
     exact ke_ret1 Tryz.func18 rfl rfl ⟨_, rfl, rfl, hb⟩
    ·replace hS := ite_false' hS hc23
     refine ke_skip ?_
     refine ke_inBlock ?_
     refine ke_region ?_
     refine sr_ev (v := .int .i64 (IntKind.i64.wrap (t_10 + 1))) (ev_add rfl rfl) (by decide) ?_
     refine sr_ev (v := .int .i64 (IntKind.i64.wrap (t_10 + 1))) (ev_move rfl) (by decide) ?_
     refine sr_end (l' := [(0, vl_0), (8, vt_8), (9, .int .i64 t_9), (10, .int .i64 (IntKind.i64.wrap (t_10 + 1)))]) (.cons rfl (.cons rfl (.cons rfl (.cons rfl (.nil _))))) ?_
     have hK := hr0 hS hb hA hi hH hl_0 ht_8
     exact ke_weaken (l' := [(0, vl_0), (8, vt_8), (9, .int .i64 t_9), (10, .int .i64 (IntKind.i64.wrap (t_10 + 1)))]) (.cons rfl (.cons rfl (.cons rfl (.cons rfl (.nil _))))) hK
  ·replace hS := ite_false' hS hc4
   refine ke_exit (k' := _) rfl ?_
   refine ke_seq ?_
   refine ke_region ?_
   refine sr_ev (v := .int .i64 0) (ev_assign rfl) (by decide) ?_
   refine sr_end (l' := [(2, .int .i64 0)]) (.cons rfl (.nil _)) ?_
   cases hS
   exact ke_ret1 Tryz.func18 rfl rfl ⟨_, rfl, rfl, hb⟩
theorem scope_Check_ok {A0 : Nat → Prop} (w0 : World) (hg : Gs w0) {l_0 : List Str} {v1 : Value} {r : Int} (h2 : SlR strC A0 w0 v1 l_0) (hS : scope_Check l_0 = some r) :
  Calls Tryz.prog 18 #[v1] w0 (Ret (fun v w' => v = .int .i64 r ∧ Below w0.heap.size w0 w')) := by
 unfold scope_Check at hS
 have hb := Below.refl w0.heap.size w0
 replace h2 := h2.weak (A' := fun _ => False) (fun _ h => h.elim)
 obtain ⟨A0, hA0, hAe⟩ : ∃ A0 : Nat → Prop, (∀ b, A0 b → b < w0.heap.size) ∧ A0 = fun _ => False := ⟨_, fun _ h => h.elim, rfl⟩
 rw [← hAe] at h2
 clear hAe
 have hA := hA0
 have hi : ∀ b, A0 b → A0 b := fun _ h => h
 have hH := Hp.nil A0 w0.heap.size w0
 refine calls_of_ke Tryz.func18 rfl (n := 24) rfl rfl (l := [(0, v1)]) rfl ?_
 refine ke_seq ?_
 refine ke_region ?_
 refine sr_ev (v := .int .i64 0) (ev_assign rfl) (by decide) ?_
 refine sr_end (l' := [(0, v1)]) (.cons rfl (.nil _)) ?_
 refine ke_seq ?_
 refine ke_seq ?_
 refine ke_region ?_
 refine sr_ev (v := v1) (ev_move rfl) (by decide) ?_
 refine sr_ev (v := .int .i64 (l_0.length : Int)) (ev_sllen Tryz.underlying25 rfl h2) (by decide) ?_
 refine sr_ev (v := .bool (decide ((l_0.length : Int) > 16))) (ev_gt rfl rfl) (by decide) ?_
 refine sr_end (l' := [(0, v1), (7, .bool (decide ((l_0.length : Int) > 16)))]) (.cons rfl (.cons rfl (.nil _))) ?_
 refine ke_cond (t := decide ((l_0.length : Int) > 16)) rfl (fun hc3 => ?_) (fun hc3 => ?_)
 ·replace hS := ite_true' hS hc3
  refine ke_seq ?_
  refine ke_region ?_
  refine sr_ev (v := .int .i64 3) (ev_assign rfl) (by decide) ?_
  refine sr_end (l' := [(2, .int .i64 3)]) (.cons rfl (.nil _)) ?_
  cases hS
  exact ke_ret1 Tryz.func18 rfl rfl ⟨_, rfl, rfl, hb⟩
 ·replace hS := ite_false' hS hc3
  refine ke_skip ?_
  refine ke_seq ?_
  refine ke_seq ?_
  refine ke_region ?_
  refine sr_ev (v := v1) (ev_move rfl) (by decide) ?_
  refine sr_ev (v := .int .i64 (l_0.length : Int)) (ev_sllen Tryz.underlying25 rfl h2) (by decide) ?_
  refine sr_ev (v := .int .i64 0) (ev_move rfl) (by decide) ?_
  refine sr_end (l' := [(0, v1), (8, v1), (9, .int .i64 (l_0.length : Int)), (10, .int .i64 0)]) (.cons rfl (.cons rfl (.cons rfl (.cons rfl (.nil _))))) ?_
  refine ke_block ?_
  have hK := scope_Check_L1_ok hg hA0 _ hS hb hA hi hH h2 h2
  exact ke_weaken (l' := [(0, v1), (8, v1), (9, .int .i64 (l_0.length : Int)), (10, .int .i64 0)]) (.cons rfl (.cons rfl (.cons rfl (.cons rfl (.nil _))))) (ke_loop hK)
theorem client_Check_ok (w0 : World) (hg : Gs w0) {ρA : Tags} (hbd : ∀ b, ρA b ≠ 0 → b < w0.heap.size) (hz : Gz ρA) {c_0 : api_Client} {v1 : Value} {v3 : Value} {r : Int} (h2 : SlR strC (Wb ρA) w0 v1 c_0.Redirects) (h4 : SlR strC (Wb ρA) w0 v3 c_0.Scopes) (hS : client_Check c_0 = some r) :
  Calls Tryz.prog 12 #[.agg #[str c_0.ID, .int .i64 c_0.Kind, str c_0.Tenant, str c_0.Secret.Salt, .int .i64 c_0.Secret.Rounds, str c_0.Secret.Hash, v1, v3, str c_0.Logout]] w0 (Ret (fun v w' => v = .int .i64 r ∧ Below w0.heap.size w0 w')) := by
 unfold client_Check at hS
 have hb := flat1_fr (ρ := ρA) (w := w0) hbd
 have hz := hz.flat1
 replace h2 := SlR.mv h2 flat1_rd
 replace h4 := SlR.mv h4 flat1_rd
 refine calls_of_ke Tryz.func12 rfl (n := 50) rfl rfl (l := [(0, .agg #[str c_0.ID, .int .i64 c_0.Kind, str c_0.Tenant, str c_0.Secret.Salt, .int .i64 c_0.Secret.Rounds, str c_0.Secret.Hash, v1, v3, str c_0.Logout])]) rfl ?_
 refine ke_seq ?_
 refine ke_region ?_
 refine sr_boxT 3 (by decide) hb.bd rfl (by decide) ?_
 intro g5 ρ6 w7 hB9 htr8
 replace h2 := h2.mv htr8.rd
 replace h4 := h4.mv htr8.rd
 replace hb := hb.trans htr8
 replace hB9 : Blk ρ6 3 w7 g5 (.cells #[str c_0.ID, .int .i64 c_0.Kind, str c_0.Tenant, str c_0.Secret.Salt, .int .i64 c_0.Secret.Rounds, str c_0.Secret.Hash, v1, v3, str c_0.Logout] 27 (0, 0)) := hB9
 refine sr_ev (v := .int .i64 0) (ev_assign rfl) (by decide) ?_
 refine sr_end (l' := [(1, .pointer (some ⟨g5, 0, none⟩))]) (.cons rfl (.nil _)) ?_
 refine ke_seq ?_
 refine ke_block ?_
 refine ke_seq ?_
 refine ke_region ?_
 refine sr_ev (v := .pointer (some ⟨g5, 0, none⟩)) (ev_fieldAddr (i := 0) Tryz.underlying27 rfl Tryz.info9 rfl rfl) (by decide) ?_
 refine sr_ev (v := str c_0.ID) (ev_load Tryz.isAgg9 rfl (hB9.cell rfl)) (by decide) ?_
 obtain ⟨y10, hy11, hS⟩ := bind_some' hS
 refine sr_call (vs := [str c_0.ID]) rfl Tryz.call41 rfl (fold_Word_ok _ (hg.fr hz hb) hy11) (by decide) ?_
 rintro _ w12 ⟨rfl, hbw13⟩
 have htr14 := Tr.of_below hbw13 hb.bd
 replace hB9 := hB9.mv (htr14.mv (i := 3) rfl)
 replace h2 := h2.mv htr14.rd
 replace h4 := h4.mv htr14.rd
 replace hb := hb.trans htr14
 refine sr_ev (v := .bool (!y10)) (ev_not rfl) (by decide) ?_
 refine sr_ev (v := .bool (!y10)) (ev_move rfl) (by decide) ?_
 obtain ⟨z17, hz19, hS⟩ := bind_some' hS
 refine sr_join (m := 5) (C := fun (z : Bool) w1 => z17 = z ∧ ∃ ρ1, Tr ρ6 w12 (fun _ => false) ρ1 w1) (l' := fun z => [(1, .pointer (some ⟨g5, 0, none⟩)), (15, .bool z)]) ?_ ?_
 ·rintro _ w20 ⟨rfl, ρ21, hj18⟩
  replace hB9 := hB9.mv (hj18.mv (i := 3) rfl)
  replace h2 := h2.mv hj18.rd
  replace h4 := h4.mv hj18.rd
  replace hb := hb.trans hj18
  refine sr_ev (v := .bool z17) (ev_assign rfl) (by decide) ?_
  refine sr_end (l' := [(1, .pointer (some ⟨g5, 0, none⟩)), (5, .bool z17)]) (.cons rfl (.cons rfl (.nil _))) ?_
  refine ke_cond (t := z17) rfl (fun hc28 => ?_) (fun hc28 => ?_)
  ·replace hS := ite_true' hS hc28
   refine ke_seq ?_
   refine ke_region ?_
   refine sr_ev (v := .int .i64 5) (ev_assign rfl) (by decide) ?_
   refine sr_end (l' := [(2, .int .i64 5)]) (.cons rfl (.nil _)) ?_
   cases hS
   exact ke_ret1 Tryz.func12 rfl rfl ⟨_, rfl, rfl, (hb.below (flat1_le _))⟩
  ·replace hS := ite_false' hS hc28
   refine ke_seq ?_
   refine ke_region ?_
   refine sr_ev (v := .pointer (some ⟨g5, 1, none⟩)) (ev_fieldAddr (i := 1) Tryz.underlying27 rfl Tryz.info22 rfl rfl) (by decide) ?_
   refine sr_ev (v := .int .i64 c_0.Kind) (ev_load Tryz.isAgg22 rfl (hB9.cell rfl)) (by decide) ?_
   refine sr_ev (v := .bool (c_0.Kind != 1)) (ev_ne rfl rfl) (by decide) ?_
   refine sr_ev (v := .bool (c_0.Kind != 1)) (ev_move rfl) (by decide) ?_
   refine sr_join (m := 4) (C := fun (x : Bool) w1 => x = ((c_0.Kind != 1) && (c_0.Kind != 2)) ∧ w20 = w1) (l' := fun x => [(1, .pointer (some ⟨g5, 0, none⟩)), (24, .bool x)]) ?_ ?_
   ·rintro _ _ ⟨rfl, rfl⟩
    refine sr_ev (v := .bool ((c_0.Kind != 1) && (c_0.Kind != 2))) (ev_assign rfl) (by decide) ?_
    refine sr_end (l' := [(1, .pointer (some ⟨g5, 0, none⟩)), (16, .bool ((c_0.Kind != 1) && (c_0.Kind != 2)))]) (.cons rfl (.cons rfl (.nil _))) ?_
    refine ke_cond (t := (c_0.Kind != 1) && (c_0.Kind != 2)) rfl (fun hc37 => ?_) (fun hc37 => ?_)
    ·replace hS := ite_true' hS hc37
     refine ke_seq ?_
     refine ke_region ?_
     refine sr_ev (v := .int .i64 2) (ev_assign rfl) (by decide) ?_
     refine sr_end (l' := [(2, .int .i64 2)]) (.cons rfl (.nil _)) ?_
     cases hS
     exact ke_ret1 Tryz.func12 rfl rfl ⟨_, rfl, rfl, (hb.below (flat1_le _))⟩
    ·replace hS := ite_false' hS hc37
     refine ke_seq ?_
     refine ke_region ?_
     refine sr_ev (v := .agg #[str c_0.ID, .int .i64 c_0.Kind, str c_0.Tenant, str c_0.Secret.Salt, .int .i64 c_0.Secret.Rounds, str c_0.Secret.Hash, v1, v3, str c_0.Logout]) (ev_loads (cs := [str c_0.ID, .int .i64 c_0.Kind, str c_0.Tenant, str c_0.Secret.Salt, .int .i64 c_0.Secret.Rounds, str c_0.Secret.Hash, v1, v3, str c_0.Logout]) Tryz.isAgg27 Tryz.sizeOf27 rfl (hB9.cells (vs := [str c_0.ID, .int .i64 c_0.Kind, str c_0.Tenant, str c_0.Secret.Salt, .int .i64 c_0.Secret.Rounds, str c_0.Secret.Hash, v1, v3, str c_0.Logout]) rfl)) (by decide) ?_
     obtain ⟨y38, hy39, hS⟩ := bind_some' hS
     refine sr_call (vs := [.agg #[str c_0.ID, .int .i64 c_0.Kind, str c_0.Tenant, str c_0.Secret.Salt, .int .i64 c_0.Secret.Rounds, str c_0.Secret.Hash, v1, v3, str c_0.Logout]]) rfl Tryz.call42 rfl (client_secretFits_ok _ (hg.fr hz hb) (ρA := ρ21) hb.bd (hz.fr hg hb) h2 h4 hy39) (by decide) ?_
     rintro _ w40 ⟨rfl, hbw41⟩
     have htr42 := Tr.of_below hbw41 hb.bd
     replace hB9 := hB9.mv (htr42.mv (i := 3) rfl)
     replace h2 := h2.mv htr42.rd
     replace h4 := h4.mv htr42.rd
     replace hb := hb.trans htr42
     refine sr_ev (v := .bool (!y38)) (ev_not rfl) (by decide) ?_
     refine sr_ev (v := .bool (!y38)) (ev_assign rfl) (by decide) ?_
     refine sr_end (l' := [(1, .pointer (some ⟨g5, 0, none⟩)), (25, .bool (!y38))]) (.cons rfl (.cons rfl (.nil _))) ?_
     refine ke_cond (t := !y38) rfl (fun hc43 => ?_) (fun hc43 => ?_)
     ·replace hS := ite_true' hS hc43
      refine ke_seq ?_
      refine ke_region ?_
      refine sr_ev (v := .int .i64 4) (ev_assign rfl) (by decide) ?_
      refine sr_end (l' := [(2, .int .i64 4)]) (.cons rfl (.nil _)) ?_
      cases hS
      exact ke_ret1 Tryz.func12 rfl rfl ⟨_, rfl, rfl, (hb.below (flat1_le _))⟩
     ·replace hS := ite_false' hS hc43
      refine ke_skip ?_
      refine ke_inBlock ?_
      refine ke_seq ?_
      refine ke_seq ?_
      refine ke_region ?_
      refine sr_ev (v := .pointer (some ⟨g5, 6, none⟩)) (ev_fieldAddr (i := 4) Tryz.underlying27 rfl Tryz.info25 rfl rfl) (by decide) ?_
      refine sr_ev (v := v1) (ev_load Tryz.isAgg25 rfl (hB9.cell rfl)) (by decide) ?_
      obtain ⟨y44, hy45, hS⟩ := bind_some' hS
      refine sr_call (vs := [v1]) rfl Tryz.call43 rfl (client_redirects_ok _ (hg.fr hz hb) h2.asSl hy45) (by decide) ?_
      rintro _ w46 ⟨rfl, hbw47⟩
      have htr48 := Tr.of_below hbw47 hb.bd
      replace hB9 := hB9.mv (htr48.mv (i := 3) rfl)
      replace h2 := h2.mv htr48.rd
      replace h4 := h4.mv htr48.rd
      replace hb := hb.trans htr48
      refine sr_ev (v := .int .i64 y44) (ev_assign rfl) (by decide) ?_
      refine sr_end (l' := [(1, .pointer (some ⟨g5, 0, none⟩)), (3, .int .i64 y44)]) (.cons rfl (.cons rfl (.nil _))) ?_
      refine ke_seq ?_
      refine ke_region ?_
      refine sr_ev (v := .int .i64 y44) (ev_move rfl) (by decide) ?_
      refine sr_ev (v := .bool (y44 != 0)) (ev_ne rfl rfl) (by decide) ?_
      refine sr_end (l' := [(1, .pointer (some ⟨g5, 0, none⟩)), (3, .int .i64 y44), (33, .bool (y44 != 0))]) (.cons rfl (.cons rfl (.cons rfl (.nil _)))) ?_
      refine ke_cond (t := y44 != 0) rfl (fun hc49 => ?_) (fun hc49 => ?_)
      ·replace hS := ite_true' hS hc49
       refine ke_seq ?_
       refine ke_region ?_
       refine sr_ev (v := .int .i64 y44) (ev_move rfl) (by decide) ?_
       refine sr_ev (v := .int .i64 y44) (ev_assign rfl) (by decide) ?_
       refine sr_end (l' := [(2, .int .i64 y44)]) (.cons rfl (.nil _)) ?_
       cases hS
       exact ke_ret1 Tryz.func12 rfl rfl ⟨_, rfl, rfl, (hb.below (flat1_le _))⟩
      ·replace hS := ite_false' hS hc49
       refine ke_skip ?_
       refine ke_seq ?_
       refine ke_seq ?_
       refine ke_region ?_
       refine sr_ev (v := .pointer (some ⟨g5, 7, none⟩)) (ev_fieldAddr (i := 5) Tryz.underlying27 rfl Tryz.info25 rfl rfl) (by decide) ?_
       refine sr_ev (v := v3) (ev_load Tryz.isAgg25 rfl (hB9.cell rfl)) (by decide) ?_
       obtain ⟨y50, hy51, hS⟩ := bind_some' hS
       refine sr_call (vs := [v3]) rfl Tryz.call18 rfl (scope_Check_ok _ (hg.fr hz hb) h4.asSl hy51) (by decide) ?_
       rintro _ w52 ⟨rfl, hbw53⟩
       have htr54 := Tr.of_below hbw53 hb.bd
       replace hB9 := hB9.mv (htr54.mv (i := 3) rfl)
       replace h2 := h2.mv htr54.rd
       replace h4 := h4.mv htr54.rd
       replace hb := hb.trans htr54
       refine sr_ev (v := .int .i64 y50) (ev_assign rfl) (by decide) ?_
       refine sr_end (l' := [(1, .pointer (some ⟨g5, 0, none⟩)), (4, .int .i64 y50)]) (.cons rfl (.cons rfl (.nil _))) ?_
       refine ke_seq ?_
       refine ke_region ?_
       refine sr_ev (v := .int .i64 y50) (ev_move rfl) (by decide) ?_
       refine sr_ev (v := .bool (y50 != 0)) (ev_ne rfl rfl) (by decide) ?_
       refine sr_end (l' := [(1, .pointer (some ⟨g5, 0, none⟩)), (4, .int .i64 y50), (39, .bool (y50 != 0))]) (.cons rfl (.cons rfl (.cons rfl (.nil _)))) ?_
       refine ke_cond (t := y50 != 0) rfl (fun hc55 => ?_) (fun hc55 => ?_)
       ·replace hS := ite_true' hS hc55
        refine ke_seq ?_
        refine ke_region ?_
        refine sr_ev (v := .int .i64 y50) (ev_move rfl) (by decide) ?_
        refine sr_ev (v := .int .i64 y50) (ev_assign rfl) (by decide) ?_
        refine sr_end (l' := [(2, .int .i64 y50)]) (.cons rfl (.nil _)) ?_
        cases hS
        exact ke_ret1 Tryz.func12 rfl rfl ⟨_, rfl, rfl, (hb.below (flat1_le _))⟩
       ·replace hS := ite_false' hS hc55
        refine ke_skip ?_
        refine ke_seq ?_
        refine ke_seq ?_
        refine ke_region ?_
        refine sr_ev (v := .pointer (some ⟨g5, 8, none⟩)) (ev_fieldAddr (i := 6) Tryz.underlying27 rfl Tryz.info9 rfl rfl) (by decide) ?_
        refine sr_ev (v := str c_0.Logout) (ev_load Tryz.isAgg9 rfl (hB9.cell rfl)) (by decide) ?_
        refine sr_ev (v := .bool (!(c_0.Logout == ([])))) (ev_sne rfl rfl) (by decide) ?_
        refine sr_ev (v := .bool (!(c_0.Logout == ([])))) (ev_move rfl) (by decide) ?_
        obtain ⟨z58, hz60, hS⟩ := bind_some' hS
        refine sr_join (m := 5) (C := fun (z : Bool) w1 => z58 = z ∧ ∃ ρ1, Tr ρ21 w52 (fun _ => false) ρ1 w1) (l' := fun z => [(49, .bool z)]) ?_ ?_
        ·rintro _ w61 ⟨rfl, ρ62, hj59⟩
         replace hb := hb.trans hj59
         refine sr_end (l' := [(49, .bool z58)]) (.cons rfl (.nil _)) ?_
         refine ke_cond (t := z58) rfl (fun hc69 => ?_) (fun hc69 => ?_)
         ·replace hS := ite_true' hS hc69
          refine ke_seq ?_
          refine ke_region ?_
          refine sr_ev (v := .int .i64 4) (ev_assign rfl) (by decide) ?_
          refine sr_end (l' := [(2, .int .i64 4)]) (.cons rfl (.nil _)) ?_
          cases hS
          exact ke_ret1 Tryz.func12 rfl rfl ⟨_, rfl, rfl, (hb.below (flat1_le _))⟩
         ·replace hS := ite_false' hS hc69
          refine ke_skip ?_
          refine ke_seq ?_
          refine ke_region ?_
          refine sr_ev (v := .int .i64 0) (ev_assign rfl) (by decide) ?_
          refine sr_end (l' := [(2, .int .i64 0)]) (.cons rfl (.nil _)) ?_
          cases hS
          exact ke_ret1 Tryz.func12 rfl rfl ⟨_, rfl, rfl, (hb.below (flat1_le _))⟩
        ·intro K57
         clear hS
         have hj59 : Tr ρ21 w52 (fun _ => false) ρ21 w52 := (Tr.refl hb.bd).weak (fun _ _ => rfl) rfl rfl
         rcases Bool.eq_false_or_eq_true (!(c_0.Logout == ([]))) with hg56 | hg56
         ·have hS := ite_true' hz60 hg56
          refine sr_evg (b := true) (e := 44) rfl rfl hg56 (v := .pointer (some ⟨g5, 8, none⟩)) (ev_fieldAddr (i := 6) Tryz.underlying27 rfl Tryz.info9 rfl rfl) (by decide) ?_
          refine sr_evg (b := true) (e := 44) rfl rfl hg56 (v := str c_0.Logout) (ev_load Tryz.isAgg9 rfl (hB9.cell rfl)) (by decide) ?_
          obtain ⟨y64, hy65, hS⟩ := bind_some' hS
          refine sr_callg (b := true) (e := 44) rfl rfl hg56 (vs := [str c_0.Logout]) rfl Tryz.call44 rfl (client_address_ok _ (hg.fr hz hb) hy65) (by decide) ?_
          rintro _ w66 ⟨rfl, hbw67⟩
          have htr68 := Tr.of_below hbw67 hb.bd
          replace hb := hb.trans htr68
          replace hj59 := (hj59.trans htr68).weak (J' := (fun _ => false)) (by intro t h; simp [rng] at h ⊢ <;> omega) rfl rfl
          refine sr_evg (b := true) (e := 44) rfl rfl hg56 (v := .bool (!y64)) (ev_not rfl) (by decide) ?_
          refine sr_ev (v := .bool (!y64)) (ev_pick_t rfl hg56 rfl) (by decide) ?_
          exact sr_weaken (l' := [(49, .bool (!y64))]) (.cons rfl (.nil _)) (K57 (!y64) _ ⟨(Option.some.inj hS).symm, _, hj59⟩)
         ·have hS := ite_false' hz60 hg56
          refine sr_pass (e := 44) rfl rfl (by rw [hg56]; rfl) (by decide) ?_
          refine sr_pass (e := 44) rfl rfl (by rw [hg56]; rfl) (by decide) ?_
          refine sr_pass (e := 44) rfl rfl (by rw [hg56]; rfl) (by decide) ?_
          refine sr_pass (e := 44) rfl rfl (by rw [hg56]; rfl) (by decide) ?_
          refine sr_ev (v := .bool false) (ev_pick_f rfl hg56 rfl) (by decide) ?_
          exact sr_weaken (l' := [(49, .bool false)]) (.cons rfl (.nil _)) (K57 false _ ⟨(Option.some.inj hS).symm, _, hj59⟩)
   ·intro K30
    rcases Bool.eq_false_or_eq_true (c_0.Kind != 1) with hg29 | hg29
    all_goals try have hj32 : Tr ρ21 w20 (fun _ => false) ρ21 w20 := Tr.refl hb.bd
    ·refine sr_evg (b := true) (e := 20) rfl rfl hg29 (v := .pointer (some ⟨g5, 1, none⟩)) (ev_fieldAddr (i := 1) Tryz.underlying27 rfl Tryz.info22 rfl rfl) (by decide) ?_
     refine sr_evg (b := true) (e := 20) rfl rfl hg29 (v := .int .i64 c_0.Kind) (ev_load Tryz.isAgg22 rfl (hB9.cell rfl)) (by decide) ?_
     refine sr_evg (b := true) (e := 20) rfl rfl hg29 (v := .bool (c_0.Kind != 2)) (ev_ne rfl rfl) (by decide) ?_
     refine sr_ev (v := .bool (c_0.Kind != 2)) (ev_pick_t rfl hg29 rfl) (by decide) ?_
     exact sr_weaken (l' := [(1, .pointer (some ⟨g5, 0, none⟩)), (24, .bool (c_0.Kind != 2))]) (.cons rfl (.cons rfl (.nil _))) (K30 (c_0.Kind != 2) _ ⟨by first | (rw [hg29]; rfl) | rfl, rfl⟩)
    ·refine sr_pass (e := 20) rfl rfl (by rw [hg29]; rfl) (by decide) ?_
     refine sr_pass (e := 20) rfl rfl (by rw [hg29]; rfl) (by decide) ?_
     refine sr_pass (e := 20) rfl rfl (by rw [hg29]; rfl) (by decide) ?_
     refine sr_ev (v := .bool false) (ev_pick_f rfl hg29 rfl) (by decide) ?_
     exact sr_weaken (l' := [(1, .pointer (some ⟨g5, 0, none⟩)), (24, .bool false)]) (.cons rfl (.cons rfl (.nil _))) (K30 false _ ⟨by first | (rw [hg29]; rfl) | rfl, rfl⟩)
 ·intro K16
  clear hS
  have hj18 : Tr ρ6 w12 (fun _ => false) ρ6 w12 := (Tr.refl hb.bd).weak (fun _ _ => rfl) rfl rfl
  rcases Bool.eq_false_or_eq_true (!y10) with hg15 | hg15
  ·have hS := ite_true' hz19 hg15
   refine sr_pass (e := 10) rfl rfl (by rw [hg15]; rfl) (by decide) ?_
   refine sr_pass (e := 10) rfl rfl (by rw [hg15]; rfl) (by decide) ?_
   refine sr_pass (e := 10) rfl rfl (by rw [hg15]; rfl) (by decide) ?_
   refine sr_pass (e := 10) rfl rfl (by rw [hg15]; rfl) (by decide) ?_
   refine sr_ev (v := .bool true) (ev_pick_t rfl hg15 rfl) (by decide) ?_
   exact sr_weaken (l' := [(1, .pointer (some ⟨g5, 0, none⟩)), (15, .bool true)]) (.cons rfl (.cons rfl (.nil _))) (K16 true _ ⟨(Option.some.inj hS).symm, _, hj18⟩)
  ·have hS := ite_false' hz19 hg15
   refine sr_evg (b := false) (e := 10) rfl rfl hg15 (v := .pointer (some ⟨g5, 2, none⟩)) (ev_fieldAddr (i := 2) Tryz.underlying27 rfl Tryz.info9 rfl rfl) (by decide) ?_
   refine sr_evg (b := false) (e := 10) rfl rfl hg15 (v := str c_0.Tenant) (ev_load Tryz.isAgg9 rfl (hB9.cell rfl)) (by decide) ?_
   obtain ⟨y23, hy24, hS⟩ := bind_some' hS
   refine sr_callg (b := false) (e := 10) rfl rfl hg15 (vs := [str c_0.Tenant]) rfl Tryz.call41 rfl (fold_Word_ok _ (hg.fr hz hb) hy24) (by decide) ?_
   rintro _ w25 ⟨rfl, hbw26⟩
   have htr27 := Tr.of_below hbw26 hb.bd
   replace hB9 := hB9.mv (htr27.mv (i := 3) rfl)
   replace h2 := h2.mv htr27.rd
   replace h4 := h4.mv htr27.rd
   replace hb := hb.trans htr27
   replace hj18 := (hj18.trans htr27).weak (J' := (fun _ => false)) (by intro t h; simp [rng] at h ⊢ <;> omega) rfl rfl
   refine sr_evg (b := false) (e := 10) rfl rfl hg15 (v := .bool (!y23)) (ev_not rfl) (by decide) ?_
   refine sr_ev (v := .bool (!y23)) (ev_pick_f rfl hg15 rfl) (by decide) ?_
   exact sr_weaken (l' := [(1, .pointer (some ⟨g5, 0, none⟩)), (15, .bool (!y23))]) (.cons rfl (.cons rfl (.nil _))) (K16 (!y23) _ ⟨(Option.some.inj hS).symm, _, hj18⟩)
theorem client_own_B1_ok {w0 : World} (hg : Gs w0) {ρA : Tags} (hbd : ∀ b, ρA b ≠ 0 → b < w0.heap.size) (hz : Gz (flat1 ρA)) {r : api_Client} {c_1_0 : Str} {c_1_1 : Int} {c_1_2 : Str} {c_1_3 : Str} {c_1_4 : Int} {c_1_5 : Str} {c_1_6 : List Str} {c_1_7 : List Str} {c_1_8 : Str} {t_2_0 : Str} {t_2_1 : Int} {t_2_2 : Str} {t_2_3 : Str} {t_2_4 : Int} {t_2_5 : Str} {t_2_6 : List Str} {t_2_7 : List Str} {t_2_8 : Str} {gc_1 : Nat} {vc_1_6 : Value} {vc_1_7 : Value} {gt_2 : Nat} {vt_2_6 : Value} {vt_2_7 : Value} (hS : client_own_B1 c_1_0 c_1_1 c_1_2 c_1_3 c_1_4 c_1_5 c_1_6 c_1_7 c_1_8 t_2_0 t_2_1 t_2_2 t_2_3 t_2_4 t_2_5 t_2_6 t_2_7 t_2_8 = some r) {ρ : Tags} {w : World} (hb : Fr (flat1 ρA) w0 ρ w) (hc_1_6 : OwnT strC 9 ρ 7 w vc_1_6 c_1_6) (hc_1_7 : OwnT strC 9 ρ 10 w vc_1_7 c_1_7) (hBc_1 : Blk ρ 3 w gc_1 (.cells #[str c_1_0, .int .i64 c_1_1, str c_1_2, str c_1_3, .int .i64 c_1_4, str c_1_5, vc_1_6, vc_1_7, str c_1_8] 27 (0, 0))) (ht_2_6 : SlR strC (Wb ρ) w vt_2_6 t_2_6) (ht_2_7 : SlR strC (Wb ρ) w vt_2_7 t_2_7) (hBt_2 : Blk ρ 4 w gt_2 (.cells #[str t_2_0, .int .i64 t_2_1, str t_2_2, str t_2_3, .int .i64 t_2_4, str t_2_5, vt_2_6, vt_2_7, str t_2_8] 27 (0, 0))) :
  KE Tryz.prog 51 (Ret (fun v w' => ∃ x1 x2, v = .agg #[str r.ID, .int .i64 r.Kind, str r.Tenant, str r.Secret.Salt, .int .i64 r.Secret.Rounds, str r.Secret.Hash, x1, x2, str r.Logout] ∧ SlR strC (Wb ρA) w' x1 r.Redirects ∧ SlR strC (Wb ρA) w' x2 r.Scopes ∧ Below w0.heap.size w0 w')) 12 [.code (sub (bodyOf Tryz.f51) [2, 2])] [(1, .pointer (some ⟨gc_1, 0, none⟩)), (2, .pointer (some ⟨gt_2, 0, none⟩))] w := by
 unfold client_own_B1 at hS
 refine ke_seq ?_
 refine ke_region ?_
 refine sr_ev (v := .agg #[str c_1_0, .int .i64 c_1_1, str c_1_2, str c_1_3, .int .i64 c_1_4, str c_1_5, vc_1_6, vc_1_7, str c_1_8]) (ev_loads (cs := [str c_1_0, .int .i64 c_1_1, str c_1_2, str c_1_3, .int .i64 c_1_4, str c_1_5, vc_1_6, vc_1_7, str c_1_8]) Tryz.isAgg27 Tryz.sizeOf27 rfl (hBc_1.cells (vs := [str c_1_0, .int .i64 c_1_1, str c_1_2, str c_1_3, .int .i64 c_1_4, str c_1_5, vc_1_6, vc_1_7, str c_1_8]) rfl)) (by decide) ?_
 refine sr_storeT (v := .agg #[str c_1_0, .int .i64 c_1_1, str c_1_2, str c_1_3, .int .i64 c_1_4, str c_1_5, vc_1_6, vc_1_7, str c_1_8]) (vs := [str c_1_0, .int .i64 c_1_1, str c_1_2, str c_1_3, .int .i64 c_1_4, str c_1_5, vc_1_6, vc_1_7, str c_1_8]) (cs' := #[str c_1_0, .int .i64 c_1_1, str c_1_2, str c_1_3, .int .i64 c_1_4, str c_1_5, vc_1_6, vc_1_7, str c_1_8]) hBt_2 (by decide) hb.bd rfl rfl rfl Tryz.sizeOf27 rfl (by first | rfl | (simp only [List.all_cons, List.all_nil, OwnT.oneCell hc_1_6, OwnT.oneCell hc_1_7]; done) | (simp only [List.all_cons, List.all_nil, OwnT.oneCell hc_1_6, OwnT.oneCell hc_1_7]; rfl)) rfl ?_
 intro w180 hBt_21 htr181
 replace hc_1_6 := hc_1_6.mv (htr181.mv (i := 7) rfl) (by decide)
 replace hc_1_7 := hc_1_7.mv (htr181.mv (i := 10) rfl) (by decide)
 replace hb := hb.trans htr181
 replace hBt_2 : Blk ρ 4 w180 gt_2 (.cells #[str c_1_0, .int .i64 c_1_1, str c_1_2, str c_1_3, .int .i64 c_1_4, str c_1_5, vc_1_6, vc_1_7, str c_1_8] 27 (0, 0)) := hBt_21
 clear hBt_21
 refine sr_end (l' := [(2, .pointer (some ⟨gt_2, 0, none⟩))]) (.cons rfl (.nil _)) ?_
 have htr182 := frz_tr (ρ := ρ) (w := w180) (i := 7) (by decide) hb.bd
 have h183 : SlR strC (Wb (frz ρ 7)) w180 vc_1_6 c_1_6 := (SlT.mv hc_1_6.sl (frz_mv (ρ := ρ) (w := w180) (i := 7))).sl
 replace hBt_2 := hBt_2.mv (htr182.mv (i := 4) rfl)
 replace hc_1_7 := hc_1_7.mv (htr182.mv (i := 10) rfl) (by decide)
 replace hb := hb.trans htr182
 have htr184 := frz_tr (ρ := (frz ρ 7)) (w := w180) (i := 10) (by decide) hb.bd
 have h185 : SlR strC (Wb (frz (frz ρ 7) 10)) w180 vc_1_7 c_1_7 := (SlT.mv hc_1_7.sl (frz_mv (ρ := (frz ρ 7)) (w := w180) (i := 10))).sl
 replace hBt_2 := hBt_2.mv (htr184.mv (i := 4) rfl)
 replace h183 := h183.mv htr184.rd
 replace hb := hb.trans htr184
 cases hS
 exact ke_ret (rs := [.cell 2 27]) (vs := [.agg #[str c_1_0, .int .i64 c_1_1, str c_1_2, str c_1_3, .int .i64 c_1_4, str c_1_5, vc_1_6, vc_1_7, str c_1_8]]) Tryz.func51 rfl ⟨⟨_, rfl, run_loadVar_s (cs := [str c_1_0, .int .i64 c_1_1, str c_1_2, str c_1_3, .int .i64 c_1_4, str c_1_5, vc_1_6, vc_1_7, str c_1_8]) Tryz.isAgg27 Tryz.sizeOf27 (hBt_2.cells (vs := [str c_1_0, .int .i64 c_1_1, str c_1_2, str c_1_3, .int .i64 c_1_4, str c_1_5, vc_1_6, vc_1_7, str c_1_8]) rfl)⟩, trivial⟩ rfl ⟨_, rfl, _, _, rfl, (SlR.mv h183 (flat1_back hb hbd)), (SlR.mv h185 (flat1_back hb hbd)), (hb.below (flat1_le _))⟩
theorem client_own_ok (w0 : World) (hg : Gs w0) {ρA : Tags} (hbd : ∀ b, ρA b ≠ 0 → b < w0.heap.size) (hz : Gz ρA) {c_0 : api_Client} {v1 : Value} {v3 : Value} {r : api_Client} (h2 : SlR strC (Wb ρA) w0 v1 c_0.Redirects) (h4 : SlR strC (Wb ρA) w0 v3 c_0.Scopes) (hS : client_own c_0 = some r) :
  Calls Tryz.prog 51 #[.agg #[str c_0.ID, .int .i64 c_0.Kind, str c_0.Tenant, str c_0.Secret.Salt, .int .i64 c_0.Secret.Rounds, str c_0.Secret.Hash, v1, v3, str c_0.Logout]] w0 (Ret (fun v w' => ∃ x1 x2, v = .agg #[str r.ID, .int .i64 r.Kind, str r.Tenant, str r.Secret.Salt, .int .i64 r.Secret.Rounds, str r.Secret.Hash, x1, x2, str r.Logout] ∧ SlR strC (Wb ρA) w' x1 r.Redirects ∧ SlR strC (Wb ρA) w' x2 r.Scopes ∧ Below w0.heap.size w0 w')) := by
 unfold client_own at hS
 have hb := flat1_fr (ρ := ρA) (w := w0) hbd
 have hz := hz.flat1
 replace h2 := SlR.mv h2 flat1_rd
 replace h4 := SlR.mv h4 flat1_rd
 refine calls_of_ke Tryz.func51 rfl (n := 12) rfl rfl (l := [(0, .agg #[str c_0.ID, .int .i64 c_0.Kind, str c_0.Tenant, str c_0.Secret.Salt, .int .i64 c_0.Secret.Rounds, str c_0.Secret.Hash, v1, v3, str c_0.Logout])]) rfl ?_
 refine ke_seq ?_
 refine ke_region ?_
 refine sr_boxT 3 (by decide) hb.bd rfl (by decide) ?_
 intro g9 ρ10 w11 hB13 htr12
 replace h2 := h2.mv htr12.rd
 replace h4 := h4.mv htr12.rd
 replace hb := hb.trans htr12
 replace hB13 : Blk ρ10 3 w11 g9 (.cells #[str c_0.ID, .int .i64 c_0.Kind, str c_0.Tenant, str c_0.Secret.Salt, .int .i64 c_0.Secret.Rounds, str c_0.Secret.Hash, v1, v3, str c_0.Logout] 27 (0, 0)) := hB13
 refine sr_allocT 4 (by decide) hb.bd Tryz.zeroValue27 (by decide) ?_
 intro g14 ρ15 w16 hB18 htr17
 replace hB13 := hB13.mv (htr17.mv (i := 3) rfl)
 replace h2 := h2.mv htr17.rd
 replace h4 := h4.mv htr17.rd
 replace hb := hb.trans htr17
 replace hB18 : Blk ρ15 4 w16 g14 (.cells #[str ([]), .int .i64 0, str ([]), str ([]), .int .i64 0, str ([]), (.slice none 0 0), (.slice none 0 0), str ([])] 27 (0, 0)) := hB18
 refine sr_end (l' := [(1, .pointer (some ⟨g9, 0, none⟩)), (2, .pointer (some ⟨g14, 0, none⟩))]) (.cons rfl (.cons rfl (.nil _))) ?_
 refine ke_seq ?_
 refine ke_region_j (ρ := ρ15) (fun t => ([3, 7, 10] : List Nat).contains t) 10 Tryz.mixed (fun w20 hw19 => ?_)
 have htr21 := Tr.of_below hw19 hb.bd
 replace hB18 := hB18.mv (htr21.mv (i := 4) rfl)
 replace hB13 := hB13.mv (htr21.mv (i := 3) rfl)
 replace h2 := h2.mv htr21.rd
 replace h4 := h4.mv htr21.rd
 replace hb := hb.trans htr21
 refine dj_H 0 (v := .pointer (some ⟨g9, 6, none⟩)) (by kernel_rfl) (by kernel_rfl) rfl (fun _ _ _ h => h) (sj_refl hb.bd rfl rfl) (fun w1 ρ1 hw1 => ev_fieldAddr (i := 4) Tryz.underlying27 rfl Tryz.info25 rfl rfl) (by decide) ?_
 refine dj_H 3 (v := .pointer (some ⟨g9, 7, none⟩)) (by kernel_rfl) (by kernel_rfl) rfl (fun _ _ _ h => h) (sj_refl hb.bd rfl rfl) (fun w1 ρ1 hw1 => ev_fieldAddr (i := 5) Tryz.underlying27 rfl Tryz.info25 rfl rfl) (by decide) ?_
 refine dj_all [1, 4] (by kernel_rfl) (fun i hi => ?_)
 simp only [List.mem_cons, List.not_mem_nil, or_false] at hi
 rcases hi with rfl | rfl
 ·refine ⟨_, rfl, ?_⟩
  have jt150 : Tr ρ15 w20 (fun t => ([3, 7, 10] : List Nat).contains t) ρ15 w20 := (Tr.refl hb.bd).weak (fun _ _ => rfl) rfl rfl
  refine sr_ev (v := v1) (ev_load Tryz.isAgg25 rfl (hB13.cell rfl)) (by decide) ?_
  refine dj_next (l' := [(1, .pointer (some ⟨g9, 0, none⟩)), (2, .pointer (some ⟨g14, 0, none⟩)), (4, v1), (6, .pointer (some ⟨g9, 7, none⟩))]) rfl (.cons rfl (.cons rfl (.cons rfl (.cons rfl (.nil _))))) jt150 (by intro t h; simp [rng] at h ⊢ <;> omega) rfl rfl ?_
  refine dj_all [2, 4] (by kernel_rfl) (fun i hi => ?_)
  simp only [List.mem_cons, List.not_mem_nil, or_false] at hi
  rcases hi with rfl | rfl
  ·refine ⟨_, rfl, ?_⟩
   have jt151 : Tr ρ15 w20 (fun t => ([3, 7, 10] : List Nat).contains t) ρ15 w20 := (Tr.refl hb.bd).weak (fun _ _ => rfl) rfl rfl
   obtain ⟨y152, hy153, hS⟩ := bind_some' hS
   refine sr_call (vs := [v1]) rfl Tryz.call81 rfl (lib_Clone_ok (A := Wb ρ15) (B := 0) h2.asSl hb.bd (Nat.zero_le _) hy153) (by decide) ?_
   rintro v154 w156 hfr158
   obtain ⟨h155, htr157⟩ := freshT (i := 7) (by decide) hb.bd hfr158
   replace hB18 := hB18.mv (htr157.mv (i := 4) rfl)
   replace hB13 := hB13.mv (htr157.mv (i := 3) rfl)
   replace h2 := h2.mv htr157.rd
   replace h4 := h4.mv htr157.rd
   replace hb := hb.trans htr157
   replace jt151 := (jt151.trans htr157).weak (J' := (fun t => ([3, 7, 10] : List Nat).contains t)) (by intro t h; simp [rng] at h ⊢ <;> omega) rfl rfl
   refine dj_next (l' := [(1, .pointer (some ⟨g9, 0, none⟩)), (2, .pointer (some ⟨g14, 0, none⟩)), (5, v154), (6, .pointer (some ⟨g9, 7, none⟩))]) rfl (.cons rfl (.cons rfl (.cons rfl (.cons rfl (.nil _))))) jt151 (by intro t h; simp [rng] at h ⊢ <;> omega) rfl rfl ?_
   refine dj_E 4 (by kernel_rfl) rfl ?_
   have jt160 : Tr (ownTags ρ15 7 v154) w156 (fun t => ([3, 7, 10] : List Nat).contains t) (ownTags ρ15 7 v154) w156 := (Tr.refl hb.bd).weak (fun _ _ => rfl) rfl rfl
   refine sr_ev (v := v3) (ev_load Tryz.isAgg25 rfl (hB13.cell rfl)) (by decide) ?_
   refine dj_next (l' := [(1, .pointer (some ⟨g9, 0, none⟩)), (2, .pointer (some ⟨g14, 0, none⟩)), (5, v154), (7, v3)]) rfl (.cons rfl (.cons rfl (.cons rfl (.cons rfl (.nil _))))) jt160 (by intro t h; simp [rng] at h ⊢ <;> omega) rfl rfl ?_
   refine dj_H 6 (v := .pointer (some ⟨g9, 6, none⟩)) (by kernel_rfl) (by kernel_rfl) rfl (fun _ _ _ h => h) (sj_refl hb.bd rfl rfl) (fun w1 ρ1 hw1 => ev_fieldAddr (i := 4) Tryz.underlying27 rfl Tryz.info25 rfl rfl) (by decide) ?_
   refine dj_E 5 (by kernel_rfl) rfl ?_
   have jt161 : Tr (ownTags ρ15 7 v154) w156 (fun t => ([3, 7, 10] : List Nat).contains t) (ownTags ρ15 7 v154) w156 := (Tr.refl hb.bd).weak (fun _ _ => rfl) rfl rfl
   obtain ⟨y162, hy163, hS⟩ := bind_some' hS
   refine sr_call (vs := [v3]) rfl Tryz.call81 rfl (lib_Clone_ok (A := Wb (ownTags ρ15 7 v154)) (B := 0) h4.asSl hb.bd (Nat.zero_le _) hy163) (by decide) ?_
   rintro v164 w166 hfr168
   obtain ⟨h165, htr167⟩ := freshT (i := 10) (by decide) hb.bd hfr168
   replace h155 := h155.mv (htr167.mv (i := 7) rfl) (by decide)
   replace hB18 := hB18.mv (htr167.mv (i := 4) rfl)
   replace hB13 := hB13.mv (htr167.mv (i := 3) rfl)
   replace h2 := h2.mv htr167.rd
   replace h4 := h4.mv htr167.rd
   replace hb := hb.trans htr167
   replace jt161 := (jt161.trans htr167).weak (J' := (fun t => ([3, 7, 10] : List Nat).contains t)) (by intro t h; simp [rng] at h ⊢ <;> omega) rfl rfl
   refine dj_next (l' := [(1, .pointer (some ⟨g9, 0, none⟩)), (2, .pointer (some ⟨g14, 0, none⟩)), (5, v154), (8, v164), (9, .pointer (some ⟨g9, 6, none⟩))]) rfl (.cons rfl (.cons rfl (.cons rfl (.cons rfl (.cons rfl (.nil _)))))) jt161 (by intro t h; simp [rng] at h ⊢ <;> omega) rfl rfl ?_
   refine dj_E 7 (by kernel_rfl) rfl ?_
   have jt170 : Tr (ownTags (ownTags ρ15 7 v154) 10 v164) w166 (fun t => ([3, 7, 10] : List Nat).contains t) (ownTags (ownTags ρ15 7 v154) 10 v164) w166 := (Tr.refl hb.bd).weak (fun _ _ => rfl) rfl rfl
   refine sr_storeT (v := v154) (vs := [v154]) (cs' := #[str c_0.ID, .int .i64 c_0.Kind, str c_0.Tenant, str c_0.Secret.Salt, .int .i64 c_0.Secret.Rounds, str c_0.Secret.Hash, v154, v3, str c_0.Logout]) hB13 (by decide) hb.bd rfl rfl (one_cells (OwnT.oneCell h155)) Tryz.sizeOf25 rfl (by first | rfl | (simp only [List.all_cons, List.all_nil, OwnT.oneCell h155]; done) | (simp only [List.all_cons, List.all_nil, OwnT.oneCell h155]; rfl)) rfl ?_
   intro w171 hB131 htr172
   replace h165 := h165.mv (htr172.mv (i := 10) rfl) (by decide)
   replace hB18 := hB18.mv (htr172.mv (i := 4) rfl)
   replace h155 := h155.mv (htr172.mv (i := 7) rfl) (by decide)
   replace h4 := h4.mv htr172.rd
   replace hb := hb.trans htr172
   replace jt170 := (jt170.trans htr172).weak (J' := (fun t => ([3, 7, 10] : List Nat).contains t)) (by intro t h; simp [rng] at h ⊢ <;> omega) rfl rfl
   replace hB13 : Blk (ownTags (ownTags ρ15 7 v154) 10 v164) 3 w171 g9 (.cells #[str c_0.ID, .int .i64 c_0.Kind, str c_0.Tenant, str c_0.Secret.Salt, .int .i64 c_0.Secret.Rounds, str c_0.Secret.Hash, v154, v3, str c_0.Logout] 27 (0, 0)) := hB131
   clear hB131
   refine dj_next (l' := [(1, .pointer (some ⟨g9, 0, none⟩)), (2, .pointer (some ⟨g14, 0, none⟩)), (8, v164)]) rfl (.cons rfl (.cons rfl (.cons rfl (.nil _)))) jt170 (by intro t h; simp [rng] at h ⊢ <;> omega) rfl rfl ?_
   refine dj_H 8 (v := .pointer (some ⟨g9, 7, none⟩)) (by kernel_rfl) (by kernel_rfl) rfl (fun _ _ _ h => h) (sj_refl hb.bd rfl rfl) (fun w1 ρ1 hw1 => ev_fieldAddr (i := 5) Tryz.underlying27 rfl Tryz.info25 rfl rfl) (by decide) ?_
   refine dj_E 9 (by kernel_rfl) rfl ?_
   have jt173 : Tr (ownTags (ownTags ρ15 7 v154) 10 v164) w171 (fun t => ([3, 7, 10] : List Nat).contains t) (ownTags (ownTags ρ15 7 v154) 10 v164) w171 := (Tr.refl hb.bd).weak (fun _ _ => rfl) rfl rfl
   refine sr_storeT (v := v164) (vs := [v164]) (cs' := #[str c_0.ID, .int .i64 c_0.Kind, str c_0.Tenant, str c_0.Secret.Salt, .int .i64 c_0.Secret.Rounds, str c_0.Secret.Hash, v154, v164, str c_0.Logout]) hB13 (by decide) hb.bd rfl rfl (one_cells (OwnT.oneCell h165)) Tryz.sizeOf25 rfl (by first | rfl | (simp only [List.all_cons, List.all_nil, OwnT.oneCell h165]; done) | (simp only [List.all_cons, List.all_nil, OwnT.oneCell h165]; rfl)) rfl ?_
   intro w174 hB131 htr175
   replace hB18 := hB18.mv (htr175.mv (i := 4) rfl)
   replace h155 := h155.mv (htr175.mv (i := 7) rfl) (by decide)
   replace h165 := h165.mv (htr175.mv (i := 10) rfl) (by decide)
   replace hb := hb.trans htr175
   replace jt173 := (jt173.trans htr175).weak (J' := (fun t => ([3, 7, 10] : List Nat).contains t)) (by intro t h; simp [rng] at h ⊢ <;> omega) rfl rfl
   replace hB13 : Blk (ownTags (ownTags ρ15 7 v154) 10 v164) 3 w174 g9 (.cells #[str c_0.ID, .int .i64 c_0.Kind, str c_0.Tenant, str c_0.Secret.Salt, .int .i64 c_0.Secret.Rounds, str c_0.Secret.Hash, v154, v164, str c_0.Logout] 27 (0, 0)) := hB131
   clear hB131
   refine dj_next (l' := [(1, .pointer (some ⟨g9, 0, none⟩)), (2, .pointer (some ⟨g14, 0, none⟩))]) rfl (.cons rfl (.cons rfl (.nil _))) jt173 (by intro t h; simp [rng] at h ⊢ <;> omega) rfl rfl ?_
   refine dj_done rfl (by kernel_rfl) ?_
   refine ke_weaken (l' := [(1, .pointer (some ⟨g9, 0, none⟩)), (2, .pointer (some ⟨g14, 0, none⟩))]) (.cons rfl (.cons rfl (.nil _))) ?_
   have hK := client_own_B1_ok hg hbd hz hS hb h155 h165 hB13 SlR.nil SlR.nil hB18
   exact ke_weaken (l' := [(1, .pointer (some ⟨g9, 0, none⟩)), (2, .pointer (some ⟨g14, 0, none⟩))]) (.cons rfl (.cons rfl (.nil _))) hK
  ·refine ⟨_, rfl, ?_⟩
   have jt186 : Tr ρ15 w20 (fun t => ([3, 7, 10] : List Nat).contains t) ρ15 w20 := (Tr.refl hb.bd).weak (fun _ _ => rfl) rfl rfl
   refine sr_ev (v := v3) (ev_load Tryz.isAgg25 rfl (hB13.cell rfl)) (by decide) ?_
   refine dj_next (l' := [(1, .pointer (some ⟨g9, 0, none⟩)), (2, .pointer (some ⟨g14, 0, none⟩)), (4, v1), (7, v3)]) rfl (.cons rfl (.cons rfl (.cons rfl (.cons rfl (.nil _))))) jt186 (by intro t h; simp [rng] at h ⊢ <;> omega) rfl rfl ?_
   refine dj_E 2 (by kernel_rfl) rfl ?_
   have jt187 : Tr ρ15 w20 (fun t => ([3, 7, 10] : List Nat).contains t) ρ15 w20 := (Tr.refl hb.bd).weak (fun _ _ => rfl) rfl rfl
   obtain ⟨y188, hy189, hS⟩ := bind_some' hS
   refine sr_call (vs := [v1]) rfl Tryz.call81 rfl (lib_Clone_ok (A := Wb ρ15) (B := 0) h2.asSl hb.bd (Nat.zero_le _) hy189) (by decide) ?_
   rintro v190 w192 hfr194
   obtain ⟨h191, htr193⟩ := freshT (i := 7) (by decide) hb.bd hfr194
   replace h4 := h4.mv htr193.rd
   replace hB18 := hB18.mv (htr193.mv (i := 4) rfl)
   replace hB13 := hB13.mv (htr193.mv (i := 3) rfl)
   replace h2 := h2.mv htr193.rd
   replace hb := hb.trans htr193
   replace jt187 := (jt187.trans htr193).weak (J' := (fun t => ([3, 7, 10] : List Nat).contains t)) (by intro t h; simp [rng] at h ⊢ <;> omega) rfl rfl
   refine dj_next (l' := [(1, .pointer (some ⟨g9, 0, none⟩)), (2, .pointer (some ⟨g14, 0, none⟩)), (5, v190), (7, v3)]) rfl (.cons rfl (.cons rfl (.cons rfl (.cons rfl (.nil _))))) jt187 (by intro t h; simp [rng] at h ⊢ <;> omega) rfl rfl ?_
   refine dj_H 6 (v := .pointer (some ⟨g9, 6, none⟩)) (by kernel_rfl) (by kernel_rfl) rfl (fun _ _ _ h => h) (sj_refl hb.bd rfl rfl) (fun w1 ρ1 hw1 => ev_fieldAddr (i := 4) Tryz.underlying27 rfl Tryz.info25 rfl rfl) (by decide) ?_
   refine dj_E 5 (by kernel_rfl) rfl ?_
   have jt196 : Tr (ownTags ρ15 7 v190) w192 (fun t => ([3, 7, 10] : List Nat).contains t) (ownTags ρ15 7 v190) w192 := (Tr.refl hb.bd).weak (fun _ _ => rfl) rfl rfl
   obtain ⟨y197, hy198, hS⟩ := bind_some' hS
   refine sr_call (vs := [v3]) rfl Tryz.call81 rfl (lib_Clone_ok (A := Wb (ownTags ρ15 7 v190)) (B := 0) h4.asSl hb.bd (Nat.zero_le _) hy198) (by decide) ?_
   rintro v199 w201 hfr203
   obtain ⟨h200, htr202⟩ := freshT (i := 10) (by decide) hb.bd hfr203
   replace h191 := h191.mv (htr202.mv (i := 7) rfl) (by decide)
   replace hB18 := hB18.mv (htr202.mv (i := 4) rfl)
   replace hB13 := hB13.mv (htr202.mv (i := 3) rfl)
   replace h2 := h2.mv htr202.rd
   replace h4 := h4.mv htr202.rd
   replace hb := hb.trans htr202
   replace jt196 := (jt196.trans htr202).weak (J' := (fun t => ([3, 7, 10] : List Nat).contains t)) (by intro t h; simp [rng] at h ⊢ <;> omega) rfl rfl
   refine dj_next (l' := [(1, .pointer (some ⟨g9, 0, none⟩)), (2, .pointer (some ⟨g14, 0, none⟩)), (5, v190), (8, v199), (9, .pointer (some ⟨g9, 6, none⟩))]) rfl (.cons rfl (.cons rfl (.cons rfl (.cons rfl (.cons rfl (.nil _)))))) jt196 (by intro t h; simp [rng] at h ⊢ <;> omega) rfl rfl ?_
   refine dj_E 7 (by kernel_rfl) rfl ?_
   have jt205 : Tr (ownTags (ownTags ρ15 7 v190) 10 v199) w201 (fun t => ([3, 7, 10] : List Nat).contains t) (ownTags (ownTags ρ15 7 v190) 10 v199) w201 := (Tr.refl hb.bd).weak (fun _ _ => rfl) rfl rfl
   refine sr_storeT (v := v190) (vs := [v190]) (cs' := #[str c_0.ID, .int .i64 c_0.Kind, str c_0.Tenant, str c_0.Secret.Salt, .int .i64 c_0.Secret.Rounds, str c_0.Secret.Hash, v190, v3, str c_0.Logout]) hB13 (by decide) hb.bd rfl rfl (one_cells (OwnT.oneCell h191)) Tryz.sizeOf25 rfl (by first | rfl | (simp only [List.all_cons, List.all_nil, OwnT.oneCell h191]; done) | (simp only [List.all_cons, List.all_nil, OwnT.oneCell h191]; rfl)) rfl ?_
   intro w206 hB131 htr207
   replace h200 := h200.mv (htr207.mv (i := 10) rfl) (by decide)
   replace hB18 := hB18.mv (htr207.mv (i := 4) rfl)
   replace h191 := h191.mv (htr207.mv (i := 7) rfl) (by decide)
   replace h4 := h4.mv htr207.rd
   replace hb := hb.trans htr207
   replace jt205 := (jt205.trans htr207).weak (J' := (fun t => ([3, 7, 10] : List Nat).contains t)) (by intro t h; simp [rng] at h ⊢ <;> omega) rfl rfl
   replace hB13 : Blk (ownTags (ownTags ρ15 7 v190) 10 v199) 3 w206 g9 (.cells #[str c_0.ID, .int .i64 c_0.Kind, str c_0.Tenant, str c_0.Secret.Salt, .int .i64 c_0.Secret.Rounds, str c_0.Secret.Hash, v190, v3, str c_0.Logout] 27 (0, 0)) := hB131
   clear hB131
   refine dj_next (l' := [(1, .pointer (some ⟨g9, 0, none⟩)), (2, .pointer (some ⟨g14, 0, none⟩)), (8, v199)]) rfl (.cons rfl (.cons rfl (.cons rfl (.nil _)))) jt205 (by intro t h; simp [rng] at h ⊢ <;> omega) rfl rfl ?_
   refine dj_H 8 (v := .pointer (some ⟨g9, 7, none⟩)) (by kernel_rfl) (by kernel_rfl) rfl (fun _ _ _ h => h) (sj_refl hb.bd rfl rfl) (fun w1 ρ1 hw1 => ev_fieldAddr (i := 5) Tryz.underlying27 rfl Tryz.info25 rfl rfl) (by decide) ?_
   refine dj_E 9 (by kernel_rfl) rfl ?_
   have jt208 : Tr (ownTags (ownTags ρ15 7 v190) 10 v199) w206 (fun t => ([3, 7, 10] : List Nat).contains t) (ownTags (ownTags ρ15 7 v190) 10 v199) w206 := (Tr.refl hb.bd).weak (fun _ _ => rfl) rfl rfl
   refine sr_storeT (v := v199) (vs := [v199]) (cs' := #[str c_0.ID, .int .i64 c_0.Kind, str c_0.Tenant, str c_0.Secret.Salt, .int .i64 c_0.Secret.Rounds, str c_0.Secret.Hash, v190, v199, str c_0.Logout]) hB13 (by decide) hb.bd rfl rfl (one_cells (OwnT.oneCell h200)) Tryz.sizeOf25 rfl (by first | rfl | (simp only [List.all_cons, List.all_nil, OwnT.oneCell h200]; done) | (simp only [List.all_cons, List.all_nil, OwnT.oneCell h200]; rfl)) rfl ?_
   intro w209 hB131 htr210
   replace hB18 := hB18.mv (htr210.mv (i := 4) rfl)
   replace h191 := h191.mv (htr210.mv (i := 7) rfl) (by decide)
   replace h200 := h200.mv (htr210.mv (i := 10) rfl) (by decide)
   replace hb := hb.trans htr210
   replace jt208 := (jt208.trans htr210).weak (J' := (fun t => ([3, 7, 10] : List Nat).contains t)) (by intro t h; simp [rng] at h ⊢ <;> omega) rfl rfl
   replace hB13 : Blk (ownTags (ownTags ρ15 7 v190) 10 v199) 3 w209 g9 (.cells #[str c_0.ID, .int .i64 c_0.Kind, str c_0.Tenant, str c_0.Secret.Salt, .int .i64 c_0.Secret.Rounds, str c_0.Secret.Hash, v190, v199, str c_0.Logout] 27 (0, 0)) := hB131
   clear hB131
   refine dj_next (l' := [(1, .pointer (some ⟨g9, 0, none⟩)), (2, .pointer (some ⟨g14, 0, none⟩))]) rfl (.cons rfl (.cons rfl (.nil _))) jt208 (by intro t h; simp [rng] at h ⊢ <;> omega) rfl rfl ?_
   refine dj_done rfl (by kernel_rfl) ?_
   refine ke_weaken (l' := [(1, .pointer (some ⟨g9, 0, none⟩)), (2, .pointer (some ⟨g14, 0, none⟩))]) (.cons rfl (.cons rfl (.nil _))) ?_
   have hK := client_own_B1_ok hg hbd hz hS hb h191 h200 hB13 SlR.nil SlR.nil hB18
   exact ke_weaken (l' := [(1, .pointer (some ⟨g9, 0, none⟩)), (2, .pointer (some ⟨g14, 0, none⟩))]) (.cons rfl (.cons rfl (.nil _))) hK
 ·refine ⟨_, rfl, ?_⟩
  have jt211 : Tr ρ15 w20 (fun t => ([3, 7, 10] : List Nat).contains t) ρ15 w20 := (Tr.refl hb.bd).weak (fun _ _ => rfl) rfl rfl
  refine sr_ev (v := v3) (ev_load Tryz.isAgg25 rfl (hB13.cell rfl)) (by decide) ?_
  refine dj_next (l' := [(1, .pointer (some ⟨g9, 0, none⟩)), (2, .pointer (some ⟨g14, 0, none⟩)), (3, .pointer (some ⟨g9, 6, none⟩)), (7, v3)]) rfl (.cons rfl (.cons rfl (.cons rfl (.cons rfl (.nil _))))) jt211 (by intro t h; simp [rng] at h ⊢ <;> omega) rfl rfl ?_
  refine dj_E 1 (by kernel_rfl) rfl ?_
  have jt212 : Tr ρ15 w20 (fun t => ([3, 7, 10] : List Nat).contains t) ρ15 w20 := (Tr.refl hb.bd).weak (fun _ _ => rfl) rfl rfl
  refine sr_ev (v := v1) (ev_load Tryz.isAgg25 rfl (hB13.cell rfl)) (by decide) ?_
  refine dj_next (l' := [(1, .pointer (some ⟨g9, 0, none⟩)), (2, .pointer (some ⟨g14, 0, none⟩)), (4, v1), (7, v3)]) rfl (.cons rfl (.cons rfl (.cons rfl (.cons rfl (.nil _))))) jt212 (by intro t h; simp [rng] at h ⊢ <;> omega) rfl rfl ?_
  refine dj_E 2 (by kernel_rfl) rfl ?_
  have jt213 : Tr ρ15 w20 (fun t => ([3, 7, 10] : List Nat).contains t) ρ15 w20 := (Tr.refl hb.bd).weak (fun _ _ => rfl) rfl rfl
  obtain ⟨y214, hy215, hS⟩ := bind_some' hS
  refine sr_call (vs := [v1]) rfl Tryz.call81 rfl (lib_Clone_ok (A := Wb ρ15) (B := 0) h2.asSl hb.bd (Nat.zero_le _) hy215) (by decide) ?_
  rintro v216 w218 hfr220
  obtain ⟨h217, htr219⟩ := freshT (i := 7) (by decide) hb.bd hfr220
  replace h4 := h4.mv htr219.rd
  replace hB18 := hB18.mv (htr219.mv (i := 4) rfl)
  replace hB13 := hB13.mv (htr219.mv (i := 3) rfl)
  replace h2 := h2.mv htr219.rd
  replace hb := hb.trans htr219
  replace jt213 := (jt213.trans htr219).weak (J' := (fun t => ([3, 7, 10] : List Nat).contains t)) (by intro t h; simp [rng] at h ⊢ <;> omega) rfl rfl
  refine dj_next (l' := [(1, .pointer (some ⟨g9, 0, none⟩)), (2, .pointer (some ⟨g14, 0, none⟩)), (5, v216), (7, v3)]) rfl (.cons rfl (.cons rfl (.cons rfl (.cons rfl (.nil _))))) jt213 (by intro t h; simp [rng] at h ⊢ <;> omega) rfl rfl ?_
  refine dj_H 6 (v := .pointer (some ⟨g9, 6, none⟩)) (by kernel_rfl) (by kernel_rfl) rfl (fun _ _ _ h => h) (sj_refl hb.bd rfl rfl) (fun w1 ρ1 hw1 => ev_fieldAddr (i := 4) Tryz.underlying27 rfl Tryz.info25 rfl rfl) (by decide) ?_
  refine dj_E 5 (by kernel_rfl) rfl ?_
  have jt222 : Tr (ownTags ρ15 7 v216) w218 (fun t => ([3, 7, 10] : List Nat).contains t) (ownTags ρ15 7 v216) w218 := (Tr.refl hb.bd).weak (fun _ _ => rfl) rfl rfl
  obtain ⟨y223, hy224, hS⟩ := bind_some' hS
  refine sr_call (vs := [v3]) rfl Tryz.call81 rfl (lib_Clone_ok (A := Wb (ownTags ρ15 7 v216)) (B := 0) h4.asSl hb.bd (Nat.zero_le _) hy224) (by decide) ?_
  rintro v225 w227 hfr229
  obtain ⟨h226, htr228⟩ := freshT (i := 10) (by decide) hb.bd hfr229
  replace h217 := h217.mv (htr228.mv (i := 7) rfl) (by decide)
  replace hB18 := hB18.mv (htr228.mv (i := 4) rfl)
  replace hB13 := hB13.mv (htr228.mv (i := 3) rfl)
  replace h2 := h2.mv htr228.rd
  replace h4 := h4.mv htr228.rd
  replace hb := hb.trans htr228
  replace jt222 := (jt222.trans htr228).weak (J' := (fun t => ([3, 7, 10] : List Nat).contains t)) (by intro t h; simp [rng] at h ⊢ <;> omega) rfl rfl
  refine dj_next (l' := [(1, .pointer (some ⟨g9, 0, none⟩)), (2, .pointer (some ⟨g14, 0, none⟩)), (5, v216), (8, v225), (9, .pointer (some ⟨g9, 6, none⟩))]) rfl (.cons rfl (.cons rfl (.cons rfl (.cons rfl (.cons rfl (.nil _)))))) jt222 (by intro t h; simp [rng] at h ⊢ <;> omega) rfl rfl ?_
  refine dj_E 7 (by kernel_rfl) rfl ?_
  have jt231 : Tr (ownTags (ownTags ρ15 7 v216) 10 v225) w227 (fun t => ([3, 7, 10] : List Nat).contains t) (ownTags (ownTags ρ15 7 v216) 10 v225) w227 := (Tr.refl hb.bd).weak (fun _ _ => rfl) rfl rfl
  refine sr_storeT (v := v216) (vs := [v216]) (cs' := #[str c_0.ID, .int .i64 c_0.Kind, str c_0.Tenant, str c_0.Secret.Salt, .int .i64 c_0.Secret.Rounds, str c_0.Secret.Hash, v216, v3, str c_0.Logout]) hB13 (by decide) hb.bd rfl rfl (one_cells (OwnT.oneCell h217)) Tryz.sizeOf25 rfl (by first | rfl | (simp only [List.all_cons, List.all_nil, OwnT.oneCell h217]; done) | (simp only [List.all_cons, List.all_nil, OwnT.oneCell h217]; rfl)) rfl ?_
  intro w232 hB131 htr233
  replace h226 := h226.mv (htr233.mv (i := 10) rfl) (by decide)
  replace hB18 := hB18.mv (htr233.mv (i := 4) rfl)
  replace h217 := h217.mv (htr233.mv (i := 7) rfl) (by decide)
  replace h4 := h4.mv htr233.rd
  replace hb := hb.trans htr233
  replace jt231 := (jt231.trans htr233).weak (J' := (fun t => ([3, 7, 10] : List Nat).contains t)) (by intro t h; simp [rng] at h ⊢ <;> omega) rfl rfl
  replace hB13 : Blk (ownTags (ownTags ρ15 7 v216) 10 v225) 3 w232 g9 (.cells #[str c_0.ID, .int .i64 c_0.Kind, str c_0.Tenant, str c_0.Secret.Salt, .int .i64 c_0.Secret.Rounds, str c_0.Secret.Hash, v216, v3, str c_0.Logout] 27 (0, 0)) := hB131
  clear hB131
  refine dj_next (l' := [(1, .pointer (some ⟨g9, 0, none⟩)), (2, .pointer (some ⟨g14, 0, none⟩)), (8, v225)]) rfl (.cons rfl (.cons rfl (.cons rfl (.nil _)))) jt231 (by intro t h; simp [rng] at h ⊢ <;> omega) rfl rfl ?_
  refine dj_H 8 (v := .pointer (some ⟨g9, 7, none⟩)) (by kernel_rfl) (by kernel_rfl) rfl (fun _ _ _ h => h) (sj_refl hb.bd rfl rfl) (fun w1 ρ1 hw1 => ev_fieldAddr (i := 5) Tryz.underlying27 rfl Tryz.info25 rfl rfl) (by decide) ?_
  refine dj_E 9 (by kernel_rfl) rfl ?_
  have jt234 : Tr (ownTags (ownTags ρ15 7 v216) 10 v225) w232 (fun t => ([3, 7, 10] : List Nat).contains t) (ownTags (ownTags ρ15 7 v216) 10 v225) w232 := (Tr.refl hb.bd).weak (fun _ _ => rfl) rfl rfl
  refine sr_storeT (v := v225) (vs := [v225]) (cs' := #[str c_0.ID, .int .i64 c_0.Kind, str c_0.Tenant, str c_0.Secret.Salt, .int .i64 c_0.Secret.Rounds, str c_0.Secret.Hash, v216, v225, str c_0.Logout]) hB13 (by decide) hb.bd rfl rfl (one_cells (OwnT.oneCell h226)) Tryz.sizeOf25 rfl (by first | rfl | (simp only [List.all_cons, List.all_nil, OwnT.oneCell h226]; done) | (simp only [List.all_cons, List.all_nil, OwnT.oneCell h226]; rfl)) rfl ?_
  intro w235 hB131 htr236
  replace hB18 := hB18.mv (htr236.mv (i := 4) rfl)
  replace h217 := h217.mv (htr236.mv (i := 7) rfl) (by decide)
  replace h226 := h226.mv (htr236.mv (i := 10) rfl) (by decide)
  replace hb := hb.trans htr236
  replace jt234 := (jt234.trans htr236).weak (J' := (fun t => ([3, 7, 10] : List Nat).contains t)) (by intro t h; simp [rng] at h ⊢ <;> omega) rfl rfl
  replace hB13 : Blk (ownTags (ownTags ρ15 7 v216) 10 v225) 3 w235 g9 (.cells #[str c_0.ID, .int .i64 c_0.Kind, str c_0.Tenant, str c_0.Secret.Salt, .int .i64 c_0.Secret.Rounds, str c_0.Secret.Hash, v216, v225, str c_0.Logout] 27 (0, 0)) := hB131
  clear hB131
  refine dj_next (l' := [(1, .pointer (some ⟨g9, 0, none⟩)), (2, .pointer (some ⟨g14, 0, none⟩))]) rfl (.cons rfl (.cons rfl (.nil _))) jt234 (by intro t h; simp [rng] at h ⊢ <;> omega) rfl rfl ?_
  refine dj_done rfl (by kernel_rfl) ?_
  refine ke_weaken (l' := [(1, .pointer (some ⟨g9, 0, none⟩)), (2, .pointer (some ⟨g14, 0, none⟩))]) (.cons rfl (.cons rfl (.nil _))) ?_
  have hK := client_own_B1_ok hg hbd hz hS hb h217 h226 hB13 SlR.nil SlR.nil hB18
  exact ke_weaken (l' := [(1, .pointer (some ⟨g9, 0, none⟩)), (2, .pointer (some ⟨g14, 0, none⟩))]) (.cons rfl (.cons rfl (.nil _))) hK
theorem client_Clients_Register_ok (w0 : World) (hg : Gs w0) {ρA : Tags} (hbd : ∀ b, ρA b ≠ 0 → b < w0.heap.size) (hz : Gz ρA) {o : Nat} (ho2 : 2 ≤ o) {r_0 : client_Clients} {c_1 : api_Client} {v4 : Value} {v6 : Value} {gr_0 : Nat} {r : Int × client_Clients} (h5 : SlR strC (Wb ρA) w0 v4 c_1.Redirects) (h7 : SlR strC (Wb ρA) w0 v6 c_1.Scopes) (ho0 : client_Clients.O (fun p => o + p) ρA w0 gr_0 r_0) (hS : client_Clients_Register r_0 c_1 = some r) :
  Calls Tryz.prog 17 #[.pointer (some ⟨gr_0, 0, none⟩), .agg #[str c_1.ID, .int .i64 c_1.Kind, str c_1.Tenant, str c_1.Secret.Salt, .int .i64 c_1.Secret.Rounds, str c_1.Secret.Hash, v4, v6, str c_1.Logout]] w0 (Ret (fun v w' => ∃ ρ', v = .int .i64 r.1 ∧ client_Clients.O (fun p => o + p) ρ' w' gr_0 r.2 ∧ Tr ρA w0 (rng o 2) ρ' w')) := by
 unfold client_Clients_Register at hS
 have hb := enter_fr (ρ := ρA) (w := w0) (n := 2) ho2 hbd
 have hz := hz.enter (n := 2) ho2
 replace h5 := SlR.mv h5 (enter_rd (n := 2) ho2)
 replace h7 := SlR.mv h7 (enter_rd (n := 2) ho2)
 obtain ⟨v1, hB3, h2⟩ := ho0
 replace hB3 := hB3.mv (enter_mv (p := 0) (n := 2) (by decide) ho2)
 replace h2 := h2.mv (enter_mv (p := 1) (n := 2) (by decide) ho2)
 replace hB3 : Blk (enter ρA o 2) 100 w0 gr_0 (.cells #[v1] 57 (0, 0)) := hB3
 replace h2 : MapT str api_Client.c true (enter ρA o 2) 101 w0 v1 r_0.of_ := h2
 refine calls_of_ke Tryz.func17 rfl (n := 44) rfl rfl (l := [(0, .pointer (some ⟨gr_0, 0, none⟩)), (1, .agg #[str c_1.ID, .int .i64 c_1.Kind, str c_1.Tenant, str c_1.Secret.Salt, .int .i64 c_1.Secret.Rounds, str c_1.Secret.Hash, v4, v6, str c_1.Logout])]) rfl ?_
 refine ke_seq ?_
 refine ke_region ?_
 refine sr_boxT 5 (by decide) hb.bd rfl (by decide) ?_
 intro g8 ρ9 w10 hB12 htr11
 replace h5 := h5.mv htr11.rd
 replace h7 := h7.mv htr11.rd
 replace hB3 := hB3.mv (htr11.mv (i := 100) rfl)
 replace h2 := h2.mv (htr11.mv (i := 101) rfl)
 replace hb := hb.trans htr11
 replace hB12 : Blk ρ9 5 w10 g8 (.cells #[str c_1.ID, .int .i64 c_1.Kind, str c_1.Tenant, str c_1.Secret.Salt, .int .i64 c_1.Secret.Rounds, str c_1.Secret.Hash, v4, v6, str c_1.Logout] 27 (0, 0)) := hB12
 refine sr_ev (v := .int .i64 0) (ev_assign rfl) (by decide) ?_
 refine sr_end (l' := [(0, .pointer (some ⟨gr_0, 0, none⟩)), (3, .pointer (some ⟨g8, 0, none⟩))]) (.cons rfl (.cons rfl (.nil _))) ?_
 refine ke_seq ?_
 refine ke_seq ?_
 refine ke_region ?_
 refine sr_ev (v := .pointer (some ⟨gr_0, 0, none⟩)) (ev_move rfl) (by decide) ?_
 obtain ⟨y13, hy14, hS⟩ := bind_some' hS
 refine sr_call (vs := [.pointer (some ⟨gr_0, 0, none⟩)]) rfl Tryz.call50 rfl (client_Clients_ready_ok _ (hg.fr hz hb) (ρA := ρ9) hb.bd (hz.fr hg hb) (τ0 := (fun p => 100 + p)) (fun p => Nat.le_add_right_of_le (by decide)) (⟨_, hB3, h2⟩ : client_Clients.O (fun p => 100 + p) ρ9 w10 gr_0 r_0) hy14) (by decide) ?_
 rintro _ w15 ⟨rfl, hbw16⟩
 have htr17 := Tr.of_below hbw16 hb.bd
 replace hB12 := hB12.mv (htr17.mv (i := 5) rfl)
 replace h5 := h5.mv htr17.rd
 replace h7 := h7.mv htr17.rd
 replace hB3 := hB3.mv (htr17.mv (i := 100) rfl)
 replace h2 := h2.mv (htr17.mv (i := 101) rfl)
 replace hb := hb.trans htr17
 refine sr_ev (v := .bool (!y13)) (ev_not rfl) (by decide) ?_
 refine sr_end (l' := [(0, .pointer (some ⟨gr_0, 0, none⟩)), (3, .pointer (some ⟨g8, 0, none⟩)), (10, .bool (!y13))]) (.cons rfl (.cons rfl (.cons rfl (.nil _)))) ?_
 refine ke_cond (t := !y13) rfl (fun hc18 => ?_) (fun hc18 => ?_)
 ·replace hS := ite_true' hS hc18
  refine ke_seq ?_
  refine ke_region ?_
  refine sr_ev (v := .int .i64 1) (ev_assign rfl) (by decide) ?_
  refine sr_end (l' := [(4, .int .i64 1)]) (.cons rfl (.nil _)) ?_
  cases hS
  exact ke_ret1 Tryz.func17 rfl rfl ⟨_, rfl, leave ρA w0 o 2 ρ9, rfl, ⟨_, (hB3.mv (leave_mv (p := 0) (by decide) hb)), (h2.mv (leave_mv (p := 1) (by decide) hb))⟩, (leave_tr ho2 hb)⟩
 ·replace hS := ite_false' hS hc18
  refine ke_skip ?_
  refine ke_seq ?_
  refine ke_seq ?_
  refine ke_region ?_
  refine sr_ev (v := .agg #[str c_1.ID, .int .i64 c_1.Kind, str c_1.Tenant, str c_1.Secret.Salt, .int .i64 c_1.Secret.Rounds, str c_1.Secret.Hash, v4, v6, str c_1.Logout]) (ev_loads (cs := [str c_1.ID, .int .i64 c_1.Kind, str c_1.Tenant, str c_1.Secret.Salt, .int .i64 c_1.Secret.Rounds, str c_1.Secret.Hash, v4, v6, str c_1.Logout]) Tryz.isAgg27 Tryz.sizeOf27 rfl (hB12.cells (vs := [str c_1.ID, .int .i64 c_1.Kind, str c_1.Tenant, str c_1.Secret.Salt, .int .i64 c_1.Secret.Rounds, str c_1.Secret.Hash, v4, v6, str c_1.Logout]) rfl)) (by decide) ?_
  obtain ⟨y19, hy20, hS⟩ := bind_some' hS
  refine sr_call (vs := [.agg #[str c_1.ID, .int .i64 c_1.Kind, str c_1.Tenant, str c_1.Secret.Salt, .int .i64 c_1.Secret.Rounds, str c_1.Secret.Hash, v4, v6, str c_1.Logout]]) rfl Tryz.call12 rfl (client_Check_ok _ (hg.fr hz hb) (ρA := ρ9) hb.bd (hz.fr hg hb) h5 h7 hy20) (by decide) ?_
  rintro _ w21 ⟨rfl, hbw22⟩
  have htr23 := Tr.of_below hbw22 hb.bd
  replace hB12 := hB12.mv (htr23.mv (i := 5) rfl)
  replace h5 := h5.mv htr23.rd
  replace h7 := h7.mv htr23.rd
  replace hB3 := hB3.mv (htr23.mv (i := 100) rfl)
  replace h2 := h2.mv (htr23.mv (i := 101) rfl)
  replace hb := hb.trans htr23
  refine sr_ev (v := .int .i64 y19) (ev_assign rfl) (by decide) ?_
  refine sr_end (l' := [(0, .pointer (some ⟨gr_0, 0, none⟩)), (3, .pointer (some ⟨g8, 0, none⟩)), (5, .int .i64 y19)]) (.cons rfl (.cons rfl (.cons rfl (.nil _)))) ?_
  refine ke_seq ?_
  refine ke_region ?_
  refine sr_ev (v := .int .i64 y19) (ev_move rfl) (by decide) ?_
  refine sr_ev (v := .bool (y19 != 0)) (ev_ne rfl rfl) (by decide) ?_
  refine sr_end (l' := [(0, .pointer (some ⟨gr_0, 0, none⟩)), (3, .pointer (some ⟨g8, 0, none⟩)), (5, .int .i64 y19), (14, .bool (y19 != 0))]) (.cons rfl (.cons rfl (.cons rfl (.cons rfl (.nil _))))) ?_
  refine ke_cond (t := y19 != 0) rfl (fun hc24 => ?_) (fun hc24 => ?_)
  ·replace hS := ite_true' hS hc24
   refine ke_seq ?_
   refine ke_region ?_
   refine sr_ev (v := .int .i64 y19) (ev_move rfl) (by decide) ?_
   refine sr_ev (v := .int .i64 y19) (ev_assign rfl) (by decide) ?_
   refine sr_end (l' := [(4, .int .i64 y19)]) (.cons rfl (.nil _)) ?_
   cases hS
   exact ke_ret1 Tryz.func17 rfl rfl ⟨_, rfl, leave ρA w0 o 2 ρ9, rfl, ⟨_, (hB3.mv (leave_mv (p := 0) (by decide) hb)), (h2.mv (leave_mv (p := 1) (by decide) hb))⟩, (leave_tr ho2 hb)⟩
  ·replace hS := ite_false' hS hc24
   refine ke_skip ?_
   refine ke_seq ?_
   refine ke_seq ?_
   refine ke_region_j (ρ := ρ9) (fun t => ([8] : List Nat).contains t) 13 Tryz.mixed (fun w26 hw25 => ?_)
   have htr27 := Tr.of_below hw25 hb.bd
   replace hB12 := hB12.mv (htr27.mv (i := 5) rfl)
   replace h5 := h5.mv htr27.rd
   replace h7 := h7.mv htr27.rd
   replace hB3 := hB3.mv (htr27.mv (i := 100) rfl)
   replace h2 := h2.mv (htr27.mv (i := 101) rfl)
   replace hb := hb.trans htr27
   refine dj_H 0 (v := .pointer (some ⟨gr_0, 0, none⟩)) (by kernel_rfl) (by kernel_rfl) rfl (fun _ _ _ h => h) (sj_refl hb.bd rfl rfl) (fun w1 ρ1 hw1 => ev_move rfl) (by decide) ?_
   refine dj_H 1 (v := .pointer (some ⟨gr_0, 0, none⟩)) (by kernel_rfl) (by kernel_rfl) rfl (fun _ _ _ h => h) (sj_refl hb.bd rfl rfl) (fun w1 ρ1 hw1 => ev_nilCheck rfl) (by decide) ?_
   refine dj_H 2 (v := .pointer (some ⟨gr_0, 0, none⟩)) (by kernel_rfl) (by kernel_rfl) rfl (fun _ _ _ h => h) (sj_refl hb.bd rfl rfl) (fun w1 ρ1 hw1 => ev_fieldAddr (i := 0) Tryz.underlying57 rfl Tryz.info55 rfl rfl) (by decide) ?_
   refine dj_H 3 (v := v1) (by kernel_rfl) (by kernel_rfl) rfl (fun _ _ _ h => h) (sj_refl hb.bd rfl rfl) (fun w1 ρ1 hw1 => ev_load Tryz.isAgg55 rfl ((hB3.mv (hw1.mv (i := 100) rfl)).cell rfl)) (by decide) ?_
   refine dj_H 4 (v := .pointer (some ⟨g8, 0, none⟩)) (by kernel_rfl) (by kernel_rfl) rfl (fun _ _ _ h => h) (sj_refl hb.bd rfl rfl) (fun w1 ρ1 hw1 => ev_fieldAddr (i := 0) Tryz.underlying27 rfl Tryz.info9 rfl rfl) (by decide) ?_
   refine dj_H 5 (v := str c_1.ID) (by kernel_rfl) (by kernel_rfl) rfl (fun _ _ _ h => h) (sj_refl hb.bd rfl rfl) (fun w1 ρ1 hw1 => ev_load Tryz.isAgg9 rfl ((hB12.mv (hw1.mv (i := 5) rfl)).cell rfl)) (by decide) ?_
   obtain ⟨y71, hy72, hS⟩ := bind_some' hS
   replace hy72 := Option.some.inj hy72
   obtain ⟨cs67, hrd68, hl69, hl70⟩ := h2.look (zcs := [str ([]), .int .i64 0, str ([]), str ([]), .int .i64 0, str ([]), (.slice none 0 0), (.slice none 0 0), str ([])]) (z := (api_Client.mk ([]) 0 ([]) (api_Verifier.mk ([]) 0 ([])) ([] : List Str) ([] : List Str) ([]))) Tryz.keyB9 Tryz.underlying55 Tryz.zeroValue27 ⟨_, _, rfl, SlR.nil, SlR.nil⟩ c_1.ID
   rw [hy72] at hrd68
   obtain ⟨v73, v75, hcshrd68, h74, h76⟩ := hrd68
   obtain rfl : cs67 = [str y71.ID, .int .i64 y71.Kind, str y71.Tenant, str y71.Secret.Salt, .int .i64 y71.Secret.Rounds, str y71.Secret.Hash, v73, v75, str y71.Logout] := hcshrd68
   refine dj_H 6 (v := .tuple #[.agg #[str y71.ID, .int .i64 y71.Kind, str y71.Tenant, str y71.Secret.Salt, .int .i64 y71.Secret.Rounds, str y71.Secret.Hash, v73, v75, str y71.Logout], .bool (mhas r_0.of_ c_1.ID)]) (by kernel_rfl) (by kernel_rfl) rfl (fun _ _ _ h => h) (sj_refl hb.bd rfl rfl) (fun w1 ρ1 hw1 => hl70 w1 _ _ (hw1.mv (i := 101) rfl) rfl rfl) (by decide) ?_
   refine dj_H 7 (v := .tuple #[.agg #[str y71.ID, .int .i64 y71.Kind, str y71.Tenant, str y71.Secret.Salt, .int .i64 y71.Secret.Rounds, str y71.Secret.Hash, v73, v75, str y71.Logout], .bool (mhas r_0.of_ c_1.ID)]) (by kernel_rfl) (by kernel_rfl) rfl (fun _ _ _ h => h) (sj_refl hb.bd rfl rfl) (fun w1 ρ1 hw1 => ev_move rfl) (by decide) ?_
   refine dj_H 8 (v := .agg #[str y71.ID, .int .i64 y71.Kind, str y71.Tenant, str y71.Secret.Salt, .int .i64 y71.Secret.Rounds, str y71.Secret.Hash, v73, v75, str y71.Logout]) (by kernel_rfl) (by kernel_rfl) rfl (fun _ _ _ h => h) (sj_refl hb.bd rfl rfl) (fun w1 ρ1 hw1 => ev_extract rfl rfl) (by decide) ?_
   refine dj_H 9 (v := .bool (mhas r_0.of_ c_1.ID)) (by kernel_rfl) (by kernel_rfl) rfl (fun _ _ _ h => h) (sj_refl hb.bd rfl rfl) (fun w1 ρ1 hw1 => ev_extract rfl rfl) (by decide) ?_
   refine dj_E 10 (by kernel_rfl) rfl ?_
   have jt77 : Tr ρ9 w26 (fun t => ([8] : List Nat).contains t) ρ9 w26 := (Tr.refl hb.bd).weak (fun _ _ => rfl) rfl rfl
   refine sr_allocT 8 (by decide) hb.bd Tryz.zeroValue27 (by decide) ?_
   intro g78 ρ79 w80 hB82 htr81
   replace h74 := h74.mv htr81.rd
   replace h76 := h76.mv htr81.rd
   replace hB12 := hB12.mv (htr81.mv (i := 5) rfl)
   replace h5 := h5.mv htr81.rd
   replace h7 := h7.mv htr81.rd
   replace hB3 := hB3.mv (htr81.mv (i := 100) rfl)
   replace h2 := h2.mv (htr81.mv (i := 101) rfl)
   replace hb := hb.trans htr81
   replace jt77 := (jt77.trans htr81).weak (J' := (fun t => ([8] : List Nat).contains t)) (by intro t h; simp [rng] at h ⊢ <;> omega) rfl rfl
   replace hB82 : Blk ρ79 8 w80 g78 (.cells #[str ([]), .int .i64 0, str ([]), str ([]), .int .i64 0, str ([]), (.slice none 0 0), (.slice none 0 0), str ([])] 27 (0, 0)) := hB82
   refine dj_next (l' := [(0, .pointer (some ⟨gr_0, 0, none⟩)), (3, .pointer (some ⟨g8, 0, none⟩)), (6, .pointer (some ⟨g78, 0, none⟩)), (24, .agg #[str y71.ID, .int .i64 y71.Kind, str y71.Tenant, str y71.Secret.Salt, .int .i64 y71.Secret.Rounds, str y71.Secret.Hash, v73, v75, str y71.Logout]), (25, .bool (mhas r_0.of_ c_1.ID))]) rfl (.cons rfl (.cons rfl (.cons rfl (.cons rfl (.cons rfl (.nil _)))))) jt77 (by intro t h; simp [rng] at h ⊢ <;> omega) rfl rfl ?_
   refine dj_E 11 (by kernel_rfl) rfl ?_
   have jt83 : Tr ρ79 w80 (fun t => ([8] : List Nat).contains t) ρ79 w80 := (Tr.refl hb.bd).weak (fun _ _ => rfl) rfl rfl
   refine sr_storeT (v := .agg #[str y71.ID, .int .i64 y71.Kind, str y71.Tenant, str y71.Secret.Salt, .int .i64 y71.Secret.Rounds, str y71.Secret.Hash, v73, v75, str y71.Logout]) (vs := [str y71.ID, .int .i64 y71.Kind, str y71.Tenant, str y71.Secret.Salt, .int .i64 y71.Secret.Rounds, str y71.Secret.Hash, v73, v75, str y71.Logout]) (cs' := #[str y71.ID, .int .i64 y71.Kind, str y71.Tenant, str y71.Secret.Salt, .int .i64 y71.Secret.Rounds, str y71.Secret.Hash, v73, v75, str y71.Logout]) hB82 (by decide) hb.bd rfl rfl rfl Tryz.sizeOf27 rfl (by first | rfl | (simp only [List.all_cons, List.all_nil, SlR.oneCell h74, SlR.oneCell h76]; done) | (simp only [List.all_cons, List.all_nil, SlR.oneCell h74, SlR.oneCell h76]; rfl)) rfl ?_
   intro w84 hB821 htr85
   replace h74 := h74.mv htr85.rd
   replace h76 := h76.mv htr85.rd
   replace hB12 := hB12.mv (htr85.mv (i := 5) rfl)
   replace h5 := h5.mv htr85.rd
   replace h7 := h7.mv htr85.rd
   replace hB3 := hB3.mv (htr85.mv (i := 100) rfl)
   replace h2 := h2.mv (htr85.mv (i := 101) rfl)
   replace hb := hb.trans htr85
   replace jt83 := (jt83.trans htr85).weak (J' := (fun t => ([8] : List Nat).contains t)) (by intro t h; simp [rng] at h ⊢ <;> omega) rfl rfl
   replace hB82 : Blk ρ79 8 w84 g78 (.cells #[str y71.ID, .int .i64 y71.Kind, str y71.Tenant, str y71.Secret.Salt, .int .i64 y71.Secret.Rounds, str y71.Secret.Hash, v73, v75, str y71.Logout] 27 (0, 0)) := hB821
   clear hB821
   refine dj_next (l' := [(0, .pointer (some ⟨gr_0, 0, none⟩)), (3, .pointer (some ⟨g8, 0, none⟩)), (25, .bool (mhas r_0.of_ c_1.ID))]) rfl (.cons rfl (.cons rfl (.cons rfl (.nil _)))) jt83 (by intro t h; simp [rng] at h ⊢ <;> omega) rfl rfl ?_
   refine dj_H 12 (v := .bool (mhas r_0.of_ c_1.ID)) (by kernel_rfl) (by kernel_rfl) rfl (fun _ _ _ h => h) (sj_refl hb.bd rfl rfl) (fun w1 ρ1 hw1 => ev_assign rfl) (by decide) ?_
   refine dj_done rfl (by kernel_rfl) ?_
   refine ke_weaken (l' := [(0, .pointer (some ⟨gr_0, 0, none⟩)), (3, .pointer (some ⟨g8, 0, none⟩)), (7, .bool (mhas r_0.of_ c_1.ID))]) (.cons rfl (.cons rfl (.cons rfl (.nil _)))) ?_
   refine ke_seq ?_
   refine ke_region ?_
   refine sr_ev (v := .bool (mhas r_0.of_ c_1.ID)) (ev_move rfl) (by decide) ?_
   refine sr_ev (v := .bool (!(mhas r_0.of_ c_1.ID))) (ev_not rfl) (by decide) ?_
   refine sr_ev (v := .bool (!(mhas r_0.of_ c_1.ID))) (ev_move rfl) (by decide) ?_
   refine sr_join (m := 7) (C := fun (x : Bool) w1 => x = ((!(mhas r_0.of_ c_1.ID)) && (decide ((mlen r_0.of_) ≥ 256))) ∧ w84 = w1) (l' := fun x => [(0, .pointer (some ⟨gr_0, 0, none⟩)), (3, .pointer (some ⟨g8, 0, none⟩)), (35, .bool x)]) ?_ ?_
   ·rintro _ _ ⟨rfl, rfl⟩
    refine sr_end (l' := [(0, .pointer (some ⟨gr_0, 0, none⟩)), (3, .pointer (some ⟨g8, 0, none⟩)), (35, .bool ((!(mhas r_0.of_ c_1.ID)) && (decide ((mlen r_0.of_) ≥ 256))))]) (.cons rfl (.cons rfl (.cons rfl (.nil _)))) ?_
    refine ke_cond (t := (!(mhas r_0.of_ c_1.ID)) && (decide ((mlen r_0.of_) ≥ 256))) rfl (fun hc94 => ?_) (fun hc94 => ?_)
    ·replace hS := ite_true' hS hc94
     refine ke_seq ?_
     refine ke_region ?_
     refine sr_ev (v := .int .i64 3) (ev_assign rfl) (by decide) ?_
     refine sr_end (l' := [(4, .int .i64 3)]) (.cons rfl (.nil _)) ?_
     cases hS
     exact ke_ret1 Tryz.func17 rfl rfl ⟨_, rfl, leave ρA w0 o 2 ρ79, rfl, ⟨_, (hB3.mv (leave_mv (p := 0) (by decide) hb)), (h2.mv (leave_mv (p := 1) (by decide) hb))⟩, (leave_tr ho2 hb)⟩
    ·replace hS := ite_false' hS hc94
     refine ke_skip ?_
     refine ke_seq ?_
     refine ke_region_j (ρ := ρ79) (fun t => ([101] : List Nat).contains t) 9 Tryz.mixed (fun w96 hw95 => ?_)
     have htr97 := Tr.of_below hw95 hb.bd
     replace hB12 := hB12.mv (htr97.mv (i := 5) rfl)
     replace h5 := h5.mv htr97.rd
     replace h7 := h7.mv htr97.rd
     replace hB3 := hB3.mv (htr97.mv (i := 100) rfl)
     replace h2 := h2.mv (htr97.mv (i := 101) rfl)
     replace hb := hb.trans htr97
     refine dj_H 0 (v := .pointer (some ⟨gr_0, 0, none⟩)) (by kernel_rfl) (by kernel_rfl) rfl (fun _ _ _ h => h) (sj_refl hb.bd rfl rfl) (fun w1 ρ1 hw1 => ev_move rfl) (by decide) ?_
     refine dj_H 1 (v := .pointer (some ⟨gr_0, 0, none⟩)) (by kernel_rfl) (by kernel_rfl) rfl (fun _ _ _ h => h) (sj_refl hb.bd rfl rfl) (fun w1 ρ1 hw1 => ev_nilCheck rfl) (by decide) ?_
     refine dj_H 2 (v := .pointer (some ⟨gr_0, 0, none⟩)) (by kernel_rfl) (by kernel_rfl) rfl (fun _ _ _ h => h) (sj_refl hb.bd rfl rfl) (fun w1 ρ1 hw1 => ev_fieldAddr (i := 0) Tryz.underlying57 rfl Tryz.info55 rfl rfl) (by decide) ?_
     refine dj_H 3 (v := v1) (by kernel_rfl) (by kernel_rfl) rfl (fun _ _ _ h => h) (sj_refl hb.bd rfl rfl) (fun w1 ρ1 hw1 => ev_load Tryz.isAgg55 rfl ((hB3.mv (hw1.mv (i := 100) rfl)).cell rfl)) (by decide) ?_
     refine dj_H 4 (v := .pointer (some ⟨g8, 0, none⟩)) (by kernel_rfl) (by kernel_rfl) rfl (fun _ _ _ h => h) (sj_refl hb.bd rfl rfl) (fun w1 ρ1 hw1 => ev_fieldAddr (i := 0) Tryz.underlying27 rfl Tryz.info9 rfl rfl) (by decide) ?_
     refine dj_H 5 (v := str c_1.ID) (by kernel_rfl) (by kernel_rfl) rfl (fun _ _ _ h => h) (sj_refl hb.bd rfl rfl) (fun w1 ρ1 hw1 => ev_load Tryz.isAgg9 rfl ((hB12.mv (hw1.mv (i := 5) rfl)).cell rfl)) (by decide) ?_
     refine dj_H 6 (v := .agg #[str c_1.ID, .int .i64 c_1.Kind, str c_1.Tenant, str c_1.Secret.Salt, .int .i64 c_1.Secret.Rounds, str c_1.Secret.Hash, v4, v6, str c_1.Logout]) (by kernel_rfl) (by kernel_rfl) rfl (fun _ _ _ h => h) (sj_refl hb.bd rfl rfl) (fun w1 ρ1 hw1 => ev_loads (cs := [str c_1.ID, .int .i64 c_1.Kind, str c_1.Tenant, str c_1.Secret.Salt, .int .i64 c_1.Secret.Rounds, str c_1.Secret.Hash, v4, v6, str c_1.Logout]) Tryz.isAgg27 Tryz.sizeOf27 rfl ((hB12.mv (hw1.mv (i := 5) rfl)).cells (vs := [str c_1.ID, .int .i64 c_1.Kind, str c_1.Tenant, str c_1.Secret.Salt, .int .i64 c_1.Secret.Rounds, str c_1.Secret.Hash, v4, v6, str c_1.Logout]) rfl)) (by decide) ?_
     refine dj_E 7 (by kernel_rfl) rfl ?_
     have jt127 : Tr ρ79 w96 (fun t => ([101] : List Nat).contains t) ρ79 w96 := (Tr.refl hb.bd).weak (fun _ _ => rfl) rfl rfl
     obtain ⟨y128, hy129, hS⟩ := bind_some' hS
     refine sr_call (vs := [.agg #[str c_1.ID, .int .i64 c_1.Kind, str c_1.Tenant, str c_1.Secret.Salt, .int .i64 c_1.Secret.Rounds, str c_1.Secret.Hash, v4, v6, str c_1.Logout]]) rfl Tryz.call51 rfl (client_own_ok _ (hg.fr hz hb) (ρA := ρ79) hb.bd (hz.fr hg hb) h5 h7 hy129) (by decide) ?_
     rintro _ w130 ⟨v133, v135, rfl, h134, h136, hbw131⟩
     have htr132 := Tr.of_below hbw131 hb.bd
     replace h2 := h2.mv (htr132.mv (i := 101) rfl)
     replace hB3 := hB3.mv (htr132.mv (i := 100) rfl)
     replace hb := hb.trans htr132
     replace jt127 := (jt127.trans htr132).weak (J' := (fun t => ([101] : List Nat).contains t)) (by intro t h; simp [rng] at h ⊢ <;> omega) rfl rfl
     refine dj_next (l' := [(39, v1), (41, str c_1.ID), (43, .agg #[str y128.ID, .int .i64 y128.Kind, str y128.Tenant, str y128.Secret.Salt, .int .i64 y128.Secret.Rounds, str y128.Secret.Hash, v133, v135, str y128.Logout])]) rfl (.cons rfl (.cons rfl (.cons rfl (.nil _)))) jt127 (by intro t h; simp [rng] at h ⊢ <;> omega) rfl rfl ?_
     refine dj_E 8 (by kernel_rfl) rfl ?_
     have jt137 : Tr ρ79 w130 (fun t => ([101] : List Nat).contains t) ρ79 w130 := (Tr.refl hb.bd).weak (fun _ _ => rfl) rfl rfl
     obtain ⟨hk138, hS⟩ := chk_some hS
     refine sr_mapPut (k := c_1.ID) (d := y128) (u := .agg #[str y128.ID, .int .i64 y128.Kind, str y128.Tenant, str y128.Secret.Salt, .int .i64 y128.Secret.Rounds, str y128.Secret.Hash, v133, v135, str y128.Logout]) (cs := [str y128.ID, .int .i64 y128.Kind, str y128.Tenant, str y128.Secret.Salt, .int .i64 y128.Secret.Rounds, str y128.Secret.Hash, v133, v135, str y128.Logout]) h2 hk138 Tryz.keyB9 Tryz.underlying55 (by decide) hb.bd rfl ⟨_, _, rfl, h134, h136⟩ rfl rfl rfl ?_
     intro w139 h21 htr140
     replace hB3 := hB3.mv (htr140.mv (i := 100) rfl)
     replace hb := hb.trans htr140
     replace jt137 := (jt137.trans htr140).weak (J' := (fun t => ([101] : List Nat).contains t)) (by intro t h; simp [rng] at h ⊢ <;> omega) rfl rfl
     replace h2 := h21
     clear h21
     refine dj_next (l' := []) rfl (.nil _) jt137 (by intro t h; simp [rng] at h ⊢ <;> omega) rfl rfl ?_
     refine dj_done rfl (by kernel_rfl) ?_
     refine ke_weaken (l' := []) (.nil _) ?_
     refine ke_seq ?_
     refine ke_region ?_
     refine sr_ev (v := .int .i64 0) (ev_assign rfl) (by decide) ?_
     refine sr_end (l' := [(4, .int .i64 0)]) (.cons rfl (.nil _)) ?_
     cases hS
     exact ke_ret1 Tryz.func17 rfl rfl ⟨_, rfl, leave ρA w0 o 2 ρ79, rfl, ⟨_, (hB3.mv (leave_mv (p := 0) (by decide) hb)), (h2.mv (leave_mv (p := 1) (by decide) hb))⟩, (leave_tr ho2 hb)⟩
   ·intro K87
    rcases Bool.eq_false_or_eq_true (!(mhas r_0.of_ c_1.ID)) with hg86 | hg86
    all_goals try have hj89 : Tr ρ79 w84 (fun _ => false) ρ79 w84 := Tr.refl hb.bd
    ·refine sr_evg (b := true) (e := 28) rfl rfl hg86 (v := .pointer (some ⟨gr_0, 0, none⟩)) (ev_move rfl) (by decide) ?_
     refine sr_evg (b := true) (e := 28) rfl rfl hg86 (v := .pointer (some ⟨gr_0, 0, none⟩)) (ev_nilCheck rfl) (by decide) ?_
     refine sr_evg (b := true) (e := 28) rfl rfl hg86 (v := .pointer (some ⟨gr_0, 0, none⟩)) (ev_fieldAddr (i := 0) Tryz.underlying57 rfl Tryz.info55 rfl rfl) (by decide) ?_
     refine sr_evg (b := true) (e := 28) rfl rfl hg86 (v := v1) (ev_load Tryz.isAgg55 rfl (hB3.cell rfl)) (by decide) ?_
     refine sr_evg (b := true) (e := 28) rfl rfl hg86 (v := .int .i64 (mlen r_0.of_)) (ev_mapLen h2 Tryz.underlying55 (Mv.of_below (i := 101) (ρ := ρ79) (Below.refl _ _)) rfl) (by decide) ?_
     refine sr_evg (b := true) (e := 28) rfl rfl hg86 (v := .bool (decide ((mlen r_0.of_) ≥ 256))) (ev_ge rfl rfl) (by decide) ?_
     refine sr_ev (v := .bool (decide ((mlen r_0.of_) ≥ 256))) (ev_pick_t rfl hg86 rfl) (by decide) ?_
     exact sr_weaken (l' := [(0, .pointer (some ⟨gr_0, 0, none⟩)), (3, .pointer (some ⟨g8, 0, none⟩)), (35, .bool (decide ((mlen r_0.of_) ≥ 256)))]) (.cons rfl (.cons rfl (.cons rfl (.nil _)))) (K87 (decide ((mlen r_0.of_) ≥ 256)) _ ⟨by first | (rw [hg86]; rfl) | rfl, rfl⟩)
    ·refine sr_pass (e := 28) rfl rfl (by rw [hg86]; rfl) (by decide) ?_
     refine sr_pass (e := 28) rfl rfl (by rw [hg86]; rfl) (by decide) ?_
     refine sr_pass (e := 28) rfl rfl (by rw [hg86]; rfl) (by decide) ?_
     refine sr_pass (e := 28) rfl rfl (by rw [hg86]; rfl) (by decide) ?_
     refine sr_pass (e := 28) rfl rfl (by rw [hg86]; rfl) (by decide) ?_
     refine sr_pass (e := 28) rfl rfl (by rw [hg86]; rfl) (by decide) ?_
     refine sr_ev (v := .bool false) (ev_pick_f rfl hg86 rfl) (by decide) ?_
     exact sr_weaken (l' := [(0, .pointer (some ⟨gr_0, 0, none⟩)), (3, .pointer (some ⟨g8, 0, none⟩)), (35, .bool false)]) (.cons rfl (.cons rfl (.cons rfl (.nil _)))) (K87 false _ ⟨by first | (rw [hg86]; rfl) | rfl, rfl⟩)
theorem client_Clients_find_ok (w0 : World) (hg : Gs w0) {ρA : Tags} (hbd : ∀ b, ρA b ≠ 0 → b < w0.heap.size) (hz : Gz ρA) {τ0 : Nat → Nat} (hτ0 : ∀ p, 1 ≤ τ0 p) {r_0 : client_Clients} {id_1 : Str} {gr_0 : Nat} {r : api_Client × Int} (ho0 : client_Clients.O τ0 ρA w0 gr_0 r_0) (hS : client_Clients_find r_0 id_1 = some r) :
  Calls Tryz.prog 54 #[.pointer (some ⟨gr_0, 0, none⟩), str id_1] w0 (Ret (fun v w' => ∃ x1 x2, v = .tuple #[.agg #[str r.1.ID, .int .i64 r.1.Kind, str r.1.Tenant, str r.1.Secret.Salt, .int .i64 r.1.Secret.Rounds, str r.1.Secret.Hash, x1, x2, str r.1.Logout], .int .i64 r.2] ∧ SlR strC (Wb ρA) w' x1 r.1.Redirects ∧ SlR strC (Wb ρA) w' x2 r.1.Scopes ∧ Below w0.heap.size w0 w')) := by
 unfold client_Clients_find at hS
 have hb := flat1_fr (ρ := ρA) (w := w0) hbd
 have hz := hz.flat1
 obtain ⟨v1, hB3, h2⟩ := ho0
 replace hB3 := hB3.mv (flat1_mv (hτ0 0))
 replace h2 := h2.mv (flat1_mv (hτ0 1))
 replace hB3 : Blk (flat1 ρA) 1 w0 gr_0 (.cells #[v1] 57 (0, 0)) := hB3
 replace h2 : MapT str api_Client.c true (flat1 ρA) 1 w0 v1 r_0.of_ := h2
 refine calls_of_ke Tryz.func54 rfl (n := 25) rfl rfl (l := [(0, .pointer (some ⟨gr_0, 0, none⟩)), (1, str id_1)]) rfl ?_
 refine ke_seq ?_
 refine ke_region ?_
 refine sr_allocT 6 (by decide) hb.bd Tryz.zeroValue27 (by decide) ?_
 intro g8 ρ9 w10 hB12 htr11
 replace hB3 := hB3.mv (htr11.mv (i := 1) rfl)
 replace h2 := h2.mv (htr11.mv (i := 1) rfl)
 replace hb := hb.trans htr11
 replace hB12 : Blk ρ9 6 w10 g8 (.cells #[str ([]), .int .i64 0, str ([]), str ([]), .int .i64 0, str ([]), (.slice none 0 0), (.slice none 0 0), str ([])] 27 (0, 0)) := hB12
 refine sr_ev (v := .int .i64 0) (ev_assign rfl) (by decide) ?_
 refine sr_end (l' := [(0, .pointer (some ⟨gr_0, 0, none⟩)), (1, str id_1), (4, .pointer (some ⟨g8, 0, none⟩))]) (.cons rfl (.cons rfl (.cons rfl (.nil _)))) ?_
 refine ke_seq ?_
 refine ke_seq ?_
 refine ke_region ?_
 refine sr_ev (v := .pointer (some ⟨gr_0, 0, none⟩)) (ev_move rfl) (by decide) ?_
 obtain ⟨y13, hy14, hS⟩ := bind_some' hS
 refine sr_call (vs := [.pointer (some ⟨gr_0, 0, none⟩)]) rfl Tryz.call50 rfl (client_Clients_ready_ok _ (hg.fr hz hb) (ρA := ρ9) hb.bd (hz.fr hg hb) (τ0 := (fun _ => 1)) (fun _ => by decide) (⟨_, hB3, h2⟩ : client_Clients.O (fun _ => 1) ρ9 w10 gr_0 r_0) hy14) (by decide) ?_
 rintro _ w15 ⟨rfl, hbw16⟩
 have htr17 := Tr.of_below hbw16 hb.bd
 replace hB12 := hB12.mv (htr17.mv (i := 6) rfl)
 replace hB3 := hB3.mv (htr17.mv (i := 1) rfl)
 replace h2 := h2.mv (htr17.mv (i := 1) rfl)
 replace hb := hb.trans htr17
 refine sr_ev (v := .bool (!y13)) (ev_not rfl) (by decide) ?_
 refine sr_end (l' := [(0, .pointer (some ⟨gr_0, 0, none⟩)), (1, str id_1), (4, .pointer (some ⟨g8, 0, none⟩)), (10, .bool (!y13))]) (.cons rfl (.cons rfl (.cons rfl (.cons rfl (.nil _))))) ?_
 refine ke_cond (t := !y13) rfl (fun hc18 => ?_) (fun hc18 => ?_)
 ·replace hS := ite_true' hS hc18
  refine ke_seq ?_
  refine ke_region ?_
  refine sr_ev (v := .agg #[str ([]), .int .i64 0, str ([]), str ([]), .int .i64 0, str ([]), (.slice none 0 0), (.slice none 0 0), str ([])]) (ev_build (vs := #[]) rfl (fun _ => by kernel_rfl)) (by decide) ?_
  refine sr_storeT (v := .agg #[str ([]), .int .i64 0, str ([]), str ([]), .int .i64 0, str ([]), (.slice none 0 0), (.slice none 0 0), str ([])]) (vs := [str ([]), .int .i64 0, str ([]), str ([]), .int .i64 0, str ([]), (.slice none 0 0), (.slice none 0 0), str ([])]) (cs' := #[str ([]), .int .i64 0, str ([]), str ([]), .int .i64 0, str ([]), (.slice none 0 0), (.slice none 0 0), str ([])]) hB12 (by decide) hb.bd rfl rfl rfl Tryz.sizeOf27 rfl rfl rfl ?_
  intro w19 hB121 htr20
  replace hb := hb.trans htr20
  replace hB12 : Blk ρ9 6 w19 g8 (.cells #[str ([]), .int .i64 0, str ([]), str ([]), .int .i64 0, str ([]), (.slice none 0 0), (.slice none 0 0), str ([])] 27 (0, 0)) := hB121
  clear hB121
  refine sr_ev (v := .int .i64 1) (ev_assign rfl) (by decide) ?_
  refine sr_end (l' := [(4, .pointer (some ⟨g8, 0, none⟩)), (5, .int .i64 1)]) (.cons rfl (.cons rfl (.nil _))) ?_
  cases hS
  exact ke_ret (rs := [.cell 4 27, .tmp 5]) (vs := [.agg #[str ([]), .int .i64 0, str ([]), str ([]), .int .i64 0, str ([]), (.slice none 0 0), (.slice none 0 0), str ([])], .int .i64 1]) Tryz.func54 rfl ⟨⟨_, rfl, run_loadVar_s (cs := [str ([]), .int .i64 0, str ([]), str ([]), .int .i64 0, str ([]), (.slice none 0 0), (.slice none 0 0), str ([])]) Tryz.isAgg27 Tryz.sizeOf27 (hB12.cells (vs := [str ([]), .int .i64 0, str ([]), str ([]), .int .i64 0, str ([]), (.slice none 0 0), (.slice none 0 0), str ([])]) rfl)⟩, rfl, trivial⟩ rfl ⟨_, rfl, _, _, rfl, SlR.nil, SlR.nil, (hb.below (flat1_le _))⟩
 ·replace hS := ite_false' hS hc18
  refine ke_skip ?_
  refine ke_seq ?_
  refine ke_region ?_
  refine sr_ev (v := .pointer (some ⟨gr_0, 0, none⟩)) (ev_move rfl) (by decide) ?_
  refine sr_ev (v := .pointer (some ⟨gr_0, 0, none⟩)) (ev_nilCheck rfl) (by decide) ?_
  refine sr_ev (v := .pointer (some ⟨gr_0, 0, none⟩)) (ev_fieldAddr (i := 0) Tryz.underlying57 rfl Tryz.info55 rfl rfl) (by decide) ?_
  refine sr_ev (v := v1) (ev_load Tryz.isAgg55 rfl (hB3.cell rfl)) (by decide) ?_
  refine sr_ev (v := str id_1) (ev_move rfl) (by decide) ?_
  obtain ⟨y25, hy26, hS⟩ := bind_some' hS
  replace hy26 := Option.some.inj hy26
  obtain ⟨cs21, hrd22, hl23, hl24⟩ := h2.look (zcs := [str ([]), .int .i64 0, str ([]), str ([]), .int .i64 0, str ([]), (.slice none 0 0), (.slice none 0 0), str ([])]) (z := (api_Client.mk ([]) 0 ([]) (api_Verifier.mk ([]) 0 ([])) ([] : List Str) ([] : List Str) ([]))) Tryz.keyB9 Tryz.underlying55 Tryz.zeroValue27 ⟨_, _, rfl, SlR.nil, SlR.nil⟩ id_1
  rw [hy26] at hrd22
  obtain ⟨v27, v29, hcshrd22, h28, h30⟩ := hrd22
  obtain rfl : cs21 = [str y25.ID, .int .i64 y25.Kind, str y25.Tenant, str y25.Secret.Salt, .int .i64 y25.Secret.Rounds, str y25.Secret.Hash, v27, v29, str y25.Logout] := hcshrd22
  refine sr_ev (v := .tuple #[.agg #[str y25.ID, .int .i64 y25.Kind, str y25.Tenant, str y25.Secret.Salt, .int .i64 y25.Secret.Rounds, str y25.Secret.Hash, v27, v29, str y25.Logout], .bool (mhas r_0.of_ id_1)]) (hl24 w15 _ _ (Mv.of_below (i := 1) (ρ := ρ9) (Below.refl _ _)) rfl rfl) (by decide) ?_
  refine sr_ev (v := .tuple #[.agg #[str y25.ID, .int .i64 y25.Kind, str y25.Tenant, str y25.Secret.Salt, .int .i64 y25.Secret.Rounds, str y25.Secret.Hash, v27, v29, str y25.Logout], .bool (mhas r_0.of_ id_1)]) (ev_move rfl) (by decide) ?_
  refine sr_ev (v := .agg #[str y25.ID, .int .i64 y25.Kind, str y25.Tenant, str y25.Secret.Salt, .int .i64 y25.Secret.Rounds, str y25.Secret.Hash, v27, v29, str y25.Logout]) (ev_extract rfl rfl) (by decide) ?_
  refine sr_ev (v := .bool (mhas r_0.of_ id_1)) (ev_extract rfl rfl) (by decide) ?_
  refine sr_allocT 8 (by decide) hb.bd Tryz.zeroValue27 (by decide) ?_
  intro g31 ρ32 w33 hB35 htr34
  replace h28 := h28.mv htr34.rd
  replace h30 := h30.mv htr34.rd
  replace hB12 := hB12.mv (htr34.mv (i := 6) rfl)
  replace hb := hb.trans htr34
  replace hB35 : Blk ρ32 8 w33 g31 (.cells #[str ([]), .int .i64 0, str ([]), str ([]), .int .i64 0, str ([]), (.slice none 0 0), (.slice none 0 0), str ([])] 27 (0, 0)) := hB35
  refine sr_storeT (v := .agg #[str y25.ID, .int .i64 y25.Kind, str y25.Tenant, str y25.Secret.Salt, .int .i64 y25.Secret.Rounds, str y25.Secret.Hash, v27, v29, str y25.Logout]) (vs := [str y25.ID, .int .i64 y25.Kind, str y25.Tenant, str y25.Secret.Salt, .int .i64 y25.Secret.Rounds, str y25.Secret.Hash, v27, v29, str y25.Logout]) (cs' := #[str y25.ID, .int .i64 y25.Kind, str y25.Tenant, str y25.Secret.Salt, .int .i64 y25.Secret.Rounds, str y25.Secret.Hash, v27, v29, str y25.Logout]) hB35 (by decide) hb.bd rfl rfl rfl Tryz.sizeOf27 rfl (by first | rfl | (simp only [List.all_cons, List.all_nil, SlR.oneCell h28, SlR.oneCell h30]; done) | (simp only [List.all_cons, List.all_nil, SlR.oneCell h28, SlR.oneCell h30]; rfl)) rfl ?_
  intro w36 hB351 htr37
  replace h28 := h28.mv htr37.rd
  replace h30 := h30.mv htr37.rd
  replace hB12 := hB12.mv (htr37.mv (i := 6) rfl)
  replace hb := hb.trans htr37
  replace hB35 : Blk ρ32 8 w36 g31 (.cells #[str y25.ID, .int .i64 y25.Kind, str y25.Tenant, str y25.Secret.Salt, .int .i64 y25.Secret.Rounds, str y25.Secret.Hash, v27, v29, str y25.Logout] 27 (0, 0)) := hB351
  clear hB351
  refine sr_ev (v := .bool (mhas r_0.of_ id_1)) (ev_assign rfl) (by decide) ?_
  refine sr_end (l' := [(4, .pointer (some ⟨g8, 0, none⟩)), (6, .pointer (some ⟨g31, 0, none⟩)), (7, .bool (mhas r_0.of_ id_1))]) (.cons rfl (.cons rfl (.cons rfl (.nil _)))) ?_
  refine ke_seq ?_
  refine ke_seq ?_
  refine ke_region ?_
  refine sr_ev (v := .bool (mhas r_0.of_ id_1)) (ev_move rfl) (by decide) ?_
  refine sr_ev (v := .bool (!(mhas r_0.of_ id_1))) (ev_not rfl) (by decide) ?_
  refine sr_end (l' := [(4, .pointer (some ⟨g8, 0, none⟩)), (6, .pointer (some ⟨g31, 0, none⟩)), (22, .bool (!(mhas r_0.of_ id_1)))]) (.cons rfl (.cons rfl (.cons rfl (.nil _)))) ?_
  refine ke_cond (t := !(mhas r_0.of_ id_1)) rfl (fun hc38 => ?_) (fun hc38 => ?_)
  ·replace hS := ite_true' hS hc38
   refine ke_seq ?_
   refine ke_region ?_
   refine sr_ev (v := .agg #[str ([]), .int .i64 0, str ([]), str ([]), .int .i64 0, str ([]), (.slice none 0 0), (.slice none 0 0), str ([])]) (ev_build (vs := #[]) rfl (fun _ => by kernel_rfl)) (by decide) ?_
   refine sr_storeT (v := .agg #[str ([]), .int .i64 0, str ([]), str ([]), .int .i64 0, str ([]), (.slice none 0 0), (.slice none 0 0), str ([])]) (vs := [str ([]), .int .i64 0, str ([]), str ([]), .int .i64 0, str ([]), (.slice none 0 0), (.slice none 0 0), str ([])]) (cs' := #[str ([]), .int .i64 0, str ([]), str ([]), .int .i64 0, str ([]), (.slice none 0 0), (.slice none 0 0), str ([])]) hB12 (by decide) hb.bd rfl rfl rfl Tryz.sizeOf27 rfl rfl rfl ?_
   intro w39 hB121 htr40
   replace hb := hb.trans htr40
   replace hB12 : Blk ρ32 6 w39 g8 (.cells #[str ([]), .int .i64 0, str ([]), str ([]), .int .i64 0, str ([]), (.slice none 0 0), (.slice none 0 0), str ([])] 27 (0, 0)) := hB121
   clear hB121
   refine sr_ev (v := .int .i64 6) (ev_assign rfl) (by decide) ?_
   refine sr_end (l' := [(4, .pointer (some ⟨g8, 0, none⟩)), (5, .int .i64 6)]) (.cons rfl (.cons rfl (.nil _))) ?_
   cases hS
   exact ke_ret (rs := [.cell 4 27, .tmp 5]) (vs := [.agg #[str ([]), .int .i64 0, str ([]), str ([]), .int .i64 0, str ([]), (.slice none 0 0), (.slice none 0 0), str ([])], .int .i64 6]) Tryz.func54 rfl ⟨⟨_, rfl, run_loadVar_s (cs := [str ([]), .int .i64 0, str ([]), str ([]), .int .i64 0, str ([]), (.slice none 0 0), (.slice none 0 0), str ([])]) Tryz.isAgg27 Tryz.sizeOf27 (hB12.cells (vs := [str ([]), .int .i64 0, str ([]), str ([]), .int .i64 0, str ([]), (.slice none 0 0), (.slice none 0 0), str ([])]) rfl)⟩, rfl, trivial⟩ rfl ⟨_, rfl, _, _, rfl, SlR.nil, SlR.nil, (hb.below (flat1_le _))⟩
  ·replace hS := ite_false' hS hc38
   refine ke_skip ?_
   refine ke_seq ?_
   refine ke_region ?_
   refine sr_ev (v := .agg #[str y25.ID, .int .i64 y25.Kind, str y25.Tenant, str y25.Secret.Salt, .int .i64 y25.Secret.Rounds, str y25.Secret.Hash, v27, v29, str y25.Logout]) (ev_loads (cs := [str y25.ID, .int .i64 y25.Kind, str y25.Tenant, str y25.Secret.Salt, .int .i64 y25.Secret.Rounds, str y25.Secret.Hash, v27, v29, str y25.Logout]) Tryz.isAgg27 Tryz.sizeOf27 rfl (hB35.cells (vs := [str y25.ID, .int .i64 y25.Kind, str y25.Tenant, str y25.Secret.Salt, .int .i64 y25.Secret.Rounds, str y25.Secret.Hash, v27, v29, str y25.Logout]) rfl)) (by decide) ?_
   refine sr_storeT (v := .agg #[str y25.ID, .int .i64 y25.Kind, str y25.Tenant, str y25.Secret.Salt, .int .i64 y25.Secret.Rounds, str y25.Secret.Hash, v27, v29, str y25.Logout]) (vs := [str y25.ID, .int .i64 y25.Kind, str y25.Tenant, str y25.Secret.Salt, .int .i64 y25.Secret.Rounds, str y25.Secret.Hash, v27, v29, str y25.Logout]) (cs' := #[str y25.ID, .int .i64 y25.Kind, str y25.Tenant, str y25.Secret.Salt, .int .i64 y25.Secret.Rounds, str y25.Secret.Hash, v27, v29, str y25.Logout]) hB12 (by decide) hb.bd rfl rfl rfl Tryz.sizeOf27 rfl (by first | rfl | (simp only [List.all_cons, List.all_nil, SlR.oneCell h28, SlR.oneCell h30]; done) | (simp only [List.all_cons, List.all_nil, SlR.oneCell h28, SlR.oneCell h30]; rfl)) rfl ?_
   intro w41 hB121 htr42
   replace h28 := h28.mv htr42.rd
   replace h30 := h30.mv htr42.rd
   replace hb := hb.trans htr42
   replace hB12 : Blk ρ32 6 w41 g8 (.cells #[str y25.ID, .int .i64 y25.Kind, str y25.Tenant, str y25.Secret.Salt, .int .i64 y25.Secret.Rounds, str y25.Secret.Hash, v27, v29, str y25.Logout] 27 (0, 0)) := hB121
   clear hB121
   refine sr_ev (v := .int .i64 0) (ev_assign rfl) (by decide) ?_
   refine sr_end (l' := [(4, .pointer (some ⟨g8, 0, none⟩)), (5, .int .i64 0)]) (.cons rfl (.cons rfl (.nil _))) ?_
   cases hS
   exact ke_ret (rs := [.cell 4 27, .tmp 5]) (vs := [.agg #[str y25.ID, .int .i64 y25.Kind, str y25.Tenant, str y25.Secret.Salt, .int .i64 y25.Secret.Rounds, str y25.Secret.Hash, v27, v29, str y25.Logout], .int .i64 0]) Tryz.func54 rfl ⟨⟨_, rfl, run_loadVar_s (cs := [str y25.ID, .int .i64 y25.Kind, str y25.Tenant, str y25.Secret.Salt, .int .i64 y25.Secret.Rounds, str y25.Secret.Hash, v27, v29, str y25.Logout]) Tryz.isAgg27 Tryz.sizeOf27 (hB12.cells (vs := [str y25.ID, .int .i64 y25.Kind, str y25.Tenant, str y25.Secret.Salt, .int .i64 y25.Secret.Rounds, str y25.Secret.Hash, v27, v29, str y25.Logout]) rfl)⟩, rfl, trivial⟩ rfl ⟨_, rfl, _, _, rfl, (SlR.mv h28 (flat1_back hb hbd)), (SlR.mv h30 (flat1_back hb hbd)), (hb.below (flat1_le _))⟩
theorem client_Clients_Redirect_ok (w0 : World) (hg : Gs w0) {ρA : Tags} (hbd : ∀ b, ρA b ≠ 0 → b < w0.heap.size) (hz : Gz ρA) {τ0 : Nat → Nat} (hτ0 : ∀ p, 1 ≤ τ0 p) {r_0 : client_Clients} {id_1 : Str} {address_2 : Str} {gr_0 : Nat} {r : Int} (ho0 : client_Clients.O τ0 ρA w0 gr_0 r_0) (hS : client_Clients_Redirect r_0 id_1 address_2 = some r) :
  Calls Tryz.prog 27 #[.pointer (some ⟨gr_0, 0, none⟩), str id_1, str address_2] w0 (Ret (fun v w' => v = .int .i64 r ∧ Below w0.heap.size w0 w')) := by
 unfold client_Clients_Redirect at hS
 have hb := flat1_fr (ρ := ρA) (w := w0) hbd
 have hz := hz.flat1
 obtain ⟨v1, hB3, h2⟩ := ho0
 replace hB3 := hB3.mv (flat1_mv (hτ0 0))
 replace h2 := h2.mv (flat1_mv (hτ0 1))
 replace hB3 : Blk (flat1 ρA) 1 w0 gr_0 (.cells #[v1] 57 (0, 0)) := hB3
 replace h2 : MapT str api_Client.c true (flat1 ρA) 1 w0 v1 r_0.of_ := h2
 refine calls_of_ke Tryz.func27 rfl (n := 25) rfl rfl (l := [(0, .pointer (some ⟨gr_0, 0, none⟩)), (1, str id_1), (2, str address_2)]) rfl ?_
 refine ke_seq ?_
 refine ke_region ?_
 refine sr_ev (v := .int .i64 0) (ev_assign rfl) (by decide) ?_
 refine sr_end (l' := [(0, .pointer (some ⟨gr_0, 0, none⟩)), (1, str id_1), (2, str address_2)]) (.cons rfl (.cons rfl (.cons rfl (.nil _)))) ?_
 refine ke_seq ?_
 refine ke_region ?_
 refine sr_ev (v := .pointer (some ⟨gr_0, 0, none⟩)) (ev_move rfl) (by decide) ?_
 refine sr_ev (v := str id_1) (ev_move rfl) (by decide) ?_
 obtain ⟨y4, hy5, hS⟩ := bind_some' hS
 refine sr_call (vs := [.pointer (some ⟨gr_0, 0, none⟩), str id_1]) rfl Tryz.call54 rfl (client_Clients_find_ok _ (hg.fr hz hb) (ρA := (flat1 ρA)) hb.bd (hz.fr hg hb) (τ0 := (fun _ => 1)) (fun _ => by decide) (⟨_, hB3, h2⟩ : client_Clients.O (fun _ => 1) (flat1 ρA) w0 gr_0 r_0) hy5) (by decide) ?_
 rintro _ w6 ⟨v9, v11, rfl, h10, h12, hbw7⟩
 have htr8 := Tr.of_below hbw7 hb.bd
 replace hb := hb.trans htr8
 refine sr_ev (v := .tuple #[.agg #[str y4.1.ID, .int .i64 y4.1.Kind, str y4.1.Tenant, str y4.1.Secret.Salt, .int .i64 y4.1.Secret.Rounds, str y4.1.Secret.Hash, v9, v11, str y4.1.Logout], .int .i64 y4.2]) (ev_move rfl) (by decide) ?_
 refine sr_ev (v := .agg #[str y4.1.ID, .int .i64 y4.1.Kind, str y4.1.Tenant, str y4.1.Secret.Salt, .int .i64 y4.1.Secret.Rounds, str y4.1.Secret.Hash, v9, v11, str y4.1.Logout]) (ev_extract rfl rfl) (by decide) ?_
 refine sr_ev (v := .int .i64 y4.2) (ev_extract rfl rfl) (by decide) ?_
 refine sr_allocT 9 (by decide) hb.bd Tryz.zeroValue27 (by decide) ?_
 intro g13 ρ14 w15 hB17 htr16
 replace h10 := h10.mv htr16.rd
 replace h12 := h12.mv htr16.rd
 replace hb := hb.trans htr16
 replace hB17 : Blk ρ14 9 w15 g13 (.cells #[str ([]), .int .i64 0, str ([]), str ([]), .int .i64 0, str ([]), (.slice none 0 0), (.slice none 0 0), str ([])] 27 (0, 0)) := hB17
 refine sr_storeT (v := .agg #[str y4.1.ID, .int .i64 y4.1.Kind, str y4.1.Tenant, str y4.1.Secret.Salt, .int .i64 y4.1.Secret.Rounds, str y4.1.Secret.Hash, v9, v11, str y4.1.Logout]) (vs := [str y4.1.ID, .int .i64 y4.1.Kind, str y4.1.Tenant, str y4.1.Secret.Salt, .int .i64 y4.1.Secret.Rounds, str y4.1.Secret.Hash, v9, v11, str y4.1.Logout]) (cs' := #[str y4.1.ID, .int .i64 y4.1.Kind, str y4.1.Tenant, str y4.1.Secret.Salt, .int .i64 y4.1.Secret.Rounds, str y4.1.Secret.Hash, v9, v11, str y4.1.Logout]) hB17 (by decide) hb.bd rfl rfl rfl Tryz.sizeOf27 rfl (by first | rfl | (simp only [List.all_cons, List.all_nil, SlR.oneCell h10, SlR.oneCell h12]; done) | (simp only [List.all_cons, List.all_nil, SlR.oneCell h10, SlR.oneCell h12]; rfl)) rfl ?_
 intro w18 hB171 htr19
 replace h10 := h10.mv htr19.rd
 replace h12 := h12.mv htr19.rd
 replace hb := hb.trans htr19
 replace hB17 : Blk ρ14 9 w18 g13 (.cells #[str y4.1.ID, .int .i64 y4.1.Kind, str y4.1.Tenant, str y4.1.Secret.Salt, .int .i64 y4.1.Secret.Rounds, str y4.1.Secret.Hash, v9, v11, str y4.1.Logout] 27 (0, 0)) := hB171
 clear hB171
 refine sr_ev (v := .int .i64 y4.2) (ev_assign rfl) (by decide) ?_
 refine sr_end (l' := [(2, str address_2), (7, .pointer (some ⟨g13, 0, none⟩)), (8, .int .i64 y4.2)]) (.cons rfl (.cons rfl (.cons rfl (.nil _)))) ?_
 refine ke_seq ?_
 refine ke_seq ?_
 refine ke_region ?_
 refine sr_ev (v := .int .i64 y4.2) (ev_move rfl) (by decide) ?_
 refine sr_ev (v := .bool (y4.2 == 0)) (ev_eq rfl rfl) (by decide) ?_
 refine sr_ev (v := .bool (y4.2 == 0)) (ev_move rfl) (by decide) ?_
 obtain ⟨z22, hz24, hS⟩ := bind_some' hS
 refine sr_join (m := 6) (C := fun (z : Bool) w1 => z22 = z ∧ ∃ ρ1, Tr ρ14 w18 (fun _ => false) ρ1 w1) (l' := fun z => [(8, .int .i64 y4.2), (23, .bool z)]) ?_ ?_
 ·rintro _ w25 ⟨rfl, ρ26, hj23⟩
  replace hb := hb.trans hj23
  refine sr_end (l' := [(8, .int .i64 y4.2), (23, .bool z22)]) (.cons rfl (.cons rfl (.nil _))) ?_
  refine ke_cond (t := z22) rfl (fun hc33 => ?_) (fun hc33 => ?_)
  ·replace hS := ite_true' hS hc33
   refine ke_seq ?_
   refine ke_region ?_
   refine sr_ev (v := .int .i64 11) (ev_assign rfl) (by decide) ?_
   refine sr_end (l' := [(6, .int .i64 11)]) (.cons rfl (.nil _)) ?_
   cases hS
   exact ke_ret1 Tryz.func27 rfl rfl ⟨_, rfl, rfl, (hb.below (flat1_le _))⟩
  ·replace hS := ite_false' hS hc33
   refine ke_skip ?_
   refine ke_seq ?_
   refine ke_region ?_
   refine sr_ev (v := .int .i64 y4.2) (ev_move rfl) (by decide) ?_
   refine sr_ev (v := .int .i64 y4.2) (ev_assign rfl) (by decide) ?_
   refine sr_end (l' := [(6, .int .i64 y4.2)]) (.cons rfl (.nil _)) ?_
   cases hS
   exact ke_ret1 Tryz.func27 rfl rfl ⟨_, rfl, rfl, (hb.below (flat1_le _))⟩
 ·intro K21
  clear hS
  have hj23 : Tr ρ14 w18 (fun _ => false) ρ14 w18 := (Tr.refl hb.bd).weak (fun _ _ => rfl) rfl rfl
  rcases Bool.eq_false_or_eq_true (y4.2 == 0) with hg20 | hg20
  ·have hS := ite_true' hz24 hg20
   refine sr_evg (b := true) (e := 17) rfl rfl hg20 (v := .pointer (some ⟨g13, 6, none⟩)) (ev_fieldAddr (i := 4) Tryz.underlying27 rfl Tryz.info25 rfl rfl) (by decide) ?_
   refine sr_evg (b := true) (e := 17) rfl rfl hg20 (v := v9) (ev_load Tryz.isAgg25 rfl (hB17.cell rfl)) (by decide) ?_
   refine sr_evg (b := true) (e := 17) rfl rfl hg20 (v := str address_2) (ev_move rfl) (by decide) ?_
   obtain ⟨y28, hy29, hS⟩ := bind_some' hS
   refine sr_callg (b := true) (e := 17) rfl rfl hg20 (vs := [v9, str address_2]) rfl Tryz.call53 rfl (slices_Contains_string_string_ok _ (hg.fr hz hb) h10.asSl hy29) (by decide) ?_
   rintro _ w30 ⟨rfl, hbw31⟩
   have htr32 := Tr.of_below hbw31 hb.bd
   replace hb := hb.trans htr32
   replace hj23 := (hj23.trans htr32).weak (J' := (fun _ => false)) (by intro t h; simp [rng] at h ⊢ <;> omega) rfl rfl
   refine sr_evg (b := true) (e := 17) rfl rfl hg20 (v := .bool (!y28)) (ev_not rfl) (by decide) ?_
   refine sr_ev (v := .bool (!y28)) (ev_pick_t rfl hg20 rfl) (by decide) ?_
   exact sr_weaken (l' := [(8, .int .i64 y4.2), (23, .bool (!y28))]) (.cons rfl (.cons rfl (.nil _))) (K21 (!y28) _ ⟨(Option.some.inj hS).symm, _, hj23⟩)
  ·have hS := ite_false' hz24 hg20
   refine sr_pass (e := 17) rfl rfl (by rw [hg20]; rfl) (by decide) ?_
   refine sr_pass (e := 17) rfl rfl (by rw [hg20]; rfl) (by decide) ?_
   refine sr_pass (e := 17) rfl rfl (by rw [hg20]; rfl) (by decide) ?_
   refine sr_pass (e := 17) rfl rfl (by rw [hg20]; rfl) (by decide) ?_
   refine sr_pass (e := 17) rfl rfl (by rw [hg20]; rfl) (by decide) ?_
   refine sr_ev (v := .bool false) (ev_pick_f rfl hg20 rfl) (by decide) ?_
   exact sr_weaken (l' := [(8, .int .i64 y4.2), (23, .bool false)]) (.cons rfl (.cons rfl (.nil _))) (K21 false _ ⟨(Option.some.inj hS).symm, _, hj23⟩)

end YtmdbnoopcdpomaaGreatDoor
end Go.Proofs
