/- Own work: a part of the proofs of this seat. -/
import Derived.Test.YtkhodjenbganfaaGreatDoorProg
import Derived.Test.YtkhodjenbganfaaGreatDoorShelf
import Derived.Test.YtkhodjenbganfaaGreatDoorKwNS
import Derived.KernelRfl
set_option linter.unusedVariables false
set_option linter.unusedSimpArgs false
set_option linter.unusedSectionVars false
set_option maxHeartbeats 8000000
set_option maxRecDepth 8000
namespace Go.Proofs
namespace YtkhodjenbganfaaGreatDoor
open Go Go.KW Go.KW.S Go.RowKit
theorem Tryz.mixed : Tryz.prog.follows .mixedOrders = true := by kernel_rfl
theorem Tryz.info0 : Tryz.prog.info? 0 = some Tryz.t0 := by kernel_rfl
theorem Tryz.info1 : Tryz.prog.info? 1 = some Tryz.t1 := by kernel_rfl
theorem Tryz.info2 : Tryz.prog.info? 2 = some Tryz.t2 := by kernel_rfl
theorem Tryz.info3 : Tryz.prog.info? 3 = some Tryz.t3 := by kernel_rfl
theorem Tryz.info4 : Tryz.prog.info? 4 = some Tryz.t4 := by kernel_rfl
theorem Tryz.info5 : Tryz.prog.info? 5 = some Tryz.t5 := by kernel_rfl
theorem Tryz.info6 : Tryz.prog.info? 6 = some Tryz.t6 := by kernel_rfl
theorem Tryz.info7 : Tryz.prog.info? 7 = some Tryz.t7 := by kernel_rfl
theorem Tryz.info8 : Tryz.prog.info? 8 = some Tryz.t8 := by kernel_rfl
theorem Tryz.info9 : Tryz.prog.info? 9 = some Tryz.t9 := by kernel_rfl
theorem Tryz.info10 : Tryz.prog.info? 10 = some Tryz.t10 := by kernel_rfl
theorem Tryz.info11 : Tryz.prog.info? 11 = some Tryz.t11 := by kernel_rfl
theorem Tryz.info12 : Tryz.prog.info? 12 = some Tryz.t12 := by kernel_rfl
theorem Tryz.info13 : Tryz.prog.info? 13 = some Tryz.t13 := by kernel_rfl
theorem Tryz.info14 : Tryz.prog.info? 14 = some Tryz.t14 := by kernel_rfl
theorem Tryz.info15 : Tryz.prog.info? 15 = some Tryz.t15 := by kernel_rfl
theorem Tryz.info16 : Tryz.prog.info? 16 = some Tryz.t16 := by kernel_rfl
theorem Tryz.info17 : Tryz.prog.info? 17 = some Tryz.t17 := by kernel_rfl
theorem Tryz.info18 : Tryz.prog.info? 18 = some Tryz.t18 := by kernel_rfl
theorem Tryz.info19 : Tryz.prog.info? 19 = some Tryz.t19 := by kernel_rfl
theorem Tryz.info20 : Tryz.prog.info? 20 = some Tryz.t20 := by kernel_rfl
theorem Tryz.info21 : Tryz.prog.info? 21 = some Tryz.t21 := by kernel_rfl
theorem Tryz.info22 : Tryz.prog.info? 22 = some Tryz.t22 := by kernel_rfl
theorem Tryz.info23 : Tryz.prog.info? 23 = some Tryz.t23 := by kernel_rfl
theorem Tryz.info24 : Tryz.prog.info? 24 = some Tryz.t24 := by kernel_rfl
theorem Tryz.info25 : Tryz.prog.info? 25 = some Tryz.t25 := by kernel_rfl
theorem Tryz.info26 : Tryz.prog.info? 26 = some Tryz.t26 := by kernel_rfl
theorem Tryz.info27 : Tryz.prog.info? 27 = some Tryz.t27 := by kernel_rfl
theorem Tryz.info28 : Tryz.prog.info? 28 = some Tryz.t28 := by kernel_rfl
theorem Tryz.info29 : Tryz.prog.info? 29 = some Tryz.t29 := by kernel_rfl
theorem Tryz.info30 : Tryz.prog.info? 30 = some Tryz.t30 := by kernel_rfl
theorem Tryz.info31 : Tryz.prog.info? 31 = some Tryz.t31 := by kernel_rfl
theorem Tryz.info32 : Tryz.prog.info? 32 = some Tryz.t32 := by kernel_rfl
theorem Tryz.info33 : Tryz.prog.info? 33 = some Tryz.t33 := by kernel_rfl
theorem Tryz.info34 : Tryz.prog.info? 34 = some Tryz.t34 := by kernel_rfl
theorem Tryz.info35 : Tryz.prog.info? 35 = some Tryz.t35 := by kernel_rfl
theorem Tryz.info36 : Tryz.prog.info? 36 = some Tryz.t36 := by kernel_rfl
theorem Tryz.info37 : Tryz.prog.info? 37 = some Tryz.t37 := by kernel_rfl
theorem Tryz.info38 : Tryz.prog.info? 38 = some Tryz.t38 := by kernel_rfl
theorem Tryz.info39 : Tryz.prog.info? 39 = some Tryz.t39 := by kernel_rfl
theorem Tryz.info40 : Tryz.prog.info? 40 = some Tryz.t40 := by kernel_rfl
theorem Tryz.info41 : Tryz.prog.info? 41 = some Tryz.t41 := by kernel_rfl
theorem Tryz.info42 : Tryz.prog.info? 42 = some Tryz.t42 := by kernel_rfl
theorem Tryz.info43 : Tryz.prog.info? 43 = some Tryz.t43 := by kernel_rfl
theorem Tryz.info44 : Tryz.prog.info? 44 = some Tryz.t44 := by kernel_rfl
theorem Tryz.info45 : Tryz.prog.info? 45 = some Tryz.t45 := by kernel_rfl
theorem Tryz.info46 : Tryz.prog.info? 46 = some Tryz.t46 := by kernel_rfl
theorem Tryz.info47 : Tryz.prog.info? 47 = some Tryz.t47 := by kernel_rfl
theorem Tryz.info48 : Tryz.prog.info? 48 = some Tryz.t48 := by kernel_rfl
theorem Tryz.info49 : Tryz.prog.info? 49 = some Tryz.t49 := by kernel_rfl
theorem Tryz.info50 : Tryz.prog.info? 50 = some Tryz.t50 := by kernel_rfl
theorem Tryz.info51 : Tryz.prog.info? 51 = some Tryz.t51 := by kernel_rfl
theorem Tryz.info52 : Tryz.prog.info? 52 = some Tryz.t52 := by kernel_rfl
theorem Tryz.info53 : Tryz.prog.info? 53 = some Tryz.t53 := by kernel_rfl
theorem Tryz.info54 : Tryz.prog.info? 54 = some Tryz.t54 := by kernel_rfl
theorem Tryz.info55 : Tryz.prog.info? 55 = some Tryz.t55 := by kernel_rfl
theorem Tryz.info56 : Tryz.prog.info? 56 = some Tryz.t56 := by kernel_rfl
theorem Tryz.info57 : Tryz.prog.info? 57 = some Tryz.t57 := by kernel_rfl
theorem Tryz.info58 : Tryz.prog.info? 58 = some Tryz.t58 := by kernel_rfl
theorem Tryz.info59 : Tryz.prog.info? 59 = some Tryz.t59 := by kernel_rfl
theorem Tryz.info60 : Tryz.prog.info? 60 = some Tryz.t60 := by kernel_rfl
theorem Tryz.info61 : Tryz.prog.info? 61 = some Tryz.t61 := by kernel_rfl
theorem Tryz.info62 : Tryz.prog.info? 62 = some Tryz.t62 := by kernel_rfl
theorem Tryz.info63 : Tryz.prog.info? 63 = some Tryz.t63 := by kernel_rfl
theorem Tryz.info64 : Tryz.prog.info? 64 = some Tryz.t64 := by kernel_rfl
theorem Tryz.info65 : Tryz.prog.info? 65 = some Tryz.t65 := by kernel_rfl
theorem Tryz.info66 : Tryz.prog.info? 66 = some Tryz.t66 := by kernel_rfl
theorem Tryz.info67 : Tryz.prog.info? 67 = some Tryz.t67 := by kernel_rfl
theorem Tryz.info68 : Tryz.prog.info? 68 = some Tryz.t68 := by kernel_rfl
theorem Tryz.info69 : Tryz.prog.info? 69 = some Tryz.t69 := by kernel_rfl
theorem Tryz.info70 : Tryz.prog.info? 70 = some Tryz.t70 := by kernel_rfl
theorem Tryz.info71 : Tryz.prog.info? 71 = some Tryz.t71 := by kernel_rfl
theorem Tryz.info72 : Tryz.prog.info? 72 = some Tryz.t72 := by kernel_rfl
theorem Tryz.info73 : Tryz.prog.info? 73 = some Tryz.t73 := by kernel_rfl
theorem Tryz.info74 : Tryz.prog.info? 74 = some Tryz.t74 := by kernel_rfl
theorem Tryz.info75 : Tryz.prog.info? 75 = some Tryz.t75 := by kernel_rfl
theorem Tryz.info76 : Tryz.prog.info? 76 = some Tryz.t76 := by kernel_rfl
theorem Tryz.info77 : Tryz.prog.info? 77 = some Tryz.t77 := by kernel_rfl
theorem Tryz.info78 : Tryz.prog.info? 78 = some Tryz.t78 := by kernel_rfl
theorem Tryz.info79 : Tryz.prog.info? 79 = some Tryz.t79 := by kernel_rfl
theorem Tryz.info80 : Tryz.prog.info? 80 = some Tryz.t80 := by kernel_rfl
theorem Tryz.info81 : Tryz.prog.info? 81 = some Tryz.t81 := by kernel_rfl
theorem Tryz.info82 : Tryz.prog.info? 82 = some Tryz.t82 := by kernel_rfl
theorem Tryz.info83 : Tryz.prog.info? 83 = some Tryz.t83 := by kernel_rfl
theorem Tryz.info84 : Tryz.prog.info? 84 = some Tryz.t84 := by kernel_rfl
theorem Tryz.info85 : Tryz.prog.info? 85 = some Tryz.t85 := by kernel_rfl
theorem Tryz.info86 : Tryz.prog.info? 86 = some Tryz.t86 := by kernel_rfl
theorem Tryz.info87 : Tryz.prog.info? 87 = some Tryz.t87 := by kernel_rfl
theorem Tryz.info88 : Tryz.prog.info? 88 = some Tryz.t88 := by kernel_rfl
theorem Tryz.info89 : Tryz.prog.info? 89 = some Tryz.t89 := by kernel_rfl
theorem Tryz.info90 : Tryz.prog.info? 90 = some Tryz.t90 := by kernel_rfl
theorem Tryz.info91 : Tryz.prog.info? 91 = some Tryz.t91 := by kernel_rfl
theorem Tryz.info92 : Tryz.prog.info? 92 = some Tryz.t92 := by kernel_rfl
theorem Tryz.info93 : Tryz.prog.info? 93 = some Tryz.t93 := by kernel_rfl
theorem Tryz.info94 : Tryz.prog.info? 94 = some Tryz.t94 := by kernel_rfl
theorem Tryz.info95 : Tryz.prog.info? 95 = some Tryz.t95 := by kernel_rfl
theorem Tryz.info96 : Tryz.prog.info? 96 = some Tryz.t96 := by kernel_rfl
theorem Tryz.info97 : Tryz.prog.info? 97 = some Tryz.t97 := by kernel_rfl
theorem Tryz.info98 : Tryz.prog.info? 98 = some Tryz.t98 := by kernel_rfl
theorem Tryz.info99 : Tryz.prog.info? 99 = some Tryz.t99 := by kernel_rfl
theorem Tryz.info100 : Tryz.prog.info? 100 = some Tryz.t100 := by kernel_rfl
theorem Tryz.info101 : Tryz.prog.info? 101 = some Tryz.t101 := by kernel_rfl
theorem Tryz.info102 : Tryz.prog.info? 102 = some Tryz.t102 := by kernel_rfl
theorem Tryz.info103 : Tryz.prog.info? 103 = some Tryz.t103 := by kernel_rfl
theorem Tryz.info104 : Tryz.prog.info? 104 = some Tryz.t104 := by kernel_rfl
theorem Tryz.info105 : Tryz.prog.info? 105 = some Tryz.t105 := by kernel_rfl
theorem Tryz.info106 : Tryz.prog.info? 106 = some Tryz.t106 := by kernel_rfl
theorem Tryz.info107 : Tryz.prog.info? 107 = some Tryz.t107 := by kernel_rfl
theorem Tryz.info108 : Tryz.prog.info? 108 = some Tryz.t108 := by kernel_rfl
theorem Tryz.info109 : Tryz.prog.info? 109 = some Tryz.t109 := by kernel_rfl
theorem Tryz.info110 : Tryz.prog.info? 110 = some Tryz.t110 := by kernel_rfl
theorem Tryz.info111 : Tryz.prog.info? 111 = some Tryz.t111 := by kernel_rfl
theorem Tryz.info112 : Tryz.prog.info? 112 = some Tryz.t112 := by kernel_rfl
theorem Tryz.info113 : Tryz.prog.info? 113 = some Tryz.t113 := by kernel_rfl
theorem Tryz.info114 : Tryz.prog.info? 114 = some Tryz.t114 := by kernel_rfl
theorem Tryz.info115 : Tryz.prog.info? 115 = some Tryz.t115 := by kernel_rfl
theorem Tryz.info116 : Tryz.prog.info? 116 = some Tryz.t116 := by kernel_rfl
theorem Tryz.info117 : Tryz.prog.info? 117 = some Tryz.t117 := by kernel_rfl
theorem Tryz.info118 : Tryz.prog.info? 118 = some Tryz.t118 := by kernel_rfl
theorem Tryz.info119 : Tryz.prog.info? 119 = some Tryz.t119 := by kernel_rfl
theorem Tryz.info120 : Tryz.prog.info? 120 = some Tryz.t120 := by kernel_rfl
theorem Tryz.info121 : Tryz.prog.info? 121 = some Tryz.t121 := by kernel_rfl
theorem Tryz.info122 : Tryz.prog.info? 122 = some Tryz.t122 := by kernel_rfl
theorem Tryz.info123 : Tryz.prog.info? 123 = some Tryz.t123 := by kernel_rfl
theorem Tryz.info124 : Tryz.prog.info? 124 = some Tryz.t124 := by kernel_rfl
theorem Tryz.info125 : Tryz.prog.info? 125 = some Tryz.t125 := by kernel_rfl
theorem Tryz.info126 : Tryz.prog.info? 126 = some Tryz.t126 := by kernel_rfl
theorem Tryz.info127 : Tryz.prog.info? 127 = some Tryz.t127 := by kernel_rfl
theorem Tryz.info128 : Tryz.prog.info? 128 = some Tryz.t128 := by kernel_rfl
theorem Tryz.info129 : Tryz.prog.info? 129 = some Tryz.t129 := by kernel_rfl
theorem Tryz.info130 : Tryz.prog.info? 130 = some Tryz.t130 := by kernel_rfl
theorem Tryz.info131 : Tryz.prog.info? 131 = some Tryz.t131 := by kernel_rfl
theorem Tryz.info132 : Tryz.prog.info? 132 = some Tryz.t132 := by kernel_rfl
theorem Tryz.info133 : Tryz.prog.info? 133 = some Tryz.t133 := by kernel_rfl
theorem Tryz.info134 : Tryz.prog.info? 134 = some Tryz.t134 := by kernel_rfl
theorem Tryz.info135 : Tryz.prog.info? 135 = some Tryz.t135 := by kernel_rfl
theorem Tryz.info136 : Tryz.prog.info? 136 = some Tryz.t136 := by kernel_rfl
theorem Tryz.info137 : Tryz.prog.info? 137 = some Tryz.t137 := by kernel_rfl
theorem Tryz.info138 : Tryz.prog.info? 138 = some Tryz.t138 := by kernel_rfl
theorem Tryz.info139 : Tryz.prog.info? 139 = some Tryz.t139 := by kernel_rfl
theorem Tryz.info140 : Tryz.prog.info? 140 = some Tryz.t140 := by kernel_rfl
theorem Tryz.info141 : Tryz.prog.info? 141 = some Tryz.t141 := by kernel_rfl
theorem Tryz.info142 : Tryz.prog.info? 142 = some Tryz.t142 := by kernel_rfl
theorem Tryz.info143 : Tryz.prog.info? 143 = some Tryz.t143 := by kernel_rfl
theorem Tryz.info144 : Tryz.prog.info? 144 = some Tryz.t144 := by kernel_rfl
theorem Tryz.info145 : Tryz.prog.info? 145 = some Tryz.t145 := by kernel_rfl
theorem Tryz.info146 : Tryz.prog.info? 146 = some Tryz.t146 := by kernel_rfl
theorem Tryz.info147 : Tryz.prog.info? 147 = some Tryz.t147 := by kernel_rfl
theorem Tryz.info148 : Tryz.prog.info? 148 = some Tryz.t148 := by kernel_rfl
theorem Tryz.info149 : Tryz.prog.info? 149 = some Tryz.t149 := by kernel_rfl
theorem Tryz.info150 : Tryz.prog.info? 150 = some Tryz.t150 := by kernel_rfl
theorem Tryz.info151 : Tryz.prog.info? 151 = some Tryz.t151 := by kernel_rfl
theorem Tryz.info152 : Tryz.prog.info? 152 = some Tryz.t152 := by kernel_rfl
theorem Tryz.info153 : Tryz.prog.info? 153 = some Tryz.t153 := by kernel_rfl
theorem Tryz.info154 : Tryz.prog.info? 154 = some Tryz.t154 := by kernel_rfl
theorem Tryz.info155 : Tryz.prog.info? 155 = some Tryz.t155 := by kernel_rfl
theorem Tryz.info156 : Tryz.prog.info? 156 = some Tryz.t156 := by kernel_rfl
theorem Tryz.info157 : Tryz.prog.info? 157 = some Tryz.t157 := by kernel_rfl
theorem Tryz.info158 : Tryz.prog.info? 158 = some Tryz.t158 := by kernel_rfl
theorem Tryz.info159 : Tryz.prog.info? 159 = some Tryz.t159 := by kernel_rfl
theorem Tryz.info160 : Tryz.prog.info? 160 = some Tryz.t160 := by kernel_rfl
theorem Tryz.info161 : Tryz.prog.info? 161 = some Tryz.t161 := by kernel_rfl
theorem Tryz.info162 : Tryz.prog.info? 162 = some Tryz.t162 := by kernel_rfl
theorem Tryz.info163 : Tryz.prog.info? 163 = some Tryz.t163 := by kernel_rfl
theorem Tryz.info164 : Tryz.prog.info? 164 = some Tryz.t164 := by kernel_rfl
theorem Tryz.info165 : Tryz.prog.info? 165 = some Tryz.t165 := by kernel_rfl
theorem Tryz.info166 : Tryz.prog.info? 166 = some Tryz.t166 := by kernel_rfl
theorem Tryz.info167 : Tryz.prog.info? 167 = some Tryz.t167 := by kernel_rfl
theorem Tryz.info168 : Tryz.prog.info? 168 = some Tryz.t168 := by kernel_rfl
theorem Tryz.info169 : Tryz.prog.info? 169 = some Tryz.t169 := by kernel_rfl
theorem Tryz.info170 : Tryz.prog.info? 170 = some Tryz.t170 := by kernel_rfl
theorem Tryz.info171 : Tryz.prog.info? 171 = some Tryz.t171 := by kernel_rfl
theorem Tryz.info172 : Tryz.prog.info? 172 = some Tryz.t172 := by kernel_rfl
theorem Tryz.info173 : Tryz.prog.info? 173 = some Tryz.t173 := by kernel_rfl
theorem Tryz.info174 : Tryz.prog.info? 174 = some Tryz.t174 := by kernel_rfl
theorem Tryz.info175 : Tryz.prog.info? 175 = some Tryz.t175 := by kernel_rfl
theorem Tryz.info176 : Tryz.prog.info? 176 = some Tryz.t176 := by kernel_rfl
theorem Tryz.info177 : Tryz.prog.info? 177 = some Tryz.t177 := by kernel_rfl
theorem Tryz.info178 : Tryz.prog.info? 178 = some Tryz.t178 := by kernel_rfl
theorem Tryz.info179 : Tryz.prog.info? 179 = some Tryz.t179 := by kernel_rfl
theorem Tryz.info180 : Tryz.prog.info? 180 = some Tryz.t180 := by kernel_rfl
theorem Tryz.info181 : Tryz.prog.info? 181 = some Tryz.t181 := by kernel_rfl
theorem Tryz.info182 : Tryz.prog.info? 182 = some Tryz.t182 := by kernel_rfl
theorem Tryz.info183 : Tryz.prog.info? 183 = some Tryz.t183 := by kernel_rfl
theorem Tryz.info184 : Tryz.prog.info? 184 = some Tryz.t184 := by kernel_rfl
theorem Tryz.info185 : Tryz.prog.info? 185 = some Tryz.t185 := by kernel_rfl
theorem Tryz.info186 : Tryz.prog.info? 186 = some Tryz.t186 := by kernel_rfl
theorem Tryz.info187 : Tryz.prog.info? 187 = some Tryz.t187 := by kernel_rfl
theorem Tryz.info188 : Tryz.prog.info? 188 = some Tryz.t188 := by kernel_rfl
theorem Tryz.info189 : Tryz.prog.info? 189 = some Tryz.t189 := by kernel_rfl
theorem Tryz.info190 : Tryz.prog.info? 190 = some Tryz.t190 := by kernel_rfl
theorem Tryz.info191 : Tryz.prog.info? 191 = some Tryz.t191 := by kernel_rfl
theorem Tryz.info192 : Tryz.prog.info? 192 = some Tryz.t192 := by kernel_rfl
theorem Tryz.info193 : Tryz.prog.info? 193 = some Tryz.t193 := by kernel_rfl
theorem Tryz.info194 : Tryz.prog.info? 194 = some Tryz.t194 := by kernel_rfl
theorem Tryz.info195 : Tryz.prog.info? 195 = some Tryz.t195 := by kernel_rfl
theorem Tryz.info196 : Tryz.prog.info? 196 = some Tryz.t196 := by kernel_rfl
theorem Tryz.info197 : Tryz.prog.info? 197 = some Tryz.t197 := by kernel_rfl
theorem Tryz.info198 : Tryz.prog.info? 198 = some Tryz.t198 := by kernel_rfl
theorem Tryz.info199 : Tryz.prog.info? 199 = some Tryz.t199 := by kernel_rfl
theorem Tryz.info200 : Tryz.prog.info? 200 = some Tryz.t200 := by kernel_rfl
theorem Tryz.info201 : Tryz.prog.info? 201 = some Tryz.t201 := by kernel_rfl
theorem Tryz.info202 : Tryz.prog.info? 202 = some Tryz.t202 := by kernel_rfl
structure Gs (w : World) : Prop where
 tab0_ : ∀ i x, idx tab_digest_digits i = some x → w.cell? ⟨0, 0 + i.toNat * 1, none⟩ = some (.int .u8 x)
 pow10_ : Lib.TabIs Tryz.prog w "internal/strconv.uint64pow10" .u64 Lib.pow10Tab
 iv4_ : ∃ m, w.cell? ⟨4, 0, none⟩ = some (.int .i64 m)
theorem Gs.below {w w' : World} (h : Gs w) (s : Below w.heap.size w w') : Gs w' := ⟨fun i x hx => cell_below (h.tab0_ i x hx) s, tabIs_below h.pow10_ s, h.iv4_.imp fun _ hm => cell_below hm s⟩
structure Gz (ρ : Tags) : Prop where
 z0 : ρ 0 = 0
 z1 : ∀ g, Tryz.prog.globalNamed "internal/strconv.uint64pow10" = some g → ρ g = 0
 z2 : ρ 4 = 0
theorem Gs.fr {ρ0 ρ : Tags} {w0 w : World} (h : Gs w0) (hz : Gz ρ0) (hb : Fr ρ0 w0 ρ w) : Gs w := ⟨fun i x hx => cell_fr (h.tab0_ i x hx) hz.z0 hb, tabIs_fr h.pow10_ hz.z1 hb, h.iv4_.imp fun _ hm => cell_fr hm hz.z2 hb⟩
theorem Gz.fr {ρ0 ρ : Tags} {w0 w : World} (hz : Gz ρ0) (h : Gs w0) (hb : Fr ρ0 w0 ρ w) : Gz ρ := ⟨tag_fr (h.tab0_ 0 _ rfl) hz.z0 hb, tabTag_fr h.pow10_ hz.z1 hb, h.iv4_.elim fun _ hm => tag_fr hm hz.z2 hb⟩
theorem Gz.enter {ρ : Tags} {o n : Nat} (hz : Gz ρ) (ho : 2 ≤ o) : Gz (enter ρ o n) := ⟨enter_zero ho hz.z0, fun g hg => enter_zero ho (hz.z1 g hg), enter_zero ho hz.z2⟩
theorem Gz.flat1 {ρ : Tags} (hz : Gz ρ) : Gz (flat1 ρ) := ⟨flat1_zero hz.z0, fun g hg => flat1_zero (hz.z1 g hg), flat1_zero hz.z2⟩
theorem Gs.tab0 {w : World} (h : Gs w) {i x : Int} (hx : idx tab_digest_digits i = some x) : w.cell? ⟨0, 0 + i.toNat * 1, none⟩ = some (.int .u8 x) := h.tab0_ i x hx
theorem lib_Itoa_ok (w0 : World) (hg : Gs w0) {n : Int} {r : Str} (hS : lib_Itoa n = some r) : Calls Tryz.prog 114 #[.int .i64 n] w0 (Ret fun v w' => v = str r ∧ Below w0.heap.size w0 w') :=
 itoa_ok (fun n w h0 h1 ht => Tryz.strconv_Itoa n h0 h1 w ht) hg.pow10_ hS
theorem lib_Trim_ok (w0 : World) (hg : Gs w0) {s t : Str} {r : Str} (hS : lib_Trim s t = some r) : Calls Tryz.prog 113 #[str s, str t] w0 (Ret fun v w' => v = str r ∧ Below w0.heap.size w0 w') :=
 trim_ok (fun s c hc w hs => Tryz.strings_Trim_one s c hc w hs) hS
theorem Tryz.eq42 (x y : api_Proof) : EqAgg Tryz.prog 42 (#[.int .i64 x.Factor, .int .i64 x.Time]) (#[.int .i64 y.Factor, .int .i64 y.Time]) (api_Proof.eqb x y) :=
 eqAgg_of Tryz.underlying42 (by kernel_rfl) (by kernel_rfl) (.cons (by decide) Tryz.isAgg40 rfl rfl (eqCell_int Tryz.underlying40 _ _) (.cons (by decide) Tryz.isAgg3 rfl rfl (eqCell_int Tryz.underlying3 _ _) (.nil))) (by simp [api_Proof.eqb, Bool.and_assoc])
theorem api_Proof.eqb_iff (x y : api_Proof) : api_Proof.eqb x y = decide (x = y) := by
 cases x; cases y; rw [Bool.eq_iff_iff]; simp [api_Proof.eqb, and_assoc]
theorem Tryz.keyB9 : KeyB Tryz.prog 9 str := keyB_str Tryz.underlying9
theorem law39_few_L1_ok {w0 : World} (hg : Gs w0) {A0 : Nat → Prop} (hA0 : ∀ b, A0 b → b < w0.heap.size) : ∀ (n : Nat), ∀ {r : Bool} {l_0 : List law39_Op} {i_3 : Int} {vl_0 : Value}, law39_few_L1 n l_0 i_3 = some r → ∀ {w : World} {A : Nat → Prop}, (Below w0.heap.size w0 w) → (∀ b, A b → b < w.heap.size) → (∀ b, A0 b → A b) → (Hp A w0.heap.size w []) → (SlR law39_Op.c A w vl_0 l_0) → KE Tryz.prog 9 (Ret (fun v w' => v = .bool r ∧ Below w0.heap.size w0 w')) 46 [.code (sub (bodyOf Tryz.f9) [2, 1, 2, 2, 1]), .inLoop (sub (bodyOf Tryz.f9) [2, 1, 2, 2, 1]), .inBlock 0, .code (sub (bodyOf Tryz.f9) [2, 2])] [(0, vl_0), (3, .int .i64 i_3)] w := by
 intro n
 induction n with
 | zero => intro r l_0 i_3 vl_0 hS; cases hS
 | succ n ih =>
  have hr0 : ∀ {r : Bool} {l_0 : List law39_Op} {i_3 : Int} {vl_0 : Value}, law39_few_L1 n l_0 i_3 = some r → ∀ {w : World} {A : Nat → Prop}, (Below w0.heap.size w0 w) → (∀ b, A b → b < w.heap.size) → (∀ b, A0 b → A b) → (Hp A w0.heap.size w []) → (SlR law39_Op.c A w vl_0 l_0) → KE Tryz.prog 9 (Ret (fun v w' => v = .bool r ∧ Below w0.heap.size w0 w')) 46 [.inLoop (sub (bodyOf Tryz.f9) [2, 1, 2, 2, 1]), .inBlock 0, .code (sub (bodyOf Tryz.f9) [2, 2])] [(0, vl_0), (3, .int .i64 i_3)] w := fun {r} {l_0} {i_3} {vl_0} hS {w} {A} hb hA hi hH hl_0 => ke_inLoop (ih hS hb hA hi hH hl_0)
  clear ih
  intro r l_0 i_3 vl_0 hS w A hb hA hi hH hl_0
  unfold law39_few_L1 at hS
  refine ke_seq ?_
  refine ke_seq ?_
  refine ke_region ?_
  refine sr_ev (v := .int .i64 i_3) (ev_move rfl) (by decide) ?_
  refine sr_ev (v := vl_0) (ev_move rfl) (by decide) ?_
  refine sr_ev (v := .int .i64 (l_0.length : Int)) (ev_sllen Tryz.underlying22 rfl hl_0) (by decide) ?_
  refine sr_ev (v := .bool (decide (i_3 < (l_0.length : Int)))) (ev_lt rfl rfl) (by decide) ?_
  refine sr_end (l' := [(0, vl_0), (3, .int .i64 i_3), (8, .bool (decide (i_3 < (l_0.length : Int))))]) (.cons rfl (.cons rfl (.cons rfl (.nil _)))) ?_
  refine ke_cond (t := decide (i_3 < (l_0.length : Int))) rfl (fun hc3 => ?_) (fun hc3 => ?_)
  ·replace hS := ite_true' hS hc3
   refine ke_skip ?_
   refine ke_seq ?_
   refine ke_block ?_
   refine ke_seq ?_
   refine ke_region ?_
   refine sr_ev (v := vl_0) (ev_move rfl) (by decide) ?_
   refine sr_ev (v := .int .i64 i_3) (ev_move rfl) (by decide) ?_
   obtain ⟨y4, hy5, hS⟩ := bind_some' hS
   refine sr_index hl_0 Tryz.underlying22 Tryz.info33 rfl rfl rfl hy5 (by decide) ?_
   intro b6 o7 cs9 he8
   obtain rfl : cs9 = [.int .i64 y4.Kind, str y4.ID, str y4.User, str y4.Word, str y4.Code, str y4.S, .int .i64 y4.Level, .int .i64 y4.Rounds, .int .i64 y4.Now] := he8.rd
   refine sr_ev (v := .agg #[.int .i64 y4.Kind, str y4.ID, str y4.User, str y4.Word, str y4.Code, str y4.S, .int .i64 y4.Level, .int .i64 y4.Rounds, .int .i64 y4.Now]) (ev_loads Tryz.isAgg33 Tryz.sizeOf33 rfl he8.cell) (by decide) ?_
   refine sr_alloc hH hb.size hA Tryz.zeroValue33 (by decide) ?_
   intro g10 A11 w12 hH1 hst13 hbw14 hinc15 hA1 hge16
   replace hb := hb.trans (hbw14.mono hb.size)
   replace hi := fun b hb => hinc15 b (hi b hb)
   replace hl_0 := hl_0.step hst13
   replace hH : Hp A11 w0.heap.size w12 [(g10, .cells #[.int .i64 0, str ([]), str ([]), str ([]), str ([]), str ([]), .int .i64 0, .int .i64 0, .int .i64 0] 33 (0, 0))] := hH1
   replace hA := hA1
   clear hH1 hA1
   refine sr_store (i := 0) (v := .agg #[.int .i64 y4.Kind, str y4.ID, str y4.User, str y4.Word, str y4.Code, str y4.S, .int .i64 y4.Level, .int .i64 y4.Rounds, .int .i64 y4.Now]) (vs := [.int .i64 y4.Kind, str y4.ID, str y4.User, str y4.Word, str y4.Code, str y4.S, .int .i64 y4.Level, .int .i64 y4.Rounds, .int .i64 y4.Now]) (cs' := #[.int .i64 y4.Kind, str y4.ID, str y4.User, str y4.Word, str y4.Code, str y4.S, .int .i64 y4.Level, .int .i64 y4.Rounds, .int .i64 y4.Now]) hH rfl rfl rfl rfl Tryz.sizeOf33 rfl rfl rfl ?_
   intro w17 hH1 hwr18
   replace hb := hwr18.below hb (hH.base _ (List.mem_of_getElem? (i := 0) rfl))
   replace hA := hwr18.lt hA
   replace hl_0 := hl_0.step hwr18.st
   replace hH : Hp A11 w0.heap.size w17 [(g10, .cells #[.int .i64 y4.Kind, str y4.ID, str y4.User, str y4.Word, str y4.Code, str y4.S, .int .i64 y4.Level, .int .i64 y4.Rounds, .int .i64 y4.Now] 33 (0, 0))] := hH1
   clear hH1
   refine sr_end (l' := [(0, vl_0), (3, .int .i64 i_3), (4, .pointer (some ⟨g10, 0, none⟩))]) (.cons rfl (.cons rfl (.cons rfl (.nil _)))) ?_
   refine ke_seq ?_
   refine ke_region ?_
   refine sr_ev (v := .pointer (some ⟨g10, 1, none⟩)) (ev_fieldAddr (i := 1) Tryz.underlying33 rfl Tryz.info9 rfl rfl) (by decide) ?_
   refine sr_ev (v := str y4.ID) (ev_load Tryz.isAgg9 rfl (hH.cell (i := 0) rfl rfl)) (by decide) ?_
   refine sr_ev (v := .int .i64 (y4.ID.length : Int)) (ev_slen Tryz.underlying9 rfl) (by decide) ?_
   refine sr_ev (v := .bool (decide ((y4.ID.length : Int) > 300))) (ev_gt rfl rfl) (by decide) ?_
   refine sr_ev (v := .bool (decide ((y4.ID.length : Int) > 300))) (ev_move rfl) (by decide) ?_
   refine sr_join (m := 5) (C := fun (x : Bool) w1 => x = ((decide ((y4.ID.length : Int) > 300)) || (decide ((y4.User.length : Int) > 300))) ∧ w17 = w1) (l' := fun x => [(0, vl_0), (3, .int .i64 i_3), (4, .pointer (some ⟨g10, 0, none⟩)), (24, .bool x)]) ?_ ?_
   ·rintro _ _ ⟨rfl, rfl⟩
    refine sr_ev (v := .bool ((decide ((y4.ID.length : Int) > 300)) || (decide ((y4.User.length : Int) > 300)))) (ev_move rfl) (by decide) ?_
    refine sr_join (m := 5) (C := fun (x : Bool) w1 => x = (((decide ((y4.ID.length : Int) > 300)) || (decide ((y4.User.length : Int) > 300))) || (decide ((y4.Word.length : Int) > 300))) ∧ w17 = w1) (l' := fun x => [(0, vl_0), (3, .int .i64 i_3), (4, .pointer (some ⟨g10, 0, none⟩)), (30, .bool x)]) ?_ ?_
    ·rintro _ _ ⟨rfl, rfl⟩
     refine sr_ev (v := .bool (((decide ((y4.ID.length : Int) > 300)) || (decide ((y4.User.length : Int) > 300))) || (decide ((y4.Word.length : Int) > 300)))) (ev_move rfl) (by decide) ?_
     refine sr_join (m := 5) (C := fun (x : Bool) w1 => x = ((((decide ((y4.ID.length : Int) > 300)) || (decide ((y4.User.length : Int) > 300))) || (decide ((y4.Word.length : Int) > 300))) || (decide ((y4.Code.length : Int) > 300))) ∧ w17 = w1) (l' := fun x => [(0, vl_0), (3, .int .i64 i_3), (4, .pointer (some ⟨g10, 0, none⟩)), (36, .bool x)]) ?_ ?_
     ·rintro _ _ ⟨rfl, rfl⟩
      refine sr_ev (v := .bool ((((decide ((y4.ID.length : Int) > 300)) || (decide ((y4.User.length : Int) > 300))) || (decide ((y4.Word.length : Int) > 300))) || (decide ((y4.Code.length : Int) > 300)))) (ev_move rfl) (by decide) ?_
      refine sr_join (m := 5) (C := fun (x : Bool) w1 => x = (((((decide ((y4.ID.length : Int) > 300)) || (decide ((y4.User.length : Int) > 300))) || (decide ((y4.Word.length : Int) > 300))) || (decide ((y4.Code.length : Int) > 300))) || (decide ((y4.S.length : Int) > 300))) ∧ w17 = w1) (l' := fun x => [(0, vl_0), (3, .int .i64 i_3), (42, .bool x)]) ?_ ?_
      ·rintro _ _ ⟨rfl, rfl⟩
       refine sr_end (l' := [(0, vl_0), (3, .int .i64 i_3), (42, .bool (((((decide ((y4.ID.length : Int) > 300)) || (decide ((y4.User.length : Int) > 300))) || (decide ((y4.Word.length : Int) > 300))) || (decide ((y4.Code.length : Int) > 300))) || (decide ((y4.S.length : Int) > 300))))]) (.cons rfl (.cons rfl (.cons rfl (.nil _)))) ?_
       refine ke_cond (t := ((((decide ((y4.ID.length : Int) > 300)) || (decide ((y4.User.length : Int) > 300))) || (decide ((y4.Word.length : Int) > 300))) || (decide ((y4.Code.length : Int) > 300))) || (decide ((y4.S.length : Int) > 300))) rfl (fun hc47 => ?_) (fun hc47 => ?_)
       ·replace hS := ite_true' hS hc47
        refine ke_seq ?_
        refine ke_region ?_
        refine sr_ev (v := .bool false) (ev_assign rfl) (by decide) ?_
        refine sr_end (l' := [(2, .bool false)]) (.cons rfl (.nil _)) ?_
        cases hS
        exact ke_ret1 Tryz.func9 rfl rfl ⟨_, rfl, rfl, hb⟩
       ·replace hS := ite_false' hS hc47
        refine ke_skip ?_
        refine ke_inBlock ?_
        refine ke_region ?_
        refine sr_ev (v := .int .i64 i_3) (ev_move rfl) (by decide) ?_
        refine sr_ev (v := .int .i64 (IntKind.i64.wrap (i_3 + 1))) (ev_add rfl rfl) (by decide) ?_
        refine sr_ev (v := .int .i64 (IntKind.i64.wrap (i_3 + 1))) (ev_assign rfl) (by decide) ?_
        refine sr_end (l' := [(0, vl_0), (3, .int .i64 (IntKind.i64.wrap (i_3 + 1)))]) (.cons rfl (.cons rfl (.nil _))) ?_
        have hK := hr0 hS hb hA hi (hH.sub (.cons _ .slnil)) hl_0
        exact ke_weaken (l' := [(0, vl_0), (3, .int .i64 (IntKind.i64.wrap (i_3 + 1)))]) (.cons rfl (.cons rfl (.nil _))) hK
      ·intro K41
       rcases Bool.eq_false_or_eq_true ((((decide ((y4.ID.length : Int) > 300)) || (decide ((y4.User.length : Int) > 300))) || (decide ((y4.Word.length : Int) > 300))) || (decide ((y4.Code.length : Int) > 300))) with hg40 | hg40
       ·refine sr_pass (e := 37) rfl rfl (by rw [hg40]; rfl) (by decide) ?_
        refine sr_pass (e := 37) rfl rfl (by rw [hg40]; rfl) (by decide) ?_
        refine sr_pass (e := 37) rfl rfl (by rw [hg40]; rfl) (by decide) ?_
        refine sr_pass (e := 37) rfl rfl (by rw [hg40]; rfl) (by decide) ?_
        refine sr_ev (v := .bool true) (ev_pick_t rfl hg40 rfl) (by decide) ?_
        exact sr_weaken (l' := [(0, vl_0), (3, .int .i64 i_3), (42, .bool true)]) (.cons rfl (.cons rfl (.cons rfl (.nil _)))) (K41 true _ ⟨by rw [hg40]; rfl, rfl⟩)
       ·refine sr_evg (b := false) (e := 37) rfl rfl hg40 (v := .pointer (some ⟨g10, 5, none⟩)) (ev_fieldAddr (i := 5) Tryz.underlying33 rfl Tryz.info9 rfl rfl) (by decide) ?_
        refine sr_evg (b := false) (e := 37) rfl rfl hg40 (v := str y4.S) (ev_load Tryz.isAgg9 rfl (hH.cell (i := 0) rfl rfl)) (by decide) ?_
        refine sr_evg (b := false) (e := 37) rfl rfl hg40 (v := .int .i64 (y4.S.length : Int)) (ev_slen Tryz.underlying9 rfl) (by decide) ?_
        refine sr_evg (b := false) (e := 37) rfl rfl hg40 (v := .bool (decide ((y4.S.length : Int) > 300))) (ev_gt rfl rfl) (by decide) ?_
        refine sr_ev (v := .bool (decide ((y4.S.length : Int) > 300))) (ev_pick_f rfl hg40 rfl) (by decide) ?_
        exact sr_weaken (l' := [(0, vl_0), (3, .int .i64 i_3), (42, .bool (decide ((y4.S.length : Int) > 300)))]) (.cons rfl (.cons rfl (.cons rfl (.nil _)))) (K41 (decide ((y4.S.length : Int) > 300)) _ ⟨by rw [hg40]; rfl, rfl⟩)
     ·intro K34
      rcases Bool.eq_false_or_eq_true (((decide ((y4.ID.length : Int) > 300)) || (decide ((y4.User.length : Int) > 300))) || (decide ((y4.Word.length : Int) > 300))) with hg33 | hg33
      ·refine sr_pass (e := 31) rfl rfl (by rw [hg33]; rfl) (by decide) ?_
       refine sr_pass (e := 31) rfl rfl (by rw [hg33]; rfl) (by decide) ?_
       refine sr_pass (e := 31) rfl rfl (by rw [hg33]; rfl) (by decide) ?_
       refine sr_pass (e := 31) rfl rfl (by rw [hg33]; rfl) (by decide) ?_
       refine sr_ev (v := .bool true) (ev_pick_t rfl hg33 rfl) (by decide) ?_
       exact sr_weaken (l' := [(0, vl_0), (3, .int .i64 i_3), (4, .pointer (some ⟨g10, 0, none⟩)), (36, .bool true)]) (.cons rfl (.cons rfl (.cons rfl (.cons rfl (.nil _))))) (K34 true _ ⟨by rw [hg33]; rfl, rfl⟩)
      ·refine sr_evg (b := false) (e := 31) rfl rfl hg33 (v := .pointer (some ⟨g10, 4, none⟩)) (ev_fieldAddr (i := 4) Tryz.underlying33 rfl Tryz.info9 rfl rfl) (by decide) ?_
       refine sr_evg (b := false) (e := 31) rfl rfl hg33 (v := str y4.Code) (ev_load Tryz.isAgg9 rfl (hH.cell (i := 0) rfl rfl)) (by decide) ?_
       refine sr_evg (b := false) (e := 31) rfl rfl hg33 (v := .int .i64 (y4.Code.length : Int)) (ev_slen Tryz.underlying9 rfl) (by decide) ?_
       refine sr_evg (b := false) (e := 31) rfl rfl hg33 (v := .bool (decide ((y4.Code.length : Int) > 300))) (ev_gt rfl rfl) (by decide) ?_
       refine sr_ev (v := .bool (decide ((y4.Code.length : Int) > 300))) (ev_pick_f rfl hg33 rfl) (by decide) ?_
       exact sr_weaken (l' := [(0, vl_0), (3, .int .i64 i_3), (4, .pointer (some ⟨g10, 0, none⟩)), (36, .bool (decide ((y4.Code.length : Int) > 300)))]) (.cons rfl (.cons rfl (.cons rfl (.cons rfl (.nil _))))) (K34 (decide ((y4.Code.length : Int) > 300)) _ ⟨by rw [hg33]; rfl, rfl⟩)
    ·intro K27
     rcases Bool.eq_false_or_eq_true ((decide ((y4.ID.length : Int) > 300)) || (decide ((y4.User.length : Int) > 300))) with hg26 | hg26
     ·refine sr_pass (e := 25) rfl rfl (by rw [hg26]; rfl) (by decide) ?_
      refine sr_pass (e := 25) rfl rfl (by rw [hg26]; rfl) (by decide) ?_
      refine sr_pass (e := 25) rfl rfl (by rw [hg26]; rfl) (by decide) ?_
      refine sr_pass (e := 25) rfl rfl (by rw [hg26]; rfl) (by decide) ?_
      refine sr_ev (v := .bool true) (ev_pick_t rfl hg26 rfl) (by decide) ?_
      exact sr_weaken (l' := [(0, vl_0), (3, .int .i64 i_3), (4, .pointer (some ⟨g10, 0, none⟩)), (30, .bool true)]) (.cons rfl (.cons rfl (.cons rfl (.cons rfl (.nil _))))) (K27 true _ ⟨by rw [hg26]; rfl, rfl⟩)
     ·refine sr_evg (b := false) (e := 25) rfl rfl hg26 (v := .pointer (some ⟨g10, 3, none⟩)) (ev_fieldAddr (i := 3) Tryz.underlying33 rfl Tryz.info9 rfl rfl) (by decide) ?_
      refine sr_evg (b := false) (e := 25) rfl rfl hg26 (v := str y4.Word) (ev_load Tryz.isAgg9 rfl (hH.cell (i := 0) rfl rfl)) (by decide) ?_
      refine sr_evg (b := false) (e := 25) rfl rfl hg26 (v := .int .i64 (y4.Word.length : Int)) (ev_slen Tryz.underlying9 rfl) (by decide) ?_
      refine sr_evg (b := false) (e := 25) rfl rfl hg26 (v := .bool (decide ((y4.Word.length : Int) > 300))) (ev_gt rfl rfl) (by decide) ?_
      refine sr_ev (v := .bool (decide ((y4.Word.length : Int) > 300))) (ev_pick_f rfl hg26 rfl) (by decide) ?_
      exact sr_weaken (l' := [(0, vl_0), (3, .int .i64 i_3), (4, .pointer (some ⟨g10, 0, none⟩)), (30, .bool (decide ((y4.Word.length : Int) > 300)))]) (.cons rfl (.cons rfl (.cons rfl (.cons rfl (.nil _))))) (K27 (decide ((y4.Word.length : Int) > 300)) _ ⟨by rw [hg26]; rfl, rfl⟩)
   ·intro K20
    rcases Bool.eq_false_or_eq_true (decide ((y4.ID.length : Int) > 300)) with hg19 | hg19
    ·refine sr_pass (e := 19) rfl rfl (by rw [hg19]; rfl) (by decide) ?_
     refine sr_pass (e := 19) rfl rfl (by rw [hg19]; rfl) (by decide) ?_
     refine sr_pass (e := 19) rfl rfl (by rw [hg19]; rfl) (by decide) ?_
     refine sr_pass (e := 19) rfl rfl (by rw [hg19]; rfl) (by decide) ?_
     refine sr_ev (v := .bool true) (ev_pick_t rfl hg19 rfl) (by decide) ?_
     exact sr_weaken (l' := [(0, vl_0), (3, .int .i64 i_3), (4, .pointer (some ⟨g10, 0, none⟩)), (24, .bool true)]) (.cons rfl (.cons rfl (.cons rfl (.cons rfl (.nil _))))) (K20 true _ ⟨by rw [hg19]; rfl, rfl⟩)
    ·refine sr_evg (b := false) (e := 19) rfl rfl hg19 (v := .pointer (some ⟨g10, 2, none⟩)) (ev_fieldAddr (i := 2) Tryz.underlying33 rfl Tryz.info9 rfl rfl) (by decide) ?_
     refine sr_evg (b := false) (e := 19) rfl rfl hg19 (v := str y4.User) (ev_load Tryz.isAgg9 rfl (hH.cell (i := 0) rfl rfl)) (by decide) ?_
     refine sr_evg (b := false) (e := 19) rfl rfl hg19 (v := .int .i64 (y4.User.length : Int)) (ev_slen Tryz.underlying9 rfl) (by decide) ?_
     refine sr_evg (b := false) (e := 19) rfl rfl hg19 (v := .bool (decide ((y4.User.length : Int) > 300))) (ev_gt rfl rfl) (by decide) ?_
     refine sr_ev (v := .bool (decide ((y4.User.length : Int) > 300))) (ev_pick_f rfl hg19 rfl) (by decide) ?_
     exact sr_weaken (l' := [(0, vl_0), (3, .int .i64 i_3), (4, .pointer (some ⟨g10, 0, none⟩)), (24, .bool (decide ((y4.User.length : Int) > 300)))]) (.cons rfl (.cons rfl (.cons rfl (.cons rfl (.nil _))))) (K20 (decide ((y4.User.length : Int) > 300)) _ ⟨by rw [hg19]; rfl, rfl⟩)
  ·replace hS := ite_false' hS hc3
   refine ke_exit (k' := _) rfl ?_
   refine ke_seq ?_
   refine ke_region ?_
   refine sr_ev (v := vl_0) (ev_move rfl) (by decide) ?_
   refine sr_ev (v := .int .i64 (l_0.length : Int)) (ev_sllen Tryz.underlying22 rfl hl_0) (by decide) ?_
   refine sr_ev (v := .bool (decide ((l_0.length : Int) ≤ 20))) (ev_le rfl rfl) (by decide) ?_
   refine sr_ev (v := .bool (decide ((l_0.length : Int) ≤ 20))) (ev_assign rfl) (by decide) ?_
   refine sr_end (l' := [(2, .bool (decide ((l_0.length : Int) ≤ 20)))]) (.cons rfl (.nil _)) ?_
   cases hS
   exact ke_ret1 Tryz.func9 rfl rfl ⟨_, rfl, rfl, hb⟩
theorem law39_few_ok {A0 : Nat → Prop} (w0 : World) (hg : Gs w0) {l_0 : List law39_Op} {v1 : Value} {r : Bool} (h2 : SlR law39_Op.c A0 w0 v1 l_0) (hS : law39_few l_0 = some r) :
  Calls Tryz.prog 9 #[v1] w0 (Ret (fun v w' => v = .bool r ∧ Below w0.heap.size w0 w')) := by
 unfold law39_few at hS
 have hb := Below.refl w0.heap.size w0
 replace h2 := h2.weak (A' := fun _ => False) (fun _ h => h.elim)
 obtain ⟨A0, hA0, hAe⟩ : ∃ A0 : Nat → Prop, (∀ b, A0 b → b < w0.heap.size) ∧ A0 = fun _ => False := ⟨_, fun _ h => h.elim, rfl⟩
 rw [← hAe] at h2
 clear hAe
 have hA := hA0
 have hi : ∀ b, A0 b → A0 b := fun _ h => h
 have hH := Hp.nil A0 w0.heap.size w0
 refine calls_of_ke Tryz.func9 rfl (n := 46) rfl rfl (l := [(0, v1)]) rfl ?_
 refine ke_seq ?_
 refine ke_region ?_
 refine sr_ev (v := .bool false) (ev_assign rfl) (by decide) ?_
 refine sr_end (l' := [(0, v1)]) (.cons rfl (.nil _)) ?_
 refine ke_seq ?_
 refine ke_seq ?_
 refine ke_region ?_
 refine sr_ev (v := .int .i64 0) (ev_assign rfl) (by decide) ?_
 refine sr_end (l' := [(0, v1), (3, .int .i64 0)]) (.cons rfl (.cons rfl (.nil _))) ?_
 refine ke_block ?_
 have hK := law39_few_L1_ok hg hA0 _ hS hb hA hi hH h2
 exact ke_weaken (l' := [(0, v1), (3, .int .i64 0)]) (.cons rfl (.cons rfl (.nil _))) (ke_loop hK)
theorem clock_limited_ok (w0 : World) (hg : Gs w0) {t_0 : Int} {r : Int} (hS : clock_limited t_0 = some r) :
  Calls Tryz.prog 79 #[.int .i64 t_0] w0 (Ret (fun v w' => v = .int .i64 r ∧ Below w0.heap.size w0 w')) := by
 unfold clock_limited at hS
 have hb := Below.refl w0.heap.size w0
 refine calls_of_ke Tryz.func79 rfl (n := 6) rfl rfl (l := [(0, .int .i64 t_0)]) rfl ?_
 refine ke_seq ?_
 refine ke_region ?_
 refine sr_ev (v := .int .i64 0) (ev_assign rfl) (by decide) ?_
 refine sr_end (l' := [(0, .int .i64 t_0)]) (.cons rfl (.nil _)) ?_
 refine ke_seq ?_
 refine ke_region ?_
 refine sr_ev (v := .int .i64 t_0) (ev_move rfl) (by decide) ?_
 refine sr_ev (v := .int .i64 (gmax t_0 0)) (ev_max rfl rfl) (by decide) ?_
 refine sr_ev (v := .int .i64 (gmin (gmax t_0 0) 1099511627776)) (ev_min rfl rfl) (by decide) ?_
 refine sr_ev (v := .int .i64 (gmin (gmax t_0 0) 1099511627776)) (ev_assign rfl) (by decide) ?_
 refine sr_end (l' := [(2, .int .i64 (gmin (gmax t_0 0) 1099511627776))]) (.cons rfl (.nil _)) ?_
 cases hS
 exact ke_ret1 Tryz.func79 rfl rfl ⟨_, rfl, rfl, hb⟩
theorem clock_Add_ok (w0 : World) (hg : Gs w0) {t_0 : Int} {d_1 : Int} {r : Int} (hS : clock_Add t_0 d_1 = some r) :
  Calls Tryz.prog 39 #[.int .i64 t_0, .int .i64 d_1] w0 (Ret (fun v w' => v = .int .i64 r ∧ Below w0.heap.size w0 w')) := by
 unfold clock_Add at hS
 have hb := Below.refl w0.heap.size w0
 refine calls_of_ke Tryz.func39 rfl (n := 11) rfl rfl (l := [(0, .int .i64 t_0), (1, .int .i64 d_1)]) rfl ?_
 refine ke_seq ?_
 refine ke_region ?_
 refine sr_ev (v := .int .i64 0) (ev_assign rfl) (by decide) ?_
 refine sr_end (l' := [(0, .int .i64 t_0), (1, .int .i64 d_1)]) (.cons rfl (.cons rfl (.nil _))) ?_
 refine ke_seq ?_
 refine ke_region ?_
 refine sr_ev (v := .int .i64 t_0) (ev_move rfl) (by decide) ?_
 obtain ⟨y1, hy2, hS⟩ := bind_some' hS
 refine sr_call (vs := [.int .i64 t_0]) rfl Tryz.call79 rfl (clock_limited_ok _ (hg.below hb) hy2) (by decide) ?_
 rintro _ w3 ⟨rfl, hbw4⟩
 replace hb := hb.trans (hbw4.mono hb.size)
 refine sr_ev (v := .int .i64 d_1) (ev_move rfl) (by decide) ?_
 obtain ⟨y5, hy6, hS⟩ := bind_some' hS
 refine sr_call (vs := [.int .i64 d_1]) rfl Tryz.call79 rfl (clock_limited_ok _ (hg.below hb) hy6) (by decide) ?_
 rintro _ w7 ⟨rfl, hbw8⟩
 replace hb := hb.trans (hbw8.mono hb.size)
 refine sr_ev (v := .int .i64 (IntKind.i64.wrap (y1 + y5))) (ev_add rfl rfl) (by decide) ?_
 obtain ⟨y9, hy10, hS⟩ := bind_some' hS
 refine sr_call (vs := [.int .i64 (IntKind.i64.wrap (y1 + y5))]) rfl Tryz.call79 rfl (clock_limited_ok _ (hg.below hb) hy10) (by decide) ?_
 rintro _ w11 ⟨rfl, hbw12⟩
 replace hb := hb.trans (hbw12.mono hb.size)
 refine sr_ev (v := .int .i64 y9) (ev_assign rfl) (by decide) ?_
 refine sr_end (l' := [(4, .int .i64 y9)]) (.cons rfl (.nil _)) ?_
 cases hS
 exact ke_ret1 Tryz.func39 rfl rfl ⟨_, rfl, rfl, hb⟩
theorem secret_NewLocks_ok (w0 : World) (hg : Gs w0) {ρA : Tags} (hbd : ∀ b, ρA b ≠ 0 → b < w0.heap.size) (hz : Gz ρA) {o : Nat} (ho2 : 2 ≤ o) {most_0 : Int} {window_1 : Int} {lock_2 : Int} {r : (Option secret_Locks) × Int} (hS : secret_NewLocks most_0 window_1 lock_2 = some r) :
  Calls Tryz.prog 58 #[.int .i64 most_0, .int .i64 window_1, .int .i64 lock_2] w0 (Ret (fun v w' => ∃ ρ' zr0, v = .tuple #[zr0, .int .i64 r.2] ∧ PtrO secret_Locks.O (fun p => o + p) ρ' w' zr0 r.1 ∧ Tr ρA w0 (rng o 3) ρ' w')) := by
 unfold secret_NewLocks at hS
 have hb := enter_fr (ρ := ρA) (w := w0) (n := 3) ho2 hbd
 have hz := hz.enter (n := 3) ho2
 refine calls_of_ke Tryz.func58 rfl (n := 34) rfl rfl (l := [(0, .int .i64 most_0), (1, .int .i64 window_1), (2, .int .i64 lock_2)]) rfl ?_
 refine ke_seq ?_
 refine ke_region ?_
 refine sr_ev (v := .pointer none) (ev_assign rfl) (by decide) ?_
 refine sr_ev (v := .int .i64 0) (ev_assign rfl) (by decide) ?_
 refine sr_end (l' := [(0, .int .i64 most_0), (1, .int .i64 window_1), (2, .int .i64 lock_2)]) (.cons rfl (.cons rfl (.cons rfl (.nil _)))) ?_
 refine ke_seq ?_
 refine ke_region ?_
 refine sr_ev (v := .int .i64 window_1) (ev_move rfl) (by decide) ?_
 obtain ⟨y1, hy2, hS⟩ := bind_some' hS
 refine sr_call (vs := [.int .i64 window_1, .int .i64 0]) rfl Tryz.call39 rfl (clock_Add_ok _ (hg.fr hz hb) hy2) (by decide) ?_
 rintro _ w3 ⟨rfl, hbw4⟩
 have htr5 := Tr.of_below hbw4 hb.bd
 replace hb := hb.trans htr5
 refine sr_ev (v := .int .i64 lock_2) (ev_move rfl) (by decide) ?_
 obtain ⟨y6, hy7, hS⟩ := bind_some' hS
 refine sr_call (vs := [.int .i64 lock_2, .int .i64 0]) rfl Tryz.call39 rfl (clock_Add_ok _ (hg.fr hz hb) hy7) (by decide) ?_
 rintro _ w8 ⟨rfl, hbw9⟩
 have htr10 := Tr.of_below hbw9 hb.bd
 replace hb := hb.trans htr10
 refine sr_ev (v := .int .i64 y1) (ev_assign rfl) (by decide) ?_
 refine sr_ev (v := .int .i64 y6) (ev_assign rfl) (by decide) ?_
 refine sr_end (l' := [(0, .int .i64 most_0), (8, .int .i64 y1), (9, .int .i64 y6)]) (.cons rfl (.cons rfl (.cons rfl (.nil _)))) ?_
 refine ke_seq ?_
 refine ke_seq ?_
 refine ke_region ?_
 refine sr_ev (v := .int .i64 most_0) (ev_move rfl) (by decide) ?_
 refine sr_ev (v := .bool (decide (most_0 < 1))) (ev_lt rfl rfl) (by decide) ?_
 refine sr_ev (v := .bool (decide (most_0 < 1))) (ev_move rfl) (by decide) ?_
 refine sr_join (m := 3) (C := fun (x : Bool) w1 => x = ((decide (most_0 < 1)) || (decide (most_0 > 256))) ∧ w8 = w1) (l' := fun x => [(0, .int .i64 most_0), (8, .int .i64 y1), (9, .int .i64 y6), (19, .bool x)]) ?_ ?_
 ·rintro _ _ ⟨rfl, rfl⟩
  refine sr_ev (v := .bool ((decide (most_0 < 1)) || (decide (most_0 > 256)))) (ev_move rfl) (by decide) ?_
  refine sr_join (m := 3) (C := fun (x : Bool) w1 => x = (((decide (most_0 < 1)) || (decide (most_0 > 256))) || (decide (y1 < 1))) ∧ w8 = w1) (l' := fun x => [(0, .int .i64 most_0), (8, .int .i64 y1), (9, .int .i64 y6), (23, .bool x)]) ?_ ?_
  ·rintro _ _ ⟨rfl, rfl⟩
   refine sr_ev (v := .bool (((decide (most_0 < 1)) || (decide (most_0 > 256))) || (decide (y1 < 1)))) (ev_move rfl) (by decide) ?_
   refine sr_join (m := 3) (C := fun (x : Bool) w1 => x = ((((decide (most_0 < 1)) || (decide (most_0 > 256))) || (decide (y1 < 1))) || (decide (y6 < 1))) ∧ w8 = w1) (l' := fun x => [(0, .int .i64 most_0), (8, .int .i64 y1), (9, .int .i64 y6), (27, .bool x)]) ?_ ?_
   ·rintro _ _ ⟨rfl, rfl⟩
    refine sr_end (l' := [(0, .int .i64 most_0), (8, .int .i64 y1), (9, .int .i64 y6), (27, .bool ((((decide (most_0 < 1)) || (decide (most_0 > 256))) || (decide (y1 < 1))) || (decide (y6 < 1))))]) (.cons rfl (.cons rfl (.cons rfl (.cons rfl (.nil _))))) ?_
    refine ke_cond (t := (((decide (most_0 < 1)) || (decide (most_0 > 256))) || (decide (y1 < 1))) || (decide (y6 < 1))) rfl (fun hc35 => ?_) (fun hc35 => ?_)
    ·replace hS := ite_true' hS hc35
     refine ke_seq ?_
     refine ke_region ?_
     refine sr_ev (v := .pointer none) (ev_assign rfl) (by decide) ?_
     refine sr_ev (v := .int .i64 2) (ev_assign rfl) (by decide) ?_
     refine sr_end (l' := [(6, .pointer none), (7, .int .i64 2)]) (.cons rfl (.cons rfl (.nil _))) ?_
     cases hS
     exact ke_ret2 Tryz.func58 rfl rfl rfl ⟨_, rfl, leave ρA w0 o 3 (enter ρA o 3), _, rfl, PtrO.nil, (leave_tr ho2 hb)⟩
    ·replace hS := ite_false' hS hc35
     refine ke_skip ?_
     refine ke_seq ?_
     refine ke_region ?_
     refine sr_ev (v := .int .i64 most_0) (ev_move rfl) (by decide) ?_
     refine sr_ev (v := .int .i64 y1) (ev_move rfl) (by decide) ?_
     refine sr_ev (v := .int .i64 y6) (ev_move rfl) (by decide) ?_
     refine sr_makeMap (K := Str) (V := Option Nat) (ek := str) (c := ptrC) (agg := false) 33 (by decide) hb.bd rfl (by decide) ?_
     intro v36 ρ38 w39 h37 htr40
     replace hb := hb.trans htr40
     have hR42 : Recs secret_record.O 2 ρ38 35 w39 (some [] : GMap Str (Option Nat)) (some [] : GMap Str secret_record) := Recs.new
     refine sr_ev (v := .agg #[.int .i64 most_0, .int .i64 y1, .int .i64 y6, (.map (some v36))]) (ev_build (vs := #[(0, .int .i64 most_0), (1, .int .i64 y1), (2, .int .i64 y6), (3, (.map (some v36)))]) rfl (fun _ => by kernel_rfl)) (by decide) ?_
     refine sr_boxT 200 (by decide) hb.bd rfl (by decide) ?_
     intro g43 ρ44 w45 hB47 htr46
     replace h37 := h37.mv (htr46.mv (i := 33) rfl)
     replace hR42 := Recs.mv hR42 secret_record.objK (htr46.mv (i := 35) rfl) (by decide)
     replace hb := hb.trans htr46
     replace hB47 : Blk ρ44 200 w45 g43 (.cells #[.int .i64 most_0, .int .i64 y1, .int .i64 y6, (.map (some v36))] 134 (0, 0)) := hB47
     refine sr_ev (v := .pointer (some ⟨g43, 0, none⟩)) (ev_assign rfl) (by decide) ?_
     refine sr_ev (v := .int .i64 0) (ev_assign rfl) (by decide) ?_
     refine sr_end (l' := [(6, .pointer (some ⟨g43, 0, none⟩)), (7, .int .i64 0)]) (.cons rfl (.cons rfl (.nil _))) ?_
     have htr48 := rtg_tr (ρ := ρ44) (w := w45) (i := 33) 201 (by decide) hb.bd
     have hmv49 : Mv ρ44 w45 33 (rtg ρ44 33 201) w45 201 := rtg_mv (by decide)
     replace hB47 := hB47.mv (htr48.mv (i := 200) rfl)
     replace hR42 := Recs.mv hR42 secret_record.objK (htr48.mv (i := 35) rfl) (by decide)
     replace hb := hb.trans htr48
     replace h37 := h37.mv hmv49
     have htr50 := rtg_tr (ρ := (rtg ρ44 33 201)) (w := w45) (i := 35) 202 (by decide) hb.bd
     have hmv51 : Mv (rtg ρ44 33 201) w45 35 (rtg (rtg ρ44 33 201) 35 202) w45 202 := rtg_mv (by decide)
     replace hB47 := hB47.mv (htr50.mv (i := 200) rfl)
     replace h37 := h37.mv (htr50.mv (i := 201) rfl)
     replace hb := hb.trans htr50
     replace hR42 := Recs.mv hR42 secret_record.objK hmv51 (by decide)
     have htr52 := rtgR_tr (ρ := (rtg (rtg ρ44 33 201) 35 202)) (w := w45) (a := 200) (N := 3) 100 (by decide) hb.bd
     replace hb := hb.trans htr52
     replace hB47 := hB47.mv (rtgR_mv (ρ := (rtg (rtg ρ44 33 201) 35 202)) (w := w45) (a := 200) (b := 100) (N := 3) (p := 0) (by decide) (by decide))
     replace h37 := h37.mv (rtgR_mv (ρ := (rtg (rtg ρ44 33 201) 35 202)) (w := w45) (a := 200) (b := 100) (N := 3) (p := 1) (by decide) (by decide))
     replace hR42 := Recs.mv hR42 secret_record.objK (rtgR_mv (ρ := (rtg (rtg ρ44 33 201) 35 202)) (w := w45) (a := 200) (b := 100) (N := 3) (p := 2) (by decide) (by decide)) (by decide)
     cases hS
     exact ke_ret2 Tryz.func58 rfl rfl rfl ⟨_, rfl, leave ρA w0 o 3 (rtgR (rtg (rtg ρ44 33 201) 35 202) 200 100 3), _, rfl, (PtrO.mk ⟨_, _, (hB47.mv (leave_mv (p := 0) (by decide) hb)), (h37.mv (leave_mv (p := 1) (by decide) hb)), (Recs.mv hR42 secret_record.objK (leave_mv (p := 2) (by decide) hb) (Nat.ne_of_gt (Nat.lt_of_lt_of_le (Nat.lt_of_lt_of_le Nat.zero_lt_two ho2) (Nat.le_add_right _ _))))⟩), (leave_tr ho2 hb)⟩
   ·intro K28
    rcases Bool.eq_false_or_eq_true (((decide (most_0 < 1)) || (decide (most_0 > 256))) || (decide (y1 < 1))) with hg27 | hg27
    all_goals try have hj30 : Tr (enter ρA o 3) w8 (fun _ => false) (enter ρA o 3) w8 := Tr.refl hb.bd
    ·refine sr_pass (e := 24) rfl rfl (by rw [hg27]; rfl) (by decide) ?_
     refine sr_pass (e := 24) rfl rfl (by rw [hg27]; rfl) (by decide) ?_
     refine sr_ev (v := .bool true) (ev_pick_t rfl hg27 rfl) (by decide) ?_
     exact sr_weaken (l' := [(0, .int .i64 most_0), (8, .int .i64 y1), (9, .int .i64 y6), (27, .bool true)]) (.cons rfl (.cons rfl (.cons rfl (.cons rfl (.nil _))))) (K28 true _ ⟨by first | (rw [hg27]; rfl) | rfl, rfl⟩)
    ·refine sr_evg (b := false) (e := 24) rfl rfl hg27 (v := .int .i64 y6) (ev_move rfl) (by decide) ?_
     refine sr_evg (b := false) (e := 24) rfl rfl hg27 (v := .bool (decide (y6 < 1))) (ev_lt rfl rfl) (by decide) ?_
     refine sr_ev (v := .bool (decide (y6 < 1))) (ev_pick_f rfl hg27 rfl) (by decide) ?_
     exact sr_weaken (l' := [(0, .int .i64 most_0), (8, .int .i64 y1), (9, .int .i64 y6), (27, .bool (decide (y6 < 1)))]) (.cons rfl (.cons rfl (.cons rfl (.cons rfl (.nil _))))) (K28 (decide (y6 < 1)) _ ⟨by first | (rw [hg27]; rfl) | rfl, rfl⟩)
  ·intro K20
   rcases Bool.eq_false_or_eq_true ((decide (most_0 < 1)) || (decide (most_0 > 256))) with hg19 | hg19
   all_goals try have hj22 : Tr (enter ρA o 3) w8 (fun _ => false) (enter ρA o 3) w8 := Tr.refl hb.bd
   ·refine sr_pass (e := 20) rfl rfl (by rw [hg19]; rfl) (by decide) ?_
    refine sr_pass (e := 20) rfl rfl (by rw [hg19]; rfl) (by decide) ?_
    refine sr_ev (v := .bool true) (ev_pick_t rfl hg19 rfl) (by decide) ?_
    exact sr_weaken (l' := [(0, .int .i64 most_0), (8, .int .i64 y1), (9, .int .i64 y6), (23, .bool true)]) (.cons rfl (.cons rfl (.cons rfl (.cons rfl (.nil _))))) (K20 true _ ⟨by first | (rw [hg19]; rfl) | rfl, rfl⟩)
   ·refine sr_evg (b := false) (e := 20) rfl rfl hg19 (v := .int .i64 y1) (ev_move rfl) (by decide) ?_
    refine sr_evg (b := false) (e := 20) rfl rfl hg19 (v := .bool (decide (y1 < 1))) (ev_lt rfl rfl) (by decide) ?_
    refine sr_ev (v := .bool (decide (y1 < 1))) (ev_pick_f rfl hg19 rfl) (by decide) ?_
    exact sr_weaken (l' := [(0, .int .i64 most_0), (8, .int .i64 y1), (9, .int .i64 y6), (23, .bool (decide (y1 < 1)))]) (.cons rfl (.cons rfl (.cons rfl (.cons rfl (.nil _))))) (K20 (decide (y1 < 1)) _ ⟨by first | (rw [hg19]; rfl) | rfl, rfl⟩)
 ·intro K12
  rcases Bool.eq_false_or_eq_true (decide (most_0 < 1)) with hg11 | hg11
  all_goals try have hj14 : Tr (enter ρA o 3) w8 (fun _ => false) (enter ρA o 3) w8 := Tr.refl hb.bd
  ·refine sr_pass (e := 16) rfl rfl (by rw [hg11]; rfl) (by decide) ?_
   refine sr_pass (e := 16) rfl rfl (by rw [hg11]; rfl) (by decide) ?_
   refine sr_ev (v := .bool true) (ev_pick_t rfl hg11 rfl) (by decide) ?_
   exact sr_weaken (l' := [(0, .int .i64 most_0), (8, .int .i64 y1), (9, .int .i64 y6), (19, .bool true)]) (.cons rfl (.cons rfl (.cons rfl (.cons rfl (.nil _))))) (K12 true _ ⟨by first | (rw [hg11]; rfl) | rfl, rfl⟩)
  ·refine sr_evg (b := false) (e := 16) rfl rfl hg11 (v := .int .i64 most_0) (ev_move rfl) (by decide) ?_
   refine sr_evg (b := false) (e := 16) rfl rfl hg11 (v := .bool (decide (most_0 > 256))) (ev_gt rfl rfl) (by decide) ?_
   refine sr_ev (v := .bool (decide (most_0 > 256))) (ev_pick_f rfl hg11 rfl) (by decide) ?_
   exact sr_weaken (l' := [(0, .int .i64 most_0), (8, .int .i64 y1), (9, .int .i64 y6), (19, .bool (decide (most_0 > 256)))]) (.cons rfl (.cons rfl (.cons rfl (.cons rfl (.nil _))))) (K12 (decide (most_0 > 256)) _ ⟨by first | (rw [hg11]; rfl) | rfl, rfl⟩)
theorem login_New_ok (w0 : World) (hg : Gs w0) {ρA : Tags} (hbd : ∀ b, ρA b ≠ 0 → b < w0.heap.size) (hz : Gz ρA) {o : Nat} (ho2 : 2 ≤ o) {most_0 : Int} {window_1 : Int} {lock_2 : Int} {r : (Option login_Logins) × Int} (hS : login_New most_0 window_1 lock_2 = some r) :
  Calls Tryz.prog 23 #[.int .i64 most_0, .int .i64 window_1, .int .i64 lock_2] w0 (Ret (fun v w' => ∃ ρ' zr0, v = .tuple #[zr0, .int .i64 r.2] ∧ PtrO login_Logins.O (fun p => o + p) ρ' w' zr0 r.1 ∧ Tr ρA w0 (rng o 7) ρ' w')) := by
 unfold login_New at hS
 have hb := enter_fr (ρ := ρA) (w := w0) (n := 7) ho2 hbd
 have hz := hz.enter (n := 7) ho2
 refine calls_of_ke Tryz.func23 rfl (n := 26) rfl rfl (l := [(0, .int .i64 most_0), (1, .int .i64 window_1), (2, .int .i64 lock_2)]) rfl ?_
 refine ke_seq ?_
 refine ke_region ?_
 refine sr_ev (v := .pointer none) (ev_assign rfl) (by decide) ?_
 refine sr_ev (v := .int .i64 0) (ev_assign rfl) (by decide) ?_
 refine sr_end (l' := [(0, .int .i64 most_0), (1, .int .i64 window_1), (2, .int .i64 lock_2)]) (.cons rfl (.cons rfl (.cons rfl (.nil _)))) ?_
 refine ke_seq ?_
 refine ke_region ?_
 refine sr_ev (v := .int .i64 most_0) (ev_move rfl) (by decide) ?_
 refine sr_ev (v := .int .i64 window_1) (ev_move rfl) (by decide) ?_
 refine sr_ev (v := .int .i64 lock_2) (ev_move rfl) (by decide) ?_
 obtain ⟨y1, hy2, hS⟩ := bind_some' hS
 refine sr_call (vs := [.int .i64 most_0, .int .i64 window_1, .int .i64 lock_2]) rfl Tryz.call58 rfl (secret_NewLocks_ok _ (hg.fr hz hb) (ρA := (enter ρA o 7)) hb.bd (hz.fr hg hb) (o := 200) (by decide) hy2) (by decide) ?_
 rintro _ w3 ⟨ρ8, v6, rfl, hP7, htr5⟩
 replace hb := hb.trans htr5
 rcases ho10 : y1.1 with _ | z9
 ·replace hS := optC_none hS ho10
  obtain rfl := hP7.none_ ho10
  refine sr_ev (v := .tuple #[.pointer none, .int .i64 y1.2]) (ev_move rfl) (by decide) ?_
  refine sr_ev (v := .pointer none) (ev_extract rfl rfl) (by decide) ?_
  refine sr_ev (v := .int .i64 y1.2) (ev_extract rfl rfl) (by decide) ?_
  refine sr_ev (v := .pointer none) (ev_assign rfl) (by decide) ?_
  refine sr_ev (v := .int .i64 y1.2) (ev_assign rfl) (by decide) ?_
  refine sr_end (l' := [(8, .pointer none), (9, .int .i64 y1.2)]) (.cons rfl (.cons rfl (.nil _))) ?_
  refine ke_seq ?_
  refine ke_seq ?_
  refine ke_region ?_
  refine sr_ev (v := .int .i64 y1.2) (ev_move rfl) (by decide) ?_
  refine sr_ev (v := .bool (y1.2 != 0)) (ev_ne rfl rfl) (by decide) ?_
  refine sr_end (l' := [(8, .pointer none), (9, .int .i64 y1.2), (18, .bool (y1.2 != 0))]) (.cons rfl (.cons rfl (.cons rfl (.nil _)))) ?_
  refine ke_cond (t := y1.2 != 0) rfl (fun hc51 => ?_) (fun hc51 => ?_)
  ·replace hS := ite_true' hS hc51
   refine ke_seq ?_
   refine ke_region ?_
   refine sr_ev (v := .int .i64 y1.2) (ev_move rfl) (by decide) ?_
   refine sr_ev (v := .pointer none) (ev_assign rfl) (by decide) ?_
   refine sr_ev (v := .int .i64 y1.2) (ev_assign rfl) (by decide) ?_
   refine sr_end (l' := [(6, .pointer none), (7, .int .i64 y1.2)]) (.cons rfl (.cons rfl (.nil _))) ?_
   cases hS
   exact ke_ret2 Tryz.func23 rfl rfl rfl ⟨_, rfl, leave ρA w0 o 7 ρ8, _, rfl, PtrO.nil, (leave_tr ho2 hb)⟩
  ·replace hS := ite_false' hS hc51
   refine ke_skip ?_
   refine ke_seq ?_
   refine ke_region ?_
   refine sr_ev (v := .pointer none) (ev_move rfl) (by decide) ?_
   refine sr_makeMap (K := Str) (V := login_credentials) (ek := str) (c := login_credentials.c) (agg := true) 23 (by decide) hb.bd rfl (by decide) ?_
   intro v52 ρ54 w55 h53 htr56
   replace hb := hb.trans htr56
   refine sr_makeMap (K := Str) (V := Int) (ek := str) (c := (intC .i64)) (agg := false) 24 (by decide) hb.bd rfl (by decide) ?_
   intro v57 ρ59 w60 h58 htr61
   replace h53 := h53.mv (htr61.mv (i := 23) rfl)
   replace hb := hb.trans htr61
   refine sr_makeMap (K := Str) (V := login_attempt) (ek := str) (c := login_attempt.c) (agg := true) 25 (by decide) hb.bd rfl (by decide) ?_
   intro v62 ρ64 w65 h63 htr66
   replace h53 := h53.mv (htr66.mv (i := 23) rfl)
   replace h58 := h58.mv (htr66.mv (i := 24) rfl)
   replace hb := hb.trans htr66
   refine sr_ev (v := .agg #[.pointer none, (.map (some v52)), (.map (some v57)), (.map (some v62))]) (ev_build (vs := #[(0, .pointer none), (1, (.map (some v52))), (2, (.map (some v57))), (3, (.map (some v62)))]) rfl (fun _ => by kernel_rfl)) (by decide) ?_
   refine sr_boxT 200 (by decide) hb.bd rfl (by decide) ?_
   intro g67 ρ68 w69 hB71 htr70
   replace h53 := h53.mv (htr70.mv (i := 23) rfl)
   replace h58 := h58.mv (htr70.mv (i := 24) rfl)
   replace h63 := h63.mv (htr70.mv (i := 25) rfl)
   replace hb := hb.trans htr70
   replace hB71 : Blk ρ68 200 w69 g67 (.cells #[.pointer none, (.map (some v52)), (.map (some v57)), (.map (some v62))] 69 (0, 0)) := hB71
   refine sr_ev (v := .pointer (some ⟨g67, 0, none⟩)) (ev_assign rfl) (by decide) ?_
   refine sr_ev (v := .int .i64 0) (ev_assign rfl) (by decide) ?_
   refine sr_end (l' := [(6, .pointer (some ⟨g67, 0, none⟩)), (7, .int .i64 0)]) (.cons rfl (.cons rfl (.nil _))) ?_
   have htr72 := rtg_tr (ρ := ρ68) (w := w69) (i := 23) 204 (by decide) hb.bd
   have hmv73 : Mv ρ68 w69 23 (rtg ρ68 23 204) w69 204 := rtg_mv (by decide)
   replace hB71 := hB71.mv (htr72.mv (i := 200) rfl)
   replace h58 := h58.mv (htr72.mv (i := 24) rfl)
   replace h63 := h63.mv (htr72.mv (i := 25) rfl)
   replace hb := hb.trans htr72
   replace h53 := h53.mv hmv73
   have htr74 := rtg_tr (ρ := (rtg ρ68 23 204)) (w := w69) (i := 24) 205 (by decide) hb.bd
   have hmv75 : Mv (rtg ρ68 23 204) w69 24 (rtg (rtg ρ68 23 204) 24 205) w69 205 := rtg_mv (by decide)
   replace hB71 := hB71.mv (htr74.mv (i := 200) rfl)
   replace h53 := h53.mv (htr74.mv (i := 204) rfl)
   replace h63 := h63.mv (htr74.mv (i := 25) rfl)
   replace hb := hb.trans htr74
   replace h58 := h58.mv hmv75
   have htr76 := rtg_tr (ρ := (rtg (rtg ρ68 23 204) 24 205)) (w := w69) (i := 25) 206 (by decide) hb.bd
   have hmv77 : Mv (rtg (rtg ρ68 23 204) 24 205) w69 25 (rtg (rtg (rtg ρ68 23 204) 24 205) 25 206) w69 206 := rtg_mv (by decide)
   replace hB71 := hB71.mv (htr76.mv (i := 200) rfl)
   replace h53 := h53.mv (htr76.mv (i := 204) rfl)
   replace h58 := h58.mv (htr76.mv (i := 205) rfl)
   replace hb := hb.trans htr76
   replace h63 := h63.mv hmv77
   have htr78 := rtgR_tr (ρ := (rtg (rtg (rtg ρ68 23 204) 24 205) 25 206)) (w := w69) (a := 200) (N := 7) 100 (by decide) hb.bd
   replace hb := hb.trans htr78
   replace hB71 := hB71.mv (rtgR_mv (ρ := (rtg (rtg (rtg ρ68 23 204) 24 205) 25 206)) (w := w69) (a := 200) (b := 100) (N := 7) (p := 0) (by decide) (by decide))
   replace h53 := h53.mv (rtgR_mv (ρ := (rtg (rtg (rtg ρ68 23 204) 24 205) 25 206)) (w := w69) (a := 200) (b := 100) (N := 7) (p := 4) (by decide) (by decide))
   replace h58 := h58.mv (rtgR_mv (ρ := (rtg (rtg (rtg ρ68 23 204) 24 205) 25 206)) (w := w69) (a := 200) (b := 100) (N := 7) (p := 5) (by decide) (by decide))
   replace h63 := h63.mv (rtgR_mv (ρ := (rtg (rtg (rtg ρ68 23 204) 24 205) 25 206)) (w := w69) (a := 200) (b := 100) (N := 7) (p := 6) (by decide) (by decide))
   cases hS
   exact ke_ret2 Tryz.func23 rfl rfl rfl ⟨_, rfl, leave ρA w0 o 7 (rtgR (rtg (rtg (rtg ρ68 23 204) 24 205) 25 206) 200 100 7), _, rfl, (PtrO.mk ⟨_, _, _, _, (hB71.mv (leave_mv (p := 0) (by decide) hb)), PtrO.nil, (h53.mv (leave_mv (p := 4) (by decide) hb)), (h58.mv (leave_mv (p := 5) (by decide) hb)), (h63.mv (leave_mv (p := 6) (by decide) hb))⟩), (leave_tr ho2 hb)⟩
 ·replace hS := optC_some hS ho10
  obtain ⟨g11, rfl, ⟨v12, lp14, hB16, h13, hR15⟩⟩ := hP7.some_ ho10
  replace hB16 : Blk ρ8 200 w3 g11 (.cells #[.int .i64 z9.most, .int .i64 z9.window, .int .i64 z9.lock, v12] 134 (0, 0)) := hB16
  replace h13 : MapT str ptrC false ρ8 201 w3 v12 lp14 := h13
  replace hR15 : Recs secret_record.O 2 ρ8 202 w3 lp14 z9.users := hR15
  refine sr_ev (v := .tuple #[.pointer (some ⟨g11, 0, none⟩), .int .i64 y1.2]) (ev_move rfl) (by decide) ?_
  refine sr_ev (v := .pointer (some ⟨g11, 0, none⟩)) (ev_extract rfl rfl) (by decide) ?_
  refine sr_ev (v := .int .i64 y1.2) (ev_extract rfl rfl) (by decide) ?_
  refine sr_ev (v := .pointer (some ⟨g11, 0, none⟩)) (ev_assign rfl) (by decide) ?_
  refine sr_ev (v := .int .i64 y1.2) (ev_assign rfl) (by decide) ?_
  refine sr_end (l' := [(8, .pointer (some ⟨g11, 0, none⟩)), (9, .int .i64 y1.2)]) (.cons rfl (.cons rfl (.nil _))) ?_
  refine ke_seq ?_
  refine ke_seq ?_
  refine ke_region ?_
  refine sr_ev (v := .int .i64 y1.2) (ev_move rfl) (by decide) ?_
  refine sr_ev (v := .bool (y1.2 != 0)) (ev_ne rfl rfl) (by decide) ?_
  refine sr_end (l' := [(8, .pointer (some ⟨g11, 0, none⟩)), (9, .int .i64 y1.2), (18, .bool (y1.2 != 0))]) (.cons rfl (.cons rfl (.cons rfl (.nil _)))) ?_
  refine ke_cond (t := y1.2 != 0) rfl (fun hc17 => ?_) (fun hc17 => ?_)
  ·replace hS := ite_true' hS hc17
   refine ke_seq ?_
   refine ke_region ?_
   refine sr_ev (v := .int .i64 y1.2) (ev_move rfl) (by decide) ?_
   refine sr_ev (v := .pointer none) (ev_assign rfl) (by decide) ?_
   refine sr_ev (v := .int .i64 y1.2) (ev_assign rfl) (by decide) ?_
   refine sr_end (l' := [(6, .pointer none), (7, .int .i64 y1.2)]) (.cons rfl (.cons rfl (.nil _))) ?_
   cases hS
   exact ke_ret2 Tryz.func23 rfl rfl rfl ⟨_, rfl, leave ρA w0 o 7 ρ8, _, rfl, PtrO.nil, (leave_tr ho2 hb)⟩
  ·replace hS := ite_false' hS hc17
   refine ke_skip ?_
   refine ke_seq ?_
   refine ke_region ?_
   refine sr_ev (v := .pointer (some ⟨g11, 0, none⟩)) (ev_move rfl) (by decide) ?_
   refine sr_makeMap (K := Str) (V := login_credentials) (ek := str) (c := login_credentials.c) (agg := true) 23 (by decide) hb.bd rfl (by decide) ?_
   intro v18 ρ20 w21 h19 htr22
   replace hB16 := hB16.mv (htr22.mv (i := 200) rfl)
   replace h13 := h13.mv (htr22.mv (i := 201) rfl)
   replace hR15 := Recs.mv hR15 secret_record.objK (htr22.mv (i := 202) rfl) (by decide)
   replace hb := hb.trans htr22
   refine sr_makeMap (K := Str) (V := Int) (ek := str) (c := (intC .i64)) (agg := false) 24 (by decide) hb.bd rfl (by decide) ?_
   intro v23 ρ25 w26 h24 htr27
   replace h19 := h19.mv (htr27.mv (i := 23) rfl)
   replace hB16 := hB16.mv (htr27.mv (i := 200) rfl)
   replace h13 := h13.mv (htr27.mv (i := 201) rfl)
   replace hR15 := Recs.mv hR15 secret_record.objK (htr27.mv (i := 202) rfl) (by decide)
   replace hb := hb.trans htr27
   refine sr_makeMap (K := Str) (V := login_attempt) (ek := str) (c := login_attempt.c) (agg := true) 25 (by decide) hb.bd rfl (by decide) ?_
   intro v28 ρ30 w31 h29 htr32
   replace h19 := h19.mv (htr32.mv (i := 23) rfl)
   replace h24 := h24.mv (htr32.mv (i := 24) rfl)
   replace hB16 := hB16.mv (htr32.mv (i := 200) rfl)
   replace h13 := h13.mv (htr32.mv (i := 201) rfl)
   replace hR15 := Recs.mv hR15 secret_record.objK (htr32.mv (i := 202) rfl) (by decide)
   replace hb := hb.trans htr32
   refine sr_ev (v := .agg #[.pointer (some ⟨g11, 0, none⟩), (.map (some v18)), (.map (some v23)), (.map (some v28))]) (ev_build (vs := #[(0, .pointer (some ⟨g11, 0, none⟩)), (1, (.map (some v18))), (2, (.map (some v23))), (3, (.map (some v28)))]) rfl (fun _ => by kernel_rfl)) (by decide) ?_
   refine sr_boxT 300 (by decide) hb.bd rfl (by decide) ?_
   intro g33 ρ34 w35 hB37 htr36
   replace h19 := h19.mv (htr36.mv (i := 23) rfl)
   replace h24 := h24.mv (htr36.mv (i := 24) rfl)
   replace h29 := h29.mv (htr36.mv (i := 25) rfl)
   replace hB16 := hB16.mv (htr36.mv (i := 200) rfl)
   replace h13 := h13.mv (htr36.mv (i := 201) rfl)
   replace hR15 := Recs.mv hR15 secret_record.objK (htr36.mv (i := 202) rfl) (by decide)
   replace hb := hb.trans htr36
   replace hB37 : Blk ρ34 300 w35 g33 (.cells #[.pointer (some ⟨g11, 0, none⟩), (.map (some v18)), (.map (some v23)), (.map (some v28))] 69 (0, 0)) := hB37
   refine sr_ev (v := .pointer (some ⟨g33, 0, none⟩)) (ev_assign rfl) (by decide) ?_
   refine sr_ev (v := .int .i64 0) (ev_assign rfl) (by decide) ?_
   refine sr_end (l' := [(6, .pointer (some ⟨g33, 0, none⟩)), (7, .int .i64 0)]) (.cons rfl (.cons rfl (.nil _))) ?_
   have htr38 := rtg_tr (ρ := ρ34) (w := w35) (i := 201) 302 (by decide) hb.bd
   have hmv39 : Mv ρ34 w35 201 (rtg ρ34 201 302) w35 302 := rtg_mv (by decide)
   replace hB37 := hB37.mv (htr38.mv (i := 300) rfl)
   replace h19 := h19.mv (htr38.mv (i := 23) rfl)
   replace h24 := h24.mv (htr38.mv (i := 24) rfl)
   replace h29 := h29.mv (htr38.mv (i := 25) rfl)
   replace hB16 := hB16.mv (htr38.mv (i := 200) rfl)
   replace hR15 := Recs.mv hR15 secret_record.objK (htr38.mv (i := 202) rfl) (by decide)
   replace hb := hb.trans htr38
   replace h13 := h13.mv hmv39
   have htr40 := rtg_tr (ρ := (rtg ρ34 201 302)) (w := w35) (i := 202) 303 (by decide) hb.bd
   have hmv41 : Mv (rtg ρ34 201 302) w35 202 (rtg (rtg ρ34 201 302) 202 303) w35 303 := rtg_mv (by decide)
   replace hB37 := hB37.mv (htr40.mv (i := 300) rfl)
   replace h19 := h19.mv (htr40.mv (i := 23) rfl)
   replace h24 := h24.mv (htr40.mv (i := 24) rfl)
   replace h29 := h29.mv (htr40.mv (i := 25) rfl)
   replace hB16 := hB16.mv (htr40.mv (i := 200) rfl)
   replace h13 := h13.mv (htr40.mv (i := 302) rfl)
   replace hb := hb.trans htr40
   replace hR15 := Recs.mv hR15 secret_record.objK hmv41 (by decide)
   have htr42 := rtg_tr (ρ := (rtg (rtg ρ34 201 302) 202 303)) (w := w35) (i := 200) 301 (by decide) hb.bd
   have hmv43 : Mv (rtg (rtg ρ34 201 302) 202 303) w35 200 (rtg (rtg (rtg ρ34 201 302) 202 303) 200 301) w35 301 := rtg_mv (by decide)
   replace hB37 := hB37.mv (htr42.mv (i := 300) rfl)
   replace h19 := h19.mv (htr42.mv (i := 23) rfl)
   replace h24 := h24.mv (htr42.mv (i := 24) rfl)
   replace h29 := h29.mv (htr42.mv (i := 25) rfl)
   replace h13 := h13.mv (htr42.mv (i := 302) rfl)
   replace hR15 := Recs.mv hR15 secret_record.objK (htr42.mv (i := 303) rfl) (by decide)
   replace hb := hb.trans htr42
   replace hB16 := hB16.mv hmv43
   have htr44 := rtg_tr (ρ := (rtg (rtg (rtg ρ34 201 302) 202 303) 200 301)) (w := w35) (i := 23) 304 (by decide) hb.bd
   have hmv45 : Mv (rtg (rtg (rtg ρ34 201 302) 202 303) 200 301) w35 23 (rtg (rtg (rtg (rtg ρ34 201 302) 202 303) 200 301) 23 304) w35 304 := rtg_mv (by decide)
   replace hB37 := hB37.mv (htr44.mv (i := 300) rfl)
   replace h24 := h24.mv (htr44.mv (i := 24) rfl)
   replace h29 := h29.mv (htr44.mv (i := 25) rfl)
   replace hB16 := hB16.mv (htr44.mv (i := 301) rfl)
   replace h13 := h13.mv (htr44.mv (i := 302) rfl)
   replace hR15 := Recs.mv hR15 secret_record.objK (htr44.mv (i := 303) rfl) (by decide)
   replace hb := hb.trans htr44
   replace h19 := h19.mv hmv45
   have htr46 := rtg_tr (ρ := (rtg (rtg (rtg (rtg ρ34 201 302) 202 303) 200 301) 23 304)) (w := w35) (i := 24) 305 (by decide) hb.bd
   have hmv47 : Mv (rtg (rtg (rtg (rtg ρ34 201 302) 202 303) 200 301) 23 304) w35 24 (rtg (rtg (rtg (rtg (rtg ρ34 201 302) 202 303) 200 301) 23 304) 24 305) w35 305 := rtg_mv (by decide)
   replace hB37 := hB37.mv (htr46.mv (i := 300) rfl)
   replace h19 := h19.mv (htr46.mv (i := 304) rfl)
   replace h29 := h29.mv (htr46.mv (i := 25) rfl)
   replace hB16 := hB16.mv (htr46.mv (i := 301) rfl)
   replace h13 := h13.mv (htr46.mv (i := 302) rfl)
   replace hR15 := Recs.mv hR15 secret_record.objK (htr46.mv (i := 303) rfl) (by decide)
   replace hb := hb.trans htr46
   replace h24 := h24.mv hmv47
   have htr48 := rtg_tr (ρ := (rtg (rtg (rtg (rtg (rtg ρ34 201 302) 202 303) 200 301) 23 304) 24 305)) (w := w35) (i := 25) 306 (by decide) hb.bd
   have hmv49 : Mv (rtg (rtg (rtg (rtg (rtg ρ34 201 302) 202 303) 200 301) 23 304) 24 305) w35 25 (rtg (rtg (rtg (rtg (rtg (rtg ρ34 201 302) 202 303) 200 301) 23 304) 24 305) 25 306) w35 306 := rtg_mv (by decide)
   replace hB37 := hB37.mv (htr48.mv (i := 300) rfl)
   replace h19 := h19.mv (htr48.mv (i := 304) rfl)
   replace h24 := h24.mv (htr48.mv (i := 305) rfl)
   replace hB16 := hB16.mv (htr48.mv (i := 301) rfl)
   replace h13 := h13.mv (htr48.mv (i := 302) rfl)
   replace hR15 := Recs.mv hR15 secret_record.objK (htr48.mv (i := 303) rfl) (by decide)
   replace hb := hb.trans htr48
   replace h29 := h29.mv hmv49
   have htr50 := rtgR_tr (ρ := (rtg (rtg (rtg (rtg (rtg (rtg ρ34 201 302) 202 303) 200 301) 23 304) 24 305) 25 306)) (w := w35) (a := 300) (N := 7) 100 (by decide) hb.bd
   replace hb := hb.trans htr50
   replace hB37 := hB37.mv (rtgR_mv (ρ := (rtg (rtg (rtg (rtg (rtg (rtg ρ34 201 302) 202 303) 200 301) 23 304) 24 305) 25 306)) (w := w35) (a := 300) (b := 100) (N := 7) (p := 0) (by decide) (by decide))
   replace hB16 := hB16.mv (rtgR_mv (ρ := (rtg (rtg (rtg (rtg (rtg (rtg ρ34 201 302) 202 303) 200 301) 23 304) 24 305) 25 306)) (w := w35) (a := 300) (b := 100) (N := 7) (p := 1) (by decide) (by decide))
   replace h13 := h13.mv (rtgR_mv (ρ := (rtg (rtg (rtg (rtg (rtg (rtg ρ34 201 302) 202 303) 200 301) 23 304) 24 305) 25 306)) (w := w35) (a := 300) (b := 100) (N := 7) (p := 2) (by decide) (by decide))
   replace hR15 := Recs.mv hR15 secret_record.objK (rtgR_mv (ρ := (rtg (rtg (rtg (rtg (rtg (rtg ρ34 201 302) 202 303) 200 301) 23 304) 24 305) 25 306)) (w := w35) (a := 300) (b := 100) (N := 7) (p := 3) (by decide) (by decide)) (by decide)
   replace h19 := h19.mv (rtgR_mv (ρ := (rtg (rtg (rtg (rtg (rtg (rtg ρ34 201 302) 202 303) 200 301) 23 304) 24 305) 25 306)) (w := w35) (a := 300) (b := 100) (N := 7) (p := 4) (by decide) (by decide))
   replace h24 := h24.mv (rtgR_mv (ρ := (rtg (rtg (rtg (rtg (rtg (rtg ρ34 201 302) 202 303) 200 301) 23 304) 24 305) 25 306)) (w := w35) (a := 300) (b := 100) (N := 7) (p := 5) (by decide) (by decide))
   replace h29 := h29.mv (rtgR_mv (ρ := (rtg (rtg (rtg (rtg (rtg (rtg ρ34 201 302) 202 303) 200 301) 23 304) 24 305) 25 306)) (w := w35) (a := 300) (b := 100) (N := 7) (p := 6) (by decide) (by decide))
   cases hS
   exact ke_ret2 Tryz.func23 rfl rfl rfl ⟨_, rfl, leave ρA w0 o 7 (rtgR (rtg (rtg (rtg (rtg (rtg (rtg ρ34 201 302) 202 303) 200 301) 23 304) 24 305) 25 306) 300 100 7), _, rfl, (PtrO.mk ⟨_, _, _, _, (hB37.mv (leave_mv (p := 0) (by decide) hb)), (PtrO.mk ⟨_, _, (hB16.mv (leave_mv (p := 1) (by decide) hb)), (h13.mv (leave_mv (p := 2) (by decide) hb)), (Recs.mv hR15 secret_record.objK (leave_mv (p := 3) (by decide) hb) (Nat.ne_of_gt (Nat.lt_of_lt_of_le (Nat.lt_of_lt_of_le Nat.zero_lt_two ho2) (Nat.le_add_right _ _))))⟩), (h19.mv (leave_mv (p := 4) (by decide) hb)), (h24.mv (leave_mv (p := 5) (by decide) hb)), (h29.mv (leave_mv (p := 6) (by decide) hb))⟩), (leave_tr ho2 hb)⟩
theorem fold_upper_ok (w0 : World) (hg : Gs w0) {c_0 : Int} {r : Bool} (hS : fold_upper c_0 = some r) :
  Calls Tryz.prog 115 #[.int .u8 c_0] w0 (Ret (fun v w' => v = .bool r ∧ Below w0.heap.size w0 w')) := by
 unfold fold_upper at hS
 have hb := Below.refl w0.heap.size w0
 refine calls_of_ke Tryz.func115 rfl (n := 9) rfl rfl (l := [(0, .int .u8 c_0)]) rfl ?_
 refine ke_seq ?_
 refine ke_region ?_
 refine sr_ev (v := .bool false) (ev_assign rfl) (by decide) ?_
 refine sr_end (l' := [(0, .int .u8 c_0)]) (.cons rfl (.nil _)) ?_
 refine ke_seq ?_
 refine ke_region ?_
 refine sr_ev (v := .int .u8 c_0) (ev_move rfl) (by decide) ?_
 refine sr_ev (v := .bool (decide (c_0 ≥ 65))) (ev_ge rfl rfl) (by decide) ?_
 refine sr_ev (v := .bool (decide (c_0 ≥ 65))) (ev_move rfl) (by decide) ?_
 refine sr_join (m := 3) (C := fun (x : Bool) w1 => x = ((decide (c_0 ≥ 65)) && (decide (c_0 ≤ 90))) ∧ w0 = w1) (l' := fun x => [(8, .bool x)]) ?_ ?_
 ·rintro _ _ ⟨rfl, rfl⟩
  refine sr_ev (v := .bool ((decide (c_0 ≥ 65)) && (decide (c_0 ≤ 90)))) (ev_assign rfl) (by decide) ?_
  refine sr_end (l' := [(2, .bool ((decide (c_0 ≥ 65)) && (decide (c_0 ≤ 90))))]) (.cons rfl (.nil _)) ?_
  cases hS
  exact ke_ret1 Tryz.func115 rfl rfl ⟨_, rfl, rfl, hb⟩
 ·intro K2
  rcases Bool.eq_false_or_eq_true (decide (c_0 ≥ 65)) with hg1 | hg1
  ·refine sr_evg (b := true) (e := 5) rfl rfl hg1 (v := .int .u8 c_0) (ev_move rfl) (by decide) ?_
   refine sr_evg (b := true) (e := 5) rfl rfl hg1 (v := .bool (decide (c_0 ≤ 90))) (ev_le rfl rfl) (by decide) ?_
   refine sr_ev (v := .bool (decide (c_0 ≤ 90))) (ev_pick_t rfl hg1 rfl) (by decide) ?_
   exact sr_weaken (l' := [(8, .bool (decide (c_0 ≤ 90)))]) (.cons rfl (.nil _)) (K2 (decide (c_0 ≤ 90)) _ ⟨by rw [hg1]; rfl, rfl⟩)
  ·refine sr_pass (e := 5) rfl rfl (by rw [hg1]; rfl) (by decide) ?_
   refine sr_pass (e := 5) rfl rfl (by rw [hg1]; rfl) (by decide) ?_
   refine sr_ev (v := .bool false) (ev_pick_f rfl hg1 rfl) (by decide) ?_
   exact sr_weaken (l' := [(8, .bool false)]) (.cons rfl (.nil _)) (K2 false _ ⟨by rw [hg1]; rfl, rfl⟩)
theorem fold_letter_ok (w0 : World) (hg : Gs w0) {c_0 : Int} {r : Bool} (hS : fold_letter c_0 = some r) :
  Calls Tryz.prog 86 #[.int .u8 c_0] w0 (Ret (fun v w' => v = .bool r ∧ Below w0.heap.size w0 w')) := by
 unfold fold_letter at hS
 have hb := Below.refl w0.heap.size w0
 refine calls_of_ke Tryz.func86 rfl (n := 13) rfl rfl (l := [(0, .int .u8 c_0)]) rfl ?_
 refine ke_seq ?_
 refine ke_region ?_
 refine sr_ev (v := .bool false) (ev_assign rfl) (by decide) ?_
 refine sr_end (l' := [(0, .int .u8 c_0)]) (.cons rfl (.nil _)) ?_
 refine ke_seq ?_
 refine ke_region ?_
 refine sr_ev (v := .int .u8 c_0) (ev_move rfl) (by decide) ?_
 obtain ⟨y1, hy2, hS⟩ := bind_some' hS
 refine sr_call (vs := [.int .u8 c_0]) rfl Tryz.call115 rfl (fold_upper_ok _ (hg.below hb) hy2) (by decide) ?_
 rintro _ w3 ⟨rfl, hbw4⟩
 replace hb := hb.trans (hbw4.mono hb.size)
 refine sr_ev (v := .bool y1) (ev_move rfl) (by decide) ?_
 refine sr_join (m := 7) (C := fun (x : Bool) w1 => x = (y1 || ((decide (c_0 ≥ 97)) && (decide (c_0 ≤ 122)))) ∧ w3 = w1) (l' := fun x => [(12, .bool x)]) ?_ ?_
 ·rintro _ _ ⟨rfl, rfl⟩
  refine sr_ev (v := .bool (y1 || ((decide (c_0 ≥ 97)) && (decide (c_0 ≤ 122))))) (ev_assign rfl) (by decide) ?_
  refine sr_end (l' := [(2, .bool (y1 || ((decide (c_0 ≥ 97)) && (decide (c_0 ≤ 122)))))]) (.cons rfl (.nil _)) ?_
  cases hS
  exact ke_ret1 Tryz.func86 rfl rfl ⟨_, rfl, rfl, hb⟩
 ·intro K6
  rcases Bool.eq_false_or_eq_true y1 with hg5 | hg5
  ·refine sr_pass (e := 5) rfl rfl (by rw [hg5]; rfl) (by decide) ?_
   refine sr_pass (e := 5) rfl rfl (by rw [hg5]; rfl) (by decide) ?_
   refine sr_pass (e := 5) rfl rfl (by rw [hg5]; rfl) (by decide) ?_
   refine sr_pass_undef (e := 8) rfl rfl (by decide) ?_
   refine sr_pass_undef (e := 8) rfl rfl (by decide) ?_
   refine sr_pass (e := 5) rfl rfl (by rw [hg5]; rfl) (by decide) ?_
   refine sr_ev (v := .bool true) (ev_pick_t rfl hg5 rfl) (by decide) ?_
   exact sr_weaken (l' := [(12, .bool true)]) (.cons rfl (.nil _)) (K6 true _ ⟨by rw [hg5]; rfl, rfl⟩)
  ·refine sr_evg (b := false) (e := 5) rfl rfl hg5 (v := .int .u8 c_0) (ev_move rfl) (by decide) ?_
   refine sr_evg (b := false) (e := 5) rfl rfl hg5 (v := .bool (decide (c_0 ≥ 97))) (ev_ge rfl rfl) (by decide) ?_
   refine sr_evg (b := false) (e := 5) rfl rfl hg5 (v := .bool (decide (c_0 ≥ 97))) (ev_move rfl) (by decide) ?_
   refine sr_join (m := 3) (C := fun (x : Bool) w1 => x = ((decide (c_0 ≥ 97)) && (decide (c_0 ≤ 122))) ∧ w3 = w1) (l' := fun x => [(5, .bool y1), (11, .bool x)]) ?_ ?_
   ·rintro _ _ ⟨rfl, rfl⟩
    refine sr_ev (v := .bool ((decide (c_0 ≥ 97)) && (decide (c_0 ≤ 122)))) (ev_pick_f rfl hg5 rfl) (by decide) ?_
    exact sr_weaken (l' := [(12, .bool ((decide (c_0 ≥ 97)) && (decide (c_0 ≤ 122))))]) (.cons rfl (.nil _)) (K6 ((decide (c_0 ≥ 97)) && (decide (c_0 ≤ 122))) _ ⟨by rw [hg5]; rfl, rfl⟩)
   ·intro K13
    rcases Bool.eq_false_or_eq_true (decide (c_0 ≥ 97)) with hg12 | hg12
    ·refine sr_evg (b := true) (e := 8) rfl rfl hg12 (v := .int .u8 c_0) (ev_move rfl) (by decide) ?_
     refine sr_evg (b := true) (e := 8) rfl rfl hg12 (v := .bool (decide (c_0 ≤ 122))) (ev_le rfl rfl) (by decide) ?_
     refine sr_evg (b := false) (e := 5) rfl rfl hg5 (v := .bool (decide (c_0 ≤ 122))) (ev_pick_t rfl hg12 rfl) (by decide) ?_
     exact sr_weaken (l' := [(5, .bool y1), (11, .bool (decide (c_0 ≤ 122)))]) (.cons rfl (.cons rfl (.nil _))) (K13 (decide (c_0 ≤ 122)) _ ⟨by rw [hg12]; rfl, rfl⟩)
    ·refine sr_pass (e := 8) rfl rfl (by rw [hg12]; rfl) (by decide) ?_
     refine sr_pass (e := 8) rfl rfl (by rw [hg12]; rfl) (by decide) ?_
     refine sr_evg (b := false) (e := 5) rfl rfl hg5 (v := .bool false) (ev_pick_f rfl hg12 rfl) (by decide) ?_
     exact sr_weaken (l' := [(5, .bool y1), (11, .bool false)]) (.cons rfl (.cons rfl (.nil _))) (K13 false _ ⟨by rw [hg12]; rfl, rfl⟩)
theorem fold_digit_ok (w0 : World) (hg : Gs w0) {c_0 : Int} {r : Bool} (hS : fold_digit c_0 = some r) :
  Calls Tryz.prog 87 #[.int .u8 c_0] w0 (Ret (fun v w' => v = .bool r ∧ Below w0.heap.size w0 w')) := by
 unfold fold_digit at hS
 have hb := Below.refl w0.heap.size w0
 refine calls_of_ke Tryz.func87 rfl (n := 9) rfl rfl (l := [(0, .int .u8 c_0)]) rfl ?_
 refine ke_seq ?_
 refine ke_region ?_
 refine sr_ev (v := .bool false) (ev_assign rfl) (by decide) ?_
 refine sr_end (l' := [(0, .int .u8 c_0)]) (.cons rfl (.nil _)) ?_
 refine ke_seq ?_
 refine ke_region ?_
 refine sr_ev (v := .int .u8 c_0) (ev_move rfl) (by decide) ?_
 refine sr_ev (v := .bool (decide (c_0 ≥ 48))) (ev_ge rfl rfl) (by decide) ?_
 refine sr_ev (v := .bool (decide (c_0 ≥ 48))) (ev_move rfl) (by decide) ?_
 refine sr_join (m := 3) (C := fun (x : Bool) w1 => x = ((decide (c_0 ≥ 48)) && (decide (c_0 ≤ 57))) ∧ w0 = w1) (l' := fun x => [(8, .bool x)]) ?_ ?_
 ·rintro _ _ ⟨rfl, rfl⟩
  refine sr_ev (v := .bool ((decide (c_0 ≥ 48)) && (decide (c_0 ≤ 57)))) (ev_assign rfl) (by decide) ?_
  refine sr_end (l' := [(2, .bool ((decide (c_0 ≥ 48)) && (decide (c_0 ≤ 57))))]) (.cons rfl (.nil _)) ?_
  cases hS
  exact ke_ret1 Tryz.func87 rfl rfl ⟨_, rfl, rfl, hb⟩
 ·intro K2
  rcases Bool.eq_false_or_eq_true (decide (c_0 ≥ 48)) with hg1 | hg1
  ·refine sr_evg (b := true) (e := 5) rfl rfl hg1 (v := .int .u8 c_0) (ev_move rfl) (by decide) ?_
   refine sr_evg (b := true) (e := 5) rfl rfl hg1 (v := .bool (decide (c_0 ≤ 57))) (ev_le rfl rfl) (by decide) ?_
   refine sr_ev (v := .bool (decide (c_0 ≤ 57))) (ev_pick_t rfl hg1 rfl) (by decide) ?_
   exact sr_weaken (l' := [(8, .bool (decide (c_0 ≤ 57)))]) (.cons rfl (.nil _)) (K2 (decide (c_0 ≤ 57)) _ ⟨by rw [hg1]; rfl, rfl⟩)
  ·refine sr_pass (e := 5) rfl rfl (by rw [hg1]; rfl) (by decide) ?_
   refine sr_pass (e := 5) rfl rfl (by rw [hg1]; rfl) (by decide) ?_
   refine sr_ev (v := .bool false) (ev_pick_f rfl hg1 rfl) (by decide) ?_
   exact sr_weaken (l' := [(8, .bool false)]) (.cons rfl (.nil _)) (K2 false _ ⟨by rw [hg1]; rfl, rfl⟩)
theorem fold_Word_1_ok (w0 : World) (hg : Gs w0) {c_0 : Int} {r : Bool} (hS : fold_Word_1 c_0 = some r) :
  Calls Tryz.prog 85 #[.int .u8 c_0] w0 (Ret (fun v w' => v = .bool r ∧ Below w0.heap.size w0 w')) := by
 unfold fold_Word_1 at hS
 have hb := Below.refl w0.heap.size w0
 refine calls_of_ke Tryz.func85 rfl (n := 25) rfl rfl (l := [(0, .int .u8 c_0)]) rfl ?_
 refine ke_seq ?_
 refine ke_region ?_
 refine sr_ev (v := .bool false) (ev_assign rfl) (by decide) ?_
 refine sr_end (l' := [(0, .int .u8 c_0)]) (.cons rfl (.nil _)) ?_
 refine ke_seq ?_
 refine ke_region ?_
 refine sr_ev (v := .int .u8 c_0) (ev_move rfl) (by decide) ?_
 obtain ⟨y1, hy2, hS⟩ := bind_some' hS
 refine sr_call (vs := [.int .u8 c_0]) rfl Tryz.call86 rfl (fold_letter_ok _ (hg.below hb) hy2) (by decide) ?_
 rintro _ w3 ⟨rfl, hbw4⟩
 replace hb := hb.trans (hbw4.mono hb.size)
 refine sr_ev (v := .bool y1) (ev_move rfl) (by decide) ?_
 obtain ⟨z7, hz9, hS⟩ := bind_some' hS
 refine sr_join (m := 3) (C := fun (x : Bool) w1 => z7 = x ∧ Below w3.heap.size w3 w1) (l' := fun x => [(0, .int .u8 c_0), (8, .bool x)]) ?_ ?_
 ·rintro _ w10 ⟨rfl, hbw11⟩
  replace hb := hb.trans (hbw11.mono hb.size)
  refine sr_ev (v := .bool z7) (ev_move rfl) (by decide) ?_
  refine sr_join (m := 3) (C := fun (x : Bool) w1 => x = (z7 || (c_0 == 45)) ∧ w10 = w1) (l' := fun x => [(0, .int .u8 c_0), (12, .bool x)]) ?_ ?_
  ·rintro _ _ ⟨rfl, rfl⟩
   refine sr_ev (v := .bool (z7 || (c_0 == 45))) (ev_move rfl) (by decide) ?_
   refine sr_join (m := 3) (C := fun (x : Bool) w1 => x = ((z7 || (c_0 == 45)) || (c_0 == 95)) ∧ w10 = w1) (l' := fun x => [(0, .int .u8 c_0), (16, .bool x)]) ?_ ?_
   ·rintro _ _ ⟨rfl, rfl⟩
    refine sr_ev (v := .bool ((z7 || (c_0 == 45)) || (c_0 == 95))) (ev_move rfl) (by decide) ?_
    refine sr_join (m := 3) (C := fun (x : Bool) w1 => x = (((z7 || (c_0 == 45)) || (c_0 == 95)) || (c_0 == 46)) ∧ w10 = w1) (l' := fun x => [(0, .int .u8 c_0), (20, .bool x)]) ?_ ?_
    ·rintro _ _ ⟨rfl, rfl⟩
     refine sr_ev (v := .bool (((z7 || (c_0 == 45)) || (c_0 == 95)) || (c_0 == 46))) (ev_move rfl) (by decide) ?_
     refine sr_join (m := 3) (C := fun (x : Bool) w1 => x = ((((z7 || (c_0 == 45)) || (c_0 == 95)) || (c_0 == 46)) || (c_0 == 58)) ∧ w10 = w1) (l' := fun x => [(24, .bool x)]) ?_ ?_
     ·rintro _ _ ⟨rfl, rfl⟩
      refine sr_ev (v := .bool ((((z7 || (c_0 == 45)) || (c_0 == 95)) || (c_0 == 46)) || (c_0 == 58))) (ev_assign rfl) (by decide) ?_
      refine sr_end (l' := [(2, .bool ((((z7 || (c_0 == 45)) || (c_0 == 95)) || (c_0 == 46)) || (c_0 == 58)))]) (.cons rfl (.nil _)) ?_
      cases hS
      exact ke_ret1 Tryz.func85 rfl rfl ⟨_, rfl, rfl, hb⟩
     ·intro K38
      rcases Bool.eq_false_or_eq_true (((z7 || (c_0 == 45)) || (c_0 == 95)) || (c_0 == 46)) with hg37 | hg37
      ·refine sr_pass (e := 21) rfl rfl (by rw [hg37]; rfl) (by decide) ?_
       refine sr_pass (e := 21) rfl rfl (by rw [hg37]; rfl) (by decide) ?_
       refine sr_ev (v := .bool true) (ev_pick_t rfl hg37 rfl) (by decide) ?_
       exact sr_weaken (l' := [(24, .bool true)]) (.cons rfl (.nil _)) (K38 true _ ⟨by rw [hg37]; rfl, rfl⟩)
      ·refine sr_evg (b := false) (e := 21) rfl rfl hg37 (v := .int .u8 c_0) (ev_move rfl) (by decide) ?_
       refine sr_evg (b := false) (e := 21) rfl rfl hg37 (v := .bool (c_0 == 58)) (ev_eq rfl rfl) (by decide) ?_
       refine sr_ev (v := .bool (c_0 == 58)) (ev_pick_f rfl hg37 rfl) (by decide) ?_
       exact sr_weaken (l' := [(24, .bool (c_0 == 58))]) (.cons rfl (.nil _)) (K38 (c_0 == 58) _ ⟨by rw [hg37]; rfl, rfl⟩)
    ·intro K31
     rcases Bool.eq_false_or_eq_true ((z7 || (c_0 == 45)) || (c_0 == 95)) with hg30 | hg30
     ·refine sr_pass (e := 17) rfl rfl (by rw [hg30]; rfl) (by decide) ?_
      refine sr_pass (e := 17) rfl rfl (by rw [hg30]; rfl) (by decide) ?_
      refine sr_ev (v := .bool true) (ev_pick_t rfl hg30 rfl) (by decide) ?_
      exact sr_weaken (l' := [(0, .int .u8 c_0), (20, .bool true)]) (.cons rfl (.cons rfl (.nil _))) (K31 true _ ⟨by rw [hg30]; rfl, rfl⟩)
     ·refine sr_evg (b := false) (e := 17) rfl rfl hg30 (v := .int .u8 c_0) (ev_move rfl) (by decide) ?_
      refine sr_evg (b := false) (e := 17) rfl rfl hg30 (v := .bool (c_0 == 46)) (ev_eq rfl rfl) (by decide) ?_
      refine sr_ev (v := .bool (c_0 == 46)) (ev_pick_f rfl hg30 rfl) (by decide) ?_
      exact sr_weaken (l' := [(0, .int .u8 c_0), (20, .bool (c_0 == 46))]) (.cons rfl (.cons rfl (.nil _))) (K31 (c_0 == 46) _ ⟨by rw [hg30]; rfl, rfl⟩)
   ·intro K24
    rcases Bool.eq_false_or_eq_true (z7 || (c_0 == 45)) with hg23 | hg23
    ·refine sr_pass (e := 13) rfl rfl (by rw [hg23]; rfl) (by decide) ?_
     refine sr_pass (e := 13) rfl rfl (by rw [hg23]; rfl) (by decide) ?_
     refine sr_ev (v := .bool true) (ev_pick_t rfl hg23 rfl) (by decide) ?_
     exact sr_weaken (l' := [(0, .int .u8 c_0), (16, .bool true)]) (.cons rfl (.cons rfl (.nil _))) (K24 true _ ⟨by rw [hg23]; rfl, rfl⟩)
    ·refine sr_evg (b := false) (e := 13) rfl rfl hg23 (v := .int .u8 c_0) (ev_move rfl) (by decide) ?_
     refine sr_evg (b := false) (e := 13) rfl rfl hg23 (v := .bool (c_0 == 95)) (ev_eq rfl rfl) (by decide) ?_
     refine sr_ev (v := .bool (c_0 == 95)) (ev_pick_f rfl hg23 rfl) (by decide) ?_
     exact sr_weaken (l' := [(0, .int .u8 c_0), (16, .bool (c_0 == 95))]) (.cons rfl (.cons rfl (.nil _))) (K24 (c_0 == 95) _ ⟨by rw [hg23]; rfl, rfl⟩)
  ·intro K17
   rcases Bool.eq_false_or_eq_true z7 with hg16 | hg16
   ·refine sr_pass (e := 9) rfl rfl (by rw [hg16]; rfl) (by decide) ?_
    refine sr_pass (e := 9) rfl rfl (by rw [hg16]; rfl) (by decide) ?_
    refine sr_ev (v := .bool true) (ev_pick_t rfl hg16 rfl) (by decide) ?_
    exact sr_weaken (l' := [(0, .int .u8 c_0), (12, .bool true)]) (.cons rfl (.cons rfl (.nil _))) (K17 true _ ⟨by rw [hg16]; rfl, rfl⟩)
   ·refine sr_evg (b := false) (e := 9) rfl rfl hg16 (v := .int .u8 c_0) (ev_move rfl) (by decide) ?_
    refine sr_evg (b := false) (e := 9) rfl rfl hg16 (v := .bool (c_0 == 45)) (ev_eq rfl rfl) (by decide) ?_
    refine sr_ev (v := .bool (c_0 == 45)) (ev_pick_f rfl hg16 rfl) (by decide) ?_
    exact sr_weaken (l' := [(0, .int .u8 c_0), (12, .bool (c_0 == 45))]) (.cons rfl (.cons rfl (.nil _))) (K17 (c_0 == 45) _ ⟨by rw [hg16]; rfl, rfl⟩)
 ·intro K6
  clear hS
  have hj8 := Below.refl w3.heap.size w3
  rcases Bool.eq_false_or_eq_true y1 with hg5 | hg5
  ·have hS := ite_true' hz9 hg5
   refine sr_pass (e := 5) rfl rfl (by rw [hg5]; rfl) (by decide) ?_
   refine sr_pass (e := 5) rfl rfl (by rw [hg5]; rfl) (by decide) ?_
   refine sr_ev (v := .bool true) (ev_pick_t rfl hg5 rfl) (by decide) ?_
   exact sr_weaken (l' := [(0, .int .u8 c_0), (8, .bool true)]) (.cons rfl (.cons rfl (.nil _))) (K6 true _ ⟨(Option.some.inj hS).symm, hj8⟩)
  ·have hS := ite_false' hz9 hg5
   refine sr_evg (b := false) (e := 5) rfl rfl hg5 (v := .int .u8 c_0) (ev_move rfl) (by decide) ?_
   obtain ⟨y12, hy13, hS⟩ := bind_some' hS
   refine sr_callg (b := false) (e := 5) rfl rfl hg5 (vs := [.int .u8 c_0]) rfl Tryz.call87 rfl (fold_digit_ok _ (hg.below hb) hy13) (by decide) ?_
   rintro _ w14 ⟨rfl, hbw15⟩
   replace hb := hb.trans (hbw15.mono hb.size)
   replace hj8 := hj8.trans (hbw15.mono hj8.size)
   refine sr_ev (v := .bool y12) (ev_pick_f rfl hg5 rfl) (by decide) ?_
   exact sr_weaken (l' := [(0, .int .u8 c_0), (8, .bool y12)]) (.cons rfl (.cons rfl (.nil _))) (K6 y12 _ ⟨(Option.some.inj hS).symm, hj8⟩)
theorem fold_made__Word_1_L1_ok {w0 : World} (hg : Gs w0) : ∀ (n : Nat), ∀ {r : Bool} {s_0 : Str} {t_7 : Int} {t_8 : Int}, fold_made__Word_1_L1 n s_0 t_7 t_8 = some r → ∀ {w : World}, (Below w0.heap.size w0 w) → KE Tryz.prog 84 (Ret (fun v w' => v = .bool r ∧ Below w0.heap.size w0 w')) 25 [.code (sub (bodyOf Tryz.f84) [2, 1, 2, 2, 1]), .inLoop (sub (bodyOf Tryz.f84) [2, 1, 2, 2, 1]), .inBlock 0, .code (sub (bodyOf Tryz.f84) [2, 2])] [(0, str s_0), (1, .func (.func 85) #[] #[]), (7, .int .i64 t_7), (8, .int .i64 t_8)] w := by
 intro n
 induction n with
 | zero => intro r s_0 t_7 t_8 hS; cases hS
 | succ n ih =>
  have hr0 : ∀ {r : Bool} {s_0 : Str} {t_7 : Int} {t_8 : Int}, fold_made__Word_1_L1 n s_0 t_7 t_8 = some r → ∀ {w : World}, (Below w0.heap.size w0 w) → KE Tryz.prog 84 (Ret (fun v w' => v = .bool r ∧ Below w0.heap.size w0 w')) 25 [.inLoop (sub (bodyOf Tryz.f84) [2, 1, 2, 2, 1]), .inBlock 0, .code (sub (bodyOf Tryz.f84) [2, 2])] [(0, str s_0), (1, .func (.func 85) #[] #[]), (7, .int .i64 t_7), (8, .int .i64 t_8)] w := fun {r} {s_0} {t_7} {t_8} hS {w} hb => ke_inLoop (ih hS hb)
  clear ih
  intro r s_0 t_7 t_8 hS w hb
  unfold fold_made__Word_1_L1 at hS
  refine ke_seq ?_
  refine ke_region ?_
  refine sr_ev (v := .bool (decide (t_8 < t_7))) (ev_lt rfl rfl) (by decide) ?_
  refine sr_end (l' := [(0, str s_0), (1, .func (.func 85) #[] #[]), (7, .int .i64 t_7), (8, .int .i64 t_8), (9, .bool (decide (t_8 < t_7)))]) (.cons rfl (.cons rfl (.cons rfl (.cons rfl (.cons rfl (.nil _)))))) ?_
  refine ke_seq ?_
  refine ke_cond (t := decide (t_8 < t_7)) rfl (fun hc1 => ?_) (fun hc1 => ?_)
  ·replace hS := ite_true' hS hc1
   refine ke_skip ?_
   refine ke_seq ?_
   refine ke_block ?_
   refine ke_seq ?_
   refine ke_region ?_
   refine sr_ev (v := .int .i64 t_8) (ev_move rfl) (by decide) ?_
   refine sr_ev (v := .int .i64 t_8) (ev_assign rfl) (by decide) ?_
   refine sr_end (l' := [(0, str s_0), (1, .func (.func 85) #[] #[]), (5, .int .i64 t_8), (7, .int .i64 t_7), (8, .int .i64 t_8)]) (.cons rfl (.cons rfl (.cons rfl (.cons rfl (.cons rfl (.nil _)))))) ?_
   refine ke_seq ?_
   refine ke_region ?_
   refine sr_ev (v := .func (.func 85) #[] #[]) (ev_move rfl) (by decide) ?_
   refine sr_ev (v := str s_0) (ev_move rfl) (by decide) ?_
   refine sr_ev (v := .int .i64 t_8) (ev_move rfl) (by decide) ?_
   obtain ⟨hk2, hS⟩ := chk_some hS
   refine sr_ev (v := .int .u8 (byteAt s_0 t_8)) (ev_sindex Tryz.underlying9 rfl rfl hk2) (by decide) ?_
   obtain ⟨y3, hy4, hS⟩ := bind_some' hS
   refine sr_call (vs := [.int .u8 (byteAt s_0 t_8)]) rfl Tryz.call85 rfl (fold_Word_1_ok _ (hg.below hb) hy4) (by decide) ?_
   rintro _ w5 ⟨rfl, hbw6⟩
   replace hb := hb.trans (hbw6.mono hb.size)
   refine sr_ev (v := .bool (!y3)) (ev_not rfl) (by decide) ?_
   refine sr_end (l' := [(0, str s_0), (1, .func (.func 85) #[] #[]), (7, .int .i64 t_7), (8, .int .i64 t_8), (16, .bool (!y3))]) (.cons rfl (.cons rfl (.cons rfl (.cons rfl (.cons rfl (.nil _)))))) ?_
   refine ke_cond (t := !y3) rfl (fun hc7 => ?_) (fun hc7 => ?_)
   ·replace hS := ite_true' hS hc7
    refine ke_seq ?_
    refine ke_region ?_
    refine sr_ev (v := .bool false) (ev_assign rfl) (by decide) ?_
    refine sr_end (l' := [(4, .bool false)]) (.cons rfl (.nil _)) ?_
    cases hS
    exact ke_ret1 Tryz.func84 rfl rfl ⟨_, rfl, rfl, hb⟩
   ·replace hS := ite_false' hS hc7
    refine ke_skip ?_
    refine ke_inBlock ?_
    refine ke_region ?_
    refine sr_ev (v := .int .i64 (IntKind.i64.wrap (t_8 + 1))) (ev_add rfl rfl) (by decide) ?_
    refine sr_ev (v := .int .i64 (IntKind.i64.wrap (t_8 + 1))) (ev_move rfl) (by decide) ?_
    refine sr_end (l' := [(0, str s_0), (1, .func (.func 85) #[] #[]), (7, .int .i64 t_7), (8, .int .i64 (IntKind.i64.wrap (t_8 + 1)))]) (.cons rfl (.cons rfl (.cons rfl (.cons rfl (.nil _))))) ?_
    have hK := hr0 hS hb
    exact ke_weaken (l' := [(0, str s_0), (1, .func (.func 85) #[] #[]), (7, .int .i64 t_7), (8, .int .i64 (IntKind.i64.wrap (t_8 + 1)))]) (.cons rfl (.cons rfl (.cons rfl (.cons rfl (.nil _))))) hK
  ·replace hS := ite_false' hS hc1
   refine ke_exit (k' := _) rfl ?_
   refine ke_seq ?_
   refine ke_region ?_
   refine sr_ev (v := str s_0) (ev_move rfl) (by decide) ?_
   refine sr_ev (v := .bool (!(s_0 == ([])))) (ev_sne rfl rfl) (by decide) ?_
   refine sr_ev (v := .bool (!(s_0 == ([])))) (ev_move rfl) (by decide) ?_
   refine sr_join (m := 4) (C := fun (x : Bool) w1 => x = ((!(s_0 == ([]))) && (decide ((s_0.length : Int) ≤ 64))) ∧ w = w1) (l' := fun x => [(24, .bool x)]) ?_ ?_
   ·rintro _ _ ⟨rfl, rfl⟩
    refine sr_ev (v := .bool ((!(s_0 == ([]))) && (decide ((s_0.length : Int) ≤ 64)))) (ev_assign rfl) (by decide) ?_
    refine sr_end (l' := [(4, .bool ((!(s_0 == ([]))) && (decide ((s_0.length : Int) ≤ 64))))]) (.cons rfl (.nil _)) ?_
    cases hS
    exact ke_ret1 Tryz.func84 rfl rfl ⟨_, rfl, rfl, hb⟩
   ·intro K9
    rcases Bool.eq_false_or_eq_true (!(s_0 == ([]))) with hg8 | hg8
    ·refine sr_evg (b := true) (e := 20) rfl rfl hg8 (v := str s_0) (ev_move rfl) (by decide) ?_
     refine sr_evg (b := true) (e := 20) rfl rfl hg8 (v := .int .i64 (s_0.length : Int)) (ev_slen Tryz.underlying9 rfl) (by decide) ?_
     refine sr_evg (b := true) (e := 20) rfl rfl hg8 (v := .bool (decide ((s_0.length : Int) ≤ 64))) (ev_le rfl rfl) (by decide) ?_
     refine sr_ev (v := .bool (decide ((s_0.length : Int) ≤ 64))) (ev_pick_t rfl hg8 rfl) (by decide) ?_
     exact sr_weaken (l' := [(24, .bool (decide ((s_0.length : Int) ≤ 64)))]) (.cons rfl (.nil _)) (K9 (decide ((s_0.length : Int) ≤ 64)) _ ⟨by rw [hg8]; rfl, rfl⟩)
    ·refine sr_pass (e := 20) rfl rfl (by rw [hg8]; rfl) (by decide) ?_
     refine sr_pass (e := 20) rfl rfl (by rw [hg8]; rfl) (by decide) ?_
     refine sr_pass (e := 20) rfl rfl (by rw [hg8]; rfl) (by decide) ?_
     refine sr_ev (v := .bool false) (ev_pick_f rfl hg8 rfl) (by decide) ?_
     exact sr_weaken (l' := [(24, .bool false)]) (.cons rfl (.nil _)) (K9 false _ ⟨by rw [hg8]; rfl, rfl⟩)
theorem fold_made__Word_1_ok (w0 : World) (hg : Gs w0) {s_0 : Str} {r : Bool} (hS : fold_made__Word_1 s_0 = some r) :
  Calls Tryz.prog 84 #[str s_0, .func (.func 85) #[] #[]] w0 (Ret (fun v w' => v = .bool r ∧ Below w0.heap.size w0 w')) := by
 unfold fold_made__Word_1 at hS
 have hb := Below.refl w0.heap.size w0
 refine calls_of_ke Tryz.func84 rfl (n := 25) rfl rfl (l := [(0, str s_0), (1, .func (.func 85) #[] #[])]) rfl ?_
 refine ke_seq ?_
 refine ke_region ?_
 refine sr_ev (v := .bool false) (ev_assign rfl) (by decide) ?_
 refine sr_end (l' := [(0, str s_0), (1, .func (.func 85) #[] #[])]) (.cons rfl (.cons rfl (.nil _))) ?_
 refine ke_seq ?_
 refine ke_seq ?_
 refine ke_region ?_
 refine sr_ev (v := str s_0) (ev_move rfl) (by decide) ?_
 refine sr_ev (v := .int .i64 (s_0.length : Int)) (ev_slen Tryz.underlying9 rfl) (by decide) ?_
 refine sr_ev (v := .int .i64 0) (ev_move rfl) (by decide) ?_
 refine sr_end (l' := [(0, str s_0), (1, .func (.func 85) #[] #[]), (7, .int .i64 (s_0.length : Int)), (8, .int .i64 0)]) (.cons rfl (.cons rfl (.cons rfl (.cons rfl (.nil _))))) ?_
 refine ke_block ?_
 have hK := fold_made__Word_1_L1_ok hg _ hS hb
 exact ke_weaken (l' := [(0, str s_0), (1, .func (.func 85) #[] #[]), (7, .int .i64 (s_0.length : Int)), (8, .int .i64 0)]) (.cons rfl (.cons rfl (.cons rfl (.cons rfl (.nil _))))) (ke_loop hK)
theorem fold_Word_ok (w0 : World) (hg : Gs w0) {s_0 : Str} {r : Bool} (hS : fold_Word s_0 = some r) :
  Calls Tryz.prog 43 #[str s_0] w0 (Ret (fun v w' => v = .bool r ∧ Below w0.heap.size w0 w')) := by
 unfold fold_Word at hS
 have hb := Below.refl w0.heap.size w0
 refine calls_of_ke Tryz.func43 rfl (n := 5) rfl rfl (l := [(0, str s_0)]) rfl ?_
 refine ke_seq ?_
 refine ke_region ?_
 refine sr_ev (v := .bool false) (ev_assign rfl) (by decide) ?_
 refine sr_end (l' := [(0, str s_0)]) (.cons rfl (.nil _)) ?_
 refine ke_seq ?_
 refine ke_region ?_
 refine sr_ev (v := str s_0) (ev_move rfl) (by decide) ?_
 obtain ⟨y1, hy2, hS⟩ := bind_some' hS
 refine sr_call (vs := [str s_0, .func (.func 85) #[] #[]]) rfl Tryz.call84 rfl (fold_made__Word_1_ok _ (hg.below hb) hy2) (by decide) ?_
 rintro _ w3 ⟨rfl, hbw4⟩
 replace hb := hb.trans (hbw4.mono hb.size)
 refine sr_ev (v := .bool y1) (ev_assign rfl) (by decide) ?_
 refine sr_end (l' := [(2, .bool y1)]) (.cons rfl (.nil _)) ?_
 cases hS
 exact ke_ret1 Tryz.func43 rfl rfl ⟨_, rfl, rfl, hb⟩
theorem secret_isPassword_L1_ok {w0 : World} (hg : Gs w0) : ∀ (n : Nat), ∀ {r : Bool} {s_0 : Str} {t_5 : Int} {t_6 : Int}, secret_isPassword_L1 n s_0 t_5 t_6 = some r → ∀ {w : World}, (Below w0.heap.size w0 w) → KE Tryz.prog 54 (Ret (fun v w' => v = .bool r ∧ Below w0.heap.size w0 w')) 28 [.code (sub (bodyOf Tryz.f54) [2, 1, 2, 2, 1]), .inLoop (sub (bodyOf Tryz.f54) [2, 1, 2, 2, 1]), .inBlock 0, .code (sub (bodyOf Tryz.f54) [2, 2])] [(0, str s_0), (5, .int .i64 t_5), (6, .int .i64 t_6)] w := by
 intro n
 induction n with
 | zero => intro r s_0 t_5 t_6 hS; cases hS
 | succ n ih =>
  have hr0 : ∀ {r : Bool} {s_0 : Str} {t_5 : Int} {t_6 : Int}, secret_isPassword_L1 n s_0 t_5 t_6 = some r → ∀ {w : World}, (Below w0.heap.size w0 w) → KE Tryz.prog 54 (Ret (fun v w' => v = .bool r ∧ Below w0.heap.size w0 w')) 28 [.inLoop (sub (bodyOf Tryz.f54) [2, 1, 2, 2, 1]), .inBlock 0, .code (sub (bodyOf Tryz.f54) [2, 2])] [(0, str s_0), (5, .int .i64 t_5), (6, .int .i64 t_6)] w := fun {r} {s_0} {t_5} {t_6} hS {w} hb => ke_inLoop (ih hS hb)
  clear ih
  intro r s_0 t_5 t_6 hS w hb
  unfold secret_isPassword_L1 at hS
  refine ke_seq ?_
  refine ke_region ?_
  refine sr_ev (v := .bool (decide (t_6 < t_5))) (ev_lt rfl rfl) (by decide) ?_
  refine sr_end (l' := [(0, str s_0), (5, .int .i64 t_5), (6, .int .i64 t_6), (7, .bool (decide (t_6 < t_5)))]) (.cons rfl (.cons rfl (.cons rfl (.cons rfl (.nil _))))) ?_
  refine ke_seq ?_
  refine ke_cond (t := decide (t_6 < t_5)) rfl (fun hc1 => ?_) (fun hc1 => ?_)
  ·replace hS := ite_true' hS hc1
   refine ke_skip ?_
   refine ke_seq ?_
   refine ke_block ?_
   refine ke_seq ?_
   refine ke_region ?_
   refine sr_ev (v := .int .i64 t_6) (ev_move rfl) (by decide) ?_
   refine sr_ev (v := .int .i64 t_6) (ev_assign rfl) (by decide) ?_
   refine sr_end (l' := [(0, str s_0), (3, .int .i64 t_6), (5, .int .i64 t_5), (6, .int .i64 t_6)]) (.cons rfl (.cons rfl (.cons rfl (.cons rfl (.nil _))))) ?_
   refine ke_seq ?_
   refine ke_region ?_
   refine sr_ev (v := str s_0) (ev_move rfl) (by decide) ?_
   refine sr_ev (v := .int .i64 t_6) (ev_move rfl) (by decide) ?_
   obtain ⟨hk2, hS⟩ := chk_some hS
   refine sr_ev (v := .int .u8 (byteAt s_0 t_6)) (ev_sindex Tryz.underlying9 rfl rfl hk2) (by decide) ?_
   refine sr_ev (v := .bool (decide ((byteAt s_0 t_6) < 32))) (ev_lt rfl rfl) (by decide) ?_
   refine sr_ev (v := .bool (decide ((byteAt s_0 t_6) < 32))) (ev_move rfl) (by decide) ?_
   obtain ⟨z5, hz7, hS⟩ := bind_some' hS
   refine sr_join (m := 5) (C := fun (x : Bool) w1 => z5 = x ∧ Below w.heap.size w w1) (l' := fun x => [(0, str s_0), (5, .int .i64 t_5), (6, .int .i64 t_6), (18, .bool x)]) ?_ ?_
   ·rintro _ w8 ⟨rfl, hbw9⟩
    replace hb := hb.trans (hbw9.mono hb.size)
    refine sr_end (l' := [(0, str s_0), (5, .int .i64 t_5), (6, .int .i64 t_6), (18, .bool z5)]) (.cons rfl (.cons rfl (.cons rfl (.cons rfl (.nil _))))) ?_
    refine ke_cond (t := z5) rfl (fun hc11 => ?_) (fun hc11 => ?_)
    ·replace hS := ite_true' hS hc11
     refine ke_seq ?_
     refine ke_region ?_
     refine sr_ev (v := .bool false) (ev_assign rfl) (by decide) ?_
     refine sr_end (l' := [(2, .bool false)]) (.cons rfl (.nil _)) ?_
     cases hS
     exact ke_ret1 Tryz.func54 rfl rfl ⟨_, rfl, rfl, hb⟩
    ·replace hS := ite_false' hS hc11
     refine ke_skip ?_
     refine ke_inBlock ?_
     refine ke_region ?_
     refine sr_ev (v := .int .i64 (IntKind.i64.wrap (t_6 + 1))) (ev_add rfl rfl) (by decide) ?_
     refine sr_ev (v := .int .i64 (IntKind.i64.wrap (t_6 + 1))) (ev_move rfl) (by decide) ?_
     refine sr_end (l' := [(0, str s_0), (5, .int .i64 t_5), (6, .int .i64 (IntKind.i64.wrap (t_6 + 1)))]) (.cons rfl (.cons rfl (.cons rfl (.nil _)))) ?_
     have hK := hr0 hS hb
     exact ke_weaken (l' := [(0, str s_0), (5, .int .i64 t_5), (6, .int .i64 (IntKind.i64.wrap (t_6 + 1)))]) (.cons rfl (.cons rfl (.cons rfl (.nil _)))) hK
   ·intro K4
    clear hS
    have hj6 := Below.refl w.heap.size w
    rcases Bool.eq_false_or_eq_true (decide ((byteAt s_0 t_6) < 32)) with hg3 | hg3
    ·have hS := ite_true' hz7 hg3
     refine sr_pass (e := 13) rfl rfl (by rw [hg3]; rfl) (by decide) ?_
     refine sr_pass (e := 13) rfl rfl (by rw [hg3]; rfl) (by decide) ?_
     refine sr_pass (e := 13) rfl rfl (by rw [hg3]; rfl) (by decide) ?_
     refine sr_pass (e := 13) rfl rfl (by rw [hg3]; rfl) (by decide) ?_
     refine sr_ev (v := .bool true) (ev_pick_t rfl hg3 rfl) (by decide) ?_
     exact sr_weaken (l' := [(0, str s_0), (5, .int .i64 t_5), (6, .int .i64 t_6), (18, .bool true)]) (.cons rfl (.cons rfl (.cons rfl (.cons rfl (.nil _))))) (K4 true _ ⟨(Option.some.inj hS).symm, hj6⟩)
    ·have hS := ite_false' hz7 hg3
     refine sr_evg (b := false) (e := 13) rfl rfl hg3 (v := str s_0) (ev_move rfl) (by decide) ?_
     refine sr_evg (b := false) (e := 13) rfl rfl hg3 (v := .int .i64 t_6) (ev_move rfl) (by decide) ?_
     obtain ⟨hk10, hS⟩ := chk_some hS
     refine sr_evg (b := false) (e := 13) rfl rfl hg3 (v := .int .u8 (byteAt s_0 t_6)) (ev_sindex Tryz.underlying9 rfl rfl hk10) (by decide) ?_
     refine sr_evg (b := false) (e := 13) rfl rfl hg3 (v := .bool (decide ((byteAt s_0 t_6) > 126))) (ev_gt rfl rfl) (by decide) ?_
     refine sr_ev (v := .bool (decide ((byteAt s_0 t_6) > 126))) (ev_pick_f rfl hg3 rfl) (by decide) ?_
     exact sr_weaken (l' := [(0, str s_0), (5, .int .i64 t_5), (6, .int .i64 t_6), (18, .bool (decide ((byteAt s_0 t_6) > 126)))]) (.cons rfl (.cons rfl (.cons rfl (.cons rfl (.nil _))))) (K4 (decide ((byteAt s_0 t_6) > 126)) _ ⟨(Option.some.inj hS).symm, hj6⟩)
  ·replace hS := ite_false' hS hc1
   refine ke_exit (k' := _) rfl ?_
   refine ke_seq ?_
   refine ke_region ?_
   refine sr_ev (v := str s_0) (ev_move rfl) (by decide) ?_
   refine sr_ev (v := .int .i64 (s_0.length : Int)) (ev_slen Tryz.underlying9 rfl) (by decide) ?_
   refine sr_ev (v := .bool (decide ((s_0.length : Int) ≥ 8))) (ev_ge rfl rfl) (by decide) ?_
   refine sr_ev (v := .bool (decide ((s_0.length : Int) ≥ 8))) (ev_move rfl) (by decide) ?_
   refine sr_join (m := 4) (C := fun (x : Bool) w1 => x = ((decide ((s_0.length : Int) ≥ 8)) && (decide ((s_0.length : Int) ≤ 256))) ∧ w = w1) (l' := fun x => [(27, .bool x)]) ?_ ?_
   ·rintro _ _ ⟨rfl, rfl⟩
    refine sr_ev (v := .bool ((decide ((s_0.length : Int) ≥ 8)) && (decide ((s_0.length : Int) ≤ 256)))) (ev_assign rfl) (by decide) ?_
    refine sr_end (l' := [(2, .bool ((decide ((s_0.length : Int) ≥ 8)) && (decide ((s_0.length : Int) ≤ 256))))]) (.cons rfl (.nil _)) ?_
    cases hS
    exact ke_ret1 Tryz.func54 rfl rfl ⟨_, rfl, rfl, hb⟩
   ·intro K13
    rcases Bool.eq_false_or_eq_true (decide ((s_0.length : Int) ≥ 8)) with hg12 | hg12
    ·refine sr_evg (b := true) (e := 23) rfl rfl hg12 (v := str s_0) (ev_move rfl) (by decide) ?_
     refine sr_evg (b := true) (e := 23) rfl rfl hg12 (v := .int .i64 (s_0.length : Int)) (ev_slen Tryz.underlying9 rfl) (by decide) ?_
     refine sr_evg (b := true) (e := 23) rfl rfl hg12 (v := .bool (decide ((s_0.length : Int) ≤ 256))) (ev_le rfl rfl) (by decide) ?_
     refine sr_ev (v := .bool (decide ((s_0.length : Int) ≤ 256))) (ev_pick_t rfl hg12 rfl) (by decide) ?_
     exact sr_weaken (l' := [(27, .bool (decide ((s_0.length : Int) ≤ 256)))]) (.cons rfl (.nil _)) (K13 (decide ((s_0.length : Int) ≤ 256)) _ ⟨by rw [hg12]; rfl, rfl⟩)
    ·refine sr_pass (e := 23) rfl rfl (by rw [hg12]; rfl) (by decide) ?_
     refine sr_pass (e := 23) rfl rfl (by rw [hg12]; rfl) (by decide) ?_
     refine sr_pass (e := 23) rfl rfl (by rw [hg12]; rfl) (by decide) ?_
     refine sr_ev (v := .bool false) (ev_pick_f rfl hg12 rfl) (by decide) ?_
     exact sr_weaken (l' := [(27, .bool false)]) (.cons rfl (.nil _)) (K13 false _ ⟨by rw [hg12]; rfl, rfl⟩)
theorem secret_isPassword_ok (w0 : World) (hg : Gs w0) {s_0 : Str} {r : Bool} (hS : secret_isPassword s_0 = some r) :
  Calls Tryz.prog 54 #[str s_0] w0 (Ret (fun v w' => v = .bool r ∧ Below w0.heap.size w0 w')) := by
 unfold secret_isPassword at hS
 have hb := Below.refl w0.heap.size w0
 refine calls_of_ke Tryz.func54 rfl (n := 28) rfl rfl (l := [(0, str s_0)]) rfl ?_
 refine ke_seq ?_
 refine ke_region ?_
 refine sr_ev (v := .bool false) (ev_assign rfl) (by decide) ?_
 refine sr_end (l' := [(0, str s_0)]) (.cons rfl (.nil _)) ?_
 refine ke_seq ?_
 refine ke_seq ?_
 refine ke_region ?_
 refine sr_ev (v := str s_0) (ev_move rfl) (by decide) ?_
 refine sr_ev (v := .int .i64 (s_0.length : Int)) (ev_slen Tryz.underlying9 rfl) (by decide) ?_
 refine sr_ev (v := .int .i64 0) (ev_move rfl) (by decide) ?_
 refine sr_end (l' := [(0, str s_0), (5, .int .i64 (s_0.length : Int)), (6, .int .i64 0)]) (.cons rfl (.cons rfl (.cons rfl (.nil _)))) ?_
 refine ke_block ?_
 have hK := secret_isPassword_L1_ok hg _ hS hb
 exact ke_weaken (l' := [(0, str s_0), (5, .int .i64 (s_0.length : Int)), (6, .int .i64 0)]) (.cons rfl (.cons rfl (.cons rfl (.nil _)))) (ke_loop hK)
theorem digest_Sum_L1_ok {w0 : World} (hg : Gs w0) : ∀ (n : Nat), ∀ {r : Int} {s_0 : Str} {h_3 : Int} {t_6 : Int} {t_7 : Int}, digest_Sum_L1 n s_0 h_3 t_6 t_7 = some r → ∀ {w : World}, (Below w0.heap.size w0 w) → KE Tryz.prog 81 (Ret (fun v w' => v = .int .u64 r ∧ Below w0.heap.size w0 w')) 34 [.code (sub (bodyOf Tryz.f81) [2, 2, 1, 2, 2, 1]), .inLoop (sub (bodyOf Tryz.f81) [2, 2, 1, 2, 2, 1]), .inBlock 0, .code (sub (bodyOf Tryz.f81) [2, 2, 2])] [(0, str s_0), (3, .int .u64 h_3), (6, .int .i64 t_6), (7, .int .i64 t_7)] w := by
 intro n
 induction n with
 | zero => intro r s_0 h_3 t_6 t_7 hS; cases hS
 | succ n ih =>
  have hr0 : ∀ {r : Int} {s_0 : Str} {h_3 : Int} {t_6 : Int} {t_7 : Int}, digest_Sum_L1 n s_0 h_3 t_6 t_7 = some r → ∀ {w : World}, (Below w0.heap.size w0 w) → KE Tryz.prog 81 (Ret (fun v w' => v = .int .u64 r ∧ Below w0.heap.size w0 w')) 34 [.inLoop (sub (bodyOf Tryz.f81) [2, 2, 1, 2, 2, 1]), .inBlock 0, .code (sub (bodyOf Tryz.f81) [2, 2, 2])] [(0, str s_0), (3, .int .u64 h_3), (6, .int .i64 t_6), (7, .int .i64 t_7)] w := fun {r} {s_0} {h_3} {t_6} {t_7} hS {w} hb => ke_inLoop (ih hS hb)
  clear ih
  intro r s_0 h_3 t_6 t_7 hS w hb
  unfold digest_Sum_L1 at hS
  refine ke_seq ?_
  refine ke_region ?_
  refine sr_ev (v := .bool (decide (t_7 < t_6))) (ev_lt rfl rfl) (by decide) ?_
  refine sr_end (l' := [(0, str s_0), (3, .int .u64 h_3), (6, .int .i64 t_6), (7, .int .i64 t_7), (8, .bool (decide (t_7 < t_6)))]) (.cons rfl (.cons rfl (.cons rfl (.cons rfl (.cons rfl (.nil _)))))) ?_
  refine ke_seq ?_
  refine ke_cond (t := decide (t_7 < t_6)) rfl (fun hc1 => ?_) (fun hc1 => ?_)
  ·replace hS := ite_true' hS hc1
   refine ke_skip ?_
   refine ke_seq ?_
   refine ke_block ?_
   refine ke_seq ?_
   refine ke_region ?_
   refine sr_ev (v := .int .i64 t_7) (ev_move rfl) (by decide) ?_
   refine sr_ev (v := .int .i64 t_7) (ev_assign rfl) (by decide) ?_
   refine sr_end (l' := [(0, str s_0), (3, .int .u64 h_3), (4, .int .i64 t_7), (6, .int .i64 t_6), (7, .int .i64 t_7)]) (.cons rfl (.cons rfl (.cons rfl (.cons rfl (.cons rfl (.nil _)))))) ?_
   refine ke_region ?_
   refine sr_ev (v := .int .u64 h_3) (ev_move rfl) (by decide) ?_
   refine sr_ev (v := str s_0) (ev_move rfl) (by decide) ?_
   refine sr_ev (v := .int .i64 t_7) (ev_move rfl) (by decide) ?_
   obtain ⟨hk2, hS⟩ := chk_some hS
   refine sr_ev (v := .int .u8 (byteAt s_0 t_7)) (ev_sindex Tryz.underlying9 rfl rfl hk2) (by decide) ?_
   refine sr_ev (v := .int .u64 (IntKind.u64.wrap (byteAt s_0 t_7))) (ev_conv Tryz.underlying116 Tryz.underlying5 rfl) (by decide) ?_
   refine sr_ev (v := .int .u64 (bXor .u64 h_3 (IntKind.u64.wrap (byteAt s_0 t_7)))) (ev_xor rfl rfl) (by decide) ?_
   refine sr_ev (v := .int .u64 (IntKind.u64.wrap ((bXor .u64 h_3 (IntKind.u64.wrap (byteAt s_0 t_7))) * 1099511628211))) (ev_mul rfl rfl) (by decide) ?_
   refine sr_ev (v := .int .u64 (IntKind.u64.wrap ((bXor .u64 h_3 (IntKind.u64.wrap (byteAt s_0 t_7))) * 1099511628211))) (ev_assign rfl) (by decide) ?_
   refine sr_end (l' := [(0, str s_0), (3, .int .u64 (IntKind.u64.wrap ((bXor .u64 h_3 (IntKind.u64.wrap (byteAt s_0 t_7))) * 1099511628211))), (6, .int .i64 t_6), (7, .int .i64 t_7)]) (.cons rfl (.cons rfl (.cons rfl (.cons rfl (.nil _))))) ?_
   refine ke_inBlock ?_
   refine ke_region ?_
   refine sr_ev (v := .int .i64 (IntKind.i64.wrap (t_7 + 1))) (ev_add rfl rfl) (by decide) ?_
   refine sr_ev (v := .int .i64 (IntKind.i64.wrap (t_7 + 1))) (ev_move rfl) (by decide) ?_
   refine sr_end (l' := [(0, str s_0), (3, .int .u64 (IntKind.u64.wrap ((bXor .u64 h_3 (IntKind.u64.wrap (byteAt s_0 t_7))) * 1099511628211))), (6, .int .i64 t_6), (7, .int .i64 (IntKind.i64.wrap (t_7 + 1)))]) (.cons rfl (.cons rfl (.cons rfl (.cons rfl (.nil _))))) ?_
   have hK := hr0 hS hb
   exact ke_weaken (l' := [(0, str s_0), (3, .int .u64 (IntKind.u64.wrap ((bXor .u64 h_3 (IntKind.u64.wrap (byteAt s_0 t_7))) * 1099511628211))), (6, .int .i64 t_6), (7, .int .i64 (IntKind.i64.wrap (t_7 + 1)))]) (.cons rfl (.cons rfl (.cons rfl (.cons rfl (.nil _))))) hK
  ·replace hS := ite_false' hS hc1
   refine ke_exit (k' := _) rfl ?_
   refine ke_seq ?_
   refine ke_region ?_
   refine sr_ev (v := .int .u64 h_3) (ev_move rfl) (by decide) ?_
   refine sr_ev (v := .int .u64 h_3) (ev_move rfl) (by decide) ?_
   refine sr_ev (v := .int .u64 (bShr .u64 h_3 33)) (ev_shr rfl rfl (by decide)) (by decide) ?_
   refine sr_ev (v := .int .u64 (bXor .u64 h_3 (bShr .u64 h_3 33))) (ev_xor rfl rfl) (by decide) ?_
   refine sr_ev (v := .int .u64 (bXor .u64 h_3 (bShr .u64 h_3 33))) (ev_assign rfl) (by decide) ?_
   refine sr_end (l' := [(3, .int .u64 (bXor .u64 h_3 (bShr .u64 h_3 33)))]) (.cons rfl (.nil _)) ?_
   refine ke_seq ?_
   refine ke_region ?_
   refine sr_ev (v := .int .u64 (bXor .u64 h_3 (bShr .u64 h_3 33))) (ev_move rfl) (by decide) ?_
   refine sr_ev (v := .int .u64 (IntKind.u64.wrap ((bXor .u64 h_3 (bShr .u64 h_3 33)) * 18397679294719823053))) (ev_mul rfl rfl) (by decide) ?_
   refine sr_ev (v := .int .u64 (IntKind.u64.wrap ((bXor .u64 h_3 (bShr .u64 h_3 33)) * 18397679294719823053))) (ev_assign rfl) (by decide) ?_
   refine sr_end (l' := [(3, .int .u64 (IntKind.u64.wrap ((bXor .u64 h_3 (bShr .u64 h_3 33)) * 18397679294719823053)))]) (.cons rfl (.nil _)) ?_
   refine ke_seq ?_
   refine ke_region ?_
   refine sr_ev (v := .int .u64 (IntKind.u64.wrap ((bXor .u64 h_3 (bShr .u64 h_3 33)) * 18397679294719823053))) (ev_move rfl) (by decide) ?_
   refine sr_ev (v := .int .u64 (IntKind.u64.wrap ((bXor .u64 h_3 (bShr .u64 h_3 33)) * 18397679294719823053))) (ev_move rfl) (by decide) ?_
   refine sr_ev (v := .int .u64 (bShr .u64 (IntKind.u64.wrap ((bXor .u64 h_3 (bShr .u64 h_3 33)) * 18397679294719823053)) 33)) (ev_shr rfl rfl (by decide)) (by decide) ?_
   refine sr_ev (v := .int .u64 (bXor .u64 (IntKind.u64.wrap ((bXor .u64 h_3 (bShr .u64 h_3 33)) * 18397679294719823053)) (bShr .u64 (IntKind.u64.wrap ((bXor .u64 h_3 (bShr .u64 h_3 33)) * 18397679294719823053)) 33))) (ev_xor rfl rfl) (by decide) ?_
   refine sr_ev (v := .int .u64 (bXor .u64 (IntKind.u64.wrap ((bXor .u64 h_3 (bShr .u64 h_3 33)) * 18397679294719823053)) (bShr .u64 (IntKind.u64.wrap ((bXor .u64 h_3 (bShr .u64 h_3 33)) * 18397679294719823053)) 33))) (ev_assign rfl) (by decide) ?_
   refine sr_end (l' := [(3, .int .u64 (bXor .u64 (IntKind.u64.wrap ((bXor .u64 h_3 (bShr .u64 h_3 33)) * 18397679294719823053)) (bShr .u64 (IntKind.u64.wrap ((bXor .u64 h_3 (bShr .u64 h_3 33)) * 18397679294719823053)) 33)))]) (.cons rfl (.nil _)) ?_
   refine ke_seq ?_
   refine ke_region ?_
   refine sr_ev (v := .int .u64 (bXor .u64 (IntKind.u64.wrap ((bXor .u64 h_3 (bShr .u64 h_3 33)) * 18397679294719823053)) (bShr .u64 (IntKind.u64.wrap ((bXor .u64 h_3 (bShr .u64 h_3 33)) * 18397679294719823053)) 33))) (ev_move rfl) (by decide) ?_
   refine sr_ev (v := .int .u64 (IntKind.u64.wrap ((bXor .u64 (IntKind.u64.wrap ((bXor .u64 h_3 (bShr .u64 h_3 33)) * 18397679294719823053)) (bShr .u64 (IntKind.u64.wrap ((bXor .u64 h_3 (bShr .u64 h_3 33)) * 18397679294719823053)) 33)) * 14181476777654086739))) (ev_mul rfl rfl) (by decide) ?_
   refine sr_ev (v := .int .u64 (IntKind.u64.wrap ((bXor .u64 (IntKind.u64.wrap ((bXor .u64 h_3 (bShr .u64 h_3 33)) * 18397679294719823053)) (bShr .u64 (IntKind.u64.wrap ((bXor .u64 h_3 (bShr .u64 h_3 33)) * 18397679294719823053)) 33)) * 14181476777654086739))) (ev_assign rfl) (by decide) ?_
   refine sr_end (l' := [(3, .int .u64 (IntKind.u64.wrap ((bXor .u64 (IntKind.u64.wrap ((bXor .u64 h_3 (bShr .u64 h_3 33)) * 18397679294719823053)) (bShr .u64 (IntKind.u64.wrap ((bXor .u64 h_3 (bShr .u64 h_3 33)) * 18397679294719823053)) 33)) * 14181476777654086739)))]) (.cons rfl (.nil _)) ?_
   refine ke_seq ?_
   refine ke_region ?_
   refine sr_ev (v := .int .u64 (IntKind.u64.wrap ((bXor .u64 (IntKind.u64.wrap ((bXor .u64 h_3 (bShr .u64 h_3 33)) * 18397679294719823053)) (bShr .u64 (IntKind.u64.wrap ((bXor .u64 h_3 (bShr .u64 h_3 33)) * 18397679294719823053)) 33)) * 14181476777654086739))) (ev_move rfl) (by decide) ?_
   refine sr_ev (v := .int .u64 (IntKind.u64.wrap ((bXor .u64 (IntKind.u64.wrap ((bXor .u64 h_3 (bShr .u64 h_3 33)) * 18397679294719823053)) (bShr .u64 (IntKind.u64.wrap ((bXor .u64 h_3 (bShr .u64 h_3 33)) * 18397679294719823053)) 33)) * 14181476777654086739))) (ev_move rfl) (by decide) ?_
   refine sr_ev (v := .int .u64 (bShr .u64 (IntKind.u64.wrap ((bXor .u64 (IntKind.u64.wrap ((bXor .u64 h_3 (bShr .u64 h_3 33)) * 18397679294719823053)) (bShr .u64 (IntKind.u64.wrap ((bXor .u64 h_3 (bShr .u64 h_3 33)) * 18397679294719823053)) 33)) * 14181476777654086739)) 33)) (ev_shr rfl rfl (by decide)) (by decide) ?_
   refine sr_ev (v := .int .u64 (bXor .u64 (IntKind.u64.wrap ((bXor .u64 (IntKind.u64.wrap ((bXor .u64 h_3 (bShr .u64 h_3 33)) * 18397679294719823053)) (bShr .u64 (IntKind.u64.wrap ((bXor .u64 h_3 (bShr .u64 h_3 33)) * 18397679294719823053)) 33)) * 14181476777654086739)) (bShr .u64 (IntKind.u64.wrap ((bXor .u64 (IntKind.u64.wrap ((bXor .u64 h_3 (bShr .u64 h_3 33)) * 18397679294719823053)) (bShr .u64 (IntKind.u64.wrap ((bXor .u64 h_3 (bShr .u64 h_3 33)) * 18397679294719823053)) 33)) * 14181476777654086739)) 33))) (ev_xor rfl rfl) (by decide) ?_
   refine sr_ev (v := .int .u64 (bXor .u64 (IntKind.u64.wrap ((bXor .u64 (IntKind.u64.wrap ((bXor .u64 h_3 (bShr .u64 h_3 33)) * 18397679294719823053)) (bShr .u64 (IntKind.u64.wrap ((bXor .u64 h_3 (bShr .u64 h_3 33)) * 18397679294719823053)) 33)) * 14181476777654086739)) (bShr .u64 (IntKind.u64.wrap ((bXor .u64 (IntKind.u64.wrap ((bXor .u64 h_3 (bShr .u64 h_3 33)) * 18397679294719823053)) (bShr .u64 (IntKind.u64.wrap ((bXor .u64 h_3 (bShr .u64 h_3 33)) * 18397679294719823053)) 33)) * 14181476777654086739)) 33))) (ev_assign rfl) (by decide) ?_
   refine sr_end (l' := [(2, .int .u64 (bXor .u64 (IntKind.u64.wrap ((bXor .u64 (IntKind.u64.wrap ((bXor .u64 h_3 (bShr .u64 h_3 33)) * 18397679294719823053)) (bShr .u64 (IntKind.u64.wrap ((bXor .u64 h_3 (bShr .u64 h_3 33)) * 18397679294719823053)) 33)) * 14181476777654086739)) (bShr .u64 (IntKind.u64.wrap ((bXor .u64 (IntKind.u64.wrap ((bXor .u64 h_3 (bShr .u64 h_3 33)) * 18397679294719823053)) (bShr .u64 (IntKind.u64.wrap ((bXor .u64 h_3 (bShr .u64 h_3 33)) * 18397679294719823053)) 33)) * 14181476777654086739)) 33)))]) (.cons rfl (.nil _)) ?_
   cases hS
   exact ke_ret1 Tryz.func81 rfl rfl ⟨_, rfl, rfl, hb⟩
theorem digest_Sum_ok (w0 : World) (hg : Gs w0) {s_0 : Str} {r : Int} (hS : digest_Sum s_0 = some r) :
  Calls Tryz.prog 81 #[str s_0] w0 (Ret (fun v w' => v = .int .u64 r ∧ Below w0.heap.size w0 w')) := by
 unfold digest_Sum at hS
 have hb := Below.refl w0.heap.size w0
 refine calls_of_ke Tryz.func81 rfl (n := 34) rfl rfl (l := [(0, str s_0)]) rfl ?_
 refine ke_seq ?_
 refine ke_region ?_
 refine sr_ev (v := .int .u64 0) (ev_assign rfl) (by decide) ?_
 refine sr_end (l' := [(0, str s_0)]) (.cons rfl (.nil _)) ?_
 refine ke_seq ?_
 refine ke_region ?_
 refine sr_ev (v := .int .u64 14695981039346656037) (ev_assign rfl) (by decide) ?_
 refine sr_end (l' := [(0, str s_0), (3, .int .u64 14695981039346656037)]) (.cons rfl (.cons rfl (.nil _))) ?_
 refine ke_seq ?_
 refine ke_seq ?_
 refine ke_region ?_
 refine sr_ev (v := str s_0) (ev_move rfl) (by decide) ?_
 refine sr_ev (v := .int .i64 (s_0.length : Int)) (ev_slen Tryz.underlying9 rfl) (by decide) ?_
 refine sr_ev (v := .int .i64 0) (ev_move rfl) (by decide) ?_
 refine sr_end (l' := [(0, str s_0), (3, .int .u64 14695981039346656037), (6, .int .i64 (s_0.length : Int)), (7, .int .i64 0)]) (.cons rfl (.cons rfl (.cons rfl (.cons rfl (.nil _))))) ?_
 refine ke_block ?_
 have hK := digest_Sum_L1_ok hg _ hS hb
 exact ke_weaken (l' := [(0, str s_0), (3, .int .u64 14695981039346656037), (6, .int .i64 (s_0.length : Int)), (7, .int .i64 0)]) (.cons rfl (.cons rfl (.cons rfl (.cons rfl (.nil _))))) (ke_loop hK)
theorem digest_Hex_L1_ok {w0 : World} (hg : Gs w0) {A0 : Nat → Prop} (hA0 : ∀ b, A0 b → b < w0.heap.size) : ∀ (n : Nat), ∀ {r : Str} {n_0 : Int} {b_3 : List Int} {t_5 : Int} {gb_3 : Nat}, digest_Hex_L1 n n_0 b_3 t_5 = some r → ∀ {w : World} {A : Nat → Prop}, (Below w0.heap.size w0 w) → (∀ b, A b → b < w.heap.size) → (∀ b, A0 b → A b) → (Hp A w0.heap.size w [(gb_3, .cells (b_3.map (Value.int .u8)).toArray 152 (0, 0))]) → KE Tryz.prog 122 (Ret (fun v w' => v = str r ∧ Below w0.heap.size w0 w')) 21 [.code (sub (bodyOf Tryz.f122) [2, 2, 1, 2, 2, 1]), .inLoop (sub (bodyOf Tryz.f122) [2, 2, 1, 2, 2, 1]), .inBlock 0, .code (sub (bodyOf Tryz.f122) [2, 2, 2])] [(0, .int .u64 n_0), (3, .pointer (some ⟨gb_3, 0, none⟩)), (5, .int .i64 t_5)] w := by
 intro n
 induction n with
 | zero => intro r n_0 b_3 t_5 gb_3 hS; cases hS
 | succ n ih =>
  have hr0 : ∀ {r : Str} {n_0 : Int} {b_3 : List Int} {t_5 : Int} {gb_3 : Nat}, digest_Hex_L1 n n_0 b_3 t_5 = some r → ∀ {w : World} {A : Nat → Prop}, (Below w0.heap.size w0 w) → (∀ b, A b → b < w.heap.size) → (∀ b, A0 b → A b) → (Hp A w0.heap.size w [(gb_3, .cells (b_3.map (Value.int .u8)).toArray 152 (0, 0))]) → KE Tryz.prog 122 (Ret (fun v w' => v = str r ∧ Below w0.heap.size w0 w')) 21 [.inLoop (sub (bodyOf Tryz.f122) [2, 2, 1, 2, 2, 1]), .inBlock 0, .code (sub (bodyOf Tryz.f122) [2, 2, 2])] [(0, .int .u64 n_0), (3, .pointer (some ⟨gb_3, 0, none⟩)), (5, .int .i64 t_5)] w := fun {r} {n_0} {b_3} {t_5} {gb_3} hS {w} {A} hb hA hi hH => ke_inLoop (ih hS hb hA hi hH)
  clear ih
  intro r n_0 b_3 t_5 gb_3 hS w A hb hA hi hH
  unfold digest_Hex_L1 at hS
  refine ke_seq ?_
  refine ke_region ?_
  refine sr_ev (v := .bool (decide (t_5 < 16))) (ev_lt rfl rfl) (by decide) ?_
  refine sr_end (l' := [(0, .int .u64 n_0), (3, .pointer (some ⟨gb_3, 0, none⟩)), (5, .int .i64 t_5), (6, .bool (decide (t_5 < 16)))]) (.cons rfl (.cons rfl (.cons rfl (.cons rfl (.nil _))))) ?_
  refine ke_seq ?_
  refine ke_cond (t := decide (t_5 < 16)) rfl (fun hc8 => ?_) (fun hc8 => ?_)
  ·replace hS := ite_true' hS hc8
   refine ke_skip ?_
   refine ke_seq ?_
   refine ke_block ?_
   refine ke_seq ?_
   refine ke_region ?_
   refine sr_ev (v := .int .i64 t_5) (ev_move rfl) (by decide) ?_
   refine sr_ev (v := .int .i64 t_5) (ev_assign rfl) (by decide) ?_
   refine sr_end (l' := [(0, .int .u64 n_0), (3, .pointer (some ⟨gb_3, 0, none⟩)), (4, .int .i64 t_5), (5, .int .i64 t_5)]) (.cons rfl (.cons rfl (.cons rfl (.cons rfl (.nil _))))) ?_
   refine ke_region ?_
   refine sr_ev (v := .int .i64 t_5) (ev_move rfl) (by decide) ?_
   refine sr_ev (v := .int .i64 (IntKind.i64.wrap (15 - t_5))) (ev_sub rfl rfl) (by decide) ?_
   refine sr_ev (v := .int .u64 n_0) (ev_move rfl) (by decide) ?_
   refine sr_ev (v := .int .i64 t_5) (ev_move rfl) (by decide) ?_
   refine sr_ev (v := .int .i64 (IntKind.i64.wrap (4 * t_5))) (ev_mul rfl rfl) (by decide) ?_
   obtain ⟨hk9, hS⟩ := chk_some hS
   refine sr_ev (v := .int .u64 (bShr .u64 n_0 (IntKind.i64.wrap (4 * t_5)))) (ev_shr rfl rfl hk9) (by decide) ?_
   refine sr_ev (v := .int .u64 (bAnd .u64 (bShr .u64 n_0 (IntKind.i64.wrap (4 * t_5))) 15)) (ev_and rfl rfl) (by decide) ?_
   obtain ⟨hk10, hS⟩ := chk_some hS
   refine sr_ev (v := .pointer (some ⟨0, 0 + (bAnd .u64 (bShr .u64 n_0 (IntKind.i64.wrap (4 * t_5))) 15).toNat * 1, none⟩)) (ev_arrindex Tryz.underlying152 Tryz.info5 rfl rfl rfl hk10) (by decide) ?_
   obtain ⟨y11, hy12, hS⟩ := bind_some' hS
   refine sr_ev (v := .int .u8 y11) (ev_load Tryz.isAgg5 rfl ((hg.below hb).tab0 hy12)) (by decide) ?_
   obtain ⟨hk13, hS⟩ := chk_some hS
   refine sr_ev (v := .pointer (some ⟨gb_3, 0 + (IntKind.i64.wrap (15 - t_5)).toNat * 1, none⟩)) (ev_arrindex Tryz.underlying152 Tryz.info5 rfl rfl rfl hk13) (by decide) ?_
   obtain ⟨hk14, hS⟩ := chk_some hS
   refine sr_store_arr (j := 0) hH rfl Tryz.sizeOf5 rfl rfl hk14 ?_
   intro w15 hH1 hwr16
   replace hb := hwr16.below hb (hH.base _ (List.mem_of_getElem? (i := 0) rfl))
   replace hA := hwr16.lt hA
   replace hH : Hp A w0.heap.size w15 [(gb_3, .cells ((setAt b_3 (IntKind.i64.wrap (15 - t_5)) y11).map (Value.int .u8)).toArray 152 (0, 0))] := hH1
   clear hH1
   refine sr_end (l' := [(0, .int .u64 n_0), (3, .pointer (some ⟨gb_3, 0, none⟩)), (5, .int .i64 t_5)]) (.cons rfl (.cons rfl (.cons rfl (.nil _)))) ?_
   refine ke_inBlock ?_
   refine ke_region ?_
   refine sr_ev (v := .int .i64 (IntKind.i64.wrap (t_5 + 1))) (ev_add rfl rfl) (by decide) ?_
   refine sr_ev (v := .int .i64 (IntKind.i64.wrap (t_5 + 1))) (ev_move rfl) (by decide) ?_
   refine sr_end (l' := [(0, .int .u64 n_0), (3, .pointer (some ⟨gb_3, 0, none⟩)), (5, .int .i64 (IntKind.i64.wrap (t_5 + 1)))]) (.cons rfl (.cons rfl (.cons rfl (.nil _)))) ?_
   have hK := hr0 hS hb hA hi hH
   exact ke_weaken (l' := [(0, .int .u64 n_0), (3, .pointer (some ⟨gb_3, 0, none⟩)), (5, .int .i64 (IntKind.i64.wrap (t_5 + 1)))]) (.cons rfl (.cons rfl (.cons rfl (.nil _)))) hK
  ·replace hS := ite_false' hS hc8
   refine ke_exit (k' := _) rfl ?_
   refine ke_seq ?_
   refine ke_region ?_
   refine sr_ev (v := .slice (some ⟨gb_3, 0, none⟩) 16 16) (ev_arrslice Tryz.underlying152 Tryz.info5 rfl) (by decide) ?_
   obtain ⟨hk17, hS⟩ := chk_some hS
   refine sr_ev (v := str (bytesStr b_3)) (ev_arr2s (j := 0) hH rfl (by simpa using hk17) rfl Tryz.underlying120 Tryz.underlying5 Tryz.underlying9 rfl) (by decide) ?_
   refine sr_ev (v := str (bytesStr b_3)) (ev_assign rfl) (by decide) ?_
   refine sr_end (l' := [(2, str (bytesStr b_3))]) (.cons rfl (.nil _)) ?_
   cases hS
   exact ke_ret1 Tryz.func122 rfl rfl ⟨_, rfl, rfl, hb⟩
theorem digest_Hex_ok (w0 : World) (hg : Gs w0) {n_0 : Int} {r : Str} (hS : digest_Hex n_0 = some r) :
  Calls Tryz.prog 122 #[.int .u64 n_0] w0 (Ret (fun v w' => v = str r ∧ Below w0.heap.size w0 w')) := by
 unfold digest_Hex at hS
 have hb := Below.refl w0.heap.size w0
 obtain ⟨A0, hA0, hAe⟩ : ∃ A0 : Nat → Prop, (∀ b, A0 b → b < w0.heap.size) ∧ A0 = fun _ => False := ⟨_, fun _ h => h.elim, rfl⟩
 clear hAe
 have hA := hA0
 have hi : ∀ b, A0 b → A0 b := fun _ h => h
 have hH := Hp.nil A0 w0.heap.size w0
 refine calls_of_ke Tryz.func122 rfl (n := 21) rfl rfl (l := [(0, .int .u64 n_0)]) rfl ?_
 refine ke_seq ?_
 refine ke_region ?_
 refine sr_ev (v := str ([])) (ev_assign rfl) (by decide) ?_
 refine sr_end (l' := [(0, .int .u64 n_0)]) (.cons rfl (.nil _)) ?_
 refine ke_seq ?_
 refine ke_region ?_
 refine sr_alloc hH hb.size hA Tryz.zeroValue152 (by decide) ?_
 intro g1 A2 w3 hH1 hst4 hbw5 hinc6 hA1 hge7
 replace hb := hb.trans (hbw5.mono hb.size)
 replace hi := fun b hb => hinc6 b (hi b hb)
 replace hH : Hp A2 w0.heap.size w3 [(g1, .cells (([0, 0, 0, 0, 0, 0, 0, 0, 0, 0, 0, 0, 0, 0, 0, 0]).map (Value.int .u8)).toArray 152 (0, 0))] := hH1
 replace hA := hA1
 clear hH1 hA1
 refine sr_end (l' := [(0, .int .u64 n_0), (3, .pointer (some ⟨g1, 0, none⟩))]) (.cons rfl (.cons rfl (.nil _))) ?_
 refine ke_seq ?_
 refine ke_seq ?_
 refine ke_region ?_
 refine sr_ev (v := .int .i64 0) (ev_move rfl) (by decide) ?_
 refine sr_end (l' := [(0, .int .u64 n_0), (3, .pointer (some ⟨g1, 0, none⟩)), (5, .int .i64 0)]) (.cons rfl (.cons rfl (.cons rfl (.nil _)))) ?_
 refine ke_block ?_
 have hK := digest_Hex_L1_ok hg hA0 _ hS hb hA hi hH
 exact ke_weaken (l' := [(0, .int .u64 n_0), (3, .pointer (some ⟨g1, 0, none⟩)), (5, .int .i64 0)]) (.cons rfl (.cons rfl (.cons rfl (.nil _)))) (ke_loop hK)
theorem digest_Text_ok (w0 : World) (hg : Gs w0) {s_0 : Str} {r : Str} (hS : digest_Text s_0 = some r) :
  Calls Tryz.prog 96 #[str s_0] w0 (Ret (fun v w' => v = str r ∧ Below w0.heap.size w0 w')) := by
 unfold digest_Text at hS
 have hb := Below.refl w0.heap.size w0
 refine calls_of_ke Tryz.func96 rfl (n := 6) rfl rfl (l := [(0, str s_0)]) rfl ?_
 refine ke_seq ?_
 refine ke_region ?_
 refine sr_ev (v := str ([])) (ev_assign rfl) (by decide) ?_
 refine sr_end (l' := [(0, str s_0)]) (.cons rfl (.nil _)) ?_
 refine ke_seq ?_
 refine ke_region ?_
 refine sr_ev (v := str s_0) (ev_move rfl) (by decide) ?_
 obtain ⟨y1, hy2, hS⟩ := bind_some' hS
 refine sr_call (vs := [str s_0]) rfl Tryz.call81 rfl (digest_Sum_ok _ (hg.below hb) hy2) (by decide) ?_
 rintro _ w3 ⟨rfl, hbw4⟩
 replace hb := hb.trans (hbw4.mono hb.size)
 obtain ⟨y5, hy6, hS⟩ := bind_some' hS
 refine sr_call (vs := [.int .u64 y1]) rfl Tryz.call122 rfl (digest_Hex_ok _ (hg.below hb) hy6) (by decide) ?_
 rintro _ w7 ⟨rfl, hbw8⟩
 replace hb := hb.trans (hbw8.mono hb.size)
 refine sr_ev (v := str y5) (ev_assign rfl) (by decide) ?_
 refine sr_end (l' := [(2, str y5)]) (.cons rfl (.nil _)) ?_
 cases hS
 exact ke_ret1 Tryz.func96 rfl rfl ⟨_, rfl, rfl, hb⟩
theorem digest_Iterate_L1_ok {w0 : World} (hg : Gs w0) : ∀ (n : Nat), ∀ {r : Str} {salt_0 : Str} {h_7 : Str} {t_15 : Int} {t_16 : Int}, digest_Iterate_L1 n salt_0 h_7 t_15 t_16 = some r → ∀ {w : World}, (Below w0.heap.size w0 w) → KE Tryz.prog 55 (Ret (fun v w' => v = str r ∧ Below w0.heap.size w0 w')) 25 [.code (sub (bodyOf Tryz.f55) [2, 2, 1, 2, 2, 1]), .inLoop (sub (bodyOf Tryz.f55) [2, 2, 1, 2, 2, 1]), .inBlock 0, .code (sub (bodyOf Tryz.f55) [2, 2, 2])] [(0, str salt_0), (7, str h_7), (15, .int .i64 t_15), (16, .int .i64 t_16)] w := by
 intro n
 induction n with
 | zero => intro r salt_0 h_7 t_15 t_16 hS; cases hS
 | succ n ih =>
  have hr0 : ∀ {r : Str} {salt_0 : Str} {h_7 : Str} {t_15 : Int} {t_16 : Int}, digest_Iterate_L1 n salt_0 h_7 t_15 t_16 = some r → ∀ {w : World}, (Below w0.heap.size w0 w) → KE Tryz.prog 55 (Ret (fun v w' => v = str r ∧ Below w0.heap.size w0 w')) 25 [.inLoop (sub (bodyOf Tryz.f55) [2, 2, 1, 2, 2, 1]), .inBlock 0, .code (sub (bodyOf Tryz.f55) [2, 2, 2])] [(0, str salt_0), (7, str h_7), (15, .int .i64 t_15), (16, .int .i64 t_16)] w := fun {r} {salt_0} {h_7} {t_15} {t_16} hS {w} hb => ke_inLoop (ih hS hb)
  clear ih
  intro r salt_0 h_7 t_15 t_16 hS w hb
  unfold digest_Iterate_L1 at hS
  refine ke_seq ?_
  refine ke_region ?_
  refine sr_ev (v := .bool (decide (t_16 < t_15))) (ev_lt rfl rfl) (by decide) ?_
  refine sr_end (l' := [(0, str salt_0), (7, str h_7), (15, .int .i64 t_15), (16, .int .i64 t_16), (17, .bool (decide (t_16 < t_15)))]) (.cons rfl (.cons rfl (.cons rfl (.cons rfl (.cons rfl (.nil _)))))) ?_
  refine ke_seq ?_
  refine ke_cond (t := decide (t_16 < t_15)) rfl (fun hc7 => ?_) (fun hc7 => ?_)
  ·replace hS := ite_true' hS hc7
   refine ke_skip ?_
   refine ke_seq ?_
   refine ke_block ?_
   refine ke_region ?_
   refine sr_ev (v := str h_7) (ev_move rfl) (by decide) ?_
   obtain ⟨hk8, hS⟩ := chk_some hS
   refine sr_ev (v := str (h_7 ++ ([124]))) (ev_cat rfl rfl hk8) (by decide) ?_
   refine sr_ev (v := str salt_0) (ev_move rfl) (by decide) ?_
   obtain ⟨hk9, hS⟩ := chk_some hS
   refine sr_ev (v := str ((h_7 ++ ([124])) ++ salt_0)) (ev_cat rfl rfl hk9) (by decide) ?_
   obtain ⟨y10, hy11, hS⟩ := bind_some' hS
   refine sr_call (vs := [str ((h_7 ++ ([124])) ++ salt_0)]) rfl Tryz.call96 rfl (digest_Text_ok _ (hg.below hb) hy11) (by decide) ?_
   rintro _ w12 ⟨rfl, hbw13⟩
   replace hb := hb.trans (hbw13.mono hb.size)
   refine sr_ev (v := str y10) (ev_assign rfl) (by decide) ?_
   refine sr_end (l' := [(0, str salt_0), (7, str y10), (15, .int .i64 t_15), (16, .int .i64 t_16)]) (.cons rfl (.cons rfl (.cons rfl (.cons rfl (.nil _))))) ?_
   refine ke_inBlock ?_
   refine ke_region ?_
   refine sr_ev (v := .int .i64 (IntKind.i64.wrap (t_16 + 1))) (ev_add rfl rfl) (by decide) ?_
   refine sr_ev (v := .int .i64 (IntKind.i64.wrap (t_16 + 1))) (ev_move rfl) (by decide) ?_
   refine sr_end (l' := [(0, str salt_0), (7, str y10), (15, .int .i64 t_15), (16, .int .i64 (IntKind.i64.wrap (t_16 + 1)))]) (.cons rfl (.cons rfl (.cons rfl (.cons rfl (.nil _))))) ?_
   have hK := hr0 hS hb
   exact ke_weaken (l' := [(0, str salt_0), (7, str y10), (15, .int .i64 t_15), (16, .int .i64 (IntKind.i64.wrap (t_16 + 1)))]) (.cons rfl (.cons rfl (.cons rfl (.cons rfl (.nil _))))) hK
  ·replace hS := ite_false' hS hc7
   refine ke_exit (k' := _) rfl ?_
   refine ke_seq ?_
   refine ke_region ?_
   refine sr_ev (v := str h_7) (ev_move rfl) (by decide) ?_
   refine sr_ev (v := str h_7) (ev_assign rfl) (by decide) ?_
   refine sr_end (l' := [(6, str h_7)]) (.cons rfl (.nil _)) ?_
   cases hS
   exact ke_ret1 Tryz.func55 rfl rfl ⟨_, rfl, rfl, hb⟩
theorem digest_Iterate_ok (w0 : World) (hg : Gs w0) {salt_0 : Str} {s_1 : Str} {rounds_2 : Int} {r : Str} (hS : digest_Iterate salt_0 s_1 rounds_2 = some r) :
  Calls Tryz.prog 55 #[str salt_0, str s_1, .int .i64 rounds_2] w0 (Ret (fun v w' => v = str r ∧ Below w0.heap.size w0 w')) := by
 unfold digest_Iterate at hS
 have hb := Below.refl w0.heap.size w0
 refine calls_of_ke Tryz.func55 rfl (n := 25) rfl rfl (l := [(0, str salt_0), (1, str s_1), (2, .int .i64 rounds_2)]) rfl ?_
 refine ke_seq ?_
 refine ke_region ?_
 refine sr_ev (v := str ([])) (ev_assign rfl) (by decide) ?_
 refine sr_end (l' := [(0, str salt_0), (1, str s_1), (2, .int .i64 rounds_2)]) (.cons rfl (.cons rfl (.cons rfl (.nil _)))) ?_
 refine ke_seq ?_
 refine ke_region ?_
 refine sr_ev (v := str salt_0) (ev_move rfl) (by decide) ?_
 obtain ⟨hk1, hS⟩ := chk_some hS
 refine sr_ev (v := str (salt_0 ++ ([124]))) (ev_cat rfl rfl hk1) (by decide) ?_
 refine sr_ev (v := str s_1) (ev_move rfl) (by decide) ?_
 obtain ⟨hk2, hS⟩ := chk_some hS
 refine sr_ev (v := str ((salt_0 ++ ([124])) ++ s_1)) (ev_cat rfl rfl hk2) (by decide) ?_
 obtain ⟨y3, hy4, hS⟩ := bind_some' hS
 refine sr_call (vs := [str ((salt_0 ++ ([124])) ++ s_1)]) rfl Tryz.call96 rfl (digest_Text_ok _ (hg.below hb) hy4) (by decide) ?_
 rintro _ w5 ⟨rfl, hbw6⟩
 replace hb := hb.trans (hbw6.mono hb.size)
 refine sr_ev (v := str y3) (ev_assign rfl) (by decide) ?_
 refine sr_end (l' := [(0, str salt_0), (2, .int .i64 rounds_2), (7, str y3)]) (.cons rfl (.cons rfl (.cons rfl (.nil _)))) ?_
 refine ke_seq ?_
 refine ke_seq ?_
 refine ke_region ?_
 refine sr_ev (v := .int .i64 rounds_2) (ev_move rfl) (by decide) ?_
 refine sr_ev (v := .int .i64 (gmax rounds_2 0)) (ev_max rfl rfl) (by decide) ?_
 refine sr_ev (v := .int .i64 (gmin (gmax rounds_2 0) 64)) (ev_min rfl rfl) (by decide) ?_
 refine sr_ev (v := .int .i64 0) (ev_move rfl) (by decide) ?_
 refine sr_end (l' := [(0, str salt_0), (7, str y3), (15, .int .i64 (gmin (gmax rounds_2 0) 64)), (16, .int .i64 0)]) (.cons rfl (.cons rfl (.cons rfl (.cons rfl (.nil _))))) ?_
 refine ke_block ?_
 have hK := digest_Iterate_L1_ok hg _ hS hb
 exact ke_weaken (l' := [(0, str salt_0), (7, str y3), (15, .int .i64 (gmin (gmax rounds_2 0) 64)), (16, .int .i64 0)]) (.cons rfl (.cons rfl (.cons rfl (.cons rfl (.nil _))))) (ke_loop hK)
theorem secret_Make_ok (w0 : World) (hg : Gs w0) {password_0 : Str} {salt_1 : Str} {rounds_2 : Int} {r : api_Verifier × Int} (hS : secret_Make password_0 salt_1 rounds_2 = some r) :
  Calls Tryz.prog 20 #[str password_0, str salt_1, .int .i64 rounds_2] w0 (Ret (fun v w' => v = .tuple #[.agg #[str r.1.Salt, .int .i64 r.1.Rounds, str r.1.Hash], .int .i64 r.2] ∧ Below w0.heap.size w0 w')) := by
 unfold secret_Make at hS
 have hb := Below.refl w0.heap.size w0
 obtain ⟨A0, hA0, hAe⟩ : ∃ A0 : Nat → Prop, (∀ b, A0 b → b < w0.heap.size) ∧ A0 = fun _ => False := ⟨_, fun _ h => h.elim, rfl⟩
 clear hAe
 have hA := hA0
 have hi : ∀ b, A0 b → A0 b := fun _ h => h
 have hH := Hp.nil A0 w0.heap.size w0
 refine calls_of_ke Tryz.func20 rfl (n := 31) rfl rfl (l := [(0, str password_0), (1, str salt_1), (2, .int .i64 rounds_2)]) rfl ?_
 refine ke_seq ?_
 refine ke_region ?_
 refine sr_alloc hH hb.size hA Tryz.zeroValue45 (by decide) ?_
 intro g1 A2 w3 hH1 hst4 hbw5 hinc6 hA1 hge7
 replace hb := hb.trans (hbw5.mono hb.size)
 replace hi := fun b hb => hinc6 b (hi b hb)
 replace hH : Hp A2 w0.heap.size w3 [(g1, .cells #[str ([]), .int .i64 0, str ([])] 45 (0, 0))] := hH1
 replace hA := hA1
 clear hH1 hA1
 refine sr_ev (v := .int .i64 0) (ev_assign rfl) (by decide) ?_
 refine sr_end (l' := [(0, str password_0), (1, str salt_1), (2, .int .i64 rounds_2), (6, .pointer (some ⟨g1, 0, none⟩))]) (.cons rfl (.cons rfl (.cons rfl (.cons rfl (.nil _))))) ?_
 refine ke_seq ?_
 refine ke_seq ?_
 refine ke_region ?_
 refine sr_ev (v := str salt_1) (ev_move rfl) (by decide) ?_
 obtain ⟨y8, hy9, hS⟩ := bind_some' hS
 refine sr_call (vs := [str salt_1]) rfl Tryz.call43 rfl (fold_Word_ok _ (hg.below hb) hy9) (by decide) ?_
 rintro _ w10 ⟨rfl, hbw11⟩
 replace hb := hb.trans (hbw11.mono hb.size)
 replace hA := lt_mono hA hbw11.size
 replace hH := hH.below hbw11
 refine sr_ev (v := .bool (!y8)) (ev_not rfl) (by decide) ?_
 refine sr_ev (v := .bool (!y8)) (ev_move rfl) (by decide) ?_
 refine sr_join (m := 3) (C := fun (x : Bool) w1 => x = ((!y8) || (decide (rounds_2 < 1))) ∧ w10 = w1) (l' := fun x => [(0, str password_0), (1, str salt_1), (2, .int .i64 rounds_2), (6, .pointer (some ⟨g1, 0, none⟩)), (14, .bool x)]) ?_ ?_
 ·rintro _ _ ⟨rfl, rfl⟩
  refine sr_ev (v := .bool ((!y8) || (decide (rounds_2 < 1)))) (ev_move rfl) (by decide) ?_
  refine sr_join (m := 3) (C := fun (x : Bool) w1 => x = (((!y8) || (decide (rounds_2 < 1))) || (decide (rounds_2 > 64))) ∧ w10 = w1) (l' := fun x => [(0, str password_0), (1, str salt_1), (2, .int .i64 rounds_2), (6, .pointer (some ⟨g1, 0, none⟩)), (18, .bool x)]) ?_ ?_
  ·rintro _ _ ⟨rfl, rfl⟩
   refine sr_end (l' := [(0, str password_0), (1, str salt_1), (2, .int .i64 rounds_2), (6, .pointer (some ⟨g1, 0, none⟩)), (18, .bool (((!y8) || (decide (rounds_2 < 1))) || (decide (rounds_2 > 64))))]) (.cons rfl (.cons rfl (.cons rfl (.cons rfl (.cons rfl (.nil _)))))) ?_
   refine ke_cond (t := ((!y8) || (decide (rounds_2 < 1))) || (decide (rounds_2 > 64))) rfl (fun hc26 => ?_) (fun hc26 => ?_)
   ·replace hS := ite_true' hS hc26
    refine ke_seq ?_
    refine ke_region ?_
    refine sr_ev (v := .agg #[str ([]), .int .i64 0, str ([])]) (ev_build (vs := #[]) rfl (fun _ => by kernel_rfl)) (by decide) ?_
    refine sr_store (i := 0) (v := .agg #[str ([]), .int .i64 0, str ([])]) (vs := [str ([]), .int .i64 0, str ([])]) (cs' := #[str ([]), .int .i64 0, str ([])]) hH rfl rfl rfl rfl Tryz.sizeOf45 rfl rfl rfl ?_
    intro w27 hH1 hwr28
    replace hb := hwr28.below hb (hH.base _ (List.mem_of_getElem? (i := 0) rfl))
    replace hA := hwr28.lt hA
    replace hH : Hp A2 w0.heap.size w27 [(g1, .cells #[str ([]), .int .i64 0, str ([])] 45 (0, 0))] := hH1
    clear hH1
    refine sr_ev (v := .int .i64 2) (ev_assign rfl) (by decide) ?_
    refine sr_end (l' := [(6, .pointer (some ⟨g1, 0, none⟩)), (7, .int .i64 2)]) (.cons rfl (.cons rfl (.nil _))) ?_
    cases hS
    exact ke_ret (rs := [.cell 6 45, .tmp 7]) (vs := [.agg #[str ([]), .int .i64 0, str ([])], .int .i64 2]) Tryz.func20 rfl ⟨⟨_, rfl, run_loadVar_s Tryz.isAgg45 Tryz.sizeOf45 (hH.cells (i := 0) (vs := [str ([]), .int .i64 0, str ([])]) rfl rfl)⟩, rfl, trivial⟩ rfl ⟨_, rfl, rfl, hb⟩
   ·replace hS := ite_false' hS hc26
    refine ke_skip ?_
    refine ke_seq ?_
    refine ke_seq ?_
    refine ke_region ?_
    refine sr_ev (v := str password_0) (ev_move rfl) (by decide) ?_
    obtain ⟨y29, hy30, hS⟩ := bind_some' hS
    refine sr_call (vs := [str password_0]) rfl Tryz.call54 rfl (secret_isPassword_ok _ (hg.below hb) hy30) (by decide) ?_
    rintro _ w31 ⟨rfl, hbw32⟩
    replace hb := hb.trans (hbw32.mono hb.size)
    replace hA := lt_mono hA hbw32.size
    replace hH := hH.below hbw32
    refine sr_ev (v := .bool (!y29)) (ev_not rfl) (by decide) ?_
    refine sr_end (l' := [(0, str password_0), (1, str salt_1), (2, .int .i64 rounds_2), (6, .pointer (some ⟨g1, 0, none⟩)), (22, .bool (!y29))]) (.cons rfl (.cons rfl (.cons rfl (.cons rfl (.cons rfl (.nil _)))))) ?_
    refine ke_cond (t := !y29) rfl (fun hc33 => ?_) (fun hc33 => ?_)
    ·replace hS := ite_true' hS hc33
     refine ke_seq ?_
     refine ke_region ?_
     refine sr_ev (v := .agg #[str ([]), .int .i64 0, str ([])]) (ev_build (vs := #[]) rfl (fun _ => by kernel_rfl)) (by decide) ?_
     refine sr_store (i := 0) (v := .agg #[str ([]), .int .i64 0, str ([])]) (vs := [str ([]), .int .i64 0, str ([])]) (cs' := #[str ([]), .int .i64 0, str ([])]) hH rfl rfl rfl rfl Tryz.sizeOf45 rfl rfl rfl ?_
     intro w34 hH1 hwr35
     replace hb := hwr35.below hb (hH.base _ (List.mem_of_getElem? (i := 0) rfl))
     replace hA := hwr35.lt hA
     replace hH : Hp A2 w0.heap.size w34 [(g1, .cells #[str ([]), .int .i64 0, str ([])] 45 (0, 0))] := hH1
     clear hH1
     refine sr_ev (v := .int .i64 4) (ev_assign rfl) (by decide) ?_
     refine sr_end (l' := [(6, .pointer (some ⟨g1, 0, none⟩)), (7, .int .i64 4)]) (.cons rfl (.cons rfl (.nil _))) ?_
     cases hS
     exact ke_ret (rs := [.cell 6 45, .tmp 7]) (vs := [.agg #[str ([]), .int .i64 0, str ([])], .int .i64 4]) Tryz.func20 rfl ⟨⟨_, rfl, run_loadVar_s Tryz.isAgg45 Tryz.sizeOf45 (hH.cells (i := 0) (vs := [str ([]), .int .i64 0, str ([])]) rfl rfl)⟩, rfl, trivial⟩ rfl ⟨_, rfl, rfl, hb⟩
    ·replace hS := ite_false' hS hc33
     refine ke_skip ?_
     refine ke_seq ?_
     refine ke_region ?_
     refine sr_ev (v := str salt_1) (ev_move rfl) (by decide) ?_
     refine sr_ev (v := .int .i64 rounds_2) (ev_move rfl) (by decide) ?_
     refine sr_ev (v := str salt_1) (ev_move rfl) (by decide) ?_
     refine sr_ev (v := str password_0) (ev_move rfl) (by decide) ?_
     refine sr_ev (v := .int .i64 rounds_2) (ev_move rfl) (by decide) ?_
     obtain ⟨y36, hy37, hS⟩ := bind_some' hS
     refine sr_call (vs := [str salt_1, str password_0, .int .i64 rounds_2]) rfl Tryz.call55 rfl (digest_Iterate_ok _ (hg.below hb) hy37) (by decide) ?_
     rintro _ w38 ⟨rfl, hbw39⟩
     replace hb := hb.trans (hbw39.mono hb.size)
     replace hA := lt_mono hA hbw39.size
     replace hH := hH.below hbw39
     refine sr_ev (v := .agg #[str salt_1, .int .i64 rounds_2, str y36]) (ev_build (vs := #[(0, str salt_1), (1, .int .i64 rounds_2), (2, str y36)]) rfl (fun _ => by kernel_rfl)) (by decide) ?_
     refine sr_store (i := 0) (v := .agg #[str salt_1, .int .i64 rounds_2, str y36]) (vs := [str salt_1, .int .i64 rounds_2, str y36]) (cs' := #[str salt_1, .int .i64 rounds_2, str y36]) hH rfl rfl rfl rfl Tryz.sizeOf45 rfl rfl rfl ?_
     intro w40 hH1 hwr41
     replace hb := hwr41.below hb (hH.base _ (List.mem_of_getElem? (i := 0) rfl))
     replace hA := hwr41.lt hA
     replace hH : Hp A2 w0.heap.size w40 [(g1, .cells #[str salt_1, .int .i64 rounds_2, str y36] 45 (0, 0))] := hH1
     clear hH1
     refine sr_ev (v := .int .i64 0) (ev_assign rfl) (by decide) ?_
     refine sr_end (l' := [(6, .pointer (some ⟨g1, 0, none⟩)), (7, .int .i64 0)]) (.cons rfl (.cons rfl (.nil _))) ?_
     cases hS
     exact ke_ret (rs := [.cell 6 45, .tmp 7]) (vs := [.agg #[str salt_1, .int .i64 rounds_2, str y36], .int .i64 0]) Tryz.func20 rfl ⟨⟨_, rfl, run_loadVar_s Tryz.isAgg45 Tryz.sizeOf45 (hH.cells (i := 0) (vs := [str salt_1, .int .i64 rounds_2, str y36]) rfl rfl)⟩, rfl, trivial⟩ rfl ⟨_, rfl, rfl, hb⟩
  ·intro K20
   rcases Bool.eq_false_or_eq_true ((!y8) || (decide (rounds_2 < 1))) with hg19 | hg19
   ·refine sr_pass (e := 15) rfl rfl (by rw [hg19]; rfl) (by decide) ?_
    refine sr_pass (e := 15) rfl rfl (by rw [hg19]; rfl) (by decide) ?_
    refine sr_ev (v := .bool true) (ev_pick_t rfl hg19 rfl) (by decide) ?_
    exact sr_weaken (l' := [(0, str password_0), (1, str salt_1), (2, .int .i64 rounds_2), (6, .pointer (some ⟨g1, 0, none⟩)), (18, .bool true)]) (.cons rfl (.cons rfl (.cons rfl (.cons rfl (.cons rfl (.nil _)))))) (K20 true _ ⟨by rw [hg19]; rfl, rfl⟩)
   ·refine sr_evg (b := false) (e := 15) rfl rfl hg19 (v := .int .i64 rounds_2) (ev_move rfl) (by decide) ?_
    refine sr_evg (b := false) (e := 15) rfl rfl hg19 (v := .bool (decide (rounds_2 > 64))) (ev_gt rfl rfl) (by decide) ?_
    refine sr_ev (v := .bool (decide (rounds_2 > 64))) (ev_pick_f rfl hg19 rfl) (by decide) ?_
    exact sr_weaken (l' := [(0, str password_0), (1, str salt_1), (2, .int .i64 rounds_2), (6, .pointer (some ⟨g1, 0, none⟩)), (18, .bool (decide (rounds_2 > 64)))]) (.cons rfl (.cons rfl (.cons rfl (.cons rfl (.cons rfl (.nil _)))))) (K20 (decide (rounds_2 > 64)) _ ⟨by rw [hg19]; rfl, rfl⟩)
 ·intro K13
  rcases Bool.eq_false_or_eq_true (!y8) with hg12 | hg12
  ·refine sr_pass (e := 11) rfl rfl (by rw [hg12]; rfl) (by decide) ?_
   refine sr_pass (e := 11) rfl rfl (by rw [hg12]; rfl) (by decide) ?_
   refine sr_ev (v := .bool true) (ev_pick_t rfl hg12 rfl) (by decide) ?_
   exact sr_weaken (l' := [(0, str password_0), (1, str salt_1), (2, .int .i64 rounds_2), (6, .pointer (some ⟨g1, 0, none⟩)), (14, .bool true)]) (.cons rfl (.cons rfl (.cons rfl (.cons rfl (.cons rfl (.nil _)))))) (K13 true _ ⟨by rw [hg12]; rfl, rfl⟩)
  ·refine sr_evg (b := false) (e := 11) rfl rfl hg12 (v := .int .i64 rounds_2) (ev_move rfl) (by decide) ?_
   refine sr_evg (b := false) (e := 11) rfl rfl hg12 (v := .bool (decide (rounds_2 < 1))) (ev_lt rfl rfl) (by decide) ?_
   refine sr_ev (v := .bool (decide (rounds_2 < 1))) (ev_pick_f rfl hg12 rfl) (by decide) ?_
   exact sr_weaken (l' := [(0, str password_0), (1, str salt_1), (2, .int .i64 rounds_2), (6, .pointer (some ⟨g1, 0, none⟩)), (14, .bool (decide (rounds_2 < 1)))]) (.cons rfl (.cons rfl (.cons rfl (.cons rfl (.cons rfl (.nil _)))))) (K13 (decide (rounds_2 < 1)) _ ⟨by rw [hg12]; rfl, rfl⟩)
theorem login_Logins_ready_ok (w0 : World) (hg : Gs w0) {ρA : Tags} (hbd : ∀ b, ρA b ≠ 0 → b < w0.heap.size) (hz : Gz ρA) {τ0 : Nat → Nat} (hτ0 : ∀ p, 1 ≤ τ0 p) {l_0 : login_Logins} {gl_0 : Nat} {r : Bool} (ho0 : login_Logins.O τ0 ρA w0 gl_0 l_0) (hS : login_Logins_ready l_0 = some r) :
  Calls Tryz.prog 42 #[.pointer (some ⟨gl_0, 0, none⟩)] w0 (Ret (fun v w' => v = .bool r ∧ Below w0.heap.size w0 w')) := by
 unfold login_Logins_ready at hS
 have hb := flat1_fr (ρ := ρA) (w := w0) hbd
 have hz := hz.flat1
 obtain ⟨v1, v3, v5, v7, hB9, hP2, h4, h6, h8⟩ := ho0
 replace hB9 := hB9.mv (flat1_mv (hτ0 0))
 replace hP2 := PtrO.mv hP2 secret_Locks.objK (fun p hp => flat1_mv (hτ0 (1 + p))) (fun _ _ => by decide)
 replace h4 := h4.mv (flat1_mv (hτ0 4))
 replace h6 := h6.mv (flat1_mv (hτ0 5))
 replace h8 := h8.mv (flat1_mv (hτ0 6))
 replace hB9 : Blk (flat1 ρA) 1 w0 gl_0 (.cells #[v1, v3, v5, v7] 69 (0, 0)) := hB9
 replace hP2 : PtrO secret_Locks.O (fun _ => 1) (flat1 ρA) w0 v1 l_0.locks := hP2
 replace h4 : MapT str login_credentials.c true (flat1 ρA) 1 w0 v3 l_0.users := h4
 replace h6 : MapT str (intC .i64) false (flat1 ρA) 1 w0 v5 l_0.counters := h6
 replace h8 : MapT str login_attempt.c true (flat1 ρA) 1 w0 v7 l_0.attempts := h8
 refine calls_of_ke Tryz.func42 rfl (n := 12) rfl rfl (l := [(0, .pointer (some ⟨gl_0, 0, none⟩))]) rfl ?_
 refine ke_seq ?_
 refine ke_region ?_
 refine sr_ev (v := .bool false) (ev_assign rfl) (by decide) ?_
 refine sr_end (l' := [(0, .pointer (some ⟨gl_0, 0, none⟩))]) (.cons rfl (.nil _)) ?_
 refine ke_seq ?_
 refine ke_region ?_
 refine sr_ev (v := .pointer (some ⟨gl_0, 0, none⟩)) (ev_move rfl) (by decide) ?_
 refine sr_ev (v := .bool true) (ev_pneT_some Tryz.underlying25 rfl rfl) (by decide) ?_
 refine sr_ev (v := .bool true) (ev_move rfl) (by decide) ?_
 refine sr_evg (b := true) (e := 5) rfl rfl rfl (v := .pointer (some ⟨gl_0, 0, none⟩)) (ev_move rfl) (by decide) ?_
 refine sr_evg (b := true) (e := 5) rfl rfl rfl (v := .pointer (some ⟨gl_0, 0, none⟩)) (ev_nilCheck rfl) (by decide) ?_
 refine sr_evg (b := true) (e := 5) rfl rfl rfl (v := .pointer (some ⟨gl_0, 1, none⟩)) (ev_fieldAddr (i := 1) Tryz.underlying69 rfl Tryz.info65 rfl rfl) (by decide) ?_
 refine sr_evg (b := true) (e := 5) rfl rfl rfl (v := v3) (ev_load Tryz.isAgg65 rfl (hB9.cell rfl)) (by decide) ?_
 refine sr_evg (b := true) (e := 5) rfl rfl rfl (v := .bool (!l_0.users.isNone)) (ev_mapNe h4 Tryz.underlying65 w0 rfl rfl) (by decide) ?_
 refine sr_ev (v := .bool (!l_0.users.isNone)) (ev_pick_t rfl rfl rfl) (by decide) ?_
 refine sr_ev (v := .bool (!l_0.users.isNone)) (ev_assign rfl) (by decide) ?_
 refine sr_end (l' := [(2, .bool (!l_0.users.isNone))]) (.cons rfl (.nil _)) ?_
 cases hS
 exact ke_ret1 Tryz.func42 rfl rfl ⟨_, rfl, rfl, (hb.below (flat1_le _))⟩
theorem digest_ReadHex_B3_ok {w0 : World} (hg : Gs w0) (r0 : Str → Int → Int → Int → Option (Int × Int)) (r1 : Str → Int → Int → Int → Int → Int → Int → Option (Int × Int))
  (hr0 : ∀ {r : Int × Int} {s_0 : Str} {n_4 : Int} {t_13 : Int} {t_14 : Int}, r0 s_0 n_4 t_13 t_14 = some r → ∀ {w : World}, (Below w0.heap.size w0 w) → KE Tryz.prog 97 (Ret (fun v w' => v = .tuple #[.int .u64 r.1, .int .i64 r.2] ∧ Below w0.heap.size w0 w')) 38 [.inLoop (sub (bodyOf Tryz.f97) [2, 2, 2, 1, 2, 2, 1]), .inBlock 0, .code (sub (bodyOf Tryz.f97) [2, 2, 2, 2])] [(0, str s_0), (4, .int .u64 n_4), (13, .int .i64 t_13), (14, .int .i64 t_14)] w)
  (hr1 : ∀ {r : Int × Int} {s_0 : Str} {n_4 : Int} {i_5 : Int} {v_6 : Int} {t_13 : Int} {t_14 : Int} {t_18 : Int}, r1 s_0 n_4 i_5 v_6 t_13 t_14 t_18 = some r → ∀ {w : World}, (Below w0.heap.size w0 w) → KE Tryz.prog 97 (Ret (fun v w' => v = .tuple #[.int .u64 r.1, .int .i64 r.2] ∧ Below w0.heap.size w0 w')) 38 [.inLoop (sub (bodyOf Tryz.f97) [2, 2, 2, 1, 2, 2, 1, 2, 2, 1, 2, 2, 2, 1, 2, 2, 1]), .inBlock 2, .code (sub (bodyOf Tryz.f97) [2, 2, 2, 1, 2, 2, 1, 2, 2, 1, 2, 2, 2, 2]), .inBlock 1, .code (sub (bodyOf Tryz.f97) [2, 2, 2, 1, 2, 2, 1, 2, 2, 2]), .inLoop (sub (bodyOf Tryz.f97) [2, 2, 2, 1, 2, 2, 1]), .inBlock 0, .code (sub (bodyOf Tryz.f97) [2, 2, 2, 2])] [(0, str s_0), (4, .int .u64 n_4), (5, .int .i64 i_5), (6, .int .i64 v_6), (13, .int .i64 t_13), (14, .int .i64 t_14), (17, arrV .u8 tab_digest_digits), (18, .int .i64 t_18)] w) {r : Int × Int} {s_0 : Str} {n_4 : Int} {i_5 : Int} {v_6 : Int} {t_13 : Int} {t_14 : Int} {t_18 : Int} (hS : digest_ReadHex_B3 r0 r1 s_0 n_4 i_5 v_6 t_13 t_14 t_18 = some r) {w : World} (hb : Below w0.heap.size w0 w) :
  KE Tryz.prog 97 (Ret (fun v w' => v = .tuple #[.int .u64 r.1, .int .i64 r.2] ∧ Below w0.heap.size w0 w')) 38 [.inBlock 3, .code (sub (bodyOf Tryz.f97) [2, 2, 2, 1, 2, 2, 1, 2, 2, 1, 2, 2, 2, 1, 2, 2, 1, 2, 2, 2]), .inLoop (sub (bodyOf Tryz.f97) [2, 2, 2, 1, 2, 2, 1, 2, 2, 1, 2, 2, 2, 1, 2, 2, 1]), .inBlock 2, .code (sub (bodyOf Tryz.f97) [2, 2, 2, 1, 2, 2, 1, 2, 2, 1, 2, 2, 2, 2]), .inBlock 1, .code (sub (bodyOf Tryz.f97) [2, 2, 2, 1, 2, 2, 1, 2, 2, 2]), .inLoop (sub (bodyOf Tryz.f97) [2, 2, 2, 1, 2, 2, 1]), .inBlock 0, .code (sub (bodyOf Tryz.f97) [2, 2, 2, 2])] [(0, str s_0), (4, .int .u64 n_4), (5, .int .i64 i_5), (6, .int .i64 v_6), (13, .int .i64 t_13), (14, .int .i64 t_14), (17, arrV .u8 tab_digest_digits), (18, .int .i64 t_18)] w := by
 unfold digest_ReadHex_B3 at hS
 refine ke_inBlock ?_
 refine ke_region ?_
 refine sr_ev (v := .int .i64 (IntKind.i64.wrap (t_18 + 1))) (ev_add rfl rfl) (by decide) ?_
 refine sr_ev (v := .int .i64 (IntKind.i64.wrap (t_18 + 1))) (ev_move rfl) (by decide) ?_
 refine sr_end (l' := [(0, str s_0), (4, .int .u64 n_4), (5, .int .i64 i_5), (6, .int .i64 v_6), (13, .int .i64 t_13), (14, .int .i64 t_14), (17, arrV .u8 tab_digest_digits), (18, .int .i64 (IntKind.i64.wrap (t_18 + 1)))]) (.cons rfl (.cons rfl (.cons rfl (.cons rfl (.cons rfl (.cons rfl (.cons rfl (.cons rfl (.nil _))))))))) ?_
 have hK := hr1 hS hb
 exact ke_weaken (l' := [(0, str s_0), (4, .int .u64 n_4), (5, .int .i64 i_5), (6, .int .i64 v_6), (13, .int .i64 t_13), (14, .int .i64 t_14), (17, arrV .u8 tab_digest_digits), (18, .int .i64 (IntKind.i64.wrap (t_18 + 1)))]) (.cons rfl (.cons rfl (.cons rfl (.cons rfl (.cons rfl (.cons rfl (.cons rfl (.cons rfl (.nil _))))))))) hK
theorem digest_ReadHex_L2_ok {w0 : World} (hg : Gs w0) (r0 : Str → Int → Int → Int → Option (Int × Int))
  (hr0 : ∀ {r : Int × Int} {s_0 : Str} {n_4 : Int} {t_13 : Int} {t_14 : Int}, r0 s_0 n_4 t_13 t_14 = some r → ∀ {w : World}, (Below w0.heap.size w0 w) → KE Tryz.prog 97 (Ret (fun v w' => v = .tuple #[.int .u64 r.1, .int .i64 r.2] ∧ Below w0.heap.size w0 w')) 38 [.inLoop (sub (bodyOf Tryz.f97) [2, 2, 2, 1, 2, 2, 1]), .inBlock 0, .code (sub (bodyOf Tryz.f97) [2, 2, 2, 2])] [(0, str s_0), (4, .int .u64 n_4), (13, .int .i64 t_13), (14, .int .i64 t_14)] w) : ∀ (n : Nat), ∀ {r : Int × Int} {s_0 : Str} {n_4 : Int} {i_5 : Int} {v_6 : Int} {t_13 : Int} {t_14 : Int} {t_18 : Int}, digest_ReadHex_L2 r0 n s_0 n_4 i_5 v_6 t_13 t_14 t_18 = some r → ∀ {w : World}, (Below w0.heap.size w0 w) → KE Tryz.prog 97 (Ret (fun v w' => v = .tuple #[.int .u64 r.1, .int .i64 r.2] ∧ Below w0.heap.size w0 w')) 38 [.code (sub (bodyOf Tryz.f97) [2, 2, 2, 1, 2, 2, 1, 2, 2, 1, 2, 2, 2, 1, 2, 2, 1]), .inLoop (sub (bodyOf Tryz.f97) [2, 2, 2, 1, 2, 2, 1, 2, 2, 1, 2, 2, 2, 1, 2, 2, 1]), .inBlock 2, .code (sub (bodyOf Tryz.f97) [2, 2, 2, 1, 2, 2, 1, 2, 2, 1, 2, 2, 2, 2]), .inBlock 1, .code (sub (bodyOf Tryz.f97) [2, 2, 2, 1, 2, 2, 1, 2, 2, 2]), .inLoop (sub (bodyOf Tryz.f97) [2, 2, 2, 1, 2, 2, 1]), .inBlock 0, .code (sub (bodyOf Tryz.f97) [2, 2, 2, 2])] [(0, str s_0), (4, .int .u64 n_4), (5, .int .i64 i_5), (6, .int .i64 v_6), (13, .int .i64 t_13), (14, .int .i64 t_14), (17, arrV .u8 tab_digest_digits), (18, .int .i64 t_18)] w := by
 intro n
 induction n with
 | zero => intro r s_0 n_4 i_5 v_6 t_13 t_14 t_18 hS; cases hS
 | succ n ih =>
  have hr1 : ∀ {r : Int × Int} {s_0 : Str} {n_4 : Int} {i_5 : Int} {v_6 : Int} {t_13 : Int} {t_14 : Int} {t_18 : Int}, digest_ReadHex_L2 r0 n s_0 n_4 i_5 v_6 t_13 t_14 t_18 = some r → ∀ {w : World}, (Below w0.heap.size w0 w) → KE Tryz.prog 97 (Ret (fun v w' => v = .tuple #[.int .u64 r.1, .int .i64 r.2] ∧ Below w0.heap.size w0 w')) 38 [.inLoop (sub (bodyOf Tryz.f97) [2, 2, 2, 1, 2, 2, 1, 2, 2, 1, 2, 2, 2, 1, 2, 2, 1]), .inBlock 2, .code (sub (bodyOf Tryz.f97) [2, 2, 2, 1, 2, 2, 1, 2, 2, 1, 2, 2, 2, 2]), .inBlock 1, .code (sub (bodyOf Tryz.f97) [2, 2, 2, 1, 2, 2, 1, 2, 2, 2]), .inLoop (sub (bodyOf Tryz.f97) [2, 2, 2, 1, 2, 2, 1]), .inBlock 0, .code (sub (bodyOf Tryz.f97) [2, 2, 2, 2])] [(0, str s_0), (4, .int .u64 n_4), (5, .int .i64 i_5), (6, .int .i64 v_6), (13, .int .i64 t_13), (14, .int .i64 t_14), (17, arrV .u8 tab_digest_digits), (18, .int .i64 t_18)] w := fun {r} {s_0} {n_4} {i_5} {v_6} {t_13} {t_14} {t_18} hS {w} hb => ke_inLoop (ih hS hb)
  clear ih
  intro r s_0 n_4 i_5 v_6 t_13 t_14 t_18 hS w hb
  unfold digest_ReadHex_L2 at hS
  refine ke_seq ?_
  refine ke_region ?_
  refine sr_ev (v := .bool (decide (t_18 < 16))) (ev_lt rfl rfl) (by decide) ?_
  refine sr_end (l' := [(0, str s_0), (4, .int .u64 n_4), (5, .int .i64 i_5), (6, .int .i64 v_6), (13, .int .i64 t_13), (14, .int .i64 t_14), (17, arrV .u8 tab_digest_digits), (18, .int .i64 t_18), (19, .bool (decide (t_18 < 16)))]) (.cons rfl (.cons rfl (.cons rfl (.cons rfl (.cons rfl (.cons rfl (.cons rfl (.cons rfl (.cons rfl (.nil _)))))))))) ?_
  refine ke_seq ?_
  refine ke_cond (t := decide (t_18 < 16)) rfl (fun hc3 => ?_) (fun hc3 => ?_)
  ·replace hS := ite_true' hS hc3
   refine ke_skip ?_
   refine ke_seq ?_
   refine ke_block ?_
   refine ke_seq ?_
   refine ke_region ?_
   refine sr_ev (v := .int .i64 t_18) (ev_move rfl) (by decide) ?_
   obtain ⟨y4, hy5, hS⟩ := bind_some' hS
   refine sr_ev (v := .int .u8 y4) (ev_avindex Tryz.underlying152 Tryz.sizeOf5 Tryz.isAgg5 rfl rfl rfl hy5) (by decide) ?_
   refine sr_ev (v := .int .i64 t_18) (ev_assign rfl) (by decide) ?_
   refine sr_ev (v := .int .u8 y4) (ev_assign rfl) (by decide) ?_
   refine sr_end (l' := [(0, str s_0), (4, .int .u64 n_4), (5, .int .i64 i_5), (6, .int .i64 v_6), (7, .int .i64 t_18), (8, .int .u8 y4), (13, .int .i64 t_13), (14, .int .i64 t_14), (17, arrV .u8 tab_digest_digits), (18, .int .i64 t_18)]) (.cons rfl (.cons rfl (.cons rfl (.cons rfl (.cons rfl (.cons rfl (.cons rfl (.cons rfl (.cons rfl (.cons rfl (.nil _))))))))))) ?_
   refine ke_seq ?_
   refine ke_region ?_
   refine sr_ev (v := .int .u8 y4) (ev_move rfl) (by decide) ?_
   refine sr_ev (v := str s_0) (ev_move rfl) (by decide) ?_
   refine sr_ev (v := .int .i64 i_5) (ev_move rfl) (by decide) ?_
   obtain ⟨hk6, hS⟩ := chk_some hS
   refine sr_ev (v := .int .u8 (byteAt s_0 i_5)) (ev_sindex Tryz.underlying9 rfl rfl hk6) (by decide) ?_
   refine sr_ev (v := .bool (y4 == (byteAt s_0 i_5))) (ev_eq rfl rfl) (by decide) ?_
   refine sr_end (l' := [(0, str s_0), (4, .int .u64 n_4), (5, .int .i64 i_5), (6, .int .i64 v_6), (7, .int .i64 t_18), (13, .int .i64 t_13), (14, .int .i64 t_14), (17, arrV .u8 tab_digest_digits), (18, .int .i64 t_18), (26, .bool (y4 == (byteAt s_0 i_5)))]) (.cons rfl (.cons rfl (.cons rfl (.cons rfl (.cons rfl (.cons rfl (.cons rfl (.cons rfl (.cons rfl (.cons rfl (.nil _))))))))))) ?_
   refine ke_cond (t := y4 == (byteAt s_0 i_5)) rfl (fun hc7 => ?_) (fun hc7 => ?_)
   ·replace hS := ite_true' hS hc7
    refine ke_region ?_
    refine sr_ev (v := .int .i64 t_18) (ev_move rfl) (by decide) ?_
    refine sr_ev (v := .int .i64 t_18) (ev_assign rfl) (by decide) ?_
    refine sr_end (l' := [(0, str s_0), (4, .int .u64 n_4), (5, .int .i64 i_5), (6, .int .i64 t_18), (13, .int .i64 t_13), (14, .int .i64 t_14), (17, arrV .u8 tab_digest_digits), (18, .int .i64 t_18)]) (.cons rfl (.cons rfl (.cons rfl (.cons rfl (.cons rfl (.cons rfl (.cons rfl (.cons rfl (.nil _))))))))) ?_
    have hK := digest_ReadHex_B3_ok hg _ _ hr0 hr1 hS hb
    exact ke_weaken (l' := [(0, str s_0), (4, .int .u64 n_4), (5, .int .i64 i_5), (6, .int .i64 t_18), (13, .int .i64 t_13), (14, .int .i64 t_14), (17, arrV .u8 tab_digest_digits), (18, .int .i64 t_18)]) (.cons rfl (.cons rfl (.cons rfl (.cons rfl (.cons rfl (.cons rfl (.cons rfl (.cons rfl (.nil _))))))))) hK
   ·replace hS := ite_false' hS hc7
    refine ke_skip ?_
    have hK := digest_ReadHex_B3_ok hg _ _ hr0 hr1 hS hb
    exact ke_weaken (l' := [(0, str s_0), (4, .int .u64 n_4), (5, .int .i64 i_5), (6, .int .i64 v_6), (13, .int .i64 t_13), (14, .int .i64 t_14), (17, arrV .u8 tab_digest_digits), (18, .int .i64 t_18)]) (.cons rfl (.cons rfl (.cons rfl (.cons rfl (.cons rfl (.cons rfl (.cons rfl (.cons rfl (.nil _))))))))) hK
  ·replace hS := ite_false' hS hc3
   refine ke_exit (k' := _) rfl ?_
   refine ke_seq ?_
   refine ke_seq ?_
   refine ke_region ?_
   refine sr_ev (v := .int .i64 v_6) (ev_move rfl) (by decide) ?_
   refine sr_ev (v := .bool (decide (v_6 < 0))) (ev_lt rfl rfl) (by decide) ?_
   refine sr_end (l' := [(0, str s_0), (4, .int .u64 n_4), (6, .int .i64 v_6), (13, .int .i64 t_13), (14, .int .i64 t_14), (30, .bool (decide (v_6 < 0)))]) (.cons rfl (.cons rfl (.cons rfl (.cons rfl (.cons rfl (.cons rfl (.nil _))))))) ?_
   refine ke_cond (t := decide (v_6 < 0)) rfl (fun hc8 => ?_) (fun hc8 => ?_)
   ·replace hS := ite_true' hS hc8
    refine ke_seq ?_
    refine ke_region ?_
    refine sr_ev (v := .int .u64 0) (ev_assign rfl) (by decide) ?_
    refine sr_ev (v := .int .i64 4) (ev_assign rfl) (by decide) ?_
    refine sr_end (l' := [(2, .int .u64 0), (3, .int .i64 4)]) (.cons rfl (.cons rfl (.nil _))) ?_
    cases hS
    exact ke_ret2 Tryz.func97 rfl rfl rfl ⟨_, rfl, rfl, hb⟩
   ·replace hS := ite_false' hS hc8
    refine ke_skip ?_
    refine ke_region ?_
    refine sr_ev (v := .int .u64 n_4) (ev_move rfl) (by decide) ?_
    refine sr_ev (v := .int .u64 (bShl .u64 n_4 4)) (ev_shl rfl rfl (by decide)) (by decide) ?_
    refine sr_ev (v := .int .i64 v_6) (ev_move rfl) (by decide) ?_
    refine sr_ev (v := .int .u64 (IntKind.u64.wrap v_6)) (ev_conv Tryz.underlying116 Tryz.underlying3 rfl) (by decide) ?_
    refine sr_ev (v := .int .u64 (bOr .u64 (bShl .u64 n_4 4) (IntKind.u64.wrap v_6))) (ev_or rfl rfl) (by decide) ?_
    refine sr_ev (v := .int .u64 (bOr .u64 (bShl .u64 n_4 4) (IntKind.u64.wrap v_6))) (ev_assign rfl) (by decide) ?_
    refine sr_end (l' := [(0, str s_0), (4, .int .u64 (bOr .u64 (bShl .u64 n_4 4) (IntKind.u64.wrap v_6))), (13, .int .i64 t_13), (14, .int .i64 t_14)]) (.cons rfl (.cons rfl (.cons rfl (.cons rfl (.nil _))))) ?_
    refine ke_inBlock ?_
    refine ke_region ?_
    refine sr_ev (v := .int .i64 (IntKind.i64.wrap (t_14 + 1))) (ev_add rfl rfl) (by decide) ?_
    refine sr_ev (v := .int .i64 (IntKind.i64.wrap (t_14 + 1))) (ev_move rfl) (by decide) ?_
    refine sr_end (l' := [(0, str s_0), (4, .int .u64 (bOr .u64 (bShl .u64 n_4 4) (IntKind.u64.wrap v_6))), (13, .int .i64 t_13), (14, .int .i64 (IntKind.i64.wrap (t_14 + 1)))]) (.cons rfl (.cons rfl (.cons rfl (.cons rfl (.nil _))))) ?_
    have hK := hr0 hS hb
    exact ke_weaken (l' := [(0, str s_0), (4, .int .u64 (bOr .u64 (bShl .u64 n_4 4) (IntKind.u64.wrap v_6))), (13, .int .i64 t_13), (14, .int .i64 (IntKind.i64.wrap (t_14 + 1)))]) (.cons rfl (.cons rfl (.cons rfl (.cons rfl (.nil _))))) hK
theorem digest_ReadHex_L1_ok {w0 : World} (hg : Gs w0) : ∀ (n : Nat), ∀ {r : Int × Int} {s_0 : Str} {n_4 : Int} {t_13 : Int} {t_14 : Int}, digest_ReadHex_L1 n s_0 n_4 t_13 t_14 = some r → ∀ {w : World}, (Below w0.heap.size w0 w) → KE Tryz.prog 97 (Ret (fun v w' => v = .tuple #[.int .u64 r.1, .int .i64 r.2] ∧ Below w0.heap.size w0 w')) 38 [.code (sub (bodyOf Tryz.f97) [2, 2, 2, 1, 2, 2, 1]), .inLoop (sub (bodyOf Tryz.f97) [2, 2, 2, 1, 2, 2, 1]), .inBlock 0, .code (sub (bodyOf Tryz.f97) [2, 2, 2, 2])] [(0, str s_0), (4, .int .u64 n_4), (13, .int .i64 t_13), (14, .int .i64 t_14)] w := by
 intro n
 induction n with
 | zero => intro r s_0 n_4 t_13 t_14 hS; cases hS
 | succ n ih =>
  have hr0 : ∀ {r : Int × Int} {s_0 : Str} {n_4 : Int} {t_13 : Int} {t_14 : Int}, digest_ReadHex_L1 n s_0 n_4 t_13 t_14 = some r → ∀ {w : World}, (Below w0.heap.size w0 w) → KE Tryz.prog 97 (Ret (fun v w' => v = .tuple #[.int .u64 r.1, .int .i64 r.2] ∧ Below w0.heap.size w0 w')) 38 [.inLoop (sub (bodyOf Tryz.f97) [2, 2, 2, 1, 2, 2, 1]), .inBlock 0, .code (sub (bodyOf Tryz.f97) [2, 2, 2, 2])] [(0, str s_0), (4, .int .u64 n_4), (13, .int .i64 t_13), (14, .int .i64 t_14)] w := fun {r} {s_0} {n_4} {t_13} {t_14} hS {w} hb => ke_inLoop (ih hS hb)
  clear ih
  intro r s_0 n_4 t_13 t_14 hS w hb
  unfold digest_ReadHex_L1 at hS
  refine ke_seq ?_
  refine ke_region ?_
  refine sr_ev (v := .bool (decide (t_14 < t_13))) (ev_lt rfl rfl) (by decide) ?_
  refine sr_end (l' := [(0, str s_0), (4, .int .u64 n_4), (13, .int .i64 t_13), (14, .int .i64 t_14), (15, .bool (decide (t_14 < t_13)))]) (.cons rfl (.cons rfl (.cons rfl (.cons rfl (.cons rfl (.nil _)))))) ?_
  refine ke_seq ?_
  refine ke_cond (t := decide (t_14 < t_13)) rfl (fun hc2 => ?_) (fun hc2 => ?_)
  ·replace hS := ite_true' hS hc2
   refine ke_skip ?_
   refine ke_seq ?_
   refine ke_block ?_
   refine ke_seq ?_
   refine ke_region ?_
   refine sr_ev (v := .int .i64 t_14) (ev_move rfl) (by decide) ?_
   refine sr_ev (v := .int .i64 t_14) (ev_assign rfl) (by decide) ?_
   refine sr_end (l' := [(0, str s_0), (4, .int .u64 n_4), (5, .int .i64 t_14), (13, .int .i64 t_13), (14, .int .i64 t_14)]) (.cons rfl (.cons rfl (.cons rfl (.cons rfl (.cons rfl (.nil _)))))) ?_
   refine ke_seq ?_
   refine ke_region ?_
   refine sr_ev (v := .int .i64 (-1)) (ev_assign rfl) (by decide) ?_
   refine sr_end (l' := [(0, str s_0), (4, .int .u64 n_4), (5, .int .i64 t_14), (6, .int .i64 (-1)), (13, .int .i64 t_13), (14, .int .i64 t_14)]) (.cons rfl (.cons rfl (.cons rfl (.cons rfl (.cons rfl (.cons rfl (.nil _))))))) ?_
   refine ke_seq ?_
   refine ke_seq ?_
   refine ke_region ?_
   refine sr_ev (v := arrV .u8 tab_digest_digits) (ev_globload Tryz.isAgg152 Tryz.sizeOf152 (fun i x hx => (hg.below hb).tab0 hx)) (by decide) ?_
   refine sr_ev (v := .int .i64 0) (ev_move rfl) (by decide) ?_
   refine sr_end (l' := [(0, str s_0), (4, .int .u64 n_4), (5, .int .i64 t_14), (6, .int .i64 (-1)), (13, .int .i64 t_13), (14, .int .i64 t_14), (17, arrV .u8 tab_digest_digits), (18, .int .i64 0)]) (.cons rfl (.cons rfl (.cons rfl (.cons rfl (.cons rfl (.cons rfl (.cons rfl (.cons rfl (.nil _))))))))) ?_
   refine ke_block ?_
   have hK := digest_ReadHex_L2_ok hg _ hr0 _ hS hb
   exact ke_weaken (l' := [(0, str s_0), (4, .int .u64 n_4), (5, .int .i64 t_14), (6, .int .i64 (-1)), (13, .int .i64 t_13), (14, .int .i64 t_14), (17, arrV .u8 tab_digest_digits), (18, .int .i64 0)]) (.cons rfl (.cons rfl (.cons rfl (.cons rfl (.cons rfl (.cons rfl (.cons rfl (.cons rfl (.nil _))))))))) (ke_loop hK)
  ·replace hS := ite_false' hS hc2
   refine ke_exit (k' := _) rfl ?_
   refine ke_seq ?_
   refine ke_region ?_
   refine sr_ev (v := .int .u64 n_4) (ev_move rfl) (by decide) ?_
   refine sr_ev (v := .int .u64 n_4) (ev_assign rfl) (by decide) ?_
   refine sr_ev (v := .int .i64 0) (ev_assign rfl) (by decide) ?_
   refine sr_end (l' := [(2, .int .u64 n_4), (3, .int .i64 0)]) (.cons rfl (.cons rfl (.nil _))) ?_
   cases hS
   exact ke_ret2 Tryz.func97 rfl rfl rfl ⟨_, rfl, rfl, hb⟩
theorem digest_ReadHex_ok (w0 : World) (hg : Gs w0) {s_0 : Str} {r : Int × Int} (hS : digest_ReadHex s_0 = some r) :
  Calls Tryz.prog 97 #[str s_0] w0 (Ret (fun v w' => v = .tuple #[.int .u64 r.1, .int .i64 r.2] ∧ Below w0.heap.size w0 w')) := by
 unfold digest_ReadHex at hS
 have hb := Below.refl w0.heap.size w0
 refine calls_of_ke Tryz.func97 rfl (n := 38) rfl rfl (l := [(0, str s_0)]) rfl ?_
 refine ke_seq ?_
 refine ke_region ?_
 refine sr_ev (v := .int .u64 0) (ev_assign rfl) (by decide) ?_
 refine sr_ev (v := .int .i64 0) (ev_assign rfl) (by decide) ?_
 refine sr_end (l' := [(0, str s_0)]) (.cons rfl (.nil _)) ?_
 refine ke_seq ?_
 refine ke_seq ?_
 refine ke_region ?_
 refine sr_ev (v := str s_0) (ev_move rfl) (by decide) ?_
 refine sr_ev (v := .int .i64 (s_0.length : Int)) (ev_slen Tryz.underlying9 rfl) (by decide) ?_
 refine sr_ev (v := .bool ((s_0.length : Int) != 16)) (ev_ne rfl rfl) (by decide) ?_
 refine sr_end (l' := [(0, str s_0), (11, .bool ((s_0.length : Int) != 16))]) (.cons rfl (.cons rfl (.nil _))) ?_
 refine ke_cond (t := (s_0.length : Int) != 16) rfl (fun hc1 => ?_) (fun hc1 => ?_)
 ·replace hS := ite_true' hS hc1
  refine ke_seq ?_
  refine ke_region ?_
  refine sr_ev (v := .int .u64 0) (ev_assign rfl) (by decide) ?_
  refine sr_ev (v := .int .i64 4) (ev_assign rfl) (by decide) ?_
  refine sr_end (l' := [(2, .int .u64 0), (3, .int .i64 4)]) (.cons rfl (.cons rfl (.nil _))) ?_
  cases hS
  exact ke_ret2 Tryz.func97 rfl rfl rfl ⟨_, rfl, rfl, hb⟩
 ·replace hS := ite_false' hS hc1
  refine ke_skip ?_
  refine ke_seq ?_
  refine ke_region ?_
  refine sr_ev (v := .int .u64 0) (ev_assign rfl) (by decide) ?_
  refine sr_end (l' := [(0, str s_0), (4, .int .u64 0)]) (.cons rfl (.cons rfl (.nil _))) ?_
  refine ke_seq ?_
  refine ke_seq ?_
  refine ke_region ?_
  refine sr_ev (v := str s_0) (ev_move rfl) (by decide) ?_
  refine sr_ev (v := .int .i64 (s_0.length : Int)) (ev_slen Tryz.underlying9 rfl) (by decide) ?_
  refine sr_ev (v := .int .i64 0) (ev_move rfl) (by decide) ?_
  refine sr_end (l' := [(0, str s_0), (4, .int .u64 0), (13, .int .i64 (s_0.length : Int)), (14, .int .i64 0)]) (.cons rfl (.cons rfl (.cons rfl (.cons rfl (.nil _))))) ?_
  refine ke_block ?_
  have hK := digest_ReadHex_L1_ok hg _ hS hb
  exact ke_weaken (l' := [(0, str s_0), (4, .int .u64 0), (13, .int .i64 (s_0.length : Int)), (14, .int .i64 0)]) (.cons rfl (.cons rfl (.cons rfl (.cons rfl (.nil _))))) (ke_loop hK)
theorem secret_Valid_ok (w0 : World) (hg : Gs w0) {v_0 : api_Verifier} {r : Bool} (hS : secret_Valid v_0 = some r) :
  Calls Tryz.prog 56 #[.agg #[str v_0.Salt, .int .i64 v_0.Rounds, str v_0.Hash]] w0 (Ret (fun v w' => v = .bool r ∧ Below w0.heap.size w0 w')) := by
 unfold secret_Valid at hS
 have hb := Below.refl w0.heap.size w0
 obtain ⟨A0, hA0, hAe⟩ : ∃ A0 : Nat → Prop, (∀ b, A0 b → b < w0.heap.size) ∧ A0 = fun _ => False := ⟨_, fun _ h => h.elim, rfl⟩
 clear hAe
 have hA := hA0
 have hi : ∀ b, A0 b → A0 b := fun _ h => h
 have hH := Hp.nil A0 w0.heap.size w0
 refine calls_of_ke Tryz.func56 rfl (n := 28) rfl rfl (l := [(0, .agg #[str v_0.Salt, .int .i64 v_0.Rounds, str v_0.Hash])]) rfl ?_
 refine ke_seq ?_
 refine ke_region ?_
 refine sr_box hH hb.size hA rfl (by decide) ?_
 intro g1 A2 w3 hH1 hst4 hbw5 hinc6 hA1 hge7
 replace hb := hb.trans (hbw5.mono hb.size)
 replace hi := fun b hb => hinc6 b (hi b hb)
 replace hH : Hp A2 w0.heap.size w3 [(g1, .cells #[str v_0.Salt, .int .i64 v_0.Rounds, str v_0.Hash] 45 (0, 0))] := hH1
 replace hA := hA1
 clear hH1 hA1
 refine sr_ev (v := .bool false) (ev_assign rfl) (by decide) ?_
 refine sr_end (l' := [(1, .pointer (some ⟨g1, 0, none⟩))]) (.cons rfl (.nil _)) ?_
 refine ke_seq ?_
 refine ke_region ?_
 refine sr_ev (v := .pointer (some ⟨g1, 2, none⟩)) (ev_fieldAddr (i := 2) Tryz.underlying45 rfl Tryz.info9 rfl rfl) (by decide) ?_
 refine sr_ev (v := str v_0.Hash) (ev_load Tryz.isAgg9 rfl (hH.cell (i := 0) rfl rfl)) (by decide) ?_
 obtain ⟨y8, hy9, hS⟩ := bind_some' hS
 refine sr_call (vs := [str v_0.Hash]) rfl Tryz.call97 rfl (digest_ReadHex_ok _ (hg.below hb) hy9) (by decide) ?_
 rintro _ w10 ⟨rfl, hbw11⟩
 replace hb := hb.trans (hbw11.mono hb.size)
 replace hA := lt_mono hA hbw11.size
 replace hH := hH.below hbw11
 refine sr_ev (v := .tuple #[.int .u64 y8.1, .int .i64 y8.2]) (ev_move rfl) (by decide) ?_
 refine sr_ev (v := .int .u64 y8.1) (ev_extract rfl rfl) (by decide) ?_
 refine sr_ev (v := .int .i64 y8.2) (ev_extract rfl rfl) (by decide) ?_
 refine sr_ev (v := .int .u64 y8.1) (ev_assign rfl) (by decide) ?_
 refine sr_ev (v := .int .i64 y8.2) (ev_assign rfl) (by decide) ?_
 refine sr_end (l' := [(1, .pointer (some ⟨g1, 0, none⟩)), (4, .int .i64 y8.2)]) (.cons rfl (.cons rfl (.nil _))) ?_
 refine ke_seq ?_
 refine ke_region ?_
 refine sr_ev (v := .pointer (some ⟨g1, 0, none⟩)) (ev_fieldAddr (i := 0) Tryz.underlying45 rfl Tryz.info9 rfl rfl) (by decide) ?_
 refine sr_ev (v := str v_0.Salt) (ev_load Tryz.isAgg9 rfl (hH.cell (i := 0) rfl rfl)) (by decide) ?_
 obtain ⟨y12, hy13, hS⟩ := bind_some' hS
 refine sr_call (vs := [str v_0.Salt]) rfl Tryz.call43 rfl (fold_Word_ok _ (hg.below hb) hy13) (by decide) ?_
 rintro _ w14 ⟨rfl, hbw15⟩
 replace hb := hb.trans (hbw15.mono hb.size)
 replace hA := lt_mono hA hbw15.size
 replace hH := hH.below hbw15
 refine sr_ev (v := .bool y12) (ev_move rfl) (by decide) ?_
 refine sr_join (m := 4) (C := fun (x : Bool) w1 => x = (y12 && (decide (v_0.Rounds ≥ 1))) ∧ w14 = w1) (l' := fun x => [(1, .pointer (some ⟨g1, 0, none⟩)), (4, .int .i64 y8.2), (18, .bool x)]) ?_ ?_
 ·rintro _ _ ⟨rfl, rfl⟩
  refine sr_ev (v := .bool (y12 && (decide (v_0.Rounds ≥ 1)))) (ev_move rfl) (by decide) ?_
  refine sr_join (m := 4) (C := fun (x : Bool) w1 => x = ((y12 && (decide (v_0.Rounds ≥ 1))) && (decide (v_0.Rounds ≤ 64))) ∧ w14 = w1) (l' := fun x => [(4, .int .i64 y8.2), (23, .bool x)]) ?_ ?_
  ·rintro _ _ ⟨rfl, rfl⟩
   refine sr_ev (v := .bool ((y12 && (decide (v_0.Rounds ≥ 1))) && (decide (v_0.Rounds ≤ 64)))) (ev_move rfl) (by decide) ?_
   refine sr_join (m := 3) (C := fun (x : Bool) w1 => x = (((y12 && (decide (v_0.Rounds ≥ 1))) && (decide (v_0.Rounds ≤ 64))) && (y8.2 == 0)) ∧ w14 = w1) (l' := fun x => [(27, .bool x)]) ?_ ?_
   ·rintro _ _ ⟨rfl, rfl⟩
    refine sr_ev (v := .bool (((y12 && (decide (v_0.Rounds ≥ 1))) && (decide (v_0.Rounds ≤ 64))) && (y8.2 == 0))) (ev_assign rfl) (by decide) ?_
    refine sr_end (l' := [(2, .bool (((y12 && (decide (v_0.Rounds ≥ 1))) && (decide (v_0.Rounds ≤ 64))) && (y8.2 == 0)))]) (.cons rfl (.nil _)) ?_
    cases hS
    exact ke_ret1 Tryz.func56 rfl rfl ⟨_, rfl, rfl, hb⟩
   ·intro K31
    rcases Bool.eq_false_or_eq_true ((y12 && (decide (v_0.Rounds ≥ 1))) && (decide (v_0.Rounds ≤ 64))) with hg30 | hg30
    ·refine sr_evg (b := true) (e := 24) rfl rfl hg30 (v := .int .i64 y8.2) (ev_move rfl) (by decide) ?_
     refine sr_evg (b := true) (e := 24) rfl rfl hg30 (v := .bool (y8.2 == 0)) (ev_eq rfl rfl) (by decide) ?_
     refine sr_ev (v := .bool (y8.2 == 0)) (ev_pick_t rfl hg30 rfl) (by decide) ?_
     exact sr_weaken (l' := [(27, .bool (y8.2 == 0))]) (.cons rfl (.nil _)) (K31 (y8.2 == 0) _ ⟨by rw [hg30]; rfl, rfl⟩)
    ·refine sr_pass (e := 24) rfl rfl (by rw [hg30]; rfl) (by decide) ?_
     refine sr_pass (e := 24) rfl rfl (by rw [hg30]; rfl) (by decide) ?_
     refine sr_ev (v := .bool false) (ev_pick_f rfl hg30 rfl) (by decide) ?_
     exact sr_weaken (l' := [(27, .bool false)]) (.cons rfl (.nil _)) (K31 false _ ⟨by rw [hg30]; rfl, rfl⟩)
  ·intro K24
   rcases Bool.eq_false_or_eq_true (y12 && (decide (v_0.Rounds ≥ 1))) with hg23 | hg23
   ·refine sr_evg (b := true) (e := 19) rfl rfl hg23 (v := .pointer (some ⟨g1, 1, none⟩)) (ev_fieldAddr (i := 1) Tryz.underlying45 rfl Tryz.info3 rfl rfl) (by decide) ?_
    refine sr_evg (b := true) (e := 19) rfl rfl hg23 (v := .int .i64 v_0.Rounds) (ev_load Tryz.isAgg3 rfl (hH.cell (i := 0) rfl rfl)) (by decide) ?_
    refine sr_evg (b := true) (e := 19) rfl rfl hg23 (v := .bool (decide (v_0.Rounds ≤ 64))) (ev_le rfl rfl) (by decide) ?_
    refine sr_ev (v := .bool (decide (v_0.Rounds ≤ 64))) (ev_pick_t rfl hg23 rfl) (by decide) ?_
    exact sr_weaken (l' := [(4, .int .i64 y8.2), (23, .bool (decide (v_0.Rounds ≤ 64)))]) (.cons rfl (.cons rfl (.nil _))) (K24 (decide (v_0.Rounds ≤ 64)) _ ⟨by rw [hg23]; rfl, rfl⟩)
   ·refine sr_pass (e := 19) rfl rfl (by rw [hg23]; rfl) (by decide) ?_
    refine sr_pass (e := 19) rfl rfl (by rw [hg23]; rfl) (by decide) ?_
    refine sr_pass (e := 19) rfl rfl (by rw [hg23]; rfl) (by decide) ?_
    refine sr_ev (v := .bool false) (ev_pick_f rfl hg23 rfl) (by decide) ?_
    exact sr_weaken (l' := [(4, .int .i64 y8.2), (23, .bool false)]) (.cons rfl (.cons rfl (.nil _))) (K24 false _ ⟨by rw [hg23]; rfl, rfl⟩)
 ·intro K17
  rcases Bool.eq_false_or_eq_true y12 with hg16 | hg16
  ·refine sr_evg (b := true) (e := 14) rfl rfl hg16 (v := .pointer (some ⟨g1, 1, none⟩)) (ev_fieldAddr (i := 1) Tryz.underlying45 rfl Tryz.info3 rfl rfl) (by decide) ?_
   refine sr_evg (b := true) (e := 14) rfl rfl hg16 (v := .int .i64 v_0.Rounds) (ev_load Tryz.isAgg3 rfl (hH.cell (i := 0) rfl rfl)) (by decide) ?_
   refine sr_evg (b := true) (e := 14) rfl rfl hg16 (v := .bool (decide (v_0.Rounds ≥ 1))) (ev_ge rfl rfl) (by decide) ?_
   refine sr_ev (v := .bool (decide (v_0.Rounds ≥ 1))) (ev_pick_t rfl hg16 rfl) (by decide) ?_
   exact sr_weaken (l' := [(1, .pointer (some ⟨g1, 0, none⟩)), (4, .int .i64 y8.2), (18, .bool (decide (v_0.Rounds ≥ 1)))]) (.cons rfl (.cons rfl (.cons rfl (.nil _)))) (K17 (decide (v_0.Rounds ≥ 1)) _ ⟨by rw [hg16]; rfl, rfl⟩)
  ·refine sr_pass (e := 14) rfl rfl (by rw [hg16]; rfl) (by decide) ?_
   refine sr_pass (e := 14) rfl rfl (by rw [hg16]; rfl) (by decide) ?_
   refine sr_pass (e := 14) rfl rfl (by rw [hg16]; rfl) (by decide) ?_
   refine sr_ev (v := .bool false) (ev_pick_f rfl hg16 rfl) (by decide) ?_
   exact sr_weaken (l' := [(1, .pointer (some ⟨g1, 0, none⟩)), (4, .int .i64 y8.2), (18, .bool false)]) (.cons rfl (.cons rfl (.cons rfl (.nil _)))) (K17 false _ ⟨by rw [hg16]; rfl, rfl⟩)
theorem fold_Trim_ok (w0 : World) (hg : Gs w0) {s_0 : Str} {r : Str} (hS : fold_Trim s_0 = some r) :
  Calls Tryz.prog 80 #[str s_0] w0 (Ret (fun v w' => v = str r ∧ Below w0.heap.size w0 w')) := by
 unfold fold_Trim at hS
 have hb := Below.refl w0.heap.size w0
 refine calls_of_ke Tryz.func80 rfl (n := 5) rfl rfl (l := [(0, str s_0)]) rfl ?_
 refine ke_seq ?_
 refine ke_region ?_
 refine sr_ev (v := str ([])) (ev_assign rfl) (by decide) ?_
 refine sr_end (l' := [(0, str s_0)]) (.cons rfl (.nil _)) ?_
 refine ke_seq ?_
 refine ke_region ?_
 refine sr_ev (v := str s_0) (ev_move rfl) (by decide) ?_
 obtain ⟨y1, hy2, hS⟩ := bind_some' hS
 refine sr_call (vs := [str s_0, str ([32])]) rfl Tryz.call113 rfl (lib_Trim_ok _ (hg.below hb) hy2) (by decide) ?_
 rintro _ w3 ⟨rfl, hbw4⟩
 replace hb := hb.trans (hbw4.mono hb.size)
 refine sr_ev (v := str y1) (ev_assign rfl) (by decide) ?_
 refine sr_end (l' := [(2, str y1)]) (.cons rfl (.nil _)) ?_
 cases hS
 exact ke_ret1 Tryz.func80 rfl rfl ⟨_, rfl, rfl, hb⟩
theorem fold_Clean_L1_ok {w0 : World} (hg : Gs w0) {A0 : Nat → Prop} (hA0 : ∀ b, A0 b → b < w0.heap.size) : ∀ (n : Nat), ∀ {r : Bool} {s_0 : Str} {t_6s : Str} {t_6p : Nat} {gt_6 : Nat}, fold_Clean_L1 n s_0 t_6s t_6p = some r → ∀ {w : World} {A : Nat → Prop}, (Below w0.heap.size w0 w) → (∀ b, A b → b < w.heap.size) → (∀ b, A0 b → A b) → (Hp A w0.heap.size w [(gt_6, .stringIter ⟨t_6s.toArray⟩ t_6p)]) → KE Tryz.prog 40 (Ret (fun v w' => v = .bool r ∧ Below w0.heap.size w0 w')) 29 [.code (sub (bodyOf Tryz.f40) [2, 1, 2, 2, 1]), .inLoop (sub (bodyOf Tryz.f40) [2, 1, 2, 2, 1]), .inBlock 0, .code (sub (bodyOf Tryz.f40) [2, 2])] [(0, str s_0), (6, .pointer (some ⟨gt_6, 0, none⟩))] w := by
 intro n
 induction n with
 | zero => intro r s_0 t_6s t_6p gt_6 hS; cases hS
 | succ n ih =>
  have hr0 : ∀ {r : Bool} {s_0 : Str} {t_6s : Str} {t_6p : Nat} {gt_6 : Nat}, fold_Clean_L1 n s_0 t_6s t_6p = some r → ∀ {w : World} {A : Nat → Prop}, (Below w0.heap.size w0 w) → (∀ b, A b → b < w.heap.size) → (∀ b, A0 b → A b) → (Hp A w0.heap.size w [(gt_6, .stringIter ⟨t_6s.toArray⟩ t_6p)]) → KE Tryz.prog 40 (Ret (fun v w' => v = .bool r ∧ Below w0.heap.size w0 w')) 29 [.inLoop (sub (bodyOf Tryz.f40) [2, 1, 2, 2, 1]), .inBlock 0, .code (sub (bodyOf Tryz.f40) [2, 2])] [(0, str s_0), (6, .pointer (some ⟨gt_6, 0, none⟩))] w := fun {r} {s_0} {t_6s} {t_6p} {gt_6} hS {w} {A} hb hA hi hH => ke_inLoop (ih hS hb hA hi hH)
  clear ih
  intro r s_0 t_6s t_6p gt_6 hS w A hb hA hi hH
  unfold fold_Clean_L1 at hS
  refine ke_seq ?_
  refine ke_region ?_
  refine sr_next_s (j := 0) hH rfl rfl (by decide) (fun hc8 w9 hH1 hwr10 => ?_) (fun hc8 => ?_)
  ·replace hS := ite_true' hS hc8
   replace hb := hwr10.below hb (hH.base _ (List.mem_of_getElem? (i := 0) rfl))
   replace hA := hwr10.lt hA
   replace hH : Hp A w0.heap.size w9 [(gt_6, .stringIter ⟨t_6s.toArray⟩ (t_6p + (sdec t_6s t_6p).2))] := hH1
   clear hH1
   refine sr_ev (v := .bool true) (ev_extract rfl rfl) (by decide) ?_
   refine sr_end (l' := [(0, str s_0), (6, .pointer (some ⟨gt_6, 0, none⟩)), (7, .tuple #[.bool true, .int .i64 ((t_6p : Nat) : Int), .int .i32 ((sdec t_6s t_6p).1)]), (8, .bool true)]) (.cons rfl (.cons rfl (.cons rfl (.cons rfl (.nil _))))) ?_
   refine ke_seq ?_
   refine ke_cond (t := true) rfl (fun _ => ?_) (fun h => by cases h)
   refine ke_skip ?_
   refine ke_block ?_
   refine ke_seq ?_
   refine ke_region ?_
   refine sr_ev (v := .int .i32 ((sdec t_6s t_6p).1)) (ev_extract rfl rfl) (by decide) ?_
   refine sr_ev (v := .int .i32 ((sdec t_6s t_6p).1)) (ev_assign rfl) (by decide) ?_
   refine sr_end (l' := [(0, str s_0), (4, .int .i32 ((sdec t_6s t_6p).1)), (6, .pointer (some ⟨gt_6, 0, none⟩))]) (.cons rfl (.cons rfl (.cons rfl (.nil _)))) ?_
   refine ke_seq ?_
   refine ke_region ?_
   refine sr_ev (v := .int .i32 ((sdec t_6s t_6p).1)) (ev_move rfl) (by decide) ?_
   refine sr_ev (v := .bool (decide (((sdec t_6s t_6p).1) < 32))) (ev_lt rfl rfl) (by decide) ?_
   refine sr_ev (v := .bool (decide (((sdec t_6s t_6p).1) < 32))) (ev_move rfl) (by decide) ?_
   refine sr_join (m := 3) (C := fun (x : Bool) w1 => x = ((decide (((sdec t_6s t_6p).1) < 32)) || (decide (((sdec t_6s t_6p).1) > 126))) ∧ w9 = w1) (l' := fun x => [(0, str s_0), (6, .pointer (some ⟨gt_6, 0, none⟩)), (15, .bool x)]) ?_ ?_
   ·rintro _ _ ⟨rfl, rfl⟩
    refine sr_end (l' := [(0, str s_0), (6, .pointer (some ⟨gt_6, 0, none⟩)), (15, .bool ((decide (((sdec t_6s t_6p).1) < 32)) || (decide (((sdec t_6s t_6p).1) > 126))))]) (.cons rfl (.cons rfl (.cons rfl (.nil _)))) ?_
    refine ke_cond (t := (decide (((sdec t_6s t_6p).1) < 32)) || (decide (((sdec t_6s t_6p).1) > 126))) rfl (fun hc18 => ?_) (fun hc18 => ?_)
    ·replace hS := ite_true' hS hc18
     refine ke_seq ?_
     refine ke_region ?_
     refine sr_ev (v := .bool false) (ev_assign rfl) (by decide) ?_
     refine sr_end (l' := [(2, .bool false)]) (.cons rfl (.nil _)) ?_
     cases hS
     exact ke_ret1 Tryz.func40 rfl rfl ⟨_, rfl, rfl, hb⟩
    ·replace hS := ite_false' hS hc18
     refine ke_skip ?_
     refine ke_inBlock ?_
     have hK := hr0 hS hb hA hi hH
     exact ke_weaken (l' := [(0, str s_0), (6, .pointer (some ⟨gt_6, 0, none⟩))]) (.cons rfl (.cons rfl (.nil _))) hK
   ·intro K12
    rcases Bool.eq_false_or_eq_true (decide (((sdec t_6s t_6p).1) < 32)) with hg11 | hg11
    ·refine sr_pass (e := 12) rfl rfl (by rw [hg11]; rfl) (by decide) ?_
     refine sr_pass (e := 12) rfl rfl (by rw [hg11]; rfl) (by decide) ?_
     refine sr_ev (v := .bool true) (ev_pick_t rfl hg11 rfl) (by decide) ?_
     exact sr_weaken (l' := [(0, str s_0), (6, .pointer (some ⟨gt_6, 0, none⟩)), (15, .bool true)]) (.cons rfl (.cons rfl (.cons rfl (.nil _)))) (K12 true _ ⟨by rw [hg11]; rfl, rfl⟩)
    ·refine sr_evg (b := false) (e := 12) rfl rfl hg11 (v := .int .i32 ((sdec t_6s t_6p).1)) (ev_move rfl) (by decide) ?_
     refine sr_evg (b := false) (e := 12) rfl rfl hg11 (v := .bool (decide (((sdec t_6s t_6p).1) > 126))) (ev_gt rfl rfl) (by decide) ?_
     refine sr_ev (v := .bool (decide (((sdec t_6s t_6p).1) > 126))) (ev_pick_f rfl hg11 rfl) (by decide) ?_
     exact sr_weaken (l' := [(0, str s_0), (6, .pointer (some ⟨gt_6, 0, none⟩)), (15, .bool (decide (((sdec t_6s t_6p).1) > 126)))]) (.cons rfl (.cons rfl (.cons rfl (.nil _)))) (K12 (decide (((sdec t_6s t_6p).1) > 126)) _ ⟨by rw [hg11]; rfl, rfl⟩)
  ·replace hS := ite_false' hS hc8
   refine sr_ev (v := .bool false) (ev_extract rfl rfl) (by decide) ?_
   refine sr_end (l' := [(0, str s_0), (6, .pointer (some ⟨gt_6, 0, none⟩)), (7, .tuple #[.bool false]), (8, .bool false)]) (.cons rfl (.cons rfl (.cons rfl (.cons rfl (.nil _))))) ?_
   refine ke_seq ?_
   refine ke_cond (t := false) rfl (fun h => by cases h) (fun _ => ?_)
   refine ke_exit (k' := _) rfl ?_
   refine ke_seq ?_
   refine ke_region ?_
   refine sr_ev (v := str s_0) (ev_move rfl) (by decide) ?_
   refine sr_ev (v := .bool (!(s_0 == ([])))) (ev_sne rfl rfl) (by decide) ?_
   refine sr_ev (v := .bool (!(s_0 == ([])))) (ev_move rfl) (by decide) ?_
   refine sr_join (m := 4) (C := fun (x : Bool) w1 => x = ((!(s_0 == ([]))) && (decide ((s_0.length : Int) ≤ 256))) ∧ w = w1) (l' := fun x => [(0, str s_0), (22, .bool x)]) ?_ ?_
   ·rintro _ _ ⟨rfl, rfl⟩
    refine sr_ev (v := .bool ((!(s_0 == ([]))) && (decide ((s_0.length : Int) ≤ 256)))) (ev_move rfl) (by decide) ?_
    obtain ⟨z28, hz30, hS⟩ := bind_some' hS
    refine sr_join (m := 5) (C := fun (x : Bool) w1 => z28 = x ∧ Below w.heap.size w w1) (l' := fun x => [(28, .bool x)]) ?_ ?_
    ·rintro _ w31 ⟨rfl, hbw32⟩
     replace hb := hb.trans (hbw32.mono hb.size)
     replace hA := lt_mono hA hbw32.size
     replace hH := hH.below hbw32
     refine sr_ev (v := .bool z28) (ev_assign rfl) (by decide) ?_
     refine sr_end (l' := [(2, .bool z28)]) (.cons rfl (.nil _)) ?_
     cases hS
     exact ke_ret1 Tryz.func40 rfl rfl ⟨_, rfl, rfl, hb⟩
    ·intro K27
     clear hS
     have hj29 := Below.refl w.heap.size w
     rcases Bool.eq_false_or_eq_true ((!(s_0 == ([]))) && (decide ((s_0.length : Int) ≤ 256))) with hg26 | hg26
     ·have hS := ite_true' hz30 hg26
      refine sr_evg (b := true) (e := 23) rfl rfl hg26 (v := str s_0) (ev_move rfl) (by decide) ?_
      obtain ⟨y33, hy34, hS⟩ := bind_some' hS
      refine sr_callg (b := true) (e := 23) rfl rfl hg26 (vs := [str s_0]) rfl Tryz.call80 rfl (fold_Trim_ok _ (hg.below hb) hy34) (by decide) ?_
      rintro _ w35 ⟨rfl, hbw36⟩
      replace hb := hb.trans (hbw36.mono hb.size)
      replace hj29 := hj29.trans (hbw36.mono hj29.size)
      replace hA := lt_mono hA hbw36.size
      replace hH := hH.below hbw36
      refine sr_evg (b := true) (e := 23) rfl rfl hg26 (v := str s_0) (ev_move rfl) (by decide) ?_
      refine sr_evg (b := true) (e := 23) rfl rfl hg26 (v := .bool (y33 == s_0)) (ev_seq rfl rfl) (by decide) ?_
      refine sr_ev (v := .bool (y33 == s_0)) (ev_pick_t rfl hg26 rfl) (by decide) ?_
      exact sr_weaken (l' := [(28, .bool (y33 == s_0))]) (.cons rfl (.nil _)) (K27 (y33 == s_0) _ ⟨(Option.some.inj hS).symm, hj29⟩)
     ·have hS := ite_false' hz30 hg26
      refine sr_pass (e := 23) rfl rfl (by rw [hg26]; rfl) (by decide) ?_
      refine sr_pass (e := 23) rfl rfl (by rw [hg26]; rfl) (by decide) ?_
      refine sr_pass (e := 23) rfl rfl (by rw [hg26]; rfl) (by decide) ?_
      refine sr_pass (e := 23) rfl rfl (by rw [hg26]; rfl) (by decide) ?_
      refine sr_ev (v := .bool false) (ev_pick_f rfl hg26 rfl) (by decide) ?_
      exact sr_weaken (l' := [(28, .bool false)]) (.cons rfl (.nil _)) (K27 false _ ⟨(Option.some.inj hS).symm, hj29⟩)
   ·intro K20
    rcases Bool.eq_false_or_eq_true (!(s_0 == ([]))) with hg19 | hg19
    ·refine sr_evg (b := true) (e := 18) rfl rfl hg19 (v := str s_0) (ev_move rfl) (by decide) ?_
     refine sr_evg (b := true) (e := 18) rfl rfl hg19 (v := .int .i64 (s_0.length : Int)) (ev_slen Tryz.underlying9 rfl) (by decide) ?_
     refine sr_evg (b := true) (e := 18) rfl rfl hg19 (v := .bool (decide ((s_0.length : Int) ≤ 256))) (ev_le rfl rfl) (by decide) ?_
     refine sr_ev (v := .bool (decide ((s_0.length : Int) ≤ 256))) (ev_pick_t rfl hg19 rfl) (by decide) ?_
     exact sr_weaken (l' := [(0, str s_0), (22, .bool (decide ((s_0.length : Int) ≤ 256)))]) (.cons rfl (.cons rfl (.nil _))) (K20 (decide ((s_0.length : Int) ≤ 256)) _ ⟨by rw [hg19]; rfl, rfl⟩)
    ·refine sr_pass (e := 18) rfl rfl (by rw [hg19]; rfl) (by decide) ?_
     refine sr_pass (e := 18) rfl rfl (by rw [hg19]; rfl) (by decide) ?_
     refine sr_pass (e := 18) rfl rfl (by rw [hg19]; rfl) (by decide) ?_
     refine sr_ev (v := .bool false) (ev_pick_f rfl hg19 rfl) (by decide) ?_
     exact sr_weaken (l' := [(0, str s_0), (22, .bool false)]) (.cons rfl (.cons rfl (.nil _))) (K20 false _ ⟨by rw [hg19]; rfl, rfl⟩)
theorem fold_Clean_ok (w0 : World) (hg : Gs w0) {s_0 : Str} {r : Bool} (hS : fold_Clean s_0 = some r) :
  Calls Tryz.prog 40 #[str s_0] w0 (Ret (fun v w' => v = .bool r ∧ Below w0.heap.size w0 w')) := by
 unfold fold_Clean at hS
 have hb := Below.refl w0.heap.size w0
 obtain ⟨A0, hA0, hAe⟩ : ∃ A0 : Nat → Prop, (∀ b, A0 b → b < w0.heap.size) ∧ A0 = fun _ => False := ⟨_, fun _ h => h.elim, rfl⟩
 clear hAe
 have hA := hA0
 have hi : ∀ b, A0 b → A0 b := fun _ h => h
 have hH := Hp.nil A0 w0.heap.size w0
 refine calls_of_ke Tryz.func40 rfl (n := 29) rfl rfl (l := [(0, str s_0)]) rfl ?_
 refine ke_seq ?_
 refine ke_region ?_
 refine sr_ev (v := .bool false) (ev_assign rfl) (by decide) ?_
 refine sr_end (l' := [(0, str s_0)]) (.cons rfl (.nil _)) ?_
 refine ke_seq ?_
 refine ke_seq ?_
 refine ke_region ?_
 refine sr_ev (v := str s_0) (ev_move rfl) (by decide) ?_
 refine sr_range_s hH hb.size hA Tryz.underlying9 rfl (by decide) ?_
 intro g1 A2 w3 hH1 hst4 hbw5 hinc6 hA1 hge7
 replace hb := hb.trans (hbw5.mono hb.size)
 replace hi := fun b hb => hinc6 b (hi b hb)
 replace hH : Hp A2 w0.heap.size w3 [(g1, .stringIter ⟨s_0.toArray⟩ 0)] := hH1
 replace hA := hA1
 clear hH1 hA1
 refine sr_end (l' := [(0, str s_0), (6, .pointer (some ⟨g1, 0, none⟩))]) (.cons rfl (.cons rfl (.nil _))) ?_
 refine ke_block ?_
 have hK := fold_Clean_L1_ok hg hA0 _ hS hb hA hi hH
 exact ke_weaken (l' := [(0, str s_0), (6, .pointer (some ⟨g1, 0, none⟩))]) (.cons rfl (.cons rfl (.nil _))) (ke_loop hK)
theorem login_Logins_Enroll_ok (w0 : World) (hg : Gs w0) {ρA : Tags} (hbd : ∀ b, ρA b ≠ 0 → b < w0.heap.size) (hz : Gz ρA) {o : Nat} (ho2 : 2 ≤ o) {l_0 : login_Logins} {user_1 : Str} {v_2 : api_Verifier} {code_3 : Str} {gl_0 : Nat} {r : Int × login_Logins} (ho0 : login_Logins.O (fun p => o + p) ρA w0 gl_0 l_0) (hS : login_Logins_Enroll l_0 user_1 v_2 code_3 = some r) :
  Calls Tryz.prog 25 #[.pointer (some ⟨gl_0, 0, none⟩), str user_1, .agg #[str v_2.Salt, .int .i64 v_2.Rounds, str v_2.Hash], str code_3] w0 (Ret (fun v w' => ∃ ρ', v = .int .i64 r.1 ∧ login_Logins.O (fun p => o + p) ρ' w' gl_0 r.2 ∧ Tr ρA w0 (rng o 7) ρ' w')) := by
 unfold login_Logins_Enroll at hS
 have hb := enter_fr (ρ := ρA) (w := w0) (n := 7) ho2 hbd
 have hz := hz.enter (n := 7) ho2
 obtain ⟨v1, v3, v5, v7, hB9, hP2, h4, h6, h8⟩ := ho0
 replace hB9 := hB9.mv (enter_mv (p := 0) (n := 7) (by decide) ho2)
 replace hP2 := PtrO.mv hP2 secret_Locks.objK (fun p hp => enter_mv (p := 1 + p) (n := 7) (by omega) ho2) (fun p hp => by omega)
 replace h4 := h4.mv (enter_mv (p := 4) (n := 7) (by decide) ho2)
 replace h6 := h6.mv (enter_mv (p := 5) (n := 7) (by decide) ho2)
 replace h8 := h8.mv (enter_mv (p := 6) (n := 7) (by decide) ho2)
 replace hB9 : Blk (enter ρA o 7) 100 w0 gl_0 (.cells #[v1, v3, v5, v7] 69 (0, 0)) := hB9
 replace hP2 : PtrO secret_Locks.O (fun q => 100 + (1 + q)) (enter ρA o 7) w0 v1 l_0.locks := hP2
 replace h4 : MapT str login_credentials.c true (enter ρA o 7) 104 w0 v3 l_0.users := h4
 replace h6 : MapT str (intC .i64) false (enter ρA o 7) 105 w0 v5 l_0.counters := h6
 replace h8 : MapT str login_attempt.c true (enter ρA o 7) 106 w0 v7 l_0.attempts := h8
 refine calls_of_ke Tryz.func25 rfl (n := 59) rfl rfl (l := [(0, .pointer (some ⟨gl_0, 0, none⟩)), (1, str user_1), (2, .agg #[str v_2.Salt, .int .i64 v_2.Rounds, str v_2.Hash]), (3, str code_3)]) rfl ?_
 refine ke_seq ?_
 refine ke_region ?_
 refine sr_boxT 8 (by decide) hb.bd rfl (by decide) ?_
 intro g10 ρ11 w12 hB14 htr13
 replace hB9 := hB9.mv (htr13.mv (i := 100) rfl)
 replace hP2 := PtrO.mv hP2 secret_Locks.objK (fun p hp => htr13.mv (i := 100 + (1 + p)) (by rcases p with _ | _ | _ | p <;> first | rfl | omega)) (fun p hp => by show 100 + (1 + p) ≠ 0; omega)
 replace h4 := h4.mv (htr13.mv (i := 104) rfl)
 replace h6 := h6.mv (htr13.mv (i := 105) rfl)
 replace h8 := h8.mv (htr13.mv (i := 106) rfl)
 replace hb := hb.trans htr13
 replace hB14 : Blk ρ11 8 w12 g10 (.cells #[str v_2.Salt, .int .i64 v_2.Rounds, str v_2.Hash] 45 (0, 0)) := hB14
 refine sr_ev (v := .int .i64 0) (ev_assign rfl) (by decide) ?_
 refine sr_end (l' := [(0, .pointer (some ⟨gl_0, 0, none⟩)), (1, str user_1), (3, str code_3), (6, .pointer (some ⟨g10, 0, none⟩))]) (.cons rfl (.cons rfl (.cons rfl (.cons rfl (.nil _))))) ?_
 refine ke_seq ?_
 refine ke_seq ?_
 refine ke_region ?_
 refine sr_ev (v := .pointer (some ⟨gl_0, 0, none⟩)) (ev_move rfl) (by decide) ?_
 obtain ⟨y15, hy16, hS⟩ := bind_some' hS
 refine sr_call (vs := [.pointer (some ⟨gl_0, 0, none⟩)]) rfl Tryz.call42 rfl (login_Logins_ready_ok _ (hg.fr hz hb) (ρA := ρ11) hb.bd (hz.fr hg hb) (τ0 := (fun p => 100 + p)) (fun p => Nat.le_add_right_of_le (by decide)) (⟨_, _, _, _, hB9, hP2, h4, h6, h8⟩ : login_Logins.O (fun p => 100 + p) ρ11 w12 gl_0 l_0) hy16) (by decide) ?_
 rintro _ w17 ⟨rfl, hbw18⟩
 have htr19 := Tr.of_below hbw18 hb.bd
 replace hB14 := hB14.mv (htr19.mv (i := 8) rfl)
 replace hB9 := hB9.mv (htr19.mv (i := 100) rfl)
 replace hP2 := PtrO.mv hP2 secret_Locks.objK (fun p hp => htr19.mv (i := 100 + (1 + p)) (by rcases p with _ | _ | _ | p <;> first | rfl | omega)) (fun p hp => by show 100 + (1 + p) ≠ 0; omega)
 replace h4 := h4.mv (htr19.mv (i := 104) rfl)
 replace h6 := h6.mv (htr19.mv (i := 105) rfl)
 replace h8 := h8.mv (htr19.mv (i := 106) rfl)
 replace hb := hb.trans htr19
 refine sr_ev (v := .bool (!y15)) (ev_not rfl) (by decide) ?_
 refine sr_end (l' := [(0, .pointer (some ⟨gl_0, 0, none⟩)), (1, str user_1), (3, str code_3), (6, .pointer (some ⟨g10, 0, none⟩)), (13, .bool (!y15))]) (.cons rfl (.cons rfl (.cons rfl (.cons rfl (.cons rfl (.nil _)))))) ?_
 refine ke_cond (t := !y15) rfl (fun hc20 => ?_) (fun hc20 => ?_)
 ·replace hS := ite_true' hS hc20
  refine ke_seq ?_
  refine ke_region ?_
  refine sr_ev (v := .int .i64 1) (ev_assign rfl) (by decide) ?_
  refine sr_end (l' := [(8, .int .i64 1)]) (.cons rfl (.nil _)) ?_
  cases hS
  exact ke_ret1 Tryz.func25 rfl rfl ⟨_, rfl, leave ρA w0 o 7 ρ11, rfl, ⟨_, _, _, _, (hB9.mv (leave_mv (p := 0) (by decide) hb)), (PtrO.mv hP2 secret_Locks.objK (fun p hp => leave_mv (p := 1 + p) (by omega) hb) (fun p hp => by show o + (1 + p) ≠ 0; omega)), (h4.mv (leave_mv (p := 4) (by decide) hb)), (h6.mv (leave_mv (p := 5) (by decide) hb)), (h8.mv (leave_mv (p := 6) (by decide) hb))⟩, (leave_tr ho2 hb)⟩
 ·replace hS := ite_false' hS hc20
  refine ke_skip ?_
  refine ke_seq ?_
  refine ke_region ?_
  refine sr_ev (v := .pointer (some ⟨gl_0, 0, none⟩)) (ev_move rfl) (by decide) ?_
  refine sr_ev (v := .pointer (some ⟨gl_0, 0, none⟩)) (ev_nilCheck rfl) (by decide) ?_
  refine sr_ev (v := .pointer (some ⟨gl_0, 1, none⟩)) (ev_fieldAddr (i := 1) Tryz.underlying69 rfl Tryz.info65 rfl rfl) (by decide) ?_
  refine sr_ev (v := v3) (ev_load Tryz.isAgg65 rfl (hB9.cell rfl)) (by decide) ?_
  refine sr_ev (v := str user_1) (ev_move rfl) (by decide) ?_
  obtain ⟨y25, hy26, hS⟩ := bind_some' hS
  replace hy26 := Option.some.inj hy26
  obtain ⟨cs21, hrd22, hl23, hl24⟩ := h4.look (zcs := [str ([]), .int .i64 0, str ([]), str ([])]) (z := (login_credentials.mk (api_Verifier.mk ([]) 0 ([])) ([]))) Tryz.keyB9 Tryz.underlying65 Tryz.zeroValue98 rfl user_1
  rw [hy26] at hrd22
  obtain rfl : cs21 = [str y25.verifier.Salt, .int .i64 y25.verifier.Rounds, str y25.verifier.Hash, str y25.code] := hrd22
  refine sr_ev (v := .tuple #[.agg #[str y25.verifier.Salt, .int .i64 y25.verifier.Rounds, str y25.verifier.Hash, str y25.code], .bool (mhas l_0.users user_1)]) (hl24 w17 _ _ (Mv.of_below (i := 104) (ρ := ρ11) (Below.refl _ _)) rfl rfl) (by decide) ?_
  refine sr_ev (v := .tuple #[.agg #[str y25.verifier.Salt, .int .i64 y25.verifier.Rounds, str y25.verifier.Hash, str y25.code], .bool (mhas l_0.users user_1)]) (ev_move rfl) (by decide) ?_
  refine sr_ev (v := .agg #[str y25.verifier.Salt, .int .i64 y25.verifier.Rounds, str y25.verifier.Hash, str y25.code]) (ev_extract rfl rfl) (by decide) ?_
  refine sr_ev (v := .bool (mhas l_0.users user_1)) (ev_extract rfl rfl) (by decide) ?_
  refine sr_allocT 11 (by decide) hb.bd Tryz.zeroValue98 (by decide) ?_
  intro g27 ρ28 w29 hB31 htr30
  replace hB14 := hB14.mv (htr30.mv (i := 8) rfl)
  replace hB9 := hB9.mv (htr30.mv (i := 100) rfl)
  replace hP2 := PtrO.mv hP2 secret_Locks.objK (fun p hp => htr30.mv (i := 100 + (1 + p)) (by rcases p with _ | _ | _ | p <;> first | rfl | omega)) (fun p hp => by show 100 + (1 + p) ≠ 0; omega)
  replace h4 := h4.mv (htr30.mv (i := 104) rfl)
  replace h6 := h6.mv (htr30.mv (i := 105) rfl)
  replace h8 := h8.mv (htr30.mv (i := 106) rfl)
  replace hb := hb.trans htr30
  replace hB31 : Blk ρ28 11 w29 g27 (.cells #[str ([]), .int .i64 0, str ([]), str ([])] 98 (0, 0)) := hB31
  refine sr_storeT (v := .agg #[str y25.verifier.Salt, .int .i64 y25.verifier.Rounds, str y25.verifier.Hash, str y25.code]) (vs := [str y25.verifier.Salt, .int .i64 y25.verifier.Rounds, str y25.verifier.Hash, str y25.code]) (cs' := #[str y25.verifier.Salt, .int .i64 y25.verifier.Rounds, str y25.verifier.Hash, str y25.code]) hB31 (by decide) hb.bd rfl rfl rfl Tryz.sizeOf98 rfl rfl rfl ?_
  intro w32 hB311 htr33
  replace hB14 := hB14.mv (htr33.mv (i := 8) rfl)
  replace hB9 := hB9.mv (htr33.mv (i := 100) rfl)
  replace hP2 := PtrO.mv hP2 secret_Locks.objK (fun p hp => htr33.mv (i := 100 + (1 + p)) (by rcases p with _ | _ | _ | p <;> first | rfl | omega)) (fun p hp => by show 100 + (1 + p) ≠ 0; omega)
  replace h4 := h4.mv (htr33.mv (i := 104) rfl)
  replace h6 := h6.mv (htr33.mv (i := 105) rfl)
  replace h8 := h8.mv (htr33.mv (i := 106) rfl)
  replace hb := hb.trans htr33
  replace hB31 : Blk ρ28 11 w32 g27 (.cells #[str y25.verifier.Salt, .int .i64 y25.verifier.Rounds, str y25.verifier.Hash, str y25.code] 98 (0, 0)) := hB311
  clear hB311
  refine sr_ev (v := .bool (mhas l_0.users user_1)) (ev_assign rfl) (by decide) ?_
  refine sr_end (l' := [(0, .pointer (some ⟨gl_0, 0, none⟩)), (1, str user_1), (3, str code_3), (6, .pointer (some ⟨g10, 0, none⟩)), (10, .bool (mhas l_0.users user_1))]) (.cons rfl (.cons rfl (.cons rfl (.cons rfl (.cons rfl (.nil _)))))) ?_
  refine ke_seq ?_
  refine ke_block ?_
  refine ke_seq ?_
  refine ke_region ?_
  refine sr_ev (v := str user_1) (ev_move rfl) (by decide) ?_
  obtain ⟨y34, hy35, hS⟩ := bind_some' hS
  refine sr_call (vs := [str user_1]) rfl Tryz.call43 rfl (fold_Word_ok _ (hg.fr hz hb) hy35) (by decide) ?_
  rintro _ w36 ⟨rfl, hbw37⟩
  have htr38 := Tr.of_below hbw37 hb.bd
  replace hB14 := hB14.mv (htr38.mv (i := 8) rfl)
  replace hB9 := hB9.mv (htr38.mv (i := 100) rfl)
  replace hP2 := PtrO.mv hP2 secret_Locks.objK (fun p hp => htr38.mv (i := 100 + (1 + p)) (by rcases p with _ | _ | _ | p <;> first | rfl | omega)) (fun p hp => by show 100 + (1 + p) ≠ 0; omega)
  replace h4 := h4.mv (htr38.mv (i := 104) rfl)
  replace h6 := h6.mv (htr38.mv (i := 105) rfl)
  replace h8 := h8.mv (htr38.mv (i := 106) rfl)
  replace hb := hb.trans htr38
  refine sr_ev (v := .bool (!y34)) (ev_not rfl) (by decide) ?_
  refine sr_ev (v := .bool (!y34)) (ev_assign rfl) (by decide) ?_
  refine sr_end (l' := [(0, .pointer (some ⟨gl_0, 0, none⟩)), (1, str user_1), (3, str code_3), (6, .pointer (some ⟨g10, 0, none⟩)), (10, .bool (mhas l_0.users user_1)), (23, .bool (!y34))]) (.cons rfl (.cons rfl (.cons rfl (.cons rfl (.cons rfl (.cons rfl (.nil _))))))) ?_
  refine ke_cond (t := !y34) rfl (fun hc39 => ?_) (fun hc39 => ?_)
  ·replace hS := ite_true' hS hc39
   refine ke_seq ?_
   refine ke_region ?_
   refine sr_ev (v := .int .i64 5) (ev_assign rfl) (by decide) ?_
   refine sr_end (l' := [(8, .int .i64 5)]) (.cons rfl (.nil _)) ?_
   cases hS
   exact ke_ret1 Tryz.func25 rfl rfl ⟨_, rfl, leave ρA w0 o 7 ρ28, rfl, ⟨_, _, _, _, (hB9.mv (leave_mv (p := 0) (by decide) hb)), (PtrO.mv hP2 secret_Locks.objK (fun p hp => leave_mv (p := 1 + p) (by omega) hb) (fun p hp => by show o + (1 + p) ≠ 0; omega)), (h4.mv (leave_mv (p := 4) (by decide) hb)), (h6.mv (leave_mv (p := 5) (by decide) hb)), (h8.mv (leave_mv (p := 6) (by decide) hb))⟩, (leave_tr ho2 hb)⟩
  ·replace hS := ite_false' hS hc39
   refine ke_seq ?_
   refine ke_region ?_
   refine sr_ev (v := .agg #[str v_2.Salt, .int .i64 v_2.Rounds, str v_2.Hash]) (ev_loads (cs := [str v_2.Salt, .int .i64 v_2.Rounds, str v_2.Hash]) Tryz.isAgg45 Tryz.sizeOf45 rfl (hB14.cells (vs := [str v_2.Salt, .int .i64 v_2.Rounds, str v_2.Hash]) rfl)) (by decide) ?_
   obtain ⟨y40, hy41, hS⟩ := bind_some' hS
   refine sr_call (vs := [.agg #[str v_2.Salt, .int .i64 v_2.Rounds, str v_2.Hash]]) rfl Tryz.call56 rfl (secret_Valid_ok _ (hg.fr hz hb) hy41) (by decide) ?_
   rintro _ w42 ⟨rfl, hbw43⟩
   have htr44 := Tr.of_below hbw43 hb.bd
   replace hB14 := hB14.mv (htr44.mv (i := 8) rfl)
   replace hB9 := hB9.mv (htr44.mv (i := 100) rfl)
   replace hP2 := PtrO.mv hP2 secret_Locks.objK (fun p hp => htr44.mv (i := 100 + (1 + p)) (by rcases p with _ | _ | _ | p <;> first | rfl | omega)) (fun p hp => by show 100 + (1 + p) ≠ 0; omega)
   replace h4 := h4.mv (htr44.mv (i := 104) rfl)
   replace h6 := h6.mv (htr44.mv (i := 105) rfl)
   replace h8 := h8.mv (htr44.mv (i := 106) rfl)
   replace hb := hb.trans htr44
   refine sr_ev (v := .bool (!y40)) (ev_not rfl) (by decide) ?_
   refine sr_ev (v := .bool (!y40)) (ev_move rfl) (by decide) ?_
   obtain ⟨z47, hz49, hS⟩ := bind_some' hS
   refine sr_join (m := 8) (C := fun (z : Bool) w1 => z47 = z ∧ ∃ ρ1, Tr ρ28 w42 (fun _ => false) ρ1 w1) (l' := fun z => [(0, .pointer (some ⟨gl_0, 0, none⟩)), (1, str user_1), (3, str code_3), (6, .pointer (some ⟨g10, 0, none⟩)), (10, .bool (mhas l_0.users user_1)), (39, .bool z)]) ?_ ?_
   ·rintro _ w50 ⟨rfl, ρ51, hj48⟩
    replace hB14 := hB14.mv (hj48.mv (i := 8) rfl)
    replace hB9 := hB9.mv (hj48.mv (i := 100) rfl)
    replace hP2 := PtrO.mv hP2 secret_Locks.objK (fun p hp => hj48.mv (i := 100 + (1 + p)) (by rcases p with _ | _ | _ | p <;> first | rfl | omega)) (fun p hp => by show 100 + (1 + p) ≠ 0; omega)
    replace h4 := h4.mv (hj48.mv (i := 104) rfl)
    replace h6 := h6.mv (hj48.mv (i := 105) rfl)
    replace h8 := h8.mv (hj48.mv (i := 106) rfl)
    replace hb := hb.trans hj48
    refine sr_ev (v := .bool z47) (ev_assign rfl) (by decide) ?_
    refine sr_end (l' := [(0, .pointer (some ⟨gl_0, 0, none⟩)), (1, str user_1), (3, str code_3), (6, .pointer (some ⟨g10, 0, none⟩)), (10, .bool (mhas l_0.users user_1)), (27, .bool z47)]) (.cons rfl (.cons rfl (.cons rfl (.cons rfl (.cons rfl (.cons rfl (.nil _))))))) ?_
    refine ke_cond (t := z47) rfl (fun hc66 => ?_) (fun hc66 => ?_)
    ·replace hS := ite_true' hS hc66
     refine ke_seq ?_
     refine ke_region ?_
     refine sr_ev (v := .int .i64 4) (ev_assign rfl) (by decide) ?_
     refine sr_end (l' := [(8, .int .i64 4)]) (.cons rfl (.nil _)) ?_
     cases hS
     exact ke_ret1 Tryz.func25 rfl rfl ⟨_, rfl, leave ρA w0 o 7 ρ51, rfl, ⟨_, _, _, _, (hB9.mv (leave_mv (p := 0) (by decide) hb)), (PtrO.mv hP2 secret_Locks.objK (fun p hp => leave_mv (p := 1 + p) (by omega) hb) (fun p hp => by show o + (1 + p) ≠ 0; omega)), (h4.mv (leave_mv (p := 4) (by decide) hb)), (h6.mv (leave_mv (p := 5) (by decide) hb)), (h8.mv (leave_mv (p := 6) (by decide) hb))⟩, (leave_tr ho2 hb)⟩
    ·replace hS := ite_false' hS hc66
     refine ke_seq ?_
     refine ke_region ?_
     refine sr_ev (v := .bool (mhas l_0.users user_1)) (ev_move rfl) (by decide) ?_
     refine sr_ev (v := .bool (!(mhas l_0.users user_1))) (ev_not rfl) (by decide) ?_
     refine sr_ev (v := .bool (!(mhas l_0.users user_1))) (ev_move rfl) (by decide) ?_
     refine sr_join (m := 7) (C := fun (x : Bool) w1 => x = ((!(mhas l_0.users user_1)) && (decide ((mlen l_0.users) ≥ 256))) ∧ w50 = w1) (l' := fun x => [(0, .pointer (some ⟨gl_0, 0, none⟩)), (1, str user_1), (3, str code_3), (6, .pointer (some ⟨g10, 0, none⟩)), (50, .bool x)]) ?_ ?_
     ·rintro _ _ ⟨rfl, rfl⟩
      refine sr_ev (v := .bool ((!(mhas l_0.users user_1)) && (decide ((mlen l_0.users) ≥ 256)))) (ev_assign rfl) (by decide) ?_
      refine sr_end (l' := [(0, .pointer (some ⟨gl_0, 0, none⟩)), (1, str user_1), (3, str code_3), (6, .pointer (some ⟨g10, 0, none⟩)), (40, .bool ((!(mhas l_0.users user_1)) && (decide ((mlen l_0.users) ≥ 256))))]) (.cons rfl (.cons rfl (.cons rfl (.cons rfl (.cons rfl (.nil _)))))) ?_
      refine ke_cond (t := (!(mhas l_0.users user_1)) && (decide ((mlen l_0.users) ≥ 256))) rfl (fun hc75 => ?_) (fun hc75 => ?_)
      ·replace hS := ite_true' hS hc75
       refine ke_seq ?_
       refine ke_region ?_
       refine sr_ev (v := .int .i64 3) (ev_assign rfl) (by decide) ?_
       refine sr_end (l' := [(8, .int .i64 3)]) (.cons rfl (.nil _)) ?_
       cases hS
       exact ke_ret1 Tryz.func25 rfl rfl ⟨_, rfl, leave ρA w0 o 7 ρ51, rfl, ⟨_, _, _, _, (hB9.mv (leave_mv (p := 0) (by decide) hb)), (PtrO.mv hP2 secret_Locks.objK (fun p hp => leave_mv (p := 1 + p) (by omega) hb) (fun p hp => by show o + (1 + p) ≠ 0; omega)), (h4.mv (leave_mv (p := 4) (by decide) hb)), (h6.mv (leave_mv (p := 5) (by decide) hb)), (h8.mv (leave_mv (p := 6) (by decide) hb))⟩, (leave_tr ho2 hb)⟩
      ·replace hS := ite_false' hS hc75
       refine ke_skip ?_
       refine ke_inBlock ?_
       refine ke_seq ?_
       refine ke_region_j (ρ := ρ51) (fun t => ([104] : List Nat).contains t) 9 Tryz.mixed (fun w77 hw76 => ?_)
       have htr78 := Tr.of_below hw76 hb.bd
       replace hB14 := hB14.mv (htr78.mv (i := 8) rfl)
       replace hB9 := hB9.mv (htr78.mv (i := 100) rfl)
       replace hP2 := PtrO.mv hP2 secret_Locks.objK (fun p hp => htr78.mv (i := 100 + (1 + p)) (by rcases p with _ | _ | _ | p <;> first | rfl | omega)) (fun p hp => by show 100 + (1 + p) ≠ 0; omega)
       replace h4 := h4.mv (htr78.mv (i := 104) rfl)
       replace h6 := h6.mv (htr78.mv (i := 105) rfl)
       replace h8 := h8.mv (htr78.mv (i := 106) rfl)
       replace hb := hb.trans htr78
       refine dj_h 0 (.pointer (some ⟨gl_0, 0, none⟩)) hb.bd rfl (fun w1 ρ1 hw1 => ev_move rfl) ?_
       refine dj_h 1 (.pointer (some ⟨gl_0, 0, none⟩)) hb.bd rfl (fun w1 ρ1 hw1 => ev_nilCheck rfl) ?_
       refine dj_h 2 (.pointer (some ⟨gl_0, 1, none⟩)) hb.bd rfl (fun w1 ρ1 hw1 => ev_fieldAddr (i := 1) Tryz.underlying69 rfl Tryz.info65 rfl rfl) ?_
       refine dj_h 3 v3 hb.bd rfl (fun w1 ρ1 hw1 => ev_load Tryz.isAgg65 rfl ((hB9.mv (hw1.mv (i := 100) rfl)).cell rfl)) ?_
       refine dj_h 4 (str user_1) hb.bd rfl (fun w1 ρ1 hw1 => ev_move rfl) ?_
       refine dj_h 5 (.agg #[str v_2.Salt, .int .i64 v_2.Rounds, str v_2.Hash]) hb.bd rfl (fun w1 ρ1 hw1 => ev_loads (cs := [str v_2.Salt, .int .i64 v_2.Rounds, str v_2.Hash]) Tryz.isAgg45 Tryz.sizeOf45 rfl ((hB14.mv (hw1.mv (i := 8) rfl)).cells (vs := [str v_2.Salt, .int .i64 v_2.Rounds, str v_2.Hash]) rfl)) ?_
       refine dj_h 6 (str code_3) hb.bd rfl (fun w1 ρ1 hw1 => ev_move rfl) ?_
       refine dj_h 7 (.agg #[str v_2.Salt, .int .i64 v_2.Rounds, str v_2.Hash, str code_3]) hb.bd rfl (fun w1 ρ1 hw1 => ev_build (vs := #[(0, .agg #[str v_2.Salt, .int .i64 v_2.Rounds, str v_2.Hash]), (1, str code_3)]) rfl (fun _ => by kernel_rfl)) ?_
       refine dj_E 8 (by kernel_rfl) rfl ?_
       have jt88 : Tr ρ51 w77 (fun t => ([104] : List Nat).contains t) ρ51 w77 := (Tr.refl hb.bd).weak (fun _ _ => rfl) rfl rfl
       obtain ⟨hk89, hS⟩ := chk_some hS
       refine sr_mapPut (k := user_1) (d := (login_credentials.mk v_2 code_3)) (u := .agg #[str v_2.Salt, .int .i64 v_2.Rounds, str v_2.Hash, str code_3]) (cs := [str v_2.Salt, .int .i64 v_2.Rounds, str v_2.Hash, str code_3]) h4 hk89 Tryz.keyB9 Tryz.underlying65 (by decide) hb.bd rfl rfl rfl rfl rfl ?_
       intro w90 h41 htr91
       replace hB9 := hB9.mv (htr91.mv (i := 100) rfl)
       replace hP2 := PtrO.mv hP2 secret_Locks.objK (fun p hp => htr91.mv (i := 100 + (1 + p)) (by rcases p with _ | _ | _ | p <;> first | rfl | omega)) (fun p hp => by show 100 + (1 + p) ≠ 0; omega)
       replace h6 := h6.mv (htr91.mv (i := 105) rfl)
       replace h8 := h8.mv (htr91.mv (i := 106) rfl)
       replace hb := hb.trans htr91
       replace jt88 := (jt88.trans htr91).weak (J' := (fun t => ([104] : List Nat).contains t)) (by intro t h; simp [rng] at h ⊢ <;> omega) rfl rfl
       replace h4 := h41
       clear h41
       refine dj_next (l' := []) rfl (.nil _) jt88 (by intro t h; simp [rng] at h ⊢ <;> omega) rfl rfl ?_
       refine dj_done rfl (by kernel_rfl) ?_
       refine ke_weaken (l' := []) (.nil _) ?_
       refine ke_seq ?_
       refine ke_region ?_
       refine sr_ev (v := .int .i64 0) (ev_assign rfl) (by decide) ?_
       refine sr_end (l' := [(8, .int .i64 0)]) (.cons rfl (.nil _)) ?_
       cases hS
       exact ke_ret1 Tryz.func25 rfl rfl ⟨_, rfl, leave ρA w0 o 7 ρ51, rfl, ⟨_, _, _, _, (hB9.mv (leave_mv (p := 0) (by decide) hb)), (PtrO.mv hP2 secret_Locks.objK (fun p hp => leave_mv (p := 1 + p) (by omega) hb) (fun p hp => by show o + (1 + p) ≠ 0; omega)), (h4.mv (leave_mv (p := 4) (by decide) hb)), (h6.mv (leave_mv (p := 5) (by decide) hb)), (h8.mv (leave_mv (p := 6) (by decide) hb))⟩, (leave_tr ho2 hb)⟩
     ·intro K68
      rcases Bool.eq_false_or_eq_true (!(mhas l_0.users user_1)) with hg67 | hg67
      all_goals try have hj70 : Tr ρ51 w50 (fun _ => false) ρ51 w50 := Tr.refl hb.bd
      ·refine sr_evg (b := true) (e := 43) rfl rfl hg67 (v := .pointer (some ⟨gl_0, 0, none⟩)) (ev_move rfl) (by decide) ?_
       refine sr_evg (b := true) (e := 43) rfl rfl hg67 (v := .pointer (some ⟨gl_0, 0, none⟩)) (ev_nilCheck rfl) (by decide) ?_
       refine sr_evg (b := true) (e := 43) rfl rfl hg67 (v := .pointer (some ⟨gl_0, 1, none⟩)) (ev_fieldAddr (i := 1) Tryz.underlying69 rfl Tryz.info65 rfl rfl) (by decide) ?_
       refine sr_evg (b := true) (e := 43) rfl rfl hg67 (v := v3) (ev_load Tryz.isAgg65 rfl (hB9.cell rfl)) (by decide) ?_
       refine sr_evg (b := true) (e := 43) rfl rfl hg67 (v := .int .i64 (mlen l_0.users)) (ev_mapLen h4 Tryz.underlying65 (Mv.of_below (i := 104) (ρ := ρ51) (Below.refl _ _)) rfl) (by decide) ?_
       refine sr_evg (b := true) (e := 43) rfl rfl hg67 (v := .bool (decide ((mlen l_0.users) ≥ 256))) (ev_ge rfl rfl) (by decide) ?_
       refine sr_ev (v := .bool (decide ((mlen l_0.users) ≥ 256))) (ev_pick_t rfl hg67 rfl) (by decide) ?_
       exact sr_weaken (l' := [(0, .pointer (some ⟨gl_0, 0, none⟩)), (1, str user_1), (3, str code_3), (6, .pointer (some ⟨g10, 0, none⟩)), (50, .bool (decide ((mlen l_0.users) ≥ 256)))]) (.cons rfl (.cons rfl (.cons rfl (.cons rfl (.cons rfl (.nil _)))))) (K68 (decide ((mlen l_0.users) ≥ 256)) _ ⟨by first | (rw [hg67]; rfl) | rfl, rfl⟩)
      ·refine sr_pass (e := 43) rfl rfl (by rw [hg67]; rfl) (by decide) ?_
       refine sr_pass (e := 43) rfl rfl (by rw [hg67]; rfl) (by decide) ?_
       refine sr_pass (e := 43) rfl rfl (by rw [hg67]; rfl) (by decide) ?_
       refine sr_pass (e := 43) rfl rfl (by rw [hg67]; rfl) (by decide) ?_
       refine sr_pass (e := 43) rfl rfl (by rw [hg67]; rfl) (by decide) ?_
       refine sr_pass (e := 43) rfl rfl (by rw [hg67]; rfl) (by decide) ?_
       refine sr_ev (v := .bool false) (ev_pick_f rfl hg67 rfl) (by decide) ?_
       exact sr_weaken (l' := [(0, .pointer (some ⟨gl_0, 0, none⟩)), (1, str user_1), (3, str code_3), (6, .pointer (some ⟨g10, 0, none⟩)), (50, .bool false)]) (.cons rfl (.cons rfl (.cons rfl (.cons rfl (.cons rfl (.nil _)))))) (K68 false _ ⟨by first | (rw [hg67]; rfl) | rfl, rfl⟩)
   ·intro K46
    clear hS
    have hj48 : Tr ρ28 w42 (fun _ => false) ρ28 w42 := (Tr.refl hb.bd).weak (fun _ _ => rfl) rfl rfl
    rcases Bool.eq_false_or_eq_true (!y40) with hg45 | hg45
    ·have hS := ite_true' hz49 hg45
     refine sr_pass (e := 31) rfl rfl (by rw [hg45]; rfl) (by decide) ?_
     refine sr_pass (e := 31) rfl rfl (by rw [hg45]; rfl) (by decide) ?_
     refine sr_pass (e := 31) rfl rfl (by rw [hg45]; rfl) (by decide) ?_
     refine sr_pass_undef (e := 34) rfl rfl (by decide) ?_
     refine sr_pass_undef (e := 34) rfl rfl (by decide) ?_
     refine sr_pass_undef (e := 34) rfl rfl (by decide) ?_
     refine sr_pass (e := 31) rfl rfl (by rw [hg45]; rfl) (by decide) ?_
     refine sr_ev (v := .bool true) (ev_pick_t rfl hg45 rfl) (by decide) ?_
     exact sr_weaken (l' := [(0, .pointer (some ⟨gl_0, 0, none⟩)), (1, str user_1), (3, str code_3), (6, .pointer (some ⟨g10, 0, none⟩)), (10, .bool (mhas l_0.users user_1)), (39, .bool true)]) (.cons rfl (.cons rfl (.cons rfl (.cons rfl (.cons rfl (.cons rfl (.nil _))))))) (K46 true _ ⟨(Option.some.inj hS).symm, _, hj48⟩)
    ·have hS := ite_false' hz49 hg45
     refine sr_evg (b := false) (e := 31) rfl rfl hg45 (v := str code_3) (ev_move rfl) (by decide) ?_
     refine sr_evg (b := false) (e := 31) rfl rfl hg45 (v := .bool (!(code_3 == ([])))) (ev_sne rfl rfl) (by decide) ?_
     refine sr_evg (b := false) (e := 31) rfl rfl hg45 (v := .bool (!(code_3 == ([])))) (ev_move rfl) (by decide) ?_
     obtain ⟨z55, hz57, hS⟩ := bind_some' hS
     refine sr_join (m := 4) (C := fun (z : Bool) w1 => z55 = z ∧ ∃ ρ1, Tr ρ28 w42 (fun _ => false) ρ1 w1) (l' := fun z => [(0, .pointer (some ⟨gl_0, 0, none⟩)), (1, str user_1), (3, str code_3), (6, .pointer (some ⟨g10, 0, none⟩)), (10, .bool (mhas l_0.users user_1)), (31, .bool (!y40)), (38, .bool z)]) ?_ ?_
     ·rintro _ w58 ⟨rfl, ρ59, hj56⟩
      replace hB14 := hB14.mv (hj56.mv (i := 8) rfl)
      replace hB9 := hB9.mv (hj56.mv (i := 100) rfl)
      replace hP2 := PtrO.mv hP2 secret_Locks.objK (fun p hp => hj56.mv (i := 100 + (1 + p)) (by rcases p with _ | _ | _ | p <;> first | rfl | omega)) (fun p hp => by show 100 + (1 + p) ≠ 0; omega)
      replace h4 := h4.mv (hj56.mv (i := 104) rfl)
      replace h6 := h6.mv (hj56.mv (i := 105) rfl)
      replace h8 := h8.mv (hj56.mv (i := 106) rfl)
      replace hb := hb.trans hj56
      replace hj48 := (hj48.trans hj56).weak (J' := (fun _ => false)) (by intro t h; simp [rng] at h ⊢ <;> omega) rfl rfl
      refine sr_ev (v := .bool z55) (ev_pick_f rfl hg45 rfl) (by decide) ?_
      exact sr_weaken (l' := [(0, .pointer (some ⟨gl_0, 0, none⟩)), (1, str user_1), (3, str code_3), (6, .pointer (some ⟨g10, 0, none⟩)), (10, .bool (mhas l_0.users user_1)), (39, .bool z55)]) (.cons rfl (.cons rfl (.cons rfl (.cons rfl (.cons rfl (.cons rfl (.nil _))))))) (K46 z55 _ ⟨(Option.some.inj hS).symm, _, hj48⟩)
     ·intro K54
      clear hS
      have hj56 : Tr ρ28 w42 (fun _ => false) ρ28 w42 := (Tr.refl hb.bd).weak (fun _ _ => rfl) rfl rfl
      rcases Bool.eq_false_or_eq_true (!(code_3 == ([]))) with hg53 | hg53
      ·have hS := ite_true' hz57 hg53
       refine sr_evg (b := true) (e := 34) rfl rfl hg53 (v := str code_3) (ev_move rfl) (by decide) ?_
       obtain ⟨y61, hy62, hS⟩ := bind_some' hS
       refine sr_callg (b := true) (e := 34) rfl rfl hg53 (vs := [str code_3]) rfl Tryz.call40 rfl (fold_Clean_ok _ (hg.fr hz hb) hy62) (by decide) ?_
       rintro _ w63 ⟨rfl, hbw64⟩
       have htr65 := Tr.of_below hbw64 hb.bd
       replace hB14 := hB14.mv (htr65.mv (i := 8) rfl)
       replace hB9 := hB9.mv (htr65.mv (i := 100) rfl)
       replace hP2 := PtrO.mv hP2 secret_Locks.objK (fun p hp => htr65.mv (i := 100 + (1 + p)) (by rcases p with _ | _ | _ | p <;> first | rfl | omega)) (fun p hp => by show 100 + (1 + p) ≠ 0; omega)
       replace h4 := h4.mv (htr65.mv (i := 104) rfl)
       replace h6 := h6.mv (htr65.mv (i := 105) rfl)
       replace h8 := h8.mv (htr65.mv (i := 106) rfl)
       replace hb := hb.trans htr65
       replace hj48 := (hj48.trans htr65).weak (J' := (fun _ => false)) (by intro t h; simp [rng] at h ⊢ <;> omega) rfl rfl
       replace hj56 := (hj56.trans htr65).weak (J' := (fun _ => false)) (by intro t h; simp [rng] at h ⊢ <;> omega) rfl rfl
       refine sr_evg (b := true) (e := 34) rfl rfl hg53 (v := .bool (!y61)) (ev_not rfl) (by decide) ?_
       refine sr_evg (b := false) (e := 31) rfl rfl hg45 (v := .bool (!y61)) (ev_pick_t rfl hg53 rfl) (by decide) ?_
       exact sr_weaken (l' := [(0, .pointer (some ⟨gl_0, 0, none⟩)), (1, str user_1), (3, str code_3), (6, .pointer (some ⟨g10, 0, none⟩)), (10, .bool (mhas l_0.users user_1)), (31, .bool (!y40)), (38, .bool (!y61))]) (.cons rfl (.cons rfl (.cons rfl (.cons rfl (.cons rfl (.cons rfl (.cons rfl (.nil _)))))))) (K54 (!y61) _ ⟨(Option.some.inj hS).symm, _, hj56⟩)
      ·have hS := ite_false' hz57 hg53
       refine sr_pass (e := 34) rfl rfl (by rw [hg53]; rfl) (by decide) ?_
       refine sr_pass (e := 34) rfl rfl (by rw [hg53]; rfl) (by decide) ?_
       refine sr_pass (e := 34) rfl rfl (by rw [hg53]; rfl) (by decide) ?_
       refine sr_evg (b := false) (e := 31) rfl rfl hg45 (v := .bool false) (ev_pick_f rfl hg53 rfl) (by decide) ?_
       exact sr_weaken (l' := [(0, .pointer (some ⟨gl_0, 0, none⟩)), (1, str user_1), (3, str code_3), (6, .pointer (some ⟨g10, 0, none⟩)), (10, .bool (mhas l_0.users user_1)), (31, .bool (!y40)), (38, .bool false)]) (.cons rfl (.cons rfl (.cons rfl (.cons rfl (.cons rfl (.cons rfl (.cons rfl (.nil _)))))))) (K54 false _ ⟨(Option.some.inj hS).symm, _, hj56⟩)
theorem law39_ann_ok (w0 : World) (hg : Gs w0) {ρA : Tags} (hbd : ∀ b, ρA b ≠ 0 → b < w0.heap.size) (hz : Gz ρA) {o : Nat} (ho2 : 2 ≤ o) {most_0 : Int} {r : Option login_Logins} (hS : law39_ann most_0 = some r) :
  Calls Tryz.prog 11 #[.int .i64 most_0] w0 (Ret (fun v w' => ∃ ρ' zr0, v = zr0 ∧ PtrO login_Logins.O (fun p => o + p) ρ' w' zr0 r ∧ Tr ρA w0 (rng o 7) ρ' w')) := by
 unfold law39_ann at hS
 have hb := enter_fr (ρ := ρA) (w := w0) (n := 7) ho2 hbd
 have hz := hz.enter (n := 7) ho2
 refine calls_of_ke Tryz.func11 rfl (n := 33) rfl rfl (l := [(0, .int .i64 most_0)]) rfl ?_
 refine ke_seq ?_
 refine ke_region ?_
 refine sr_ev (v := .pointer none) (ev_assign rfl) (by decide) ?_
 refine sr_end (l' := [(0, .int .i64 most_0)]) (.cons rfl (.nil _)) ?_
 refine ke_seq ?_
 refine ke_region ?_
 refine sr_ev (v := .int .i64 most_0) (ev_move rfl) (by decide) ?_
 obtain ⟨y1, hy2, hS⟩ := bind_some' hS
 refine sr_call (vs := [.int .i64 most_0, .int .i64 100, .int .i64 50]) rfl Tryz.call23 rfl (login_New_ok _ (hg.fr hz hb) (ρA := (enter ρA o 7)) hb.bd (hz.fr hg hb) (o := 200) (by decide) hy2) (by decide) ?_
 rintro _ w3 ⟨ρ8, v6, rfl, hP7, htr5⟩
 replace hb := hb.trans htr5
 rcases ho10 : y1.1 with _ | z9
 ·replace hS := optC_none hS ho10
  obtain rfl := hP7.none_ ho10
  refine sr_ev (v := .tuple #[.pointer none, .int .i64 y1.2]) (ev_move rfl) (by decide) ?_
  refine sr_ev (v := .pointer none) (ev_extract rfl rfl) (by decide) ?_
  refine sr_ev (v := .int .i64 y1.2) (ev_extract rfl rfl) (by decide) ?_
  refine sr_ev (v := .pointer none) (ev_assign rfl) (by decide) ?_
  refine sr_ev (v := .int .i64 y1.2) (ev_assign rfl) (by decide) ?_
  refine sr_end (l' := [(3, .pointer none), (4, .int .i64 y1.2)]) (.cons rfl (.cons rfl (.nil _))) ?_
  refine ke_seq ?_
  refine ke_region ?_
  obtain ⟨y83, hy84, hS⟩ := bind_some' hS
  refine sr_call (vs := [str ([115, 101, 99, 114, 101, 116, 119, 111, 114, 100]), str ([115, 97, 108, 116]), .int .i64 1]) rfl Tryz.call20 rfl (secret_Make_ok _ (hg.fr hz hb) hy84) (by decide) ?_
  rintro _ w85 ⟨rfl, hbw86⟩
  have htr87 := Tr.of_below hbw86 hb.bd
  replace hb := hb.trans htr87
  refine sr_ev (v := .tuple #[.agg #[str y83.1.Salt, .int .i64 y83.1.Rounds, str y83.1.Hash], .int .i64 y83.2]) (ev_move rfl) (by decide) ?_
  refine sr_ev (v := .agg #[str y83.1.Salt, .int .i64 y83.1.Rounds, str y83.1.Hash]) (ev_extract rfl rfl) (by decide) ?_
  refine sr_ev (v := .int .i64 y83.2) (ev_extract rfl rfl) (by decide) ?_
  refine sr_allocT 7 (by decide) hb.bd Tryz.zeroValue45 (by decide) ?_
  intro g88 ρ89 w90 hB92 htr91
  replace hb := hb.trans htr91
  replace hB92 : Blk ρ89 7 w90 g88 (.cells #[str ([]), .int .i64 0, str ([])] 45 (0, 0)) := hB92
  refine sr_storeT (v := .agg #[str y83.1.Salt, .int .i64 y83.1.Rounds, str y83.1.Hash]) (vs := [str y83.1.Salt, .int .i64 y83.1.Rounds, str y83.1.Hash]) (cs' := #[str y83.1.Salt, .int .i64 y83.1.Rounds, str y83.1.Hash]) hB92 (by decide) hb.bd rfl rfl rfl Tryz.sizeOf45 rfl rfl rfl ?_
  intro w93 hB921 htr94
  replace hb := hb.trans htr94
  replace hB92 : Blk ρ89 7 w93 g88 (.cells #[str y83.1.Salt, .int .i64 y83.1.Rounds, str y83.1.Hash] 45 (0, 0)) := hB921
  clear hB921
  refine sr_ev (v := .int .i64 y83.2) (ev_assign rfl) (by decide) ?_
  refine sr_end (l' := [(3, .pointer none), (4, .int .i64 y1.2), (5, .pointer (some ⟨g88, 0, none⟩)), (6, .int .i64 y83.2)]) (.cons rfl (.cons rfl (.cons rfl (.cons rfl (.nil _))))) ?_
  refine ke_seq ?_
  refine ke_seq ?_
  refine ke_region ?_
  refine sr_ev (v := .int .i64 y1.2) (ev_move rfl) (by decide) ?_
  refine sr_ev (v := .bool (y1.2 != 0)) (ev_ne rfl rfl) (by decide) ?_
  refine sr_ev (v := .bool (y1.2 != 0)) (ev_move rfl) (by decide) ?_
  refine sr_join (m := 3) (C := fun (x : Bool) w1 => x = ((y1.2 != 0) || (y83.2 != 0)) ∧ w93 = w1) (l' := fun x => [(3, .pointer none), (5, .pointer (some ⟨g88, 0, none⟩)), (21, .bool x)]) ?_ ?_
  ·rintro _ _ ⟨rfl, rfl⟩
   refine sr_ev (v := .bool ((y1.2 != 0) || (y83.2 != 0))) (ev_move rfl) (by decide) ?_
   refine sr_join (m := 3) (C := fun (x : Bool) w1 => x = (true) ∧ w93 = w1) (l' := fun x => [(3, .pointer none), (5, .pointer (some ⟨g88, 0, none⟩)), (25, .bool x)]) ?_ ?_
   ·rintro _ _ ⟨rfl, rfl⟩
    refine sr_ev (v := .bool true) (ev_move rfl) (by decide) ?_
    refine sr_pass (e := 26) rfl rfl rfl (by decide) ?_
    refine sr_pass (e := 26) rfl rfl rfl (by decide) ?_
    refine sr_pass (e := 26) rfl rfl rfl (by decide) ?_
    refine sr_pass (e := 26) rfl rfl rfl (by decide) ?_
    refine sr_ev (v := .bool true) (ev_pick_t rfl rfl rfl) (by decide) ?_
    refine sr_end (l' := [(3, .pointer none), (31, .bool true)]) (.cons rfl (.cons rfl (.nil _))) ?_
    refine ke_cond (t := true) rfl (fun _ => ?_) (fun h => by cases h)
    refine ke_seq ?_
    refine ke_region ?_
    refine sr_ev (v := .pointer none) (ev_assign rfl) (by decide) ?_
    refine sr_end (l' := [(2, .pointer none)]) (.cons rfl (.nil _)) ?_
    cases hS
    exact ke_ret1 Tryz.func11 rfl rfl ⟨_, rfl, leave ρA w0 o 7 ρ89, _, rfl, PtrO.nil, (leave_tr ho2 hb)⟩
   ·intro K104
    rcases Bool.eq_false_or_eq_true ((y1.2 != 0) || (y83.2 != 0)) with hg103 | hg103
    all_goals try have hj106 : Tr ρ89 w93 (fun _ => false) ρ89 w93 := Tr.refl hb.bd
    ·refine sr_pass (e := 22) rfl rfl (by rw [hg103]; rfl) (by decide) ?_
     refine sr_pass (e := 22) rfl rfl (by rw [hg103]; rfl) (by decide) ?_
     refine sr_ev (v := .bool true) (ev_pick_t rfl hg103 rfl) (by decide) ?_
     exact sr_weaken (l' := [(3, .pointer none), (5, .pointer (some ⟨g88, 0, none⟩)), (25, .bool true)]) (.cons rfl (.cons rfl (.cons rfl (.nil _)))) (K104 true _ ⟨by first | (rw [hg103]; rfl) | rfl, rfl⟩)
    ·refine sr_evg (b := false) (e := 22) rfl rfl hg103 (v := .pointer none) (ev_move rfl) (by decide) ?_
     refine sr_evg (b := false) (e := 22) rfl rfl hg103 (v := .bool true) (ev_peqT_nil Tryz.underlying25 rfl rfl) (by decide) ?_
     refine sr_ev (v := .bool true) (ev_pick_f rfl hg103 rfl) (by decide) ?_
     exact sr_weaken (l' := [(3, .pointer none), (5, .pointer (some ⟨g88, 0, none⟩)), (25, .bool true)]) (.cons rfl (.cons rfl (.cons rfl (.nil _)))) (K104 true _ ⟨by first | (rw [hg103]; rfl) | rfl, rfl⟩)
  ·intro K96
   rcases Bool.eq_false_or_eq_true (y1.2 != 0) with hg95 | hg95
   all_goals try have hj98 : Tr ρ89 w93 (fun _ => false) ρ89 w93 := Tr.refl hb.bd
   ·refine sr_pass (e := 18) rfl rfl (by rw [hg95]; rfl) (by decide) ?_
    refine sr_pass (e := 18) rfl rfl (by rw [hg95]; rfl) (by decide) ?_
    refine sr_ev (v := .bool true) (ev_pick_t rfl hg95 rfl) (by decide) ?_
    exact sr_weaken (l' := [(3, .pointer none), (5, .pointer (some ⟨g88, 0, none⟩)), (21, .bool true)]) (.cons rfl (.cons rfl (.cons rfl (.nil _)))) (K96 true _ ⟨by first | (rw [hg95]; rfl) | rfl, rfl⟩)
   ·refine sr_evg (b := false) (e := 18) rfl rfl hg95 (v := .int .i64 y83.2) (ev_move rfl) (by decide) ?_
    refine sr_evg (b := false) (e := 18) rfl rfl hg95 (v := .bool (y83.2 != 0)) (ev_ne rfl rfl) (by decide) ?_
    refine sr_ev (v := .bool (y83.2 != 0)) (ev_pick_f rfl hg95 rfl) (by decide) ?_
    exact sr_weaken (l' := [(3, .pointer none), (5, .pointer (some ⟨g88, 0, none⟩)), (21, .bool (y83.2 != 0))]) (.cons rfl (.cons rfl (.cons rfl (.nil _)))) (K96 (y83.2 != 0) _ ⟨by first | (rw [hg95]; rfl) | rfl, rfl⟩)
 ·replace hS := optC_some hS ho10
  obtain ⟨g11, rfl, ⟨v12, v14, v16, v18, hB20, hP13, h15, h17, h19⟩⟩ := hP7.some_ ho10
  replace hB20 : Blk ρ8 200 w3 g11 (.cells #[v12, v14, v16, v18] 69 (0, 0)) := hB20
  replace hP13 : PtrO secret_Locks.O (fun q => 200 + (1 + q)) ρ8 w3 v12 z9.locks := hP13
  replace h15 : MapT str login_credentials.c true ρ8 204 w3 v14 z9.users := h15
  replace h17 : MapT str (intC .i64) false ρ8 205 w3 v16 z9.counters := h17
  replace h19 : MapT str login_attempt.c true ρ8 206 w3 v18 z9.attempts := h19
  refine sr_ev (v := .tuple #[.pointer (some ⟨g11, 0, none⟩), .int .i64 y1.2]) (ev_move rfl) (by decide) ?_
  refine sr_ev (v := .pointer (some ⟨g11, 0, none⟩)) (ev_extract rfl rfl) (by decide) ?_
  refine sr_ev (v := .int .i64 y1.2) (ev_extract rfl rfl) (by decide) ?_
  refine sr_ev (v := .pointer (some ⟨g11, 0, none⟩)) (ev_assign rfl) (by decide) ?_
  refine sr_ev (v := .int .i64 y1.2) (ev_assign rfl) (by decide) ?_
  refine sr_end (l' := [(3, .pointer (some ⟨g11, 0, none⟩)), (4, .int .i64 y1.2)]) (.cons rfl (.cons rfl (.nil _))) ?_
  refine ke_seq ?_
  refine ke_region ?_
  obtain ⟨y21, hy22, hS⟩ := bind_some' hS
  refine sr_call (vs := [str ([115, 101, 99, 114, 101, 116, 119, 111, 114, 100]), str ([115, 97, 108, 116]), .int .i64 1]) rfl Tryz.call20 rfl (secret_Make_ok _ (hg.fr hz hb) hy22) (by decide) ?_
  rintro _ w23 ⟨rfl, hbw24⟩
  have htr25 := Tr.of_below hbw24 hb.bd
  replace hB20 := hB20.mv (htr25.mv (i := 200) rfl)
  replace hP13 := PtrO.mv hP13 secret_Locks.objK (fun p hp => htr25.mv (i := 200 + (1 + p)) (by rcases p with _ | _ | _ | p <;> first | rfl | omega)) (fun p hp => by show 200 + (1 + p) ≠ 0; omega)
  replace h15 := h15.mv (htr25.mv (i := 204) rfl)
  replace h17 := h17.mv (htr25.mv (i := 205) rfl)
  replace h19 := h19.mv (htr25.mv (i := 206) rfl)
  replace hb := hb.trans htr25
  refine sr_ev (v := .tuple #[.agg #[str y21.1.Salt, .int .i64 y21.1.Rounds, str y21.1.Hash], .int .i64 y21.2]) (ev_move rfl) (by decide) ?_
  refine sr_ev (v := .agg #[str y21.1.Salt, .int .i64 y21.1.Rounds, str y21.1.Hash]) (ev_extract rfl rfl) (by decide) ?_
  refine sr_ev (v := .int .i64 y21.2) (ev_extract rfl rfl) (by decide) ?_
  refine sr_allocT 7 (by decide) hb.bd Tryz.zeroValue45 (by decide) ?_
  intro g26 ρ27 w28 hB30 htr29
  replace hB20 := hB20.mv (htr29.mv (i := 200) rfl)
  replace hP13 := PtrO.mv hP13 secret_Locks.objK (fun p hp => htr29.mv (i := 200 + (1 + p)) (by rcases p with _ | _ | _ | p <;> first | rfl | omega)) (fun p hp => by show 200 + (1 + p) ≠ 0; omega)
  replace h15 := h15.mv (htr29.mv (i := 204) rfl)
  replace h17 := h17.mv (htr29.mv (i := 205) rfl)
  replace h19 := h19.mv (htr29.mv (i := 206) rfl)
  replace hb := hb.trans htr29
  replace hB30 : Blk ρ27 7 w28 g26 (.cells #[str ([]), .int .i64 0, str ([])] 45 (0, 0)) := hB30
  refine sr_storeT (v := .agg #[str y21.1.Salt, .int .i64 y21.1.Rounds, str y21.1.Hash]) (vs := [str y21.1.Salt, .int .i64 y21.1.Rounds, str y21.1.Hash]) (cs' := #[str y21.1.Salt, .int .i64 y21.1.Rounds, str y21.1.Hash]) hB30 (by decide) hb.bd rfl rfl rfl Tryz.sizeOf45 rfl rfl rfl ?_
  intro w31 hB301 htr32
  replace hB20 := hB20.mv (htr32.mv (i := 200) rfl)
  replace hP13 := PtrO.mv hP13 secret_Locks.objK (fun p hp => htr32.mv (i := 200 + (1 + p)) (by rcases p with _ | _ | _ | p <;> first | rfl | omega)) (fun p hp => by show 200 + (1 + p) ≠ 0; omega)
  replace h15 := h15.mv (htr32.mv (i := 204) rfl)
  replace h17 := h17.mv (htr32.mv (i := 205) rfl)
  replace h19 := h19.mv (htr32.mv (i := 206) rfl)
  replace hb := hb.trans htr32
  replace hB30 : Blk ρ27 7 w31 g26 (.cells #[str y21.1.Salt, .int .i64 y21.1.Rounds, str y21.1.Hash] 45 (0, 0)) := hB301
  clear hB301
  refine sr_ev (v := .int .i64 y21.2) (ev_assign rfl) (by decide) ?_
  refine sr_end (l' := [(3, .pointer (some ⟨g11, 0, none⟩)), (4, .int .i64 y1.2), (5, .pointer (some ⟨g26, 0, none⟩)), (6, .int .i64 y21.2)]) (.cons rfl (.cons rfl (.cons rfl (.cons rfl (.nil _))))) ?_
  refine ke_seq ?_
  refine ke_seq ?_
  refine ke_region ?_
  refine sr_ev (v := .int .i64 y1.2) (ev_move rfl) (by decide) ?_
  refine sr_ev (v := .bool (y1.2 != 0)) (ev_ne rfl rfl) (by decide) ?_
  refine sr_ev (v := .bool (y1.2 != 0)) (ev_move rfl) (by decide) ?_
  refine sr_join (m := 3) (C := fun (x : Bool) w1 => x = ((y1.2 != 0) || (y21.2 != 0)) ∧ w31 = w1) (l' := fun x => [(3, .pointer (some ⟨g11, 0, none⟩)), (5, .pointer (some ⟨g26, 0, none⟩)), (21, .bool x)]) ?_ ?_
  ·rintro _ _ ⟨rfl, rfl⟩
   refine sr_ev (v := .bool ((y1.2 != 0) || (y21.2 != 0))) (ev_move rfl) (by decide) ?_
   refine sr_join (m := 3) (C := fun (x : Bool) w1 => x = (((y1.2 != 0) || (y21.2 != 0)) || false) ∧ w31 = w1) (l' := fun x => [(3, .pointer (some ⟨g11, 0, none⟩)), (5, .pointer (some ⟨g26, 0, none⟩)), (25, .bool x)]) ?_ ?_
   ·rintro _ _ ⟨rfl, rfl⟩
    refine sr_ev (v := .bool (((y1.2 != 0) || (y21.2 != 0)) || false)) (ev_move rfl) (by decide) ?_
    obtain ⟨z51, hz53, hS⟩ := bind_some' hS
    refine sr_join (m := 5) (C := fun (z : Bool × login_Logins) w1 => z51 = z ∧ ∃ ρ1, login_Logins.O (fun p => 200 + p) ρ1 w1 g11 z.2 ∧ Tr ρ27 w31 (fun t => ([200, 201, 202, 203, 204, 205, 206] : List Nat).contains t) ρ1 w1) (l' := fun z => [(3, .pointer (some ⟨g11, 0, none⟩)), (31, .bool z.1)]) ?_ ?_
    ·rintro _ w54 ⟨rfl, ρ55, ⟨v72, v74, v76, v78, hB80, hP73, h75, h77, h79⟩, hj52⟩
     replace hb := hb.trans hj52
     replace hB80 : Blk ρ55 200 w54 g11 (.cells #[v72, v74, v76, v78] 69 (0, 0)) := hB80
     replace hP73 : PtrO secret_Locks.O (fun q => 200 + (1 + q)) ρ55 w54 v72 z51.2.locks := hP73
     replace h75 : MapT str login_credentials.c true ρ55 204 w54 v74 z51.2.users := h75
     replace h77 : MapT str (intC .i64) false ρ55 205 w54 v76 z51.2.counters := h77
     replace h79 : MapT str login_attempt.c true ρ55 206 w54 v78 z51.2.attempts := h79
     refine sr_end (l' := [(3, .pointer (some ⟨g11, 0, none⟩)), (31, .bool z51.1)]) (.cons rfl (.cons rfl (.nil _))) ?_
     refine ke_cond (t := z51.1) rfl (fun hc81 => ?_) (fun hc81 => ?_)
     ·replace hS := ite_true' hS hc81
      refine ke_seq ?_
      refine ke_region ?_
      refine sr_ev (v := .pointer none) (ev_assign rfl) (by decide) ?_
      refine sr_end (l' := [(2, .pointer none)]) (.cons rfl (.nil _)) ?_
      cases hS
      exact ke_ret1 Tryz.func11 rfl rfl ⟨_, rfl, leave ρA w0 o 7 ρ55, _, rfl, PtrO.nil, (leave_tr ho2 hb)⟩
     ·replace hS := ite_false' hS hc81
      refine ke_skip ?_
      refine ke_seq ?_
      refine ke_region ?_
      refine sr_ev (v := .pointer (some ⟨g11, 0, none⟩)) (ev_move rfl) (by decide) ?_
      refine sr_ev (v := .pointer (some ⟨g11, 0, none⟩)) (ev_assign rfl) (by decide) ?_
      refine sr_end (l' := [(2, .pointer (some ⟨g11, 0, none⟩))]) (.cons rfl (.nil _)) ?_
      have htr82 := rtgR_tr (ρ := ρ55) (w := w54) (a := 200) (N := 7) 100 (by decide) hb.bd
      replace hb := hb.trans htr82
      replace hB80 := hB80.mv (rtgR_mv (ρ := ρ55) (w := w54) (a := 200) (b := 100) (N := 7) (p := 0) (by decide) (by decide))
      replace hP73 := PtrO.mv hP73 secret_Locks.objK (fun p hp => (rtgR_mv (ρ := ρ55) (w := w54) (a := 200) (b := 100) (N := 7) (p := 1 + p) (by decide) (by omega))) (fun p hp => by omega)
      replace h75 := h75.mv (rtgR_mv (ρ := ρ55) (w := w54) (a := 200) (b := 100) (N := 7) (p := 4) (by decide) (by decide))
      replace h77 := h77.mv (rtgR_mv (ρ := ρ55) (w := w54) (a := 200) (b := 100) (N := 7) (p := 5) (by decide) (by decide))
      replace h79 := h79.mv (rtgR_mv (ρ := ρ55) (w := w54) (a := 200) (b := 100) (N := 7) (p := 6) (by decide) (by decide))
      cases hS
      exact ke_ret1 Tryz.func11 rfl rfl ⟨_, rfl, leave ρA w0 o 7 (rtgR ρ55 200 100 7), _, rfl, (PtrO.mk ⟨_, _, _, _, (hB80.mv (leave_mv (p := 0) (by decide) hb)), (PtrO.mv hP73 secret_Locks.objK (fun p hp => leave_mv (p := 1 + p) (by omega) hb) (fun p hp => by show o + (1 + p) ≠ 0; omega)), (h75.mv (leave_mv (p := 4) (by decide) hb)), (h77.mv (leave_mv (p := 5) (by decide) hb)), (h79.mv (leave_mv (p := 6) (by decide) hb))⟩), (leave_tr ho2 hb)⟩
    ·intro K50
     clear hS
     have hj52 : Tr ρ27 w31 (fun t => ([200, 201, 202, 203, 204, 205, 206] : List Nat).contains t) ρ27 w31 := (Tr.refl hb.bd).weak (fun _ _ => rfl) rfl rfl
     rcases Bool.eq_false_or_eq_true (((y1.2 != 0) || (y21.2 != 0)) || false) with hg49 | hg49
     ·have hS := ite_true' hz53 hg49
      refine sr_pass (e := 26) rfl rfl (by rw [hg49]; rfl) (by decide) ?_
      refine sr_pass (e := 26) rfl rfl (by rw [hg49]; rfl) (by decide) ?_
      refine sr_pass (e := 26) rfl rfl (by rw [hg49]; rfl) (by decide) ?_
      refine sr_pass (e := 26) rfl rfl (by rw [hg49]; rfl) (by decide) ?_
      refine sr_ev (v := .bool true) (ev_pick_t rfl hg49 rfl) (by decide) ?_
      exact sr_weaken (l' := [(3, .pointer (some ⟨g11, 0, none⟩)), (31, .bool true)]) (.cons rfl (.cons rfl (.nil _))) (K50 (true, z9) _ ⟨(Option.some.inj hS).symm, _, ⟨_, _, _, _, hB20, hP13, h15, h17, h19⟩, hj52⟩)
     ·have hS := ite_false' hz53 hg49
      refine sr_evg (b := false) (e := 26) rfl rfl hg49 (v := .pointer (some ⟨g11, 0, none⟩)) (ev_move rfl) (by decide) ?_
      refine sr_evg (b := false) (e := 26) rfl rfl hg49 (v := .agg #[str y21.1.Salt, .int .i64 y21.1.Rounds, str y21.1.Hash]) (ev_loads (cs := [str y21.1.Salt, .int .i64 y21.1.Rounds, str y21.1.Hash]) Tryz.isAgg45 Tryz.sizeOf45 rfl (hB30.cells (vs := [str y21.1.Salt, .int .i64 y21.1.Rounds, str y21.1.Hash]) rfl)) (by decide) ?_
      obtain ⟨y57, hy58, hS⟩ := bind_some' hS
      refine sr_callg (b := false) (e := 26) rfl rfl hg49 (vs := [.pointer (some ⟨g11, 0, none⟩), str ([97, 110, 110]), .agg #[str y21.1.Salt, .int .i64 y21.1.Rounds, str y21.1.Hash], str ([115, 101, 101, 100])]) rfl Tryz.call25 rfl (login_Logins_Enroll_ok _ (hg.fr hz hb) (ρA := ρ27) hb.bd (hz.fr hg hb) (o := 200) (by decide) (⟨_, _, _, _, hB20, hP13, h15, h17, h19⟩ : login_Logins.O (fun p => 200 + p) ρ27 w31 g11 z9) hy58) (by decide) ?_
      rintro _ w59 ⟨ρ71, rfl, ⟨v62, v64, v66, v68, hB70, hP63, h65, h67, h69⟩, htr61⟩
      replace hb := hb.trans htr61
      replace hj52 := (hj52.trans htr61).weak (J' := (fun t => ([200, 201, 202, 203, 204, 205, 206] : List Nat).contains t)) (by intro t h; simp [rng] at h ⊢ <;> omega) rfl rfl
      replace hB70 : Blk ρ71 200 w59 g11 (.cells #[v62, v64, v66, v68] 69 (0, 0)) := hB70
      replace hP63 : PtrO secret_Locks.O (fun q => 200 + (1 + q)) ρ71 w59 v62 y57.2.locks := hP63
      replace h65 : MapT str login_credentials.c true ρ71 204 w59 v64 y57.2.users := h65
      replace h67 : MapT str (intC .i64) false ρ71 205 w59 v66 y57.2.counters := h67
      replace h69 : MapT str login_attempt.c true ρ71 206 w59 v68 y57.2.attempts := h69
      refine sr_evg (b := false) (e := 26) rfl rfl hg49 (v := .bool (y57.1 != 0)) (ev_ne rfl rfl) (by decide) ?_
      refine sr_ev (v := .bool (y57.1 != 0)) (ev_pick_f rfl hg49 rfl) (by decide) ?_
      exact sr_weaken (l' := [(3, .pointer (some ⟨g11, 0, none⟩)), (31, .bool (y57.1 != 0))]) (.cons rfl (.cons rfl (.nil _))) (K50 (y57.1 != 0, y57.2) _ ⟨(Option.some.inj hS).symm, _, ⟨_, _, _, _, hB70, hP63, h65, h67, h69⟩, hj52⟩)
   ·intro K42
    rcases Bool.eq_false_or_eq_true ((y1.2 != 0) || (y21.2 != 0)) with hg41 | hg41
    all_goals try have hj44 : Tr ρ27 w31 (fun _ => false) ρ27 w31 := Tr.refl hb.bd
    ·refine sr_pass (e := 22) rfl rfl (by rw [hg41]; rfl) (by decide) ?_
     refine sr_pass (e := 22) rfl rfl (by rw [hg41]; rfl) (by decide) ?_
     refine sr_ev (v := .bool true) (ev_pick_t rfl hg41 rfl) (by decide) ?_
     exact sr_weaken (l' := [(3, .pointer (some ⟨g11, 0, none⟩)), (5, .pointer (some ⟨g26, 0, none⟩)), (25, .bool true)]) (.cons rfl (.cons rfl (.cons rfl (.nil _)))) (K42 true _ ⟨by first | (rw [hg41]; rfl) | rfl, rfl⟩)
    ·refine sr_evg (b := false) (e := 22) rfl rfl hg41 (v := .pointer (some ⟨g11, 0, none⟩)) (ev_move rfl) (by decide) ?_
     refine sr_evg (b := false) (e := 22) rfl rfl hg41 (v := .bool false) (ev_peqT_some Tryz.underlying25 rfl rfl) (by decide) ?_
     refine sr_ev (v := .bool false) (ev_pick_f rfl hg41 rfl) (by decide) ?_
     exact sr_weaken (l' := [(3, .pointer (some ⟨g11, 0, none⟩)), (5, .pointer (some ⟨g26, 0, none⟩)), (25, .bool false)]) (.cons rfl (.cons rfl (.cons rfl (.nil _)))) (K42 false _ ⟨by first | (rw [hg41]; rfl) | rfl, rfl⟩)
  ·intro K34
   rcases Bool.eq_false_or_eq_true (y1.2 != 0) with hg33 | hg33
   all_goals try have hj36 : Tr ρ27 w31 (fun _ => false) ρ27 w31 := Tr.refl hb.bd
   ·refine sr_pass (e := 18) rfl rfl (by rw [hg33]; rfl) (by decide) ?_
    refine sr_pass (e := 18) rfl rfl (by rw [hg33]; rfl) (by decide) ?_
    refine sr_ev (v := .bool true) (ev_pick_t rfl hg33 rfl) (by decide) ?_
    exact sr_weaken (l' := [(3, .pointer (some ⟨g11, 0, none⟩)), (5, .pointer (some ⟨g26, 0, none⟩)), (21, .bool true)]) (.cons rfl (.cons rfl (.cons rfl (.nil _)))) (K34 true _ ⟨by first | (rw [hg33]; rfl) | rfl, rfl⟩)
   ·refine sr_evg (b := false) (e := 18) rfl rfl hg33 (v := .int .i64 y21.2) (ev_move rfl) (by decide) ?_
    refine sr_evg (b := false) (e := 18) rfl rfl hg33 (v := .bool (y21.2 != 0)) (ev_ne rfl rfl) (by decide) ?_
    refine sr_ev (v := .bool (y21.2 != 0)) (ev_pick_f rfl hg33 rfl) (by decide) ?_
    exact sr_weaken (l' := [(3, .pointer (some ⟨g11, 0, none⟩)), (5, .pointer (some ⟨g26, 0, none⟩)), (21, .bool (y21.2 != 0))]) (.cons rfl (.cons rfl (.cons rfl (.nil _)))) (K34 (y21.2 != 0) _ ⟨by first | (rw [hg33]; rfl) | rfl, rfl⟩)
theorem clock_Sub_ok (w0 : World) (hg : Gs w0) {a_0 : Int} {b_1 : Int} {r : Int} (hS : clock_Sub a_0 b_1 = some r) :
  Calls Tryz.prog 88 #[.int .i64 a_0, .int .i64 b_1] w0 (Ret (fun v w' => v = .int .i64 r ∧ Below w0.heap.size w0 w')) := by
 unfold clock_Sub at hS
 have hb := Below.refl w0.heap.size w0
 refine calls_of_ke Tryz.func88 rfl (n := 10) rfl rfl (l := [(0, .int .i64 a_0), (1, .int .i64 b_1)]) rfl ?_
 refine ke_seq ?_
 refine ke_region ?_
 refine sr_ev (v := .int .i64 0) (ev_assign rfl) (by decide) ?_
 refine sr_end (l' := [(0, .int .i64 a_0), (1, .int .i64 b_1)]) (.cons rfl (.cons rfl (.nil _))) ?_
 refine ke_seq ?_
 refine ke_region ?_
 refine sr_ev (v := .int .i64 a_0) (ev_move rfl) (by decide) ?_
 obtain ⟨y1, hy2, hS⟩ := bind_some' hS
 refine sr_call (vs := [.int .i64 a_0]) rfl Tryz.call79 rfl (clock_limited_ok _ (hg.below hb) hy2) (by decide) ?_
 rintro _ w3 ⟨rfl, hbw4⟩
 replace hb := hb.trans (hbw4.mono hb.size)
 refine sr_ev (v := .int .i64 b_1) (ev_move rfl) (by decide) ?_
 obtain ⟨y5, hy6, hS⟩ := bind_some' hS
 refine sr_call (vs := [.int .i64 b_1]) rfl Tryz.call79 rfl (clock_limited_ok _ (hg.below hb) hy6) (by decide) ?_
 rintro _ w7 ⟨rfl, hbw8⟩
 replace hb := hb.trans (hbw8.mono hb.size)
 refine sr_ev (v := .int .i64 (IntKind.i64.wrap (y1 - y5))) (ev_sub rfl rfl) (by decide) ?_
 refine sr_ev (v := .int .i64 (IntKind.i64.wrap (y1 - y5))) (ev_assign rfl) (by decide) ?_
 refine sr_end (l' := [(4, .int .i64 (IntKind.i64.wrap (y1 - y5)))]) (.cons rfl (.nil _)) ?_
 cases hS
 exact ke_ret1 Tryz.func88 rfl rfl ⟨_, rfl, rfl, hb⟩
theorem login_attempt_expired_ok (w0 : World) (hg : Gs w0) {ρA : Tags} (hbd : ∀ b, ρA b ≠ 0 → b < w0.heap.size) (hz : Gz ρA) {a_0 : login_attempt} {now_1 : Int} {v1 : Value} {r : Bool} (h2 : SlR api_Proof.c (Wb ρA) w0 v1 a_0.proofs) (hS : login_attempt_expired a_0 now_1 = some r) :
  Calls Tryz.prog 44 #[.agg #[str a_0.user, .int .i64 a_0.begun, v1], .int .i64 now_1] w0 (Ret (fun v w' => v = .bool r ∧ Below w0.heap.size w0 w')) := by
 unfold login_attempt_expired at hS
 have hb := flat1_fr (ρ := ρA) (w := w0) hbd
 have hz := hz.flat1
 replace h2 := SlR.mv h2 flat1_rd
 refine calls_of_ke Tryz.func44 rfl (n := 10) rfl rfl (l := [(0, .agg #[str a_0.user, .int .i64 a_0.begun, v1]), (1, .int .i64 now_1)]) rfl ?_
 refine ke_seq ?_
 refine ke_region ?_
 refine sr_boxT 4 (by decide) hb.bd rfl (by decide) ?_
 intro g3 ρ4 w5 hB7 htr6
 replace h2 := h2.mv htr6.rd
 replace hb := hb.trans htr6
 replace hB7 : Blk ρ4 4 w5 g3 (.cells #[str a_0.user, .int .i64 a_0.begun, v1] 74 (0, 0)) := hB7
 refine sr_ev (v := .bool false) (ev_assign rfl) (by decide) ?_
 refine sr_end (l' := [(1, .int .i64 now_1), (2, .pointer (some ⟨g3, 0, none⟩))]) (.cons rfl (.cons rfl (.nil _))) ?_
 refine ke_seq ?_
 refine ke_region ?_
 refine sr_ev (v := .int .i64 now_1) (ev_move rfl) (by decide) ?_
 refine sr_ev (v := .pointer (some ⟨g3, 1, none⟩)) (ev_fieldAddr (i := 1) Tryz.underlying74 rfl Tryz.info3 rfl rfl) (by decide) ?_
 refine sr_ev (v := .int .i64 a_0.begun) (ev_load Tryz.isAgg3 rfl (hB7.cell rfl)) (by decide) ?_
 obtain ⟨y8, hy9, hS⟩ := bind_some' hS
 refine sr_call (vs := [.int .i64 now_1, .int .i64 a_0.begun]) rfl Tryz.call88 rfl (clock_Sub_ok _ (hg.fr hz hb) hy9) (by decide) ?_
 rintro _ w10 ⟨rfl, hbw11⟩
 have htr12 := Tr.of_below hbw11 hb.bd
 replace hb := hb.trans htr12
 refine sr_ev (v := .bool (decide (y8 ≥ 300))) (ev_ge rfl rfl) (by decide) ?_
 refine sr_ev (v := .bool (decide (y8 ≥ 300))) (ev_assign rfl) (by decide) ?_
 refine sr_end (l' := [(4, .bool (decide (y8 ≥ 300)))]) (.cons rfl (.nil _)) ?_
 cases hS
 exact ke_ret1 Tryz.func44 rfl rfl ⟨_, rfl, rfl, (hb.below (flat1_le _))⟩
theorem login_Logins_Open_B2_ok {w0 : World} (hg : Gs w0) {ρA : Tags} (hbd : ∀ b, ρA b ≠ 0 → b < w0.heap.size) (hz : Gz (flat1 ρA)) (r0 : Int → Int → List Str → login_Logins → Option (Int))
  (hr0 : ∀ {r : Int} {now_1 : Int} {n_5 : Int} {t_15 : List Str} {ogl_0m : login_Logins} {rt_15 : Nat} {gl_0 : Nat} {v21 : Value} {v23 : Value} {v25 : Value} {v27 : Value}, r0 now_1 n_5 t_15 ogl_0m = some r → ∀ {ρ : Tags} {w : World}, (Fr (flat1 ρA) w0 ρ w) → (IterT str login_attempt.c true ρ 1 17 w rt_15 v27 ogl_0m.attempts t_15) → (Blk ρ 1 w gl_0 (.cells #[v21, v23, v25, v27] 69 (0, 0))) → (PtrO secret_Locks.O (fun _ => 1) ρ w v21 ogl_0m.locks) → (MapT str login_credentials.c true ρ 1 w v23 ogl_0m.users) → (MapT str (intC .i64) false ρ 1 w v25 ogl_0m.counters) → (MapT str login_attempt.c true ρ 1 w v27 ogl_0m.attempts) → KE Tryz.prog 37 (Ret (fun v w' => v = .int .i64 r ∧ Below w0.heap.size w0 w')) 27 [.inLoop (sub (bodyOf Tryz.f37) [2, 2, 2, 1, 2, 2, 1]), .inBlock 0, .code (sub (bodyOf Tryz.f37) [2, 2, 2, 2])] [(1, .int .i64 now_1), (5, .int .i64 n_5), (15, .pointer (some ⟨rt_15, 0, none⟩))] w) {r : Int} {now_1 : Int} {n_5 : Int} {t_15 : List Str} {ogl_0m : login_Logins} {rt_15 : Nat} {gl_0 : Nat} {v51 : Value} {v53 : Value} {v55 : Value} {v57 : Value} (hS : login_Logins_Open_B2 r0 now_1 n_5 t_15 ogl_0m = some r) {ρ : Tags} {w : World} (hb : Fr (flat1 ρA) w0 ρ w) (ht_15 : IterT str login_attempt.c true ρ 1 17 w rt_15 v57 ogl_0m.attempts t_15) (hBgl_0m : Blk ρ 1 w gl_0 (.cells #[v51, v53, v55, v57] 69 (0, 0))) (hP52 : PtrO secret_Locks.O (fun _ => 1) ρ w v51 ogl_0m.locks) (h54 : MapT str login_credentials.c true ρ 1 w v53 ogl_0m.users) (h56 : MapT str (intC .i64) false ρ 1 w v55 ogl_0m.counters) (h58 : MapT str login_attempt.c true ρ 1 w v57 ogl_0m.attempts) :
  KE Tryz.prog 37 (Ret (fun v w' => v = .int .i64 r ∧ Below w0.heap.size w0 w')) 27 [.inBlock 1, .inLoop (sub (bodyOf Tryz.f37) [2, 2, 2, 1, 2, 2, 1]), .inBlock 0, .code (sub (bodyOf Tryz.f37) [2, 2, 2, 2])] [(1, .int .i64 now_1), (5, .int .i64 n_5), (15, .pointer (some ⟨rt_15, 0, none⟩))] w := by
 unfold login_Logins_Open_B2 at hS
 refine ke_inBlock ?_
 have hK := hr0 hS hb ht_15 hBgl_0m hP52 h54 h56 h58
 exact ke_weaken (l' := [(1, .int .i64 now_1), (5, .int .i64 n_5), (15, .pointer (some ⟨rt_15, 0, none⟩))]) (.cons rfl (.cons rfl (.cons rfl (.nil _)))) hK
theorem login_Logins_Open_L1_ok {w0 : World} (hg : Gs w0) {ρA : Tags} (hbd : ∀ b, ρA b ≠ 0 → b < w0.heap.size) (hz : Gz (flat1 ρA)) : ∀ (n : Nat), ∀ {r : Int} {now_1 : Int} {n_5 : Int} {t_15 : List Str} {ogl_0m : login_Logins} {rt_15 : Nat} {gl_0 : Nat} {v21 : Value} {v23 : Value} {v25 : Value} {v27 : Value}, login_Logins_Open_L1 n now_1 n_5 t_15 ogl_0m = some r → ∀ {ρ : Tags} {w : World}, (Fr (flat1 ρA) w0 ρ w) → (IterT str login_attempt.c true ρ 1 17 w rt_15 v27 ogl_0m.attempts t_15) → (Blk ρ 1 w gl_0 (.cells #[v21, v23, v25, v27] 69 (0, 0))) → (PtrO secret_Locks.O (fun _ => 1) ρ w v21 ogl_0m.locks) → (MapT str login_credentials.c true ρ 1 w v23 ogl_0m.users) → (MapT str (intC .i64) false ρ 1 w v25 ogl_0m.counters) → (MapT str login_attempt.c true ρ 1 w v27 ogl_0m.attempts) → KE Tryz.prog 37 (Ret (fun v w' => v = .int .i64 r ∧ Below w0.heap.size w0 w')) 27 [.code (sub (bodyOf Tryz.f37) [2, 2, 2, 1, 2, 2, 1]), .inLoop (sub (bodyOf Tryz.f37) [2, 2, 2, 1, 2, 2, 1]), .inBlock 0, .code (sub (bodyOf Tryz.f37) [2, 2, 2, 2])] [(1, .int .i64 now_1), (5, .int .i64 n_5), (15, .pointer (some ⟨rt_15, 0, none⟩))] w := by
 intro n
 induction n with
 | zero => intro r now_1 n_5 t_15 ogl_0m rt_15 gl_0 v21 v23 v25 v27 hS; cases hS
 | succ n ih =>
  have hr0 : ∀ {r : Int} {now_1 : Int} {n_5 : Int} {t_15 : List Str} {ogl_0m : login_Logins} {rt_15 : Nat} {gl_0 : Nat} {v21 : Value} {v23 : Value} {v25 : Value} {v27 : Value}, login_Logins_Open_L1 n now_1 n_5 t_15 ogl_0m = some r → ∀ {ρ : Tags} {w : World}, (Fr (flat1 ρA) w0 ρ w) → (IterT str login_attempt.c true ρ 1 17 w rt_15 v27 ogl_0m.attempts t_15) → (Blk ρ 1 w gl_0 (.cells #[v21, v23, v25, v27] 69 (0, 0))) → (PtrO secret_Locks.O (fun _ => 1) ρ w v21 ogl_0m.locks) → (MapT str login_credentials.c true ρ 1 w v23 ogl_0m.users) → (MapT str (intC .i64) false ρ 1 w v25 ogl_0m.counters) → (MapT str login_attempt.c true ρ 1 w v27 ogl_0m.attempts) → KE Tryz.prog 37 (Ret (fun v w' => v = .int .i64 r ∧ Below w0.heap.size w0 w')) 27 [.inLoop (sub (bodyOf Tryz.f37) [2, 2, 2, 1, 2, 2, 1]), .inBlock 0, .code (sub (bodyOf Tryz.f37) [2, 2, 2, 2])] [(1, .int .i64 now_1), (5, .int .i64 n_5), (15, .pointer (some ⟨rt_15, 0, none⟩))] w := fun {r} {now_1} {n_5} {t_15} {ogl_0m} {rt_15} {gl_0} {v21} {v23} {v25} {v27} hS {ρ} {w} hb ht_15 hBgl_0m hP22 h24 h26 h28 => ke_inLoop (ih hS hb ht_15 hBgl_0m hP22 h24 h26 h28)
  clear ih
  intro r now_1 n_5 t_15 ogl_0m rt_15 gl_0 v21 v23 v25 v27 hS ρ w hb ht_15 hBgl_0m hP22 h24 h26 h28
  unfold login_Logins_Open_L1 at hS
  refine ke_seq ?_
  refine ke_region ?_
  refine sr_nextM ht_15 rfl (by decide) hb.bd hS rfl (by decide) (fun hS => ?_) (fun e30 cs31 w32 hS hrd34 ht_151 htr33 hent35 => ?_)
  ·refine sr_ev (v := .bool false) (ev_extract rfl rfl) (by decide) ?_
   refine sr_end (l' := [(1, .int .i64 now_1), (5, .int .i64 n_5), (15, .pointer (some ⟨rt_15, 0, none⟩)), (17, .bool false)]) (.cons rfl (.cons rfl (.cons rfl (.cons rfl (.nil _))))) ?_
   refine ke_seq ?_
   refine ke_cond (t := false) rfl (fun h => by cases h) (fun _ => ?_)
   refine ke_exit (k' := _) rfl ?_
   refine ke_seq ?_
   refine ke_region ?_
   refine sr_ev (v := .int .i64 n_5) (ev_move rfl) (by decide) ?_
   refine sr_ev (v := .int .i64 n_5) (ev_assign rfl) (by decide) ?_
   refine sr_end (l' := [(4, .int .i64 n_5)]) (.cons rfl (.nil _)) ?_
   cases hS
   exact ke_ret1 Tryz.func37 rfl rfl ⟨_, rfl, rfl, (hb.below (flat1_le _))⟩
  ·skip
   replace h28 := h28.mv (htr33.mv (i := 1) rfl)
   replace hBgl_0m := hBgl_0m.mv (htr33.mv (i := 1) rfl)
   replace hP22 := PtrO.mv hP22 secret_Locks.objK (fun p hp => htr33.mv (i := 1) rfl) (fun _ _ => by decide)
   replace h24 := h24.mv (htr33.mv (i := 1) rfl)
   replace h26 := h26.mv (htr33.mv (i := 1) rfl)
   replace hb := hb.trans htr33
   replace ht_15 := ht_151
   clear ht_151
   obtain ⟨v36, hcshrd34, h37⟩ := hrd34
   obtain rfl : cs31 = [str e30.2.user, .int .i64 e30.2.begun, v36] := hcshrd34
   refine sr_ev (v := .bool true) (ev_extract rfl rfl) (by decide) ?_
   refine sr_end (l' := [(1, .int .i64 now_1), (5, .int .i64 n_5), (15, .pointer (some ⟨rt_15, 0, none⟩)), (17, .bool true)]) (.cons rfl (.cons rfl (.cons rfl (.cons rfl (.nil _))))) ?_
   refine ke_seq ?_
   refine ke_cond (t := true) rfl (fun _ => ?_) (fun h => by cases h)
   refine ke_skip ?_
   refine ke_block ?_
   refine ke_seq ?_
   refine ke_region ?_
   refine sr_ev (v := .tuple #[str e30.1, .agg #[str e30.2.user, .int .i64 e30.2.begun, v36]]) (hent35 rfl) (by decide) ?_
   refine sr_ev (v := .agg #[str e30.2.user, .int .i64 e30.2.begun, v36]) (ev_extract rfl rfl) (by decide) ?_
   refine sr_allocT 9 (by decide) hb.bd Tryz.zeroValue74 (by decide) ?_
   intro g38 ρ39 w40 hB42 htr41
   replace ht_15 := ht_15.mv (htr41.mv (i := 1) rfl) (htr41.mv (i := 17) rfl)
   replace h28 := h28.mv (htr41.mv (i := 1) rfl)
   replace h37 := h37.mv htr41.rd
   replace hBgl_0m := hBgl_0m.mv (htr41.mv (i := 1) rfl)
   replace hP22 := PtrO.mv hP22 secret_Locks.objK (fun p hp => htr41.mv (i := 1) rfl) (fun _ _ => by decide)
   replace h24 := h24.mv (htr41.mv (i := 1) rfl)
   replace h26 := h26.mv (htr41.mv (i := 1) rfl)
   replace hb := hb.trans htr41
   replace hB42 : Blk ρ39 9 w40 g38 (.cells #[str ([]), .int .i64 0, (.slice none 0 0)] 74 (0, 0)) := hB42
   refine sr_storeT (v := .agg #[str e30.2.user, .int .i64 e30.2.begun, v36]) (vs := [str e30.2.user, .int .i64 e30.2.begun, v36]) (cs' := #[str e30.2.user, .int .i64 e30.2.begun, v36]) hB42 (by decide) hb.bd rfl rfl rfl Tryz.sizeOf74 rfl (by first | rfl | (simp only [List.all_cons, List.all_nil, SlR.oneCell h37]; done) | (simp only [List.all_cons, List.all_nil, SlR.oneCell h37]; rfl)) rfl ?_
   intro w43 hB421 htr44
   replace ht_15 := ht_15.mv (htr44.mv (i := 1) rfl) (htr44.mv (i := 17) rfl)
   replace h28 := h28.mv (htr44.mv (i := 1) rfl)
   replace h37 := h37.mv htr44.rd
   replace hBgl_0m := hBgl_0m.mv (htr44.mv (i := 1) rfl)
   replace hP22 := PtrO.mv hP22 secret_Locks.objK (fun p hp => htr44.mv (i := 1) rfl) (fun _ _ => by decide)
   replace h24 := h24.mv (htr44.mv (i := 1) rfl)
   replace h26 := h26.mv (htr44.mv (i := 1) rfl)
   replace hb := hb.trans htr44
   replace hB42 : Blk ρ39 9 w43 g38 (.cells #[str e30.2.user, .int .i64 e30.2.begun, v36] 74 (0, 0)) := hB421
   clear hB421
   refine sr_end (l' := [(1, .int .i64 now_1), (5, .int .i64 n_5), (7, .pointer (some ⟨g38, 0, none⟩)), (15, .pointer (some ⟨rt_15, 0, none⟩))]) (.cons rfl (.cons rfl (.cons rfl (.cons rfl (.nil _))))) ?_
   refine ke_seq ?_
   refine ke_region ?_
   refine sr_ev (v := .agg #[str e30.2.user, .int .i64 e30.2.begun, v36]) (ev_loads (cs := [str e30.2.user, .int .i64 e30.2.begun, v36]) Tryz.isAgg74 Tryz.sizeOf74 rfl (hB42.cells (vs := [str e30.2.user, .int .i64 e30.2.begun, v36]) rfl)) (by decide) ?_
   refine sr_ev (v := .int .i64 now_1) (ev_move rfl) (by decide) ?_
   obtain ⟨y45, hy46, hS⟩ := bind_some' hS
   refine sr_call (vs := [.agg #[str e30.2.user, .int .i64 e30.2.begun, v36], .int .i64 now_1]) rfl Tryz.call44 rfl (login_attempt_expired_ok _ (hg.fr hz hb) (ρA := ρ39) hb.bd (hz.fr hg hb) h37 hy46) (by decide) ?_
   rintro _ w47 ⟨rfl, hbw48⟩
   have htr49 := Tr.of_below hbw48 hb.bd
   replace ht_15 := ht_15.mv (htr49.mv (i := 1) rfl) (htr49.mv (i := 17) rfl)
   replace h28 := h28.mv (htr49.mv (i := 1) rfl)
   replace hBgl_0m := hBgl_0m.mv (htr49.mv (i := 1) rfl)
   replace hP22 := PtrO.mv hP22 secret_Locks.objK (fun p hp => htr49.mv (i := 1) rfl) (fun _ _ => by decide)
   replace h24 := h24.mv (htr49.mv (i := 1) rfl)
   replace h26 := h26.mv (htr49.mv (i := 1) rfl)
   replace hb := hb.trans htr49
   refine sr_ev (v := .bool (!y45)) (ev_not rfl) (by decide) ?_
   refine sr_end (l' := [(1, .int .i64 now_1), (5, .int .i64 n_5), (15, .pointer (some ⟨rt_15, 0, none⟩)), (23, .bool (!y45))]) (.cons rfl (.cons rfl (.cons rfl (.cons rfl (.nil _))))) ?_
   refine ke_cond (t := !y45) rfl (fun hc50 => ?_) (fun hc50 => ?_)
   ·replace hS := ite_true' hS hc50
    refine ke_region ?_
    refine sr_ev (v := .int .i64 n_5) (ev_move rfl) (by decide) ?_
    refine sr_ev (v := .int .i64 (IntKind.i64.wrap (n_5 + 1))) (ev_add rfl rfl) (by decide) ?_
    refine sr_ev (v := .int .i64 (IntKind.i64.wrap (n_5 + 1))) (ev_assign rfl) (by decide) ?_
    refine sr_end (l' := [(1, .int .i64 now_1), (5, .int .i64 (IntKind.i64.wrap (n_5 + 1))), (15, .pointer (some ⟨rt_15, 0, none⟩))]) (.cons rfl (.cons rfl (.cons rfl (.nil _)))) ?_
    have hK := login_Logins_Open_B2_ok hg hbd hz _ hr0 hS hb ht_15 hBgl_0m hP22 h24 h26 h28
    exact ke_weaken (l' := [(1, .int .i64 now_1), (5, .int .i64 (IntKind.i64.wrap (n_5 + 1))), (15, .pointer (some ⟨rt_15, 0, none⟩))]) (.cons rfl (.cons rfl (.cons rfl (.nil _)))) hK
   ·replace hS := ite_false' hS hc50
    refine ke_skip ?_
    have hK := login_Logins_Open_B2_ok hg hbd hz _ hr0 hS hb ht_15 hBgl_0m hP22 h24 h26 h28
    exact ke_weaken (l' := [(1, .int .i64 now_1), (5, .int .i64 n_5), (15, .pointer (some ⟨rt_15, 0, none⟩))]) (.cons rfl (.cons rfl (.cons rfl (.nil _)))) hK
theorem login_Logins_Open_ok (w0 : World) (hg : Gs w0) {ρA : Tags} (hbd : ∀ b, ρA b ≠ 0 → b < w0.heap.size) (hz : Gz ρA) {τ0 : Nat → Nat} (hτ0 : ∀ p, 1 ≤ τ0 p) {l_0 : login_Logins} {now_1 : Int} {gl_0 : Nat} {r : Int} (ho0 : login_Logins.O τ0 ρA w0 gl_0 l_0) (hS : login_Logins_Open l_0 now_1 = some r) :
  Calls Tryz.prog 37 #[.pointer (some ⟨gl_0, 0, none⟩), .int .i64 now_1] w0 (Ret (fun v w' => v = .int .i64 r ∧ Below w0.heap.size w0 w')) := by
 unfold login_Logins_Open at hS
 have hb := flat1_fr (ρ := ρA) (w := w0) hbd
 have hz := hz.flat1
 obtain ⟨v1, v3, v5, v7, hB9, hP2, h4, h6, h8⟩ := ho0
 replace hB9 := hB9.mv (flat1_mv (hτ0 0))
 replace hP2 := PtrO.mv hP2 secret_Locks.objK (fun p hp => flat1_mv (hτ0 (1 + p))) (fun _ _ => by decide)
 replace h4 := h4.mv (flat1_mv (hτ0 4))
 replace h6 := h6.mv (flat1_mv (hτ0 5))
 replace h8 := h8.mv (flat1_mv (hτ0 6))
 replace hB9 : Blk (flat1 ρA) 1 w0 gl_0 (.cells #[v1, v3, v5, v7] 69 (0, 0)) := hB9
 replace hP2 : PtrO secret_Locks.O (fun _ => 1) (flat1 ρA) w0 v1 l_0.locks := hP2
 replace h4 : MapT str login_credentials.c true (flat1 ρA) 1 w0 v3 l_0.users := h4
 replace h6 : MapT str (intC .i64) false (flat1 ρA) 1 w0 v5 l_0.counters := h6
 replace h8 : MapT str login_attempt.c true (flat1 ρA) 1 w0 v7 l_0.attempts := h8
 refine calls_of_ke Tryz.func37 rfl (n := 27) rfl rfl (l := [(0, .pointer (some ⟨gl_0, 0, none⟩)), (1, .int .i64 now_1)]) rfl ?_
 refine ke_seq ?_
 refine ke_region ?_
 refine sr_ev (v := .int .i64 0) (ev_assign rfl) (by decide) ?_
 refine sr_end (l' := [(0, .pointer (some ⟨gl_0, 0, none⟩)), (1, .int .i64 now_1)]) (.cons rfl (.cons rfl (.nil _))) ?_
 refine ke_seq ?_
 refine ke_seq ?_
 refine ke_region ?_
 refine sr_ev (v := .pointer (some ⟨gl_0, 0, none⟩)) (ev_move rfl) (by decide) ?_
 obtain ⟨y10, hy11, hS⟩ := bind_some' hS
 refine sr_call (vs := [.pointer (some ⟨gl_0, 0, none⟩)]) rfl Tryz.call42 rfl (login_Logins_ready_ok _ (hg.fr hz hb) (ρA := (flat1 ρA)) hb.bd (hz.fr hg hb) (τ0 := (fun _ => 1)) (fun _ => by decide) (⟨_, _, _, _, hB9, hP2, h4, h6, h8⟩ : login_Logins.O (fun _ => 1) (flat1 ρA) w0 gl_0 l_0) hy11) (by decide) ?_
 rintro _ w12 ⟨rfl, hbw13⟩
 have htr14 := Tr.of_below hbw13 hb.bd
 replace hB9 := hB9.mv (htr14.mv (i := 1) rfl)
 replace hP2 := PtrO.mv hP2 secret_Locks.objK (fun p hp => htr14.mv (i := 1) rfl) (fun _ _ => by decide)
 replace h4 := h4.mv (htr14.mv (i := 1) rfl)
 replace h6 := h6.mv (htr14.mv (i := 1) rfl)
 replace h8 := h8.mv (htr14.mv (i := 1) rfl)
 replace hb := hb.trans htr14
 refine sr_ev (v := .bool (!y10)) (ev_not rfl) (by decide) ?_
 refine sr_end (l' := [(0, .pointer (some ⟨gl_0, 0, none⟩)), (1, .int .i64 now_1), (10, .bool (!y10))]) (.cons rfl (.cons rfl (.cons rfl (.nil _)))) ?_
 refine ke_cond (t := !y10) rfl (fun hc15 => ?_) (fun hc15 => ?_)
 ·replace hS := ite_true' hS hc15
  refine ke_seq ?_
  refine ke_region ?_
  refine sr_ev (v := .int .i64 0) (ev_assign rfl) (by decide) ?_
  refine sr_end (l' := [(4, .int .i64 0)]) (.cons rfl (.nil _)) ?_
  cases hS
  exact ke_ret1 Tryz.func37 rfl rfl ⟨_, rfl, rfl, (hb.below (flat1_le _))⟩
 ·replace hS := ite_false' hS hc15
  refine ke_skip ?_
  refine ke_seq ?_
  refine ke_region ?_
  refine sr_ev (v := .int .i64 0) (ev_assign rfl) (by decide) ?_
  refine sr_end (l' := [(0, .pointer (some ⟨gl_0, 0, none⟩)), (1, .int .i64 now_1), (5, .int .i64 0)]) (.cons rfl (.cons rfl (.cons rfl (.nil _)))) ?_
  refine ke_seq ?_
  refine ke_seq ?_
  refine ke_region ?_
  refine sr_ev (v := .pointer (some ⟨gl_0, 0, none⟩)) (ev_move rfl) (by decide) ?_
  refine sr_ev (v := .pointer (some ⟨gl_0, 0, none⟩)) (ev_nilCheck rfl) (by decide) ?_
  refine sr_ev (v := .pointer (some ⟨gl_0, 3, none⟩)) (ev_fieldAddr (i := 3) Tryz.underlying69 rfl Tryz.info67 rfl rfl) (by decide) ?_
  refine sr_ev (v := v7) (ev_load Tryz.isAgg67 rfl (hB9.cell rfl)) (by decide) ?_
  refine sr_rangeM 17 (by decide) h8 rfl Tryz.underlying67 hb.bd rfl (by decide) ?_
  intro r16 ρ17 w18 h19 htr20
  replace h8 := h8.mv (htr20.mv (i := 1) rfl)
  replace hB9 := hB9.mv (htr20.mv (i := 1) rfl)
  replace hP2 := PtrO.mv hP2 secret_Locks.objK (fun p hp => htr20.mv (i := 1) rfl) (fun _ _ => by decide)
  replace h4 := h4.mv (htr20.mv (i := 1) rfl)
  replace h6 := h6.mv (htr20.mv (i := 1) rfl)
  replace hb := hb.trans htr20
  refine sr_end (l' := [(1, .int .i64 now_1), (5, .int .i64 0), (15, .pointer (some ⟨r16, 0, none⟩))]) (.cons rfl (.cons rfl (.cons rfl (.nil _)))) ?_
  refine ke_block ?_
  have hK := login_Logins_Open_L1_ok hg hbd hz _ hS hb h19 hB9 hP2 h4 h6 h8
  exact ke_weaken (l' := [(1, .int .i64 now_1), (5, .int .i64 0), (15, .pointer (some ⟨r16, 0, none⟩))]) (.cons rfl (.cons rfl (.cons rfl (.nil _)))) (ke_loop hK)
theorem login_Logins_Begin_1_ok (w0 : World) (hg : Gs w0) {ρA : Tags} (hbd : ∀ b, ρA b ≠ 0 → b < w0.heap.size) (hz : Gz ρA) {__0 : Str} {a_1 : login_attempt} {c2 : Int} {v1 : Value} {b3 : Nat} {r : Bool} (h2 : SlR api_Proof.c (Wb ρA) w0 v1 a_1.proofs) (he4 : ElT (intC .i64) ρA 0 w0 b3 0 [.int .i64 c2] c2) (hS : login_Logins_Begin_1 __0 a_1 c2 = some r) :
  Calls Tryz.prog 46 #[str __0, .agg #[str a_1.user, .int .i64 a_1.begun, v1], .pointer (some ⟨b3, 0, none⟩)] w0 (Ret (fun v w' => v = .bool r ∧ Below w0.heap.size w0 w')) := by
 unfold login_Logins_Begin_1 at hS
 have hb := flat1_fr (ρ := ρA) (w := w0) hbd
 have hz := hz.flat1
 replace h2 := SlR.mv h2 flat1_rd
 replace he4 := he4.mv flat1_rd (Nat.succ_pos _)
 refine calls_of_ke Tryz.func46 rfl (n := 9) rfl rfl (l := [(0, str __0), (1, .agg #[str a_1.user, .int .i64 a_1.begun, v1]), (2, .pointer (some ⟨b3, 0, none⟩))]) rfl ?_
 refine ke_seq ?_
 refine ke_region ?_
 refine sr_boxT 6 (by decide) hb.bd rfl (by decide) ?_
 intro g5 ρ6 w7 hB9 htr8
 replace he4 := he4.mv (htr8.mv (i := 0) rfl) (Nat.succ_pos _)
 replace h2 := h2.mv htr8.rd
 replace hb := hb.trans htr8
 replace hB9 : Blk ρ6 6 w7 g5 (.cells #[str a_1.user, .int .i64 a_1.begun, v1] 74 (0, 0)) := hB9
 refine sr_ev (v := .bool false) (ev_assign rfl) (by decide) ?_
 refine sr_end (l' := [(2, .pointer (some ⟨b3, 0, none⟩)), (4, .pointer (some ⟨g5, 0, none⟩))]) (.cons rfl (.cons rfl (.nil _))) ?_
 refine ke_seq ?_
 refine ke_region ?_
 refine sr_ev (v := .agg #[str a_1.user, .int .i64 a_1.begun, v1]) (ev_loads (cs := [str a_1.user, .int .i64 a_1.begun, v1]) Tryz.isAgg74 Tryz.sizeOf74 rfl (hB9.cells (vs := [str a_1.user, .int .i64 a_1.begun, v1]) rfl)) (by decide) ?_
 refine sr_ev (v := .int .i64 c2) (ev_load Tryz.isAgg3 rfl (he4.cell 0 _ rfl)) (by decide) ?_
 obtain ⟨y10, hy11, hS⟩ := bind_some' hS
 refine sr_call (vs := [.agg #[str a_1.user, .int .i64 a_1.begun, v1], .int .i64 c2]) rfl Tryz.call44 rfl (login_attempt_expired_ok _ (hg.fr hz hb) (ρA := ρ6) hb.bd (hz.fr hg hb) h2 hy11) (by decide) ?_
 rintro _ w12 ⟨rfl, hbw13⟩
 have htr14 := Tr.of_below hbw13 hb.bd
 replace hb := hb.trans htr14
 refine sr_ev (v := .bool y10) (ev_assign rfl) (by decide) ?_
 refine sr_end (l' := [(5, .bool y10)]) (.cons rfl (.nil _)) ?_
 cases hS
 exact ke_ret1 Tryz.func46 rfl rfl ⟨_, rfl, rfl, (hb.below (flat1_le _))⟩
theorem maps_DeleteFunc_map_string_login_attempt_string_login_attempt__Logins_Begin_1_B2_ok {w0 : World} (hg : Gs w0) {ρA : Tags} (hbd : ∀ b, ρA b ≠ 0 → b < w0.heap.size) {o : Nat} (ho2 : 2 ≤ o) {v1 : Value} (hz : Gz (enter ρA o 1)) (r0 : GMap Str login_attempt → Int → List Str → Option (GMap Str login_attempt))
  (hr0 : ∀ {r : GMap Str login_attempt} {m_0 : GMap Str login_attempt} {del_1_c0 : Int} {t_7 : List Str} {bdel_1_c0 : Nat} {rt_7 : Nat}, r0 m_0 del_1_c0 t_7 = some r → ∀ {ρ : Tags} {w : World}, (Fr (enter ρA o 1) w0 ρ w) → (MapT str login_attempt.c true ρ 100 w v1 m_0) → (ElT (intC .i64) ρ 0 w bdel_1_c0 0 [.int .i64 del_1_c0] del_1_c0) → (IterT str login_attempt.c true ρ 100 9 w rt_7 v1 m_0 t_7) → KE Tryz.prog 45 (Ret (fun v w' => ∃ ρ', v = .tuple #[] ∧ MapT str login_attempt.c true ρ' o w' v1 r ∧ Tr ρA w0 (rng o 1) ρ' w')) 19 [.inLoop (sub (bodyOf Tryz.f45) [2, 2, 1]), .inBlock 0] [(0, v1), (1, .func (.func 46) #[] #[.pointer (some ⟨bdel_1_c0, 0, none⟩)]), (7, .pointer (some ⟨rt_7, 0, none⟩))] w) {r : GMap Str login_attempt} {m_0 : GMap Str login_attempt} {del_1_c0 : Int} {t_7 : List Str} {bdel_1_c0 : Nat} {rt_7 : Nat} (hS : maps_DeleteFunc_map_string_login_attempt_string_login_attempt__Logins_Begin_1_B2 r0 m_0 del_1_c0 t_7 = some r) {ρ : Tags} {w : World} (hb : Fr (enter ρA o 1) w0 ρ w) (hm_0 : MapT str login_attempt.c true ρ 100 w v1 m_0) (hedel_1_c0 : ElT (intC .i64) ρ 0 w bdel_1_c0 0 [.int .i64 del_1_c0] del_1_c0) (ht_7 : IterT str login_attempt.c true ρ 100 9 w rt_7 v1 m_0 t_7) :
  KE Tryz.prog 45 (Ret (fun v w' => ∃ ρ', v = .tuple #[] ∧ MapT str login_attempt.c true ρ' o w' v1 r ∧ Tr ρA w0 (rng o 1) ρ' w')) 19 [.inBlock 1, .inLoop (sub (bodyOf Tryz.f45) [2, 2, 1]), .inBlock 0] [(0, v1), (1, .func (.func 46) #[] #[.pointer (some ⟨bdel_1_c0, 0, none⟩)]), (7, .pointer (some ⟨rt_7, 0, none⟩))] w := by
 unfold maps_DeleteFunc_map_string_login_attempt_string_login_attempt__Logins_Begin_1_B2 at hS
 refine ke_inBlock ?_
 have hK := hr0 hS hb hm_0 hedel_1_c0 ht_7
 exact ke_weaken (l' := [(0, v1), (1, .func (.func 46) #[] #[.pointer (some ⟨bdel_1_c0, 0, none⟩)]), (7, .pointer (some ⟨rt_7, 0, none⟩))]) (.cons rfl (.cons rfl (.cons rfl (.nil _)))) hK
theorem maps_DeleteFunc_map_string_login_attempt_string_login_attempt__Logins_Begin_1_L1_ok {w0 : World} (hg : Gs w0) {ρA : Tags} (hbd : ∀ b, ρA b ≠ 0 → b < w0.heap.size) {o : Nat} (ho2 : 2 ≤ o) {v1 : Value} (hz : Gz (enter ρA o 1)) : ∀ (n : Nat), ∀ {r : GMap Str login_attempt} {m_0 : GMap Str login_attempt} {del_1_c0 : Int} {t_7 : List Str} {bdel_1_c0 : Nat} {rt_7 : Nat}, maps_DeleteFunc_map_string_login_attempt_string_login_attempt__Logins_Begin_1_L1 n m_0 del_1_c0 t_7 = some r → ∀ {ρ : Tags} {w : World}, (Fr (enter ρA o 1) w0 ρ w) → (MapT str login_attempt.c true ρ 100 w v1 m_0) → (ElT (intC .i64) ρ 0 w bdel_1_c0 0 [.int .i64 del_1_c0] del_1_c0) → (IterT str login_attempt.c true ρ 100 9 w rt_7 v1 m_0 t_7) → KE Tryz.prog 45 (Ret (fun v w' => ∃ ρ', v = .tuple #[] ∧ MapT str login_attempt.c true ρ' o w' v1 r ∧ Tr ρA w0 (rng o 1) ρ' w')) 19 [.code (sub (bodyOf Tryz.f45) [2, 2, 1]), .inLoop (sub (bodyOf Tryz.f45) [2, 2, 1]), .inBlock 0] [(0, v1), (1, .func (.func 46) #[] #[.pointer (some ⟨bdel_1_c0, 0, none⟩)]), (7, .pointer (some ⟨rt_7, 0, none⟩))] w := by
 intro n
 induction n with
 | zero => intro r m_0 del_1_c0 t_7 bdel_1_c0 rt_7 hS; cases hS
 | succ n ih =>
  have hr0 : ∀ {r : GMap Str login_attempt} {m_0 : GMap Str login_attempt} {del_1_c0 : Int} {t_7 : List Str} {bdel_1_c0 : Nat} {rt_7 : Nat}, maps_DeleteFunc_map_string_login_attempt_string_login_attempt__Logins_Begin_1_L1 n m_0 del_1_c0 t_7 = some r → ∀ {ρ : Tags} {w : World}, (Fr (enter ρA o 1) w0 ρ w) → (MapT str login_attempt.c true ρ 100 w v1 m_0) → (ElT (intC .i64) ρ 0 w bdel_1_c0 0 [.int .i64 del_1_c0] del_1_c0) → (IterT str login_attempt.c true ρ 100 9 w rt_7 v1 m_0 t_7) → KE Tryz.prog 45 (Ret (fun v w' => ∃ ρ', v = .tuple #[] ∧ MapT str login_attempt.c true ρ' o w' v1 r ∧ Tr ρA w0 (rng o 1) ρ' w')) 19 [.inLoop (sub (bodyOf Tryz.f45) [2, 2, 1]), .inBlock 0] [(0, v1), (1, .func (.func 46) #[] #[.pointer (some ⟨bdel_1_c0, 0, none⟩)]), (7, .pointer (some ⟨rt_7, 0, none⟩))] w := fun {r} {m_0} {del_1_c0} {t_7} {bdel_1_c0} {rt_7} hS {ρ} {w} hb hm_0 hedel_1_c0 ht_7 => ke_inLoop (ih hS hb hm_0 hedel_1_c0 ht_7)
  clear ih
  intro r m_0 del_1_c0 t_7 bdel_1_c0 rt_7 hS ρ w hb hm_0 hedel_1_c0 ht_7
  unfold maps_DeleteFunc_map_string_login_attempt_string_login_attempt__Logins_Begin_1_L1 at hS
  refine ke_seq ?_
  refine ke_region ?_
  refine sr_nextM ht_7 rfl (by decide) hb.bd hS rfl (by decide) (fun hS => ?_) (fun e10 cs11 w12 hS hrd14 ht_71 htr13 hent15 => ?_)
  ·refine sr_ev (v := .bool false) (ev_extract rfl rfl) (by decide) ?_
   refine sr_end (l' := [(0, v1), (1, .func (.func 46) #[] #[.pointer (some ⟨bdel_1_c0, 0, none⟩)]), (7, .pointer (some ⟨rt_7, 0, none⟩)), (9, .bool false)]) (.cons rfl (.cons rfl (.cons rfl (.cons rfl (.nil _))))) ?_
   refine ke_seq ?_
   refine ke_cond (t := false) rfl (fun h => by cases h) (fun _ => ?_)
   refine ke_exit (k' := _) rfl ?_
   cases hS
   exact ke_end0 Tryz.func45 rfl ⟨_, rfl, leave ρA w0 o 1 ρ, rfl, (hm_0.mv (leave_mv (p := 0) (by decide) hb)), (leave_tr ho2 hb)⟩
  ·skip
   replace hm_0 := hm_0.mv (htr13.mv (i := 100) rfl)
   replace hedel_1_c0 := hedel_1_c0.mv (htr13.mv (i := 0) rfl) (Nat.succ_pos _)
   replace hb := hb.trans htr13
   replace ht_7 := ht_71
   clear ht_71
   obtain ⟨v16, hcshrd14, h17⟩ := hrd14
   obtain rfl : cs11 = [str e10.2.user, .int .i64 e10.2.begun, v16] := hcshrd14
   refine sr_ev (v := .bool true) (ev_extract rfl rfl) (by decide) ?_
   refine sr_end (l' := [(0, v1), (1, .func (.func 46) #[] #[.pointer (some ⟨bdel_1_c0, 0, none⟩)]), (7, .pointer (some ⟨rt_7, 0, none⟩)), (9, .bool true)]) (.cons rfl (.cons rfl (.cons rfl (.cons rfl (.nil _))))) ?_
   refine ke_seq ?_
   refine ke_cond (t := true) rfl (fun _ => ?_) (fun h => by cases h)
   refine ke_skip ?_
   refine ke_block ?_
   refine ke_seq ?_
   refine ke_region ?_
   refine sr_ev (v := .tuple #[str e10.1, .agg #[str e10.2.user, .int .i64 e10.2.begun, v16]]) (hent15 rfl) (by decide) ?_
   refine sr_ev (v := str e10.1) (ev_extract rfl rfl) (by decide) ?_
   refine sr_ev (v := .agg #[str e10.2.user, .int .i64 e10.2.begun, v16]) (ev_extract rfl rfl) (by decide) ?_
   refine sr_allocT 7 (by decide) hb.bd Tryz.zeroValue74 (by decide) ?_
   intro g18 ρ19 w20 hB22 htr21
   replace hm_0 := hm_0.mv (htr21.mv (i := 100) rfl)
   replace hedel_1_c0 := hedel_1_c0.mv (htr21.mv (i := 0) rfl) (Nat.succ_pos _)
   replace ht_7 := ht_7.mv (htr21.mv (i := 100) rfl) (htr21.mv (i := 9) rfl)
   replace h17 := h17.mv htr21.rd
   replace hb := hb.trans htr21
   replace hB22 : Blk ρ19 7 w20 g18 (.cells #[str ([]), .int .i64 0, (.slice none 0 0)] 74 (0, 0)) := hB22
   refine sr_ev (v := str e10.1) (ev_assign rfl) (by decide) ?_
   refine sr_storeT (v := .agg #[str e10.2.user, .int .i64 e10.2.begun, v16]) (vs := [str e10.2.user, .int .i64 e10.2.begun, v16]) (cs' := #[str e10.2.user, .int .i64 e10.2.begun, v16]) hB22 (by decide) hb.bd rfl rfl rfl Tryz.sizeOf74 rfl (by first | rfl | (simp only [List.all_cons, List.all_nil, SlR.oneCell h17]; done) | (simp only [List.all_cons, List.all_nil, SlR.oneCell h17]; rfl)) rfl ?_
   intro w23 hB221 htr24
   replace hm_0 := hm_0.mv (htr24.mv (i := 100) rfl)
   replace hedel_1_c0 := hedel_1_c0.mv (htr24.mv (i := 0) rfl) (Nat.succ_pos _)
   replace ht_7 := ht_7.mv (htr24.mv (i := 100) rfl) (htr24.mv (i := 9) rfl)
   replace h17 := h17.mv htr24.rd
   replace hb := hb.trans htr24
   replace hB22 : Blk ρ19 7 w23 g18 (.cells #[str e10.2.user, .int .i64 e10.2.begun, v16] 74 (0, 0)) := hB221
   clear hB221
   refine sr_end (l' := [(0, v1), (1, .func (.func 46) #[] #[.pointer (some ⟨bdel_1_c0, 0, none⟩)]), (4, str e10.1), (5, .pointer (some ⟨g18, 0, none⟩)), (7, .pointer (some ⟨rt_7, 0, none⟩))]) (.cons rfl (.cons rfl (.cons rfl (.cons rfl (.cons rfl (.nil _)))))) ?_
   refine ke_seq ?_
   refine ke_region ?_
   refine sr_ev (v := .func (.func 46) #[] #[.pointer (some ⟨bdel_1_c0, 0, none⟩)]) (ev_move rfl) (by decide) ?_
   refine sr_ev (v := str e10.1) (ev_move rfl) (by decide) ?_
   refine sr_ev (v := .agg #[str e10.2.user, .int .i64 e10.2.begun, v16]) (ev_loads (cs := [str e10.2.user, .int .i64 e10.2.begun, v16]) Tryz.isAgg74 Tryz.sizeOf74 rfl (hB22.cells (vs := [str e10.2.user, .int .i64 e10.2.begun, v16]) rfl)) (by decide) ?_
   obtain ⟨y25, hy26, hS⟩ := bind_some' hS
   refine sr_callc (vs := [str e10.1, .agg #[str e10.2.user, .int .i64 e10.2.begun, v16]]) rfl Tryz.call46 rfl (login_Logins_Begin_1_ok _ (hg.fr hz hb) (ρA := ρ19) hb.bd (hz.fr hg hb) h17 hedel_1_c0 hy26) (by decide) ?_
   rintro _ w27 ⟨rfl, hbw28⟩
   have htr29 := Tr.of_below hbw28 hb.bd
   replace hm_0 := hm_0.mv (htr29.mv (i := 100) rfl)
   replace hedel_1_c0 := hedel_1_c0.mv (htr29.mv (i := 0) rfl) (Nat.succ_pos _)
   replace ht_7 := ht_7.mv (htr29.mv (i := 100) rfl) (htr29.mv (i := 9) rfl)
   replace hb := hb.trans htr29
   refine sr_end (l' := [(0, v1), (1, .func (.func 46) #[] #[.pointer (some ⟨bdel_1_c0, 0, none⟩)]), (4, str e10.1), (7, .pointer (some ⟨rt_7, 0, none⟩)), (16, .bool y25)]) (.cons rfl (.cons rfl (.cons rfl (.cons rfl (.cons rfl (.nil _)))))) ?_
   refine ke_cond (t := y25) rfl (fun hc30 => ?_) (fun hc30 => ?_)
   ·replace hS := ite_true' hS hc30
    refine ke_region ?_
    refine sr_ev (v := v1) (ev_move rfl) (by decide) ?_
    refine sr_ev (v := str e10.1) (ev_move rfl) (by decide) ?_
    obtain ⟨w31, hrunw31, ht_71, htr32⟩ := sr_mapDelIt (n := 19) (l := [(0, v1), (1, .func (.func 46) #[] #[.pointer (some ⟨bdel_1_c0, 0, none⟩)]), (4, str e10.1), (7, .pointer (some ⟨rt_7, 0, none⟩)), (16, .bool y25), (17, v1), (18, str e10.1)]) (d := none) (x := _) (y := _) (pos := _) (after := _) (t := _) (k := e10.1) ht_7 rfl Tryz.keyB9 Tryz.underlying67 (by decide) hb.bd
    refine sr_run0 (fun a ha => hrunw31 (ha.weaken (.cons rfl (.cons rfl (.cons rfl (.cons rfl (.cons rfl (.cons rfl (.cons rfl (.nil _))))))))) rfl rfl) ?_
    replace hedel_1_c0 := hedel_1_c0.mv (htr32.mv (i := 0) rfl) (Nat.succ_pos _)
    replace hb := hb.trans htr32
    replace ht_7 := ht_71
    clear ht_71
    replace hm_0 := ht_7.map
    refine sr_end (l' := [(0, v1), (1, .func (.func 46) #[] #[.pointer (some ⟨bdel_1_c0, 0, none⟩)]), (7, .pointer (some ⟨rt_7, 0, none⟩))]) (.cons rfl (.cons rfl (.cons rfl (.nil _)))) ?_
    have hK := maps_DeleteFunc_map_string_login_attempt_string_login_attempt__Logins_Begin_1_B2_ok hg hbd ho2 hz _ hr0 hS hb hm_0 hedel_1_c0 ht_7
    exact ke_weaken (l' := [(0, v1), (1, .func (.func 46) #[] #[.pointer (some ⟨bdel_1_c0, 0, none⟩)]), (7, .pointer (some ⟨rt_7, 0, none⟩))]) (.cons rfl (.cons rfl (.cons rfl (.nil _)))) hK
   ·replace hS := ite_false' hS hc30
    refine ke_skip ?_
    have hK := maps_DeleteFunc_map_string_login_attempt_string_login_attempt__Logins_Begin_1_B2_ok hg hbd ho2 hz _ hr0 hS hb hm_0 hedel_1_c0 ht_7
    exact ke_weaken (l' := [(0, v1), (1, .func (.func 46) #[] #[.pointer (some ⟨bdel_1_c0, 0, none⟩)]), (7, .pointer (some ⟨rt_7, 0, none⟩))]) (.cons rfl (.cons rfl (.cons rfl (.nil _)))) hK
theorem maps_DeleteFunc_map_string_login_attempt_string_login_attempt__Logins_Begin_1_ok (w0 : World) (hg : Gs w0) {ρA : Tags} (hbd : ∀ b, ρA b ≠ 0 → b < w0.heap.size) (hz : Gz ρA) {o : Nat} (ho2 : 2 ≤ o) {m_0 : GMap Str login_attempt} {c1_0 : Int} {v1 : Value} {b3 : Nat} {r : GMap Str login_attempt} (h2 : MapT str login_attempt.c true ρA o w0 v1 m_0) (he4 : ElT (intC .i64) ρA 0 w0 b3 0 [.int .i64 c1_0] c1_0) (hS : maps_DeleteFunc_map_string_login_attempt_string_login_attempt__Logins_Begin_1 m_0 c1_0 = some r) :
  Calls Tryz.prog 45 #[v1, .func (.func 46) #[] #[.pointer (some ⟨b3, 0, none⟩)]] w0 (Ret (fun v w' => ∃ ρ', v = .tuple #[] ∧ MapT str login_attempt.c true ρ' o w' v1 r ∧ Tr ρA w0 (rng o 1) ρ' w')) := by
 unfold maps_DeleteFunc_map_string_login_attempt_string_login_attempt__Logins_Begin_1 at hS
 have hb := enter_fr (ρ := ρA) (w := w0) (n := 1) ho2 hbd
 have hz := hz.enter (n := 1) ho2
 replace he4 := he4.mv (enter_rd (n := 1) ho2) (Nat.succ_pos _)
 replace h2 := h2.mv (enter_mv (p := 0) (n := 1) (by decide) ho2)
 replace h2 : MapT str login_attempt.c true (enter ρA o 1) 100 w0 v1 m_0 := h2
 refine calls_of_ke Tryz.func45 rfl (n := 19) rfl rfl (l := [(0, v1), (1, .func (.func 46) #[] #[.pointer (some ⟨b3, 0, none⟩)])]) rfl ?_
 refine ke_seq ?_
 refine ke_region ?_
 refine sr_ev (v := v1) (ev_move rfl) (by decide) ?_
 refine sr_rangeM 9 (by decide) h2 rfl Tryz.underlying67 hb.bd rfl (by decide) ?_
 intro r5 ρ6 w7 h8 htr9
 replace h2 := h2.mv (htr9.mv (i := 100) rfl)
 replace he4 := he4.mv (htr9.mv (i := 0) rfl) (Nat.succ_pos _)
 replace hb := hb.trans htr9
 refine sr_end (l' := [(0, v1), (1, .func (.func 46) #[] #[.pointer (some ⟨b3, 0, none⟩)]), (7, .pointer (some ⟨r5, 0, none⟩))]) (.cons rfl (.cons rfl (.cons rfl (.nil _)))) ?_
 refine ke_block ?_
 have hK := maps_DeleteFunc_map_string_login_attempt_string_login_attempt__Logins_Begin_1_L1_ok hg hbd ho2 hz _ hS hb h2 he4 h8
 exact ke_weaken (l' := [(0, v1), (1, .func (.func 46) #[] #[.pointer (some ⟨b3, 0, none⟩)]), (7, .pointer (some ⟨r5, 0, none⟩))]) (.cons rfl (.cons rfl (.cons rfl (.nil _)))) (ke_loop hK)

end YtkhodjenbganfaaGreatDoor
end Go.Proofs
