/- Own work: a part of the proofs of this seat. -/
import Derived.Test.YtijiipelpgmhpaaProg
import Derived.Test.YtijiipelpgmhpaaShelf
import Derived.Test.YtijiipelpgmhpaaKwIS
import Derived.KernelRfl
set_option linter.unusedVariables false
set_option linter.unusedSimpArgs false
set_option linter.unusedSectionVars false
set_option maxHeartbeats 8000000
set_option maxRecDepth 8000
namespace Go.Proofs
namespace Ytijiipelpgmhpaa
open Go Go.KW Go.KW.S Go.RowKit
theorem Try.mixed : Try.prog.follows .mixedOrders = true := by kernel_rfl
theorem Try.info0 : Try.prog.info? 0 = some Try.t0 := by kernel_rfl
theorem Try.info1 : Try.prog.info? 1 = some Try.t1 := by kernel_rfl
theorem Try.info2 : Try.prog.info? 2 = some Try.t2 := by kernel_rfl
theorem Try.info3 : Try.prog.info? 3 = some Try.t3 := by kernel_rfl
theorem Try.info4 : Try.prog.info? 4 = some Try.t4 := by kernel_rfl
theorem Try.info5 : Try.prog.info? 5 = some Try.t5 := by kernel_rfl
theorem Try.info6 : Try.prog.info? 6 = some Try.t6 := by kernel_rfl
theorem Try.info7 : Try.prog.info? 7 = some Try.t7 := by kernel_rfl
theorem Try.info8 : Try.prog.info? 8 = some Try.t8 := by kernel_rfl
theorem Try.info9 : Try.prog.info? 9 = some Try.t9 := by kernel_rfl
theorem Try.info10 : Try.prog.info? 10 = some Try.t10 := by kernel_rfl
theorem Try.info11 : Try.prog.info? 11 = some Try.t11 := by kernel_rfl
theorem Try.info12 : Try.prog.info? 12 = some Try.t12 := by kernel_rfl
theorem Try.info13 : Try.prog.info? 13 = some Try.t13 := by kernel_rfl
theorem Try.info14 : Try.prog.info? 14 = some Try.t14 := by kernel_rfl
theorem Try.info15 : Try.prog.info? 15 = some Try.t15 := by kernel_rfl
theorem Try.info16 : Try.prog.info? 16 = some Try.t16 := by kernel_rfl
theorem Try.info17 : Try.prog.info? 17 = some Try.t17 := by kernel_rfl
theorem Try.info18 : Try.prog.info? 18 = some Try.t18 := by kernel_rfl
theorem Try.info19 : Try.prog.info? 19 = some Try.t19 := by kernel_rfl
theorem Try.info20 : Try.prog.info? 20 = some Try.t20 := by kernel_rfl
theorem Try.info21 : Try.prog.info? 21 = some Try.t21 := by kernel_rfl
theorem Try.info22 : Try.prog.info? 22 = some Try.t22 := by kernel_rfl
theorem Try.info23 : Try.prog.info? 23 = some Try.t23 := by kernel_rfl
theorem Try.info24 : Try.prog.info? 24 = some Try.t24 := by kernel_rfl
theorem Try.info25 : Try.prog.info? 25 = some Try.t25 := by kernel_rfl
theorem Try.info26 : Try.prog.info? 26 = some Try.t26 := by kernel_rfl
theorem Try.info27 : Try.prog.info? 27 = some Try.t27 := by kernel_rfl
theorem Try.info28 : Try.prog.info? 28 = some Try.t28 := by kernel_rfl
theorem Try.info29 : Try.prog.info? 29 = some Try.t29 := by kernel_rfl
theorem Try.info30 : Try.prog.info? 30 = some Try.t30 := by kernel_rfl
theorem Try.info31 : Try.prog.info? 31 = some Try.t31 := by kernel_rfl
theorem Try.info32 : Try.prog.info? 32 = some Try.t32 := by kernel_rfl
theorem Try.info33 : Try.prog.info? 33 = some Try.t33 := by kernel_rfl
theorem Try.info34 : Try.prog.info? 34 = some Try.t34 := by kernel_rfl
theorem Try.info35 : Try.prog.info? 35 = some Try.t35 := by kernel_rfl
theorem Try.info36 : Try.prog.info? 36 = some Try.t36 := by kernel_rfl
theorem Try.info37 : Try.prog.info? 37 = some Try.t37 := by kernel_rfl
theorem Try.info38 : Try.prog.info? 38 = some Try.t38 := by kernel_rfl
theorem Try.info39 : Try.prog.info? 39 = some Try.t39 := by kernel_rfl
theorem Try.info40 : Try.prog.info? 40 = some Try.t40 := by kernel_rfl
theorem Try.info41 : Try.prog.info? 41 = some Try.t41 := by kernel_rfl
theorem Try.info42 : Try.prog.info? 42 = some Try.t42 := by kernel_rfl
theorem Try.info43 : Try.prog.info? 43 = some Try.t43 := by kernel_rfl
theorem Try.info44 : Try.prog.info? 44 = some Try.t44 := by kernel_rfl
theorem Try.info45 : Try.prog.info? 45 = some Try.t45 := by kernel_rfl
theorem Try.info46 : Try.prog.info? 46 = some Try.t46 := by kernel_rfl
theorem Try.info47 : Try.prog.info? 47 = some Try.t47 := by kernel_rfl
theorem Try.info48 : Try.prog.info? 48 = some Try.t48 := by kernel_rfl
theorem Try.info49 : Try.prog.info? 49 = some Try.t49 := by kernel_rfl
theorem Try.info50 : Try.prog.info? 50 = some Try.t50 := by kernel_rfl
theorem Try.info51 : Try.prog.info? 51 = some Try.t51 := by kernel_rfl
theorem Try.info52 : Try.prog.info? 52 = some Try.t52 := by kernel_rfl
theorem Try.info53 : Try.prog.info? 53 = some Try.t53 := by kernel_rfl
theorem Try.info54 : Try.prog.info? 54 = some Try.t54 := by kernel_rfl
theorem Try.info55 : Try.prog.info? 55 = some Try.t55 := by kernel_rfl
theorem Try.info56 : Try.prog.info? 56 = some Try.t56 := by kernel_rfl
theorem Try.info57 : Try.prog.info? 57 = some Try.t57 := by kernel_rfl
theorem Try.info58 : Try.prog.info? 58 = some Try.t58 := by kernel_rfl
theorem Try.info59 : Try.prog.info? 59 = some Try.t59 := by kernel_rfl
theorem Try.info60 : Try.prog.info? 60 = some Try.t60 := by kernel_rfl
theorem Try.info61 : Try.prog.info? 61 = some Try.t61 := by kernel_rfl
theorem Try.info62 : Try.prog.info? 62 = some Try.t62 := by kernel_rfl
theorem Try.info63 : Try.prog.info? 63 = some Try.t63 := by kernel_rfl
theorem Try.info64 : Try.prog.info? 64 = some Try.t64 := by kernel_rfl
theorem Try.info65 : Try.prog.info? 65 = some Try.t65 := by kernel_rfl
theorem Try.info66 : Try.prog.info? 66 = some Try.t66 := by kernel_rfl
theorem Try.info67 : Try.prog.info? 67 = some Try.t67 := by kernel_rfl
theorem Try.info68 : Try.prog.info? 68 = some Try.t68 := by kernel_rfl
theorem Try.info69 : Try.prog.info? 69 = some Try.t69 := by kernel_rfl
theorem Try.info70 : Try.prog.info? 70 = some Try.t70 := by kernel_rfl
theorem Try.info71 : Try.prog.info? 71 = some Try.t71 := by kernel_rfl
theorem Try.info72 : Try.prog.info? 72 = some Try.t72 := by kernel_rfl
theorem Try.info73 : Try.prog.info? 73 = some Try.t73 := by kernel_rfl
theorem Try.info74 : Try.prog.info? 74 = some Try.t74 := by kernel_rfl
theorem Try.info75 : Try.prog.info? 75 = some Try.t75 := by kernel_rfl
theorem Try.info76 : Try.prog.info? 76 = some Try.t76 := by kernel_rfl
theorem Try.info77 : Try.prog.info? 77 = some Try.t77 := by kernel_rfl
theorem Try.info78 : Try.prog.info? 78 = some Try.t78 := by kernel_rfl
theorem Try.info79 : Try.prog.info? 79 = some Try.t79 := by kernel_rfl
theorem Try.info80 : Try.prog.info? 80 = some Try.t80 := by kernel_rfl
theorem Try.info81 : Try.prog.info? 81 = some Try.t81 := by kernel_rfl
theorem Try.info82 : Try.prog.info? 82 = some Try.t82 := by kernel_rfl
theorem Try.info83 : Try.prog.info? 83 = some Try.t83 := by kernel_rfl
theorem Try.info84 : Try.prog.info? 84 = some Try.t84 := by kernel_rfl
theorem Try.info85 : Try.prog.info? 85 = some Try.t85 := by kernel_rfl
theorem Try.info86 : Try.prog.info? 86 = some Try.t86 := by kernel_rfl
theorem Try.info87 : Try.prog.info? 87 = some Try.t87 := by kernel_rfl
theorem Try.info88 : Try.prog.info? 88 = some Try.t88 := by kernel_rfl
theorem Try.info89 : Try.prog.info? 89 = some Try.t89 := by kernel_rfl
theorem Try.info90 : Try.prog.info? 90 = some Try.t90 := by kernel_rfl
theorem Try.info91 : Try.prog.info? 91 = some Try.t91 := by kernel_rfl
theorem Try.info92 : Try.prog.info? 92 = some Try.t92 := by kernel_rfl
theorem Try.info93 : Try.prog.info? 93 = some Try.t93 := by kernel_rfl
theorem Try.info94 : Try.prog.info? 94 = some Try.t94 := by kernel_rfl
theorem Try.info95 : Try.prog.info? 95 = some Try.t95 := by kernel_rfl
theorem Try.info96 : Try.prog.info? 96 = some Try.t96 := by kernel_rfl
theorem Try.info97 : Try.prog.info? 97 = some Try.t97 := by kernel_rfl
theorem Try.info98 : Try.prog.info? 98 = some Try.t98 := by kernel_rfl
theorem Try.info99 : Try.prog.info? 99 = some Try.t99 := by kernel_rfl
theorem Try.info100 : Try.prog.info? 100 = some Try.t100 := by kernel_rfl
theorem Try.info101 : Try.prog.info? 101 = some Try.t101 := by kernel_rfl
theorem Try.info102 : Try.prog.info? 102 = some Try.t102 := by kernel_rfl
theorem Try.info103 : Try.prog.info? 103 = some Try.t103 := by kernel_rfl
theorem Try.info104 : Try.prog.info? 104 = some Try.t104 := by kernel_rfl
theorem Try.info105 : Try.prog.info? 105 = some Try.t105 := by kernel_rfl
theorem Try.info106 : Try.prog.info? 106 = some Try.t106 := by kernel_rfl
theorem Try.info107 : Try.prog.info? 107 = some Try.t107 := by kernel_rfl
theorem Try.info108 : Try.prog.info? 108 = some Try.t108 := by kernel_rfl
theorem Try.info109 : Try.prog.info? 109 = some Try.t109 := by kernel_rfl
theorem Try.info110 : Try.prog.info? 110 = some Try.t110 := by kernel_rfl
theorem Try.info111 : Try.prog.info? 111 = some Try.t111 := by kernel_rfl
theorem Try.info112 : Try.prog.info? 112 = some Try.t112 := by kernel_rfl
theorem Try.info113 : Try.prog.info? 113 = some Try.t113 := by kernel_rfl
theorem Try.info114 : Try.prog.info? 114 = some Try.t114 := by kernel_rfl
theorem Try.info115 : Try.prog.info? 115 = some Try.t115 := by kernel_rfl
theorem Try.info116 : Try.prog.info? 116 = some Try.t116 := by kernel_rfl
theorem Try.info117 : Try.prog.info? 117 = some Try.t117 := by kernel_rfl
theorem Try.info118 : Try.prog.info? 118 = some Try.t118 := by kernel_rfl
theorem Try.info119 : Try.prog.info? 119 = some Try.t119 := by kernel_rfl
theorem Try.info120 : Try.prog.info? 120 = some Try.t120 := by kernel_rfl
theorem Try.info121 : Try.prog.info? 121 = some Try.t121 := by kernel_rfl
theorem Try.info122 : Try.prog.info? 122 = some Try.t122 := by kernel_rfl
theorem Try.info123 : Try.prog.info? 123 = some Try.t123 := by kernel_rfl
structure Gs (w : World) : Prop where
 iv0_ : ∃ m, w.cell? ⟨0, 0, none⟩ = some (.int .i64 m)
theorem Gs.below {w w' : World} (h : Gs w) (s : Below w.heap.size w w') : Gs w' := ⟨h.iv0_.imp fun _ hm => cell_below hm s⟩
structure Gz (ρ : Tags) : Prop where
 z0 : ρ 0 = 0
theorem Gs.fr {ρ0 ρ : Tags} {w0 w : World} (h : Gs w0) (hz : Gz ρ0) (hb : Fr ρ0 w0 ρ w) : Gs w := ⟨h.iv0_.imp fun _ hm => cell_fr hm hz.z0 hb⟩
theorem Gz.fr {ρ0 ρ : Tags} {w0 w : World} (hz : Gz ρ0) (h : Gs w0) (hb : Fr ρ0 w0 ρ w) : Gz ρ := ⟨h.iv0_.elim fun _ hm => tag_fr hm hz.z0 hb⟩
theorem Gz.enter {ρ : Tags} {o n : Nat} (hz : Gz ρ) (ho : 2 ≤ o) : Gz (enter ρ o n) := ⟨enter_zero ho hz.z0⟩
theorem Gz.flat1 {ρ : Tags} (hz : Gz ρ) : Gz (flat1 ρ) := ⟨flat1_zero hz.z0⟩
theorem lib_Sort_ok {w : World} {A : Nat → Prop} {B : Nat} {E : TypeId} {xs ys : List Str} {v : Value} (hv : OwnS strC E A B w v xs) (hB : B ≤ w.heap.size) (hS : lib_Sort xs = some ys) :
  Calls Try.prog 38 #[v] w (Ret fun u w' => u = .tuple #[] ∧ OwnS strC E A B w' v ys ∧ St A w A w' ∧ Below B w w' ∧ (∀ b, b < w.heap.size → v.ownBlock ≠ some b → w'.heap[b]? = w.heap[b]?)) :=
 sort_ok (fun p c w => Any.slices_Sort_string_none Try.lays190 p c w) (fun blk off cap ss w h1 h2 h3 => Try.slices_Sort_string blk off cap ss w h1 h2 h3) hv hB hS
theorem lib_Contains_ok (w0 : World) (hg : Gs w0) {s t : Str} {r : Bool} (hS : lib_Contains s t = some r) : Calls Try.prog 62 #[str s, str t] w0 (Ret fun v w' => v = .bool r ∧ Below w0.heap.size w0 w') :=
 contains_ok (gm := 0) (fun s t m w hs hm => Try.strings_Contains s t m w hs hm) hg.iv0_ hS
theorem Try.eq59 (x y : consent_pair) : EqAgg Try.prog 59 (#[str x.user, str x.client]) (#[str y.user, str y.client]) (consent_pair.eqb x y) :=
 eqAgg_of Try.underlying59 (by kernel_rfl) (by kernel_rfl) (.cons (by decide) Try.isAgg9 rfl rfl (eqCell_str Try.underlying9 _ _) (.cons (by decide) Try.isAgg9 rfl rfl (eqCell_str Try.underlying9 _ _) (.nil))) (by simp [consent_pair.eqb, Bool.and_assoc])
theorem consent_pair.eqb_iff (x y : consent_pair) : consent_pair.eqb x y = decide (x = y) := by
 cases x; cases y; rw [Bool.eq_iff_iff]; simp [consent_pair.eqb, and_assoc]
theorem Try.keyB9 : KeyB Try.prog 9 str := keyB_str Try.underlying9
theorem Try.keyB59 : KeyB Try.prog 59 consent_pair.ek := keyB_struct (cells := fun (k : consent_pair) => #[str k.user, str k.client]) Try.underlying59 (fun k => .cons (by decide) Try.isAgg9 rfl (chk_str Try.underlying9 _) (.cons (by decide) Try.isAgg9 rfl (chk_str Try.underlying9 _) (.nil))) (fun a b => by rw [← consent_pair.eqb_iff]; exact Try.eq59 a b) (fun k => by simp [Instr.sameBits, str, bytes_self])
theorem law32_light_L2_ok {w0 : World} (hg : Gs w0) {A0 : Nat → Prop} (hA0 : ∀ b, A0 b → b < w0.heap.size) (r0 : List law32_Op → Int → Option (Bool))
  (hr0 : ∀ {r : Bool} {l_0 : List law32_Op} {i_3 : Int} {vl_0 : Value}, r0 l_0 i_3 = some r → ∀ {w : World} {A : Nat → Prop}, (Below w0.heap.size w0 w) → (∀ b, A b → b < w.heap.size) → (∀ b, A0 b → A b) → (Hp A w0.heap.size w []) → (SlR law32_Op.c A w vl_0 l_0) → KE Try.prog 8 (Ret (fun v w' => v = .bool r ∧ Below w0.heap.size w0 w')) 63 [.inLoop (sub (bodyOf Try.f8) [2, 1, 2, 2, 1]), .inBlock 0, .code (sub (bodyOf Try.f8) [2, 2])] [(0, vl_0), (3, .int .i64 i_3)] w) : ∀ (n : Nat), ∀ {r : Bool} {l_0 : List law32_Op} {i_3 : Int} {k_4 : Int} {vl_0 : Value}, law32_light_L2 r0 n l_0 i_3 k_4 = some r → ∀ {w : World} {A : Nat → Prop}, (Below w0.heap.size w0 w) → (∀ b, A b → b < w.heap.size) → (∀ b, A0 b → A b) → (Hp A w0.heap.size w []) → (SlR law32_Op.c A w vl_0 l_0) → KE Try.prog 8 (Ret (fun v w' => v = .bool r ∧ Below w0.heap.size w0 w')) 63 [.code (sub (bodyOf Try.f8) [2, 1, 2, 2, 1, 2, 1, 2, 2, 2, 2, 1]), .inLoop (sub (bodyOf Try.f8) [2, 1, 2, 2, 1, 2, 1, 2, 2, 2, 2, 1]), .inBlock 2, .inBlock 1, .code (sub (bodyOf Try.f8) [2, 1, 2, 2, 1, 2, 2]), .inLoop (sub (bodyOf Try.f8) [2, 1, 2, 2, 1]), .inBlock 0, .code (sub (bodyOf Try.f8) [2, 2])] [(0, vl_0), (3, .int .i64 i_3), (4, .int .i64 k_4)] w := by
 intro n
 induction n with
 | zero => intro r l_0 i_3 k_4 vl_0 hS; cases hS
 | succ n ih =>
  have hr1 : ∀ {r : Bool} {l_0 : List law32_Op} {i_3 : Int} {k_4 : Int} {vl_0 : Value}, law32_light_L2 r0 n l_0 i_3 k_4 = some r → ∀ {w : World} {A : Nat → Prop}, (Below w0.heap.size w0 w) → (∀ b, A b → b < w.heap.size) → (∀ b, A0 b → A b) → (Hp A w0.heap.size w []) → (SlR law32_Op.c A w vl_0 l_0) → KE Try.prog 8 (Ret (fun v w' => v = .bool r ∧ Below w0.heap.size w0 w')) 63 [.inLoop (sub (bodyOf Try.f8) [2, 1, 2, 2, 1, 2, 1, 2, 2, 2, 2, 1]), .inBlock 2, .inBlock 1, .code (sub (bodyOf Try.f8) [2, 1, 2, 2, 1, 2, 2]), .inLoop (sub (bodyOf Try.f8) [2, 1, 2, 2, 1]), .inBlock 0, .code (sub (bodyOf Try.f8) [2, 2])] [(0, vl_0), (3, .int .i64 i_3), (4, .int .i64 k_4)] w := fun {r} {l_0} {i_3} {k_4} {vl_0} hS {w} {A} hb hA hi hH hl_0 => ke_inLoop (ih hS hb hA hi hH hl_0)
  clear ih
  intro r l_0 i_3 k_4 vl_0 hS w A hb hA hi hH hl_0
  unfold law32_light_L2 at hS
  refine ke_seq ?_
  refine ke_seq ?_
  refine ke_region ?_
  refine sr_ev (v := .int .i64 k_4) (ev_move rfl) (by decide) ?_
  refine sr_ev (v := vl_0) (ev_move rfl) (by decide) ?_
  refine sr_ev (v := .int .i64 i_3) (ev_move rfl) (by decide) ?_
  obtain ⟨y50, hy51, hS⟩ := bind_some' hS
  refine sr_index hl_0 Try.underlying22 Try.info32 rfl rfl rfl hy51 (by decide) ?_
  intro b52 o53 cs55 he54
  obtain ⟨v56, hcshe54, h57⟩ := he54.rd
  obtain rfl : cs55 = [.int .i64 y50.Call, .int .i64 y50.Until, .int .i64 y50.Now, str y50.User, str y50.Client, v56] := hcshe54
  refine sr_ev (v := .pointer (some ⟨b52, o53 + 5, none⟩)) (ev_fieldAddr (i := 5) Try.underlying32 rfl Try.info30 rfl rfl) (by decide) ?_
  refine sr_ev (v := v56) (ev_load Try.isAgg30 rfl (he54.cell 5 _ rfl)) (by decide) ?_
  refine sr_ev (v := .int .i64 (y50.Scopes.length : Int)) (ev_sllen Try.underlying30 rfl h57) (by decide) ?_
  refine sr_ev (v := .bool (decide (k_4 < (y50.Scopes.length : Int)))) (ev_lt rfl rfl) (by decide) ?_
  refine sr_end (l' := [(0, vl_0), (3, .int .i64 i_3), (4, .int .i64 k_4), (47, .bool (decide (k_4 < (y50.Scopes.length : Int))))]) (.cons rfl (.cons rfl (.cons rfl (.cons rfl (.nil _))))) ?_
  refine ke_cond (t := decide (k_4 < (y50.Scopes.length : Int))) rfl (fun hc58 => ?_) (fun hc58 => ?_)
  ·replace hS := ite_true' hS hc58
   refine ke_skip ?_
   refine ke_seq ?_
   refine ke_block ?_
   refine ke_seq ?_
   refine ke_region ?_
   refine sr_ev (v := vl_0) (ev_move rfl) (by decide) ?_
   refine sr_ev (v := .int .i64 i_3) (ev_move rfl) (by decide) ?_
   obtain ⟨y59, hy60, hS⟩ := bind_some' hS
   refine sr_index hl_0 Try.underlying22 Try.info32 rfl rfl rfl hy60 (by decide) ?_
   intro b61 o62 cs64 he63
   obtain ⟨v65, hcshe63, h66⟩ := he63.rd
   obtain rfl : cs64 = [.int .i64 y59.Call, .int .i64 y59.Until, .int .i64 y59.Now, str y59.User, str y59.Client, v65] := hcshe63
   refine sr_ev (v := .pointer (some ⟨b61, o62 + 5, none⟩)) (ev_fieldAddr (i := 5) Try.underlying32 rfl Try.info30 rfl rfl) (by decide) ?_
   refine sr_ev (v := v65) (ev_load Try.isAgg30 rfl (he63.cell 5 _ rfl)) (by decide) ?_
   refine sr_ev (v := .int .i64 k_4) (ev_move rfl) (by decide) ?_
   obtain ⟨y67, hy68, hS⟩ := bind_some' hS
   refine sr_index h66 Try.underlying30 Try.info9 rfl rfl rfl hy68 (by decide) ?_
   intro b69 o70 cs72 he71
   obtain rfl : cs72 = [str y67] := he71.rd
   refine sr_ev (v := str y67) (ev_load Try.isAgg9 rfl (he71.cell 0 _ rfl)) (by decide) ?_
   refine sr_ev (v := .int .i64 (y67.length : Int)) (ev_slen Try.underlying9 rfl) (by decide) ?_
   refine sr_ev (v := .bool (decide ((y67.length : Int) > 200))) (ev_gt rfl rfl) (by decide) ?_
   refine sr_end (l' := [(0, vl_0), (3, .int .i64 i_3), (4, .int .i64 k_4), (59, .bool (decide ((y67.length : Int) > 200)))]) (.cons rfl (.cons rfl (.cons rfl (.cons rfl (.nil _))))) ?_
   refine ke_cond (t := decide ((y67.length : Int) > 200)) rfl (fun hc73 => ?_) (fun hc73 => ?_)
   ·replace hS := ite_true' hS hc73
    refine ke_seq ?_
    refine ke_region ?_
    refine sr_ev (v := .bool false) (ev_assign rfl) (by decide) ?_
    refine sr_end (l' := [(2, .bool false)]) (.cons rfl (.nil _)) ?_
    cases hS
    exact ke_ret1 Try.func8 rfl rfl ⟨_, rfl, rfl, hb⟩
   ·replace hS := ite_false' hS hc73
    refine ke_skip ?_
    refine ke_inBlock ?_
    refine ke_region ?_
    refine sr_ev (v := .int .i64 k_4) (ev_move rfl) (by decide) ?_
    refine sr_ev (v := .int .i64 (IntKind.i64.wrap (k_4 + 1))) (ev_add rfl rfl) (by decide) ?_
    refine sr_ev (v := .int .i64 (IntKind.i64.wrap (k_4 + 1))) (ev_assign rfl) (by decide) ?_
    refine sr_end (l' := [(0, vl_0), (3, .int .i64 i_3), (4, .int .i64 (IntKind.i64.wrap (k_4 + 1)))]) (.cons rfl (.cons rfl (.cons rfl (.nil _)))) ?_
    have hK := hr1 hS hb hA hi hH hl_0
    exact ke_weaken (l' := [(0, vl_0), (3, .int .i64 i_3), (4, .int .i64 (IntKind.i64.wrap (k_4 + 1)))]) (.cons rfl (.cons rfl (.cons rfl (.nil _)))) hK
  ·replace hS := ite_false' hS hc58
   refine ke_exit (k' := _) rfl ?_
   refine ke_inBlock ?_
   refine ke_region ?_
   refine sr_ev (v := .int .i64 i_3) (ev_move rfl) (by decide) ?_
   refine sr_ev (v := .int .i64 (IntKind.i64.wrap (i_3 + 1))) (ev_add rfl rfl) (by decide) ?_
   refine sr_ev (v := .int .i64 (IntKind.i64.wrap (i_3 + 1))) (ev_assign rfl) (by decide) ?_
   refine sr_end (l' := [(0, vl_0), (3, .int .i64 (IntKind.i64.wrap (i_3 + 1)))]) (.cons rfl (.cons rfl (.nil _))) ?_
   have hK := hr0 hS hb hA hi hH hl_0
   exact ke_weaken (l' := [(0, vl_0), (3, .int .i64 (IntKind.i64.wrap (i_3 + 1)))]) (.cons rfl (.cons rfl (.nil _))) hK
theorem law32_light_L1_ok {w0 : World} (hg : Gs w0) {A0 : Nat → Prop} (hA0 : ∀ b, A0 b → b < w0.heap.size) : ∀ (n : Nat), ∀ {r : Bool} {l_0 : List law32_Op} {i_3 : Int} {vl_0 : Value}, law32_light_L1 n l_0 i_3 = some r → ∀ {w : World} {A : Nat → Prop}, (Below w0.heap.size w0 w) → (∀ b, A b → b < w.heap.size) → (∀ b, A0 b → A b) → (Hp A w0.heap.size w []) → (SlR law32_Op.c A w vl_0 l_0) → KE Try.prog 8 (Ret (fun v w' => v = .bool r ∧ Below w0.heap.size w0 w')) 63 [.code (sub (bodyOf Try.f8) [2, 1, 2, 2, 1]), .inLoop (sub (bodyOf Try.f8) [2, 1, 2, 2, 1]), .inBlock 0, .code (sub (bodyOf Try.f8) [2, 2])] [(0, vl_0), (3, .int .i64 i_3)] w := by
 intro n
 induction n with
 | zero => intro r l_0 i_3 vl_0 hS; cases hS
 | succ n ih =>
  have hr0 : ∀ {r : Bool} {l_0 : List law32_Op} {i_3 : Int} {vl_0 : Value}, law32_light_L1 n l_0 i_3 = some r → ∀ {w : World} {A : Nat → Prop}, (Below w0.heap.size w0 w) → (∀ b, A b → b < w.heap.size) → (∀ b, A0 b → A b) → (Hp A w0.heap.size w []) → (SlR law32_Op.c A w vl_0 l_0) → KE Try.prog 8 (Ret (fun v w' => v = .bool r ∧ Below w0.heap.size w0 w')) 63 [.inLoop (sub (bodyOf Try.f8) [2, 1, 2, 2, 1]), .inBlock 0, .code (sub (bodyOf Try.f8) [2, 2])] [(0, vl_0), (3, .int .i64 i_3)] w := fun {r} {l_0} {i_3} {vl_0} hS {w} {A} hb hA hi hH hl_0 => ke_inLoop (ih hS hb hA hi hH hl_0)
  clear ih
  intro r l_0 i_3 vl_0 hS w A hb hA hi hH hl_0
  unfold law32_light_L1 at hS
  refine ke_seq ?_
  refine ke_seq ?_
  refine ke_region ?_
  refine sr_ev (v := .int .i64 i_3) (ev_move rfl) (by decide) ?_
  refine sr_ev (v := vl_0) (ev_move rfl) (by decide) ?_
  refine sr_ev (v := .int .i64 (l_0.length : Int)) (ev_sllen Try.underlying22 rfl hl_0) (by decide) ?_
  refine sr_ev (v := .bool (decide (i_3 < (l_0.length : Int)))) (ev_lt rfl rfl) (by decide) ?_
  refine sr_ev (v := .bool (decide (i_3 < (l_0.length : Int)))) (ev_move rfl) (by decide) ?_
  refine sr_join (m := 3) (C := fun (x : Bool) w1 => x = ((decide (i_3 < (l_0.length : Int))) && (decide (i_3 < 24))) ∧ w = w1) (l' := fun x => [(0, vl_0), (3, .int .i64 i_3), (12, .bool x)]) ?_ ?_
  ·rintro _ _ ⟨rfl, rfl⟩
   refine sr_end (l' := [(0, vl_0), (3, .int .i64 i_3), (12, .bool ((decide (i_3 < (l_0.length : Int))) && (decide (i_3 < 24))))]) (.cons rfl (.cons rfl (.cons rfl (.nil _)))) ?_
   refine ke_cond (t := (decide (i_3 < (l_0.length : Int))) && (decide (i_3 < 24))) rfl (fun hc10 => ?_) (fun hc10 => ?_)
   ·replace hS := ite_true' hS hc10
    refine ke_skip ?_
    refine ke_seq ?_
    refine ke_block ?_
    refine ke_seq ?_
    refine ke_seq ?_
    refine ke_region ?_
    refine sr_ev (v := vl_0) (ev_move rfl) (by decide) ?_
    refine sr_ev (v := .int .i64 i_3) (ev_move rfl) (by decide) ?_
    obtain ⟨y11, hy12, hS⟩ := bind_some' hS
    refine sr_index hl_0 Try.underlying22 Try.info32 rfl rfl rfl hy12 (by decide) ?_
    intro b13 o14 cs16 he15
    obtain ⟨v17, hcshe15, h18⟩ := he15.rd
    obtain rfl : cs16 = [.int .i64 y11.Call, .int .i64 y11.Until, .int .i64 y11.Now, str y11.User, str y11.Client, v17] := hcshe15
    refine sr_ev (v := .pointer (some ⟨b13, o14 + 3, none⟩)) (ev_fieldAddr (i := 3) Try.underlying32 rfl Try.info9 rfl rfl) (by decide) ?_
    refine sr_ev (v := str y11.User) (ev_load Try.isAgg9 rfl (he15.cell 3 _ rfl)) (by decide) ?_
    refine sr_ev (v := .int .i64 (y11.User.length : Int)) (ev_slen Try.underlying9 rfl) (by decide) ?_
    refine sr_ev (v := .bool (decide ((y11.User.length : Int) > 200))) (ev_gt rfl rfl) (by decide) ?_
    refine sr_ev (v := .bool (decide ((y11.User.length : Int) > 200))) (ev_move rfl) (by decide) ?_
    obtain ⟨z21, hz23, hS⟩ := bind_some' hS
    refine sr_join (m := 8) (C := fun (x : Bool) w1 => z21 = x ∧ Below w.heap.size w w1) (l' := fun x => [(0, vl_0), (3, .int .i64 i_3), (30, .bool x)]) ?_ ?_
    ·rintro _ w24 ⟨rfl, hbw25⟩
     replace hb := hb.trans (hbw25.mono hb.size)
     replace hA := lt_mono hA hbw25.size
     replace hH := hH.below hbw25
     replace hl_0 := hl_0.below hbw25
     refine sr_ev (v := .bool z21) (ev_move rfl) (by decide) ?_
     obtain ⟨z36, hz38, hS⟩ := bind_some' hS
     refine sr_join (m := 8) (C := fun (x : Bool) w1 => z36 = x ∧ Below w24.heap.size w24 w1) (l' := fun x => [(0, vl_0), (3, .int .i64 i_3), (39, .bool x)]) ?_ ?_
     ·rintro _ w39 ⟨rfl, hbw40⟩
      replace hb := hb.trans (hbw40.mono hb.size)
      replace hA := lt_mono hA hbw40.size
      replace hH := hH.below hbw40
      replace hl_0 := hl_0.below hbw40
      refine sr_end (l' := [(0, vl_0), (3, .int .i64 i_3), (39, .bool z36)]) (.cons rfl (.cons rfl (.cons rfl (.nil _)))) ?_
      refine ke_cond (t := z36) rfl (fun hc49 => ?_) (fun hc49 => ?_)
      ·replace hS := ite_true' hS hc49
       refine ke_seq ?_
       refine ke_region ?_
       refine sr_ev (v := .bool false) (ev_assign rfl) (by decide) ?_
       refine sr_end (l' := [(2, .bool false)]) (.cons rfl (.nil _)) ?_
       cases hS
       exact ke_ret1 Try.func8 rfl rfl ⟨_, rfl, rfl, hb⟩
      ·replace hS := ite_false' hS hc49
       refine ke_skip ?_
       refine ke_seq ?_
       refine ke_region ?_
       refine sr_ev (v := .int .i64 0) (ev_assign rfl) (by decide) ?_
       refine sr_end (l' := [(0, vl_0), (3, .int .i64 i_3), (4, .int .i64 0)]) (.cons rfl (.cons rfl (.cons rfl (.nil _)))) ?_
       refine ke_block ?_
       have hK := law32_light_L2_ok hg hA0 _ hr0 _ hS hb hA hi hH hl_0
       exact ke_weaken (l' := [(0, vl_0), (3, .int .i64 i_3), (4, .int .i64 0)]) (.cons rfl (.cons rfl (.cons rfl (.nil _)))) (ke_loop hK)
     ·intro K35
      clear hS
      have hj37 := Below.refl w24.heap.size w24
      rcases Bool.eq_false_or_eq_true z21 with hg34 | hg34
      ·have hS := ite_true' hz38 hg34
       refine sr_pass (e := 31) rfl rfl (by rw [hg34]; rfl) (by decide) ?_
       refine sr_pass (e := 31) rfl rfl (by rw [hg34]; rfl) (by decide) ?_
       refine sr_pass (e := 31) rfl rfl (by rw [hg34]; rfl) (by decide) ?_
       refine sr_pass (e := 31) rfl rfl (by rw [hg34]; rfl) (by decide) ?_
       refine sr_pass (e := 31) rfl rfl (by rw [hg34]; rfl) (by decide) ?_
       refine sr_pass (e := 31) rfl rfl (by rw [hg34]; rfl) (by decide) ?_
       refine sr_pass (e := 31) rfl rfl (by rw [hg34]; rfl) (by decide) ?_
       refine sr_ev (v := .bool true) (ev_pick_t rfl hg34 rfl) (by decide) ?_
       exact sr_weaken (l' := [(0, vl_0), (3, .int .i64 i_3), (39, .bool true)]) (.cons rfl (.cons rfl (.cons rfl (.nil _)))) (K35 true _ ⟨(Option.some.inj hS).symm, hj37⟩)
      ·have hS := ite_false' hz38 hg34
       refine sr_evg (b := false) (e := 31) rfl rfl hg34 (v := vl_0) (ev_move rfl) (by decide) ?_
       refine sr_evg (b := false) (e := 31) rfl rfl hg34 (v := .int .i64 i_3) (ev_move rfl) (by decide) ?_
       obtain ⟨y41, hy42, hS⟩ := bind_some' hS
       refine sr_unguard rfl rfl hg34 ?_
       refine sr_index hl_0 Try.underlying22 Try.info32 rfl rfl rfl hy42 (by decide) ?_
       intro b43 o44 cs46 he45
       obtain ⟨v47, hcshe45, h48⟩ := he45.rd
       obtain rfl : cs46 = [.int .i64 y41.Call, .int .i64 y41.Until, .int .i64 y41.Now, str y41.User, str y41.Client, v47] := hcshe45
       refine sr_evg (b := false) (e := 31) rfl rfl hg34 (v := .pointer (some ⟨b43, o44 + 5, none⟩)) (ev_fieldAddr (i := 5) Try.underlying32 rfl Try.info30 rfl rfl) (by decide) ?_
       refine sr_evg (b := false) (e := 31) rfl rfl hg34 (v := v47) (ev_load Try.isAgg30 rfl (he45.cell 5 _ rfl)) (by decide) ?_
       refine sr_evg (b := false) (e := 31) rfl rfl hg34 (v := .int .i64 (y41.Scopes.length : Int)) (ev_sllen Try.underlying30 rfl h48) (by decide) ?_
       refine sr_evg (b := false) (e := 31) rfl rfl hg34 (v := .bool (decide ((y41.Scopes.length : Int) > 20))) (ev_gt rfl rfl) (by decide) ?_
       refine sr_ev (v := .bool (decide ((y41.Scopes.length : Int) > 20))) (ev_pick_f rfl hg34 rfl) (by decide) ?_
       exact sr_weaken (l' := [(0, vl_0), (3, .int .i64 i_3), (39, .bool (decide ((y41.Scopes.length : Int) > 20)))]) (.cons rfl (.cons rfl (.cons rfl (.nil _)))) (K35 (decide ((y41.Scopes.length : Int) > 20)) _ ⟨(Option.some.inj hS).symm, hj37⟩)
    ·intro K20
     clear hS
     have hj22 := Below.refl w.heap.size w
     rcases Bool.eq_false_or_eq_true (decide ((y11.User.length : Int) > 200)) with hg19 | hg19
     ·have hS := ite_true' hz23 hg19
      refine sr_pass (e := 22) rfl rfl (by rw [hg19]; rfl) (by decide) ?_
      refine sr_pass (e := 22) rfl rfl (by rw [hg19]; rfl) (by decide) ?_
      refine sr_pass (e := 22) rfl rfl (by rw [hg19]; rfl) (by decide) ?_
      refine sr_pass (e := 22) rfl rfl (by rw [hg19]; rfl) (by decide) ?_
      refine sr_pass (e := 22) rfl rfl (by rw [hg19]; rfl) (by decide) ?_
      refine sr_pass (e := 22) rfl rfl (by rw [hg19]; rfl) (by decide) ?_
      refine sr_pass (e := 22) rfl rfl (by rw [hg19]; rfl) (by decide) ?_
      refine sr_ev (v := .bool true) (ev_pick_t rfl hg19 rfl) (by decide) ?_
      exact sr_weaken (l' := [(0, vl_0), (3, .int .i64 i_3), (30, .bool true)]) (.cons rfl (.cons rfl (.cons rfl (.nil _)))) (K20 true _ ⟨(Option.some.inj hS).symm, hj22⟩)
     ·have hS := ite_false' hz23 hg19
      refine sr_evg (b := false) (e := 22) rfl rfl hg19 (v := vl_0) (ev_move rfl) (by decide) ?_
      refine sr_evg (b := false) (e := 22) rfl rfl hg19 (v := .int .i64 i_3) (ev_move rfl) (by decide) ?_
      obtain ⟨y26, hy27, hS⟩ := bind_some' hS
      refine sr_unguard rfl rfl hg19 ?_
      refine sr_index hl_0 Try.underlying22 Try.info32 rfl rfl rfl hy27 (by decide) ?_
      intro b28 o29 cs31 he30
      obtain ⟨v32, hcshe30, h33⟩ := he30.rd
      obtain rfl : cs31 = [.int .i64 y26.Call, .int .i64 y26.Until, .int .i64 y26.Now, str y26.User, str y26.Client, v32] := hcshe30
      refine sr_evg (b := false) (e := 22) rfl rfl hg19 (v := .pointer (some ⟨b28, o29 + 4, none⟩)) (ev_fieldAddr (i := 4) Try.underlying32 rfl Try.info9 rfl rfl) (by decide) ?_
      refine sr_evg (b := false) (e := 22) rfl rfl hg19 (v := str y26.Client) (ev_load Try.isAgg9 rfl (he30.cell 4 _ rfl)) (by decide) ?_
      refine sr_evg (b := false) (e := 22) rfl rfl hg19 (v := .int .i64 (y26.Client.length : Int)) (ev_slen Try.underlying9 rfl) (by decide) ?_
      refine sr_evg (b := false) (e := 22) rfl rfl hg19 (v := .bool (decide ((y26.Client.length : Int) > 200))) (ev_gt rfl rfl) (by decide) ?_
      refine sr_ev (v := .bool (decide ((y26.Client.length : Int) > 200))) (ev_pick_f rfl hg19 rfl) (by decide) ?_
      exact sr_weaken (l' := [(0, vl_0), (3, .int .i64 i_3), (30, .bool (decide ((y26.Client.length : Int) > 200)))]) (.cons rfl (.cons rfl (.cons rfl (.nil _)))) (K20 (decide ((y26.Client.length : Int) > 200)) _ ⟨(Option.some.inj hS).symm, hj22⟩)
   ·replace hS := ite_false' hS hc10
    refine ke_exit (k' := _) rfl ?_
    refine ke_seq ?_
    refine ke_region ?_
    refine sr_ev (v := vl_0) (ev_move rfl) (by decide) ?_
    refine sr_ev (v := .int .i64 (l_0.length : Int)) (ev_sllen Try.underlying22 rfl hl_0) (by decide) ?_
    refine sr_ev (v := .bool (decide ((l_0.length : Int) ≤ 24))) (ev_le rfl rfl) (by decide) ?_
    refine sr_ev (v := .bool (decide ((l_0.length : Int) ≤ 24))) (ev_assign rfl) (by decide) ?_
    refine sr_end (l' := [(2, .bool (decide ((l_0.length : Int) ≤ 24)))]) (.cons rfl (.nil _)) ?_
    cases hS
    exact ke_ret1 Try.func8 rfl rfl ⟨_, rfl, rfl, hb⟩
  ·intro K4
   rcases Bool.eq_false_or_eq_true (decide (i_3 < (l_0.length : Int))) with hg3 | hg3
   ·refine sr_evg (b := true) (e := 9) rfl rfl hg3 (v := .int .i64 i_3) (ev_move rfl) (by decide) ?_
    refine sr_evg (b := true) (e := 9) rfl rfl hg3 (v := .bool (decide (i_3 < 24))) (ev_lt rfl rfl) (by decide) ?_
    refine sr_ev (v := .bool (decide (i_3 < 24))) (ev_pick_t rfl hg3 rfl) (by decide) ?_
    exact sr_weaken (l' := [(0, vl_0), (3, .int .i64 i_3), (12, .bool (decide (i_3 < 24)))]) (.cons rfl (.cons rfl (.cons rfl (.nil _)))) (K4 (decide (i_3 < 24)) _ ⟨by rw [hg3]; rfl, rfl⟩)
   ·refine sr_pass (e := 9) rfl rfl (by rw [hg3]; rfl) (by decide) ?_
    refine sr_pass (e := 9) rfl rfl (by rw [hg3]; rfl) (by decide) ?_
    refine sr_ev (v := .bool false) (ev_pick_f rfl hg3 rfl) (by decide) ?_
    exact sr_weaken (l' := [(0, vl_0), (3, .int .i64 i_3), (12, .bool false)]) (.cons rfl (.cons rfl (.cons rfl (.nil _)))) (K4 false _ ⟨by rw [hg3]; rfl, rfl⟩)
theorem law32_light_ok {A0 : Nat → Prop} (w0 : World) (hg : Gs w0) {l_0 : List law32_Op} {v1 : Value} {r : Bool} (h2 : SlR law32_Op.c A0 w0 v1 l_0) (hS : law32_light l_0 = some r) :
  Calls Try.prog 8 #[v1] w0 (Ret (fun v w' => v = .bool r ∧ Below w0.heap.size w0 w')) := by
 unfold law32_light at hS
 have hb := Below.refl w0.heap.size w0
 replace h2 := h2.weak (A' := fun _ => False) (fun _ h => h.elim)
 obtain ⟨A0, hA0, hAe⟩ : ∃ A0 : Nat → Prop, (∀ b, A0 b → b < w0.heap.size) ∧ A0 = fun _ => False := ⟨_, fun _ h => h.elim, rfl⟩
 rw [← hAe] at h2
 clear hAe
 have hA := hA0
 have hi : ∀ b, A0 b → A0 b := fun _ h => h
 have hH := Hp.nil A0 w0.heap.size w0
 refine calls_of_ke Try.func8 rfl (n := 63) rfl rfl (l := [(0, v1)]) rfl ?_
 refine ke_seq ?_
 refine ke_region ?_
 refine sr_ev (v := .bool false) (ev_assign rfl) (by decide) ?_
 refine sr_end (l' := [(0, v1)]) (.cons rfl (.nil _)) ?_
 refine ke_seq ?_
 refine ke_seq ?_
 refine ke_region ?_
 refine sr_ev (v := .int .i64 0) (ev_assign rfl) (by decide) ?_
 refine sr_end (l' := [(0, v1), (3, .int .i64 0)]) (.cons rfl (.cons rfl (.nil _))) ?_
 refine ke_block ?_
 have hK := law32_light_L1_ok hg hA0 _ hS hb hA hi hH h2
 exact ke_weaken (l' := [(0, v1), (3, .int .i64 0)]) (.cons rfl (.cons rfl (.nil _))) (ke_loop hK)
theorem consent_New_ok (w0 : World) (hg : Gs w0) {ρA : Tags} (hbd : ∀ b, ρA b ≠ 0 → b < w0.heap.size) (hz : Gz ρA) {o : Nat} (ho2 : 2 ≤ o) {r : consent_Consents} (hS : consent_New = some r) :
  Calls Try.prog 10 #[] w0 (Ret (fun v w' => ∃ ρ' zr0, v = .pointer (some ⟨zr0, 0, none⟩) ∧ consent_Consents.O (fun p => o + p) ρ' w' zr0 r ∧ Tr ρA w0 (rng o 2) ρ' w')) := by
 unfold consent_New at hS
 have hb := enter_fr (ρ := ρA) (w := w0) (n := 2) ho2 hbd
 have hz := hz.enter (n := 2) ho2
 refine calls_of_ke Try.func10 rfl (n := 4) rfl rfl (l := []) rfl ?_
 refine ke_seq ?_
 refine ke_region ?_
 refine sr_ev (v := .pointer none) (ev_assign rfl) (by decide) ?_
 refine sr_end (l' := []) (.nil _) ?_
 refine ke_seq ?_
 refine ke_region ?_
 refine sr_makeMap (K := consent_pair) (V := GMap Str Int) (ek := consent_pair.ek) (c := (mapC str (intC .i64) false)) (agg := false) 3 (by decide) hb.bd rfl (by decide) ?_
 intro v1 ρ3 w4 h2 htr5
 replace hb := hb.trans htr5
 refine sr_ev (v := .agg #[(.map (some v1))]) (ev_build (vs := #[(0, (.map (some v1)))]) rfl (fun _ => by kernel_rfl)) (by decide) ?_
 refine sr_boxT 100 (by decide) hb.bd rfl (by decide) ?_
 intro g6 ρ7 w8 hB10 htr9
 replace h2 := h2.mv (htr9.mv (i := 3) rfl)
 replace hb := hb.trans htr9
 replace hB10 : Blk ρ7 100 w8 g6 (.cells #[(.map (some v1))] 52 (0, 0)) := hB10
 refine sr_ev (v := .pointer (some ⟨g6, 0, none⟩)) (ev_assign rfl) (by decide) ?_
 refine sr_end (l' := [(0, .pointer (some ⟨g6, 0, none⟩))]) (.cons rfl (.nil _)) ?_
 have htr11 := rtg_tr (ρ := ρ7) (w := w8) (i := 3) 101 (by decide) hb.bd
 have hmv12 : Mv ρ7 w8 3 (rtg ρ7 3 101) w8 101 := rtg_mv (by decide)
 replace hB10 := hB10.mv (htr11.mv (i := 100) rfl)
 replace hb := hb.trans htr11
 replace h2 := h2.mv hmv12
 cases hS
 exact ke_ret1 Try.func10 rfl rfl ⟨_, rfl, leave ρA w0 o 2 (rtg ρ7 3 101), _, rfl, ⟨_, (hB10.mv (leave_mv (p := 0) (by decide) hb)), (h2.mv (leave_mv (p := 1) (by decide) hb))⟩, (leave_tr ho2 hb)⟩
theorem fold_upper_ok (w0 : World) (hg : Gs w0) {c_0 : Int} {r : Bool} (hS : fold_upper c_0 = some r) :
  Calls Try.prog 80 #[.int .u8 c_0] w0 (Ret (fun v w' => v = .bool r ∧ Below w0.heap.size w0 w')) := by
 unfold fold_upper at hS
 have hb := Below.refl w0.heap.size w0
 refine calls_of_ke Try.func80 rfl (n := 9) rfl rfl (l := [(0, .int .u8 c_0)]) rfl ?_
 refine ke_seq ?_
 refine ke_region ?_
 refine sr_ev (v := .bool false) (ev_assign rfl) (by decide) ?_
 refine sr_end (l' := [(0, .int .u8 c_0)]) (.cons rfl (.nil _)) ?_
 refine ke_seq ?_
 refine ke_region ?_
 refine sr_ev (v := .int .u8 c_0) (ev_move rfl) (by decide) ?_
 refine sr_ev (v := .bool (decide (c_0 ≥ 65))) (ev_ge rfl rfl) (by decide) ?_
 refine sr_ev (v := .bool (decide (c_0 ≥ 65))) (ev_move rfl) (by decide) ?_
 refine sr_join (m := 3) (C := fun (x : Bool) w1 => x = ((decide (c_0 ≥ 65)) && (decide (c_0 ≤ 90))) ∧ w0 = w1) (l' := fun x => [(8, .bool x)]) ?_ ?_
 ·rintro _ _ ⟨rfl, rfl⟩
  refine sr_ev (v := .bool ((decide (c_0 ≥ 65)) && (decide (c_0 ≤ 90)))) (ev_assign rfl) (by decide) ?_
  refine sr_end (l' := [(2, .bool ((decide (c_0 ≥ 65)) && (decide (c_0 ≤ 90))))]) (.cons rfl (.nil _)) ?_
  cases hS
  exact ke_ret1 Try.func80 rfl rfl ⟨_, rfl, rfl, hb⟩
 ·intro K2
  rcases Bool.eq_false_or_eq_true (decide (c_0 ≥ 65)) with hg1 | hg1
  ·refine sr_evg (b := true) (e := 5) rfl rfl hg1 (v := .int .u8 c_0) (ev_move rfl) (by decide) ?_
   refine sr_evg (b := true) (e := 5) rfl rfl hg1 (v := .bool (decide (c_0 ≤ 90))) (ev_le rfl rfl) (by decide) ?_
   refine sr_ev (v := .bool (decide (c_0 ≤ 90))) (ev_pick_t rfl hg1 rfl) (by decide) ?_
   exact sr_weaken (l' := [(8, .bool (decide (c_0 ≤ 90)))]) (.cons rfl (.nil _)) (K2 (decide (c_0 ≤ 90)) _ ⟨by rw [hg1]; rfl, rfl⟩)
  ·refine sr_pass (e := 5) rfl rfl (by rw [hg1]; rfl) (by decide) ?_
   refine sr_pass (e := 5) rfl rfl (by rw [hg1]; rfl) (by decide) ?_
   refine sr_ev (v := .bool false) (ev_pick_f rfl hg1 rfl) (by decide) ?_
   exact sr_weaken (l' := [(8, .bool false)]) (.cons rfl (.nil _)) (K2 false _ ⟨by rw [hg1]; rfl, rfl⟩)
theorem fold_letter_ok (w0 : World) (hg : Gs w0) {c_0 : Int} {r : Bool} (hS : fold_letter c_0 = some r) :
  Calls Try.prog 59 #[.int .u8 c_0] w0 (Ret (fun v w' => v = .bool r ∧ Below w0.heap.size w0 w')) := by
 unfold fold_letter at hS
 have hb := Below.refl w0.heap.size w0
 refine calls_of_ke Try.func59 rfl (n := 13) rfl rfl (l := [(0, .int .u8 c_0)]) rfl ?_
 refine ke_seq ?_
 refine ke_region ?_
 refine sr_ev (v := .bool false) (ev_assign rfl) (by decide) ?_
 refine sr_end (l' := [(0, .int .u8 c_0)]) (.cons rfl (.nil _)) ?_
 refine ke_seq ?_
 refine ke_region ?_
 refine sr_ev (v := .int .u8 c_0) (ev_move rfl) (by decide) ?_
 obtain ⟨y1, hy2, hS⟩ := bind_some' hS
 refine sr_call (vs := [.int .u8 c_0]) rfl Try.call80 rfl (fold_upper_ok _ (hg.below hb) hy2) (by decide) ?_
 rintro _ w3 ⟨rfl, hbw4⟩
 replace hb := hb.trans (hbw4.mono hb.size)
 refine sr_ev (v := .bool y1) (ev_move rfl) (by decide) ?_
 refine sr_join (m := 7) (C := fun (x : Bool) w1 => x = (y1 || ((decide (c_0 ≥ 97)) && (decide (c_0 ≤ 122)))) ∧ w3 = w1) (l' := fun x => [(12, .bool x)]) ?_ ?_
 ·rintro _ _ ⟨rfl, rfl⟩
  refine sr_ev (v := .bool (y1 || ((decide (c_0 ≥ 97)) && (decide (c_0 ≤ 122))))) (ev_assign rfl) (by decide) ?_
  refine sr_end (l' := [(2, .bool (y1 || ((decide (c_0 ≥ 97)) && (decide (c_0 ≤ 122)))))]) (.cons rfl (.nil _)) ?_
  cases hS
  exact ke_ret1 Try.func59 rfl rfl ⟨_, rfl, rfl, hb⟩
 ·intro K6
  rcases Bool.eq_false_or_eq_true y1 with hg5 | hg5
  ·refine sr_pass (e := 5) rfl rfl (by rw [hg5]; rfl) (by decide) ?_
   refine sr_pass (e := 5) rfl rfl (by rw [hg5]; rfl) (by decide) ?_
   refine sr_pass (e := 5) rfl rfl (by rw [hg5]; rfl) (by decide) ?_
   refine sr_pass_undef (e := 8) rfl rfl (by decide) ?_
   refine sr_pass_undef (e := 8) rfl rfl (by decide) ?_
   refine sr_pass (e := 5) rfl rfl (by rw [hg5]; rfl) (by decide) ?_
   refine sr_ev (v := .bool true) (ev_pick_t rfl hg5 rfl) (by decide) ?_
   exact sr_weaken (l' := [(12, .bool true)]) (.cons rfl (.nil _)) (K6 true _ ⟨by rw [hg5]; rfl, rfl⟩)
  ·refine sr_evg (b := false) (e := 5) rfl rfl hg5 (v := .int .u8 c_0) (ev_move rfl) (by decide) ?_
   refine sr_evg (b := false) (e := 5) rfl rfl hg5 (v := .bool (decide (c_0 ≥ 97))) (ev_ge rfl rfl) (by decide) ?_
   refine sr_evg (b := false) (e := 5) rfl rfl hg5 (v := .bool (decide (c_0 ≥ 97))) (ev_move rfl) (by decide) ?_
   refine sr_join (m := 3) (C := fun (x : Bool) w1 => x = ((decide (c_0 ≥ 97)) && (decide (c_0 ≤ 122))) ∧ w3 = w1) (l' := fun x => [(5, .bool y1), (11, .bool x)]) ?_ ?_
   ·rintro _ _ ⟨rfl, rfl⟩
    refine sr_ev (v := .bool ((decide (c_0 ≥ 97)) && (decide (c_0 ≤ 122)))) (ev_pick_f rfl hg5 rfl) (by decide) ?_
    exact sr_weaken (l' := [(12, .bool ((decide (c_0 ≥ 97)) && (decide (c_0 ≤ 122))))]) (.cons rfl (.nil _)) (K6 ((decide (c_0 ≥ 97)) && (decide (c_0 ≤ 122))) _ ⟨by rw [hg5]; rfl, rfl⟩)
   ·intro K13
    rcases Bool.eq_false_or_eq_true (decide (c_0 ≥ 97)) with hg12 | hg12
    ·refine sr_evg (b := true) (e := 8) rfl rfl hg12 (v := .int .u8 c_0) (ev_move rfl) (by decide) ?_
     refine sr_evg (b := true) (e := 8) rfl rfl hg12 (v := .bool (decide (c_0 ≤ 122))) (ev_le rfl rfl) (by decide) ?_
     refine sr_evg (b := false) (e := 5) rfl rfl hg5 (v := .bool (decide (c_0 ≤ 122))) (ev_pick_t rfl hg12 rfl) (by decide) ?_
     exact sr_weaken (l' := [(5, .bool y1), (11, .bool (decide (c_0 ≤ 122)))]) (.cons rfl (.cons rfl (.nil _))) (K13 (decide (c_0 ≤ 122)) _ ⟨by rw [hg12]; rfl, rfl⟩)
    ·refine sr_pass (e := 8) rfl rfl (by rw [hg12]; rfl) (by decide) ?_
     refine sr_pass (e := 8) rfl rfl (by rw [hg12]; rfl) (by decide) ?_
     refine sr_evg (b := false) (e := 5) rfl rfl hg5 (v := .bool false) (ev_pick_f rfl hg12 rfl) (by decide) ?_
     exact sr_weaken (l' := [(5, .bool y1), (11, .bool false)]) (.cons rfl (.cons rfl (.nil _))) (K13 false _ ⟨by rw [hg12]; rfl, rfl⟩)
theorem fold_digit_ok (w0 : World) (hg : Gs w0) {c_0 : Int} {r : Bool} (hS : fold_digit c_0 = some r) :
  Calls Try.prog 60 #[.int .u8 c_0] w0 (Ret (fun v w' => v = .bool r ∧ Below w0.heap.size w0 w')) := by
 unfold fold_digit at hS
 have hb := Below.refl w0.heap.size w0
 refine calls_of_ke Try.func60 rfl (n := 9) rfl rfl (l := [(0, .int .u8 c_0)]) rfl ?_
 refine ke_seq ?_
 refine ke_region ?_
 refine sr_ev (v := .bool false) (ev_assign rfl) (by decide) ?_
 refine sr_end (l' := [(0, .int .u8 c_0)]) (.cons rfl (.nil _)) ?_
 refine ke_seq ?_
 refine ke_region ?_
 refine sr_ev (v := .int .u8 c_0) (ev_move rfl) (by decide) ?_
 refine sr_ev (v := .bool (decide (c_0 ≥ 48))) (ev_ge rfl rfl) (by decide) ?_
 refine sr_ev (v := .bool (decide (c_0 ≥ 48))) (ev_move rfl) (by decide) ?_
 refine sr_join (m := 3) (C := fun (x : Bool) w1 => x = ((decide (c_0 ≥ 48)) && (decide (c_0 ≤ 57))) ∧ w0 = w1) (l' := fun x => [(8, .bool x)]) ?_ ?_
 ·rintro _ _ ⟨rfl, rfl⟩
  refine sr_ev (v := .bool ((decide (c_0 ≥ 48)) && (decide (c_0 ≤ 57)))) (ev_assign rfl) (by decide) ?_
  refine sr_end (l' := [(2, .bool ((decide (c_0 ≥ 48)) && (decide (c_0 ≤ 57))))]) (.cons rfl (.nil _)) ?_
  cases hS
  exact ke_ret1 Try.func60 rfl rfl ⟨_, rfl, rfl, hb⟩
 ·intro K2
  rcases Bool.eq_false_or_eq_true (decide (c_0 ≥ 48)) with hg1 | hg1
  ·refine sr_evg (b := true) (e := 5) rfl rfl hg1 (v := .int .u8 c_0) (ev_move rfl) (by decide) ?_
   refine sr_evg (b := true) (e := 5) rfl rfl hg1 (v := .bool (decide (c_0 ≤ 57))) (ev_le rfl rfl) (by decide) ?_
   refine sr_ev (v := .bool (decide (c_0 ≤ 57))) (ev_pick_t rfl hg1 rfl) (by decide) ?_
   exact sr_weaken (l' := [(8, .bool (decide (c_0 ≤ 57)))]) (.cons rfl (.nil _)) (K2 (decide (c_0 ≤ 57)) _ ⟨by rw [hg1]; rfl, rfl⟩)
  ·refine sr_pass (e := 5) rfl rfl (by rw [hg1]; rfl) (by decide) ?_
   refine sr_pass (e := 5) rfl rfl (by rw [hg1]; rfl) (by decide) ?_
   refine sr_ev (v := .bool false) (ev_pick_f rfl hg1 rfl) (by decide) ?_
   exact sr_weaken (l' := [(8, .bool false)]) (.cons rfl (.nil _)) (K2 false _ ⟨by rw [hg1]; rfl, rfl⟩)
theorem fold_Word_1_ok (w0 : World) (hg : Gs w0) {c_0 : Int} {r : Bool} (hS : fold_Word_1 c_0 = some r) :
  Calls Try.prog 58 #[.int .u8 c_0] w0 (Ret (fun v w' => v = .bool r ∧ Below w0.heap.size w0 w')) := by
 unfold fold_Word_1 at hS
 have hb := Below.refl w0.heap.size w0
 refine calls_of_ke Try.func58 rfl (n := 25) rfl rfl (l := [(0, .int .u8 c_0)]) rfl ?_
 refine ke_seq ?_
 refine ke_region ?_
 refine sr_ev (v := .bool false) (ev_assign rfl) (by decide) ?_
 refine sr_end (l' := [(0, .int .u8 c_0)]) (.cons rfl (.nil _)) ?_
 refine ke_seq ?_
 refine ke_region ?_
 refine sr_ev (v := .int .u8 c_0) (ev_move rfl) (by decide) ?_
 obtain ⟨y1, hy2, hS⟩ := bind_some' hS
 refine sr_call (vs := [.int .u8 c_0]) rfl Try.call59 rfl (fold_letter_ok _ (hg.below hb) hy2) (by decide) ?_
 rintro _ w3 ⟨rfl, hbw4⟩
 replace hb := hb.trans (hbw4.mono hb.size)
 refine sr_ev (v := .bool y1) (ev_move rfl) (by decide) ?_
 obtain ⟨z7, hz9, hS⟩ := bind_some' hS
 refine sr_join (m := 3) (C := fun (x : Bool) w1 => z7 = x ∧ Below w3.heap.size w3 w1) (l' := fun x => [(0, .int .u8 c_0), (8, .bool x)]) ?_ ?_
 ·rintro _ w10 ⟨rfl, hbw11⟩
  replace hb := hb.trans (hbw11.mono hb.size)
  refine sr_ev (v := .bool z7) (ev_move rfl) (by decide) ?_
  refine sr_join (m := 3) (C := fun (x : Bool) w1 => x = (z7 || (c_0 == 45)) ∧ w10 = w1) (l' := fun x => [(0, .int .u8 c_0), (12, .bool x)]) ?_ ?_
  ·rintro _ _ ⟨rfl, rfl⟩
   refine sr_ev (v := .bool (z7 || (c_0 == 45))) (ev_move rfl) (by decide) ?_
   refine sr_join (m := 3) (C := fun (x : Bool) w1 => x = ((z7 || (c_0 == 45)) || (c_0 == 95)) ∧ w10 = w1) (l' := fun x => [(0, .int .u8 c_0), (16, .bool x)]) ?_ ?_
   ·rintro _ _ ⟨rfl, rfl⟩
    refine sr_ev (v := .bool ((z7 || (c_0 == 45)) || (c_0 == 95))) (ev_move rfl) (by decide) ?_
    refine sr_join (m := 3) (C := fun (x : Bool) w1 => x = (((z7 || (c_0 == 45)) || (c_0 == 95)) || (c_0 == 46)) ∧ w10 = w1) (l' := fun x => [(0, .int .u8 c_0), (20, .bool x)]) ?_ ?_
    ·rintro _ _ ⟨rfl, rfl⟩
     refine sr_ev (v := .bool (((z7 || (c_0 == 45)) || (c_0 == 95)) || (c_0 == 46))) (ev_move rfl) (by decide) ?_
     refine sr_join (m := 3) (C := fun (x : Bool) w1 => x = ((((z7 || (c_0 == 45)) || (c_0 == 95)) || (c_0 == 46)) || (c_0 == 58)) ∧ w10 = w1) (l' := fun x => [(24, .bool x)]) ?_ ?_
     ·rintro _ _ ⟨rfl, rfl⟩
      refine sr_ev (v := .bool ((((z7 || (c_0 == 45)) || (c_0 == 95)) || (c_0 == 46)) || (c_0 == 58))) (ev_assign rfl) (by decide) ?_
      refine sr_end (l' := [(2, .bool ((((z7 || (c_0 == 45)) || (c_0 == 95)) || (c_0 == 46)) || (c_0 == 58)))]) (.cons rfl (.nil _)) ?_
      cases hS
      exact ke_ret1 Try.func58 rfl rfl ⟨_, rfl, rfl, hb⟩
     ·intro K38
      rcases Bool.eq_false_or_eq_true (((z7 || (c_0 == 45)) || (c_0 == 95)) || (c_0 == 46)) with hg37 | hg37
      ·refine sr_pass (e := 21) rfl rfl (by rw [hg37]; rfl) (by decide) ?_
       refine sr_pass (e := 21) rfl rfl (by rw [hg37]; rfl) (by decide) ?_
       refine sr_ev (v := .bool true) (ev_pick_t rfl hg37 rfl) (by decide) ?_
       exact sr_weaken (l' := [(24, .bool true)]) (.cons rfl (.nil _)) (K38 true _ ⟨by rw [hg37]; rfl, rfl⟩)
      ·refine sr_evg (b := false) (e := 21) rfl rfl hg37 (v := .int .u8 c_0) (ev_move rfl) (by decide) ?_
       refine sr_evg (b := false) (e := 21) rfl rfl hg37 (v := .bool (c_0 == 58)) (ev_eq rfl rfl) (by decide) ?_
       refine sr_ev (v := .bool (c_0 == 58)) (ev_pick_f rfl hg37 rfl) (by decide) ?_
       exact sr_weaken (l' := [(24, .bool (c_0 == 58))]) (.cons rfl (.nil _)) (K38 (c_0 == 58) _ ⟨by rw [hg37]; rfl, rfl⟩)
    ·intro K31
     rcases Bool.eq_false_or_eq_true ((z7 || (c_0 == 45)) || (c_0 == 95)) with hg30 | hg30
     ·refine sr_pass (e := 17) rfl rfl (by rw [hg30]; rfl) (by decide) ?_
      refine sr_pass (e := 17) rfl rfl (by rw [hg30]; rfl) (by decide) ?_
      refine sr_ev (v := .bool true) (ev_pick_t rfl hg30 rfl) (by decide) ?_
      exact sr_weaken (l' := [(0, .int .u8 c_0), (20, .bool true)]) (.cons rfl (.cons rfl (.nil _))) (K31 true _ ⟨by rw [hg30]; rfl, rfl⟩)
     ·refine sr_evg (b := false) (e := 17) rfl rfl hg30 (v := .int .u8 c_0) (ev_move rfl) (by decide) ?_
      refine sr_evg (b := false) (e := 17) rfl rfl hg30 (v := .bool (c_0 == 46)) (ev_eq rfl rfl) (by decide) ?_
      refine sr_ev (v := .bool (c_0 == 46)) (ev_pick_f rfl hg30 rfl) (by decide) ?_
      exact sr_weaken (l' := [(0, .int .u8 c_0), (20, .bool (c_0 == 46))]) (.cons rfl (.cons rfl (.nil _))) (K31 (c_0 == 46) _ ⟨by rw [hg30]; rfl, rfl⟩)
   ·intro K24
    rcases Bool.eq_false_or_eq_true (z7 || (c_0 == 45)) with hg23 | hg23
    ·refine sr_pass (e := 13) rfl rfl (by rw [hg23]; rfl) (by decide) ?_
     refine sr_pass (e := 13) rfl rfl (by rw [hg23]; rfl) (by decide) ?_
     refine sr_ev (v := .bool true) (ev_pick_t rfl hg23 rfl) (by decide) ?_
     exact sr_weaken (l' := [(0, .int .u8 c_0), (16, .bool true)]) (.cons rfl (.cons rfl (.nil _))) (K24 true _ ⟨by rw [hg23]; rfl, rfl⟩)
    ·refine sr_evg (b := false) (e := 13) rfl rfl hg23 (v := .int .u8 c_0) (ev_move rfl) (by decide) ?_
     refine sr_evg (b := false) (e := 13) rfl rfl hg23 (v := .bool (c_0 == 95)) (ev_eq rfl rfl) (by decide) ?_
     refine sr_ev (v := .bool (c_0 == 95)) (ev_pick_f rfl hg23 rfl) (by decide) ?_
     exact sr_weaken (l' := [(0, .int .u8 c_0), (16, .bool (c_0 == 95))]) (.cons rfl (.cons rfl (.nil _))) (K24 (c_0 == 95) _ ⟨by rw [hg23]; rfl, rfl⟩)
  ·intro K17
   rcases Bool.eq_false_or_eq_true z7 with hg16 | hg16
   ·refine sr_pass (e := 9) rfl rfl (by rw [hg16]; rfl) (by decide) ?_
    refine sr_pass (e := 9) rfl rfl (by rw [hg16]; rfl) (by decide) ?_
    refine sr_ev (v := .bool true) (ev_pick_t rfl hg16 rfl) (by decide) ?_
    exact sr_weaken (l' := [(0, .int .u8 c_0), (12, .bool true)]) (.cons rfl (.cons rfl (.nil _))) (K17 true _ ⟨by rw [hg16]; rfl, rfl⟩)
   ·refine sr_evg (b := false) (e := 9) rfl rfl hg16 (v := .int .u8 c_0) (ev_move rfl) (by decide) ?_
    refine sr_evg (b := false) (e := 9) rfl rfl hg16 (v := .bool (c_0 == 45)) (ev_eq rfl rfl) (by decide) ?_
    refine sr_ev (v := .bool (c_0 == 45)) (ev_pick_f rfl hg16 rfl) (by decide) ?_
    exact sr_weaken (l' := [(0, .int .u8 c_0), (12, .bool (c_0 == 45))]) (.cons rfl (.cons rfl (.nil _))) (K17 (c_0 == 45) _ ⟨by rw [hg16]; rfl, rfl⟩)
 ·intro K6
  clear hS
  have hj8 := Below.refl w3.heap.size w3
  rcases Bool.eq_false_or_eq_true y1 with hg5 | hg5
  ·have hS := ite_true' hz9 hg5
   refine sr_pass (e := 5) rfl rfl (by rw [hg5]; rfl) (by decide) ?_
   refine sr_pass (e := 5) rfl rfl (by rw [hg5]; rfl) (by decide) ?_
   refine sr_ev (v := .bool true) (ev_pick_t rfl hg5 rfl) (by decide) ?_
   exact sr_weaken (l' := [(0, .int .u8 c_0), (8, .bool true)]) (.cons rfl (.cons rfl (.nil _))) (K6 true _ ⟨(Option.some.inj hS).symm, hj8⟩)
  ·have hS := ite_false' hz9 hg5
   refine sr_evg (b := false) (e := 5) rfl rfl hg5 (v := .int .u8 c_0) (ev_move rfl) (by decide) ?_
   obtain ⟨y12, hy13, hS⟩ := bind_some' hS
   refine sr_callg (b := false) (e := 5) rfl rfl hg5 (vs := [.int .u8 c_0]) rfl Try.call60 rfl (fold_digit_ok _ (hg.below hb) hy13) (by decide) ?_
   rintro _ w14 ⟨rfl, hbw15⟩
   replace hb := hb.trans (hbw15.mono hb.size)
   replace hj8 := hj8.trans (hbw15.mono hj8.size)
   refine sr_ev (v := .bool y12) (ev_pick_f rfl hg5 rfl) (by decide) ?_
   exact sr_weaken (l' := [(0, .int .u8 c_0), (8, .bool y12)]) (.cons rfl (.cons rfl (.nil _))) (K6 y12 _ ⟨(Option.some.inj hS).symm, hj8⟩)
theorem fold_made__Word_1_L1_ok {w0 : World} (hg : Gs w0) : ∀ (n : Nat), ∀ {r : Bool} {s_0 : Str} {t_7 : Int} {t_8 : Int}, fold_made__Word_1_L1 n s_0 t_7 t_8 = some r → ∀ {w : World}, (Below w0.heap.size w0 w) → KE Try.prog 57 (Ret (fun v w' => v = .bool r ∧ Below w0.heap.size w0 w')) 25 [.code (sub (bodyOf Try.f57) [2, 1, 2, 2, 1]), .inLoop (sub (bodyOf Try.f57) [2, 1, 2, 2, 1]), .inBlock 0, .code (sub (bodyOf Try.f57) [2, 2])] [(0, str s_0), (1, .func (.func 58) #[] #[]), (7, .int .i64 t_7), (8, .int .i64 t_8)] w := by
 intro n
 induction n with
 | zero => intro r s_0 t_7 t_8 hS; cases hS
 | succ n ih =>
  have hr0 : ∀ {r : Bool} {s_0 : Str} {t_7 : Int} {t_8 : Int}, fold_made__Word_1_L1 n s_0 t_7 t_8 = some r → ∀ {w : World}, (Below w0.heap.size w0 w) → KE Try.prog 57 (Ret (fun v w' => v = .bool r ∧ Below w0.heap.size w0 w')) 25 [.inLoop (sub (bodyOf Try.f57) [2, 1, 2, 2, 1]), .inBlock 0, .code (sub (bodyOf Try.f57) [2, 2])] [(0, str s_0), (1, .func (.func 58) #[] #[]), (7, .int .i64 t_7), (8, .int .i64 t_8)] w := fun {r} {s_0} {t_7} {t_8} hS {w} hb => ke_inLoop (ih hS hb)
  clear ih
  intro r s_0 t_7 t_8 hS w hb
  unfold fold_made__Word_1_L1 at hS
  refine ke_seq ?_
  refine ke_region ?_
  refine sr_ev (v := .bool (decide (t_8 < t_7))) (ev_lt rfl rfl) (by decide) ?_
  refine sr_end (l' := [(0, str s_0), (1, .func (.func 58) #[] #[]), (7, .int .i64 t_7), (8, .int .i64 t_8), (9, .bool (decide (t_8 < t_7)))]) (.cons rfl (.cons rfl (.cons rfl (.cons rfl (.cons rfl (.nil _)))))) ?_
  refine ke_seq ?_
  refine ke_cond (t := decide (t_8 < t_7)) rfl (fun hc1 => ?_) (fun hc1 => ?_)
  ·replace hS := ite_true' hS hc1
   refine ke_skip ?_
   refine ke_seq ?_
   refine ke_block ?_
   refine ke_seq ?_
   refine ke_region ?_
   refine sr_ev (v := .int .i64 t_8) (ev_move rfl) (by decide) ?_
   refine sr_ev (v := .int .i64 t_8) (ev_assign rfl) (by decide) ?_
   refine sr_end (l' := [(0, str s_0), (1, .func (.func 58) #[] #[]), (5, .int .i64 t_8), (7, .int .i64 t_7), (8, .int .i64 t_8)]) (.cons rfl (.cons rfl (.cons rfl (.cons rfl (.cons rfl (.nil _)))))) ?_
   refine ke_seq ?_
   refine ke_region ?_
   refine sr_ev (v := .func (.func 58) #[] #[]) (ev_move rfl) (by decide) ?_
   refine sr_ev (v := str s_0) (ev_move rfl) (by decide) ?_
   refine sr_ev (v := .int .i64 t_8) (ev_move rfl) (by decide) ?_
   obtain ⟨hk2, hS⟩ := chk_some hS
   refine sr_ev (v := .int .u8 (byteAt s_0 t_8)) (ev_sindex Try.underlying9 rfl rfl hk2) (by decide) ?_
   obtain ⟨y3, hy4, hS⟩ := bind_some' hS
   refine sr_call (vs := [.int .u8 (byteAt s_0 t_8)]) rfl Try.call58 rfl (fold_Word_1_ok _ (hg.below hb) hy4) (by decide) ?_
   rintro _ w5 ⟨rfl, hbw6⟩
   replace hb := hb.trans (hbw6.mono hb.size)
   refine sr_ev (v := .bool (!y3)) (ev_not rfl) (by decide) ?_
   refine sr_end (l' := [(0, str s_0), (1, .func (.func 58) #[] #[]), (7, .int .i64 t_7), (8, .int .i64 t_8), (16, .bool (!y3))]) (.cons rfl (.cons rfl (.cons rfl (.cons rfl (.cons rfl (.nil _)))))) ?_
   refine ke_cond (t := !y3) rfl (fun hc7 => ?_) (fun hc7 => ?_)
   ·replace hS := ite_true' hS hc7
    refine ke_seq ?_
    refine ke_region ?_
    refine sr_ev (v := .bool false) (ev_assign rfl) (by decide) ?_
    refine sr_end (l' := [(4, .bool false)]) (.cons rfl (.nil _)) ?_
    cases hS
    exact ke_ret1 Try.func57 rfl rfl ⟨_, rfl, rfl, hb⟩
   ·replace hS := ite_false' hS hc7
    refine ke_skip ?_
    refine ke_inBlock ?_
    refine ke_region ?_
    refine sr_ev (v := .int .i64 (IntKind.i64.wrap (t_8 + 1))) (ev_add rfl rfl) (by decide) ?_
    refine sr_ev (v := .int .i64 (IntKind.i64.wrap (t_8 + 1))) (ev_move rfl) (by decide) ?_
    refine sr_end (l' := [(0, str s_0), (1, .func (.func 58) #[] #[]), (7, .int .i64 t_7), (8, .int .i64 (IntKind.i64.wrap (t_8 + 1)))]) (.cons rfl (.cons rfl (.cons rfl (.cons rfl (.nil _))))) ?_
    have hK := hr0 hS hb
    exact ke_weaken (l' := [(0, str s_0), (1, .func (.func 58) #[] #[]), (7, .int .i64 t_7), (8, .int .i64 (IntKind.i64.wrap (t_8 + 1)))]) (.cons rfl (.cons rfl (.cons rfl (.cons rfl (.nil _))))) hK
  ·replace hS := ite_false' hS hc1
   refine ke_exit (k' := _) rfl ?_
   refine ke_seq ?_
   refine ke_region ?_
   refine sr_ev (v := str s_0) (ev_move rfl) (by decide) ?_
   refine sr_ev (v := .bool (!(s_0 == ([])))) (ev_sne rfl rfl) (by decide) ?_
   refine sr_ev (v := .bool (!(s_0 == ([])))) (ev_move rfl) (by decide) ?_
   refine sr_join (m := 4) (C := fun (x : Bool) w1 => x = ((!(s_0 == ([]))) && (decide ((s_0.length : Int) ≤ 64))) ∧ w = w1) (l' := fun x => [(24, .bool x)]) ?_ ?_
   ·rintro _ _ ⟨rfl, rfl⟩
    refine sr_ev (v := .bool ((!(s_0 == ([]))) && (decide ((s_0.length : Int) ≤ 64)))) (ev_assign rfl) (by decide) ?_
    refine sr_end (l' := [(4, .bool ((!(s_0 == ([]))) && (decide ((s_0.length : Int) ≤ 64))))]) (.cons rfl (.nil _)) ?_
    cases hS
    exact ke_ret1 Try.func57 rfl rfl ⟨_, rfl, rfl, hb⟩
   ·intro K9
    rcases Bool.eq_false_or_eq_true (!(s_0 == ([]))) with hg8 | hg8
    ·refine sr_evg (b := true) (e := 20) rfl rfl hg8 (v := str s_0) (ev_move rfl) (by decide) ?_
     refine sr_evg (b := true) (e := 20) rfl rfl hg8 (v := .int .i64 (s_0.length : Int)) (ev_slen Try.underlying9 rfl) (by decide) ?_
     refine sr_evg (b := true) (e := 20) rfl rfl hg8 (v := .bool (decide ((s_0.length : Int) ≤ 64))) (ev_le rfl rfl) (by decide) ?_
     refine sr_ev (v := .bool (decide ((s_0.length : Int) ≤ 64))) (ev_pick_t rfl hg8 rfl) (by decide) ?_
     exact sr_weaken (l' := [(24, .bool (decide ((s_0.length : Int) ≤ 64)))]) (.cons rfl (.nil _)) (K9 (decide ((s_0.length : Int) ≤ 64)) _ ⟨by rw [hg8]; rfl, rfl⟩)
    ·refine sr_pass (e := 20) rfl rfl (by rw [hg8]; rfl) (by decide) ?_
     refine sr_pass (e := 20) rfl rfl (by rw [hg8]; rfl) (by decide) ?_
     refine sr_pass (e := 20) rfl rfl (by rw [hg8]; rfl) (by decide) ?_
     refine sr_ev (v := .bool false) (ev_pick_f rfl hg8 rfl) (by decide) ?_
     exact sr_weaken (l' := [(24, .bool false)]) (.cons rfl (.nil _)) (K9 false _ ⟨by rw [hg8]; rfl, rfl⟩)
theorem fold_made__Word_1_ok (w0 : World) (hg : Gs w0) {s_0 : Str} {r : Bool} (hS : fold_made__Word_1 s_0 = some r) :
  Calls Try.prog 57 #[str s_0, .func (.func 58) #[] #[]] w0 (Ret (fun v w' => v = .bool r ∧ Below w0.heap.size w0 w')) := by
 unfold fold_made__Word_1 at hS
 have hb := Below.refl w0.heap.size w0
 refine calls_of_ke Try.func57 rfl (n := 25) rfl rfl (l := [(0, str s_0), (1, .func (.func 58) #[] #[])]) rfl ?_
 refine ke_seq ?_
 refine ke_region ?_
 refine sr_ev (v := .bool false) (ev_assign rfl) (by decide) ?_
 refine sr_end (l' := [(0, str s_0), (1, .func (.func 58) #[] #[])]) (.cons rfl (.cons rfl (.nil _))) ?_
 refine ke_seq ?_
 refine ke_seq ?_
 refine ke_region ?_
 refine sr_ev (v := str s_0) (ev_move rfl) (by decide) ?_
 refine sr_ev (v := .int .i64 (s_0.length : Int)) (ev_slen Try.underlying9 rfl) (by decide) ?_
 refine sr_ev (v := .int .i64 0) (ev_move rfl) (by decide) ?_
 refine sr_end (l' := [(0, str s_0), (1, .func (.func 58) #[] #[]), (7, .int .i64 (s_0.length : Int)), (8, .int .i64 0)]) (.cons rfl (.cons rfl (.cons rfl (.cons rfl (.nil _))))) ?_
 refine ke_block ?_
 have hK := fold_made__Word_1_L1_ok hg _ hS hb
 exact ke_weaken (l' := [(0, str s_0), (1, .func (.func 58) #[] #[]), (7, .int .i64 (s_0.length : Int)), (8, .int .i64 0)]) (.cons rfl (.cons rfl (.cons rfl (.cons rfl (.nil _))))) (ke_loop hK)
theorem fold_Word_ok (w0 : World) (hg : Gs w0) {s_0 : Str} {r : Bool} (hS : fold_Word s_0 = some r) :
  Calls Try.prog 40 #[str s_0] w0 (Ret (fun v w' => v = .bool r ∧ Below w0.heap.size w0 w')) := by
 unfold fold_Word at hS
 have hb := Below.refl w0.heap.size w0
 refine calls_of_ke Try.func40 rfl (n := 5) rfl rfl (l := [(0, str s_0)]) rfl ?_
 refine ke_seq ?_
 refine ke_region ?_
 refine sr_ev (v := .bool false) (ev_assign rfl) (by decide) ?_
 refine sr_end (l' := [(0, str s_0)]) (.cons rfl (.nil _)) ?_
 refine ke_seq ?_
 refine ke_region ?_
 refine sr_ev (v := str s_0) (ev_move rfl) (by decide) ?_
 obtain ⟨y1, hy2, hS⟩ := bind_some' hS
 refine sr_call (vs := [str s_0, .func (.func 58) #[] #[]]) rfl Try.call57 rfl (fold_made__Word_1_ok _ (hg.below hb) hy2) (by decide) ?_
 rintro _ w3 ⟨rfl, hbw4⟩
 replace hb := hb.trans (hbw4.mono hb.size)
 refine sr_ev (v := .bool y1) (ev_assign rfl) (by decide) ?_
 refine sr_end (l' := [(2, .bool y1)]) (.cons rfl (.nil _)) ?_
 cases hS
 exact ke_ret1 Try.func40 rfl rfl ⟨_, rfl, rfl, hb⟩
theorem scope_valid_ok (w0 : World) (hg : Gs w0) {s_0 : Str} {r : Bool} (hS : scope_valid s_0 = some r) :
  Calls Try.prog 43 #[str s_0] w0 (Ret (fun v w' => v = .bool r ∧ Below w0.heap.size w0 w')) := by
 unfold scope_valid at hS
 have hb := Below.refl w0.heap.size w0
 refine calls_of_ke Try.func43 rfl (n := 23) rfl rfl (l := [(0, str s_0)]) rfl ?_
 refine ke_seq ?_
 refine ke_region ?_
 refine sr_ev (v := .bool false) (ev_assign rfl) (by decide) ?_
 refine sr_end (l' := [(0, str s_0)]) (.cons rfl (.nil _)) ?_
 refine ke_seq ?_
 refine ke_region ?_
 refine sr_ev (v := str s_0) (ev_move rfl) (by decide) ?_
 obtain ⟨y1, hy2, hS⟩ := bind_some' hS
 refine sr_call (vs := [str s_0]) rfl Try.call40 rfl (fold_Word_ok _ (hg.below hb) hy2) (by decide) ?_
 rintro _ w3 ⟨rfl, hbw4⟩
 replace hb := hb.trans (hbw4.mono hb.size)
 refine sr_ev (v := .bool y1) (ev_move rfl) (by decide) ?_
 obtain ⟨z7, hz9, hS⟩ := bind_some' hS
 refine sr_join (m := 4) (C := fun (x : Bool) w1 => z7 = x ∧ Below w3.heap.size w3 w1) (l' := fun x => [(0, str s_0), (9, .bool x)]) ?_ ?_
 ·rintro _ w10 ⟨rfl, hbw11⟩
  replace hb := hb.trans (hbw11.mono hb.size)
  refine sr_ev (v := .bool z7) (ev_move rfl) (by decide) ?_
  obtain ⟨z15, hz17, hS⟩ := bind_some' hS
  refine sr_join (m := 7) (C := fun (x : Bool) w1 => z15 = x ∧ Below w10.heap.size w10 w1) (l' := fun x => [(0, str s_0), (17, .bool x)]) ?_ ?_
  ·rintro _ w18 ⟨rfl, hbw19⟩
   replace hb := hb.trans (hbw19.mono hb.size)
   refine sr_ev (v := .bool z15) (ev_move rfl) (by decide) ?_
   obtain ⟨z23, hz25, hS⟩ := bind_some' hS
   refine sr_join (m := 4) (C := fun (x : Bool) w1 => z23 = x ∧ Below w18.heap.size w18 w1) (l' := fun x => [(22, .bool x)]) ?_ ?_
   ·rintro _ w26 ⟨rfl, hbw27⟩
    replace hb := hb.trans (hbw27.mono hb.size)
    refine sr_ev (v := .bool z23) (ev_assign rfl) (by decide) ?_
    refine sr_end (l' := [(2, .bool z23)]) (.cons rfl (.nil _)) ?_
    cases hS
    exact ke_ret1 Try.func43 rfl rfl ⟨_, rfl, rfl, hb⟩
   ·intro K22
    clear hS
    have hj24 := Below.refl w18.heap.size w18
    rcases Bool.eq_false_or_eq_true z15 with hg21 | hg21
    ·have hS := ite_true' hz25 hg21
     refine sr_evg (b := true) (e := 18) rfl rfl hg21 (v := str s_0) (ev_move rfl) (by decide) ?_
     obtain ⟨y28, hy29, hS⟩ := bind_some' hS
     refine sr_callg (b := true) (e := 18) rfl rfl hg21 (vs := [str s_0, str ([46, 46])]) rfl Try.call62 rfl (lib_Contains_ok _ (hg.below hb) hy29) (by decide) ?_
     rintro _ w30 ⟨rfl, hbw31⟩
     replace hb := hb.trans (hbw31.mono hb.size)
     replace hj24 := hj24.trans (hbw31.mono hj24.size)
     refine sr_evg (b := true) (e := 18) rfl rfl hg21 (v := .bool (!y28)) (ev_not rfl) (by decide) ?_
     refine sr_ev (v := .bool (!y28)) (ev_pick_t rfl hg21 rfl) (by decide) ?_
     exact sr_weaken (l' := [(22, .bool (!y28))]) (.cons rfl (.nil _)) (K22 (!y28) _ ⟨(Option.some.inj hS).symm, hj24⟩)
    ·have hS := ite_false' hz25 hg21
     refine sr_pass (e := 18) rfl rfl (by rw [hg21]; rfl) (by decide) ?_
     refine sr_pass (e := 18) rfl rfl (by rw [hg21]; rfl) (by decide) ?_
     refine sr_pass (e := 18) rfl rfl (by rw [hg21]; rfl) (by decide) ?_
     refine sr_ev (v := .bool false) (ev_pick_f rfl hg21 rfl) (by decide) ?_
     exact sr_weaken (l' := [(22, .bool false)]) (.cons rfl (.nil _)) (K22 false _ ⟨(Option.some.inj hS).symm, hj24⟩)
  ·intro K14
   clear hS
   have hj16 := Below.refl w10.heap.size w10
   rcases Bool.eq_false_or_eq_true z7 with hg13 | hg13
   ·have hS := ite_true' hz17 hg13
    refine sr_evg (b := true) (e := 10) rfl rfl hg13 (v := str s_0) (ev_move rfl) (by decide) ?_
    refine sr_evg (b := true) (e := 10) rfl rfl hg13 (v := str s_0) (ev_move rfl) (by decide) ?_
    refine sr_evg (b := true) (e := 10) rfl rfl hg13 (v := .int .i64 (s_0.length : Int)) (ev_slen Try.underlying9 rfl) (by decide) ?_
    refine sr_evg (b := true) (e := 10) rfl rfl hg13 (v := .int .i64 (IntKind.i64.wrap ((s_0.length : Int) - 1))) (ev_sub rfl rfl) (by decide) ?_
    obtain ⟨hk20, hS⟩ := chk_some hS
    refine sr_evg (b := true) (e := 10) rfl rfl hg13 (v := .int .u8 (byteAt s_0 (IntKind.i64.wrap ((s_0.length : Int) - 1)))) (ev_sindex Try.underlying9 rfl rfl hk20) (by decide) ?_
    refine sr_evg (b := true) (e := 10) rfl rfl hg13 (v := .bool ((byteAt s_0 (IntKind.i64.wrap ((s_0.length : Int) - 1))) != 46)) (ev_ne rfl rfl) (by decide) ?_
    refine sr_ev (v := .bool ((byteAt s_0 (IntKind.i64.wrap ((s_0.length : Int) - 1))) != 46)) (ev_pick_t rfl hg13 rfl) (by decide) ?_
    exact sr_weaken (l' := [(0, str s_0), (17, .bool ((byteAt s_0 (IntKind.i64.wrap ((s_0.length : Int) - 1))) != 46))]) (.cons rfl (.cons rfl (.nil _))) (K14 ((byteAt s_0 (IntKind.i64.wrap ((s_0.length : Int) - 1))) != 46) _ ⟨(Option.some.inj hS).symm, hj16⟩)
   ·have hS := ite_false' hz17 hg13
    refine sr_pass (e := 10) rfl rfl (by rw [hg13]; rfl) (by decide) ?_
    refine sr_pass (e := 10) rfl rfl (by rw [hg13]; rfl) (by decide) ?_
    refine sr_pass (e := 10) rfl rfl (by rw [hg13]; rfl) (by decide) ?_
    refine sr_pass (e := 10) rfl rfl (by rw [hg13]; rfl) (by decide) ?_
    refine sr_pass (e := 10) rfl rfl (by rw [hg13]; rfl) (by decide) ?_
    refine sr_pass (e := 10) rfl rfl (by rw [hg13]; rfl) (by decide) ?_
    refine sr_ev (v := .bool false) (ev_pick_f rfl hg13 rfl) (by decide) ?_
    exact sr_weaken (l' := [(0, str s_0), (17, .bool false)]) (.cons rfl (.cons rfl (.nil _))) (K14 false _ ⟨(Option.some.inj hS).symm, hj16⟩)
 ·intro K6
  clear hS
  have hj8 := Below.refl w3.heap.size w3
  rcases Bool.eq_false_or_eq_true y1 with hg5 | hg5
  ·have hS := ite_true' hz9 hg5
   refine sr_evg (b := true) (e := 5) rfl rfl hg5 (v := str s_0) (ev_move rfl) (by decide) ?_
   obtain ⟨hk12, hS⟩ := chk_some hS
   refine sr_evg (b := true) (e := 5) rfl rfl hg5 (v := .int .u8 (byteAt s_0 0)) (ev_sindex Try.underlying9 rfl rfl hk12) (by decide) ?_
   refine sr_evg (b := true) (e := 5) rfl rfl hg5 (v := .bool ((byteAt s_0 0) != 46)) (ev_ne rfl rfl) (by decide) ?_
   refine sr_ev (v := .bool ((byteAt s_0 0) != 46)) (ev_pick_t rfl hg5 rfl) (by decide) ?_
   exact sr_weaken (l' := [(0, str s_0), (9, .bool ((byteAt s_0 0) != 46))]) (.cons rfl (.cons rfl (.nil _))) (K6 ((byteAt s_0 0) != 46) _ ⟨(Option.some.inj hS).symm, hj8⟩)
  ·have hS := ite_false' hz9 hg5
   refine sr_pass (e := 5) rfl rfl (by rw [hg5]; rfl) (by decide) ?_
   refine sr_pass (e := 5) rfl rfl (by rw [hg5]; rfl) (by decide) ?_
   refine sr_pass (e := 5) rfl rfl (by rw [hg5]; rfl) (by decide) ?_
   refine sr_ev (v := .bool false) (ev_pick_f rfl hg5 rfl) (by decide) ?_
   exact sr_weaken (l' := [(0, str s_0), (9, .bool false)]) (.cons rfl (.cons rfl (.nil _))) (K6 false _ ⟨(Option.some.inj hS).symm, hj8⟩)
theorem slices_Index_string_string_L1_ok {w0 : World} (hg : Gs w0) {A0 : Nat → Prop} (hA0 : ∀ b, A0 b → b < w0.heap.size) : ∀ (n : Nat), ∀ {r : Int} {s_0 : List Str} {v_1 : Str} {t_7 : Int} {t_8 : Int} {vs_0 : Value}, slices_Index_string_string_L1 n s_0 v_1 t_7 t_8 = some r → ∀ {w : World} {A : Nat → Prop}, (Below w0.heap.size w0 w) → (∀ b, A b → b < w.heap.size) → (∀ b, A0 b → A b) → (Hp A w0.heap.size w []) → (SlR strC A w vs_0 s_0) → KE Try.prog 63 (Ret (fun v w' => v = .int .i64 r ∧ Below w0.heap.size w0 w')) 19 [.code (sub (bodyOf Try.f63) [2, 1, 2, 2, 1]), .inLoop (sub (bodyOf Try.f63) [2, 1, 2, 2, 1]), .inBlock 0, .code (sub (bodyOf Try.f63) [2, 2])] [(0, vs_0), (1, str v_1), (7, .int .i64 t_7), (8, .int .i64 t_8)] w := by
 intro n
 induction n with
 | zero => intro r s_0 v_1 t_7 t_8 vs_0 hS; cases hS
 | succ n ih =>
  have hr0 : ∀ {r : Int} {s_0 : List Str} {v_1 : Str} {t_7 : Int} {t_8 : Int} {vs_0 : Value}, slices_Index_string_string_L1 n s_0 v_1 t_7 t_8 = some r → ∀ {w : World} {A : Nat → Prop}, (Below w0.heap.size w0 w) → (∀ b, A b → b < w.heap.size) → (∀ b, A0 b → A b) → (Hp A w0.heap.size w []) → (SlR strC A w vs_0 s_0) → KE Try.prog 63 (Ret (fun v w' => v = .int .i64 r ∧ Below w0.heap.size w0 w')) 19 [.inLoop (sub (bodyOf Try.f63) [2, 1, 2, 2, 1]), .inBlock 0, .code (sub (bodyOf Try.f63) [2, 2])] [(0, vs_0), (1, str v_1), (7, .int .i64 t_7), (8, .int .i64 t_8)] w := fun {r} {s_0} {v_1} {t_7} {t_8} {vs_0} hS {w} {A} hb hA hi hH hs_0 => ke_inLoop (ih hS hb hA hi hH hs_0)
  clear ih
  intro r s_0 v_1 t_7 t_8 vs_0 hS w A hb hA hi hH hs_0
  unfold slices_Index_string_string_L1 at hS
  refine ke_seq ?_
  refine ke_region ?_
  refine sr_ev (v := .bool (decide (t_8 < t_7))) (ev_lt rfl rfl) (by decide) ?_
  refine sr_end (l' := [(0, vs_0), (1, str v_1), (7, .int .i64 t_7), (8, .int .i64 t_8), (9, .bool (decide (t_8 < t_7)))]) (.cons rfl (.cons rfl (.cons rfl (.cons rfl (.cons rfl (.nil _)))))) ?_
  refine ke_seq ?_
  refine ke_cond (t := decide (t_8 < t_7)) rfl (fun hc3 => ?_) (fun hc3 => ?_)
  ·replace hS := ite_true' hS hc3
   refine ke_skip ?_
   refine ke_seq ?_
   refine ke_block ?_
   refine ke_seq ?_
   refine ke_region ?_
   refine sr_ev (v := .int .i64 t_8) (ev_move rfl) (by decide) ?_
   refine sr_ev (v := .int .i64 t_8) (ev_assign rfl) (by decide) ?_
   refine sr_end (l' := [(0, vs_0), (1, str v_1), (5, .int .i64 t_8), (7, .int .i64 t_7), (8, .int .i64 t_8)]) (.cons rfl (.cons rfl (.cons rfl (.cons rfl (.cons rfl (.nil _)))))) ?_
   refine ke_seq ?_
   refine ke_region ?_
   refine sr_ev (v := str v_1) (ev_move rfl) (by decide) ?_
   refine sr_ev (v := vs_0) (ev_move rfl) (by decide) ?_
   refine sr_ev (v := .int .i64 t_8) (ev_move rfl) (by decide) ?_
   obtain ⟨y4, hy5, hS⟩ := bind_some' hS
   refine sr_index hs_0 Try.underlying30 Try.info9 rfl rfl rfl hy5 (by decide) ?_
   intro b6 o7 cs9 he8
   obtain rfl : cs9 = [str y4] := he8.rd
   refine sr_ev (v := str y4) (ev_load Try.isAgg9 rfl (he8.cell 0 _ rfl)) (by decide) ?_
   refine sr_ev (v := .bool (v_1 == y4)) (ev_seq rfl rfl) (by decide) ?_
   refine sr_end (l' := [(0, vs_0), (1, str v_1), (5, .int .i64 t_8), (7, .int .i64 t_7), (8, .int .i64 t_8), (16, .bool (v_1 == y4))]) (.cons rfl (.cons rfl (.cons rfl (.cons rfl (.cons rfl (.cons rfl (.nil _))))))) ?_
   refine ke_cond (t := v_1 == y4) rfl (fun hc10 => ?_) (fun hc10 => ?_)
   ·replace hS := ite_true' hS hc10
    refine ke_seq ?_
    refine ke_region ?_
    refine sr_ev (v := .int .i64 t_8) (ev_move rfl) (by decide) ?_
    refine sr_ev (v := .int .i64 t_8) (ev_assign rfl) (by decide) ?_
    refine sr_end (l' := [(4, .int .i64 t_8)]) (.cons rfl (.nil _)) ?_
    cases hS
    exact ke_ret1 Try.func63 rfl rfl ⟨_, rfl, rfl, hb⟩
   ·replace hS := ite_false' hS hc10
    refine ke_skip ?_
    refine ke_inBlock ?_
    refine ke_region ?_
    refine sr_ev (v := .int .i64 (IntKind.i64.wrap (t_8 + 1))) (ev_add rfl rfl) (by decide) ?_
    refine sr_ev (v := .int .i64 (IntKind.i64.wrap (t_8 + 1))) (ev_move rfl) (by decide) ?_
    refine sr_end (l' := [(0, vs_0), (1, str v_1), (7, .int .i64 t_7), (8, .int .i64 (IntKind.i64.wrap (t_8 + 1)))]) (.cons rfl (.cons rfl (.cons rfl (.cons rfl (.nil _))))) ?_
    have hK := hr0 hS hb hA hi hH hs_0
    exact ke_weaken (l' := [(0, vs_0), (1, str v_1), (7, .int .i64 t_7), (8, .int .i64 (IntKind.i64.wrap (t_8 + 1)))]) (.cons rfl (.cons rfl (.cons rfl (.cons rfl (.nil _))))) hK
  ·replace hS := ite_false' hS hc3
   refine ke_exit (k' := _) rfl ?_
   refine ke_seq ?_
   refine ke_region ?_
   refine sr_ev (v := .int .i64 (-1)) (ev_assign rfl) (by decide) ?_
   refine sr_end (l' := [(4, .int .i64 (-1))]) (.cons rfl (.nil _)) ?_
   cases hS
   exact ke_ret1 Try.func63 rfl rfl ⟨_, rfl, rfl, hb⟩
theorem slices_Index_string_string_ok {A0 : Nat → Prop} (w0 : World) (hg : Gs w0) {s_0 : List Str} {v_1 : Str} {v1 : Value} {r : Int} (h2 : SlR strC A0 w0 v1 s_0) (hS : slices_Index_string_string s_0 v_1 = some r) :
  Calls Try.prog 63 #[v1, str v_1] w0 (Ret (fun v w' => v = .int .i64 r ∧ Below w0.heap.size w0 w')) := by
 unfold slices_Index_string_string at hS
 have hb := Below.refl w0.heap.size w0
 replace h2 := h2.weak (A' := fun _ => False) (fun _ h => h.elim)
 obtain ⟨A0, hA0, hAe⟩ : ∃ A0 : Nat → Prop, (∀ b, A0 b → b < w0.heap.size) ∧ A0 = fun _ => False := ⟨_, fun _ h => h.elim, rfl⟩
 rw [← hAe] at h2
 clear hAe
 have hA := hA0
 have hi : ∀ b, A0 b → A0 b := fun _ h => h
 have hH := Hp.nil A0 w0.heap.size w0
 refine calls_of_ke Try.func63 rfl (n := 19) rfl rfl (l := [(0, v1), (1, str v_1)]) rfl ?_
 refine ke_seq ?_
 refine ke_region ?_
 refine sr_ev (v := .int .i64 0) (ev_assign rfl) (by decide) ?_
 refine sr_end (l' := [(0, v1), (1, str v_1)]) (.cons rfl (.cons rfl (.nil _))) ?_
 refine ke_seq ?_
 refine ke_seq ?_
 refine ke_region ?_
 refine sr_ev (v := v1) (ev_move rfl) (by decide) ?_
 refine sr_ev (v := .int .i64 (s_0.length : Int)) (ev_sllen Try.underlying30 rfl h2) (by decide) ?_
 refine sr_ev (v := .int .i64 0) (ev_move rfl) (by decide) ?_
 refine sr_end (l' := [(0, v1), (1, str v_1), (7, .int .i64 (s_0.length : Int)), (8, .int .i64 0)]) (.cons rfl (.cons rfl (.cons rfl (.cons rfl (.nil _))))) ?_
 refine ke_block ?_
 have hK := slices_Index_string_string_L1_ok hg hA0 _ hS hb hA hi hH h2
 exact ke_weaken (l' := [(0, v1), (1, str v_1), (7, .int .i64 (s_0.length : Int)), (8, .int .i64 0)]) (.cons rfl (.cons rfl (.cons rfl (.cons rfl (.nil _))))) (ke_loop hK)
theorem slices_Contains_string_string_ok {A0 : Nat → Prop} (w0 : World) (hg : Gs w0) {s_0 : List Str} {v_1 : Str} {v1 : Value} {r : Bool} (h2 : SlR strC A0 w0 v1 s_0) (hS : slices_Contains_string_string s_0 v_1 = some r) :
  Calls Try.prog 44 #[v1, str v_1] w0 (Ret (fun v w' => v = .bool r ∧ Below w0.heap.size w0 w')) := by
 unfold slices_Contains_string_string at hS
 have hb := Below.refl w0.heap.size w0
 replace h2 := h2.weak (A' := fun _ => False) (fun _ h => h.elim)
 obtain ⟨A0, hA0, hAe⟩ : ∃ A0 : Nat → Prop, (∀ b, A0 b → b < w0.heap.size) ∧ A0 = fun _ => False := ⟨_, fun _ h => h.elim, rfl⟩
 rw [← hAe] at h2
 clear hAe
 have hA := hA0
 have hi : ∀ b, A0 b → A0 b := fun _ h => h
 have hH := Hp.nil A0 w0.heap.size w0
 refine calls_of_ke Try.func44 rfl (n := 9) rfl rfl (l := [(0, v1), (1, str v_1)]) rfl ?_
 refine ke_seq ?_
 refine ke_region ?_
 refine sr_ev (v := .bool false) (ev_assign rfl) (by decide) ?_
 refine sr_end (l' := [(0, v1), (1, str v_1)]) (.cons rfl (.cons rfl (.nil _))) ?_
 refine ke_seq ?_
 refine ke_region ?_
 refine sr_ev (v := v1) (ev_move rfl) (by decide) ?_
 refine sr_ev (v := str v_1) (ev_move rfl) (by decide) ?_
 obtain ⟨y3, hy4, hS⟩ := bind_some' hS
 refine sr_call (vs := [v1, str v_1]) rfl Try.call63 rfl (slices_Index_string_string_ok _ (hg.below hb) h2 hy4) (by decide) ?_
 rintro _ w5 ⟨rfl, hbw6⟩
 replace hb := hb.trans (hbw6.mono hb.size)
 replace hA := lt_mono hA hbw6.size
 replace hH := hH.below hbw6
 refine sr_ev (v := .bool (decide (y3 ≥ 0))) (ev_ge rfl rfl) (by decide) ?_
 refine sr_ev (v := .bool (decide (y3 ≥ 0))) (ev_assign rfl) (by decide) ?_
 refine sr_end (l' := [(4, .bool (decide (y3 ≥ 0)))]) (.cons rfl (.nil _)) ?_
 cases hS
 exact ke_ret1 Try.func44 rfl rfl ⟨_, rfl, rfl, hb⟩
theorem scope_Check_L1_ok {w0 : World} (hg : Gs w0) {A0 : Nat → Prop} (hA0 : ∀ b, A0 b → b < w0.heap.size) : ∀ (n : Nat), ∀ {r : Int} {l_0 : List Str} {t_8 : List Str} {t_9 : Int} {t_10 : Int} {vl_0 : Value} {vt_8 : Value}, scope_Check_L1 n l_0 t_8 t_9 t_10 = some r → ∀ {w : World} {A : Nat → Prop}, (Below w0.heap.size w0 w) → (∀ b, A b → b < w.heap.size) → (∀ b, A0 b → A b) → (Hp A w0.heap.size w []) → (SlR strC A w vl_0 l_0) → (SlR strC A w vt_8 t_8) → KE Try.prog 41 (Ret (fun v w' => v = .int .i64 r ∧ Below w0.heap.size w0 w')) 24 [.code (sub (bodyOf Try.f41) [2, 2, 1, 2, 2, 1]), .inLoop (sub (bodyOf Try.f41) [2, 2, 1, 2, 2, 1]), .inBlock 0, .code (sub (bodyOf Try.f41) [2, 2, 2])] [(0, vl_0), (8, vt_8), (9, .int .i64 t_9), (10, .int .i64 t_10)] w := by
 intro n
 induction n with
 | zero => intro r l_0 t_8 t_9 t_10 vl_0 vt_8 hS; cases hS
 | succ n ih =>
  have hr0 : ∀ {r : Int} {l_0 : List Str} {t_8 : List Str} {t_9 : Int} {t_10 : Int} {vl_0 : Value} {vt_8 : Value}, scope_Check_L1 n l_0 t_8 t_9 t_10 = some r → ∀ {w : World} {A : Nat → Prop}, (Below w0.heap.size w0 w) → (∀ b, A b → b < w.heap.size) → (∀ b, A0 b → A b) → (Hp A w0.heap.size w []) → (SlR strC A w vl_0 l_0) → (SlR strC A w vt_8 t_8) → KE Try.prog 41 (Ret (fun v w' => v = .int .i64 r ∧ Below w0.heap.size w0 w')) 24 [.inLoop (sub (bodyOf Try.f41) [2, 2, 1, 2, 2, 1]), .inBlock 0, .code (sub (bodyOf Try.f41) [2, 2, 2])] [(0, vl_0), (8, vt_8), (9, .int .i64 t_9), (10, .int .i64 t_10)] w := fun {r} {l_0} {t_8} {t_9} {t_10} {vl_0} {vt_8} hS {w} {A} hb hA hi hH hl_0 ht_8 => ke_inLoop (ih hS hb hA hi hH hl_0 ht_8)
  clear ih
  intro r l_0 t_8 t_9 t_10 vl_0 vt_8 hS w A hb hA hi hH hl_0 ht_8
  unfold scope_Check_L1 at hS
  refine ke_seq ?_
  refine ke_region ?_
  refine sr_ev (v := .bool (decide (t_10 < t_9))) (ev_lt rfl rfl) (by decide) ?_
  refine sr_end (l' := [(0, vl_0), (8, vt_8), (9, .int .i64 t_9), (10, .int .i64 t_10), (11, .bool (decide (t_10 < t_9)))]) (.cons rfl (.cons rfl (.cons rfl (.cons rfl (.cons rfl (.nil _)))))) ?_
  refine ke_seq ?_
  refine ke_cond (t := decide (t_10 < t_9)) rfl (fun hc4 => ?_) (fun hc4 => ?_)
  ·replace hS := ite_true' hS hc4
   refine ke_skip ?_
   refine ke_seq ?_
   refine ke_block ?_
   refine ke_seq ?_
   refine ke_region ?_
   refine sr_ev (v := .int .i64 t_10) (ev_move rfl) (by decide) ?_
   obtain ⟨y5, hy6, hS⟩ := bind_some' hS
   refine sr_index ht_8 Try.underlying30 Try.info9 rfl rfl rfl hy6 (by decide) ?_
   intro b7 o8 cs10 he9
   obtain rfl : cs10 = [str y5] := he9.rd
   refine sr_ev (v := str y5) (ev_load Try.isAgg9 rfl (he9.cell 0 _ rfl)) (by decide) ?_
   refine sr_ev (v := .int .i64 t_10) (ev_assign rfl) (by decide) ?_
   refine sr_ev (v := str y5) (ev_assign rfl) (by decide) ?_
   refine sr_end (l' := [(0, vl_0), (3, .int .i64 t_10), (4, str y5), (8, vt_8), (9, .int .i64 t_9), (10, .int .i64 t_10)]) (.cons rfl (.cons rfl (.cons rfl (.cons rfl (.cons rfl (.cons rfl (.nil _))))))) ?_
   refine ke_seq ?_
   refine ke_seq ?_
   refine ke_region ?_
   refine sr_ev (v := str y5) (ev_move rfl) (by decide) ?_
   obtain ⟨y11, hy12, hS⟩ := bind_some' hS
   refine sr_call (vs := [str y5]) rfl Try.call43 rfl (scope_valid_ok _ (hg.below hb) hy12) (by decide) ?_
   rintro _ w13 ⟨rfl, hbw14⟩
   replace hb := hb.trans (hbw14.mono hb.size)
   replace hA := lt_mono hA hbw14.size
   replace hH := hH.below hbw14
   replace hl_0 := hl_0.below hbw14
   replace ht_8 := ht_8.below hbw14
   refine sr_ev (v := .bool (!y11)) (ev_not rfl) (by decide) ?_
   refine sr_end (l' := [(0, vl_0), (3, .int .i64 t_10), (4, str y5), (8, vt_8), (9, .int .i64 t_9), (10, .int .i64 t_10), (17, .bool (!y11))]) (.cons rfl (.cons rfl (.cons rfl (.cons rfl (.cons rfl (.cons rfl (.cons rfl (.nil _)))))))) ?_
   refine ke_cond (t := !y11) rfl (fun hc15 => ?_) (fun hc15 => ?_)
   ·replace hS := ite_true' hS hc15
    refine ke_seq ?_
    refine ke_region ?_
    refine sr_ev (v := .int .i64 5) (ev_assign rfl) (by decide) ?_
    refine sr_end (l' := [(2, .int .i64 5)]) (.cons rfl (.nil _)) ?_
    cases hS
    exact ke_ret1 Try.func41 rfl rfl ⟨_, rfl, rfl, hb⟩
   ·replace hS := ite_false' hS hc15
    refine ke_skip ?_
    refine ke_seq ?_
    refine ke_region ?_
    refine sr_ev (v := vl_0) (ev_move rfl) (by decide) ?_
    refine sr_ev (v := .int .i64 t_10) (ev_move rfl) (by decide) ?_
    obtain ⟨hk16, hS⟩ := chk_some hS
    refine sr_slice_h hl_0 Try.underlying30 Try.info9 rfl rfl rfl  hk16 (by decide) ?_
    intro v17 h18
    refine sr_ev (v := str y5) (ev_move rfl) (by decide) ?_
    obtain ⟨y19, hy20, hS⟩ := bind_some' hS
    refine sr_call (vs := [v17, str y5]) rfl Try.call44 rfl (slices_Contains_string_string_ok _ (hg.below hb) h18 hy20) (by decide) ?_
    rintro _ w21 ⟨rfl, hbw22⟩
    replace hb := hb.trans (hbw22.mono hb.size)
    replace hA := lt_mono hA hbw22.size
    replace hH := hH.below hbw22
    replace hl_0 := hl_0.below hbw22
    replace ht_8 := ht_8.below hbw22
    refine sr_end (l' := [(0, vl_0), (8, vt_8), (9, .int .i64 t_9), (10, .int .i64 t_10), (22, .bool y19)]) (.cons rfl (.cons rfl (.cons rfl (.cons rfl (.cons rfl (.nil _)))))) ?_
    refine ke_cond (t := y19) rfl (fun hc23 => ?_) (fun hc23 => ?_)
    ·replace hS := ite_true' hS hc23
     refine ke_seq ?_
     refine ke_region ?_
     refine sr_ev (v := .int .i64 7) (ev_assign rfl) (by decide) ?_
     refine sr_end (l' := [(2, .int .i64 7)]) (.cons rfl (.nil _)) ?_
     cases hS
     exact ke_ret1 Try.func41 rfl rfl ⟨_, rfl, rfl, hb⟩
    ·replace hS := ite_false' hS hc23
     refine ke_skip ?_
     refine ke_inBlock ?_
     refine ke_region ?_
     refine sr_ev (v := .int .i64 (IntKind.i64.wrap (t_10 + 1))) (ev_add rfl rfl) (by decide) ?_
     refine sr_ev (v := .int .i64 (IntKind.i64.wrap (t_10 + 1))) (ev_move rfl) (by decide) ?_
     refine sr_end (l' := [(0, vl_0), (8, vt_8), (9, .int .i64 t_9), (10, .int .i64 (IntKind.i64.wrap (t_10 + 1)))]) (.cons rfl (.cons rfl (.cons rfl (.cons rfl (.nil _))))) ?_
     have hK := hr0 hS hb hA hi hH hl_0 ht_8
     exact ke_weaken (l' := [(0, vl_0), (8, vt_8), (9, .int .i64 t_9), (10, .int .i64 (IntKind.i64.wrap (t_10 + 1)))]) (.cons rfl (.cons rfl (.cons rfl (.cons rfl (.nil _))))) hK
  ·replace hS := ite_false' hS hc4
   refine ke_exit (k' := _) rfl ?_
   refine ke_seq ?_
   refine ke_region ?_
   refine sr_ev (v := .int .i64 0) (ev_assign rfl) (by decide) ?_
   refine sr_end (l' := [(2, .int .i64 0)]) (.cons rfl (.nil _)) ?_
   cases hS
   exact ke_ret1 Try.func41 rfl rfl ⟨_, rfl, rfl, hb⟩
theorem scope_Check_ok {A0 : Nat → Prop} (w0 : World) (hg : Gs w0) {l_0 : List Str} {v1 : Value} {r : Int} (h2 : SlR strC A0 w0 v1 l_0) (hS : scope_Check l_0 = some r) :
  Calls Try.prog 41 #[v1] w0 (Ret (fun v w' => v = .int .i64 r ∧ Below w0.heap.size w0 w')) := by
 unfold scope_Check at hS
 have hb := Below.refl w0.heap.size w0
 replace h2 := h2.weak (A' := fun _ => False) (fun _ h => h.elim)
 obtain ⟨A0, hA0, hAe⟩ : ∃ A0 : Nat → Prop, (∀ b, A0 b → b < w0.heap.size) ∧ A0 = fun _ => False := ⟨_, fun _ h => h.elim, rfl⟩
 rw [← hAe] at h2
 clear hAe
 have hA := hA0
 have hi : ∀ b, A0 b → A0 b := fun _ h => h
 have hH := Hp.nil A0 w0.heap.size w0
 refine calls_of_ke Try.func41 rfl (n := 24) rfl rfl (l := [(0, v1)]) rfl ?_
 refine ke_seq ?_
 refine ke_region ?_
 refine sr_ev (v := .int .i64 0) (ev_assign rfl) (by decide) ?_
 refine sr_end (l' := [(0, v1)]) (.cons rfl (.nil _)) ?_
 refine ke_seq ?_
 refine ke_seq ?_
 refine ke_region ?_
 refine sr_ev (v := v1) (ev_move rfl) (by decide) ?_
 refine sr_ev (v := .int .i64 (l_0.length : Int)) (ev_sllen Try.underlying30 rfl h2) (by decide) ?_
 refine sr_ev (v := .bool (decide ((l_0.length : Int) > 16))) (ev_gt rfl rfl) (by decide) ?_
 refine sr_end (l' := [(0, v1), (7, .bool (decide ((l_0.length : Int) > 16)))]) (.cons rfl (.cons rfl (.nil _))) ?_
 refine ke_cond (t := decide ((l_0.length : Int) > 16)) rfl (fun hc3 => ?_) (fun hc3 => ?_)
 ·replace hS := ite_true' hS hc3
  refine ke_seq ?_
  refine ke_region ?_
  refine sr_ev (v := .int .i64 3) (ev_assign rfl) (by decide) ?_
  refine sr_end (l' := [(2, .int .i64 3)]) (.cons rfl (.nil _)) ?_
  cases hS
  exact ke_ret1 Try.func41 rfl rfl ⟨_, rfl, rfl, hb⟩
 ·replace hS := ite_false' hS hc3
  refine ke_skip ?_
  refine ke_seq ?_
  refine ke_seq ?_
  refine ke_region ?_
  refine sr_ev (v := v1) (ev_move rfl) (by decide) ?_
  refine sr_ev (v := .int .i64 (l_0.length : Int)) (ev_sllen Try.underlying30 rfl h2) (by decide) ?_
  refine sr_ev (v := .int .i64 0) (ev_move rfl) (by decide) ?_
  refine sr_end (l' := [(0, v1), (8, v1), (9, .int .i64 (l_0.length : Int)), (10, .int .i64 0)]) (.cons rfl (.cons rfl (.cons rfl (.cons rfl (.nil _))))) ?_
  refine ke_block ?_
  have hK := scope_Check_L1_ok hg hA0 _ hS hb hA hi hH h2 h2
  exact ke_weaken (l' := [(0, v1), (8, v1), (9, .int .i64 (l_0.length : Int)), (10, .int .i64 0)]) (.cons rfl (.cons rfl (.cons rfl (.cons rfl (.nil _))))) (ke_loop hK)
theorem clock_limited_ok (w0 : World) (hg : Gs w0) {t_0 : Int} {r : Int} (hS : clock_limited t_0 = some r) :
  Calls Try.prog 61 #[.int .i64 t_0] w0 (Ret (fun v w' => v = .int .i64 r ∧ Below w0.heap.size w0 w')) := by
 unfold clock_limited at hS
 have hb := Below.refl w0.heap.size w0
 refine calls_of_ke Try.func61 rfl (n := 6) rfl rfl (l := [(0, .int .i64 t_0)]) rfl ?_
 refine ke_seq ?_
 refine ke_region ?_
 refine sr_ev (v := .int .i64 0) (ev_assign rfl) (by decide) ?_
 refine sr_end (l' := [(0, .int .i64 t_0)]) (.cons rfl (.nil _)) ?_
 refine ke_seq ?_
 refine ke_region ?_
 refine sr_ev (v := .int .i64 t_0) (ev_move rfl) (by decide) ?_
 refine sr_ev (v := .int .i64 (gmax t_0 0)) (ev_max rfl rfl) (by decide) ?_
 refine sr_ev (v := .int .i64 (gmin (gmax t_0 0) 1099511627776)) (ev_min rfl rfl) (by decide) ?_
 refine sr_ev (v := .int .i64 (gmin (gmax t_0 0) 1099511627776)) (ev_assign rfl) (by decide) ?_
 refine sr_end (l' := [(2, .int .i64 (gmin (gmax t_0 0) 1099511627776))]) (.cons rfl (.nil _)) ?_
 cases hS
 exact ke_ret1 Try.func61 rfl rfl ⟨_, rfl, rfl, hb⟩
theorem clock_Add_ok (w0 : World) (hg : Gs w0) {t_0 : Int} {d_1 : Int} {r : Int} (hS : clock_Add t_0 d_1 = some r) :
  Calls Try.prog 42 #[.int .i64 t_0, .int .i64 d_1] w0 (Ret (fun v w' => v = .int .i64 r ∧ Below w0.heap.size w0 w')) := by
 unfold clock_Add at hS
 have hb := Below.refl w0.heap.size w0
 refine calls_of_ke Try.func42 rfl (n := 11) rfl rfl (l := [(0, .int .i64 t_0), (1, .int .i64 d_1)]) rfl ?_
 refine ke_seq ?_
 refine ke_region ?_
 refine sr_ev (v := .int .i64 0) (ev_assign rfl) (by decide) ?_
 refine sr_end (l' := [(0, .int .i64 t_0), (1, .int .i64 d_1)]) (.cons rfl (.cons rfl (.nil _))) ?_
 refine ke_seq ?_
 refine ke_region ?_
 refine sr_ev (v := .int .i64 t_0) (ev_move rfl) (by decide) ?_
 obtain ⟨y1, hy2, hS⟩ := bind_some' hS
 refine sr_call (vs := [.int .i64 t_0]) rfl Try.call61 rfl (clock_limited_ok _ (hg.below hb) hy2) (by decide) ?_
 rintro _ w3 ⟨rfl, hbw4⟩
 replace hb := hb.trans (hbw4.mono hb.size)
 refine sr_ev (v := .int .i64 d_1) (ev_move rfl) (by decide) ?_
 obtain ⟨y5, hy6, hS⟩ := bind_some' hS
 refine sr_call (vs := [.int .i64 d_1]) rfl Try.call61 rfl (clock_limited_ok _ (hg.below hb) hy6) (by decide) ?_
 rintro _ w7 ⟨rfl, hbw8⟩
 replace hb := hb.trans (hbw8.mono hb.size)
 refine sr_ev (v := .int .i64 (IntKind.i64.wrap (y1 + y5))) (ev_add rfl rfl) (by decide) ?_
 obtain ⟨y9, hy10, hS⟩ := bind_some' hS
 refine sr_call (vs := [.int .i64 (IntKind.i64.wrap (y1 + y5))]) rfl Try.call61 rfl (clock_limited_ok _ (hg.below hb) hy10) (by decide) ?_
 rintro _ w11 ⟨rfl, hbw12⟩
 replace hb := hb.trans (hbw12.mono hb.size)
 refine sr_ev (v := .int .i64 y9) (ev_assign rfl) (by decide) ?_
 refine sr_end (l' := [(4, .int .i64 y9)]) (.cons rfl (.nil _)) ?_
 cases hS
 exact ke_ret1 Try.func42 rfl rfl ⟨_, rfl, rfl, hb⟩
theorem consent_Consents_Grant_B2_ok {w0 : World} (hg : Gs w0) {ρA : Tags} (hbd : ∀ b, ρA b ≠ 0 → b < w0.heap.size) {o : Nat} (ho2 : 2 ≤ o) {gc_0 : Nat} (hz : Gz (enter ρA o 2)) (r0 : consent_Consents → List Str → Int → Int → Str → Str → GMap Str Int → GMap Str Int → List Str → Option (Int × consent_Consents))
  (hr0 : ∀ {r : Int × consent_Consents} {oc_0 : consent_Consents} {scopes_3 : List Str} {end_14 : Int} {at_15 : Int} {p_16_0 : Str} {p_16_1 : Str} {l_19 : GMap Str Int} {t_80m : GMap Str Int} {t_80 : List Str} {vscopes_3 : Value} {gp_16 : Nat} {vl_19 : Value} {vt_80m : Value} {rt_80 : Nat}, r0 oc_0 scopes_3 end_14 at_15 p_16_0 p_16_1 l_19 t_80m t_80 = some r → ∀ {ρ : Tags} {w : World}, (Fr (enter ρA o 2) w0 ρ w) → (consent_Consents.O (fun p => 100 + p) ρ w gc_0 oc_0) → (SlR strC (Wb ρ) w vscopes_3 scopes_3) → (Blk ρ 18 w gp_16 (.cells #[str p_16_0, str p_16_1] 59 (0, 0))) → (MapT str (intC .i64) false ρ 80 w vl_19 l_19) → (MapRd str (intC .i64) false (Wb ρ) w vt_80m t_80m) → (IterP str (intC .i64) false ρ 2 w rt_80 vt_80m t_80m t_80) → KE Try.prog 21 (Ret (fun v w' => ∃ ρ', v = .int .i64 r.1 ∧ consent_Consents.O (fun p => o + p) ρ' w' gc_0 r.2 ∧ Tr ρA w0 (rng o 2) ρ' w')) 115 [.inLoop (sub (bodyOf Try.f21) [2, 2, 2, 2, 2, 2, 2, 2, 2, 2, 2, 1, 2, 2, 1]), .inBlock 0, .code (sub (bodyOf Try.f21) [2, 2, 2, 2, 2, 2, 2, 2, 2, 2, 2, 2])] [(0, .pointer (some ⟨gc_0, 0, none⟩)), (3, vscopes_3), (14, .int .i64 end_14), (15, .int .i64 at_15), (16, .pointer (some ⟨gp_16, 0, none⟩)), (19, vl_19), (80, .pointer (some ⟨rt_80, 0, none⟩))] w) {r : Int × consent_Consents} {oc_0 : consent_Consents} {scopes_3 : List Str} {end_14 : Int} {at_15 : Int} {p_16_0 : Str} {p_16_1 : Str} {l_19 : GMap Str Int} {t_80m : GMap Str Int} {t_80 : List Str} {vscopes_3 : Value} {gp_16 : Nat} {vl_19 : Value} {vt_80m : Value} {rt_80 : Nat} (hS : consent_Consents_Grant_B2 r0 oc_0 scopes_3 end_14 at_15 p_16_0 p_16_1 l_19 t_80m t_80 = some r) {ρ : Tags} {w : World} (hb : Fr (enter ρA o 2) w0 ρ w) (hoc_0 : consent_Consents.O (fun p => 100 + p) ρ w gc_0 oc_0) (hscopes_3 : SlR strC (Wb ρ) w vscopes_3 scopes_3) (hBp_16 : Blk ρ 18 w gp_16 (.cells #[str p_16_0, str p_16_1] 59 (0, 0))) (hl_19 : MapT str (intC .i64) false ρ 80 w vl_19 l_19) (ht_80m : MapRd str (intC .i64) false (Wb ρ) w vt_80m t_80m) (ht_80 : IterP str (intC .i64) false ρ 2 w rt_80 vt_80m t_80m t_80) :
  KE Try.prog 21 (Ret (fun v w' => ∃ ρ', v = .int .i64 r.1 ∧ consent_Consents.O (fun p => o + p) ρ' w' gc_0 r.2 ∧ Tr ρA w0 (rng o 2) ρ' w')) 115 [.inBlock 1, .inLoop (sub (bodyOf Try.f21) [2, 2, 2, 2, 2, 2, 2, 2, 2, 2, 2, 1, 2, 2, 1]), .inBlock 0, .code (sub (bodyOf Try.f21) [2, 2, 2, 2, 2, 2, 2, 2, 2, 2, 2, 2])] [(0, .pointer (some ⟨gc_0, 0, none⟩)), (3, vscopes_3), (14, .int .i64 end_14), (15, .int .i64 at_15), (16, .pointer (some ⟨gp_16, 0, none⟩)), (19, vl_19), (80, .pointer (some ⟨rt_80, 0, none⟩))] w := by
 unfold consent_Consents_Grant_B2 at hS
 obtain ⟨v94, hB96, h95⟩ := hoc_0
 replace hB96 : Blk ρ 100 w gc_0 (.cells #[v94] 52 (0, 0)) := hB96
 replace h95 : MapT consent_pair.ek (mapC str (intC .i64) false) false ρ 101 w v94 oc_0.pairs := h95
 refine ke_inBlock ?_
 have hK := hr0 hS hb ⟨_, hB96, h95⟩ hscopes_3 hBp_16 hl_19 ht_80m ht_80
 exact ke_weaken (l' := [(0, .pointer (some ⟨gc_0, 0, none⟩)), (3, vscopes_3), (14, .int .i64 end_14), (15, .int .i64 at_15), (16, .pointer (some ⟨gp_16, 0, none⟩)), (19, vl_19), (80, .pointer (some ⟨rt_80, 0, none⟩))]) (.cons rfl (.cons rfl (.cons rfl (.cons rfl (.cons rfl (.cons rfl (.cons rfl (.nil _)))))))) hK
theorem consent_Consents_Grant_L3_ok {w0 : World} (hg : Gs w0) {ρA : Tags} (hbd : ∀ b, ρA b ≠ 0 → b < w0.heap.size) {o : Nat} (ho2 : 2 ≤ o) {gc_0 : Nat} (hz : Gz (enter ρA o 2)) (r0 : consent_Consents → List Str → Int → Int → Str → Str → GMap Str Int → GMap Str Int → List Str → Option (Int × consent_Consents))
  (hr0 : ∀ {r : Int × consent_Consents} {oc_0 : consent_Consents} {scopes_3 : List Str} {end_14 : Int} {at_15 : Int} {p_16_0 : Str} {p_16_1 : Str} {l_19 : GMap Str Int} {t_80m : GMap Str Int} {t_80 : List Str} {vscopes_3 : Value} {gp_16 : Nat} {vl_19 : Value} {vt_80m : Value} {rt_80 : Nat}, r0 oc_0 scopes_3 end_14 at_15 p_16_0 p_16_1 l_19 t_80m t_80 = some r → ∀ {ρ : Tags} {w : World}, (Fr (enter ρA o 2) w0 ρ w) → (consent_Consents.O (fun p => 100 + p) ρ w gc_0 oc_0) → (SlR strC (Wb ρ) w vscopes_3 scopes_3) → (Blk ρ 18 w gp_16 (.cells #[str p_16_0, str p_16_1] 59 (0, 0))) → (MapT str (intC .i64) false ρ 80 w vl_19 l_19) → (MapRd str (intC .i64) false (Wb ρ) w vt_80m t_80m) → (IterP str (intC .i64) false ρ 2 w rt_80 vt_80m t_80m t_80) → KE Try.prog 21 (Ret (fun v w' => ∃ ρ', v = .int .i64 r.1 ∧ consent_Consents.O (fun p => o + p) ρ' w' gc_0 r.2 ∧ Tr ρA w0 (rng o 2) ρ' w')) 115 [.inLoop (sub (bodyOf Try.f21) [2, 2, 2, 2, 2, 2, 2, 2, 2, 2, 2, 1, 2, 2, 1]), .inBlock 0, .code (sub (bodyOf Try.f21) [2, 2, 2, 2, 2, 2, 2, 2, 2, 2, 2, 2])] [(0, .pointer (some ⟨gc_0, 0, none⟩)), (3, vscopes_3), (14, .int .i64 end_14), (15, .int .i64 at_15), (16, .pointer (some ⟨gp_16, 0, none⟩)), (19, vl_19), (80, .pointer (some ⟨rt_80, 0, none⟩))] w) : ∀ (n : Nat), ∀ {r : Int × consent_Consents} {oc_0 : consent_Consents} {end_14 : Int} {p_16_0 : Str} {p_16_1 : Str} {l_19 : GMap Str Int} {t_92 : List Str} {t_93 : Int} {t_94 : Int} {gp_16 : Nat} {vl_19 : Value} {vt_92 : Value}, consent_Consents_Grant_L3 r0 n oc_0 end_14 p_16_0 p_16_1 l_19 t_92 t_93 t_94 = some r → ∀ {ρ : Tags} {w : World}, (Fr (enter ρA o 2) w0 ρ w) → (consent_Consents.O (fun p => 100 + p) ρ w gc_0 oc_0) → (Blk ρ 18 w gp_16 (.cells #[str p_16_0, str p_16_1] 59 (0, 0))) → (MapT str (intC .i64) false ρ 80 w vl_19 l_19) → (SlR strC (Wb ρ) w vt_92 t_92) → KE Try.prog 21 (Ret (fun v w' => ∃ ρ', v = .int .i64 r.1 ∧ consent_Consents.O (fun p => o + p) ρ' w' gc_0 r.2 ∧ Tr ρA w0 (rng o 2) ρ' w')) 115 [.code (sub (bodyOf Try.f21) [2, 2, 2, 2, 2, 2, 2, 2, 2, 2, 2, 2, 1, 2, 2, 1]), .inLoop (sub (bodyOf Try.f21) [2, 2, 2, 2, 2, 2, 2, 2, 2, 2, 2, 2, 1, 2, 2, 1]), .inBlock 2, .code (sub (bodyOf Try.f21) [2, 2, 2, 2, 2, 2, 2, 2, 2, 2, 2, 2, 2])] [(0, .pointer (some ⟨gc_0, 0, none⟩)), (14, .int .i64 end_14), (16, .pointer (some ⟨gp_16, 0, none⟩)), (19, vl_19), (92, vt_92), (93, .int .i64 t_93), (94, .int .i64 t_94)] w := by
 intro n
 induction n with
 | zero => intro r oc_0 end_14 p_16_0 p_16_1 l_19 t_92 t_93 t_94 gp_16 vl_19 vt_92 hS; cases hS
 | succ n ih =>
  have hr1 : ∀ {r : Int × consent_Consents} {oc_0 : consent_Consents} {end_14 : Int} {p_16_0 : Str} {p_16_1 : Str} {l_19 : GMap Str Int} {t_92 : List Str} {t_93 : Int} {t_94 : Int} {gp_16 : Nat} {vl_19 : Value} {vt_92 : Value}, consent_Consents_Grant_L3 r0 n oc_0 end_14 p_16_0 p_16_1 l_19 t_92 t_93 t_94 = some r → ∀ {ρ : Tags} {w : World}, (Fr (enter ρA o 2) w0 ρ w) → (consent_Consents.O (fun p => 100 + p) ρ w gc_0 oc_0) → (Blk ρ 18 w gp_16 (.cells #[str p_16_0, str p_16_1] 59 (0, 0))) → (MapT str (intC .i64) false ρ 80 w vl_19 l_19) → (SlR strC (Wb ρ) w vt_92 t_92) → KE Try.prog 21 (Ret (fun v w' => ∃ ρ', v = .int .i64 r.1 ∧ consent_Consents.O (fun p => o + p) ρ' w' gc_0 r.2 ∧ Tr ρA w0 (rng o 2) ρ' w')) 115 [.inLoop (sub (bodyOf Try.f21) [2, 2, 2, 2, 2, 2, 2, 2, 2, 2, 2, 2, 1, 2, 2, 1]), .inBlock 2, .code (sub (bodyOf Try.f21) [2, 2, 2, 2, 2, 2, 2, 2, 2, 2, 2, 2, 2])] [(0, .pointer (some ⟨gc_0, 0, none⟩)), (14, .int .i64 end_14), (16, .pointer (some ⟨gp_16, 0, none⟩)), (19, vl_19), (92, vt_92), (93, .int .i64 t_93), (94, .int .i64 t_94)] w := fun {r} {oc_0} {end_14} {p_16_0} {p_16_1} {l_19} {t_92} {t_93} {t_94} {gp_16} {vl_19} {vt_92} hS {ρ} {w} hb hoc_0 hBp_16 hl_19 ht_92 => ke_inLoop (ih hS hb hoc_0 hBp_16 hl_19 ht_92)
  clear ih
  intro r oc_0 end_14 p_16_0 p_16_1 l_19 t_92 t_93 t_94 gp_16 vl_19 vt_92 hS ρ w hb hoc_0 hBp_16 hl_19 ht_92
  unfold consent_Consents_Grant_L3 at hS
  obtain ⟨v97, hB99, h98⟩ := hoc_0
  replace hB99 : Blk ρ 100 w gc_0 (.cells #[v97] 52 (0, 0)) := hB99
  replace h98 : MapT consent_pair.ek (mapC str (intC .i64) false) false ρ 101 w v97 oc_0.pairs := h98
  refine ke_seq ?_
  refine ke_region ?_
  refine sr_ev (v := .bool (decide (t_94 < t_93))) (ev_lt rfl rfl) (by decide) ?_
  refine sr_end (l' := [(0, .pointer (some ⟨gc_0, 0, none⟩)), (14, .int .i64 end_14), (16, .pointer (some ⟨gp_16, 0, none⟩)), (19, vl_19), (92, vt_92), (93, .int .i64 t_93), (94, .int .i64 t_94), (95, .bool (decide (t_94 < t_93)))]) (.cons rfl (.cons rfl (.cons rfl (.cons rfl (.cons rfl (.cons rfl (.cons rfl (.cons rfl (.nil _))))))))) ?_
  refine ke_seq ?_
  refine ke_cond (t := decide (t_94 < t_93)) rfl (fun hc100 => ?_) (fun hc100 => ?_)
  ·replace hS := ite_true' hS hc100
   refine ke_skip ?_
   refine ke_seq ?_
   refine ke_block ?_
   refine ke_seq ?_
   refine ke_region ?_
   obtain ⟨y101, hy102, hS⟩ := bind_some' hS
   obtain ⟨b103, o104, cs106, hq107, he105⟩ := ((SlT.of_sl (i := 0) ht_92)).elem (P := Try.prog) Try.underlying30 Try.info9 rfl hy102
   obtain rfl : cs106 = [str y101] := he105.rd
   refine sr_ev (v := .pointer (some ⟨b103, o104, none⟩)) (hq107 w rfl rfl) (by decide) ?_
   refine sr_ev (v := str y101) (ev_load Try.isAgg9 rfl (he105.cell 0 _ rfl)) (by decide) ?_
   refine sr_ev (v := str y101) (ev_assign rfl) (by decide) ?_
   refine sr_end (l' := [(0, .pointer (some ⟨gc_0, 0, none⟩)), (14, .int .i64 end_14), (16, .pointer (some ⟨gp_16, 0, none⟩)), (19, vl_19), (23, str y101), (92, vt_92), (93, .int .i64 t_93), (94, .int .i64 t_94)]) (.cons rfl (.cons rfl (.cons rfl (.cons rfl (.cons rfl (.cons rfl (.cons rfl (.cons rfl (.nil _))))))))) ?_
   refine ke_region ?_
   refine sr_ev (v := vl_19) (ev_move rfl) (by decide) ?_
   refine sr_ev (v := str y101) (ev_move rfl) (by decide) ?_
   refine sr_ev (v := vl_19) (ev_move rfl) (by decide) ?_
   refine sr_ev (v := str y101) (ev_move rfl) (by decide) ?_
   obtain ⟨y112, hy113, hS⟩ := bind_some' hS
   replace hy113 := Option.some.inj hy113
   obtain ⟨cs108, hrd109, hl110, hl111⟩ := hl_19.look (zcs := [.int .i64 0]) (z := 0) Try.keyB9 Try.underlying71 Try.zeroValue3 rfl y101
   rw [hy113] at hrd109
   obtain rfl : cs108 = [.int .i64 y112] := hrd109
   refine sr_ev (v := .int .i64 y112) (hl110 w _ _ (Mv.of_below (i := 80) (ρ := ρ) (Below.refl _ _)) rfl rfl) (by decide) ?_
   refine sr_ev (v := .int .i64 end_14) (ev_move rfl) (by decide) ?_
   refine sr_ev (v := .int .i64 (gmax y112 end_14)) (ev_max rfl rfl) (by decide) ?_
   obtain ⟨hk114, hS⟩ := chk_some hS
   refine sr_mapPut (k := y101) (d := gmax y112 end_14) (u := .int .i64 (gmax y112 end_14)) (cs := [.int .i64 (gmax y112 end_14)]) hl_19 hk114 Try.keyB9 Try.underlying71 (by decide) hb.bd rfl rfl rfl rfl rfl ?_
   intro w115 hl_191 htr116
   replace ht_92 := ht_92.mv htr116.rd
   replace hB99 := hB99.mv (htr116.mv (i := 100) rfl)
   replace h98 := h98.mv (htr116.mv (i := 101) rfl)
   replace hBp_16 := hBp_16.mv (htr116.mv (i := 18) rfl)
   replace hb := hb.trans htr116
   replace hl_19 := hl_191
   clear hl_191
   refine sr_end (l' := [(0, .pointer (some ⟨gc_0, 0, none⟩)), (14, .int .i64 end_14), (16, .pointer (some ⟨gp_16, 0, none⟩)), (19, vl_19), (92, vt_92), (93, .int .i64 t_93), (94, .int .i64 t_94)]) (.cons rfl (.cons rfl (.cons rfl (.cons rfl (.cons rfl (.cons rfl (.cons rfl (.nil _)))))))) ?_
   refine ke_inBlock ?_
   refine ke_region ?_
   refine sr_ev (v := .int .i64 (IntKind.i64.wrap (t_94 + 1))) (ev_add rfl rfl) (by decide) ?_
   refine sr_ev (v := .int .i64 (IntKind.i64.wrap (t_94 + 1))) (ev_move rfl) (by decide) ?_
   refine sr_end (l' := [(0, .pointer (some ⟨gc_0, 0, none⟩)), (14, .int .i64 end_14), (16, .pointer (some ⟨gp_16, 0, none⟩)), (19, vl_19), (92, vt_92), (93, .int .i64 t_93), (94, .int .i64 (IntKind.i64.wrap (t_94 + 1)))]) (.cons rfl (.cons rfl (.cons rfl (.cons rfl (.cons rfl (.cons rfl (.cons rfl (.nil _)))))))) ?_
   have hK := hr1 hS hb ⟨_, hB99, h98⟩ hBp_16 hl_19 ht_92
   exact ke_weaken (l' := [(0, .pointer (some ⟨gc_0, 0, none⟩)), (14, .int .i64 end_14), (16, .pointer (some ⟨gp_16, 0, none⟩)), (19, vl_19), (92, vt_92), (93, .int .i64 t_93), (94, .int .i64 (IntKind.i64.wrap (t_94 + 1)))]) (.cons rfl (.cons rfl (.cons rfl (.cons rfl (.cons rfl (.cons rfl (.cons rfl (.nil _)))))))) hK
  ·replace hS := ite_false' hS hc100
   refine ke_exit (k' := _) rfl ?_
   refine ke_seq ?_
   refine ke_seq ?_
   refine ke_region ?_
   refine sr_ev (v := vl_19) (ev_move rfl) (by decide) ?_
   refine sr_ev (v := .int .i64 (mlen l_19)) (ev_mapLen hl_19 Try.underlying71 (Mv.of_below (i := 80) (ρ := ρ) (Below.refl _ _)) rfl) (by decide) ?_
   refine sr_ev (v := .bool (decide ((mlen l_19) > 16))) (ev_gt rfl rfl) (by decide) ?_
   refine sr_end (l' := [(0, .pointer (some ⟨gc_0, 0, none⟩)), (16, .pointer (some ⟨gp_16, 0, none⟩)), (19, vl_19), (108, .bool (decide ((mlen l_19) > 16)))]) (.cons rfl (.cons rfl (.cons rfl (.cons rfl (.nil _))))) ?_
   refine ke_cond (t := decide ((mlen l_19) > 16)) rfl (fun hc117 => ?_) (fun hc117 => ?_)
   ·replace hS := ite_true' hS hc117
    refine ke_seq ?_
    refine ke_region ?_
    refine sr_ev (v := .int .i64 3) (ev_assign rfl) (by decide) ?_
    refine sr_end (l' := [(12, .int .i64 3)]) (.cons rfl (.nil _)) ?_
    cases hS
    exact ke_ret1 Try.func21 rfl rfl ⟨_, rfl, leave ρA w0 o 2 ρ, rfl, ⟨_, (hB99.mv (leave_mv (p := 0) (by decide) hb)), (h98.mv (leave_mv (p := 1) (by decide) hb))⟩, (leave_tr ho2 hb)⟩
   ·replace hS := ite_false' hS hc117
    refine ke_skip ?_
    refine ke_seq ?_
    refine ke_region_j (ρ := ρ) (fun t => ([80, 101] : List Nat).contains t) 7 Try.mixed (fun w119 hw118 => ?_)
    have htr120 := Tr.of_below hw118 hb.bd
    replace hl_19 := hl_19.mv (htr120.mv (i := 80) rfl)
    replace hB99 := hB99.mv (htr120.mv (i := 100) rfl)
    replace h98 := h98.mv (htr120.mv (i := 101) rfl)
    replace hBp_16 := hBp_16.mv (htr120.mv (i := 18) rfl)
    replace hb := hb.trans htr120
    refine dj_H 0 (v := .pointer (some ⟨gc_0, 0, none⟩)) (by kernel_rfl) (by kernel_rfl) rfl (fun _ _ _ h => h) (sj_refl hb.bd rfl rfl) (fun w1 ρ1 hw1 => ev_move rfl) (by decide) ?_
    refine dj_H 1 (v := .pointer (some ⟨gc_0, 0, none⟩)) (by kernel_rfl) (by kernel_rfl) rfl (fun _ _ _ h => h) (sj_refl hb.bd rfl rfl) (fun w1 ρ1 hw1 => ev_nilCheck rfl) (by decide) ?_
    refine dj_H 2 (v := .pointer (some ⟨gc_0, 0, none⟩)) (by kernel_rfl) (by kernel_rfl) rfl (fun _ _ _ h => h) (sj_refl hb.bd rfl rfl) (fun w1 ρ1 hw1 => ev_fieldAddr (i := 0) Try.underlying52 rfl Try.info50 rfl rfl) (by decide) ?_
    refine dj_H 3 (v := v97) (by kernel_rfl) (by kernel_rfl) rfl (fun _ _ _ h => h) (sj_refl hb.bd rfl rfl) (fun w1 ρ1 hw1 => ev_load Try.isAgg50 rfl ((hB99.mv (hw1.mv (i := 100) rfl)).cell rfl)) (by decide) ?_
    refine dj_H 4 (v := .agg #[str p_16_0, str p_16_1]) (by kernel_rfl) (by kernel_rfl) rfl (fun _ _ _ h => h) (sj_refl hb.bd rfl rfl) (fun w1 ρ1 hw1 => ev_loads (cs := [str p_16_0, str p_16_1]) Try.isAgg59 Try.sizeOf59 rfl ((hBp_16.mv (hw1.mv (i := 18) rfl)).cells (vs := [str p_16_0, str p_16_1]) rfl)) (by decide) ?_
    refine dj_H 5 (v := vl_19) (by kernel_rfl) (by kernel_rfl) rfl (fun _ _ _ h => h) (sj_refl hb.bd rfl rfl) (fun w1 ρ1 hw1 => ev_move rfl) (by decide) ?_
    refine dj_E 6 (by kernel_rfl) rfl ?_
    have jt134 : Tr ρ w119 (fun t => ([80, 101] : List Nat).contains t) ρ w119 := (Tr.refl hb.bd).weak (fun _ _ => rfl) rfl rfl
    have htr135 := frz_tr (ρ := ρ) (w := w119) (i := 80) (by decide) hb.bd
    have h136 : MapRd str (intC .i64) false (Wb (frz ρ 80)) w119 vl_19 (canon l_19) := MapT.rdOnly (MapT.mv hl_19 (frz_mv (ρ := ρ) (w := w119) (i := 80))) (canon_mperm _)
    replace h98 := h98.mv (htr135.mv (i := 101) rfl)
    replace hB99 := hB99.mv (htr135.mv (i := 100) rfl)
    replace hb := hb.trans htr135
    replace jt134 := (jt134.trans htr135).weak (J' := (fun t => ([80, 101] : List Nat).contains t)) (by intro t h; simp [rng] at h ⊢ <;> omega) rfl rfl
    obtain ⟨hk137, hS⟩ := chk_some hS
    refine sr_mapPut (k := (consent_pair.mk p_16_0 p_16_1)) (d := canon l_19) (u := vl_19) (cs := [vl_19]) h98 hk137 Try.keyB59 Try.underlying50 (by decide) hb.bd rfl ⟨_, rfl, h136⟩ rfl rfl rfl ?_
    intro w138 h981 htr139
    replace hB99 := hB99.mv (htr139.mv (i := 100) rfl)
    replace hb := hb.trans htr139
    replace jt134 := (jt134.trans htr139).weak (J' := (fun t => ([80, 101] : List Nat).contains t)) (by intro t h; simp [rng] at h ⊢ <;> omega) rfl rfl
    replace h98 := h981
    clear h981
    refine dj_next (l' := []) rfl (.nil _) jt134 (by intro t h; simp [rng] at h ⊢ <;> omega) rfl rfl ?_
    refine dj_done rfl (by kernel_rfl) ?_
    refine ke_weaken (l' := []) (.nil _) ?_
    refine ke_seq ?_
    refine ke_region ?_
    refine sr_ev (v := .int .i64 0) (ev_assign rfl) (by decide) ?_
    refine sr_end (l' := [(12, .int .i64 0)]) (.cons rfl (.nil _)) ?_
    cases hS
    exact ke_ret1 Try.func21 rfl rfl ⟨_, rfl, leave ρA w0 o 2 (frz ρ 80), rfl, ⟨_, (hB99.mv (leave_mv (p := 0) (by decide) hb)), (h98.mv (leave_mv (p := 1) (by decide) hb))⟩, (leave_tr ho2 hb)⟩
theorem consent_Consents_Grant_L1_ok {w0 : World} (hg : Gs w0) {ρA : Tags} (hbd : ∀ b, ρA b ≠ 0 → b < w0.heap.size) {o : Nat} (ho2 : 2 ≤ o) {gc_0 : Nat} (hz : Gz (enter ρA o 2)) : ∀ (n : Nat), ∀ {r : Int × consent_Consents} {oc_0 : consent_Consents} {scopes_3 : List Str} {end_14 : Int} {at_15 : Int} {p_16_0 : Str} {p_16_1 : Str} {l_19 : GMap Str Int} {t_80m : GMap Str Int} {t_80 : List Str} {vscopes_3 : Value} {gp_16 : Nat} {vl_19 : Value} {vt_80m : Value} {rt_80 : Nat}, consent_Consents_Grant_L1 n oc_0 scopes_3 end_14 at_15 p_16_0 p_16_1 l_19 t_80m t_80 = some r → ∀ {ρ : Tags} {w : World}, (Fr (enter ρA o 2) w0 ρ w) → (consent_Consents.O (fun p => 100 + p) ρ w gc_0 oc_0) → (SlR strC (Wb ρ) w vscopes_3 scopes_3) → (Blk ρ 18 w gp_16 (.cells #[str p_16_0, str p_16_1] 59 (0, 0))) → (MapT str (intC .i64) false ρ 80 w vl_19 l_19) → (MapRd str (intC .i64) false (Wb ρ) w vt_80m t_80m) → (IterP str (intC .i64) false ρ 2 w rt_80 vt_80m t_80m t_80) → KE Try.prog 21 (Ret (fun v w' => ∃ ρ', v = .int .i64 r.1 ∧ consent_Consents.O (fun p => o + p) ρ' w' gc_0 r.2 ∧ Tr ρA w0 (rng o 2) ρ' w')) 115 [.code (sub (bodyOf Try.f21) [2, 2, 2, 2, 2, 2, 2, 2, 2, 2, 2, 1, 2, 2, 1]), .inLoop (sub (bodyOf Try.f21) [2, 2, 2, 2, 2, 2, 2, 2, 2, 2, 2, 1, 2, 2, 1]), .inBlock 0, .code (sub (bodyOf Try.f21) [2, 2, 2, 2, 2, 2, 2, 2, 2, 2, 2, 2])] [(0, .pointer (some ⟨gc_0, 0, none⟩)), (3, vscopes_3), (14, .int .i64 end_14), (15, .int .i64 at_15), (16, .pointer (some ⟨gp_16, 0, none⟩)), (19, vl_19), (80, .pointer (some ⟨rt_80, 0, none⟩))] w := by
 intro n
 induction n with
 | zero => intro r oc_0 scopes_3 end_14 at_15 p_16_0 p_16_1 l_19 t_80m t_80 vscopes_3 gp_16 vl_19 vt_80m rt_80 hS; cases hS
 | succ n ih =>
  have hr0 : ∀ {r : Int × consent_Consents} {oc_0 : consent_Consents} {scopes_3 : List Str} {end_14 : Int} {at_15 : Int} {p_16_0 : Str} {p_16_1 : Str} {l_19 : GMap Str Int} {t_80m : GMap Str Int} {t_80 : List Str} {vscopes_3 : Value} {gp_16 : Nat} {vl_19 : Value} {vt_80m : Value} {rt_80 : Nat}, consent_Consents_Grant_L1 n oc_0 scopes_3 end_14 at_15 p_16_0 p_16_1 l_19 t_80m t_80 = some r → ∀ {ρ : Tags} {w : World}, (Fr (enter ρA o 2) w0 ρ w) → (consent_Consents.O (fun p => 100 + p) ρ w gc_0 oc_0) → (SlR strC (Wb ρ) w vscopes_3 scopes_3) → (Blk ρ 18 w gp_16 (.cells #[str p_16_0, str p_16_1] 59 (0, 0))) → (MapT str (intC .i64) false ρ 80 w vl_19 l_19) → (MapRd str (intC .i64) false (Wb ρ) w vt_80m t_80m) → (IterP str (intC .i64) false ρ 2 w rt_80 vt_80m t_80m t_80) → KE Try.prog 21 (Ret (fun v w' => ∃ ρ', v = .int .i64 r.1 ∧ consent_Consents.O (fun p => o + p) ρ' w' gc_0 r.2 ∧ Tr ρA w0 (rng o 2) ρ' w')) 115 [.inLoop (sub (bodyOf Try.f21) [2, 2, 2, 2, 2, 2, 2, 2, 2, 2, 2, 1, 2, 2, 1]), .inBlock 0, .code (sub (bodyOf Try.f21) [2, 2, 2, 2, 2, 2, 2, 2, 2, 2, 2, 2])] [(0, .pointer (some ⟨gc_0, 0, none⟩)), (3, vscopes_3), (14, .int .i64 end_14), (15, .int .i64 at_15), (16, .pointer (some ⟨gp_16, 0, none⟩)), (19, vl_19), (80, .pointer (some ⟨rt_80, 0, none⟩))] w := fun {r} {oc_0} {scopes_3} {end_14} {at_15} {p_16_0} {p_16_1} {l_19} {t_80m} {t_80} {vscopes_3} {gp_16} {vl_19} {vt_80m} {rt_80} hS {ρ} {w} hb hoc_0 hscopes_3 hBp_16 hl_19 ht_80m ht_80 => ke_inLoop (ih hS hb hoc_0 hscopes_3 hBp_16 hl_19 ht_80m ht_80)
  clear ih
  intro r oc_0 scopes_3 end_14 at_15 p_16_0 p_16_1 l_19 t_80m t_80 vscopes_3 gp_16 vl_19 vt_80m rt_80 hS ρ w hb hoc_0 hscopes_3 hBp_16 hl_19 ht_80m ht_80
  unfold consent_Consents_Grant_L1 at hS
  obtain ⟨v81, hB83, h82⟩ := hoc_0
  replace hB83 : Blk ρ 100 w gc_0 (.cells #[v81] 52 (0, 0)) := hB83
  replace h82 : MapT consent_pair.ek (mapC str (intC .i64) false) false ρ 101 w v81 oc_0.pairs := h82
  refine ke_seq ?_
  refine ke_region ?_
  refine sr_nextP ht_80 (by decide) hb.bd hS rfl (by decide) (fun hS => ?_) (fun e84 cs85 w86 hS hrd88 ht_801 htr87 hent89 => ?_)
  ·refine sr_ev (v := .bool false) (ev_extract rfl rfl) (by decide) ?_
   refine sr_end (l' := [(0, .pointer (some ⟨gc_0, 0, none⟩)), (3, vscopes_3), (14, .int .i64 end_14), (15, .int .i64 at_15), (16, .pointer (some ⟨gp_16, 0, none⟩)), (19, vl_19), (80, .pointer (some ⟨rt_80, 0, none⟩)), (82, .bool false)]) (.cons rfl (.cons rfl (.cons rfl (.cons rfl (.cons rfl (.cons rfl (.cons rfl (.cons rfl (.nil _))))))))) ?_
   refine ke_seq ?_
   refine ke_cond (t := false) rfl (fun h => by cases h) (fun _ => ?_)
   refine ke_exit (k' := _) rfl ?_
   refine ke_seq ?_
   refine ke_seq ?_
   refine ke_region ?_
   refine sr_ev (v := vscopes_3) (ev_move rfl) (by decide) ?_
   refine sr_ev (v := .int .i64 (scopes_3.length : Int)) (ev_sllen Try.underlying30 rfl hscopes_3.asSl) (by decide) ?_
   refine sr_ev (v := .int .i64 0) (ev_move rfl) (by decide) ?_
   refine sr_end (l' := [(0, .pointer (some ⟨gc_0, 0, none⟩)), (14, .int .i64 end_14), (16, .pointer (some ⟨gp_16, 0, none⟩)), (19, vl_19), (92, vscopes_3), (93, .int .i64 (scopes_3.length : Int)), (94, .int .i64 0)]) (.cons rfl (.cons rfl (.cons rfl (.cons rfl (.cons rfl (.cons rfl (.cons rfl (.nil _)))))))) ?_
   refine ke_block ?_
   have hK := consent_Consents_Grant_L3_ok hg hbd ho2 hz _ hr0 _ hS hb ⟨_, hB83, h82⟩ hBp_16 hl_19 hscopes_3
   exact ke_weaken (l' := [(0, .pointer (some ⟨gc_0, 0, none⟩)), (14, .int .i64 end_14), (16, .pointer (some ⟨gp_16, 0, none⟩)), (19, vl_19), (92, vscopes_3), (93, .int .i64 (scopes_3.length : Int)), (94, .int .i64 0)]) (.cons rfl (.cons rfl (.cons rfl (.cons rfl (.cons rfl (.cons rfl (.cons rfl (.nil _)))))))) (ke_loop hK)
  ·skip
   replace hscopes_3 := hscopes_3.mv htr87.rd
   replace hl_19 := hl_19.mv (htr87.mv (i := 80) rfl)
   replace ht_80m := ht_80m.mv (htr87.mv (i := 0) rfl)
   replace hB83 := hB83.mv (htr87.mv (i := 100) rfl)
   replace h82 := h82.mv (htr87.mv (i := 101) rfl)
   replace hBp_16 := hBp_16.mv (htr87.mv (i := 18) rfl)
   replace hb := hb.trans htr87
   replace ht_80 := ht_801
   clear ht_801
   obtain rfl : cs85 = [.int .i64 e84.2] := hrd88
   refine sr_ev (v := .bool true) (ev_extract rfl rfl) (by decide) ?_
   refine sr_end (l' := [(0, .pointer (some ⟨gc_0, 0, none⟩)), (3, vscopes_3), (14, .int .i64 end_14), (15, .int .i64 at_15), (16, .pointer (some ⟨gp_16, 0, none⟩)), (19, vl_19), (80, .pointer (some ⟨rt_80, 0, none⟩)), (82, .bool true)]) (.cons rfl (.cons rfl (.cons rfl (.cons rfl (.cons rfl (.cons rfl (.cons rfl (.cons rfl (.nil _))))))))) ?_
   refine ke_seq ?_
   refine ke_cond (t := true) rfl (fun _ => ?_) (fun h => by cases h)
   refine ke_skip ?_
   refine ke_block ?_
   refine ke_seq ?_
   refine ke_region ?_
   refine sr_ev (v := .tuple #[str e84.1, .int .i64 e84.2]) (hent89 rfl) (by decide) ?_
   refine sr_ev (v := str e84.1) (ev_extract rfl rfl) (by decide) ?_
   refine sr_ev (v := .int .i64 e84.2) (ev_extract rfl rfl) (by decide) ?_
   refine sr_ev (v := str e84.1) (ev_assign rfl) (by decide) ?_
   refine sr_ev (v := .int .i64 e84.2) (ev_assign rfl) (by decide) ?_
   refine sr_end (l' := [(0, .pointer (some ⟨gc_0, 0, none⟩)), (3, vscopes_3), (14, .int .i64 end_14), (15, .int .i64 at_15), (16, .pointer (some ⟨gp_16, 0, none⟩)), (19, vl_19), (20, str e84.1), (21, .int .i64 e84.2), (80, .pointer (some ⟨rt_80, 0, none⟩))]) (.cons rfl (.cons rfl (.cons rfl (.cons rfl (.cons rfl (.cons rfl (.cons rfl (.cons rfl (.cons rfl (.nil _)))))))))) ?_
   refine ke_seq ?_
   refine ke_region ?_
   refine sr_ev (v := .int .i64 e84.2) (ev_move rfl) (by decide) ?_
   refine sr_ev (v := .int .i64 at_15) (ev_move rfl) (by decide) ?_
   refine sr_ev (v := .bool (decide (e84.2 > at_15))) (ev_gt rfl rfl) (by decide) ?_
   refine sr_end (l' := [(0, .pointer (some ⟨gc_0, 0, none⟩)), (3, vscopes_3), (14, .int .i64 end_14), (15, .int .i64 at_15), (16, .pointer (some ⟨gp_16, 0, none⟩)), (19, vl_19), (20, str e84.1), (21, .int .i64 e84.2), (80, .pointer (some ⟨rt_80, 0, none⟩)), (88, .bool (decide (e84.2 > at_15)))]) (.cons rfl (.cons rfl (.cons rfl (.cons rfl (.cons rfl (.cons rfl (.cons rfl (.cons rfl (.cons rfl (.cons rfl (.nil _))))))))))) ?_
   refine ke_cond (t := decide (e84.2 > at_15)) rfl (fun hc90 => ?_) (fun hc90 => ?_)
   ·replace hS := ite_true' hS hc90
    refine ke_region ?_
    refine sr_ev (v := vl_19) (ev_move rfl) (by decide) ?_
    refine sr_ev (v := str e84.1) (ev_move rfl) (by decide) ?_
    refine sr_ev (v := .int .i64 e84.2) (ev_move rfl) (by decide) ?_
    obtain ⟨hk91, hS⟩ := chk_some hS
    refine sr_mapPut (k := e84.1) (d := e84.2) (u := .int .i64 e84.2) (cs := [.int .i64 e84.2]) hl_19 hk91 Try.keyB9 Try.underlying71 (by decide) hb.bd rfl rfl rfl rfl rfl ?_
    intro w92 hl_191 htr93
    replace hscopes_3 := hscopes_3.mv htr93.rd
    replace ht_80 := ht_80.mv (htr93.mv (i := 0) rfl) (htr93.mv (i := 2) rfl)
    replace ht_80m := ht_80m.mv (htr93.mv (i := 0) rfl)
    replace hB83 := hB83.mv (htr93.mv (i := 100) rfl)
    replace h82 := h82.mv (htr93.mv (i := 101) rfl)
    replace hBp_16 := hBp_16.mv (htr93.mv (i := 18) rfl)
    replace hb := hb.trans htr93
    replace hl_19 := hl_191
    clear hl_191
    refine sr_end (l' := [(0, .pointer (some ⟨gc_0, 0, none⟩)), (3, vscopes_3), (14, .int .i64 end_14), (15, .int .i64 at_15), (16, .pointer (some ⟨gp_16, 0, none⟩)), (19, vl_19), (80, .pointer (some ⟨rt_80, 0, none⟩))]) (.cons rfl (.cons rfl (.cons rfl (.cons rfl (.cons rfl (.cons rfl (.cons rfl (.nil _)))))))) ?_
    have hK := consent_Consents_Grant_B2_ok hg hbd ho2 hz _ hr0 hS hb ⟨_, hB83, h82⟩ hscopes_3 hBp_16 hl_19 ht_80m ht_80
    exact ke_weaken (l' := [(0, .pointer (some ⟨gc_0, 0, none⟩)), (3, vscopes_3), (14, .int .i64 end_14), (15, .int .i64 at_15), (16, .pointer (some ⟨gp_16, 0, none⟩)), (19, vl_19), (80, .pointer (some ⟨rt_80, 0, none⟩))]) (.cons rfl (.cons rfl (.cons rfl (.cons rfl (.cons rfl (.cons rfl (.cons rfl (.nil _)))))))) hK
   ·replace hS := ite_false' hS hc90
    refine ke_skip ?_
    have hK := consent_Consents_Grant_B2_ok hg hbd ho2 hz _ hr0 hS hb ⟨_, hB83, h82⟩ hscopes_3 hBp_16 hl_19 ht_80m ht_80
    exact ke_weaken (l' := [(0, .pointer (some ⟨gc_0, 0, none⟩)), (3, vscopes_3), (14, .int .i64 end_14), (15, .int .i64 at_15), (16, .pointer (some ⟨gp_16, 0, none⟩)), (19, vl_19), (80, .pointer (some ⟨rt_80, 0, none⟩))]) (.cons rfl (.cons rfl (.cons rfl (.cons rfl (.cons rfl (.cons rfl (.cons rfl (.nil _)))))))) hK
theorem consent_Consents_Grant_ok (w0 : World) (hg : Gs w0) {ρA : Tags} (hbd : ∀ b, ρA b ≠ 0 → b < w0.heap.size) (hz : Gz ρA) {o : Nat} (ho2 : 2 ≤ o) {c_0 : consent_Consents} {user_1 : Str} {client_2 : Str} {scopes_3 : List Str} {until_4 : Int} {now_5 : Int} {v4 : Value} {gc_0 : Nat} {r : Int × consent_Consents} (h5 : SlR strC (Wb ρA) w0 v4 scopes_3) (ho0 : consent_Consents.O (fun p => o + p) ρA w0 gc_0 c_0) (hS : consent_Consents_Grant c_0 user_1 client_2 scopes_3 until_4 now_5 = some r) :
  Calls Try.prog 21 #[.pointer (some ⟨gc_0, 0, none⟩), str user_1, str client_2, v4, .int .i64 until_4, .int .i64 now_5] w0 (Ret (fun v w' => ∃ ρ', v = .int .i64 r.1 ∧ consent_Consents.O (fun p => o + p) ρ' w' gc_0 r.2 ∧ Tr ρA w0 (rng o 2) ρ' w')) := by
 unfold consent_Consents_Grant at hS
 have hb := enter_fr (ρ := ρA) (w := w0) (n := 2) ho2 hbd
 have hz := hz.enter (n := 2) ho2
 replace h5 := SlR.mv h5 (enter_rd (n := 2) ho2)
 obtain ⟨v1, hB3, h2⟩ := ho0
 replace hB3 := hB3.mv (enter_mv (p := 0) (n := 2) (by decide) ho2)
 replace h2 := h2.mv (enter_mv (p := 1) (n := 2) (by decide) ho2)
 replace hB3 : Blk (enter ρA o 2) 100 w0 gc_0 (.cells #[v1] 52 (0, 0)) := hB3
 replace h2 : MapT consent_pair.ek (mapC str (intC .i64) false) false (enter ρA o 2) 101 w0 v1 c_0.pairs := h2
 refine calls_of_ke Try.func21 rfl (n := 115) rfl rfl (l := [(0, .pointer (some ⟨gc_0, 0, none⟩)), (1, str user_1), (2, str client_2), (3, v4), (4, .int .i64 until_4), (5, .int .i64 now_5)]) rfl ?_
 refine ke_seq ?_
 refine ke_region ?_
 refine sr_ev (v := .int .i64 0) (ev_assign rfl) (by decide) ?_
 refine sr_end (l' := [(0, .pointer (some ⟨gc_0, 0, none⟩)), (1, str user_1), (2, str client_2), (3, v4), (4, .int .i64 until_4), (5, .int .i64 now_5)]) (.cons rfl (.cons rfl (.cons rfl (.cons rfl (.cons rfl (.cons rfl (.nil _))))))) ?_
 refine ke_seq ?_
 refine ke_seq ?_
 refine ke_region ?_
 refine sr_ev (v := .pointer (some ⟨gc_0, 0, none⟩)) (ev_move rfl) (by decide) ?_
 refine sr_ev (v := .bool false) (ev_peqT_some Try.underlying25 rfl rfl) (by decide) ?_
 refine sr_ev (v := .bool false) (ev_move rfl) (by decide) ?_
 refine sr_evg (b := false) (e := 26) rfl rfl rfl (v := .pointer (some ⟨gc_0, 0, none⟩)) (ev_move rfl) (by decide) ?_
 refine sr_evg (b := false) (e := 26) rfl rfl rfl (v := .pointer (some ⟨gc_0, 0, none⟩)) (ev_nilCheck rfl) (by decide) ?_
 refine sr_evg (b := false) (e := 26) rfl rfl rfl (v := .pointer (some ⟨gc_0, 0, none⟩)) (ev_fieldAddr (i := 0) Try.underlying52 rfl Try.info50 rfl rfl) (by decide) ?_
 refine sr_evg (b := false) (e := 26) rfl rfl rfl (v := v1) (ev_load Try.isAgg50 rfl (hB3.cell rfl)) (by decide) ?_
 refine sr_evg (b := false) (e := 26) rfl rfl rfl (v := .bool c_0.pairs.isNone) (ev_mapNil h2 Try.underlying50 w0 rfl rfl) (by decide) ?_
 refine sr_ev (v := .bool c_0.pairs.isNone) (ev_pick_f rfl rfl rfl) (by decide) ?_
 refine sr_end (l' := [(0, .pointer (some ⟨gc_0, 0, none⟩)), (1, str user_1), (2, str client_2), (3, v4), (4, .int .i64 until_4), (5, .int .i64 now_5), (32, .bool c_0.pairs.isNone)]) (.cons rfl (.cons rfl (.cons rfl (.cons rfl (.cons rfl (.cons rfl (.cons rfl (.nil _)))))))) ?_
 refine ke_cond (t := c_0.pairs.isNone) rfl (fun hc6 => ?_) (fun hc6 => ?_)
 ·replace hS := ite_true' hS hc6
  refine ke_seq ?_
  refine ke_region ?_
  refine sr_ev (v := .int .i64 1) (ev_assign rfl) (by decide) ?_
  refine sr_end (l' := [(12, .int .i64 1)]) (.cons rfl (.nil _)) ?_
  cases hS
  exact ke_ret1 Try.func21 rfl rfl ⟨_, rfl, leave ρA w0 o 2 (enter ρA o 2), rfl, ⟨_, (hB3.mv (leave_mv (p := 0) (by decide) hb)), (h2.mv (leave_mv (p := 1) (by decide) hb))⟩, (leave_tr ho2 hb)⟩
 ·replace hS := ite_false' hS hc6
  refine ke_skip ?_
  refine ke_seq ?_
  refine ke_seq ?_
  refine ke_region ?_
  refine sr_ev (v := str user_1) (ev_move rfl) (by decide) ?_
  obtain ⟨y7, hy8, hS⟩ := bind_some' hS
  refine sr_call (vs := [str user_1]) rfl Try.call40 rfl (fold_Word_ok _ (hg.fr hz hb) hy8) (by decide) ?_
  rintro _ w9 ⟨rfl, hbw10⟩
  have htr11 := Tr.of_below hbw10 hb.bd
  replace h5 := h5.mv htr11.rd
  replace hB3 := hB3.mv (htr11.mv (i := 100) rfl)
  replace h2 := h2.mv (htr11.mv (i := 101) rfl)
  replace hb := hb.trans htr11
  refine sr_ev (v := .bool (!y7)) (ev_not rfl) (by decide) ?_
  refine sr_ev (v := .bool (!y7)) (ev_move rfl) (by decide) ?_
  obtain ⟨z14, hz16, hS⟩ := bind_some' hS
  refine sr_join (m := 4) (C := fun (z : Bool) w1 => z14 = z ∧ ∃ ρ1, Tr (enter ρA o 2) w9 (fun _ => false) ρ1 w1) (l' := fun z => [(0, .pointer (some ⟨gc_0, 0, none⟩)), (1, str user_1), (2, str client_2), (3, v4), (4, .int .i64 until_4), (5, .int .i64 now_5), (40, .bool z)]) ?_ ?_
  ·rintro _ w17 ⟨rfl, ρ18, hj15⟩
   replace h5 := h5.mv hj15.rd
   replace hB3 := hB3.mv (hj15.mv (i := 100) rfl)
   replace h2 := h2.mv (hj15.mv (i := 101) rfl)
   replace hb := hb.trans hj15
   refine sr_end (l' := [(0, .pointer (some ⟨gc_0, 0, none⟩)), (1, str user_1), (2, str client_2), (3, v4), (4, .int .i64 until_4), (5, .int .i64 now_5), (40, .bool z14)]) (.cons rfl (.cons rfl (.cons rfl (.cons rfl (.cons rfl (.cons rfl (.cons rfl (.nil _)))))))) ?_
   refine ke_cond (t := z14) rfl (fun hc25 => ?_) (fun hc25 => ?_)
   ·replace hS := ite_true' hS hc25
    refine ke_seq ?_
    refine ke_region ?_
    refine sr_ev (v := .int .i64 5) (ev_assign rfl) (by decide) ?_
    refine sr_end (l' := [(12, .int .i64 5)]) (.cons rfl (.nil _)) ?_
    cases hS
    exact ke_ret1 Try.func21 rfl rfl ⟨_, rfl, leave ρA w0 o 2 ρ18, rfl, ⟨_, (hB3.mv (leave_mv (p := 0) (by decide) hb)), (h2.mv (leave_mv (p := 1) (by decide) hb))⟩, (leave_tr ho2 hb)⟩
   ·replace hS := ite_false' hS hc25
    refine ke_skip ?_
    refine ke_seq ?_
    refine ke_seq ?_
    refine ke_region ?_
    refine sr_ev (v := v4) (ev_move rfl) (by decide) ?_
    obtain ⟨y26, hy27, hS⟩ := bind_some' hS
    refine sr_call (vs := [v4]) rfl Try.call41 rfl (scope_Check_ok _ (hg.fr hz hb) h5.asSl hy27) (by decide) ?_
    rintro _ w28 ⟨rfl, hbw29⟩
    have htr30 := Tr.of_below hbw29 hb.bd
    replace h5 := h5.mv htr30.rd
    replace hB3 := hB3.mv (htr30.mv (i := 100) rfl)
    replace h2 := h2.mv (htr30.mv (i := 101) rfl)
    replace hb := hb.trans htr30
    refine sr_ev (v := .int .i64 y26) (ev_assign rfl) (by decide) ?_
    refine sr_end (l' := [(0, .pointer (some ⟨gc_0, 0, none⟩)), (1, str user_1), (2, str client_2), (3, v4), (4, .int .i64 until_4), (5, .int .i64 now_5), (13, .int .i64 y26)]) (.cons rfl (.cons rfl (.cons rfl (.cons rfl (.cons rfl (.cons rfl (.cons rfl (.nil _)))))))) ?_
    refine ke_seq ?_
    refine ke_region ?_
    refine sr_ev (v := .int .i64 y26) (ev_move rfl) (by decide) ?_
    refine sr_ev (v := .bool (y26 != 0)) (ev_ne rfl rfl) (by decide) ?_
    refine sr_end (l' := [(0, .pointer (some ⟨gc_0, 0, none⟩)), (1, str user_1), (2, str client_2), (3, v4), (4, .int .i64 until_4), (5, .int .i64 now_5), (13, .int .i64 y26), (44, .bool (y26 != 0))]) (.cons rfl (.cons rfl (.cons rfl (.cons rfl (.cons rfl (.cons rfl (.cons rfl (.cons rfl (.nil _))))))))) ?_
    refine ke_cond (t := y26 != 0) rfl (fun hc31 => ?_) (fun hc31 => ?_)
    ·replace hS := ite_true' hS hc31
     refine ke_seq ?_
     refine ke_region ?_
     refine sr_ev (v := .int .i64 y26) (ev_move rfl) (by decide) ?_
     refine sr_ev (v := .int .i64 y26) (ev_assign rfl) (by decide) ?_
     refine sr_end (l' := [(12, .int .i64 y26)]) (.cons rfl (.nil _)) ?_
     cases hS
     exact ke_ret1 Try.func21 rfl rfl ⟨_, rfl, leave ρA w0 o 2 ρ18, rfl, ⟨_, (hB3.mv (leave_mv (p := 0) (by decide) hb)), (h2.mv (leave_mv (p := 1) (by decide) hb))⟩, (leave_tr ho2 hb)⟩
    ·replace hS := ite_false' hS hc31
     refine ke_skip ?_
     refine ke_seq ?_
     refine ke_seq ?_
     refine ke_region ?_
     refine sr_ev (v := v4) (ev_move rfl) (by decide) ?_
     refine sr_ev (v := .int .i64 (scopes_3.length : Int)) (ev_sllen Try.underlying30 rfl h5.asSl) (by decide) ?_
     refine sr_ev (v := .bool ((scopes_3.length : Int) == 0)) (ev_eq rfl rfl) (by decide) ?_
     refine sr_end (l' := [(0, .pointer (some ⟨gc_0, 0, none⟩)), (1, str user_1), (2, str client_2), (3, v4), (4, .int .i64 until_4), (5, .int .i64 now_5), (48, .bool ((scopes_3.length : Int) == 0))]) (.cons rfl (.cons rfl (.cons rfl (.cons rfl (.cons rfl (.cons rfl (.cons rfl (.nil _)))))))) ?_
     refine ke_cond (t := (scopes_3.length : Int) == 0) rfl (fun hc32 => ?_) (fun hc32 => ?_)
     ·replace hS := ite_true' hS hc32
      refine ke_seq ?_
      refine ke_region ?_
      refine sr_ev (v := .int .i64 6) (ev_assign rfl) (by decide) ?_
      refine sr_end (l' := [(12, .int .i64 6)]) (.cons rfl (.nil _)) ?_
      cases hS
      exact ke_ret1 Try.func21 rfl rfl ⟨_, rfl, leave ρA w0 o 2 ρ18, rfl, ⟨_, (hB3.mv (leave_mv (p := 0) (by decide) hb)), (h2.mv (leave_mv (p := 1) (by decide) hb))⟩, (leave_tr ho2 hb)⟩
     ·replace hS := ite_false' hS hc32
      refine ke_skip ?_
      refine ke_seq ?_
      refine ke_region ?_
      refine sr_ev (v := .int .i64 until_4) (ev_move rfl) (by decide) ?_
      obtain ⟨y33, hy34, hS⟩ := bind_some' hS
      refine sr_call (vs := [.int .i64 until_4, .int .i64 0]) rfl Try.call42 rfl (clock_Add_ok _ (hg.fr hz hb) hy34) (by decide) ?_
      rintro _ w35 ⟨rfl, hbw36⟩
      have htr37 := Tr.of_below hbw36 hb.bd
      replace h5 := h5.mv htr37.rd
      replace hB3 := hB3.mv (htr37.mv (i := 100) rfl)
      replace h2 := h2.mv (htr37.mv (i := 101) rfl)
      replace hb := hb.trans htr37
      refine sr_ev (v := .int .i64 now_5) (ev_move rfl) (by decide) ?_
      obtain ⟨y38, hy39, hS⟩ := bind_some' hS
      refine sr_call (vs := [.int .i64 now_5, .int .i64 0]) rfl Try.call42 rfl (clock_Add_ok _ (hg.fr hz hb) hy39) (by decide) ?_
      rintro _ w40 ⟨rfl, hbw41⟩
      have htr42 := Tr.of_below hbw41 hb.bd
      replace h5 := h5.mv htr42.rd
      replace hB3 := hB3.mv (htr42.mv (i := 100) rfl)
      replace h2 := h2.mv (htr42.mv (i := 101) rfl)
      replace hb := hb.trans htr42
      refine sr_ev (v := .int .i64 y33) (ev_assign rfl) (by decide) ?_
      refine sr_ev (v := .int .i64 y38) (ev_assign rfl) (by decide) ?_
      refine sr_end (l' := [(0, .pointer (some ⟨gc_0, 0, none⟩)), (1, str user_1), (2, str client_2), (3, v4), (14, .int .i64 y33), (15, .int .i64 y38)]) (.cons rfl (.cons rfl (.cons rfl (.cons rfl (.cons rfl (.cons rfl (.nil _))))))) ?_
      refine ke_seq ?_
      refine ke_seq ?_
      refine ke_region ?_
      refine sr_ev (v := .int .i64 y33) (ev_move rfl) (by decide) ?_
      refine sr_ev (v := .int .i64 y38) (ev_move rfl) (by decide) ?_
      refine sr_ev (v := .bool (decide (y33 ≤ y38))) (ev_le rfl rfl) (by decide) ?_
      refine sr_end (l' := [(0, .pointer (some ⟨gc_0, 0, none⟩)), (1, str user_1), (2, str client_2), (3, v4), (14, .int .i64 y33), (15, .int .i64 y38), (55, .bool (decide (y33 ≤ y38)))]) (.cons rfl (.cons rfl (.cons rfl (.cons rfl (.cons rfl (.cons rfl (.cons rfl (.nil _)))))))) ?_
      refine ke_cond (t := decide (y33 ≤ y38)) rfl (fun hc43 => ?_) (fun hc43 => ?_)
      ·replace hS := ite_true' hS hc43
       refine ke_seq ?_
       refine ke_region ?_
       refine sr_ev (v := .int .i64 13) (ev_assign rfl) (by decide) ?_
       refine sr_end (l' := [(12, .int .i64 13)]) (.cons rfl (.nil _)) ?_
       cases hS
       exact ke_ret1 Try.func21 rfl rfl ⟨_, rfl, leave ρA w0 o 2 ρ18, rfl, ⟨_, (hB3.mv (leave_mv (p := 0) (by decide) hb)), (h2.mv (leave_mv (p := 1) (by decide) hb))⟩, (leave_tr ho2 hb)⟩
      ·replace hS := ite_false' hS hc43
       refine ke_skip ?_
       refine ke_seq ?_
       refine ke_region ?_
       refine sr_ev (v := str user_1) (ev_move rfl) (by decide) ?_
       refine sr_ev (v := str client_2) (ev_move rfl) (by decide) ?_
       refine sr_ev (v := .agg #[str user_1, str client_2]) (ev_build (vs := #[(0, str user_1), (1, str client_2)]) rfl (fun _ => by kernel_rfl)) (by decide) ?_
       refine sr_allocT 18 (by decide) hb.bd Try.zeroValue59 (by decide) ?_
       intro g44 ρ45 w46 hB48 htr47
       replace h5 := h5.mv htr47.rd
       replace hB3 := hB3.mv (htr47.mv (i := 100) rfl)
       replace h2 := h2.mv (htr47.mv (i := 101) rfl)
       replace hb := hb.trans htr47
       replace hB48 : Blk ρ45 18 w46 g44 (.cells #[str ([]), str ([])] 59 (0, 0)) := hB48
       refine sr_storeT (v := .agg #[str user_1, str client_2]) (vs := [str user_1, str client_2]) (cs' := #[str user_1, str client_2]) hB48 (by decide) hb.bd rfl rfl rfl Try.sizeOf59 rfl rfl rfl ?_
       intro w49 hB481 htr50
       replace h5 := h5.mv htr50.rd
       replace hB3 := hB3.mv (htr50.mv (i := 100) rfl)
       replace h2 := h2.mv (htr50.mv (i := 101) rfl)
       replace hb := hb.trans htr50
       replace hB48 : Blk ρ45 18 w49 g44 (.cells #[str user_1, str client_2] 59 (0, 0)) := hB481
       clear hB481
       refine sr_end (l' := [(0, .pointer (some ⟨gc_0, 0, none⟩)), (3, v4), (14, .int .i64 y33), (15, .int .i64 y38), (16, .pointer (some ⟨g44, 0, none⟩))]) (.cons rfl (.cons rfl (.cons rfl (.cons rfl (.cons rfl (.nil _)))))) ?_
       refine ke_seq ?_
       refine ke_region_q Try.mixed (by kernel_rfl) ?_
       refine sq_ev (v := .pointer (some ⟨gc_0, 0, none⟩)) (fun w1 hw1 => ev_move rfl) (by decide) ?_
       refine sq_ev (v := .pointer (some ⟨gc_0, 0, none⟩)) (fun w1 hw1 => ev_nilCheck rfl) (by decide) ?_
       refine sq_ev (v := .pointer (some ⟨gc_0, 0, none⟩)) (fun w1 hw1 => ev_fieldAddr (i := 0) Try.underlying52 rfl Try.info50 rfl rfl) (by decide) ?_
       refine sq_ev (v := v1) (fun w1 hw1 => ev_load Try.isAgg50 rfl ((hB3.mv (Mv.of_below (i := 100) (ρ := ρ45) hw1)).cell rfl)) (by decide) ?_
       refine sq_ev (v := .agg #[str user_1, str client_2]) (fun w1 hw1 => ev_loads (cs := [str user_1, str client_2]) Try.isAgg59 Try.sizeOf59 rfl ((hB48.mv (Mv.of_below (i := 18) (ρ := ρ45) hw1)).cells (vs := [str user_1, str client_2]) rfl)) (by decide) ?_
       obtain ⟨y57, hy58, hS⟩ := bind_some' hS
       replace hy58 := Option.some.inj hy58
       obtain ⟨cs53, hrd54, hl55, hl56⟩ := h2.look (zcs := [(.map none)]) (z := (none : GMap Str Int)) Try.keyB59 Try.underlying50 Try.zeroValue71 ⟨_, rfl, MapRd.nil⟩ (consent_pair.mk user_1 client_2)
       rw [hy58] at hrd54
       obtain ⟨v59, hcshrd54, h60⟩ := hrd54
       obtain rfl : cs53 = [v59] := hcshrd54
       refine sq_ev (v := .tuple #[v59, .bool (mhas c_0.pairs (consent_pair.mk user_1 client_2))]) (fun w1 hw1 => hl56 w1 _ _ (Mv.of_below (i := 101) (ρ := ρ45) hw1) rfl rfl) (by decide) ?_
       refine sq_ev (v := .tuple #[v59, .bool (mhas c_0.pairs (consent_pair.mk user_1 client_2))]) (fun w1 hw1 => ev_move rfl) (by decide) ?_
       refine sq_ev (v := v59) (fun w1 hw1 => ev_extract rfl rfl) (by decide) ?_
       refine sq_ev (v := .bool (mhas c_0.pairs (consent_pair.mk user_1 client_2))) (fun w1 hw1 => ev_extract rfl rfl) (by decide) ?_
       refine sq_ev (v := v59) (fun w1 hw1 => ev_assign rfl) (by decide) ?_
       refine sq_ev (v := .bool (mhas c_0.pairs (consent_pair.mk user_1 client_2))) (fun w1 hw1 => ev_assign rfl) (by decide) ?_
       refine sq_end (l' := [(0, .pointer (some ⟨gc_0, 0, none⟩)), (3, v4), (14, .int .i64 y33), (15, .int .i64 y38), (16, .pointer (some ⟨g44, 0, none⟩)), (17, v59), (18, .bool (mhas c_0.pairs (consent_pair.mk user_1 client_2)))]) (.cons rfl (.cons rfl (.cons rfl (.cons rfl (.cons rfl (.cons rfl (.cons rfl (.nil _)))))))) (fun w52 hw51 => ?_)
       have htr61 := Tr.of_below hw51 hb.bd
       replace h5 := h5.mv htr61.rd
       replace h60 := h60.mv (htr61.mv (i := 0) rfl)
       replace hB48 := hB48.mv (htr61.mv (i := 18) rfl)
       replace hB3 := hB3.mv (htr61.mv (i := 100) rfl)
       replace h2 := h2.mv (htr61.mv (i := 101) rfl)
       replace hb := hb.trans htr61
       refine ke_seq ?_
       refine ke_seq ?_
       refine ke_region ?_
       refine sr_ev (v := .bool (mhas c_0.pairs (consent_pair.mk user_1 client_2))) (ev_move rfl) (by decide) ?_
       refine sr_ev (v := .bool (!(mhas c_0.pairs (consent_pair.mk user_1 client_2)))) (ev_not rfl) (by decide) ?_
       refine sr_ev (v := .bool (!(mhas c_0.pairs (consent_pair.mk user_1 client_2)))) (ev_move rfl) (by decide) ?_
       refine sr_join (m := 7) (C := fun (x : Bool) w1 => x = ((!(mhas c_0.pairs (consent_pair.mk user_1 client_2))) && (decide ((mlen c_0.pairs) ≥ 256))) ∧ w52 = w1) (l' := fun x => [(0, .pointer (some ⟨gc_0, 0, none⟩)), (3, v4), (14, .int .i64 y33), (15, .int .i64 y38), (16, .pointer (some ⟨g44, 0, none⟩)), (17, v59), (77, .bool x)]) ?_ ?_
       ·rintro _ _ ⟨rfl, rfl⟩
        refine sr_end (l' := [(0, .pointer (some ⟨gc_0, 0, none⟩)), (3, v4), (14, .int .i64 y33), (15, .int .i64 y38), (16, .pointer (some ⟨g44, 0, none⟩)), (17, v59), (77, .bool ((!(mhas c_0.pairs (consent_pair.mk user_1 client_2))) && (decide ((mlen c_0.pairs) ≥ 256))))]) (.cons rfl (.cons rfl (.cons rfl (.cons rfl (.cons rfl (.cons rfl (.cons rfl (.nil _)))))))) ?_
        refine ke_cond (t := (!(mhas c_0.pairs (consent_pair.mk user_1 client_2))) && (decide ((mlen c_0.pairs) ≥ 256))) rfl (fun hc70 => ?_) (fun hc70 => ?_)
        ·replace hS := ite_true' hS hc70
         refine ke_seq ?_
         refine ke_region ?_
         refine sr_ev (v := .int .i64 3) (ev_assign rfl) (by decide) ?_
         refine sr_end (l' := [(12, .int .i64 3)]) (.cons rfl (.nil _)) ?_
         cases hS
         exact ke_ret1 Try.func21 rfl rfl ⟨_, rfl, leave ρA w0 o 2 ρ45, rfl, ⟨_, (hB3.mv (leave_mv (p := 0) (by decide) hb)), (h2.mv (leave_mv (p := 1) (by decide) hb))⟩, (leave_tr ho2 hb)⟩
        ·replace hS := ite_false' hS hc70
         refine ke_skip ?_
         refine ke_seq ?_
         refine ke_region ?_
         refine sr_makeMap (K := Str) (V := Int) (ek := str) (c := (intC .i64)) (agg := false) 80 (by decide) hb.bd rfl (by decide) ?_
         intro v71 ρ73 w74 h72 htr75
         replace h5 := h5.mv htr75.rd
         replace h60 := h60.mv (htr75.mv (i := 0) rfl)
         replace hB48 := hB48.mv (htr75.mv (i := 18) rfl)
         replace hB3 := hB3.mv (htr75.mv (i := 100) rfl)
         replace h2 := h2.mv (htr75.mv (i := 101) rfl)
         replace hb := hb.trans htr75
         refine sr_ev (v := (.map (some v71))) (ev_assign rfl) (by decide) ?_
         refine sr_end (l' := [(0, .pointer (some ⟨gc_0, 0, none⟩)), (3, v4), (14, .int .i64 y33), (15, .int .i64 y38), (16, .pointer (some ⟨g44, 0, none⟩)), (17, v59), (19, (.map (some v71)))]) (.cons rfl (.cons rfl (.cons rfl (.cons rfl (.cons rfl (.cons rfl (.cons rfl (.nil _)))))))) ?_
         refine ke_seq ?_
         refine ke_seq ?_
         refine ke_region ?_
         refine sr_ev (v := v59) (ev_move rfl) (by decide) ?_
         refine sr_rangeP 2 (by decide) h60 Try.underlying71 hb.bd rfl (by decide) ?_
         intro r76 ρ77 w78 h79 htr80
         replace h5 := h5.mv htr80.rd
         replace h72 := h72.mv (htr80.mv (i := 80) rfl)
         replace h60 := h60.mv (htr80.mv (i := 0) rfl)
         replace hB48 := hB48.mv (htr80.mv (i := 18) rfl)
         replace hB3 := hB3.mv (htr80.mv (i := 100) rfl)
         replace h2 := h2.mv (htr80.mv (i := 101) rfl)
         replace hb := hb.trans htr80
         refine sr_end (l' := [(0, .pointer (some ⟨gc_0, 0, none⟩)), (3, v4), (14, .int .i64 y33), (15, .int .i64 y38), (16, .pointer (some ⟨g44, 0, none⟩)), (19, (.map (some v71))), (80, .pointer (some ⟨r76, 0, none⟩))]) (.cons rfl (.cons rfl (.cons rfl (.cons rfl (.cons rfl (.cons rfl (.cons rfl (.nil _)))))))) ?_
         refine ke_block ?_
         have hK := consent_Consents_Grant_L1_ok hg hbd ho2 hz _ hS hb ⟨_, hB3, h2⟩ h5 hB48 h72 h60 h79
         exact ke_weaken (l' := [(0, .pointer (some ⟨gc_0, 0, none⟩)), (3, v4), (14, .int .i64 y33), (15, .int .i64 y38), (16, .pointer (some ⟨g44, 0, none⟩)), (19, (.map (some v71))), (80, .pointer (some ⟨r76, 0, none⟩))]) (.cons rfl (.cons rfl (.cons rfl (.cons rfl (.cons rfl (.cons rfl (.cons rfl (.nil _)))))))) (ke_loop hK)
       ·intro K63
        rcases Bool.eq_false_or_eq_true (!(mhas c_0.pairs (consent_pair.mk user_1 client_2))) with hg62 | hg62
        all_goals try have hj65 : Tr ρ45 w52 (fun _ => false) ρ45 w52 := Tr.refl hb.bd
        ·refine sr_evg (b := true) (e := 70) rfl rfl hg62 (v := .pointer (some ⟨gc_0, 0, none⟩)) (ev_move rfl) (by decide) ?_
         refine sr_evg (b := true) (e := 70) rfl rfl hg62 (v := .pointer (some ⟨gc_0, 0, none⟩)) (ev_nilCheck rfl) (by decide) ?_
         refine sr_evg (b := true) (e := 70) rfl rfl hg62 (v := .pointer (some ⟨gc_0, 0, none⟩)) (ev_fieldAddr (i := 0) Try.underlying52 rfl Try.info50 rfl rfl) (by decide) ?_
         refine sr_evg (b := true) (e := 70) rfl rfl hg62 (v := v1) (ev_load Try.isAgg50 rfl (hB3.cell rfl)) (by decide) ?_
         refine sr_evg (b := true) (e := 70) rfl rfl hg62 (v := .int .i64 (mlen c_0.pairs)) (ev_mapLen h2 Try.underlying50 (Mv.of_below (i := 101) (ρ := ρ45) (Below.refl _ _)) rfl) (by decide) ?_
         refine sr_evg (b := true) (e := 70) rfl rfl hg62 (v := .bool (decide ((mlen c_0.pairs) ≥ 256))) (ev_ge rfl rfl) (by decide) ?_
         refine sr_ev (v := .bool (decide ((mlen c_0.pairs) ≥ 256))) (ev_pick_t rfl hg62 rfl) (by decide) ?_
         exact sr_weaken (l' := [(0, .pointer (some ⟨gc_0, 0, none⟩)), (3, v4), (14, .int .i64 y33), (15, .int .i64 y38), (16, .pointer (some ⟨g44, 0, none⟩)), (17, v59), (77, .bool (decide ((mlen c_0.pairs) ≥ 256)))]) (.cons rfl (.cons rfl (.cons rfl (.cons rfl (.cons rfl (.cons rfl (.cons rfl (.nil _)))))))) (K63 (decide ((mlen c_0.pairs) ≥ 256)) _ ⟨by rw [hg62]; rfl, rfl⟩)
        ·refine sr_pass (e := 70) rfl rfl (by rw [hg62]; rfl) (by decide) ?_
         refine sr_pass (e := 70) rfl rfl (by rw [hg62]; rfl) (by decide) ?_
         refine sr_pass (e := 70) rfl rfl (by rw [hg62]; rfl) (by decide) ?_
         refine sr_pass (e := 70) rfl rfl (by rw [hg62]; rfl) (by decide) ?_
         refine sr_pass (e := 70) rfl rfl (by rw [hg62]; rfl) (by decide) ?_
         refine sr_pass (e := 70) rfl rfl (by rw [hg62]; rfl) (by decide) ?_
         refine sr_ev (v := .bool false) (ev_pick_f rfl hg62 rfl) (by decide) ?_
         exact sr_weaken (l' := [(0, .pointer (some ⟨gc_0, 0, none⟩)), (3, v4), (14, .int .i64 y33), (15, .int .i64 y38), (16, .pointer (some ⟨g44, 0, none⟩)), (17, v59), (77, .bool false)]) (.cons rfl (.cons rfl (.cons rfl (.cons rfl (.cons rfl (.cons rfl (.cons rfl (.nil _)))))))) (K63 false _ ⟨by rw [hg62]; rfl, rfl⟩)
  ·intro K13
   clear hS
   have hj15 : Tr (enter ρA o 2) w9 (fun _ => false) (enter ρA o 2) w9 := (Tr.refl hb.bd).weak (fun _ _ => rfl) rfl rfl
   rcases Bool.eq_false_or_eq_true (!y7) with hg12 | hg12
   ·have hS := ite_true' hz16 hg12
    refine sr_pass (e := 36) rfl rfl (by rw [hg12]; rfl) (by decide) ?_
    refine sr_pass (e := 36) rfl rfl (by rw [hg12]; rfl) (by decide) ?_
    refine sr_pass (e := 36) rfl rfl (by rw [hg12]; rfl) (by decide) ?_
    refine sr_ev (v := .bool true) (ev_pick_t rfl hg12 rfl) (by decide) ?_
    exact sr_weaken (l' := [(0, .pointer (some ⟨gc_0, 0, none⟩)), (1, str user_1), (2, str client_2), (3, v4), (4, .int .i64 until_4), (5, .int .i64 now_5), (40, .bool true)]) (.cons rfl (.cons rfl (.cons rfl (.cons rfl (.cons rfl (.cons rfl (.cons rfl (.nil _)))))))) (K13 true _ ⟨(Option.some.inj hS).symm, _, hj15⟩)
   ·have hS := ite_false' hz16 hg12
    refine sr_evg (b := false) (e := 36) rfl rfl hg12 (v := str client_2) (ev_move rfl) (by decide) ?_
    obtain ⟨y20, hy21, hS⟩ := bind_some' hS
    refine sr_callg (b := false) (e := 36) rfl rfl hg12 (vs := [str client_2]) rfl Try.call40 rfl (fold_Word_ok _ (hg.fr hz hb) hy21) (by decide) ?_
    rintro _ w22 ⟨rfl, hbw23⟩
    have htr24 := Tr.of_below hbw23 hb.bd
    replace h5 := h5.mv htr24.rd
    replace hB3 := hB3.mv (htr24.mv (i := 100) rfl)
    replace h2 := h2.mv (htr24.mv (i := 101) rfl)
    replace hb := hb.trans htr24
    replace hj15 := (hj15.trans htr24).weak (J' := (fun _ => false)) (by intro t h; simp [rng] at h ⊢ <;> omega) rfl rfl
    refine sr_evg (b := false) (e := 36) rfl rfl hg12 (v := .bool (!y20)) (ev_not rfl) (by decide) ?_
    refine sr_ev (v := .bool (!y20)) (ev_pick_f rfl hg12 rfl) (by decide) ?_
    exact sr_weaken (l' := [(0, .pointer (some ⟨gc_0, 0, none⟩)), (1, str user_1), (2, str client_2), (3, v4), (4, .int .i64 until_4), (5, .int .i64 now_5), (40, .bool (!y20))]) (.cons rfl (.cons rfl (.cons rfl (.cons rfl (.cons rfl (.cons rfl (.cons rfl (.nil _)))))))) (K13 (!y20) _ ⟨(Option.some.inj hS).symm, _, hj15⟩)
theorem consent_Consents_valid_B2_ok {w0 : World} (hg : Gs w0) {ρA : Tags} (hbd : ∀ b, ρA b ≠ 0 → b < w0.heap.size) (hz : Gz (flat1 ρA)) (r0 : Int → List Str → GMap Str Int → List Str → Option (List Str))
  (hr0 : ∀ {r : List Str} {now_2 : Int} {out_7 : List Str} {t_16m : GMap Str Int} {t_16 : List Str} {vout_7 : Value} {vt_16m : Value} {rt_16 : Nat}, r0 now_2 out_7 t_16m t_16 = some r → ∀ {ρ : Tags} {w : World}, (Fr (flat1 ρA) w0 ρ w) → (OwnT strC 9 ρ 9 w vout_7 out_7) → (MapRd str (intC .i64) false (Wb ρ) w vt_16m t_16m) → (IterP str (intC .i64) false ρ 18 w rt_16 vt_16m t_16m t_16) → KE Try.prog 34 (Ret (fun v w' => ∃ x1 xp, v = x1 ∧ xp.Perm r ∧ SlR strC (Wb ρA) w' x1 xp ∧ Below w0.heap.size w0 w')) 31 [.inLoop (sub (bodyOf Try.f34) [2, 2, 1, 2, 2, 1]), .inBlock 0, .code (sub (bodyOf Try.f34) [2, 2, 2])] [(2, .int .i64 now_2), (7, vout_7), (16, .pointer (some ⟨rt_16, 0, none⟩))] w) {r : List Str} {now_2 : Int} {out_7 : List Str} {t_16m : GMap Str Int} {t_16 : List Str} {vout_7 : Value} {vt_16m : Value} {rt_16 : Nat} (hS : consent_Consents_valid_B2 r0 now_2 out_7 t_16m t_16 = some r) {ρ : Tags} {w : World} (hb : Fr (flat1 ρA) w0 ρ w) (hout_7 : OwnT strC 9 ρ 9 w vout_7 out_7) (ht_16m : MapRd str (intC .i64) false (Wb ρ) w vt_16m t_16m) (ht_16 : IterP str (intC .i64) false ρ 18 w rt_16 vt_16m t_16m t_16) :
  KE Try.prog 34 (Ret (fun v w' => ∃ x1 xp, v = x1 ∧ xp.Perm r ∧ SlR strC (Wb ρA) w' x1 xp ∧ Below w0.heap.size w0 w')) 31 [.inBlock 1, .inLoop (sub (bodyOf Try.f34) [2, 2, 1, 2, 2, 1]), .inBlock 0, .code (sub (bodyOf Try.f34) [2, 2, 2])] [(2, .int .i64 now_2), (7, vout_7), (16, .pointer (some ⟨rt_16, 0, none⟩))] w := by
 unfold consent_Consents_valid_B2 at hS
 refine ke_inBlock ?_
 have hK := hr0 hS hb hout_7 ht_16m ht_16
 exact ke_weaken (l' := [(2, .int .i64 now_2), (7, vout_7), (16, .pointer (some ⟨rt_16, 0, none⟩))]) (.cons rfl (.cons rfl (.cons rfl (.nil _)))) hK
theorem consent_Consents_valid_L1_ok {w0 : World} (hg : Gs w0) {ρA : Tags} (hbd : ∀ b, ρA b ≠ 0 → b < w0.heap.size) (hz : Gz (flat1 ρA)) : ∀ (n : Nat), ∀ {r : List Str} {now_2 : Int} {out_7 : List Str} {t_16m : GMap Str Int} {t_16 : List Str} {vout_7 : Value} {vt_16m : Value} {rt_16 : Nat}, consent_Consents_valid_L1 n now_2 out_7 t_16m t_16 = some r → ∀ {ρ : Tags} {w : World}, (Fr (flat1 ρA) w0 ρ w) → (OwnT strC 9 ρ 9 w vout_7 out_7) → (MapRd str (intC .i64) false (Wb ρ) w vt_16m t_16m) → (IterP str (intC .i64) false ρ 18 w rt_16 vt_16m t_16m t_16) → KE Try.prog 34 (Ret (fun v w' => ∃ x1 xp, v = x1 ∧ xp.Perm r ∧ SlR strC (Wb ρA) w' x1 xp ∧ Below w0.heap.size w0 w')) 31 [.code (sub (bodyOf Try.f34) [2, 2, 1, 2, 2, 1]), .inLoop (sub (bodyOf Try.f34) [2, 2, 1, 2, 2, 1]), .inBlock 0, .code (sub (bodyOf Try.f34) [2, 2, 2])] [(2, .int .i64 now_2), (7, vout_7), (16, .pointer (some ⟨rt_16, 0, none⟩))] w := by
 intro n
 induction n with
 | zero => intro r now_2 out_7 t_16m t_16 vout_7 vt_16m rt_16 hS; cases hS
 | succ n ih =>
  have hr0 : ∀ {r : List Str} {now_2 : Int} {out_7 : List Str} {t_16m : GMap Str Int} {t_16 : List Str} {vout_7 : Value} {vt_16m : Value} {rt_16 : Nat}, consent_Consents_valid_L1 n now_2 out_7 t_16m t_16 = some r → ∀ {ρ : Tags} {w : World}, (Fr (flat1 ρA) w0 ρ w) → (OwnT strC 9 ρ 9 w vout_7 out_7) → (MapRd str (intC .i64) false (Wb ρ) w vt_16m t_16m) → (IterP str (intC .i64) false ρ 18 w rt_16 vt_16m t_16m t_16) → KE Try.prog 34 (Ret (fun v w' => ∃ x1 xp, v = x1 ∧ xp.Perm r ∧ SlR strC (Wb ρA) w' x1 xp ∧ Below w0.heap.size w0 w')) 31 [.inLoop (sub (bodyOf Try.f34) [2, 2, 1, 2, 2, 1]), .inBlock 0, .code (sub (bodyOf Try.f34) [2, 2, 2])] [(2, .int .i64 now_2), (7, vout_7), (16, .pointer (some ⟨rt_16, 0, none⟩))] w := fun {r} {now_2} {out_7} {t_16m} {t_16} {vout_7} {vt_16m} {rt_16} hS {ρ} {w} hb hout_7 ht_16m ht_16 => ke_inLoop (ih hS hb hout_7 ht_16m ht_16)
  clear ih
  intro r now_2 out_7 t_16m t_16 vout_7 vt_16m rt_16 hS ρ w hb hout_7 ht_16m ht_16
  unfold consent_Consents_valid_L1 at hS
  refine ke_seq ?_
  refine ke_region ?_
  refine sr_nextP ht_16 (by decide) hb.bd hS rfl (by decide) (fun hS => ?_) (fun e59 cs60 w61 hS hrd63 ht_161 htr62 hent64 => ?_)
  ·refine sr_ev (v := .bool false) (ev_extract rfl rfl) (by decide) ?_
   refine sr_end (l' := [(2, .int .i64 now_2), (7, vout_7), (16, .pointer (some ⟨rt_16, 0, none⟩)), (18, .bool false)]) (.cons rfl (.cons rfl (.cons rfl (.cons rfl (.nil _))))) ?_
   refine ke_seq ?_
   refine ke_cond (t := false) rfl (fun h => by cases h) (fun _ => ?_)
   refine ke_exit (k' := _) rfl ?_
   refine ke_seq ?_
   refine ke_region ?_
   refine sr_ev (v := vout_7) (ev_move rfl) (by decide) ?_
   refine sr_ev (v := vout_7) (ev_assign rfl) (by decide) ?_
   refine sr_end (l' := [(6, vout_7)]) (.cons rfl (.nil _)) ?_
   have htr84 := frz_tr (ρ := ρ) (w := w) (i := 9) (by decide) hb.bd
   have h85 : SlR strC (Wb (frz ρ 9)) w vout_7 out_7 := (SlT.mv hout_7.sl (frz_mv (ρ := ρ) (w := w) (i := 9))).sl
   replace hb := hb.trans htr84
   cases hS
   exact ke_ret1 Try.func34 rfl rfl ⟨_, rfl, _, _, rfl, (sortS_perm _).symm, (SlR.mv h85 (flat1_back hb hbd)), (hb.below (flat1_le _))⟩
  ·skip
   replace hout_7 := hout_7.mv (htr62.mv (i := 9) rfl) (by decide)
   replace ht_16m := ht_16m.mv (htr62.mv (i := 0) rfl)
   replace hb := hb.trans htr62
   replace ht_16 := ht_161
   clear ht_161
   obtain rfl : cs60 = [.int .i64 e59.2] := hrd63
   refine sr_ev (v := .bool true) (ev_extract rfl rfl) (by decide) ?_
   refine sr_end (l' := [(2, .int .i64 now_2), (7, vout_7), (16, .pointer (some ⟨rt_16, 0, none⟩)), (18, .bool true)]) (.cons rfl (.cons rfl (.cons rfl (.cons rfl (.nil _))))) ?_
   refine ke_seq ?_
   refine ke_cond (t := true) rfl (fun _ => ?_) (fun h => by cases h)
   refine ke_skip ?_
   refine ke_block ?_
   refine ke_seq ?_
   refine ke_region ?_
   refine sr_ev (v := .tuple #[str e59.1, .int .i64 e59.2]) (hent64 rfl) (by decide) ?_
   refine sr_ev (v := str e59.1) (ev_extract rfl rfl) (by decide) ?_
   refine sr_ev (v := .int .i64 e59.2) (ev_extract rfl rfl) (by decide) ?_
   refine sr_ev (v := str e59.1) (ev_assign rfl) (by decide) ?_
   refine sr_ev (v := .int .i64 e59.2) (ev_assign rfl) (by decide) ?_
   refine sr_end (l' := [(2, .int .i64 now_2), (7, vout_7), (8, str e59.1), (9, .int .i64 e59.2), (16, .pointer (some ⟨rt_16, 0, none⟩))]) (.cons rfl (.cons rfl (.cons rfl (.cons rfl (.cons rfl (.nil _)))))) ?_
   refine ke_seq ?_
   refine ke_region ?_
   refine sr_ev (v := .int .i64 e59.2) (ev_move rfl) (by decide) ?_
   refine sr_ev (v := .int .i64 now_2) (ev_move rfl) (by decide) ?_
   obtain ⟨y65, hy66, hS⟩ := bind_some' hS
   refine sr_call (vs := [.int .i64 now_2, .int .i64 0]) rfl Try.call42 rfl (clock_Add_ok _ (hg.fr hz hb) hy66) (by decide) ?_
   rintro _ w67 ⟨rfl, hbw68⟩
   have htr69 := Tr.of_below hbw68 hb.bd
   replace hout_7 := hout_7.mv (htr69.mv (i := 9) rfl) (by decide)
   replace ht_16 := ht_16.mv (htr69.mv (i := 0) rfl) (htr69.mv (i := 18) rfl)
   replace ht_16m := ht_16m.mv (htr69.mv (i := 0) rfl)
   replace hb := hb.trans htr69
   refine sr_ev (v := .bool (decide (e59.2 > y65))) (ev_gt rfl rfl) (by decide) ?_
   refine sr_end (l' := [(2, .int .i64 now_2), (7, vout_7), (8, str e59.1), (16, .pointer (some ⟨rt_16, 0, none⟩)), (25, .bool (decide (e59.2 > y65)))]) (.cons rfl (.cons rfl (.cons rfl (.cons rfl (.cons rfl (.nil _)))))) ?_
   refine ke_cond (t := decide (e59.2 > y65)) rfl (fun hc70 => ?_) (fun hc70 => ?_)
   ·replace hS := ite_true' hS hc70
    refine ke_region ?_
    refine sr_ev (v := vout_7) (ev_move rfl) (by decide) ?_
    refine sr_ev (v := str e59.1) (ev_move rfl) (by decide) ?_
    refine sr_litT (c := strC) (ρ := ρ) (E := 9) (xs := [e59.1]) (vs := #[(0, str e59.1)]) (cs := #[str e59.1]) (css := [[str e59.1]]) rfl (fun _ => by kernel_rfl) rfl ⟨rfl, trivial⟩ rfl (by decide) hb.bd (by decide) ?_
    intro v71 w73 h72 hbw75
    have htr74 := Tr.of_below hbw75 hb.bd
    replace ht_16 := ht_16.mv (htr74.mv (i := 0) rfl) (htr74.mv (i := 18) rfl)
    replace ht_16m := ht_16m.mv (htr74.mv (i := 0) rfl)
    replace hout_7 := hout_7.mv (htr74.mv (i := 9) rfl) (by decide)
    replace hb := hb.trans htr74
    obtain ⟨hk76, hS⟩ := chk_some hS
    refine sr_appendT (i := 9) (c := strC) (ρ := ρ) (E := 9) (xs := out_7) (ys := ([e59.1] : List Str)) hout_7 ((SlT.of_sl (i := 0) h72)).x Try.underlying30 Try.info9 rfl rfl rfl (by decide) (by decide) (by decide) hb.bd hk76 rfl rfl (by decide) ?_
    intro v77 ρ79 w80 h78 htr81
    replace ht_16 := ht_16.mv (htr81.mv (i := 0) rfl) (htr81.mv (i := 18) rfl)
    replace ht_16m := ht_16m.mv (htr81.mv (i := 0) rfl)
    replace hb := hb.trans htr81
    refine sr_ev (v := v77) (ev_assign rfl) (by decide) ?_
    refine sr_end (l' := [(2, .int .i64 now_2), (7, v77), (16, .pointer (some ⟨rt_16, 0, none⟩))]) (.cons rfl (.cons rfl (.cons rfl (.nil _)))) ?_
    have hK := consent_Consents_valid_B2_ok hg hbd hz _ hr0 hS hb h78 ht_16m ht_16
    exact ke_weaken (l' := [(2, .int .i64 now_2), (7, v77), (16, .pointer (some ⟨rt_16, 0, none⟩))]) (.cons rfl (.cons rfl (.cons rfl (.nil _)))) hK
   ·replace hS := ite_false' hS hc70
    refine ke_skip ?_
    have hK := consent_Consents_valid_B2_ok hg hbd hz _ hr0 hS hb hout_7 ht_16m ht_16
    exact ke_weaken (l' := [(2, .int .i64 now_2), (7, vout_7), (16, .pointer (some ⟨rt_16, 0, none⟩))]) (.cons rfl (.cons rfl (.cons rfl (.nil _)))) hK
theorem consent_Consents_valid_ok (w0 : World) (hg : Gs w0) {ρA : Tags} (hbd : ∀ b, ρA b ≠ 0 → b < w0.heap.size) (hz : Gz ρA) {τ0 : Nat → Nat} (hτ0 : ∀ p, 1 ≤ τ0 p) {c_0 : consent_Consents} {p_1 : consent_pair} {now_2 : Int} {gc_0 : Nat} {r : List Str} (ho0 : consent_Consents.O τ0 ρA w0 gc_0 c_0) (hS : consent_Consents_valid c_0 p_1 now_2 = some r) :
  Calls Try.prog 34 #[.pointer (some ⟨gc_0, 0, none⟩), .agg #[str p_1.user, str p_1.client], .int .i64 now_2] w0 (Ret (fun v w' => ∃ x1 xp, v = x1 ∧ xp.Perm r ∧ SlR strC (Wb ρA) w' x1 xp ∧ Below w0.heap.size w0 w')) := by
 unfold consent_Consents_valid at hS
 have hb := flat1_fr (ρ := ρA) (w := w0) hbd
 have hz := hz.flat1
 obtain ⟨v1, hB3, h2⟩ := ho0
 replace hB3 := hB3.mv (flat1_mv (hτ0 0))
 replace h2 := h2.mv (flat1_mv (hτ0 1))
 replace hB3 : Blk (flat1 ρA) 1 w0 gc_0 (.cells #[v1] 52 (0, 0)) := hB3
 replace h2 : MapT consent_pair.ek (mapC str (intC .i64) false) false (flat1 ρA) 1 w0 v1 c_0.pairs := h2
 refine calls_of_ke Try.func34 rfl (n := 31) rfl rfl (l := [(0, .pointer (some ⟨gc_0, 0, none⟩)), (1, .agg #[str p_1.user, str p_1.client]), (2, .int .i64 now_2)]) rfl ?_
 refine ke_seq ?_
 refine ke_region ?_
 refine sr_boxT 6 (by decide) hb.bd rfl (by decide) ?_
 intro g6 ρ7 w8 hB10 htr9
 replace hB3 := hB3.mv (htr9.mv (i := 1) rfl)
 replace h2 := h2.mv (htr9.mv (i := 1) rfl)
 replace hb := hb.trans htr9
 replace hB10 : Blk ρ7 6 w8 g6 (.cells #[str p_1.user, str p_1.client] 59 (0, 0)) := hB10
 refine sr_ev (v := .slice none 0 0) (ev_assign rfl) (by decide) ?_
 refine sr_end (l' := [(0, .pointer (some ⟨gc_0, 0, none⟩)), (2, .int .i64 now_2), (4, .pointer (some ⟨g6, 0, none⟩))]) (.cons rfl (.cons rfl (.cons rfl (.nil _)))) ?_
 refine ke_seq ?_
 refine ke_region ?_
 refine sr_ev (v := .slice none 0 0) (ev_assign rfl) (by decide) ?_
 refine sr_end (l' := [(0, .pointer (some ⟨gc_0, 0, none⟩)), (2, .int .i64 now_2), (4, .pointer (some ⟨g6, 0, none⟩)), (7, .slice none 0 0)]) (.cons rfl (.cons rfl (.cons rfl (.cons rfl (.nil _))))) ?_
 refine ke_seq ?_
 refine ke_seq ?_
 refine ke_region_j (ρ := ρ7) (fun t => ([18] : List Nat).contains t) 7 Try.mixed (fun w12 hw11 => ?_)
 have htr13 := Tr.of_below hw11 hb.bd
 replace hB10 := hB10.mv (htr13.mv (i := 6) rfl)
 replace hB3 := hB3.mv (htr13.mv (i := 1) rfl)
 replace h2 := h2.mv (htr13.mv (i := 1) rfl)
 replace hb := hb.trans htr13
 refine dj_H 0 (v := .pointer (some ⟨gc_0, 0, none⟩)) (by kernel_rfl) (by kernel_rfl) rfl (fun _ _ _ h => h) (sj_refl hb.bd rfl rfl) (fun w1 ρ1 hw1 => ev_move rfl) (by decide) ?_
 refine dj_H 1 (v := .pointer (some ⟨gc_0, 0, none⟩)) (by kernel_rfl) (by kernel_rfl) rfl (fun _ _ _ h => h) (sj_refl hb.bd rfl rfl) (fun w1 ρ1 hw1 => ev_nilCheck rfl) (by decide) ?_
 refine dj_H 2 (v := .pointer (some ⟨gc_0, 0, none⟩)) (by kernel_rfl) (by kernel_rfl) rfl (fun _ _ _ h => h) (sj_refl hb.bd rfl rfl) (fun w1 ρ1 hw1 => ev_fieldAddr (i := 0) Try.underlying52 rfl Try.info50 rfl rfl) (by decide) ?_
 refine dj_H 3 (v := v1) (by kernel_rfl) (by kernel_rfl) rfl (fun _ _ _ h => h) (sj_refl hb.bd rfl rfl) (fun w1 ρ1 hw1 => ev_load Try.isAgg50 rfl ((hB3.mv (hw1.mv (i := 1) rfl)).cell rfl)) (by decide) ?_
 refine dj_H 4 (v := .agg #[str p_1.user, str p_1.client]) (by kernel_rfl) (by kernel_rfl) rfl (fun _ _ _ h => h) (sj_refl hb.bd rfl rfl) (fun w1 ρ1 hw1 => ev_loads (cs := [str p_1.user, str p_1.client]) Try.isAgg59 Try.sizeOf59 rfl ((hB10.mv (hw1.mv (i := 6) rfl)).cells (vs := [str p_1.user, str p_1.client]) rfl)) (by decide) ?_
 obtain ⟨y47, hy48, hS⟩ := bind_some' hS
 replace hy48 := Option.some.inj hy48
 obtain ⟨cs43, hrd44, hl45, hl46⟩ := h2.look (zcs := [(.map none)]) (z := (none : GMap Str Int)) Try.keyB59 Try.underlying50 Try.zeroValue71 ⟨_, rfl, MapRd.nil⟩ p_1
 rw [hy48] at hrd44
 obtain ⟨v49, hcshrd44, h50⟩ := hrd44
 obtain rfl : cs43 = [v49] := hcshrd44
 refine dj_H 5 (v := v49) (by kernel_rfl) (by kernel_rfl) rfl (fun _ _ _ h => h) (sj_refl hb.bd rfl rfl) (fun w1 ρ1 hw1 => hl45 w1 _ _ (hw1.mv (i := 1) rfl) rfl rfl) (by decide) ?_
 refine dj_E 6 (by kernel_rfl) rfl ?_
 have jt51 : Tr ρ7 w12 (fun t => ([18] : List Nat).contains t) ρ7 w12 := (Tr.refl hb.bd).weak (fun _ _ => rfl) rfl rfl
 refine sr_rangeP 18 (by decide) h50 Try.underlying71 hb.bd rfl (by decide) ?_
 intro r52 ρ53 w54 h55 htr56
 replace h50 := h50.mv (htr56.mv (i := 0) rfl)
 replace hb := hb.trans htr56
 replace jt51 := (jt51.trans htr56).weak (J' := (fun t => ([18] : List Nat).contains t)) (by intro t h; simp [rng] at h ⊢ <;> omega) rfl rfl
 refine dj_next (l' := [(2, .int .i64 now_2), (7, .slice none 0 0), (16, .pointer (some ⟨r52, 0, none⟩))]) rfl (.cons rfl (.cons rfl (.cons rfl (.nil _)))) jt51 (by intro t h; simp [rng] at h ⊢ <;> omega) rfl rfl ?_
 refine dj_done rfl (by kernel_rfl) ?_
 refine ke_weaken (l' := [(2, .int .i64 now_2), (7, .slice none 0 0), (16, .pointer (some ⟨r52, 0, none⟩))]) (.cons rfl (.cons rfl (.cons rfl (.nil _)))) ?_
 refine ke_block ?_
 have hK := consent_Consents_valid_L1_ok hg hbd hz _ hS hb OwnT.nil h50 h55
 exact ke_weaken (l' := [(2, .int .i64 now_2), (7, (.slice none 0 0)), (16, .pointer (some ⟨r52, 0, none⟩))]) (.cons rfl (.cons rfl (.cons rfl (.nil _)))) (ke_loop hK)
theorem internal_stringslite_HasPrefix_ok (w0 : World) (hg : Gs w0) {s_0 : Str} {prefix_1 : Str} {r : Bool} (hS : internal_stringslite_HasPrefix s_0 prefix_1 = some r) :
  Calls Try.prog 82 #[str s_0, str prefix_1] w0 (Ret (fun v w' => v = .bool r ∧ Below w0.heap.size w0 w')) := by
 unfold internal_stringslite_HasPrefix at hS
 have hb := Below.refl w0.heap.size w0
 refine calls_of_ke Try.func82 rfl (n := 18) rfl rfl (l := [(0, str s_0), (1, str prefix_1)]) rfl ?_
 refine ke_seq ?_
 refine ke_region ?_
 refine sr_ev (v := .bool false) (ev_assign rfl) (by decide) ?_
 refine sr_end (l' := [(0, str s_0), (1, str prefix_1)]) (.cons rfl (.cons rfl (.nil _))) ?_
 refine ke_seq ?_
 refine ke_region ?_
 refine sr_ev (v := str s_0) (ev_move rfl) (by decide) ?_
 refine sr_ev (v := .int .i64 (s_0.length : Int)) (ev_slen Try.underlying9 rfl) (by decide) ?_
 refine sr_ev (v := str prefix_1) (ev_move rfl) (by decide) ?_
 refine sr_ev (v := .int .i64 (prefix_1.length : Int)) (ev_slen Try.underlying9 rfl) (by decide) ?_
 refine sr_ev (v := .bool (decide ((s_0.length : Int) ≥ (prefix_1.length : Int)))) (ev_ge rfl rfl) (by decide) ?_
 refine sr_ev (v := .bool (decide ((s_0.length : Int) ≥ (prefix_1.length : Int)))) (ev_move rfl) (by decide) ?_
 obtain ⟨z3, hz5, hS⟩ := bind_some' hS
 refine sr_join (m := 7) (C := fun (x : Bool) w1 => z3 = x ∧ Below w0.heap.size w0 w1) (l' := fun x => [(17, .bool x)]) ?_ ?_
 ·rintro _ w6 ⟨rfl, hbw7⟩
  replace hb := hb.trans (hbw7.mono hb.size)
  refine sr_ev (v := .bool z3) (ev_assign rfl) (by decide) ?_
  refine sr_end (l' := [(4, .bool z3)]) (.cons rfl (.nil _)) ?_
  cases hS
  exact ke_ret1 Try.func82 rfl rfl ⟨_, rfl, rfl, hb⟩
 ·intro K2
  clear hS
  have hj4 := Below.refl w0.heap.size w0
  rcases Bool.eq_false_or_eq_true (decide ((s_0.length : Int) ≥ (prefix_1.length : Int))) with hg1 | hg1
  ·have hS := ite_true' hz5 hg1
   refine sr_evg (b := true) (e := 10) rfl rfl hg1 (v := str s_0) (ev_move rfl) (by decide) ?_
   refine sr_evg (b := true) (e := 10) rfl rfl hg1 (v := str prefix_1) (ev_move rfl) (by decide) ?_
   refine sr_evg (b := true) (e := 10) rfl rfl hg1 (v := .int .i64 (prefix_1.length : Int)) (ev_slen Try.underlying9 rfl) (by decide) ?_
   obtain ⟨hk8, hS⟩ := chk_some hS
   refine sr_evg (b := true) (e := 10) rfl rfl hg1 (v := str (cut s_0 0 (prefix_1.length : Int))) (ev_sslice_to Try.underlying9 rfl rfl hk8) (by decide) ?_
   refine sr_evg (b := true) (e := 10) rfl rfl hg1 (v := str prefix_1) (ev_move rfl) (by decide) ?_
   refine sr_evg (b := true) (e := 10) rfl rfl hg1 (v := .bool ((cut s_0 0 (prefix_1.length : Int)) == prefix_1)) (ev_seq rfl rfl) (by decide) ?_
   refine sr_ev (v := .bool ((cut s_0 0 (prefix_1.length : Int)) == prefix_1)) (ev_pick_t rfl hg1 rfl) (by decide) ?_
   exact sr_weaken (l' := [(17, .bool ((cut s_0 0 (prefix_1.length : Int)) == prefix_1))]) (.cons rfl (.nil _)) (K2 ((cut s_0 0 (prefix_1.length : Int)) == prefix_1) _ ⟨(Option.some.inj hS).symm, hj4⟩)
  ·have hS := ite_false' hz5 hg1
   refine sr_pass (e := 10) rfl rfl (by rw [hg1]; rfl) (by decide) ?_
   refine sr_pass (e := 10) rfl rfl (by rw [hg1]; rfl) (by decide) ?_
   refine sr_pass (e := 10) rfl rfl (by rw [hg1]; rfl) (by decide) ?_
   refine sr_pass (e := 10) rfl rfl (by rw [hg1]; rfl) (by decide) ?_
   refine sr_pass (e := 10) rfl rfl (by rw [hg1]; rfl) (by decide) ?_
   refine sr_pass (e := 10) rfl rfl (by rw [hg1]; rfl) (by decide) ?_
   refine sr_ev (v := .bool false) (ev_pick_f rfl hg1 rfl) (by decide) ?_
   exact sr_weaken (l' := [(17, .bool false)]) (.cons rfl (.nil _)) (K2 false _ ⟨(Option.some.inj hS).symm, hj4⟩)
theorem strings_HasPrefix_ok (w0 : World) (hg : Gs w0) {s_0 : Str} {prefix_1 : Str} {r : Bool} (hS : strings_HasPrefix s_0 prefix_1 = some r) :
  Calls Try.prog 64 #[str s_0, str prefix_1] w0 (Ret (fun v w' => v = .bool r ∧ Below w0.heap.size w0 w')) := by
 unfold strings_HasPrefix at hS
 have hb := Below.refl w0.heap.size w0
 refine calls_of_ke Try.func64 rfl (n := 8) rfl rfl (l := [(0, str s_0), (1, str prefix_1)]) rfl ?_
 refine ke_seq ?_
 refine ke_region ?_
 refine sr_ev (v := .bool false) (ev_assign rfl) (by decide) ?_
 refine sr_end (l' := [(0, str s_0), (1, str prefix_1)]) (.cons rfl (.cons rfl (.nil _))) ?_
 refine ke_seq ?_
 refine ke_region ?_
 refine sr_ev (v := str s_0) (ev_move rfl) (by decide) ?_
 refine sr_ev (v := str prefix_1) (ev_move rfl) (by decide) ?_
 obtain ⟨y1, hy2, hS⟩ := bind_some' hS
 refine sr_call (vs := [str s_0, str prefix_1]) rfl Try.call82 rfl (internal_stringslite_HasPrefix_ok _ (hg.below hb) hy2) (by decide) ?_
 rintro _ w3 ⟨rfl, hbw4⟩
 replace hb := hb.trans (hbw4.mono hb.size)
 refine sr_ev (v := .bool y1) (ev_assign rfl) (by decide) ?_
 refine sr_end (l' := [(4, .bool y1)]) (.cons rfl (.nil _)) ?_
 cases hS
 exact ke_ret1 Try.func64 rfl rfl ⟨_, rfl, rfl, hb⟩
theorem scope_Implies_ok (w0 : World) (hg : Gs w0) {a_0 : Str} {b_1 : Str} {r : Bool} (hS : scope_Implies a_0 b_1 = some r) :
  Calls Try.prog 45 #[str a_0, str b_1] w0 (Ret (fun v w' => v = .bool r ∧ Below w0.heap.size w0 w')) := by
 unfold scope_Implies at hS
 have hb := Below.refl w0.heap.size w0
 refine calls_of_ke Try.func45 rfl (n := 22) rfl rfl (l := [(0, str a_0), (1, str b_1)]) rfl ?_
 refine ke_seq ?_
 refine ke_region ?_
 refine sr_ev (v := .bool false) (ev_assign rfl) (by decide) ?_
 refine sr_end (l' := [(0, str a_0), (1, str b_1)]) (.cons rfl (.cons rfl (.nil _))) ?_
 refine ke_seq ?_
 refine ke_region ?_
 refine sr_ev (v := str a_0) (ev_move rfl) (by decide) ?_
 obtain ⟨y1, hy2, hS⟩ := bind_some' hS
 refine sr_call (vs := [str a_0]) rfl Try.call43 rfl (scope_valid_ok _ (hg.below hb) hy2) (by decide) ?_
 rintro _ w3 ⟨rfl, hbw4⟩
 replace hb := hb.trans (hbw4.mono hb.size)
 refine sr_ev (v := .bool y1) (ev_move rfl) (by decide) ?_
 obtain ⟨z7, hz9, hS⟩ := bind_some' hS
 refine sr_join (m := 3) (C := fun (x : Bool) w1 => z7 = x ∧ Below w3.heap.size w3 w1) (l' := fun x => [(0, str a_0), (1, str b_1), (10, .bool x)]) ?_ ?_
 ·rintro _ w10 ⟨rfl, hbw11⟩
  replace hb := hb.trans (hbw11.mono hb.size)
  refine sr_ev (v := .bool z7) (ev_move rfl) (by decide) ?_
  obtain ⟨z18, hz20, hS⟩ := bind_some' hS
  refine sr_join (m := 10) (C := fun (x : Bool) w1 => z18 = x ∧ Below w10.heap.size w10 w1) (l' := fun x => [(21, .bool x)]) ?_ ?_
  ·rintro _ w21 ⟨rfl, hbw22⟩
   replace hb := hb.trans (hbw22.mono hb.size)
   refine sr_ev (v := .bool z18) (ev_assign rfl) (by decide) ?_
   refine sr_end (l' := [(4, .bool z18)]) (.cons rfl (.nil _)) ?_
   cases hS
   exact ke_ret1 Try.func45 rfl rfl ⟨_, rfl, rfl, hb⟩
  ·intro K17
   clear hS
   have hj19 := Below.refl w10.heap.size w10
   rcases Bool.eq_false_or_eq_true z7 with hg16 | hg16
   ·have hS := ite_true' hz20 hg16
    refine sr_evg (b := true) (e := 11) rfl rfl hg16 (v := str a_0) (ev_move rfl) (by decide) ?_
    refine sr_evg (b := true) (e := 11) rfl rfl hg16 (v := str b_1) (ev_move rfl) (by decide) ?_
    refine sr_evg (b := true) (e := 11) rfl rfl hg16 (v := .bool (a_0 == b_1)) (ev_seq rfl rfl) (by decide) ?_
    refine sr_evg (b := true) (e := 11) rfl rfl hg16 (v := .bool (a_0 == b_1)) (ev_move rfl) (by decide) ?_
    obtain ⟨z25, hz27, hS⟩ := bind_some' hS
    refine sr_join (m := 5) (C := fun (x : Bool) w1 => z25 = x ∧ Below w10.heap.size w10 w1) (l' := fun x => [(11, .bool z7), (20, .bool x)]) ?_ ?_
    ·rintro _ w28 ⟨rfl, hbw29⟩
     replace hb := hb.trans (hbw29.mono hb.size)
     replace hj19 := hj19.trans (hbw29.mono hj19.size)
     refine sr_ev (v := .bool z25) (ev_pick_t rfl hg16 rfl) (by decide) ?_
     exact sr_weaken (l' := [(21, .bool z25)]) (.cons rfl (.nil _)) (K17 z25 _ ⟨(Option.some.inj hS).symm, hj19⟩)
    ·intro K24
     clear hS
     have hj26 := Below.refl w10.heap.size w10
     rcases Bool.eq_false_or_eq_true (a_0 == b_1) with hg23 | hg23
     ·have hS := ite_true' hz27 hg23
      refine sr_pass (e := 15) rfl rfl (by rw [hg23]; rfl) (by decide) ?_
      refine sr_pass (e := 15) rfl rfl (by rw [hg23]; rfl) (by decide) ?_
      refine sr_pass (e := 15) rfl rfl (by rw [hg23]; rfl) (by decide) ?_
      refine sr_pass (e := 15) rfl rfl (by rw [hg23]; rfl) (by decide) ?_
      refine sr_evg (b := true) (e := 11) rfl rfl hg16 (v := .bool true) (ev_pick_t rfl hg23 rfl) (by decide) ?_
      exact sr_weaken (l' := [(11, .bool z7), (20, .bool true)]) (.cons rfl (.cons rfl (.nil _))) (K24 true _ ⟨(Option.some.inj hS).symm, hj26⟩)
     ·have hS := ite_false' hz27 hg23
      refine sr_evg (b := false) (e := 15) rfl rfl hg23 (v := str b_1) (ev_move rfl) (by decide) ?_
      refine sr_evg (b := false) (e := 15) rfl rfl hg23 (v := str a_0) (ev_move rfl) (by decide) ?_
      obtain ⟨hk30, hS⟩ := chk_some hS
      refine sr_evg (b := false) (e := 15) rfl rfl hg23 (v := str (a_0 ++ ([46]))) (ev_cat rfl rfl hk30) (by decide) ?_
      obtain ⟨y31, hy32, hS⟩ := bind_some' hS
      refine sr_callg (b := false) (e := 15) rfl rfl hg23 (vs := [str b_1, str (a_0 ++ ([46]))]) rfl Try.call64 rfl (strings_HasPrefix_ok _ (hg.below hb) hy32) (by decide) ?_
      rintro _ w33 ⟨rfl, hbw34⟩
      replace hb := hb.trans (hbw34.mono hb.size)
      replace hj19 := hj19.trans (hbw34.mono hj19.size)
      replace hj26 := hj26.trans (hbw34.mono hj26.size)
      refine sr_evg (b := true) (e := 11) rfl rfl hg16 (v := .bool y31) (ev_pick_f rfl hg23 rfl) (by decide) ?_
      exact sr_weaken (l' := [(11, .bool z7), (20, .bool y31)]) (.cons rfl (.cons rfl (.nil _))) (K24 y31 _ ⟨(Option.some.inj hS).symm, hj26⟩)
   ·have hS := ite_false' hz20 hg16
    refine sr_pass (e := 11) rfl rfl (by rw [hg16]; rfl) (by decide) ?_
    refine sr_pass (e := 11) rfl rfl (by rw [hg16]; rfl) (by decide) ?_
    refine sr_pass (e := 11) rfl rfl (by rw [hg16]; rfl) (by decide) ?_
    refine sr_pass (e := 11) rfl rfl (by rw [hg16]; rfl) (by decide) ?_
    refine sr_pass_undef (e := 15) rfl rfl (by decide) ?_
    refine sr_pass_undef (e := 15) rfl rfl (by decide) ?_
    refine sr_pass_undef (e := 15) rfl rfl (by decide) ?_
    refine sr_pass_undef (e := 15) rfl rfl (by decide) ?_
    refine sr_pass (e := 11) rfl rfl (by rw [hg16]; rfl) (by decide) ?_
    refine sr_ev (v := .bool false) (ev_pick_f rfl hg16 rfl) (by decide) ?_
    exact sr_weaken (l' := [(21, .bool false)]) (.cons rfl (.nil _)) (K17 false _ ⟨(Option.some.inj hS).symm, hj19⟩)
 ·intro K6
  clear hS
  have hj8 := Below.refl w3.heap.size w3
  rcases Bool.eq_false_or_eq_true y1 with hg5 | hg5
  ·have hS := ite_true' hz9 hg5
   refine sr_evg (b := true) (e := 7) rfl rfl hg5 (v := str b_1) (ev_move rfl) (by decide) ?_
   obtain ⟨y12, hy13, hS⟩ := bind_some' hS
   refine sr_callg (b := true) (e := 7) rfl rfl hg5 (vs := [str b_1]) rfl Try.call43 rfl (scope_valid_ok _ (hg.below hb) hy13) (by decide) ?_
   rintro _ w14 ⟨rfl, hbw15⟩
   replace hb := hb.trans (hbw15.mono hb.size)
   replace hj8 := hj8.trans (hbw15.mono hj8.size)
   refine sr_ev (v := .bool y12) (ev_pick_t rfl hg5 rfl) (by decide) ?_
   exact sr_weaken (l' := [(0, str a_0), (1, str b_1), (10, .bool y12)]) (.cons rfl (.cons rfl (.cons rfl (.nil _)))) (K6 y12 _ ⟨(Option.some.inj hS).symm, hj8⟩)
  ·have hS := ite_false' hz9 hg5
   refine sr_pass (e := 7) rfl rfl (by rw [hg5]; rfl) (by decide) ?_
   refine sr_pass (e := 7) rfl rfl (by rw [hg5]; rfl) (by decide) ?_
   refine sr_ev (v := .bool false) (ev_pick_f rfl hg5 rfl) (by decide) ?_
   exact sr_weaken (l' := [(0, str a_0), (1, str b_1), (10, .bool false)]) (.cons rfl (.cons rfl (.cons rfl (.nil _)))) (K6 false _ ⟨(Option.some.inj hS).symm, hj8⟩)
theorem scope_Sorted_B2_ok {w0 : World} (hg : Gs w0) {A0 : Nat → Prop} (hA0 : ∀ b, A0 b → b < w0.heap.size) (r0 : List Str → List Str → List Str → Int → Int → Option (List Str))
  (hr0 : ∀ {r : List Str} {l_0 : List Str} {out_3 : List Str} {t_8 : List Str} {t_9 : Int} {t_10 : Int} {vl_0 : Value} {vout_3 : Value} {vt_8 : Value}, r0 l_0 out_3 t_8 t_9 t_10 = some r → ∀ {w : World} {A : Nat → Prop}, (Below w0.heap.size w0 w) → (∀ b, A b → b < w.heap.size) → (∀ b, A0 b → A b) → (Hp A w0.heap.size w []) → (SlR strC A w vl_0 l_0) → (OwnS strC 9 A w0.heap.size w vout_3 out_3) → (Dj vout_3 []) → (SlR strC A w vt_8 t_8) → KE Try.prog 24 (Ret (fun v w' => ∃ x1, v = x1 ∧ SlR strC A0 w' x1 r ∧ Below w0.heap.size w0 w')) 48 [.inLoop (sub (bodyOf Try.f24) [2, 1, 2, 2, 1, 2, 2, 1]), .inBlock 0, .code (sub (bodyOf Try.f24) [2, 1, 2, 2, 2]), .inScope (sub (bodyOf Try.f24) [2, 1])] [(0, vl_0), (3, vout_3), (8, vt_8), (9, .int .i64 t_9), (10, .int .i64 t_10)] w) {r : List Str} {l_0 : List Str} {out_3 : List Str} {t_8 : List Str} {t_9 : Int} {t_10 : Int} {vl_0 : Value} {vout_3 : Value} {vt_8 : Value} (hS : scope_Sorted_B2 r0 l_0 out_3 t_8 t_9 t_10 = some r) {w : World} {A : Nat → Prop} (hb : Below w0.heap.size w0 w) (hA : ∀ b, A b → b < w.heap.size) (hi : ∀ b, A0 b → A b) (hH : Hp A w0.heap.size w []) (hl_0 : SlR strC A w vl_0 l_0) (hout_3 : OwnS strC 9 A w0.heap.size w vout_3 out_3) (dout_3 : Dj vout_3 []) (ht_8 : SlR strC A w vt_8 t_8) :
  KE Try.prog 24 (Ret (fun v w' => ∃ x1, v = x1 ∧ SlR strC A0 w' x1 r ∧ Below w0.heap.size w0 w')) 48 [.code (sub (bodyOf Try.f24) [2, 1, 2, 2, 1, 2, 2, 1, 2, 2, 2]), .inLoop (sub (bodyOf Try.f24) [2, 1, 2, 2, 1, 2, 2, 1]), .inBlock 0, .code (sub (bodyOf Try.f24) [2, 1, 2, 2, 2]), .inScope (sub (bodyOf Try.f24) [2, 1])] [(0, vl_0), (3, vout_3), (8, vt_8), (9, .int .i64 t_9), (10, .int .i64 t_10)] w := by
 unfold scope_Sorted_B2 at hS
 refine ke_region ?_
 refine sr_ev (v := .int .i64 (IntKind.i64.wrap (t_10 + 1))) (ev_add rfl rfl) (by decide) ?_
 refine sr_ev (v := .int .i64 (IntKind.i64.wrap (t_10 + 1))) (ev_move rfl) (by decide) ?_
 refine sr_end (l' := [(0, vl_0), (3, vout_3), (8, vt_8), (9, .int .i64 t_9), (10, .int .i64 (IntKind.i64.wrap (t_10 + 1)))]) (.cons rfl (.cons rfl (.cons rfl (.cons rfl (.cons rfl (.nil _)))))) ?_
 have hK := hr0 hS hb hA hi hH hl_0 hout_3 dout_3 ht_8
 exact ke_weaken (l' := [(0, vl_0), (3, vout_3), (8, vt_8), (9, .int .i64 t_9), (10, .int .i64 (IntKind.i64.wrap (t_10 + 1)))]) (.cons rfl (.cons rfl (.cons rfl (.cons rfl (.cons rfl (.nil _)))))) hK
theorem scope_Sorted_L3_ok {w0 : World} (hg : Gs w0) {A0 : Nat → Prop} (hA0 : ∀ b, A0 b → b < w0.heap.size) (r0 : List Str → List Str → List Str → Int → Int → Option (List Str))
  (hr0 : ∀ {r : List Str} {l_0 : List Str} {out_3 : List Str} {t_8 : List Str} {t_9 : Int} {t_10 : Int} {vl_0 : Value} {vout_3 : Value} {vt_8 : Value}, r0 l_0 out_3 t_8 t_9 t_10 = some r → ∀ {w : World} {A : Nat → Prop}, (Below w0.heap.size w0 w) → (∀ b, A b → b < w.heap.size) → (∀ b, A0 b → A b) → (Hp A w0.heap.size w []) → (SlR strC A w vl_0 l_0) → (OwnS strC 9 A w0.heap.size w vout_3 out_3) → (Dj vout_3 []) → (SlR strC A w vt_8 t_8) → KE Try.prog 24 (Ret (fun v w' => ∃ x1, v = x1 ∧ SlR strC A0 w' x1 r ∧ Below w0.heap.size w0 w')) 48 [.inLoop (sub (bodyOf Try.f24) [2, 1, 2, 2, 1, 2, 2, 1]), .inBlock 0, .code (sub (bodyOf Try.f24) [2, 1, 2, 2, 2]), .inScope (sub (bodyOf Try.f24) [2, 1])] [(0, vl_0), (3, vout_3), (8, vt_8), (9, .int .i64 t_9), (10, .int .i64 t_10)] w) : ∀ (n : Nat), ∀ {r : List Str} {l_0 : List Str} {out_3 : List Str} {s_5 : Str} {t_8 : List Str} {t_9 : Int} {t_10 : Int} {t_25 : List Str} {t_26 : Int} {t_27 : Int} {vl_0 : Value} {vout_3 : Value} {vt_8 : Value} {vt_25 : Value}, scope_Sorted_L3 r0 n l_0 out_3 s_5 t_8 t_9 t_10 t_25 t_26 t_27 = some r → ∀ {w : World} {A : Nat → Prop}, (Below w0.heap.size w0 w) → (∀ b, A b → b < w.heap.size) → (∀ b, A0 b → A b) → (Hp A w0.heap.size w []) → (SlR strC A w vl_0 l_0) → (OwnS strC 9 A w0.heap.size w vout_3 out_3) → (Dj vout_3 []) → (SlR strC A w vt_8 t_8) → (SlR strC A w vt_25 t_25) → KE Try.prog 24 (Ret (fun v w' => ∃ x1, v = x1 ∧ SlR strC A0 w' x1 r ∧ Below w0.heap.size w0 w')) 48 [.code (sub (bodyOf Try.f24) [2, 1, 2, 2, 1, 2, 2, 1, 2, 2, 1, 2, 2, 2, 1, 2, 2, 1]), .inLoop (sub (bodyOf Try.f24) [2, 1, 2, 2, 1, 2, 2, 1, 2, 2, 1, 2, 2, 2, 1, 2, 2, 1]), .inBlock 2, .code (sub (bodyOf Try.f24) [2, 1, 2, 2, 1, 2, 2, 1, 2, 2, 1, 2, 2, 2, 2]), .inBlock 1, .code (sub (bodyOf Try.f24) [2, 1, 2, 2, 1, 2, 2, 1, 2, 2, 2]), .inLoop (sub (bodyOf Try.f24) [2, 1, 2, 2, 1, 2, 2, 1]), .inBlock 0, .code (sub (bodyOf Try.f24) [2, 1, 2, 2, 2]), .inScope (sub (bodyOf Try.f24) [2, 1])] [(0, vl_0), (3, vout_3), (5, str s_5), (8, vt_8), (9, .int .i64 t_9), (10, .int .i64 t_10), (25, vt_25), (26, .int .i64 t_26), (27, .int .i64 t_27)] w := by
 intro n
 induction n with
 | zero => intro r l_0 out_3 s_5 t_8 t_9 t_10 t_25 t_26 t_27 vl_0 vout_3 vt_8 vt_25 hS; cases hS
 | succ n ih =>
  have hr1 : ∀ {r : List Str} {l_0 : List Str} {out_3 : List Str} {s_5 : Str} {t_8 : List Str} {t_9 : Int} {t_10 : Int} {t_25 : List Str} {t_26 : Int} {t_27 : Int} {vl_0 : Value} {vout_3 : Value} {vt_8 : Value} {vt_25 : Value}, scope_Sorted_L3 r0 n l_0 out_3 s_5 t_8 t_9 t_10 t_25 t_26 t_27 = some r → ∀ {w : World} {A : Nat → Prop}, (Below w0.heap.size w0 w) → (∀ b, A b → b < w.heap.size) → (∀ b, A0 b → A b) → (Hp A w0.heap.size w []) → (SlR strC A w vl_0 l_0) → (OwnS strC 9 A w0.heap.size w vout_3 out_3) → (Dj vout_3 []) → (SlR strC A w vt_8 t_8) → (SlR strC A w vt_25 t_25) → KE Try.prog 24 (Ret (fun v w' => ∃ x1, v = x1 ∧ SlR strC A0 w' x1 r ∧ Below w0.heap.size w0 w')) 48 [.inLoop (sub (bodyOf Try.f24) [2, 1, 2, 2, 1, 2, 2, 1, 2, 2, 1, 2, 2, 2, 1, 2, 2, 1]), .inBlock 2, .code (sub (bodyOf Try.f24) [2, 1, 2, 2, 1, 2, 2, 1, 2, 2, 1, 2, 2, 2, 2]), .inBlock 1, .code (sub (bodyOf Try.f24) [2, 1, 2, 2, 1, 2, 2, 1, 2, 2, 2]), .inLoop (sub (bodyOf Try.f24) [2, 1, 2, 2, 1, 2, 2, 1]), .inBlock 0, .code (sub (bodyOf Try.f24) [2, 1, 2, 2, 2]), .inScope (sub (bodyOf Try.f24) [2, 1])] [(0, vl_0), (3, vout_3), (5, str s_5), (8, vt_8), (9, .int .i64 t_9), (10, .int .i64 t_10), (25, vt_25), (26, .int .i64 t_26), (27, .int .i64 t_27)] w := fun {r} {l_0} {out_3} {s_5} {t_8} {t_9} {t_10} {t_25} {t_26} {t_27} {vl_0} {vout_3} {vt_8} {vt_25} hS {w} {A} hb hA hi hH hl_0 hout_3 dout_3 ht_8 ht_25 => ke_inLoop (ih hS hb hA hi hH hl_0 hout_3 dout_3 ht_8 ht_25)
  clear ih
  intro r l_0 out_3 s_5 t_8 t_9 t_10 t_25 t_26 t_27 vl_0 vout_3 vt_8 vt_25 hS w A hb hA hi hH hl_0 hout_3 dout_3 ht_8 ht_25
  unfold scope_Sorted_L3 at hS
  refine ke_seq ?_
  refine ke_region ?_
  refine sr_ev (v := .bool (decide (t_27 < t_26))) (ev_lt rfl rfl) (by decide) ?_
  refine sr_end (l' := [(0, vl_0), (3, vout_3), (5, str s_5), (8, vt_8), (9, .int .i64 t_9), (10, .int .i64 t_10), (25, vt_25), (26, .int .i64 t_26), (27, .int .i64 t_27), (28, .bool (decide (t_27 < t_26)))]) (.cons rfl (.cons rfl (.cons rfl (.cons rfl (.cons rfl (.cons rfl (.cons rfl (.cons rfl (.cons rfl (.cons rfl (.nil _))))))))))) ?_
  refine ke_seq ?_
  refine ke_cond (t := decide (t_27 < t_26)) rfl (fun hc37 => ?_) (fun hc37 => ?_)
  ·replace hS := ite_true' hS hc37
   refine ke_skip ?_
   refine ke_seq ?_
   refine ke_block ?_
   refine ke_seq ?_
   refine ke_region ?_
   obtain ⟨y38, hy39, hS⟩ := bind_some' hS
   refine sr_index ht_25 Try.underlying30 Try.info9 rfl rfl rfl hy39 (by decide) ?_
   intro b40 o41 cs43 he42
   obtain rfl : cs43 = [str y38] := he42.rd
   refine sr_ev (v := str y38) (ev_load Try.isAgg9 rfl (he42.cell 0 _ rfl)) (by decide) ?_
   refine sr_ev (v := str y38) (ev_assign rfl) (by decide) ?_
   refine sr_end (l' := [(0, vl_0), (3, vout_3), (5, str s_5), (7, str y38), (8, vt_8), (9, .int .i64 t_9), (10, .int .i64 t_10), (25, vt_25), (26, .int .i64 t_26), (27, .int .i64 t_27)]) (.cons rfl (.cons rfl (.cons rfl (.cons rfl (.cons rfl (.cons rfl (.cons rfl (.cons rfl (.cons rfl (.cons rfl (.nil _))))))))))) ?_
   refine ke_seq ?_
   refine ke_region ?_
   refine sr_ev (v := str y38) (ev_move rfl) (by decide) ?_
   refine sr_ev (v := str s_5) (ev_move rfl) (by decide) ?_
   refine sr_ev (v := .bool (!(y38 == s_5))) (ev_sne rfl rfl) (by decide) ?_
   refine sr_ev (v := .bool (!(y38 == s_5))) (ev_move rfl) (by decide) ?_
   obtain ⟨z46, hz48, hS⟩ := bind_some' hS
   refine sr_join (m := 4) (C := fun (x : Bool) w1 => z46 = x ∧ Below w.heap.size w w1) (l' := fun x => [(0, vl_0), (3, vout_3), (5, str s_5), (8, vt_8), (9, .int .i64 t_9), (10, .int .i64 t_10), (25, vt_25), (26, .int .i64 t_26), (27, .int .i64 t_27), (38, .bool x)]) ?_ ?_
   ·rintro _ w49 ⟨rfl, hbw50⟩
    replace hb := hb.trans (hbw50.mono hb.size)
    replace hA := lt_mono hA hbw50.size
    replace hH := hH.below hbw50
    replace hl_0 := hl_0.below hbw50
    replace hout_3 := hout_3.below hbw50
    replace ht_8 := ht_8.below hbw50
    replace ht_25 := ht_25.below hbw50
    refine sr_end (l' := [(0, vl_0), (3, vout_3), (5, str s_5), (8, vt_8), (9, .int .i64 t_9), (10, .int .i64 t_10), (25, vt_25), (26, .int .i64 t_26), (27, .int .i64 t_27), (38, .bool z46)]) (.cons rfl (.cons rfl (.cons rfl (.cons rfl (.cons rfl (.cons rfl (.cons rfl (.cons rfl (.cons rfl (.cons rfl (.nil _))))))))))) ?_
    refine ke_cond (t := z46) rfl (fun hc55 => ?_) (fun hc55 => ?_)
    ·replace hS := ite_true' hS hc55
     refine ke_exit (k' := _) rfl ?_
     have hK := scope_Sorted_B2_ok hg hA0 _ hr0 hS hb hA hi hH hl_0 hout_3 dout_3 ht_8
     exact ke_weaken (l' := [(0, vl_0), (3, vout_3), (8, vt_8), (9, .int .i64 t_9), (10, .int .i64 t_10)]) (.cons rfl (.cons rfl (.cons rfl (.cons rfl (.cons rfl (.nil _)))))) hK
    ·replace hS := ite_false' hS hc55
     refine ke_skip ?_
     refine ke_inBlock ?_
     refine ke_region ?_
     refine sr_ev (v := .int .i64 (IntKind.i64.wrap (t_27 + 1))) (ev_add rfl rfl) (by decide) ?_
     refine sr_ev (v := .int .i64 (IntKind.i64.wrap (t_27 + 1))) (ev_move rfl) (by decide) ?_
     refine sr_end (l' := [(0, vl_0), (3, vout_3), (5, str s_5), (8, vt_8), (9, .int .i64 t_9), (10, .int .i64 t_10), (25, vt_25), (26, .int .i64 t_26), (27, .int .i64 (IntKind.i64.wrap (t_27 + 1)))]) (.cons rfl (.cons rfl (.cons rfl (.cons rfl (.cons rfl (.cons rfl (.cons rfl (.cons rfl (.cons rfl (.nil _)))))))))) ?_
     have hK := hr1 hS hb hA hi hH hl_0 hout_3 dout_3 ht_8 ht_25
     exact ke_weaken (l' := [(0, vl_0), (3, vout_3), (5, str s_5), (8, vt_8), (9, .int .i64 t_9), (10, .int .i64 t_10), (25, vt_25), (26, .int .i64 t_26), (27, .int .i64 (IntKind.i64.wrap (t_27 + 1)))]) (.cons rfl (.cons rfl (.cons rfl (.cons rfl (.cons rfl (.cons rfl (.cons rfl (.cons rfl (.cons rfl (.nil _)))))))))) hK
   ·intro K45
    clear hS
    have hj47 := Below.refl w.heap.size w
    rcases Bool.eq_false_or_eq_true (!(y38 == s_5)) with hg44 | hg44
    ·have hS := ite_true' hz48 hg44
     refine sr_evg (b := true) (e := 34) rfl rfl hg44 (v := str y38) (ev_move rfl) (by decide) ?_
     refine sr_evg (b := true) (e := 34) rfl rfl hg44 (v := str s_5) (ev_move rfl) (by decide) ?_
     obtain ⟨y51, hy52, hS⟩ := bind_some' hS
     refine sr_callg (b := true) (e := 34) rfl rfl hg44 (vs := [str y38, str s_5]) rfl Try.call45 rfl (scope_Implies_ok _ (hg.below hb) hy52) (by decide) ?_
     rintro _ w53 ⟨rfl, hbw54⟩
     replace hb := hb.trans (hbw54.mono hb.size)
     replace hj47 := hj47.trans (hbw54.mono hj47.size)
     replace hA := lt_mono hA hbw54.size
     replace hH := hH.below hbw54
     replace hl_0 := hl_0.below hbw54
     replace hout_3 := hout_3.below hbw54
     replace ht_8 := ht_8.below hbw54
     replace ht_25 := ht_25.below hbw54
     refine sr_ev (v := .bool y51) (ev_pick_t rfl hg44 rfl) (by decide) ?_
     exact sr_weaken (l' := [(0, vl_0), (3, vout_3), (5, str s_5), (8, vt_8), (9, .int .i64 t_9), (10, .int .i64 t_10), (25, vt_25), (26, .int .i64 t_26), (27, .int .i64 t_27), (38, .bool y51)]) (.cons rfl (.cons rfl (.cons rfl (.cons rfl (.cons rfl (.cons rfl (.cons rfl (.cons rfl (.cons rfl (.cons rfl (.nil _))))))))))) (K45 y51 _ ⟨(Option.some.inj hS).symm, hj47⟩)
    ·have hS := ite_false' hz48 hg44
     refine sr_pass (e := 34) rfl rfl (by rw [hg44]; rfl) (by decide) ?_
     refine sr_pass (e := 34) rfl rfl (by rw [hg44]; rfl) (by decide) ?_
     refine sr_pass (e := 34) rfl rfl (by rw [hg44]; rfl) (by decide) ?_
     refine sr_ev (v := .bool false) (ev_pick_f rfl hg44 rfl) (by decide) ?_
     exact sr_weaken (l' := [(0, vl_0), (3, vout_3), (5, str s_5), (8, vt_8), (9, .int .i64 t_9), (10, .int .i64 t_10), (25, vt_25), (26, .int .i64 t_26), (27, .int .i64 t_27), (38, .bool false)]) (.cons rfl (.cons rfl (.cons rfl (.cons rfl (.cons rfl (.cons rfl (.cons rfl (.cons rfl (.cons rfl (.cons rfl (.nil _))))))))))) (K45 false _ ⟨(Option.some.inj hS).symm, hj47⟩)
  ·replace hS := ite_false' hS hc37
   refine ke_exit (k' := _) rfl ?_
   refine ke_region ?_
   refine sr_ev (v := vout_3) (ev_move rfl) (by decide) ?_
   refine sr_ev (v := str s_5) (ev_move rfl) (by decide) ?_
   refine sr_lit (c := strC) (A := A) (E := 9) (xs := [s_5]) (vs := #[(0, str s_5)]) (cs := #[str s_5]) (css := [[str s_5]]) rfl (fun _ => by kernel_rfl) rfl ⟨rfl, trivial⟩ rfl (by decide) hA (by decide) ?_
   intro v56 w58 h57 hbw59
   replace hb := hb.trans (hbw59.mono hb.size)
   replace hA := lt_mono hA hbw59.size
   replace hH := hH.below hbw59
   replace hl_0 := hl_0.below hbw59
   replace ht_8 := ht_8.below hbw59
   replace hout_3 := hout_3.below hbw59
   obtain ⟨hk60, hS⟩ := chk_some hS
   refine sr_append (c := strC) (A := A) (B := w0.heap.size) (E := 9) (xs := out_3) (ys := ([s_5] : List Str)) hout_3 h57 Try.underlying30 Try.info9 rfl rfl rfl (by decide) (by decide) hA hb.size hk60 rfl rfl (by decide) ?_
   intro v61 A63 w64 h62 hst65 hbB66 hinc67 hA1 hoth68 hold
   have dj69 : Dj v61 [] := fun p hp e => by rcases hold _ e with h | h; exact dout_3 p hp h; have := hH.lt hp; omega
   replace hb := hb.trans hbB66
   replace hi := fun b hb => hinc67 b (hi b hb)
   replace hH := hH.keep hinc67 (fun p hp => hoth68 _ (hH.lt hp) (dout_3 p hp))
   replace hA := hA1
   clear hA1
   replace hl_0 := hl_0.step hst65
   replace ht_8 := ht_8.step hst65
   refine sr_ev (v := v61) (ev_assign rfl) (by decide) ?_
   refine sr_end (l' := [(0, vl_0), (3, v61), (8, vt_8), (9, .int .i64 t_9), (10, .int .i64 t_10)]) (.cons rfl (.cons rfl (.cons rfl (.cons rfl (.cons rfl (.nil _)))))) ?_
   refine ke_inBlock ?_
   have hK := scope_Sorted_B2_ok hg hA0 _ hr0 hS hb hA hi hH hl_0 h62 dj69 ht_8
   exact ke_weaken (l' := [(0, vl_0), (3, v61), (8, vt_8), (9, .int .i64 t_9), (10, .int .i64 t_10)]) (.cons rfl (.cons rfl (.cons rfl (.cons rfl (.cons rfl (.nil _)))))) hK
theorem scope_Sorted_L1_ok {w0 : World} (hg : Gs w0) {A0 : Nat → Prop} (hA0 : ∀ b, A0 b → b < w0.heap.size) : ∀ (n : Nat), ∀ {r : List Str} {l_0 : List Str} {out_3 : List Str} {t_8 : List Str} {t_9 : Int} {t_10 : Int} {vl_0 : Value} {vout_3 : Value} {vt_8 : Value}, scope_Sorted_L1 n l_0 out_3 t_8 t_9 t_10 = some r → ∀ {w : World} {A : Nat → Prop}, (Below w0.heap.size w0 w) → (∀ b, A b → b < w.heap.size) → (∀ b, A0 b → A b) → (Hp A w0.heap.size w []) → (SlR strC A w vl_0 l_0) → (OwnS strC 9 A w0.heap.size w vout_3 out_3) → (Dj vout_3 []) → (SlR strC A w vt_8 t_8) → KE Try.prog 24 (Ret (fun v w' => ∃ x1, v = x1 ∧ SlR strC A0 w' x1 r ∧ Below w0.heap.size w0 w')) 48 [.code (sub (bodyOf Try.f24) [2, 1, 2, 2, 1, 2, 2, 1]), .inLoop (sub (bodyOf Try.f24) [2, 1, 2, 2, 1, 2, 2, 1]), .inBlock 0, .code (sub (bodyOf Try.f24) [2, 1, 2, 2, 2]), .inScope (sub (bodyOf Try.f24) [2, 1])] [(0, vl_0), (3, vout_3), (8, vt_8), (9, .int .i64 t_9), (10, .int .i64 t_10)] w := by
 intro n
 induction n with
 | zero => intro r l_0 out_3 t_8 t_9 t_10 vl_0 vout_3 vt_8 hS; cases hS
 | succ n ih =>
  have hr0 : ∀ {r : List Str} {l_0 : List Str} {out_3 : List Str} {t_8 : List Str} {t_9 : Int} {t_10 : Int} {vl_0 : Value} {vout_3 : Value} {vt_8 : Value}, scope_Sorted_L1 n l_0 out_3 t_8 t_9 t_10 = some r → ∀ {w : World} {A : Nat → Prop}, (Below w0.heap.size w0 w) → (∀ b, A b → b < w.heap.size) → (∀ b, A0 b → A b) → (Hp A w0.heap.size w []) → (SlR strC A w vl_0 l_0) → (OwnS strC 9 A w0.heap.size w vout_3 out_3) → (Dj vout_3 []) → (SlR strC A w vt_8 t_8) → KE Try.prog 24 (Ret (fun v w' => ∃ x1, v = x1 ∧ SlR strC A0 w' x1 r ∧ Below w0.heap.size w0 w')) 48 [.inLoop (sub (bodyOf Try.f24) [2, 1, 2, 2, 1, 2, 2, 1]), .inBlock 0, .code (sub (bodyOf Try.f24) [2, 1, 2, 2, 2]), .inScope (sub (bodyOf Try.f24) [2, 1])] [(0, vl_0), (3, vout_3), (8, vt_8), (9, .int .i64 t_9), (10, .int .i64 t_10)] w := fun {r} {l_0} {out_3} {t_8} {t_9} {t_10} {vl_0} {vout_3} {vt_8} hS {w} {A} hb hA hi hH hl_0 hout_3 dout_3 ht_8 => ke_inLoop (ih hS hb hA hi hH hl_0 hout_3 dout_3 ht_8)
  clear ih
  intro r l_0 out_3 t_8 t_9 t_10 vl_0 vout_3 vt_8 hS w A hb hA hi hH hl_0 hout_3 dout_3 ht_8
  unfold scope_Sorted_L1 at hS
  refine ke_seq ?_
  refine ke_region ?_
  refine sr_ev (v := .bool (decide (t_10 < t_9))) (ev_lt rfl rfl) (by decide) ?_
  refine sr_end (l' := [(0, vl_0), (3, vout_3), (8, vt_8), (9, .int .i64 t_9), (10, .int .i64 t_10), (11, .bool (decide (t_10 < t_9)))]) (.cons rfl (.cons rfl (.cons rfl (.cons rfl (.cons rfl (.cons rfl (.nil _))))))) ?_
  refine ke_seq ?_
  refine ke_cond (t := decide (t_10 < t_9)) rfl (fun hc7 => ?_) (fun hc7 => ?_)
  ·replace hS := ite_true' hS hc7
   refine ke_skip ?_
   refine ke_seq ?_
   refine ke_block ?_
   refine ke_seq ?_
   refine ke_region ?_
   refine sr_ev (v := .int .i64 t_10) (ev_move rfl) (by decide) ?_
   obtain ⟨y8, hy9, hS⟩ := bind_some' hS
   refine sr_index ht_8 Try.underlying30 Try.info9 rfl rfl rfl hy9 (by decide) ?_
   intro b10 o11 cs13 he12
   obtain rfl : cs13 = [str y8] := he12.rd
   refine sr_ev (v := str y8) (ev_load Try.isAgg9 rfl (he12.cell 0 _ rfl)) (by decide) ?_
   refine sr_ev (v := .int .i64 t_10) (ev_assign rfl) (by decide) ?_
   refine sr_ev (v := str y8) (ev_assign rfl) (by decide) ?_
   refine sr_end (l' := [(0, vl_0), (3, vout_3), (4, .int .i64 t_10), (5, str y8), (8, vt_8), (9, .int .i64 t_9), (10, .int .i64 t_10)]) (.cons rfl (.cons rfl (.cons rfl (.cons rfl (.cons rfl (.cons rfl (.cons rfl (.nil _)))))))) ?_
   refine ke_seq ?_
   refine ke_seq ?_
   refine ke_region ?_
   refine sr_ev (v := str y8) (ev_move rfl) (by decide) ?_
   obtain ⟨y14, hy15, hS⟩ := bind_some' hS
   refine sr_call (vs := [str y8]) rfl Try.call43 rfl (scope_valid_ok _ (hg.below hb) hy15) (by decide) ?_
   rintro _ w16 ⟨rfl, hbw17⟩
   replace hb := hb.trans (hbw17.mono hb.size)
   replace hA := lt_mono hA hbw17.size
   replace hH := hH.below hbw17
   replace hl_0 := hl_0.below hbw17
   replace hout_3 := hout_3.below hbw17
   replace ht_8 := ht_8.below hbw17
   refine sr_ev (v := .bool (!y14)) (ev_not rfl) (by decide) ?_
   refine sr_ev (v := .bool (!y14)) (ev_move rfl) (by decide) ?_
   obtain ⟨z20, hz22, hS⟩ := bind_some' hS
   refine sr_join (m := 6) (C := fun (x : Bool) w1 => z20 = x ∧ Below w16.heap.size w16 w1) (l' := fun x => [(0, vl_0), (3, vout_3), (5, str y8), (8, vt_8), (9, .int .i64 t_9), (10, .int .i64 t_10), (24, .bool x)]) ?_ ?_
   ·rintro _ w23 ⟨rfl, hbw24⟩
    replace hb := hb.trans (hbw24.mono hb.size)
    replace hA := lt_mono hA hbw24.size
    replace hH := hH.below hbw24
    replace hl_0 := hl_0.below hbw24
    replace hout_3 := hout_3.below hbw24
    replace ht_8 := ht_8.below hbw24
    refine sr_end (l' := [(0, vl_0), (3, vout_3), (5, str y8), (8, vt_8), (9, .int .i64 t_9), (10, .int .i64 t_10), (24, .bool z20)]) (.cons rfl (.cons rfl (.cons rfl (.cons rfl (.cons rfl (.cons rfl (.cons rfl (.nil _)))))))) ?_
    refine ke_cond (t := z20) rfl (fun hc32 => ?_) (fun hc32 => ?_)
    ·replace hS := ite_true' hS hc32
     refine ke_exit (k' := _) rfl ?_
     have hK := scope_Sorted_B2_ok hg hA0 _ hr0 hS hb hA hi hH hl_0 hout_3 dout_3 ht_8
     exact ke_weaken (l' := [(0, vl_0), (3, vout_3), (8, vt_8), (9, .int .i64 t_9), (10, .int .i64 t_10)]) (.cons rfl (.cons rfl (.cons rfl (.cons rfl (.cons rfl (.nil _)))))) hK
    ·replace hS := ite_false' hS hc32
     refine ke_skip ?_
     refine ke_seq ?_
     refine ke_seq ?_
     refine ke_region ?_
     refine sr_ev (v := vl_0) (ev_move rfl) (by decide) ?_
     refine sr_ev (v := .int .i64 (l_0.length : Int)) (ev_sllen Try.underlying30 rfl hl_0) (by decide) ?_
     refine sr_ev (v := .int .i64 0) (ev_move rfl) (by decide) ?_
     refine sr_end (l' := [(0, vl_0), (3, vout_3), (5, str y8), (8, vt_8), (9, .int .i64 t_9), (10, .int .i64 t_10), (25, vl_0), (26, .int .i64 (l_0.length : Int)), (27, .int .i64 0)]) (.cons rfl (.cons rfl (.cons rfl (.cons rfl (.cons rfl (.cons rfl (.cons rfl (.cons rfl (.cons rfl (.nil _)))))))))) ?_
     refine ke_block ?_
     have hK := scope_Sorted_L3_ok hg hA0 _ hr0 _ hS hb hA hi hH hl_0 hout_3 dout_3 ht_8 hl_0
     exact ke_weaken (l' := [(0, vl_0), (3, vout_3), (5, str y8), (8, vt_8), (9, .int .i64 t_9), (10, .int .i64 t_10), (25, vl_0), (26, .int .i64 (l_0.length : Int)), (27, .int .i64 0)]) (.cons rfl (.cons rfl (.cons rfl (.cons rfl (.cons rfl (.cons rfl (.cons rfl (.cons rfl (.cons rfl (.nil _)))))))))) (ke_loop hK)
   ·intro K19
    clear hS
    have hj21 := Below.refl w16.heap.size w16
    rcases Bool.eq_false_or_eq_true (!y14) with hg18 | hg18
    ·have hS := ite_true' hz22 hg18
     refine sr_pass (e := 18) rfl rfl (by rw [hg18]; rfl) (by decide) ?_
     refine sr_pass (e := 18) rfl rfl (by rw [hg18]; rfl) (by decide) ?_
     refine sr_pass (e := 18) rfl rfl (by rw [hg18]; rfl) (by decide) ?_
     refine sr_pass (e := 18) rfl rfl (by rw [hg18]; rfl) (by decide) ?_
     refine sr_pass (e := 18) rfl rfl (by rw [hg18]; rfl) (by decide) ?_
     refine sr_ev (v := .bool true) (ev_pick_t rfl hg18 rfl) (by decide) ?_
     exact sr_weaken (l' := [(0, vl_0), (3, vout_3), (5, str y8), (8, vt_8), (9, .int .i64 t_9), (10, .int .i64 t_10), (24, .bool true)]) (.cons rfl (.cons rfl (.cons rfl (.cons rfl (.cons rfl (.cons rfl (.cons rfl (.nil _)))))))) (K19 true _ ⟨(Option.some.inj hS).symm, hj21⟩)
    ·have hS := ite_false' hz22 hg18
     refine sr_evg (b := false) (e := 18) rfl rfl hg18 (v := vl_0) (ev_move rfl) (by decide) ?_
     refine sr_evg (b := false) (e := 18) rfl rfl hg18 (v := .int .i64 t_10) (ev_move rfl) (by decide) ?_
     obtain ⟨hk25, hS⟩ := chk_some hS
     refine sr_unguard rfl rfl hg18 ?_
     refine sr_slice_h hl_0 Try.underlying30 Try.info9 rfl rfl rfl  hk25 (by decide) ?_
     intro v26 h27
     refine sr_evg (b := false) (e := 18) rfl rfl hg18 (v := str y8) (ev_move rfl) (by decide) ?_
     obtain ⟨y28, hy29, hS⟩ := bind_some' hS
     refine sr_callg (b := false) (e := 18) rfl rfl hg18 (vs := [v26, str y8]) rfl Try.call44 rfl (slices_Contains_string_string_ok _ (hg.below hb) h27 hy29) (by decide) ?_
     rintro _ w30 ⟨rfl, hbw31⟩
     replace hb := hb.trans (hbw31.mono hb.size)
     replace hj21 := hj21.trans (hbw31.mono hj21.size)
     replace hA := lt_mono hA hbw31.size
     replace hH := hH.below hbw31
     replace hl_0 := hl_0.below hbw31
     replace hout_3 := hout_3.below hbw31
     replace ht_8 := ht_8.below hbw31
     refine sr_ev (v := .bool y28) (ev_pick_f rfl hg18 rfl) (by decide) ?_
     exact sr_weaken (l' := [(0, vl_0), (3, vout_3), (5, str y8), (8, vt_8), (9, .int .i64 t_9), (10, .int .i64 t_10), (24, .bool y28)]) (.cons rfl (.cons rfl (.cons rfl (.cons rfl (.cons rfl (.cons rfl (.cons rfl (.nil _)))))))) (K19 y28 _ ⟨(Option.some.inj hS).symm, hj21⟩)
  ·replace hS := ite_false' hS hc7
   refine ke_exit (k' := _) rfl ?_
   refine ke_seq ?_
   refine ke_region ?_
   refine sr_ev (v := vout_3) (ev_move rfl) (by decide) ?_
   obtain ⟨y74, hy75, hS⟩ := bind_some' hS
   refine sr_call (vs := [vout_3]) rfl Try.call38 rfl (lib_Sort_ok hout_3 hb.size hy75) (by decide) ?_
   rintro _ w77 ⟨rfl, h76, hst78, hbB79, hoth80⟩
   replace hb := hb.trans hbB79
   replace hH := hH.keep (fun _ h => h) (fun p hp => hoth80 _ (hH.lt hp) (dout_3 p hp))
   replace hA := lt_mono hA hst78.size
   refine sr_end (l' := [(3, vout_3)]) (.cons rfl (.nil _)) ?_
   refine ke_seq ?_
   refine ke_region ?_
   refine sr_ev (v := vout_3) (ev_move rfl) (by decide) ?_
   refine sr_ev (v := vout_3) (ev_assign rfl) (by decide) ?_
   refine sr_end (l' := [(2, vout_3)]) (.cons rfl (.nil _)) ?_
   cases hS
   exact ke_ret1 Try.func24 rfl rfl ⟨_, rfl, _, rfl, h76.toSl (fun b hb => ⟨hi b hb, hA0 b hb⟩), hb⟩
theorem scope_Sorted_ok {A0 : Nat → Prop} (w0 : World) (hg : Gs w0) {l_0 : List Str} {v1 : Value} {r : List Str} (h2 : SlR strC A0 w0 v1 l_0) (hA0 : ∀ b, A0 b → b < w0.heap.size) (hS : scope_Sorted l_0 = some r) :
  Calls Try.prog 24 #[v1] w0 (Ret (fun v w' => ∃ x1, v = x1 ∧ SlR strC A0 w' x1 r ∧ Below w0.heap.size w0 w')) := by
 unfold scope_Sorted at hS
 have hb := Below.refl w0.heap.size w0
 have hA := hA0
 have hi : ∀ b, A0 b → A0 b := fun _ h => h
 have hH := Hp.nil A0 w0.heap.size w0
 refine calls_of_ke Try.func24 rfl (n := 48) rfl rfl (l := [(0, v1)]) rfl ?_
 refine ke_seq ?_
 refine ke_region ?_
 refine sr_ev (v := .slice none 0 0) (ev_assign rfl) (by decide) ?_
 refine sr_end (l' := [(0, v1)]) (.cons rfl (.nil _)) ?_
 refine ke_scope ?_
 refine ke_seq ?_
 refine ke_region ?_
 refine sr_ev (v := .slice none 0 0) (ev_assign rfl) (by decide) ?_
 refine sr_end (l' := [(0, v1), (3, .slice none 0 0)]) (.cons rfl (.cons rfl (.nil _))) ?_
 refine ke_seq ?_
 refine ke_label ?_
 refine ke_seq ?_
 refine ke_seq ?_
 refine ke_region ?_
 refine sr_ev (v := v1) (ev_move rfl) (by decide) ?_
 refine sr_ev (v := .int .i64 (l_0.length : Int)) (ev_sllen Try.underlying30 rfl h2) (by decide) ?_
 refine sr_ev (v := .int .i64 0) (ev_move rfl) (by decide) ?_
 refine sr_end (l' := [(0, v1), (3, .slice none 0 0), (8, v1), (9, .int .i64 (l_0.length : Int)), (10, .int .i64 0)]) (.cons rfl (.cons rfl (.cons rfl (.cons rfl (.cons rfl (.nil _)))))) ?_
 refine ke_block ?_
 have hK := scope_Sorted_L1_ok hg hA0 _ hS hb hA hi hH h2 OwnS.nil (Dj.nil _) h2
 exact ke_weaken (l' := [(0, v1), (3, (.slice none 0 0)), (8, v1), (9, .int .i64 (l_0.length : Int)), (10, .int .i64 0)]) (.cons rfl (.cons rfl (.cons rfl (.cons rfl (.cons rfl (.nil _)))))) (ke_loop hK)
theorem consent_Consents_Scopes_ok (w0 : World) (hg : Gs w0) {ρA : Tags} (hbd : ∀ b, ρA b ≠ 0 → b < w0.heap.size) (hz : Gz ρA) {τ0 : Nat → Nat} (hτ0 : ∀ p, 1 ≤ τ0 p) {c_0 : consent_Consents} {user_1 : Str} {client_2 : Str} {now_3 : Int} {gc_0 : Nat} {r : List Str} (ho0 : consent_Consents.O τ0 ρA w0 gc_0 c_0) (hS : consent_Consents_Scopes c_0 user_1 client_2 now_3 = some r) :
  Calls Try.prog 17 #[.pointer (some ⟨gc_0, 0, none⟩), str user_1, str client_2, .int .i64 now_3] w0 (Ret (fun v w' => ∃ x1, v = x1 ∧ SlR strC (Wb ρA) w' x1 r ∧ Below w0.heap.size w0 w')) := by
 unfold consent_Consents_Scopes at hS
 have hb := flat1_fr (ρ := ρA) (w := w0) hbd
 have hz := hz.flat1
 obtain ⟨v1, hB3, h2⟩ := ho0
 replace hB3 := hB3.mv (flat1_mv (hτ0 0))
 replace h2 := h2.mv (flat1_mv (hτ0 1))
 replace hB3 : Blk (flat1 ρA) 1 w0 gc_0 (.cells #[v1] 52 (0, 0)) := hB3
 replace h2 : MapT consent_pair.ek (mapC str (intC .i64) false) false (flat1 ρA) 1 w0 v1 c_0.pairs := h2
 refine calls_of_ke Try.func17 rfl (n := 18) rfl rfl (l := [(0, .pointer (some ⟨gc_0, 0, none⟩)), (1, str user_1), (2, str client_2), (3, .int .i64 now_3)]) rfl ?_
 refine ke_seq ?_
 refine ke_region ?_
 refine sr_ev (v := .slice none 0 0) (ev_assign rfl) (by decide) ?_
 refine sr_end (l' := [(0, .pointer (some ⟨gc_0, 0, none⟩)), (1, str user_1), (2, str client_2), (3, .int .i64 now_3)]) (.cons rfl (.cons rfl (.cons rfl (.cons rfl (.nil _))))) ?_
 refine ke_seq ?_
 refine ke_seq ?_
 refine ke_region ?_
 refine sr_ev (v := .pointer (some ⟨gc_0, 0, none⟩)) (ev_move rfl) (by decide) ?_
 refine sr_ev (v := .bool false) (ev_peqT_some Try.underlying25 rfl rfl) (by decide) ?_
 refine sr_end (l' := [(0, .pointer (some ⟨gc_0, 0, none⟩)), (1, str user_1), (2, str client_2), (3, .int .i64 now_3), (10, .bool false)]) (.cons rfl (.cons rfl (.cons rfl (.cons rfl (.cons rfl (.nil _)))))) ?_
 refine ke_cond (t := false) rfl (fun h => by cases h) (fun _ => ?_)
 refine ke_skip ?_
 refine ke_seq ?_
 refine ke_region ?_
 refine sr_ev (v := .pointer (some ⟨gc_0, 0, none⟩)) (ev_move rfl) (by decide) ?_
 refine sr_ev (v := str user_1) (ev_move rfl) (by decide) ?_
 refine sr_ev (v := str client_2) (ev_move rfl) (by decide) ?_
 refine sr_ev (v := .agg #[str user_1, str client_2]) (ev_build (vs := #[(0, str user_1), (1, str client_2)]) rfl (fun _ => by kernel_rfl)) (by decide) ?_
 refine sr_ev (v := .int .i64 now_3) (ev_move rfl) (by decide) ?_
 obtain ⟨y6, hy7, hS⟩ := bind_some' hS
 refine sr_call (vs := [.pointer (some ⟨gc_0, 0, none⟩), .agg #[str user_1, str client_2], .int .i64 now_3]) rfl Try.call34 rfl (consent_Consents_valid_ok (p_1 := (consent_pair.mk user_1 client_2)) _ (hg.fr hz hb) (ρA := (flat1 ρA)) hb.bd (hz.fr hg hb) (τ0 := (fun _ => 1)) (fun _ => Nat.le_refl 1) (⟨_, hB3, h2⟩ : consent_Consents.O (fun _ => 1) (flat1 ρA) w0 gc_0 c_0) hy7) (by decide) ?_
 rintro v13 w8 ⟨_, p11, rfl, hp12, h14, hbw9⟩
 have htr10 := Tr.of_below hbw9 hb.bd
 replace hS := permAny_some hS hp12
 replace hb := hb.trans htr10
 obtain ⟨y15, hy16, hS⟩ := bind_some' hS
 refine sr_call (vs := [v13]) rfl Try.call24 rfl (scope_Sorted_ok (A0 := Wb (flat1 ρA)) _ (hg.fr hz hb) h14 hb.bd hy16) (by decide) ?_
 rintro v20 w17 ⟨_, rfl, h21, hbw18⟩
 have htr19 := Tr.of_below hbw18 hb.bd
 replace hb := hb.trans htr19
 refine sr_ev (v := v20) (ev_assign rfl) (by decide) ?_
 refine sr_end (l' := [(8, v20)]) (.cons rfl (.nil _)) ?_
 cases hS
 exact ke_ret1 Try.func17 rfl rfl ⟨_, rfl, _, rfl, (SlR.mv h21 (flat1_back hb hbd)), (hb.below (flat1_le _))⟩
theorem scope_covered_L1_ok {w0 : World} (hg : Gs w0) {A0 : Nat → Prop} (hA0 : ∀ b, A0 b → b < w0.heap.size) : ∀ (n : Nat), ∀ {r : Bool} {s_0 : Str} {t_7 : List Str} {t_8 : Int} {t_9 : Int} {vt_7 : Value}, scope_covered_L1 n s_0 t_7 t_8 t_9 = some r → ∀ {w : World} {A : Nat → Prop}, (Below w0.heap.size w0 w) → (∀ b, A b → b < w.heap.size) → (∀ b, A0 b → A b) → (Hp A w0.heap.size w []) → (SlR strC A w vt_7 t_7) → KE Try.prog 65 (Ret (fun v w' => v = .bool r ∧ Below w0.heap.size w0 w')) 17 [.code (sub (bodyOf Try.f65) [2, 1, 2, 2, 1]), .inLoop (sub (bodyOf Try.f65) [2, 1, 2, 2, 1]), .inBlock 0, .code (sub (bodyOf Try.f65) [2, 2])] [(0, str s_0), (7, vt_7), (8, .int .i64 t_8), (9, .int .i64 t_9)] w := by
 intro n
 induction n with
 | zero => intro r s_0 t_7 t_8 t_9 vt_7 hS; cases hS
 | succ n ih =>
  have hr0 : ∀ {r : Bool} {s_0 : Str} {t_7 : List Str} {t_8 : Int} {t_9 : Int} {vt_7 : Value}, scope_covered_L1 n s_0 t_7 t_8 t_9 = some r → ∀ {w : World} {A : Nat → Prop}, (Below w0.heap.size w0 w) → (∀ b, A b → b < w.heap.size) → (∀ b, A0 b → A b) → (Hp A w0.heap.size w []) → (SlR strC A w vt_7 t_7) → KE Try.prog 65 (Ret (fun v w' => v = .bool r ∧ Below w0.heap.size w0 w')) 17 [.inLoop (sub (bodyOf Try.f65) [2, 1, 2, 2, 1]), .inBlock 0, .code (sub (bodyOf Try.f65) [2, 2])] [(0, str s_0), (7, vt_7), (8, .int .i64 t_8), (9, .int .i64 t_9)] w := fun {r} {s_0} {t_7} {t_8} {t_9} {vt_7} hS {w} {A} hb hA hi hH ht_7 => ke_inLoop (ih hS hb hA hi hH ht_7)
  clear ih
  intro r s_0 t_7 t_8 t_9 vt_7 hS w A hb hA hi hH ht_7
  unfold scope_covered_L1 at hS
  refine ke_seq ?_
  refine ke_region ?_
  refine sr_ev (v := .bool (decide (t_9 < t_8))) (ev_lt rfl rfl) (by decide) ?_
  refine sr_end (l' := [(0, str s_0), (7, vt_7), (8, .int .i64 t_8), (9, .int .i64 t_9), (10, .bool (decide (t_9 < t_8)))]) (.cons rfl (.cons rfl (.cons rfl (.cons rfl (.cons rfl (.nil _)))))) ?_
  refine ke_seq ?_
  refine ke_cond (t := decide (t_9 < t_8)) rfl (fun hc3 => ?_) (fun hc3 => ?_)
  ·replace hS := ite_true' hS hc3
   refine ke_skip ?_
   refine ke_seq ?_
   refine ke_block ?_
   refine ke_seq ?_
   refine ke_region ?_
   obtain ⟨y4, hy5, hS⟩ := bind_some' hS
   refine sr_index ht_7 Try.underlying30 Try.info9 rfl rfl rfl hy5 (by decide) ?_
   intro b6 o7 cs9 he8
   obtain rfl : cs9 = [str y4] := he8.rd
   refine sr_ev (v := str y4) (ev_load Try.isAgg9 rfl (he8.cell 0 _ rfl)) (by decide) ?_
   refine sr_ev (v := str y4) (ev_assign rfl) (by decide) ?_
   refine sr_end (l' := [(0, str s_0), (6, str y4), (7, vt_7), (8, .int .i64 t_8), (9, .int .i64 t_9)]) (.cons rfl (.cons rfl (.cons rfl (.cons rfl (.cons rfl (.nil _)))))) ?_
   refine ke_seq ?_
   refine ke_region ?_
   refine sr_ev (v := str y4) (ev_move rfl) (by decide) ?_
   refine sr_ev (v := str s_0) (ev_move rfl) (by decide) ?_
   obtain ⟨y10, hy11, hS⟩ := bind_some' hS
   refine sr_call (vs := [str y4, str s_0]) rfl Try.call45 rfl (scope_Implies_ok _ (hg.below hb) hy11) (by decide) ?_
   rintro _ w12 ⟨rfl, hbw13⟩
   replace hb := hb.trans (hbw13.mono hb.size)
   replace hA := lt_mono hA hbw13.size
   replace hH := hH.below hbw13
   replace ht_7 := ht_7.below hbw13
   refine sr_end (l' := [(0, str s_0), (7, vt_7), (8, .int .i64 t_8), (9, .int .i64 t_9), (15, .bool y10)]) (.cons rfl (.cons rfl (.cons rfl (.cons rfl (.cons rfl (.nil _)))))) ?_
   refine ke_cond (t := y10) rfl (fun hc14 => ?_) (fun hc14 => ?_)
   ·replace hS := ite_true' hS hc14
    refine ke_seq ?_
    refine ke_region ?_
    refine sr_ev (v := .bool true) (ev_assign rfl) (by decide) ?_
    refine sr_end (l' := [(4, .bool true)]) (.cons rfl (.nil _)) ?_
    cases hS
    exact ke_ret1 Try.func65 rfl rfl ⟨_, rfl, rfl, hb⟩
   ·replace hS := ite_false' hS hc14
    refine ke_skip ?_
    refine ke_inBlock ?_
    refine ke_region ?_
    refine sr_ev (v := .int .i64 (IntKind.i64.wrap (t_9 + 1))) (ev_add rfl rfl) (by decide) ?_
    refine sr_ev (v := .int .i64 (IntKind.i64.wrap (t_9 + 1))) (ev_move rfl) (by decide) ?_
    refine sr_end (l' := [(0, str s_0), (7, vt_7), (8, .int .i64 t_8), (9, .int .i64 (IntKind.i64.wrap (t_9 + 1)))]) (.cons rfl (.cons rfl (.cons rfl (.cons rfl (.nil _))))) ?_
    have hK := hr0 hS hb hA hi hH ht_7
    exact ke_weaken (l' := [(0, str s_0), (7, vt_7), (8, .int .i64 t_8), (9, .int .i64 (IntKind.i64.wrap (t_9 + 1)))]) (.cons rfl (.cons rfl (.cons rfl (.cons rfl (.nil _))))) hK
  ·replace hS := ite_false' hS hc3
   refine ke_exit (k' := _) rfl ?_
   refine ke_seq ?_
   refine ke_region ?_
   refine sr_ev (v := .bool false) (ev_assign rfl) (by decide) ?_
   refine sr_end (l' := [(4, .bool false)]) (.cons rfl (.nil _)) ?_
   cases hS
   exact ke_ret1 Try.func65 rfl rfl ⟨_, rfl, rfl, hb⟩
theorem scope_covered_ok {A0 : Nat → Prop} (w0 : World) (hg : Gs w0) {s_0 : Str} {l_1 : List Str} {v1 : Value} {r : Bool} (h2 : SlR strC A0 w0 v1 l_1) (hS : scope_covered s_0 l_1 = some r) :
  Calls Try.prog 65 #[str s_0, v1] w0 (Ret (fun v w' => v = .bool r ∧ Below w0.heap.size w0 w')) := by
 unfold scope_covered at hS
 have hb := Below.refl w0.heap.size w0
 replace h2 := h2.weak (A' := fun _ => False) (fun _ h => h.elim)
 obtain ⟨A0, hA0, hAe⟩ : ∃ A0 : Nat → Prop, (∀ b, A0 b → b < w0.heap.size) ∧ A0 = fun _ => False := ⟨_, fun _ h => h.elim, rfl⟩
 rw [← hAe] at h2
 clear hAe
 have hA := hA0
 have hi : ∀ b, A0 b → A0 b := fun _ h => h
 have hH := Hp.nil A0 w0.heap.size w0
 refine calls_of_ke Try.func65 rfl (n := 17) rfl rfl (l := [(0, str s_0), (1, v1)]) rfl ?_
 refine ke_seq ?_
 refine ke_region ?_
 refine sr_ev (v := .bool false) (ev_assign rfl) (by decide) ?_
 refine sr_end (l' := [(0, str s_0), (1, v1)]) (.cons rfl (.cons rfl (.nil _))) ?_
 refine ke_seq ?_
 refine ke_seq ?_
 refine ke_region ?_
 refine sr_ev (v := v1) (ev_move rfl) (by decide) ?_
 refine sr_ev (v := .int .i64 (l_1.length : Int)) (ev_sllen Try.underlying30 rfl h2) (by decide) ?_
 refine sr_ev (v := .int .i64 0) (ev_move rfl) (by decide) ?_
 refine sr_end (l' := [(0, str s_0), (7, v1), (8, .int .i64 (l_1.length : Int)), (9, .int .i64 0)]) (.cons rfl (.cons rfl (.cons rfl (.cons rfl (.nil _))))) ?_
 refine ke_block ?_
 have hK := scope_covered_L1_ok hg hA0 _ hS hb hA hi hH h2
 exact ke_weaken (l' := [(0, str s_0), (7, v1), (8, .int .i64 (l_1.length : Int)), (9, .int .i64 0)]) (.cons rfl (.cons rfl (.cons rfl (.cons rfl (.nil _))))) (ke_loop hK)
theorem scope_Within_L1_ok {w0 : World} (hg : Gs w0) {A0 : Nat → Prop} (hA0 : ∀ b, A0 b → b < w0.heap.size) : ∀ (n : Nat), ∀ {r : Bool} {b_1 : List Str} {t_7 : List Str} {t_8 : Int} {t_9 : Int} {vb_1 : Value} {vt_7 : Value}, scope_Within_L1 n b_1 t_7 t_8 t_9 = some r → ∀ {w : World} {A : Nat → Prop}, (Below w0.heap.size w0 w) → (∀ b, A b → b < w.heap.size) → (∀ b, A0 b → A b) → (Hp A w0.heap.size w []) → (SlR strC A w vb_1 b_1) → (SlR strC A w vt_7 t_7) → KE Try.prog 46 (Ret (fun v w' => v = .bool r ∧ Below w0.heap.size w0 w')) 18 [.code (sub (bodyOf Try.f46) [2, 1, 2, 2, 1]), .inLoop (sub (bodyOf Try.f46) [2, 1, 2, 2, 1]), .inBlock 0, .code (sub (bodyOf Try.f46) [2, 2])] [(1, vb_1), (7, vt_7), (8, .int .i64 t_8), (9, .int .i64 t_9)] w := by
 intro n
 induction n with
 | zero => intro r b_1 t_7 t_8 t_9 vb_1 vt_7 hS; cases hS
 | succ n ih =>
  have hr0 : ∀ {r : Bool} {b_1 : List Str} {t_7 : List Str} {t_8 : Int} {t_9 : Int} {vb_1 : Value} {vt_7 : Value}, scope_Within_L1 n b_1 t_7 t_8 t_9 = some r → ∀ {w : World} {A : Nat → Prop}, (Below w0.heap.size w0 w) → (∀ b, A b → b < w.heap.size) → (∀ b, A0 b → A b) → (Hp A w0.heap.size w []) → (SlR strC A w vb_1 b_1) → (SlR strC A w vt_7 t_7) → KE Try.prog 46 (Ret (fun v w' => v = .bool r ∧ Below w0.heap.size w0 w')) 18 [.inLoop (sub (bodyOf Try.f46) [2, 1, 2, 2, 1]), .inBlock 0, .code (sub (bodyOf Try.f46) [2, 2])] [(1, vb_1), (7, vt_7), (8, .int .i64 t_8), (9, .int .i64 t_9)] w := fun {r} {b_1} {t_7} {t_8} {t_9} {vb_1} {vt_7} hS {w} {A} hb hA hi hH hb_1 ht_7 => ke_inLoop (ih hS hb hA hi hH hb_1 ht_7)
  clear ih
  intro r b_1 t_7 t_8 t_9 vb_1 vt_7 hS w A hb hA hi hH hb_1 ht_7
  unfold scope_Within_L1 at hS
  refine ke_seq ?_
  refine ke_region ?_
  refine sr_ev (v := .bool (decide (t_9 < t_8))) (ev_lt rfl rfl) (by decide) ?_
  refine sr_end (l' := [(1, vb_1), (7, vt_7), (8, .int .i64 t_8), (9, .int .i64 t_9), (10, .bool (decide (t_9 < t_8)))]) (.cons rfl (.cons rfl (.cons rfl (.cons rfl (.cons rfl (.nil _)))))) ?_
  refine ke_seq ?_
  refine ke_cond (t := decide (t_9 < t_8)) rfl (fun hc5 => ?_) (fun hc5 => ?_)
  ·replace hS := ite_true' hS hc5
   refine ke_skip ?_
   refine ke_seq ?_
   refine ke_block ?_
   refine ke_seq ?_
   refine ke_region ?_
   obtain ⟨y6, hy7, hS⟩ := bind_some' hS
   refine sr_index ht_7 Try.underlying30 Try.info9 rfl rfl rfl hy7 (by decide) ?_
   intro b8 o9 cs11 he10
   obtain rfl : cs11 = [str y6] := he10.rd
   refine sr_ev (v := str y6) (ev_load Try.isAgg9 rfl (he10.cell 0 _ rfl)) (by decide) ?_
   refine sr_ev (v := str y6) (ev_assign rfl) (by decide) ?_
   refine sr_end (l' := [(1, vb_1), (6, str y6), (7, vt_7), (8, .int .i64 t_8), (9, .int .i64 t_9)]) (.cons rfl (.cons rfl (.cons rfl (.cons rfl (.cons rfl (.nil _)))))) ?_
   refine ke_seq ?_
   refine ke_region ?_
   refine sr_ev (v := str y6) (ev_move rfl) (by decide) ?_
   refine sr_ev (v := vb_1) (ev_move rfl) (by decide) ?_
   obtain ⟨y12, hy13, hS⟩ := bind_some' hS
   refine sr_call (vs := [str y6, vb_1]) rfl Try.call65 rfl (scope_covered_ok _ (hg.below hb) hb_1 hy13) (by decide) ?_
   rintro _ w14 ⟨rfl, hbw15⟩
   replace hb := hb.trans (hbw15.mono hb.size)
   replace hA := lt_mono hA hbw15.size
   replace hH := hH.below hbw15
   replace hb_1 := hb_1.below hbw15
   replace ht_7 := ht_7.below hbw15
   refine sr_ev (v := .bool (!y12)) (ev_not rfl) (by decide) ?_
   refine sr_end (l' := [(1, vb_1), (7, vt_7), (8, .int .i64 t_8), (9, .int .i64 t_9), (16, .bool (!y12))]) (.cons rfl (.cons rfl (.cons rfl (.cons rfl (.cons rfl (.nil _)))))) ?_
   refine ke_cond (t := !y12) rfl (fun hc16 => ?_) (fun hc16 => ?_)
   ·replace hS := ite_true' hS hc16
    refine ke_seq ?_
    refine ke_region ?_
    refine sr_ev (v := .bool false) (ev_assign rfl) (by decide) ?_
    refine sr_end (l' := [(4, .bool false)]) (.cons rfl (.nil _)) ?_
    cases hS
    exact ke_ret1 Try.func46 rfl rfl ⟨_, rfl, rfl, hb⟩
   ·replace hS := ite_false' hS hc16
    refine ke_skip ?_
    refine ke_inBlock ?_
    refine ke_region ?_
    refine sr_ev (v := .int .i64 (IntKind.i64.wrap (t_9 + 1))) (ev_add rfl rfl) (by decide) ?_
    refine sr_ev (v := .int .i64 (IntKind.i64.wrap (t_9 + 1))) (ev_move rfl) (by decide) ?_
    refine sr_end (l' := [(1, vb_1), (7, vt_7), (8, .int .i64 t_8), (9, .int .i64 (IntKind.i64.wrap (t_9 + 1)))]) (.cons rfl (.cons rfl (.cons rfl (.cons rfl (.nil _))))) ?_
    have hK := hr0 hS hb hA hi hH hb_1 ht_7
    exact ke_weaken (l' := [(1, vb_1), (7, vt_7), (8, .int .i64 t_8), (9, .int .i64 (IntKind.i64.wrap (t_9 + 1)))]) (.cons rfl (.cons rfl (.cons rfl (.cons rfl (.nil _))))) hK
  ·replace hS := ite_false' hS hc5
   refine ke_exit (k' := _) rfl ?_
   refine ke_seq ?_
   refine ke_region ?_
   refine sr_ev (v := .bool true) (ev_assign rfl) (by decide) ?_
   refine sr_end (l' := [(4, .bool true)]) (.cons rfl (.nil _)) ?_
   cases hS
   exact ke_ret1 Try.func46 rfl rfl ⟨_, rfl, rfl, hb⟩
theorem scope_Within_ok {A0 : Nat → Prop} (w0 : World) (hg : Gs w0) {a_0 : List Str} {b_1 : List Str} {v1 : Value} {v3 : Value} {r : Bool} (h2 : SlR strC A0 w0 v1 a_0) (h4 : SlR strC A0 w0 v3 b_1) (hS : scope_Within a_0 b_1 = some r) :
  Calls Try.prog 46 #[v1, v3] w0 (Ret (fun v w' => v = .bool r ∧ Below w0.heap.size w0 w')) := by
 unfold scope_Within at hS
 have hb := Below.refl w0.heap.size w0
 replace h2 := h2.weak (A' := fun _ => False) (fun _ h => h.elim)
 replace h4 := h4.weak (A' := fun _ => False) (fun _ h => h.elim)
 obtain ⟨A0, hA0, hAe⟩ : ∃ A0 : Nat → Prop, (∀ b, A0 b → b < w0.heap.size) ∧ A0 = fun _ => False := ⟨_, fun _ h => h.elim, rfl⟩
 rw [← hAe] at h2
 rw [← hAe] at h4
 clear hAe
 have hA := hA0
 have hi : ∀ b, A0 b → A0 b := fun _ h => h
 have hH := Hp.nil A0 w0.heap.size w0
 refine calls_of_ke Try.func46 rfl (n := 18) rfl rfl (l := [(0, v1), (1, v3)]) rfl ?_
 refine ke_seq ?_
 refine ke_region ?_
 refine sr_ev (v := .bool false) (ev_assign rfl) (by decide) ?_
 refine sr_end (l' := [(0, v1), (1, v3)]) (.cons rfl (.cons rfl (.nil _))) ?_
 refine ke_seq ?_
 refine ke_seq ?_
 refine ke_region ?_
 refine sr_ev (v := v1) (ev_move rfl) (by decide) ?_
 refine sr_ev (v := .int .i64 (a_0.length : Int)) (ev_sllen Try.underlying30 rfl h2) (by decide) ?_
 refine sr_ev (v := .int .i64 0) (ev_move rfl) (by decide) ?_
 refine sr_end (l' := [(1, v3), (7, v1), (8, .int .i64 (a_0.length : Int)), (9, .int .i64 0)]) (.cons rfl (.cons rfl (.cons rfl (.cons rfl (.nil _))))) ?_
 refine ke_block ?_
 have hK := scope_Within_L1_ok hg hA0 _ hS hb hA hi hH h4 h2
 exact ke_weaken (l' := [(1, v3), (7, v1), (8, .int .i64 (a_0.length : Int)), (9, .int .i64 0)]) (.cons rfl (.cons rfl (.cons rfl (.cons rfl (.nil _))))) (ke_loop hK)
theorem consent_Consents_Covers_ok (w0 : World) (hg : Gs w0) {ρA : Tags} (hbd : ∀ b, ρA b ≠ 0 → b < w0.heap.size) (hz : Gz ρA) {τ0 : Nat → Nat} (hτ0 : ∀ p, 1 ≤ τ0 p) {c_0 : consent_Consents} {user_1 : Str} {client_2 : Str} {scopes_3 : List Str} {now_4 : Int} {v4 : Value} {gc_0 : Nat} {r : Bool} (h5 : SlR strC (Wb ρA) w0 v4 scopes_3) (ho0 : consent_Consents.O τ0 ρA w0 gc_0 c_0) (hS : consent_Consents_Covers c_0 user_1 client_2 scopes_3 now_4 = some r) :
  Calls Try.prog 25 #[.pointer (some ⟨gc_0, 0, none⟩), str user_1, str client_2, v4, .int .i64 now_4] w0 (Ret (fun v w' => v = .bool r ∧ Below w0.heap.size w0 w')) := by
 unfold consent_Consents_Covers at hS
 have hb := flat1_fr (ρ := ρA) (w := w0) hbd
 have hz := hz.flat1
 replace h5 := SlR.mv h5 flat1_rd
 obtain ⟨v1, hB3, h2⟩ := ho0
 replace hB3 := hB3.mv (flat1_mv (hτ0 0))
 replace h2 := h2.mv (flat1_mv (hτ0 1))
 replace hB3 : Blk (flat1 ρA) 1 w0 gc_0 (.cells #[v1] 52 (0, 0)) := hB3
 replace h2 : MapT consent_pair.ek (mapC str (intC .i64) false) false (flat1 ρA) 1 w0 v1 c_0.pairs := h2
 refine calls_of_ke Try.func25 rfl (n := 29) rfl rfl (l := [(0, .pointer (some ⟨gc_0, 0, none⟩)), (1, str user_1), (2, str client_2), (3, v4), (4, .int .i64 now_4)]) rfl ?_
 refine ke_seq ?_
 refine ke_region ?_
 refine sr_ev (v := .bool false) (ev_assign rfl) (by decide) ?_
 refine sr_end (l' := [(0, .pointer (some ⟨gc_0, 0, none⟩)), (1, str user_1), (2, str client_2), (3, v4), (4, .int .i64 now_4)]) (.cons rfl (.cons rfl (.cons rfl (.cons rfl (.cons rfl (.nil _)))))) ?_
 refine ke_seq ?_
 refine ke_region ?_
 refine sr_ev (v := .pointer (some ⟨gc_0, 0, none⟩)) (ev_move rfl) (by decide) ?_
 refine sr_ev (v := .bool true) (ev_pneT_some Try.underlying25 rfl rfl) (by decide) ?_
 refine sr_ev (v := .bool true) (ev_move rfl) (by decide) ?_
 refine sr_evg (b := true) (e := 13) rfl rfl rfl (v := .pointer (some ⟨gc_0, 0, none⟩)) (ev_move rfl) (by decide) ?_
 refine sr_evg (b := true) (e := 13) rfl rfl rfl (v := .pointer (some ⟨gc_0, 0, none⟩)) (ev_nilCheck rfl) (by decide) ?_
 refine sr_evg (b := true) (e := 13) rfl rfl rfl (v := .pointer (some ⟨gc_0, 0, none⟩)) (ev_fieldAddr (i := 0) Try.underlying52 rfl Try.info50 rfl rfl) (by decide) ?_
 refine sr_evg (b := true) (e := 13) rfl rfl rfl (v := v1) (ev_load Try.isAgg50 rfl (hB3.cell rfl)) (by decide) ?_
 refine sr_evg (b := true) (e := 13) rfl rfl rfl (v := .bool (!c_0.pairs.isNone)) (ev_mapNe h2 Try.underlying50 w0 rfl rfl) (by decide) ?_
 refine sr_ev (v := .bool (!c_0.pairs.isNone)) (ev_pick_t rfl rfl rfl) (by decide) ?_
 refine sr_ev (v := .bool (!c_0.pairs.isNone)) (ev_move rfl) (by decide) ?_
 obtain ⟨z8, hz10, hS⟩ := bind_some' hS
 refine sr_join (m := 8) (C := fun (z : Bool) w1 => z8 = z ∧ ∃ ρ1, Tr (flat1 ρA) w0 (fun _ => false) ρ1 w1) (l' := fun z => [(28, .bool z)]) ?_ ?_
 ·rintro _ w11 ⟨rfl, ρ12, hj9⟩
  replace hb := hb.trans hj9
  refine sr_ev (v := .bool z8) (ev_assign rfl) (by decide) ?_
  refine sr_end (l' := [(10, .bool z8)]) (.cons rfl (.nil _)) ?_
  cases hS
  exact ke_ret1 Try.func25 rfl rfl ⟨_, rfl, rfl, (hb.below (flat1_le _))⟩
 ·intro K7
  clear hS
  have hj9 : Tr (flat1 ρA) w0 (fun _ => false) (flat1 ρA) w0 := (Tr.refl hb.bd).weak (fun _ _ => rfl) rfl rfl
  rcases Bool.eq_false_or_eq_true (!c_0.pairs.isNone) with hg6 | hg6
  ·have hS := ite_true' hz10 hg6
   refine sr_evg (b := true) (e := 20) rfl rfl hg6 (v := v4) (ev_move rfl) (by decide) ?_
   refine sr_evg (b := true) (e := 20) rfl rfl hg6 (v := .pointer (some ⟨gc_0, 0, none⟩)) (ev_move rfl) (by decide) ?_
   refine sr_evg (b := true) (e := 20) rfl rfl hg6 (v := str user_1) (ev_move rfl) (by decide) ?_
   refine sr_evg (b := true) (e := 20) rfl rfl hg6 (v := str client_2) (ev_move rfl) (by decide) ?_
   refine sr_evg (b := true) (e := 20) rfl rfl hg6 (v := .int .i64 now_4) (ev_move rfl) (by decide) ?_
   obtain ⟨y14, hy15, hS⟩ := bind_some' hS
   refine sr_callg (b := true) (e := 20) rfl rfl hg6 (vs := [.pointer (some ⟨gc_0, 0, none⟩), str user_1, str client_2, .int .i64 now_4]) rfl Try.call17 rfl (consent_Consents_Scopes_ok _ (hg.fr hz hb) (ρA := (flat1 ρA)) hb.bd (hz.fr hg hb) (τ0 := (fun _ => 1)) (fun _ => Nat.le_refl 1) (⟨_, hB3, h2⟩ : consent_Consents.O (fun _ => 1) (flat1 ρA) w0 gc_0 c_0) hy15) (by decide) ?_
   rintro v19 w16 ⟨_, rfl, h20, hbw17⟩
   have htr18 := Tr.of_below hbw17 hb.bd
   replace h5 := h5.mv htr18.rd
   replace hb := hb.trans htr18
   replace hj9 := (hj9.trans htr18).weak (J' := (fun _ => false)) (by intro t h; simp [rng] at h ⊢ <;> omega) rfl rfl
   obtain ⟨y21, hy22, hS⟩ := bind_some' hS
   refine sr_callg (b := true) (e := 20) rfl rfl hg6 (vs := [v4, v19]) rfl Try.call46 rfl (scope_Within_ok _ (hg.fr hz hb) h5.asSl h20.asSl hy22) (by decide) ?_
   rintro _ w23 ⟨rfl, hbw24⟩
   have htr25 := Tr.of_below hbw24 hb.bd
   replace hb := hb.trans htr25
   replace hj9 := (hj9.trans htr25).weak (J' := (fun _ => false)) (by intro t h; simp [rng] at h ⊢ <;> omega) rfl rfl
   refine sr_ev (v := .bool y21) (ev_pick_t rfl hg6 rfl) (by decide) ?_
   exact sr_weaken (l' := [(28, .bool y21)]) (.cons rfl (.nil _)) (K7 y21 _ ⟨(Option.some.inj hS).symm, _, hj9⟩)
  ·have hS := ite_false' hz10 hg6
   refine sr_pass (e := 20) rfl rfl (by rw [hg6]; rfl) (by decide) ?_
   refine sr_pass (e := 20) rfl rfl (by rw [hg6]; rfl) (by decide) ?_
   refine sr_pass (e := 20) rfl rfl (by rw [hg6]; rfl) (by decide) ?_
   refine sr_pass (e := 20) rfl rfl (by rw [hg6]; rfl) (by decide) ?_
   refine sr_pass (e := 20) rfl rfl (by rw [hg6]; rfl) (by decide) ?_
   refine sr_pass (e := 20) rfl rfl (by rw [hg6]; rfl) (by decide) ?_
   refine sr_pass (e := 20) rfl rfl (by rw [hg6]; rfl) (by decide) ?_
   refine sr_ev (v := .bool false) (ev_pick_f rfl hg6 rfl) (by decide) ?_
   exact sr_weaken (l' := [(28, .bool false)]) (.cons rfl (.nil _)) (K7 false _ ⟨(Option.some.inj hS).symm, _, hj9⟩)
theorem consent_Consents_Clients_B2_ok {w0 : World} (hg : Gs w0) {ρA : Tags} (hbd : ∀ b, ρA b ≠ 0 → b < w0.heap.size) (hz : Gz (flat1 ρA)) (r0 : consent_Consents → Str → Int → List Str → List consent_pair → Option (List Str))
  (hr0 : ∀ {r : List Str} {oc_0 : consent_Consents} {user_1 : Str} {now_2 : Int} {out_7 : List Str} {t_15 : List consent_pair} {gc_0 : Nat} {v11 : Value} {vout_7 : Value} {rt_15 : Nat}, r0 oc_0 user_1 now_2 out_7 t_15 = some r → ∀ {ρ : Tags} {w : World}, (Fr (flat1 ρA) w0 ρ w) → (Blk ρ 1 w gc_0 (.cells #[v11] 52 (0, 0))) → (MapT consent_pair.ek (mapC str (intC .i64) false) false ρ 1 w v11 oc_0.pairs) → (OwnT strC 9 ρ 9 w vout_7 out_7) → (IterT consent_pair.ek (mapC str (intC .i64) false) false ρ 1 17 w rt_15 v11 oc_0.pairs t_15) → KE Try.prog 19 (Ret (fun v w' => ∃ x1, v = x1 ∧ SlR strC (Wb ρA) w' x1 r ∧ Below w0.heap.size w0 w')) 40 [.inLoop (sub (bodyOf Try.f19) [2, 2, 2, 1, 2, 2, 1]), .inBlock 0, .code (sub (bodyOf Try.f19) [2, 2, 2, 2])] [(0, .pointer (some ⟨gc_0, 0, none⟩)), (1, str user_1), (2, .int .i64 now_2), (7, vout_7), (15, .pointer (some ⟨rt_15, 0, none⟩))] w) {r : List Str} {oc_0 : consent_Consents} {user_1 : Str} {now_2 : Int} {out_7 : List Str} {t_15 : List consent_pair} {gc_0 : Nat} {v60 : Value} {vout_7 : Value} {rt_15 : Nat} (hS : consent_Consents_Clients_B2 r0 oc_0 user_1 now_2 out_7 t_15 = some r) {ρ : Tags} {w : World} (hb : Fr (flat1 ρA) w0 ρ w) (hBc_0 : Blk ρ 1 w gc_0 (.cells #[v60] 52 (0, 0))) (h61 : MapT consent_pair.ek (mapC str (intC .i64) false) false ρ 1 w v60 oc_0.pairs) (hout_7 : OwnT strC 9 ρ 9 w vout_7 out_7) (ht_15 : IterT consent_pair.ek (mapC str (intC .i64) false) false ρ 1 17 w rt_15 v60 oc_0.pairs t_15) :
  KE Try.prog 19 (Ret (fun v w' => ∃ x1, v = x1 ∧ SlR strC (Wb ρA) w' x1 r ∧ Below w0.heap.size w0 w')) 40 [.inBlock 1, .inLoop (sub (bodyOf Try.f19) [2, 2, 2, 1, 2, 2, 1]), .inBlock 0, .code (sub (bodyOf Try.f19) [2, 2, 2, 2])] [(0, .pointer (some ⟨gc_0, 0, none⟩)), (1, str user_1), (2, .int .i64 now_2), (7, vout_7), (15, .pointer (some ⟨rt_15, 0, none⟩))] w := by
 unfold consent_Consents_Clients_B2 at hS
 refine ke_inBlock ?_
 have hK := hr0 hS hb hBc_0 h61 hout_7 ht_15
 exact ke_weaken (l' := [(0, .pointer (some ⟨gc_0, 0, none⟩)), (1, str user_1), (2, .int .i64 now_2), (7, vout_7), (15, .pointer (some ⟨rt_15, 0, none⟩))]) (.cons rfl (.cons rfl (.cons rfl (.cons rfl (.cons rfl (.nil _)))))) hK
theorem consent_Consents_Clients_L1_ok {w0 : World} (hg : Gs w0) {ρA : Tags} (hbd : ∀ b, ρA b ≠ 0 → b < w0.heap.size) (hz : Gz (flat1 ρA)) : ∀ (n : Nat), ∀ {r : List Str} {oc_0 : consent_Consents} {user_1 : Str} {now_2 : Int} {out_7 : List Str} {t_15 : List consent_pair} {gc_0 : Nat} {v11 : Value} {vout_7 : Value} {rt_15 : Nat}, consent_Consents_Clients_L1 n oc_0 user_1 now_2 out_7 t_15 = some r → ∀ {ρ : Tags} {w : World}, (Fr (flat1 ρA) w0 ρ w) → (Blk ρ 1 w gc_0 (.cells #[v11] 52 (0, 0))) → (MapT consent_pair.ek (mapC str (intC .i64) false) false ρ 1 w v11 oc_0.pairs) → (OwnT strC 9 ρ 9 w vout_7 out_7) → (IterT consent_pair.ek (mapC str (intC .i64) false) false ρ 1 17 w rt_15 v11 oc_0.pairs t_15) → KE Try.prog 19 (Ret (fun v w' => ∃ x1, v = x1 ∧ SlR strC (Wb ρA) w' x1 r ∧ Below w0.heap.size w0 w')) 40 [.code (sub (bodyOf Try.f19) [2, 2, 2, 1, 2, 2, 1]), .inLoop (sub (bodyOf Try.f19) [2, 2, 2, 1, 2, 2, 1]), .inBlock 0, .code (sub (bodyOf Try.f19) [2, 2, 2, 2])] [(0, .pointer (some ⟨gc_0, 0, none⟩)), (1, str user_1), (2, .int .i64 now_2), (7, vout_7), (15, .pointer (some ⟨rt_15, 0, none⟩))] w := by
 intro n
 induction n with
 | zero => intro r oc_0 user_1 now_2 out_7 t_15 gc_0 v11 vout_7 rt_15 hS; cases hS
 | succ n ih =>
  have hr0 : ∀ {r : List Str} {oc_0 : consent_Consents} {user_1 : Str} {now_2 : Int} {out_7 : List Str} {t_15 : List consent_pair} {gc_0 : Nat} {v11 : Value} {vout_7 : Value} {rt_15 : Nat}, consent_Consents_Clients_L1 n oc_0 user_1 now_2 out_7 t_15 = some r → ∀ {ρ : Tags} {w : World}, (Fr (flat1 ρA) w0 ρ w) → (Blk ρ 1 w gc_0 (.cells #[v11] 52 (0, 0))) → (MapT consent_pair.ek (mapC str (intC .i64) false) false ρ 1 w v11 oc_0.pairs) → (OwnT strC 9 ρ 9 w vout_7 out_7) → (IterT consent_pair.ek (mapC str (intC .i64) false) false ρ 1 17 w rt_15 v11 oc_0.pairs t_15) → KE Try.prog 19 (Ret (fun v w' => ∃ x1, v = x1 ∧ SlR strC (Wb ρA) w' x1 r ∧ Below w0.heap.size w0 w')) 40 [.inLoop (sub (bodyOf Try.f19) [2, 2, 2, 1, 2, 2, 1]), .inBlock 0, .code (sub (bodyOf Try.f19) [2, 2, 2, 2])] [(0, .pointer (some ⟨gc_0, 0, none⟩)), (1, str user_1), (2, .int .i64 now_2), (7, vout_7), (15, .pointer (some ⟨rt_15, 0, none⟩))] w := fun {r} {oc_0} {user_1} {now_2} {out_7} {t_15} {gc_0} {v11} {vout_7} {rt_15} hS {ρ} {w} hb hBc_0 h12 hout_7 ht_15 => ke_inLoop (ih hS hb hBc_0 h12 hout_7 ht_15)
  clear ih
  intro r oc_0 user_1 now_2 out_7 t_15 gc_0 v11 vout_7 rt_15 hS ρ w hb hBc_0 h12 hout_7 ht_15
  unfold consent_Consents_Clients_L1 at hS
  refine ke_seq ?_
  refine ke_region ?_
  refine sr_nextM ht_15 rfl (by decide) hb.bd hS rfl (by decide) (fun hS => ?_) (fun e16 cs17 w18 hS hrd20 ht_151 htr19 hent21 => ?_)
  ·refine sr_ev (v := .bool false) (ev_extract rfl rfl) (by decide) ?_
   refine sr_end (l' := [(0, .pointer (some ⟨gc_0, 0, none⟩)), (1, str user_1), (2, .int .i64 now_2), (7, vout_7), (15, .pointer (some ⟨rt_15, 0, none⟩)), (17, .bool false)]) (.cons rfl (.cons rfl (.cons rfl (.cons rfl (.cons rfl (.cons rfl (.nil _))))))) ?_
   refine ke_seq ?_
   refine ke_cond (t := false) rfl (fun h => by cases h) (fun _ => ?_)
   refine ke_exit (k' := _) rfl ?_
   refine ke_seq ?_
   refine ke_region ?_
   refine sr_ev (v := vout_7) (ev_move rfl) (by decide) ?_
   obtain ⟨y65, hy66, hS⟩ := bind_some' hS
   refine sr_call (vs := [vout_7]) rfl Try.call38 rfl (lib_Sort_ok (E := 9) (A := Wb ρ) (B := 0) hout_7.own (Nat.zero_le _) hy66) (by decide) ?_
   rintro _ w68 ⟨rfl, hso70⟩
   obtain ⟨h67, htr69⟩ := sortT hout_7.tag (by decide) hb.bd hso70
   replace hb := hb.trans htr69
   refine sr_end (l' := [(7, vout_7)]) (.cons rfl (.nil _)) ?_
   refine ke_seq ?_
   refine ke_region ?_
   refine sr_ev (v := vout_7) (ev_move rfl) (by decide) ?_
   refine sr_ev (v := vout_7) (ev_assign rfl) (by decide) ?_
   refine sr_end (l' := [(6, vout_7)]) (.cons rfl (.nil _)) ?_
   have htr71 := frz_tr (ρ := ρ) (w := w68) (i := 9) (by decide) hb.bd
   have h72 : SlR strC (Wb (frz ρ 9)) w68 vout_7 y65 := (SlT.mv h67.sl (frz_mv (ρ := ρ) (w := w68) (i := 9))).sl
   replace hb := hb.trans htr71
   cases hS
   exact ke_ret1 Try.func19 rfl rfl ⟨_, rfl, _, rfl, (SlR.mv h72 (flat1_back hb hbd)), (hb.below (flat1_le _))⟩
  ·skip
   replace hout_7 := hout_7.mv (htr19.mv (i := 9) rfl) (by decide)
   replace h12 := h12.mv (htr19.mv (i := 1) rfl)
   replace hBc_0 := hBc_0.mv (htr19.mv (i := 1) rfl)
   replace hb := hb.trans htr19
   replace ht_15 := ht_151
   clear ht_151
   obtain ⟨v22, hcshrd20, h23⟩ := hrd20
   obtain rfl : cs17 = [v22] := hcshrd20
   refine sr_ev (v := .bool true) (ev_extract rfl rfl) (by decide) ?_
   refine sr_end (l' := [(0, .pointer (some ⟨gc_0, 0, none⟩)), (1, str user_1), (2, .int .i64 now_2), (7, vout_7), (15, .pointer (some ⟨rt_15, 0, none⟩)), (17, .bool true)]) (.cons rfl (.cons rfl (.cons rfl (.cons rfl (.cons rfl (.cons rfl (.nil _))))))) ?_
   refine ke_seq ?_
   refine ke_cond (t := true) rfl (fun _ => ?_) (fun h => by cases h)
   refine ke_skip ?_
   refine ke_block ?_
   refine ke_seq ?_
   refine ke_region ?_
   refine sr_ev (v := .tuple #[.agg #[str e16.1.user, str e16.1.client], v22]) (hent21 rfl) (by decide) ?_
   refine sr_ev (v := .agg #[str e16.1.user, str e16.1.client]) (ev_extract rfl rfl) (by decide) ?_
   refine sr_allocT 10 (by decide) hb.bd Try.zeroValue59 (by decide) ?_
   intro g24 ρ25 w26 hB28 htr27
   replace hout_7 := hout_7.mv (htr27.mv (i := 9) rfl) (by decide)
   replace ht_15 := ht_15.mv (htr27.mv (i := 1) rfl) (htr27.mv (i := 17) rfl)
   replace h12 := h12.mv (htr27.mv (i := 1) rfl)
   replace hBc_0 := hBc_0.mv (htr27.mv (i := 1) rfl)
   replace hb := hb.trans htr27
   replace hB28 : Blk ρ25 10 w26 g24 (.cells #[str ([]), str ([])] 59 (0, 0)) := hB28
   refine sr_storeT (v := .agg #[str e16.1.user, str e16.1.client]) (vs := [str e16.1.user, str e16.1.client]) (cs' := #[str e16.1.user, str e16.1.client]) hB28 (by decide) hb.bd rfl rfl rfl Try.sizeOf59 rfl rfl rfl ?_
   intro w29 hB281 htr30
   replace hout_7 := hout_7.mv (htr30.mv (i := 9) rfl) (by decide)
   replace ht_15 := ht_15.mv (htr30.mv (i := 1) rfl) (htr30.mv (i := 17) rfl)
   replace h12 := h12.mv (htr30.mv (i := 1) rfl)
   replace hBc_0 := hBc_0.mv (htr30.mv (i := 1) rfl)
   replace hb := hb.trans htr30
   replace hB28 : Blk ρ25 10 w29 g24 (.cells #[str e16.1.user, str e16.1.client] 59 (0, 0)) := hB281
   clear hB281
   refine sr_end (l' := [(0, .pointer (some ⟨gc_0, 0, none⟩)), (1, str user_1), (2, .int .i64 now_2), (7, vout_7), (8, .pointer (some ⟨g24, 0, none⟩)), (15, .pointer (some ⟨rt_15, 0, none⟩))]) (.cons rfl (.cons rfl (.cons rfl (.cons rfl (.cons rfl (.cons rfl (.nil _))))))) ?_
   refine ke_seq ?_
   refine ke_region ?_
   refine sr_ev (v := .pointer (some ⟨g24, 0, none⟩)) (ev_fieldAddr (i := 0) Try.underlying59 rfl Try.info9 rfl rfl) (by decide) ?_
   refine sr_ev (v := str e16.1.user) (ev_load Try.isAgg9 rfl (hB28.cell rfl)) (by decide) ?_
   refine sr_ev (v := str user_1) (ev_move rfl) (by decide) ?_
   refine sr_ev (v := .bool (e16.1.user == user_1)) (ev_seq rfl rfl) (by decide) ?_
   refine sr_ev (v := .bool (e16.1.user == user_1)) (ev_move rfl) (by decide) ?_
   obtain ⟨z33, hz35, hS⟩ := bind_some' hS
   refine sr_join (m := 7) (C := fun (z : Bool) w1 => z33 = z ∧ ∃ ρ1, Tr ρ25 w29 (fun _ => false) ρ1 w1) (l' := fun z => [(0, .pointer (some ⟨gc_0, 0, none⟩)), (1, str user_1), (2, .int .i64 now_2), (7, vout_7), (8, .pointer (some ⟨g24, 0, none⟩)), (15, .pointer (some ⟨rt_15, 0, none⟩)), (31, .bool z)]) ?_ ?_
   ·rintro _ w36 ⟨rfl, ρ37, hj34⟩
    replace hout_7 := hout_7.mv (hj34.mv (i := 9) rfl) (by decide)
    replace ht_15 := ht_15.mv (hj34.mv (i := 1) rfl) (hj34.mv (i := 17) rfl)
    replace h12 := h12.mv (hj34.mv (i := 1) rfl)
    replace hB28 := hB28.mv (hj34.mv (i := 10) rfl)
    replace hBc_0 := hBc_0.mv (hj34.mv (i := 1) rfl)
    replace hb := hb.trans hj34
    refine sr_end (l' := [(0, .pointer (some ⟨gc_0, 0, none⟩)), (1, str user_1), (2, .int .i64 now_2), (7, vout_7), (8, .pointer (some ⟨g24, 0, none⟩)), (15, .pointer (some ⟨rt_15, 0, none⟩)), (31, .bool z33)]) (.cons rfl (.cons rfl (.cons rfl (.cons rfl (.cons rfl (.cons rfl (.cons rfl (.nil _)))))))) ?_
    refine ke_cond (t := z33) rfl (fun hc48 => ?_) (fun hc48 => ?_)
    ·replace hS := ite_true' hS hc48
     refine ke_region ?_
     refine sr_ev (v := vout_7) (ev_move rfl) (by decide) ?_
     refine sr_ev (v := .pointer (some ⟨g24, 1, none⟩)) (ev_fieldAddr (i := 1) Try.underlying59 rfl Try.info9 rfl rfl) (by decide) ?_
     refine sr_ev (v := str e16.1.client) (ev_load Try.isAgg9 rfl (hB28.cell rfl)) (by decide) ?_
     refine sr_litT (c := strC) (ρ := ρ37) (E := 9) (xs := [e16.1.client]) (vs := #[(0, str e16.1.client)]) (cs := #[str e16.1.client]) (css := [[str e16.1.client]]) rfl (fun _ => by kernel_rfl) rfl ⟨rfl, trivial⟩ rfl (by decide) hb.bd (by decide) ?_
     intro v49 w51 h50 hbw53
     have htr52 := Tr.of_below hbw53 hb.bd
     replace ht_15 := ht_15.mv (htr52.mv (i := 1) rfl) (htr52.mv (i := 17) rfl)
     replace h12 := h12.mv (htr52.mv (i := 1) rfl)
     replace hout_7 := hout_7.mv (htr52.mv (i := 9) rfl) (by decide)
     replace hBc_0 := hBc_0.mv (htr52.mv (i := 1) rfl)
     replace hb := hb.trans htr52
     obtain ⟨hk54, hS⟩ := chk_some hS
     refine sr_appendT (i := 9) (c := strC) (ρ := ρ37) (E := 9) (xs := out_7) (ys := ([e16.1.client] : List Str)) hout_7 ((SlT.of_sl (i := 0) h50)).x Try.underlying30 Try.info9 rfl rfl rfl (by decide) (by decide) (by decide) hb.bd hk54 rfl rfl (by decide) ?_
     intro v55 ρ57 w58 h56 htr59
     replace ht_15 := ht_15.mv (htr59.mv (i := 1) rfl) (htr59.mv (i := 17) rfl)
     replace h12 := h12.mv (htr59.mv (i := 1) rfl)
     replace hBc_0 := hBc_0.mv (htr59.mv (i := 1) rfl)
     replace hb := hb.trans htr59
     refine sr_ev (v := v55) (ev_assign rfl) (by decide) ?_
     refine sr_end (l' := [(0, .pointer (some ⟨gc_0, 0, none⟩)), (1, str user_1), (2, .int .i64 now_2), (7, v55), (15, .pointer (some ⟨rt_15, 0, none⟩))]) (.cons rfl (.cons rfl (.cons rfl (.cons rfl (.cons rfl (.nil _)))))) ?_
     have hK := consent_Consents_Clients_B2_ok hg hbd hz _ hr0 hS hb hBc_0 h12 h56 ht_15
     exact ke_weaken (l' := [(0, .pointer (some ⟨gc_0, 0, none⟩)), (1, str user_1), (2, .int .i64 now_2), (7, v55), (15, .pointer (some ⟨rt_15, 0, none⟩))]) (.cons rfl (.cons rfl (.cons rfl (.cons rfl (.cons rfl (.nil _)))))) hK
    ·replace hS := ite_false' hS hc48
     refine ke_skip ?_
     have hK := consent_Consents_Clients_B2_ok hg hbd hz _ hr0 hS hb hBc_0 h12 hout_7 ht_15
     exact ke_weaken (l' := [(0, .pointer (some ⟨gc_0, 0, none⟩)), (1, str user_1), (2, .int .i64 now_2), (7, vout_7), (15, .pointer (some ⟨rt_15, 0, none⟩))]) (.cons rfl (.cons rfl (.cons rfl (.cons rfl (.cons rfl (.nil _)))))) hK
   ·intro K32
    clear hS
    have hj34 : Tr ρ25 w29 (fun _ => false) ρ25 w29 := (Tr.refl hb.bd).weak (fun _ _ => rfl) rfl rfl
    rcases Bool.eq_false_or_eq_true (e16.1.user == user_1) with hg31 | hg31
    ·have hS := ite_true' hz35 hg31
     refine sr_evg (b := true) (e := 24) rfl rfl hg31 (v := .pointer (some ⟨gc_0, 0, none⟩)) (ev_move rfl) (by decide) ?_
     refine sr_evg (b := true) (e := 24) rfl rfl hg31 (v := .agg #[str e16.1.user, str e16.1.client]) (ev_loads (cs := [str e16.1.user, str e16.1.client]) Try.isAgg59 Try.sizeOf59 rfl (hB28.cells (vs := [str e16.1.user, str e16.1.client]) rfl)) (by decide) ?_
     refine sr_evg (b := true) (e := 24) rfl rfl hg31 (v := .int .i64 now_2) (ev_move rfl) (by decide) ?_
     obtain ⟨y39, hy40, hS⟩ := bind_some' hS
     refine sr_callg (b := true) (e := 24) rfl rfl hg31 (vs := [.pointer (some ⟨gc_0, 0, none⟩), .agg #[str e16.1.user, str e16.1.client], .int .i64 now_2]) rfl Try.call34 rfl (consent_Consents_valid_ok _ (hg.fr hz hb) (ρA := ρ25) hb.bd (hz.fr hg hb) (τ0 := (fun _ => 1)) (fun _ => Nat.le_refl 1) (⟨_, hBc_0, h12⟩ : consent_Consents.O (fun _ => 1) ρ25 w29 gc_0 oc_0) hy40) (by decide) ?_
     rintro v46 w41 ⟨_, p44, rfl, hp45, h47, hbw42⟩
     have htr43 := Tr.of_below hbw42 hb.bd
     replace hS := permAny_some hS hp45
     replace hout_7 := hout_7.mv (htr43.mv (i := 9) rfl) (by decide)
     replace ht_15 := ht_15.mv (htr43.mv (i := 1) rfl) (htr43.mv (i := 17) rfl)
     replace h12 := h12.mv (htr43.mv (i := 1) rfl)
     replace hB28 := hB28.mv (htr43.mv (i := 10) rfl)
     replace hBc_0 := hBc_0.mv (htr43.mv (i := 1) rfl)
     replace hb := hb.trans htr43
     replace hj34 := (hj34.trans htr43).weak (J' := (fun _ => false)) (by intro t h; simp [rng] at h ⊢ <;> omega) rfl rfl
     refine sr_evg (b := true) (e := 24) rfl rfl hg31 (v := .int .i64 (p44.length : Int)) (ev_sllen Try.underlying30 rfl h47.asSl) (by decide) ?_
     refine sr_evg (b := true) (e := 24) rfl rfl hg31 (v := .bool (decide ((p44.length : Int) > 0))) (ev_gt rfl rfl) (by decide) ?_
     refine sr_ev (v := .bool (decide ((p44.length : Int) > 0))) (ev_pick_t rfl hg31 rfl) (by decide) ?_
     exact sr_weaken (l' := [(0, .pointer (some ⟨gc_0, 0, none⟩)), (1, str user_1), (2, .int .i64 now_2), (7, vout_7), (8, .pointer (some ⟨g24, 0, none⟩)), (15, .pointer (some ⟨rt_15, 0, none⟩)), (31, .bool (decide ((p44.length : Int) > 0)))]) (.cons rfl (.cons rfl (.cons rfl (.cons rfl (.cons rfl (.cons rfl (.cons rfl (.nil _)))))))) (K32 (decide ((p44.length : Int) > 0)) _ ⟨(Option.some.inj hS).symm, _, hj34⟩)
    ·have hS := ite_false' hz35 hg31
     refine sr_pass (e := 24) rfl rfl (by rw [hg31]; rfl) (by decide) ?_
     refine sr_pass (e := 24) rfl rfl (by rw [hg31]; rfl) (by decide) ?_
     refine sr_pass (e := 24) rfl rfl (by rw [hg31]; rfl) (by decide) ?_
     refine sr_pass (e := 24) rfl rfl (by rw [hg31]; rfl) (by decide) ?_
     refine sr_pass (e := 24) rfl rfl (by rw [hg31]; rfl) (by decide) ?_
     refine sr_pass (e := 24) rfl rfl (by rw [hg31]; rfl) (by decide) ?_
     refine sr_ev (v := .bool false) (ev_pick_f rfl hg31 rfl) (by decide) ?_
     exact sr_weaken (l' := [(0, .pointer (some ⟨gc_0, 0, none⟩)), (1, str user_1), (2, .int .i64 now_2), (7, vout_7), (8, .pointer (some ⟨g24, 0, none⟩)), (15, .pointer (some ⟨rt_15, 0, none⟩)), (31, .bool false)]) (.cons rfl (.cons rfl (.cons rfl (.cons rfl (.cons rfl (.cons rfl (.cons rfl (.nil _)))))))) (K32 false _ ⟨(Option.some.inj hS).symm, _, hj34⟩)
theorem consent_Consents_Clients_ok (w0 : World) (hg : Gs w0) {ρA : Tags} (hbd : ∀ b, ρA b ≠ 0 → b < w0.heap.size) (hz : Gz ρA) {τ0 : Nat → Nat} (hτ0 : ∀ p, 1 ≤ τ0 p) {c_0 : consent_Consents} {user_1 : Str} {now_2 : Int} {gc_0 : Nat} {r : List Str} (ho0 : consent_Consents.O τ0 ρA w0 gc_0 c_0) (hS : consent_Consents_Clients c_0 user_1 now_2 = some r) :
  Calls Try.prog 19 #[.pointer (some ⟨gc_0, 0, none⟩), str user_1, .int .i64 now_2] w0 (Ret (fun v w' => ∃ x1, v = x1 ∧ SlR strC (Wb ρA) w' x1 r ∧ Below w0.heap.size w0 w')) := by
 unfold consent_Consents_Clients at hS
 have hb := flat1_fr (ρ := ρA) (w := w0) hbd
 have hz := hz.flat1
 obtain ⟨v1, hB3, h2⟩ := ho0
 replace hB3 := hB3.mv (flat1_mv (hτ0 0))
 replace h2 := h2.mv (flat1_mv (hτ0 1))
 replace hB3 : Blk (flat1 ρA) 1 w0 gc_0 (.cells #[v1] 52 (0, 0)) := hB3
 replace h2 : MapT consent_pair.ek (mapC str (intC .i64) false) false (flat1 ρA) 1 w0 v1 c_0.pairs := h2
 refine calls_of_ke Try.func19 rfl (n := 40) rfl rfl (l := [(0, .pointer (some ⟨gc_0, 0, none⟩)), (1, str user_1), (2, .int .i64 now_2)]) rfl ?_
 refine ke_seq ?_
 refine ke_region ?_
 refine sr_ev (v := .slice none 0 0) (ev_assign rfl) (by decide) ?_
 refine sr_end (l' := [(0, .pointer (some ⟨gc_0, 0, none⟩)), (1, str user_1), (2, .int .i64 now_2)]) (.cons rfl (.cons rfl (.cons rfl (.nil _)))) ?_
 refine ke_seq ?_
 refine ke_seq ?_
 refine ke_region ?_
 refine sr_ev (v := .pointer (some ⟨gc_0, 0, none⟩)) (ev_move rfl) (by decide) ?_
 refine sr_ev (v := .bool false) (ev_peqT_some Try.underlying25 rfl rfl) (by decide) ?_
 refine sr_end (l' := [(0, .pointer (some ⟨gc_0, 0, none⟩)), (1, str user_1), (2, .int .i64 now_2), (10, .bool false)]) (.cons rfl (.cons rfl (.cons rfl (.cons rfl (.nil _))))) ?_
 refine ke_cond (t := false) rfl (fun h => by cases h) (fun _ => ?_)
 refine ke_skip ?_
 refine ke_seq ?_
 refine ke_region ?_
 refine sr_ev (v := .slice none 0 0) (ev_assign rfl) (by decide) ?_
 refine sr_end (l' := [(0, .pointer (some ⟨gc_0, 0, none⟩)), (1, str user_1), (2, .int .i64 now_2), (7, .slice none 0 0)]) (.cons rfl (.cons rfl (.cons rfl (.cons rfl (.nil _))))) ?_
 refine ke_seq ?_
 refine ke_seq ?_
 refine ke_region ?_
 refine sr_ev (v := .pointer (some ⟨gc_0, 0, none⟩)) (ev_move rfl) (by decide) ?_
 refine sr_ev (v := .pointer (some ⟨gc_0, 0, none⟩)) (ev_nilCheck rfl) (by decide) ?_
 refine sr_ev (v := .pointer (some ⟨gc_0, 0, none⟩)) (ev_fieldAddr (i := 0) Try.underlying52 rfl Try.info50 rfl rfl) (by decide) ?_
 refine sr_ev (v := v1) (ev_load Try.isAgg50 rfl (hB3.cell rfl)) (by decide) ?_
 refine sr_rangeM 17 (by decide) h2 rfl Try.underlying50 hb.bd rfl (by decide) ?_
 intro r6 ρ7 w8 h9 htr10
 replace h2 := h2.mv (htr10.mv (i := 1) rfl)
 replace hB3 := hB3.mv (htr10.mv (i := 1) rfl)
 replace hb := hb.trans htr10
 refine sr_end (l' := [(0, .pointer (some ⟨gc_0, 0, none⟩)), (1, str user_1), (2, .int .i64 now_2), (7, .slice none 0 0), (15, .pointer (some ⟨r6, 0, none⟩))]) (.cons rfl (.cons rfl (.cons rfl (.cons rfl (.cons rfl (.nil _)))))) ?_
 refine ke_block ?_
 have hK := consent_Consents_Clients_L1_ok hg hbd hz _ hS hb hB3 h2 OwnT.nil h9
 exact ke_weaken (l' := [(0, .pointer (some ⟨gc_0, 0, none⟩)), (1, str user_1), (2, .int .i64 now_2), (7, (.slice none 0 0)), (15, .pointer (some ⟨r6, 0, none⟩))]) (.cons rfl (.cons rfl (.cons rfl (.cons rfl (.cons rfl (.nil _)))))) (ke_loop hK)
theorem consent_Consents_Drop_1_ok (w0 : World) (hg : Gs w0) {ρA : Tags} (hbd : ∀ b, ρA b ≠ 0 → b < w0.heap.size) (hz : Gz ρA) {p_0 : consent_pair} {__1 : GMap Str Int} {c2 : Str} {v1 : Value} {b3 : Nat} {r : Bool} (h2 : MapRd str (intC .i64) false (Wb ρA) w0 v1 __1) (he4 : ElT strC ρA 0 w0 b3 0 [str c2] c2) (hS : consent_Consents_Drop_1 p_0 __1 c2 = some r) :
  Calls Try.prog 48 #[.agg #[str p_0.user, str p_0.client], v1, .pointer (some ⟨b3, 0, none⟩)] w0 (Ret (fun v w' => v = .bool r ∧ Below w0.heap.size w0 w')) := by
 unfold consent_Consents_Drop_1 at hS
 have hb := flat1_fr (ρ := ρA) (w := w0) hbd
 have hz := hz.flat1
 replace h2 := MapRd.mv h2 flat1_rd
 replace he4 := he4.mv flat1_rd (Nat.succ_pos _)
 refine calls_of_ke Try.func48 rfl (n := 10) rfl rfl (l := [(0, .agg #[str p_0.user, str p_0.client]), (1, v1), (2, .pointer (some ⟨b3, 0, none⟩))]) rfl ?_
 refine ke_seq ?_
 refine ke_region ?_
 refine sr_boxT 5 (by decide) hb.bd rfl (by decide) ?_
 intro g5 ρ6 w7 hB9 htr8
 replace he4 := he4.mv (htr8.mv (i := 0) rfl) (Nat.succ_pos _)
 replace hb := hb.trans htr8
 replace hB9 : Blk ρ6 5 w7 g5 (.cells #[str p_0.user, str p_0.client] 59 (0, 0)) := hB9
 refine sr_ev (v := .bool false) (ev_assign rfl) (by decide) ?_
 refine sr_end (l' := [(2, .pointer (some ⟨b3, 0, none⟩)), (3, .pointer (some ⟨g5, 0, none⟩))]) (.cons rfl (.cons rfl (.nil _))) ?_
 refine ke_seq ?_
 refine ke_region ?_
 refine sr_ev (v := .pointer (some ⟨g5, 0, none⟩)) (ev_fieldAddr (i := 0) Try.underlying59 rfl Try.info9 rfl rfl) (by decide) ?_
 refine sr_ev (v := str p_0.user) (ev_load Try.isAgg9 rfl (hB9.cell rfl)) (by decide) ?_
 refine sr_ev (v := str c2) (ev_load Try.isAgg9 rfl (he4.cell 0 _ rfl)) (by decide) ?_
 refine sr_ev (v := .bool (p_0.user == c2)) (ev_seq rfl rfl) (by decide) ?_
 refine sr_ev (v := .bool (p_0.user == c2)) (ev_assign rfl) (by decide) ?_
 refine sr_end (l' := [(5, .bool (p_0.user == c2))]) (.cons rfl (.nil _)) ?_
 cases hS
 exact ke_ret1 Try.func48 rfl rfl ⟨_, rfl, rfl, (hb.below (flat1_le _))⟩
theorem maps_DeleteFunc_map_consent_pair_map_string_int_consent_pair_map_string_int__Consents_Drop_1_B2_ok {w0 : World} (hg : Gs w0) {ρA : Tags} (hbd : ∀ b, ρA b ≠ 0 → b < w0.heap.size) {o : Nat} (ho2 : 2 ≤ o) {v1 : Value} (hz : Gz (enter ρA o 1)) (r0 : GMap consent_pair (GMap Str Int) → Str → List consent_pair → Option (GMap consent_pair (GMap Str Int)))
  (hr0 : ∀ {r : GMap consent_pair (GMap Str Int)} {m_0 : GMap consent_pair (GMap Str Int)} {del_1_c0 : Str} {t_7 : List consent_pair} {bdel_1_c0 : Nat} {rt_7 : Nat}, r0 m_0 del_1_c0 t_7 = some r → ∀ {ρ : Tags} {w : World}, (Fr (enter ρA o 1) w0 ρ w) → (MapT consent_pair.ek (mapC str (intC .i64) false) false ρ 100 w v1 m_0) → (ElT strC ρ 0 w bdel_1_c0 0 [str del_1_c0] del_1_c0) → (IterT consent_pair.ek (mapC str (intC .i64) false) false ρ 100 9 w rt_7 v1 m_0 t_7) → KE Try.prog 47 (Ret (fun v w' => ∃ ρ', v = .tuple #[] ∧ MapT consent_pair.ek (mapC str (intC .i64) false) false ρ' o w' v1 r ∧ Tr ρA w0 (rng o 1) ρ' w')) 19 [.inLoop (sub (bodyOf Try.f47) [2, 2, 1]), .inBlock 0] [(0, v1), (1, .func (.func 48) #[] #[.pointer (some ⟨bdel_1_c0, 0, none⟩)]), (7, .pointer (some ⟨rt_7, 0, none⟩))] w) {r : GMap consent_pair (GMap Str Int)} {m_0 : GMap consent_pair (GMap Str Int)} {del_1_c0 : Str} {t_7 : List consent_pair} {bdel_1_c0 : Nat} {rt_7 : Nat} (hS : maps_DeleteFunc_map_consent_pair_map_string_int_consent_pair_map_string_int__Consents_Drop_1_B2 r0 m_0 del_1_c0 t_7 = some r) {ρ : Tags} {w : World} (hb : Fr (enter ρA o 1) w0 ρ w) (hm_0 : MapT consent_pair.ek (mapC str (intC .i64) false) false ρ 100 w v1 m_0) (hedel_1_c0 : ElT strC ρ 0 w bdel_1_c0 0 [str del_1_c0] del_1_c0) (ht_7 : IterT consent_pair.ek (mapC str (intC .i64) false) false ρ 100 9 w rt_7 v1 m_0 t_7) :
  KE Try.prog 47 (Ret (fun v w' => ∃ ρ', v = .tuple #[] ∧ MapT consent_pair.ek (mapC str (intC .i64) false) false ρ' o w' v1 r ∧ Tr ρA w0 (rng o 1) ρ' w')) 19 [.inBlock 1, .inLoop (sub (bodyOf Try.f47) [2, 2, 1]), .inBlock 0] [(0, v1), (1, .func (.func 48) #[] #[.pointer (some ⟨bdel_1_c0, 0, none⟩)]), (7, .pointer (some ⟨rt_7, 0, none⟩))] w := by
 unfold maps_DeleteFunc_map_consent_pair_map_string_int_consent_pair_map_string_int__Consents_Drop_1_B2 at hS
 refine ke_inBlock ?_
 have hK := hr0 hS hb hm_0 hedel_1_c0 ht_7
 exact ke_weaken (l' := [(0, v1), (1, .func (.func 48) #[] #[.pointer (some ⟨bdel_1_c0, 0, none⟩)]), (7, .pointer (some ⟨rt_7, 0, none⟩))]) (.cons rfl (.cons rfl (.cons rfl (.nil _)))) hK
theorem maps_DeleteFunc_map_consent_pair_map_string_int_consent_pair_map_string_int__Consents_Drop_1_L1_ok {w0 : World} (hg : Gs w0) {ρA : Tags} (hbd : ∀ b, ρA b ≠ 0 → b < w0.heap.size) {o : Nat} (ho2 : 2 ≤ o) {v1 : Value} (hz : Gz (enter ρA o 1)) : ∀ (n : Nat), ∀ {r : GMap consent_pair (GMap Str Int)} {m_0 : GMap consent_pair (GMap Str Int)} {del_1_c0 : Str} {t_7 : List consent_pair} {bdel_1_c0 : Nat} {rt_7 : Nat}, maps_DeleteFunc_map_consent_pair_map_string_int_consent_pair_map_string_int__Consents_Drop_1_L1 n m_0 del_1_c0 t_7 = some r → ∀ {ρ : Tags} {w : World}, (Fr (enter ρA o 1) w0 ρ w) → (MapT consent_pair.ek (mapC str (intC .i64) false) false ρ 100 w v1 m_0) → (ElT strC ρ 0 w bdel_1_c0 0 [str del_1_c0] del_1_c0) → (IterT consent_pair.ek (mapC str (intC .i64) false) false ρ 100 9 w rt_7 v1 m_0 t_7) → KE Try.prog 47 (Ret (fun v w' => ∃ ρ', v = .tuple #[] ∧ MapT consent_pair.ek (mapC str (intC .i64) false) false ρ' o w' v1 r ∧ Tr ρA w0 (rng o 1) ρ' w')) 19 [.code (sub (bodyOf Try.f47) [2, 2, 1]), .inLoop (sub (bodyOf Try.f47) [2, 2, 1]), .inBlock 0] [(0, v1), (1, .func (.func 48) #[] #[.pointer (some ⟨bdel_1_c0, 0, none⟩)]), (7, .pointer (some ⟨rt_7, 0, none⟩))] w := by
 intro n
 induction n with
 | zero => intro r m_0 del_1_c0 t_7 bdel_1_c0 rt_7 hS; cases hS
 | succ n ih =>
  have hr0 : ∀ {r : GMap consent_pair (GMap Str Int)} {m_0 : GMap consent_pair (GMap Str Int)} {del_1_c0 : Str} {t_7 : List consent_pair} {bdel_1_c0 : Nat} {rt_7 : Nat}, maps_DeleteFunc_map_consent_pair_map_string_int_consent_pair_map_string_int__Consents_Drop_1_L1 n m_0 del_1_c0 t_7 = some r → ∀ {ρ : Tags} {w : World}, (Fr (enter ρA o 1) w0 ρ w) → (MapT consent_pair.ek (mapC str (intC .i64) false) false ρ 100 w v1 m_0) → (ElT strC ρ 0 w bdel_1_c0 0 [str del_1_c0] del_1_c0) → (IterT consent_pair.ek (mapC str (intC .i64) false) false ρ 100 9 w rt_7 v1 m_0 t_7) → KE Try.prog 47 (Ret (fun v w' => ∃ ρ', v = .tuple #[] ∧ MapT consent_pair.ek (mapC str (intC .i64) false) false ρ' o w' v1 r ∧ Tr ρA w0 (rng o 1) ρ' w')) 19 [.inLoop (sub (bodyOf Try.f47) [2, 2, 1]), .inBlock 0] [(0, v1), (1, .func (.func 48) #[] #[.pointer (some ⟨bdel_1_c0, 0, none⟩)]), (7, .pointer (some ⟨rt_7, 0, none⟩))] w := fun {r} {m_0} {del_1_c0} {t_7} {bdel_1_c0} {rt_7} hS {ρ} {w} hb hm_0 hedel_1_c0 ht_7 => ke_inLoop (ih hS hb hm_0 hedel_1_c0 ht_7)
  clear ih
  intro r m_0 del_1_c0 t_7 bdel_1_c0 rt_7 hS ρ w hb hm_0 hedel_1_c0 ht_7
  unfold maps_DeleteFunc_map_consent_pair_map_string_int_consent_pair_map_string_int__Consents_Drop_1_L1 at hS
  refine ke_seq ?_
  refine ke_region ?_
  refine sr_nextM ht_7 rfl (by decide) hb.bd hS rfl (by decide) (fun hS => ?_) (fun e10 cs11 w12 hS hrd14 ht_71 htr13 hent15 => ?_)
  ·refine sr_ev (v := .bool false) (ev_extract rfl rfl) (by decide) ?_
   refine sr_end (l' := [(0, v1), (1, .func (.func 48) #[] #[.pointer (some ⟨bdel_1_c0, 0, none⟩)]), (7, .pointer (some ⟨rt_7, 0, none⟩)), (9, .bool false)]) (.cons rfl (.cons rfl (.cons rfl (.cons rfl (.nil _))))) ?_
   refine ke_seq ?_
   refine ke_cond (t := false) rfl (fun h => by cases h) (fun _ => ?_)
   refine ke_exit (k' := _) rfl ?_
   cases hS
   exact ke_end0 Try.func47 rfl ⟨_, rfl, leave ρA w0 o 1 ρ, rfl, (hm_0.mv (leave_mv (p := 0) (by decide) hb)), (leave_tr ho2 hb)⟩
  ·skip
   replace hm_0 := hm_0.mv (htr13.mv (i := 100) rfl)
   replace hedel_1_c0 := hedel_1_c0.mv (htr13.mv (i := 0) rfl) (Nat.succ_pos _)
   replace hb := hb.trans htr13
   replace ht_7 := ht_71
   clear ht_71
   obtain ⟨v16, hcshrd14, h17⟩ := hrd14
   obtain rfl : cs11 = [v16] := hcshrd14
   refine sr_ev (v := .bool true) (ev_extract rfl rfl) (by decide) ?_
   refine sr_end (l' := [(0, v1), (1, .func (.func 48) #[] #[.pointer (some ⟨bdel_1_c0, 0, none⟩)]), (7, .pointer (some ⟨rt_7, 0, none⟩)), (9, .bool true)]) (.cons rfl (.cons rfl (.cons rfl (.cons rfl (.nil _))))) ?_
   refine ke_seq ?_
   refine ke_cond (t := true) rfl (fun _ => ?_) (fun h => by cases h)
   refine ke_skip ?_
   refine ke_block ?_
   refine ke_seq ?_
   refine ke_region ?_
   refine sr_ev (v := .tuple #[.agg #[str e10.1.user, str e10.1.client], v16]) (hent15 rfl) (by decide) ?_
   refine sr_ev (v := .agg #[str e10.1.user, str e10.1.client]) (ev_extract rfl rfl) (by decide) ?_
   refine sr_ev (v := v16) (ev_extract rfl rfl) (by decide) ?_
   refine sr_allocT 6 (by decide) hb.bd Try.zeroValue59 (by decide) ?_
   intro g18 ρ19 w20 hB22 htr21
   replace hm_0 := hm_0.mv (htr21.mv (i := 100) rfl)
   replace hedel_1_c0 := hedel_1_c0.mv (htr21.mv (i := 0) rfl) (Nat.succ_pos _)
   replace ht_7 := ht_7.mv (htr21.mv (i := 100) rfl) (htr21.mv (i := 9) rfl)
   replace h17 := h17.mv (htr21.mv (i := 0) rfl)
   replace hb := hb.trans htr21
   replace hB22 : Blk ρ19 6 w20 g18 (.cells #[str ([]), str ([])] 59 (0, 0)) := hB22
   refine sr_storeT (v := .agg #[str e10.1.user, str e10.1.client]) (vs := [str e10.1.user, str e10.1.client]) (cs' := #[str e10.1.user, str e10.1.client]) hB22 (by decide) hb.bd rfl rfl rfl Try.sizeOf59 rfl rfl rfl ?_
   intro w23 hB221 htr24
   replace hm_0 := hm_0.mv (htr24.mv (i := 100) rfl)
   replace hedel_1_c0 := hedel_1_c0.mv (htr24.mv (i := 0) rfl) (Nat.succ_pos _)
   replace ht_7 := ht_7.mv (htr24.mv (i := 100) rfl) (htr24.mv (i := 9) rfl)
   replace h17 := h17.mv (htr24.mv (i := 0) rfl)
   replace hb := hb.trans htr24
   replace hB22 : Blk ρ19 6 w23 g18 (.cells #[str e10.1.user, str e10.1.client] 59 (0, 0)) := hB221
   clear hB221
   refine sr_ev (v := v16) (ev_assign rfl) (by decide) ?_
   refine sr_end (l' := [(0, v1), (1, .func (.func 48) #[] #[.pointer (some ⟨bdel_1_c0, 0, none⟩)]), (4, .pointer (some ⟨g18, 0, none⟩)), (5, v16), (7, .pointer (some ⟨rt_7, 0, none⟩))]) (.cons rfl (.cons rfl (.cons rfl (.cons rfl (.cons rfl (.nil _)))))) ?_
   refine ke_seq ?_
   refine ke_region ?_
   refine sr_ev (v := .func (.func 48) #[] #[.pointer (some ⟨bdel_1_c0, 0, none⟩)]) (ev_move rfl) (by decide) ?_
   refine sr_ev (v := .agg #[str e10.1.user, str e10.1.client]) (ev_loads (cs := [str e10.1.user, str e10.1.client]) Try.isAgg59 Try.sizeOf59 rfl (hB22.cells (vs := [str e10.1.user, str e10.1.client]) rfl)) (by decide) ?_
   refine sr_ev (v := v16) (ev_move rfl) (by decide) ?_
   obtain ⟨y25, hy26, hS⟩ := bind_some' hS
   refine sr_callc (vs := [.agg #[str e10.1.user, str e10.1.client], v16]) rfl Try.call48 rfl (consent_Consents_Drop_1_ok _ (hg.fr hz hb) (ρA := ρ19) hb.bd (hz.fr hg hb) h17 hedel_1_c0 hy26) (by decide) ?_
   rintro _ w27 ⟨rfl, hbw28⟩
   have htr29 := Tr.of_below hbw28 hb.bd
   replace hm_0 := hm_0.mv (htr29.mv (i := 100) rfl)
   replace hedel_1_c0 := hedel_1_c0.mv (htr29.mv (i := 0) rfl) (Nat.succ_pos _)
   replace ht_7 := ht_7.mv (htr29.mv (i := 100) rfl) (htr29.mv (i := 9) rfl)
   replace hB22 := hB22.mv (htr29.mv (i := 6) rfl)
   replace hb := hb.trans htr29
   refine sr_end (l' := [(0, v1), (1, .func (.func 48) #[] #[.pointer (some ⟨bdel_1_c0, 0, none⟩)]), (4, .pointer (some ⟨g18, 0, none⟩)), (7, .pointer (some ⟨rt_7, 0, none⟩)), (16, .bool y25)]) (.cons rfl (.cons rfl (.cons rfl (.cons rfl (.cons rfl (.nil _)))))) ?_
   refine ke_cond (t := y25) rfl (fun hc30 => ?_) (fun hc30 => ?_)
   ·replace hS := ite_true' hS hc30
    refine ke_region ?_
    refine sr_ev (v := v1) (ev_move rfl) (by decide) ?_
    refine sr_ev (v := .agg #[str e10.1.user, str e10.1.client]) (ev_loads (cs := [str e10.1.user, str e10.1.client]) Try.isAgg59 Try.sizeOf59 rfl (hB22.cells (vs := [str e10.1.user, str e10.1.client]) rfl)) (by decide) ?_
    obtain ⟨w31, hrunw31, ht_71, htr32⟩ := sr_mapDelIt (n := 19) (l := [(0, v1), (1, .func (.func 48) #[] #[.pointer (some ⟨bdel_1_c0, 0, none⟩)]), (4, .pointer (some ⟨g18, 0, none⟩)), (7, .pointer (some ⟨rt_7, 0, none⟩)), (16, .bool y25), (17, v1), (18, .agg #[str e10.1.user, str e10.1.client])]) (d := none) (x := _) (y := _) (pos := _) (after := _) (t := _) (k := e10.1) ht_7 rfl Try.keyB59 Try.underlying50 (by decide) hb.bd
    refine sr_run0 (fun a ha => hrunw31 (ha.weaken (.cons rfl (.cons rfl (.cons rfl (.cons rfl (.cons rfl (.cons rfl (.cons rfl (.nil _))))))))) rfl rfl) ?_
    replace hedel_1_c0 := hedel_1_c0.mv (htr32.mv (i := 0) rfl) (Nat.succ_pos _)
    replace hb := hb.trans htr32
    replace ht_7 := ht_71
    clear ht_71
    replace hm_0 := ht_7.map
    refine sr_end (l' := [(0, v1), (1, .func (.func 48) #[] #[.pointer (some ⟨bdel_1_c0, 0, none⟩)]), (7, .pointer (some ⟨rt_7, 0, none⟩))]) (.cons rfl (.cons rfl (.cons rfl (.nil _)))) ?_
    have hK := maps_DeleteFunc_map_consent_pair_map_string_int_consent_pair_map_string_int__Consents_Drop_1_B2_ok hg hbd ho2 hz _ hr0 hS hb hm_0 hedel_1_c0 ht_7
    exact ke_weaken (l' := [(0, v1), (1, .func (.func 48) #[] #[.pointer (some ⟨bdel_1_c0, 0, none⟩)]), (7, .pointer (some ⟨rt_7, 0, none⟩))]) (.cons rfl (.cons rfl (.cons rfl (.nil _)))) hK
   ·replace hS := ite_false' hS hc30
    refine ke_skip ?_
    have hK := maps_DeleteFunc_map_consent_pair_map_string_int_consent_pair_map_string_int__Consents_Drop_1_B2_ok hg hbd ho2 hz _ hr0 hS hb hm_0 hedel_1_c0 ht_7
    exact ke_weaken (l' := [(0, v1), (1, .func (.func 48) #[] #[.pointer (some ⟨bdel_1_c0, 0, none⟩)]), (7, .pointer (some ⟨rt_7, 0, none⟩))]) (.cons rfl (.cons rfl (.cons rfl (.nil _)))) hK
theorem maps_DeleteFunc_map_consent_pair_map_string_int_consent_pair_map_string_int__Consents_Drop_1_ok (w0 : World) (hg : Gs w0) {ρA : Tags} (hbd : ∀ b, ρA b ≠ 0 → b < w0.heap.size) (hz : Gz ρA) {o : Nat} (ho2 : 2 ≤ o) {m_0 : GMap consent_pair (GMap Str Int)} {c1_0 : Str} {v1 : Value} {b3 : Nat} {r : GMap consent_pair (GMap Str Int)} (h2 : MapT consent_pair.ek (mapC str (intC .i64) false) false ρA o w0 v1 m_0) (he4 : ElT strC ρA 0 w0 b3 0 [str c1_0] c1_0) (hS : maps_DeleteFunc_map_consent_pair_map_string_int_consent_pair_map_string_int__Consents_Drop_1 m_0 c1_0 = some r) :
  Calls Try.prog 47 #[v1, .func (.func 48) #[] #[.pointer (some ⟨b3, 0, none⟩)]] w0 (Ret (fun v w' => ∃ ρ', v = .tuple #[] ∧ MapT consent_pair.ek (mapC str (intC .i64) false) false ρ' o w' v1 r ∧ Tr ρA w0 (rng o 1) ρ' w')) := by
 unfold maps_DeleteFunc_map_consent_pair_map_string_int_consent_pair_map_string_int__Consents_Drop_1 at hS
 have hb := enter_fr (ρ := ρA) (w := w0) (n := 1) ho2 hbd
 have hz := hz.enter (n := 1) ho2
 replace he4 := he4.mv (enter_rd (n := 1) ho2) (Nat.succ_pos _)
 replace h2 := h2.mv (enter_mv (p := 0) (n := 1) (by decide) ho2)
 replace h2 : MapT consent_pair.ek (mapC str (intC .i64) false) false (enter ρA o 1) 100 w0 v1 m_0 := h2
 refine calls_of_ke Try.func47 rfl (n := 19) rfl rfl (l := [(0, v1), (1, .func (.func 48) #[] #[.pointer (some ⟨b3, 0, none⟩)])]) rfl ?_
 refine ke_seq ?_
 refine ke_region ?_
 refine sr_ev (v := v1) (ev_move rfl) (by decide) ?_
 refine sr_rangeM 9 (by decide) h2 rfl Try.underlying50 hb.bd rfl (by decide) ?_
 intro r5 ρ6 w7 h8 htr9
 replace h2 := h2.mv (htr9.mv (i := 100) rfl)
 replace he4 := he4.mv (htr9.mv (i := 0) rfl) (Nat.succ_pos _)
 replace hb := hb.trans htr9
 refine sr_end (l' := [(0, v1), (1, .func (.func 48) #[] #[.pointer (some ⟨b3, 0, none⟩)]), (7, .pointer (some ⟨r5, 0, none⟩))]) (.cons rfl (.cons rfl (.cons rfl (.nil _)))) ?_
 refine ke_block ?_
 have hK := maps_DeleteFunc_map_consent_pair_map_string_int_consent_pair_map_string_int__Consents_Drop_1_L1_ok hg hbd ho2 hz _ hS hb h2 he4 h8
 exact ke_weaken (l' := [(0, v1), (1, .func (.func 48) #[] #[.pointer (some ⟨b3, 0, none⟩)]), (7, .pointer (some ⟨r5, 0, none⟩))]) (.cons rfl (.cons rfl (.cons rfl (.nil _)))) (ke_loop hK)
theorem consent_Consents_Drop_ok (w0 : World) (hg : Gs w0) {ρA : Tags} (hbd : ∀ b, ρA b ≠ 0 → b < w0.heap.size) (hz : Gz ρA) {o : Nat} (ho2 : 2 ≤ o) {c_0 : consent_Consents} {user_1 : Str} {gc_0 : Nat} {r : Int × consent_Consents} (ho0 : consent_Consents.O (fun p => o + p) ρA w0 gc_0 c_0) (hS : consent_Consents_Drop c_0 user_1 = some r) :
  Calls Try.prog 27 #[.pointer (some ⟨gc_0, 0, none⟩), str user_1] w0 (Ret (fun v w' => ∃ ρ', v = .int .i64 r.1 ∧ consent_Consents.O (fun p => o + p) ρ' w' gc_0 r.2 ∧ Tr ρA w0 (rng o 2) ρ' w')) := by
 unfold consent_Consents_Drop at hS
 have hb := enter_fr (ρ := ρA) (w := w0) (n := 2) ho2 hbd
 have hz := hz.enter (n := 2) ho2
 obtain ⟨v1, hB3, h2⟩ := ho0
 replace hB3 := hB3.mv (enter_mv (p := 0) (n := 2) (by decide) ho2)
 replace h2 := h2.mv (enter_mv (p := 1) (n := 2) (by decide) ho2)
 replace hB3 : Blk (enter ρA o 2) 100 w0 gc_0 (.cells #[v1] 52 (0, 0)) := hB3
 replace h2 : MapT consent_pair.ek (mapC str (intC .i64) false) false (enter ρA o 2) 101 w0 v1 c_0.pairs := h2
 refine calls_of_ke Try.func27 rfl (n := 26) rfl rfl (l := [(0, .pointer (some ⟨gc_0, 0, none⟩)), (1, str user_1)]) rfl ?_
 refine ke_seq ?_
 refine ke_region ?_
 refine sr_boxT 5 (by decide) hb.bd rfl (by decide) ?_
 intro g4 ρ5 w6 hB8 htr7
 replace hB3 := hB3.mv (htr7.mv (i := 100) rfl)
 replace h2 := h2.mv (htr7.mv (i := 101) rfl)
 replace hb := hb.trans htr7
 replace hB8 : Blk ρ5 5 w6 g4 (.cells #[str user_1] 9 (0, 0)) := hB8
 refine sr_ev (v := .int .i64 0) (ev_assign rfl) (by decide) ?_
 refine sr_end (l' := [(0, .pointer (some ⟨gc_0, 0, none⟩)), (3, .pointer (some ⟨g4, 0, none⟩))]) (.cons rfl (.cons rfl (.nil _))) ?_
 refine ke_seq ?_
 refine ke_seq ?_
 refine ke_region ?_
 refine sr_ev (v := .pointer (some ⟨gc_0, 0, none⟩)) (ev_move rfl) (by decide) ?_
 refine sr_ev (v := .bool false) (ev_peqT_some Try.underlying25 rfl rfl) (by decide) ?_
 refine sr_end (l' := [(0, .pointer (some ⟨gc_0, 0, none⟩)), (3, .pointer (some ⟨g4, 0, none⟩)), (7, .bool false)]) (.cons rfl (.cons rfl (.cons rfl (.nil _)))) ?_
 refine ke_cond (t := false) rfl (fun h => by cases h) (fun _ => ?_)
 refine ke_skip ?_
 refine ke_seq ?_
 refine ke_region ?_
 refine sr_ev (v := .pointer (some ⟨gc_0, 0, none⟩)) (ev_move rfl) (by decide) ?_
 refine sr_ev (v := .pointer (some ⟨gc_0, 0, none⟩)) (ev_nilCheck rfl) (by decide) ?_
 refine sr_ev (v := .pointer (some ⟨gc_0, 0, none⟩)) (ev_fieldAddr (i := 0) Try.underlying52 rfl Try.info50 rfl rfl) (by decide) ?_
 refine sr_ev (v := v1) (ev_load Try.isAgg50 rfl (hB3.cell rfl)) (by decide) ?_
 refine sr_ev (v := .int .i64 (mlen c_0.pairs)) (ev_mapLen h2 Try.underlying50 (Mv.of_below (i := 101) (ρ := ρ5) (Below.refl _ _)) rfl) (by decide) ?_
 refine sr_ev (v := .int .i64 (mlen c_0.pairs)) (ev_assign rfl) (by decide) ?_
 refine sr_end (l' := [(0, .pointer (some ⟨gc_0, 0, none⟩)), (3, .pointer (some ⟨g4, 0, none⟩)), (5, .int .i64 (mlen c_0.pairs))]) (.cons rfl (.cons rfl (.cons rfl (.nil _)))) ?_
 refine ke_seq ?_
 refine ke_region ?_
 refine sr_ev (v := .pointer (some ⟨gc_0, 0, none⟩)) (ev_move rfl) (by decide) ?_
 refine sr_ev (v := .pointer (some ⟨gc_0, 0, none⟩)) (ev_nilCheck rfl) (by decide) ?_
 refine sr_ev (v := .pointer (some ⟨gc_0, 0, none⟩)) (ev_fieldAddr (i := 0) Try.underlying52 rfl Try.info50 rfl rfl) (by decide) ?_
 refine sr_ev (v := v1) (ev_load Try.isAgg50 rfl (hB3.cell rfl)) (by decide) ?_
 have htr9 := frz_tr (ρ := ρ5) (w := w6) (i := 5) (by decide) hb.bd
 have he10 : ElT strC (frz ρ5 5) 0 w6 g4 0 [str user_1] user_1 := Blk.frzEl hB8 rfl rfl
 replace h2 := h2.mv (htr9.mv (i := 101) rfl)
 replace hB3 := hB3.mv (htr9.mv (i := 100) rfl)
 replace hb := hb.trans htr9
 refine sr_ev (v := .func (.func 48) #[] #[.pointer (some ⟨g4, 0, none⟩)]) (ev_makeFunc rfl) (by decide) ?_
 obtain ⟨y11, hy12, hS⟩ := bind_some' hS
 refine sr_call (vs := [v1, .func (.func 48) #[] #[.pointer (some ⟨g4, 0, none⟩)]]) rfl Try.call47 rfl (maps_DeleteFunc_map_consent_pair_map_string_int_consent_pair_map_string_int__Consents_Drop_1_ok _ (hg.fr hz hb) (ρA := (frz ρ5 5)) hb.bd (hz.fr hg hb) (o := 101) (by decide) h2 he10 hy12) (by decide) ?_
 rintro _ w13 ⟨ρ16, rfl, h21, htr15⟩
 replace hB3 := hB3.mv (htr15.mv (i := 100) rfl)
 replace hb := hb.trans htr15
 replace h2 := h21
 clear h21
 refine sr_end (l' := [(0, .pointer (some ⟨gc_0, 0, none⟩)), (5, .int .i64 (mlen c_0.pairs))]) (.cons rfl (.cons rfl (.nil _))) ?_
 refine ke_seq ?_
 refine ke_region ?_
 refine sr_ev (v := .int .i64 (mlen c_0.pairs)) (ev_move rfl) (by decide) ?_
 refine sr_ev (v := .pointer (some ⟨gc_0, 0, none⟩)) (ev_move rfl) (by decide) ?_
 refine sr_ev (v := .pointer (some ⟨gc_0, 0, none⟩)) (ev_nilCheck rfl) (by decide) ?_
 refine sr_ev (v := .pointer (some ⟨gc_0, 0, none⟩)) (ev_fieldAddr (i := 0) Try.underlying52 rfl Try.info50 rfl rfl) (by decide) ?_
 refine sr_ev (v := v1) (ev_load Try.isAgg50 rfl (hB3.cell rfl)) (by decide) ?_
 refine sr_ev (v := .int .i64 (mlen y11)) (ev_mapLen h2 Try.underlying50 (Mv.of_below (i := 101) (ρ := ρ16) (Below.refl _ _)) rfl) (by decide) ?_
 refine sr_ev (v := .int .i64 (IntKind.i64.wrap ((mlen c_0.pairs) - (mlen y11)))) (ev_sub rfl rfl) (by decide) ?_
 refine sr_ev (v := .int .i64 (IntKind.i64.wrap ((mlen c_0.pairs) - (mlen y11)))) (ev_assign rfl) (by decide) ?_
 refine sr_end (l' := [(4, .int .i64 (IntKind.i64.wrap ((mlen c_0.pairs) - (mlen y11))))]) (.cons rfl (.nil _)) ?_
 cases hS
 exact ke_ret1 Try.func27 rfl rfl ⟨_, rfl, leave ρA w0 o 2 ρ16, rfl, ⟨_, (hB3.mv (leave_mv (p := 0) (by decide) hb)), (h2.mv (leave_mv (p := 1) (by decide) hb))⟩, (leave_tr ho2 hb)⟩
theorem ref03_Same_L1_ok {w0 : World} (hg : Gs w0) {A0 : Nat → Prop} (hA0 : ∀ b, A0 b → b < w0.heap.size) : ∀ (n : Nat), ∀ {r : Bool} {a_0 : List Str} {b_1 : List Str} {i_5 : Int} {va_0 : Value} {vb_1 : Value}, ref03_Same_L1 n a_0 b_1 i_5 = some r → ∀ {w : World} {A : Nat → Prop}, (Below w0.heap.size w0 w) → (∀ b, A b → b < w.heap.size) → (∀ b, A0 b → A b) → (Hp A w0.heap.size w []) → (SlR strC A w va_0 a_0) → (SlR strC A w vb_1 b_1) → KE Try.prog 16 (Ret (fun v w' => v = .bool r ∧ Below w0.heap.size w0 w')) 26 [.code (sub (bodyOf Try.f16) [2, 2, 1, 2, 2, 1]), .inLoop (sub (bodyOf Try.f16) [2, 2, 1, 2, 2, 1]), .inBlock 0, .code (sub (bodyOf Try.f16) [2, 2, 2])] [(0, va_0), (1, vb_1), (5, .int .i64 i_5)] w := by
 intro n
 induction n with
 | zero => intro r a_0 b_1 i_5 va_0 vb_1 hS; cases hS
 | succ n ih =>
  have hr0 : ∀ {r : Bool} {a_0 : List Str} {b_1 : List Str} {i_5 : Int} {va_0 : Value} {vb_1 : Value}, ref03_Same_L1 n a_0 b_1 i_5 = some r → ∀ {w : World} {A : Nat → Prop}, (Below w0.heap.size w0 w) → (∀ b, A b → b < w.heap.size) → (∀ b, A0 b → A b) → (Hp A w0.heap.size w []) → (SlR strC A w va_0 a_0) → (SlR strC A w vb_1 b_1) → KE Try.prog 16 (Ret (fun v w' => v = .bool r ∧ Below w0.heap.size w0 w')) 26 [.inLoop (sub (bodyOf Try.f16) [2, 2, 1, 2, 2, 1]), .inBlock 0, .code (sub (bodyOf Try.f16) [2, 2, 2])] [(0, va_0), (1, vb_1), (5, .int .i64 i_5)] w := fun {r} {a_0} {b_1} {i_5} {va_0} {vb_1} hS {w} {A} hb hA hi hH ha_0 hb_1 => ke_inLoop (ih hS hb hA hi hH ha_0 hb_1)
  clear ih
  intro r a_0 b_1 i_5 va_0 vb_1 hS w A hb hA hi hH ha_0 hb_1
  unfold ref03_Same_L1 at hS
  refine ke_seq ?_
  refine ke_seq ?_
  refine ke_region ?_
  refine sr_ev (v := .int .i64 i_5) (ev_move rfl) (by decide) ?_
  refine sr_ev (v := va_0) (ev_move rfl) (by decide) ?_
  refine sr_ev (v := .int .i64 (a_0.length : Int)) (ev_sllen Try.underlying30 rfl ha_0) (by decide) ?_
  refine sr_ev (v := .bool (decide (i_5 < (a_0.length : Int)))) (ev_lt rfl rfl) (by decide) ?_
  refine sr_end (l' := [(0, va_0), (1, vb_1), (5, .int .i64 i_5), (14, .bool (decide (i_5 < (a_0.length : Int))))]) (.cons rfl (.cons rfl (.cons rfl (.cons rfl (.nil _))))) ?_
  refine ke_cond (t := decide (i_5 < (a_0.length : Int))) rfl (fun hc6 => ?_) (fun hc6 => ?_)
  ·replace hS := ite_true' hS hc6
   refine ke_skip ?_
   refine ke_seq ?_
   refine ke_block ?_
   refine ke_seq ?_
   refine ke_region_q Try.mixed (by kernel_rfl) ?_
   refine sq_ev (v := va_0) (fun w1 hw1 => ev_move rfl) (by decide) ?_
   refine sq_ev (v := .int .i64 i_5) (fun w1 hw1 => ev_move rfl) (by decide) ?_
   obtain ⟨y9, hy10, hS⟩ := bind_some' hS
   obtain ⟨b11, o12, cs14, he13, hixhe13⟩ := ha_0.elem Try.underlying30 Try.info9 rfl (P := Try.prog) hy10
   obtain rfl : cs14 = [str y9] := he13.rd
   refine sq_ev (v := .pointer (some ⟨b11, o12, none⟩)) (fun w1 hw1 => hixhe13 w1 hw1 rfl rfl) (by decide) ?_
   refine sq_ev (v := str y9) (fun w1 hw1 => ev_load Try.isAgg9 rfl ((he13.step (.of_below hw1) (Nat.succ_pos _)).cell 0 _ rfl)) (by decide) ?_
   refine sq_ev (v := vb_1) (fun w1 hw1 => ev_move rfl) (by decide) ?_
   refine sq_ev (v := .int .i64 i_5) (fun w1 hw1 => ev_move rfl) (by decide) ?_
   obtain ⟨y15, hy16, hS⟩ := bind_some' hS
   obtain ⟨b17, o18, cs20, he19, hixhe19⟩ := hb_1.elem Try.underlying30 Try.info9 rfl (P := Try.prog) hy16
   obtain rfl : cs20 = [str y15] := he19.rd
   refine sq_ev (v := .pointer (some ⟨b17, o18, none⟩)) (fun w1 hw1 => hixhe19 w1 hw1 rfl rfl) (by decide) ?_
   refine sq_ev (v := str y15) (fun w1 hw1 => ev_load Try.isAgg9 rfl ((he19.step (.of_below hw1) (Nat.succ_pos _)).cell 0 _ rfl)) (by decide) ?_
   refine sq_ev (v := .bool (!(y9 == y15))) (fun w1 hw1 => ev_sne rfl rfl) (by decide) ?_
   refine sq_end (l' := [(0, va_0), (1, vb_1), (5, .int .i64 i_5), (25, .bool (!(y9 == y15)))]) (.cons rfl (.cons rfl (.cons rfl (.cons rfl (.nil _))))) (fun w8 hw7 => ?_)
   replace hb := hb.trans (hw7.mono hb.size)
   replace hA := lt_mono hA hw7.size
   replace hH := hH.below hw7
   replace ha_0 := ha_0.below hw7
   replace hb_1 := hb_1.below hw7
   refine ke_cond (t := !(y9 == y15)) rfl (fun hc21 => ?_) (fun hc21 => ?_)
   ·replace hS := ite_true' hS hc21
    refine ke_seq ?_
    refine ke_region ?_
    refine sr_ev (v := .bool false) (ev_assign rfl) (by decide) ?_
    refine sr_end (l' := [(4, .bool false)]) (.cons rfl (.nil _)) ?_
    cases hS
    exact ke_ret1 Try.func16 rfl rfl ⟨_, rfl, rfl, hb⟩
   ·replace hS := ite_false' hS hc21
    refine ke_skip ?_
    refine ke_inBlock ?_
    refine ke_region ?_
    refine sr_ev (v := .int .i64 i_5) (ev_move rfl) (by decide) ?_
    refine sr_ev (v := .int .i64 (IntKind.i64.wrap (i_5 + 1))) (ev_add rfl rfl) (by decide) ?_
    refine sr_ev (v := .int .i64 (IntKind.i64.wrap (i_5 + 1))) (ev_assign rfl) (by decide) ?_
    refine sr_end (l' := [(0, va_0), (1, vb_1), (5, .int .i64 (IntKind.i64.wrap (i_5 + 1)))]) (.cons rfl (.cons rfl (.cons rfl (.nil _)))) ?_
    have hK := hr0 hS hb hA hi hH ha_0 hb_1
    exact ke_weaken (l' := [(0, va_0), (1, vb_1), (5, .int .i64 (IntKind.i64.wrap (i_5 + 1)))]) (.cons rfl (.cons rfl (.cons rfl (.nil _)))) hK
  ·replace hS := ite_false' hS hc6
   refine ke_exit (k' := _) rfl ?_
   refine ke_seq ?_
   refine ke_region ?_
   refine sr_ev (v := .bool true) (ev_assign rfl) (by decide) ?_
   refine sr_end (l' := [(4, .bool true)]) (.cons rfl (.nil _)) ?_
   cases hS
   exact ke_ret1 Try.func16 rfl rfl ⟨_, rfl, rfl, hb⟩
theorem ref03_Same_ok {A0 : Nat → Prop} (w0 : World) (hg : Gs w0) {a_0 : List Str} {b_1 : List Str} {v1 : Value} {v3 : Value} {r : Bool} (h2 : SlR strC A0 w0 v1 a_0) (h4 : SlR strC A0 w0 v3 b_1) (hS : ref03_Same a_0 b_1 = some r) :
  Calls Try.prog 16 #[v1, v3] w0 (Ret (fun v w' => v = .bool r ∧ Below w0.heap.size w0 w')) := by
 unfold ref03_Same at hS
 have hb := Below.refl w0.heap.size w0
 replace h2 := h2.weak (A' := fun _ => False) (fun _ h => h.elim)
 replace h4 := h4.weak (A' := fun _ => False) (fun _ h => h.elim)
 obtain ⟨A0, hA0, hAe⟩ : ∃ A0 : Nat → Prop, (∀ b, A0 b → b < w0.heap.size) ∧ A0 = fun _ => False := ⟨_, fun _ h => h.elim, rfl⟩
 rw [← hAe] at h2
 rw [← hAe] at h4
 clear hAe
 have hA := hA0
 have hi : ∀ b, A0 b → A0 b := fun _ h => h
 have hH := Hp.nil A0 w0.heap.size w0
 refine calls_of_ke Try.func16 rfl (n := 26) rfl rfl (l := [(0, v1), (1, v3)]) rfl ?_
 refine ke_seq ?_
 refine ke_region ?_
 refine sr_ev (v := .bool false) (ev_assign rfl) (by decide) ?_
 refine sr_end (l' := [(0, v1), (1, v3)]) (.cons rfl (.cons rfl (.nil _))) ?_
 refine ke_seq ?_
 refine ke_seq ?_
 refine ke_region ?_
 refine sr_ev (v := v1) (ev_move rfl) (by decide) ?_
 refine sr_ev (v := .int .i64 (a_0.length : Int)) (ev_sllen Try.underlying30 rfl h2) (by decide) ?_
 refine sr_ev (v := v3) (ev_move rfl) (by decide) ?_
 refine sr_ev (v := .int .i64 (b_1.length : Int)) (ev_sllen Try.underlying30 rfl h4) (by decide) ?_
 refine sr_ev (v := .bool ((a_0.length : Int) != (b_1.length : Int))) (ev_ne rfl rfl) (by decide) ?_
 refine sr_end (l' := [(0, v1), (1, v3), (10, .bool ((a_0.length : Int) != (b_1.length : Int)))]) (.cons rfl (.cons rfl (.cons rfl (.nil _)))) ?_
 refine ke_cond (t := (a_0.length : Int) != (b_1.length : Int)) rfl (fun hc5 => ?_) (fun hc5 => ?_)
 ·replace hS := ite_true' hS hc5
  refine ke_seq ?_
  refine ke_region ?_
  refine sr_ev (v := .bool false) (ev_assign rfl) (by decide) ?_
  refine sr_end (l' := [(4, .bool false)]) (.cons rfl (.nil _)) ?_
  cases hS
  exact ke_ret1 Try.func16 rfl rfl ⟨_, rfl, rfl, hb⟩
 ·replace hS := ite_false' hS hc5
  refine ke_skip ?_
  refine ke_seq ?_
  refine ke_seq ?_
  refine ke_region ?_
  refine sr_ev (v := .int .i64 0) (ev_assign rfl) (by decide) ?_
  refine sr_end (l' := [(0, v1), (1, v3), (5, .int .i64 0)]) (.cons rfl (.cons rfl (.cons rfl (.nil _)))) ?_
  refine ke_block ?_
  have hK := ref03_Same_L1_ok hg hA0 _ hS hb hA hi hH h2 h4
  exact ke_weaken (l' := [(0, v1), (1, v3), (5, .int .i64 0)]) (.cons rfl (.cons rfl (.cons rfl (.nil _)))) (ke_loop hK)
theorem consent_Consents_Len_ok (w0 : World) (hg : Gs w0) {ρA : Tags} (hbd : ∀ b, ρA b ≠ 0 → b < w0.heap.size) (hz : Gz ρA) {τ0 : Nat → Nat} (hτ0 : ∀ p, 1 ≤ τ0 p) {c_0 : consent_Consents} {gc_0 : Nat} {r : Int} (ho0 : consent_Consents.O τ0 ρA w0 gc_0 c_0) (hS : consent_Consents_Len c_0 = some r) :
  Calls Try.prog 14 #[.pointer (some ⟨gc_0, 0, none⟩)] w0 (Ret (fun v w' => v = .int .i64 r ∧ Below w0.heap.size w0 w')) := by
 unfold consent_Consents_Len at hS
 have hb := flat1_fr (ρ := ρA) (w := w0) hbd
 have hz := hz.flat1
 obtain ⟨v1, hB3, h2⟩ := ho0
 replace hB3 := hB3.mv (flat1_mv (hτ0 0))
 replace h2 := h2.mv (flat1_mv (hτ0 1))
 replace hB3 : Blk (flat1 ρA) 1 w0 gc_0 (.cells #[v1] 52 (0, 0)) := hB3
 replace h2 : MapT consent_pair.ek (mapC str (intC .i64) false) false (flat1 ρA) 1 w0 v1 c_0.pairs := h2
 refine calls_of_ke Try.func14 rfl (n := 10) rfl rfl (l := [(0, .pointer (some ⟨gc_0, 0, none⟩))]) rfl ?_
 refine ke_seq ?_
 refine ke_region ?_
 refine sr_ev (v := .int .i64 0) (ev_assign rfl) (by decide) ?_
 refine sr_end (l' := [(0, .pointer (some ⟨gc_0, 0, none⟩))]) (.cons rfl (.nil _)) ?_
 refine ke_seq ?_
 refine ke_seq ?_
 refine ke_region ?_
 refine sr_ev (v := .pointer (some ⟨gc_0, 0, none⟩)) (ev_move rfl) (by decide) ?_
 refine sr_ev (v := .bool false) (ev_peqT_some Try.underlying25 rfl rfl) (by decide) ?_
 refine sr_end (l' := [(0, .pointer (some ⟨gc_0, 0, none⟩)), (4, .bool false)]) (.cons rfl (.cons rfl (.nil _))) ?_
 refine ke_cond (t := false) rfl (fun h => by cases h) (fun _ => ?_)
 refine ke_skip ?_
 refine ke_seq ?_
 refine ke_region ?_
 refine sr_ev (v := .pointer (some ⟨gc_0, 0, none⟩)) (ev_move rfl) (by decide) ?_
 refine sr_ev (v := .pointer (some ⟨gc_0, 0, none⟩)) (ev_nilCheck rfl) (by decide) ?_
 refine sr_ev (v := .pointer (some ⟨gc_0, 0, none⟩)) (ev_fieldAddr (i := 0) Try.underlying52 rfl Try.info50 rfl rfl) (by decide) ?_
 refine sr_ev (v := v1) (ev_load Try.isAgg50 rfl (hB3.cell rfl)) (by decide) ?_
 refine sr_ev (v := .int .i64 (mlen c_0.pairs)) (ev_mapLen h2 Try.underlying50 (Mv.of_below (i := 1) (ρ := (flat1 ρA)) (Below.refl _ _)) rfl) (by decide) ?_
 refine sr_ev (v := .int .i64 (mlen c_0.pairs)) (ev_assign rfl) (by decide) ?_
 refine sr_end (l' := [(2, .int .i64 (mlen c_0.pairs))]) (.cons rfl (.nil _)) ?_
 cases hS
 exact ke_ret1 Try.func14 rfl rfl ⟨_, rfl, rfl, (hb.below (flat1_le _))⟩

end Ytijiipelpgmhpaa
end Go.Proofs
