/- LoginNil: for every input the law returns true, and its arguments read behind the call as before. Conditions: those of the given card, no other. -/
import Derived.Test.YtkhodjenbganfaaGreatDoorKwRLoginNil
set_option linter.unusedVariables false
set_option linter.unusedSimpArgs false
set_option maxHeartbeats 8000000
namespace Go.Proofs.YtkhodjenbganfaaGreatDoor
open Go Go.KW Go.KW.S Go.RowKit Go.ChangeShapes Go.WideShapes Go.ChangeAt
set_option maxRecDepth 100000 in
theorem loginNil_contract (W : World) (base : Nat) (args : Array Value) {H : Type} {enc : TypeId × Value → H} (ds : List (DataW H)) (before : List MemPlace)
    (hval : ∀ (j : Nat) t v, Tryz.f8.params[j]? = some t → args[j]? = some v → Value.okWide Tryz.prog W .any base t v)
    (hA : DataW.TrodAll enc Tryz.prog W 0 (fun _ => true) true Tryz.f8.params.toList args.toList ds before)
    (hwt : (DataW.weightsEach Tryz.prog Tryz.f8.params.toList ds).all (· ≤ reachBytes) = true) (hL : laidMetH Tryz.prog Rows.loginNilRow.laid W) (hsh : W.ShapedOpen Tryz.prog) :
    Calls Tryz.prog 8 args W (Ret fun v W' => v = .bool true ∧ Below W.heap.size W W') := by
  have hg := gs_of hL hsh
  obtain ⟨av, rfl⟩ : ∃ av : List Value, args = av.toArray := ⟨args.toList, by simp⟩
  rw [Tryz.params8] at hA hval hwt
  simp only [List.toList_toArray] at hA hwt
  obtain ⟨v0, as0, d0, ds0, p0, q0, rfl, rfl, rfl, h0, hA⟩ := trodAll_cons hA
  obtain ⟨w0, hwt⟩ := weights_cons hwt
  obtain ⟨rfl, rfl, rfl⟩ := trodAll_nil hA
  obtain ⟨cs0, x0, rfl, s0, z0⟩ := arg_struct Tryz.underlying33 Tryz.opn33 (hval 0 33 v0 rfl rfl) h0 w0
  have hc0 := s0
  obtain ⟨cs0⟩ := cs0; simp only at hc0; subst hc0
  exact law39_LoginNil_ok W hg (ρA := fun _ => 0) (fun b h => absurd rfl h) ⟨rfl, fun _ _ => rfl, rfl⟩ (nil_true x0)
set_option maxRecDepth 100000 in
theorem loginNil_lifted (os : Os) (started : os.Started) (H : Type) (enc : TypeId × Value → H) :
    ReturnsInHanded {} Tryz.checked os 8 .any (fun w args => (Rows.loginNilSpec.pre enc Tryz.prog Tryz.f8 Rows.loginNilRow.domain false w args ∧ laidMetH Tryz.prog Rows.loginNilRow.laid w) ∧ sizedMet enc Tryz.prog Tryz.f8 (OpenSpec.ofChange Rows.loginNilSpec) false w args)
      (Rows.loginNilSpec.post enc Tryz.prog Tryz.f8 false true false false) :=
  law_lifted (C := Tryz.checked) (fn := Tryz.f8) (s := Rows.loginNilSpec) (laid := Rows.loginNilRow.laid) (tb := 4) kwOwn started (by kernel_rfl) Tryz.func8
    (ChangeSpec.witness_shaped (enc := enc) (C := Tryz.checked) (os := os) (X := fun w _ => laidMetH Tryz.prog Rows.loginNilRow.laid w) false (World.laidAll Tryz.prog os Rows.loginNilRow.laid) #[.agg #[.int .i64 0, .string ByteArray.empty, .string ByteArray.empty, .string ByteArray.empty, .string ByteArray.empty, .string ByteArray.empty, .int .i64 0, .int .i64 0, .int .i64 0]] 8 (World.laidAll_os _ _ _)
      (World.shaped_of_ZipB (by kernel_rfl) (by kernel_rfl)) (by kernel_rfl) (by kernel_rfl) (by kernel_rfl)
      (by rw [MakeChecks.laidMetH_plain _ _ _ (by kernel_rfl)]; exact laidMet_laidAll _ (by kernel_rfl) (by kernel_rfl)))
    kwLaid (by kernel_rfl) rfl Tryz.underlying4 rfl (fun ds h => by
      rw [Tryz.params8] at h
      match ds, h with
      | [x0], _ => rfl)
    (fun W base args ds before hval hA hwt hL hsh => loginNil_contract W base args ds before hval hA hwt hL hsh)
theorem loginNil_holds : Rows.LoginNilSaid :=
  OpenClaim.holds_of_wide 8 Tryz.f8 rfl rfl rfl rfl rfl rfl rfl ⟨rfl, rfl, rfl, rfl, rfl⟩ rfl rfl rfl rfl rfl (by kernel_rfl) Tryz.func8 (by kernel_rfl)
    (of_decide_eq_true (by kernel_rfl)) (by unfold Func.isWrapper; first | (rw [if_pos (by decide +kernel)]; kernel_rfl) | (rw [if_neg (by decide +kernel)]; exact ⟨rfl, rfl⟩))
    (fun os started H enc _ => loginNil_lifted os started H enc)
theorem loginNil_card : Rows.LoginNilCardSaid :=
  Claim7.holds_tied_plain_at .later [] [.data, .data, .data, .data, .data, .pinned] true (true, "fa8c47af7d0e6a33cb570eac993ba647b68f8b5251408ccc6ec56a6600e8888f") false loginNil_holds (fun _ h => by cases h) (by kernel_rfl) (fun _ h => by cases h) loginNil_row_tie rfl ⟨rfl, rfl⟩ (by kernel_rfl) rfl
    (fun f fn hf hfn => by
      obtain rfl : f = 8 := Option.some.inj ((show Tryz.prog.funcNamed Tryz.f8.name = some 8 by kernel_rfl).symm.trans hf) |>.symm
      obtain rfl : fn = Tryz.f8 := (Option.some.inj (Tryz.func8.symm.trans hfn)).symm
      exact ⟨by kernel_rfl, fun j t ht => by
        rw [Tryz.params8] at ht
        have hm : t ∈ [33] := by simpa using Array.mem_of_getElem? ht
        have hall : ([33].all fun u => !Tryz.prog.wantsStandIn u) = true := by kernel_rfl
        exact (show Tryz.prog.wantsStandIn t = false by simpa using List.all_eq_true.1 hall t hm)⟩)
    (by kernel_rfl)
end Go.Proofs.YtkhodjenbganfaaGreatDoor
