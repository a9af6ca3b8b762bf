/- SecretQuality: for every input the law returns true, and its arguments read behind the call as before. Conditions: those of the given card, no other. -/
import Derived.Test.YteifnoehmfjogaaDoorKwRSecretQuality
set_option linter.unusedVariables false
set_option linter.unusedSimpArgs false
set_option maxHeartbeats 8000000
namespace Go.Proofs.YteifnoehmfjogaaDoor
open Go Go.KW Go.KW.S Go.RowKit Go.ChangeShapes Go.WideShapes Go.ChangeAt
set_option maxRecDepth 100000 in
theorem secretQuality_contract (W : World) (base : Nat) (args : Array Value) {H : Type} {enc : TypeId × Value → H} (ds : List (DataW H)) (before : List MemPlace)
    (hval : ∀ (j : Nat) t v, Tryd.f4.params[j]? = some t → args[j]? = some v → Value.okWide Tryd.prog W .any base t v)
    (hA : DataW.TrodAll enc Tryd.prog W 0 (fun _ => true) true Tryd.f4.params.toList args.toList ds before)
    (hwt : (DataW.weightsEach Tryd.prog Tryd.f4.params.toList ds).all (· ≤ reachBytes) = true) (hL : laidMetH Tryd.prog Rows.secretQualityRow.laid W) (hsh : W.ShapedOpen Tryd.prog) :
    Calls Tryd.prog 4 args W (Ret fun v W' => v = .bool true ∧ Below W.heap.size W W') := by
  have hg := gs_of hL hsh
  obtain ⟨av, rfl⟩ : ∃ av : List Value, args = av.toArray := ⟨args.toList, by simp⟩
  rw [Tryd.params4] at hA hval hwt
  simp only [List.toList_toArray] at hA hwt
  obtain ⟨v0, as0, d0, ds0, p0, q0, rfl, rfl, rfl, h0, hA⟩ := trodAll_cons hA
  obtain ⟨w0, hwt⟩ := weights_cons hwt
  obtain ⟨v1, as1, d1, ds1, p1, q1, rfl, rfl, rfl, h1, hA⟩ := trodAll_cons hA
  obtain ⟨w1, hwt⟩ := weights_cons hwt
  obtain ⟨rfl, rfl, rfl⟩ := trodAll_nil hA
  obtain ⟨x0, rfl, z0⟩ := arg_str Tryd.underlying9 (hval 0 9 v0 rfl rfl) h0 w0
  obtain ⟨x1, rfl, z1⟩ := arg_str Tryd.underlying9 (hval 1 9 v1 rfl rfl) h1 w1
  exact law22_SecretQuality_ok W hg (ρA := fun _ => 0) (fun b h => absurd rfl h) ⟨rfl, rfl⟩ (quality_true x0 x1)
set_option maxRecDepth 100000 in
theorem secretQuality_lifted (os : Os) (started : os.Started) (H : Type) (enc : TypeId × Value → H) :
    ReturnsInHanded {} Tryd.checked os 4 .any (fun w args => (Rows.secretQualitySpec.pre enc Tryd.prog Tryd.f4 Rows.secretQualityRow.domain false w args ∧ laidMetH Tryd.prog Rows.secretQualityRow.laid w) ∧ sizedMet enc Tryd.prog Tryd.f4 (OpenSpec.ofChange Rows.secretQualitySpec) false w args)
      (Rows.secretQualitySpec.post enc Tryd.prog Tryd.f4 false true false false) :=
  law_lifted (C := Tryd.checked) (fn := Tryd.f4) (s := Rows.secretQualitySpec) (laid := Rows.secretQualityRow.laid) (tb := 4) kwOwn started (by kernel_rfl) Tryd.func4
    (ChangeSpec.witness_shaped (enc := enc) (C := Tryd.checked) (os := os) (X := fun w _ => laidMetH Tryd.prog Rows.secretQualityRow.laid w) false (World.laidAll Tryd.prog os Rows.secretQualityRow.laid) #[.string ByteArray.empty, .string ByteArray.empty] 8 (World.laidAll_os _ _ _)
      (World.shaped_of_ZipB (by kernel_rfl) (by kernel_rfl)) (by kernel_rfl) (by kernel_rfl) (by kernel_rfl)
      (by rw [MakeChecks.laidMetH_plain _ _ _ (by kernel_rfl)]; exact laidMet_laidAll _ (by kernel_rfl) (by kernel_rfl)))
    kwLaid (by kernel_rfl) rfl Tryd.underlying4 rfl (fun ds h => by
      rw [Tryd.params4] at h
      match ds, h with
      | [x0, x1], _ => rfl)
    (fun W base args ds before hval hA hwt hL hsh => secretQuality_contract W base args ds before hval hA hwt hL hsh)
theorem secretQuality_holds : Rows.SecretQualitySaid :=
  OpenClaim.holds_of_wide 4 Tryd.f4 rfl rfl rfl rfl rfl rfl rfl ⟨rfl, rfl, rfl, rfl, rfl⟩ rfl rfl rfl rfl rfl (by kernel_rfl) Tryd.func4 (by kernel_rfl)
    (of_decide_eq_true (by kernel_rfl)) (by unfold Func.isWrapper; first | (rw [if_pos (by decide +kernel)]; kernel_rfl) | (rw [if_neg (by decide +kernel)]; exact ⟨rfl, rfl⟩))
    (fun os started H enc _ => secretQuality_lifted os started H enc)
theorem secretQuality_card : Rows.SecretQualityCardSaid :=
  Claim7.holds_tied_plain_at .later [] [.data] true (true, "a9af8ea46b4aa3e6ff7066dce97fbdaefc42b471a96b434efa05211f02e790b0") false secretQuality_holds (fun _ h => by cases h) (by kernel_rfl) (fun _ h => by cases h) secretQuality_row_tie rfl ⟨rfl, rfl⟩ (by kernel_rfl) rfl
    (fun f fn hf hfn => by
      obtain rfl : f = 4 := Option.some.inj ((show Tryd.prog.funcNamed Tryd.f4.name = some 4 by kernel_rfl).symm.trans hf) |>.symm
      obtain rfl : fn = Tryd.f4 := (Option.some.inj (Tryd.func4.symm.trans hfn)).symm
      exact ⟨by kernel_rfl, fun j t ht => by
        rw [Tryd.params4] at ht
        have hm : t ∈ [9, 9] := by simpa using Array.mem_of_getElem? ht
        have hall : ([9, 9].all fun u => !Tryd.prog.wantsStandIn u) = true := by kernel_rfl
        exact (show Tryd.prog.wantsStandIn t = false by simpa using List.all_eq_true.1 hall t hm)⟩)
    (by kernel_rfl)
end Go.Proofs.YteifnoehmfjogaaDoor
