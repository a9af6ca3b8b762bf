/- ConsentLimits: for every input the law returns true, and its arguments read behind the call as before. Conditions: those of the given card, no other. -/
import Derived.Test.YtijiipelpgmhpaaKwRConsentLimits
set_option linter.unusedVariables false
set_option linter.unusedSimpArgs false
set_option maxHeartbeats 8000000
namespace Go.Proofs.Ytijiipelpgmhpaa
open Go Go.KW Go.KW.S Go.RowKit Go.ChangeShapes Go.WideShapes Go.ChangeAt
set_option maxRecDepth 100000 in
theorem consentLimits_contract (W : World) (base : Nat) (args : Array Value) {H : Type} {enc : TypeId × Value → H} (ds : List (DataW H)) (before : List MemPlace)
    (hval : ∀ (j : Nat) t v, Try.f4.params[j]? = some t → args[j]? = some v → Value.okWide Try.prog W .any base t v)
    (hA : DataW.TrodAll enc Try.prog W 0 (fun _ => true) true Try.f4.params.toList args.toList ds before)
    (hwt : (DataW.weightsEach Try.prog Try.f4.params.toList ds).all (· ≤ reachBytes) = true) (hL : laidMetH Try.prog Rows.consentLimitsRow.laid W) (hsh : W.ShapedOpen Try.prog) :
    Calls Try.prog 4 args W (Ret fun v W' => v = .bool true ∧ Below W.heap.size W W') := by
  have hg := gs_of W hsh
  obtain ⟨av, rfl⟩ : ∃ av : List Value, args = av.toArray := ⟨args.toList, by simp⟩
  rw [Try.params4] at hA hval hwt
  simp only [List.toList_toArray] at hA hwt
  obtain ⟨v0, as0, d0, ds0, p0, q0, rfl, rfl, rfl, h0, hA⟩ := trodAll_cons hA
  obtain ⟨w0, hwt⟩ := weights_cons hwt
  obtain ⟨v1, as1, d1, ds1, p1, q1, rfl, rfl, rfl, h1, hA⟩ := trodAll_cons hA
  obtain ⟨w1, hwt⟩ := weights_cons hwt
  obtain ⟨rfl, rfl, rfl⟩ := trodAll_nil hA
  obtain ⟨x0, rfl, z0⟩ := arg_int Try.underlying3 (hval 0 3 v0 rfl rfl) h0
  obtain ⟨x1, rfl, z1⟩ := arg_int Try.underlying3 (hval 1 3 v1 rfl rfl) h1
  exact law32_ConsentLimits_ok W hg (ρA := fun _ => 0) (fun b h => absurd rfl h) ⟨rfl⟩ (limits_true x0 x1)
set_option maxRecDepth 100000 in
theorem consentLimits_lifted (os : Os) (started : os.Started) (H : Type) (enc : TypeId × Value → H) :
    ReturnsInHanded {} Try.checked os 4 .any (fun w args => (Rows.consentLimitsSpec.pre enc Try.prog Try.f4 Rows.consentLimitsRow.domain false w args ∧ laidMetH Try.prog Rows.consentLimitsRow.laid w) ∧ sizedMet enc Try.prog Try.f4 (OpenSpec.ofChange Rows.consentLimitsSpec) false w args)
      (Rows.consentLimitsSpec.post enc Try.prog Try.f4 false true false false) :=
  law_lifted (C := Try.checked) (fn := Try.f4) (s := Rows.consentLimitsSpec) (laid := Rows.consentLimitsRow.laid) (tb := 4) kwOwn started (by kernel_rfl) Try.func4
    (ChangeSpec.witness_shaped (enc := enc) (C := Try.checked) (os := os) (X := fun w _ => laidMetH Try.prog Rows.consentLimitsRow.laid w) false (World.laidAll Try.prog os Rows.consentLimitsRow.laid) #[.int .i64 0, .int .i64 0] 8 (World.laidAll_os _ _ _)
      (World.shaped_of_ZipB (by kernel_rfl) (by kernel_rfl)) (by kernel_rfl) (by kernel_rfl) (by kernel_rfl)
      (by rw [MakeChecks.laidMetH_plain _ _ _ (by kernel_rfl)]; exact laidMet_laidAll _ (by kernel_rfl) (by kernel_rfl)))
    kwLaid (by kernel_rfl) rfl Try.underlying4 rfl (fun ds h => by
      rw [Try.params4] at h
      match ds, h with
      | [x0, x1], _ => rfl)
    (fun W base args ds before hval hA hwt hL hsh => consentLimits_contract W base args ds before hval hA hwt hL hsh)
theorem consentLimits_holds : Rows.ConsentLimitsSaid :=
  OpenClaim.holds_of_wide 4 Try.f4 rfl rfl rfl rfl rfl rfl rfl ⟨rfl, rfl, rfl, rfl, rfl⟩ rfl rfl rfl rfl rfl (by kernel_rfl) Try.func4 (by kernel_rfl)
    (of_decide_eq_true (by kernel_rfl)) (by unfold Func.isWrapper; first | (rw [if_pos (by decide +kernel)]; kernel_rfl) | (rw [if_neg (by decide +kernel)]; exact ⟨rfl, rfl⟩))
    (fun os started H enc _ => by
      have e : ∀ w, laidMetH Try.prog Rows.consentLimitsRow.laid w := fun w => by rw [MakeChecks.laidMetH_plain _ _ _ (by kernel_rfl)]; exact ⟨[], rfl, List.nodup_nil, fun _ _ h => by cases h⟩
      have h := consentLimits_lifted os started H enc
      have hp : (fun (w : World) (args : Array Value) => (Rows.consentLimitsSpec.pre enc Try.prog Try.f4 Rows.consentLimitsRow.domain false w args ∧ laidMetH Try.prog Rows.consentLimitsRow.laid w) ∧ sizedMet enc Try.prog Try.f4 (OpenSpec.ofChange Rows.consentLimitsSpec) false w args) = Rows.consentLimitsRow.pre enc Try.prog Try.f4 (OpenSpec.ofChange Rows.consentLimitsSpec) := by
        funext w args
        exact propext ⟨fun h => ⟨h.1.1, h.2⟩, fun h => ⟨⟨h.1, e w⟩, h.2⟩⟩
      rw [hp] at h
      exact h)
end Go.Proofs.Ytijiipelpgmhpaa
