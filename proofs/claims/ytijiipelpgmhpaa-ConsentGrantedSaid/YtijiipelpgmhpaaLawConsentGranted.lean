/- ConsentGranted: for every input the law returns true, and its arguments read behind the call as before. Conditions: those of the given card, no other. -/
import Derived.Test.YtijiipelpgmhpaaKwRConsentGranted
set_option linter.unusedVariables false
set_option linter.unusedSimpArgs false
set_option maxHeartbeats 8000000
namespace Go.Proofs.Ytijiipelpgmhpaa
open Go Go.KW Go.KW.S Go.RowKit Go.ChangeShapes Go.WideShapes Go.ChangeAt
set_option maxRecDepth 100000 in
theorem consentGranted_contract (W : World) (base : Nat) (args : Array Value) {H : Type} {enc : TypeId × Value → H} (ds : List (DataW H)) (before : List MemPlace)
    (hval : ∀ (j : Nat) t v, Try.f6.params[j]? = some t → args[j]? = some v → Value.okWide Try.prog W .any base t v)
    (hA : DataW.TrodAll enc Try.prog W 0 (fun _ => true) true Try.f6.params.toList args.toList ds before)
    (hwt : (DataW.weightsEach Try.prog Try.f6.params.toList ds).all (· ≤ reachBytes) = true) (hL : laidMetH Try.prog Rows.consentGrantedRow.laid W) (hsh : W.ShapedOpen Try.prog) :
    Calls Try.prog 6 args W (Ret fun v W' => v = .bool true ∧ Below W.heap.size W W') := by
  have hg := gs_of W hsh
  obtain ⟨av, rfl⟩ : ∃ av : List Value, args = av.toArray := ⟨args.toList, by simp⟩
  rw [Try.params6] at hA hval hwt
  simp only [List.toList_toArray] at hA hwt
  obtain ⟨v0, as0, d0, ds0, p0, q0, rfl, rfl, rfl, h0, hA⟩ := trodAll_cons hA
  obtain ⟨w0, hwt⟩ := weights_cons hwt
  obtain ⟨v1, as1, d1, ds1, p1, q1, rfl, rfl, rfl, h1, hA⟩ := trodAll_cons hA
  obtain ⟨w1, hwt⟩ := weights_cons hwt
  obtain ⟨v2, as2, d2, ds2, p2, q2, rfl, rfl, rfl, h2, hA⟩ := trodAll_cons hA
  obtain ⟨w2, hwt⟩ := weights_cons hwt
  obtain ⟨rfl, rfl, rfl⟩ := trodAll_nil hA
  obtain ⟨x0, s0, z0⟩ := arg_slice Try.underlying22 Try.opn22 (hval 0 22 v0 rfl rfl) h0 w0
  obtain ⟨cs1, x1, rfl, s1, z1⟩ := arg_struct Try.underlying32 Try.opn32 (hval 1 32 v1 rfl rfl) h1 w1
  obtain ⟨u1_0, hc1, ku1_0⟩ := s1
  obtain ⟨cs1⟩ := cs1; simp only at hc1; subst hc1
  obtain ⟨x2, rfl, z2⟩ := arg_int Try.underlying3 (hval 2 3 v2 rfl rfl) h2
  exact law32_ConsentGranted_ok W hg (ρA := fun _ => 0) (fun b h => absurd rfl h) ⟨rfl⟩ (s0.weak fun b h => absurd rfl h) (ku1_0.weak fun b h => absurd rfl h) (granted_true x0 x1 x2 (fits_of z0.1))
set_option maxRecDepth 100000 in
theorem consentGranted_lifted (os : Os) (started : os.Started) (H : Type) (enc : TypeId × Value → H) :
    ReturnsInHanded {} Try.checked os 6 .any (fun w args => (Rows.consentGrantedSpec.pre enc Try.prog Try.f6 Rows.consentGrantedRow.domain false w args ∧ laidMetH Try.prog Rows.consentGrantedRow.laid w) ∧ sizedMet enc Try.prog Try.f6 (OpenSpec.ofChange Rows.consentGrantedSpec) false w args)
      (Rows.consentGrantedSpec.post enc Try.prog Try.f6 false true false false) :=
  law_lifted (C := Try.checked) (fn := Try.f6) (s := Rows.consentGrantedSpec) (laid := Rows.consentGrantedRow.laid) (tb := 4) kwOwn started (by kernel_rfl) Try.func6
    (ChangeSpec.witness_shaped (enc := enc) (C := Try.checked) (os := os) (X := fun w _ => laidMetH Try.prog Rows.consentGrantedRow.laid w) false (World.laidAll Try.prog os Rows.consentGrantedRow.laid) #[.slice none 0 0, .agg #[.int .i64 0, .int .i64 0, .int .i64 0, .string ByteArray.empty, .string ByteArray.empty, .slice none 0 0], .int .i64 0] 8 (World.laidAll_os _ _ _)
      (World.shaped_of_ZipB (by kernel_rfl) (by kernel_rfl)) (by kernel_rfl) (by kernel_rfl) (by kernel_rfl)
      (by rw [MakeChecks.laidMetH_plain _ _ _ (by kernel_rfl)]; exact laidMet_laidAll _ (by kernel_rfl) (by kernel_rfl)))
    kwLaid (by kernel_rfl) rfl Try.underlying4 rfl (fun ds h => by
      rw [Try.params6] at h
      match ds, h with
      | [x0, x1, x2], _ => rfl)
    (fun W base args ds before hval hA hwt hL hsh => consentGranted_contract W base args ds before hval hA hwt hL hsh)
theorem consentGranted_holds : Rows.ConsentGrantedSaid :=
  OpenClaim.holds_of_wide 6 Try.f6 rfl rfl rfl rfl rfl rfl rfl ⟨rfl, rfl, rfl, rfl, rfl⟩ rfl rfl rfl rfl rfl (by kernel_rfl) Try.func6 (by kernel_rfl)
    (of_decide_eq_true (by kernel_rfl)) (by unfold Func.isWrapper; first | (rw [if_pos (by decide +kernel)]; kernel_rfl) | (rw [if_neg (by decide +kernel)]; exact ⟨rfl, rfl⟩))
    (fun os started H enc _ => by
      have e : ∀ w, laidMetH Try.prog Rows.consentGrantedRow.laid w := fun w => by rw [MakeChecks.laidMetH_plain _ _ _ (by kernel_rfl)]; exact ⟨[], rfl, List.nodup_nil, fun _ _ h => by cases h⟩
      have h := consentGranted_lifted os started H enc
      have hp : (fun (w : World) (args : Array Value) => (Rows.consentGrantedSpec.pre enc Try.prog Try.f6 Rows.consentGrantedRow.domain false w args ∧ laidMetH Try.prog Rows.consentGrantedRow.laid w) ∧ sizedMet enc Try.prog Try.f6 (OpenSpec.ofChange Rows.consentGrantedSpec) false w args) = Rows.consentGrantedRow.pre enc Try.prog Try.f6 (OpenSpec.ofChange Rows.consentGrantedSpec) := by
        funext w args
        exact propext ⟨fun h => ⟨h.1.1, h.2⟩, fun h => ⟨⟨h.1, e w⟩, h.2⟩⟩
      rw [hp] at h
      exact h)
end Go.Proofs.Ytijiipelpgmhpaa
