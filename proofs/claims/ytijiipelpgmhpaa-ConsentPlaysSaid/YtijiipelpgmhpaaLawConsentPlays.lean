/- ConsentPlays: for every input the law returns true, and its arguments read behind the call as before. Conditions: those of the given card, no other. -/
import Derived.Test.YtijiipelpgmhpaaKwRConsentPlays
set_option linter.unusedVariables false
set_option linter.unusedSimpArgs false
set_option maxHeartbeats 8000000
namespace Go.Proofs.Ytijiipelpgmhpaa
open Go Go.KW Go.KW.S Go.RowKit Go.ChangeShapes Go.WideShapes Go.ChangeAt
set_option maxRecDepth 100000 in
theorem consentPlays_contract (W : World) (base : Nat) (args : Array Value) {H : Type} {enc : TypeId × Value → H} (ds : List (DataW H)) (before : List MemPlace)
    (hval : ∀ (j : Nat) t v, Try.f3.params[j]? = some t → args[j]? = some v → Value.okWide Try.prog W .any base t v)
    (hA : DataW.TrodAll enc Try.prog W 0 (fun _ => true) true Try.f3.params.toList args.toList ds before)
    (hwt : (DataW.weightsEach Try.prog Try.f3.params.toList ds).all (· ≤ reachBytes) = true) (hL : laidMetH Try.prog Rows.consentPlaysRow.laid W) (hsh : W.ShapedOpen Try.prog) :
    Calls Try.prog 3 args W (Ret fun v W' => v = .bool true ∧ Below W.heap.size W W') := by
  have hg := gs_of W hsh
  obtain ⟨av, rfl⟩ : ∃ av : List Value, args = av.toArray := ⟨args.toList, by simp⟩
  rw [Try.params3] at hA hval hwt
  simp only [List.toList_toArray] at hA hwt
  obtain ⟨v0, as0, d0, ds0, p0, q0, rfl, rfl, rfl, h0, hA⟩ := trodAll_cons hA
  obtain ⟨w0, hwt⟩ := weights_cons hwt
  obtain ⟨v1, as1, d1, ds1, p1, q1, rfl, rfl, rfl, h1, hA⟩ := trodAll_cons hA
  obtain ⟨w1, hwt⟩ := weights_cons hwt
  obtain ⟨rfl, rfl, rfl⟩ := trodAll_nil hA
  obtain ⟨x0, s0, z0⟩ := arg_slice Try.underlying22 Try.opn22 (hval 0 22 v0 rfl rfl) h0 w0
  obtain ⟨x1, rfl, z1⟩ := arg_int Try.underlying3 (hval 1 3 v1 rfl rfl) h1
  exact law32_ConsentPlays_ok W hg (ρA := fun _ => 0) (fun b h => absurd rfl h) ⟨rfl⟩ (s0.weak fun b h => absurd rfl h) (plays_true x0 x1 (fits_of z0.1))
set_option maxRecDepth 100000 in
theorem consentPlays_lifted (os : Os) (started : os.Started) (H : Type) (enc : TypeId × Value → H) :
    ReturnsInHanded {} Try.checked os 3 .any (fun w args => (Rows.consentPlaysSpec.pre enc Try.prog Try.f3 Rows.consentPlaysRow.domain false w args ∧ laidMetH Try.prog Rows.consentPlaysRow.laid w) ∧ sizedMet enc Try.prog Try.f3 (OpenSpec.ofChange Rows.consentPlaysSpec) false w args)
      (Rows.consentPlaysSpec.post enc Try.prog Try.f3 false true false false) :=
  law_lifted (C := Try.checked) (fn := Try.f3) (s := Rows.consentPlaysSpec) (laid := Rows.consentPlaysRow.laid) (tb := 4) kwOwn started (by kernel_rfl) Try.func3
    (ChangeSpec.witness_shaped (enc := enc) (C := Try.checked) (os := os) (X := fun w _ => laidMetH Try.prog Rows.consentPlaysRow.laid w) false (World.laidAll Try.prog os Rows.consentPlaysRow.laid) #[.slice none 0 0, .int .i64 0] 8 (World.laidAll_os _ _ _)
      (World.shaped_of_ZipB (by kernel_rfl) (by kernel_rfl)) (by kernel_rfl) (by kernel_rfl) (by kernel_rfl)
      (by rw [MakeChecks.laidMetH_plain _ _ _ (by kernel_rfl)]; exact laidMet_laidAll _ (by kernel_rfl) (by kernel_rfl)))
    kwLaid (by kernel_rfl) rfl Try.underlying4 rfl (fun ds h => by
      rw [Try.params3] at h
      match ds, h with
      | [x0, x1], _ => rfl)
    (fun W base args ds before hval hA hwt hL hsh => consentPlays_contract W base args ds before hval hA hwt hL hsh)
theorem consentPlays_holds : Rows.ConsentPlaysSaid :=
  OpenClaim.holds_of_wide 3 Try.f3 rfl rfl rfl rfl rfl rfl rfl ⟨rfl, rfl, rfl, rfl, rfl⟩ rfl rfl rfl rfl rfl (by kernel_rfl) Try.func3 (by kernel_rfl)
    (of_decide_eq_true (by kernel_rfl)) (by unfold Func.isWrapper; first | (rw [if_pos (by decide +kernel)]; kernel_rfl) | (rw [if_neg (by decide +kernel)]; exact ⟨rfl, rfl⟩))
    (fun os started H enc _ => by
      have e : ∀ w, laidMetH Try.prog Rows.consentPlaysRow.laid w := fun w => by rw [MakeChecks.laidMetH_plain _ _ _ (by kernel_rfl)]; exact ⟨[], rfl, List.nodup_nil, fun _ _ h => by cases h⟩
      have h := consentPlays_lifted os started H enc
      have hp : (fun (w : World) (args : Array Value) => (Rows.consentPlaysSpec.pre enc Try.prog Try.f3 Rows.consentPlaysRow.domain false w args ∧ laidMetH Try.prog Rows.consentPlaysRow.laid w) ∧ sizedMet enc Try.prog Try.f3 (OpenSpec.ofChange Rows.consentPlaysSpec) false w args) = Rows.consentPlaysRow.pre enc Try.prog Try.f3 (OpenSpec.ofChange Rows.consentPlaysSpec) := by
        funext w args
        exact propext ⟨fun h => ⟨h.1.1, h.2⟩, fun h => ⟨⟨h.1, e w⟩, h.2⟩⟩
      rw [hp] at h
      exact h)
end Go.Proofs.Ytijiipelpgmhpaa
