/- DeviceChallenges: for every input the law returns true, and its arguments read behind the call as before. Conditions: those of the given card, no other. -/
import Derived.Test.YtangcaaneobhnaaDoorKwR
set_option linter.unusedVariables false
set_option linter.unusedSimpArgs false
set_option maxHeartbeats 8000000
namespace Go.Proofs.YtangcaaneobhnaaDoor
open Go Go.KW Go.KW.S Go.RowKit Go.ChangeShapes Go.WideShapes Go.ChangeAt
set_option maxRecDepth 100000 in
theorem deviceChallenges_contract (W : World) (base : Nat) (args : Array Value) {H : Type} {enc : TypeId × Value → H} (ds : List (DataW H)) (before : List MemPlace)
    (hval : ∀ (j : Nat) t v, Tryd.f4.params[j]? = some t → args[j]? = some v → Value.okWide Tryd.prog W .any base t v)
    (hA : DataW.TrodAll enc Tryd.prog W 0 (fun _ => true) true Tryd.f4.params.toList args.toList ds before)
    (hwt : (DataW.weightsEach Tryd.prog Tryd.f4.params.toList ds).all (· ≤ reachBytes) = true) (hL : laidMetH Tryd.prog Rows.deviceChallengesRow.laid W) (hsh : W.ShapedOpen Tryd.prog) :
    Calls Tryd.prog 4 args W (Ret fun v W' => v = .bool true ∧ Below W.heap.size W W') := by
  have hg := gs_of hL hsh
  obtain ⟨av, rfl⟩ : ∃ av : List Value, args = av.toArray := ⟨args.toList, by simp⟩
  rw [Tryd.params4] at hA hval hwt
  simp only [List.toList_toArray] at hA hwt
  obtain ⟨v0, as0, d0, ds0, p0, q0, rfl, rfl, rfl, h0, hA⟩ := trodAll_cons hA
  obtain ⟨w0, hwt⟩ := weights_cons hwt
  obtain ⟨rfl, rfl, rfl⟩ := trodAll_nil hA
  obtain ⟨x0, s0, z0⟩ := arg_slice Tryd.underlying22 Tryd.opn22 (hval 0 22 v0 rfl rfl) h0 w0
  exact law37_DeviceChallenges_ok W hg (ρA := fun _ => 0) (fun b h => absurd rfl h) ⟨rfl, fun _ _ => rfl, rfl⟩ (s0.weak fun b h => absurd rfl h) (challenges_true x0 (fits_of z0.1))
set_option maxRecDepth 100000 in
theorem deviceChallenges_lifted (os : Os) (started : os.Started) (H : Type) (enc : TypeId × Value → H) :
    ReturnsInHanded {} Tryd.checked os 4 .any (fun w args => (Rows.deviceChallengesSpec.pre enc Tryd.prog Tryd.f4 Rows.deviceChallengesRow.domain false w args ∧ laidMetH Tryd.prog Rows.deviceChallengesRow.laid w) ∧ sizedMet enc Tryd.prog Tryd.f4 (OpenSpec.ofChange Rows.deviceChallengesSpec) false w args)
      (Rows.deviceChallengesSpec.post enc Tryd.prog Tryd.f4 false true false false) :=
  law_lifted (C := Tryd.checked) (fn := Tryd.f4) (s := Rows.deviceChallengesSpec) (laid := Rows.deviceChallengesRow.laid) (tb := 4) kwOwn started (by kernel_rfl) Tryd.func4
    (ChangeSpec.witness_shaped (enc := enc) (C := Tryd.checked) (os := os) (X := fun w _ => laidMetH Tryd.prog Rows.deviceChallengesRow.laid w) false (World.laidAll Tryd.prog os Rows.deviceChallengesRow.laid) #[.slice none 0 0] 8 (World.laidAll_os _ _ _)
      (World.shaped_of_ZipB (by kernel_rfl) (by kernel_rfl)) (by kernel_rfl) (by kernel_rfl) (by kernel_rfl)
      (by rw [MakeChecks.laidMetH_plain _ _ _ (by kernel_rfl)]; exact laidMet_laidAll _ (by kernel_rfl) (by kernel_rfl)))
    kwLaid (by kernel_rfl) rfl Tryd.underlying4 rfl (fun ds h => by
      rw [Tryd.params4] at h
      match ds, h with
      | [x0], _ => rfl)
    (fun W base args ds before hval hA hwt hL hsh => deviceChallenges_contract W base args ds before hval hA hwt hL hsh)
theorem deviceChallenges_holds : Rows.DeviceChallengesSaid :=
  OpenClaim.holds_of_wide 4 Tryd.f4 rfl rfl rfl rfl rfl rfl rfl ⟨rfl, rfl, rfl, rfl, rfl⟩ rfl rfl rfl rfl rfl (by kernel_rfl) Tryd.func4 (by kernel_rfl)
    (of_decide_eq_true (by kernel_rfl)) (by unfold Func.isWrapper; first | (rw [if_pos (by decide +kernel)]; kernel_rfl) | (rw [if_neg (by decide +kernel)]; exact ⟨rfl, rfl⟩))
    (fun os started H enc _ => deviceChallenges_lifted os started H enc)
theorem deviceChallenges_card : Rows.DeviceChallengesCardSaid :=
  Claim7.holds_tied_plain_at .later [] [.data, .data, .data, .data, .data, .pinned] true (true, "4845a5bc437e879e97a5f699906d433d7f89255b4875a3e7ec73dce9ef688289") false deviceChallenges_holds (fun _ h => by cases h) (by kernel_rfl) (fun _ h => by cases h) deviceChallenges_row_tie rfl ⟨rfl, rfl⟩ (by kernel_rfl) rfl
    (fun f fn hf hfn => by
      obtain rfl : f = 4 := Option.some.inj ((show Tryd.prog.funcNamed Tryd.f4.name = some 4 by kernel_rfl).symm.trans hf) |>.symm
      obtain rfl : fn = Tryd.f4 := (Option.some.inj (Tryd.func4.symm.trans hfn)).symm
      exact ⟨by kernel_rfl, fun j t ht => by
        rw [Tryd.params4] at ht
        have hm : t ∈ [22] := by simpa using Array.mem_of_getElem? ht
        have hall : ([22].all fun u => !Tryd.prog.wantsStandIn u) = true := by kernel_rfl
        exact (show Tryd.prog.wantsStandIn t = false by simpa using List.all_eq_true.1 hall t hm)⟩)
    (by kernel_rfl)
end Go.Proofs.YtangcaaneobhnaaDoor
