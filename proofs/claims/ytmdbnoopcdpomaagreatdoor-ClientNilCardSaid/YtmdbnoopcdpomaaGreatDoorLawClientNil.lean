/- ClientNil: for every input the law returns true, and its arguments read behind the call as before. Conditions: those of the given card, no other. -/
import Derived.Test.YtmdbnoopcdpomaaGreatDoorKwRClientNil
set_option linter.unusedVariables false
set_option linter.unusedSimpArgs false
set_option maxHeartbeats 8000000
namespace Go.Proofs.YtmdbnoopcdpomaaGreatDoor
open Go Go.KW Go.KW.S Go.RowKit Go.ChangeShapes Go.WideShapes Go.ChangeAt
set_option maxRecDepth 100000 in
theorem clientNil_contract (W : World) (base : Nat) (args : Array Value) {H : Type} {enc : TypeId × Value → H} (ds : List (DataW H)) (before : List MemPlace)
    (hval : ∀ (j : Nat) t v, Tryz.f8.params[j]? = some t → args[j]? = some v → Value.okWide Tryz.prog W .any base t v)
    (hA : DataW.TrodAll enc Tryz.prog W 0 (fun _ => true) true Tryz.f8.params.toList args.toList ds before)
    (hwt : (DataW.weightsEach Tryz.prog Tryz.f8.params.toList ds).all (· ≤ reachBytes) = true) (hL : laidMetH Tryz.prog Rows.clientNilRow.laid W) (hsh : W.ShapedOpen Tryz.prog) :
    Calls Tryz.prog 8 args W (Ret fun v W' => v = .bool true ∧ Below W.heap.size W W') := by
  have hg := gs_of hL hsh
  obtain ⟨av, rfl⟩ : ∃ av : List Value, args = av.toArray := ⟨args.toList, by simp⟩
  rw [Tryz.params8] at hA hval hwt
  simp only [List.toList_toArray] at hA hwt
  obtain ⟨v0, as0, d0, ds0, p0, q0, rfl, rfl, rfl, h0, hA⟩ := trodAll_cons hA
  obtain ⟨w0, hwt⟩ := weights_cons hwt
  obtain ⟨rfl, rfl, rfl⟩ := trodAll_nil hA
  obtain ⟨cs0, x0, rfl, s0, z0⟩ := arg_struct Tryz.underlying44 Tryz.opn44 (hval 0 44 v0 rfl rfl) h0 w0
  obtain ⟨u0_0, u0_1, u0_2, hc0, ku0_0, ku0_1, ku0_2⟩ := s0
  obtain ⟨cs0⟩ := cs0; simp only at hc0; subst hc0
  exact law36_ClientNil_ok W hg (ρA := fun _ => 0) (fun b h => absurd rfl h) ⟨rfl, rfl⟩ (ku0_0.weak fun b h => absurd rfl h) (ku0_1.weak fun b h => absurd rfl h) (ku0_2.weak fun b h => absurd rfl h) (nil_true x0 ⟨⟨fits_of z0.2.1.2.2.2.2.1.1, fits_of z0.2.1.2.2.2.2.2.1.1⟩, fits_of z0.2.2.2.2.1⟩)
set_option maxRecDepth 100000 in
theorem clientNil_lifted (os : Os) (started : os.Started) (H : Type) (enc : TypeId × Value → H) :
    ReturnsInHanded {} Tryz.checked os 8 .any (fun w args => (Rows.clientNilSpec.pre enc Tryz.prog Tryz.f8 Rows.clientNilRow.domain false w args ∧ laidMetH Tryz.prog Rows.clientNilRow.laid w) ∧ sizedMet enc Tryz.prog Tryz.f8 (OpenSpec.ofChange Rows.clientNilSpec) false w args)
      (Rows.clientNilSpec.post enc Tryz.prog Tryz.f8 false true false false) :=
  law_lifted (C := Tryz.checked) (fn := Tryz.f8) (s := Rows.clientNilSpec) (laid := Rows.clientNilRow.laid) (tb := 4) kwOwn started (by kernel_rfl) Tryz.func8
    (ChangeSpec.witness_shaped (enc := enc) (C := Tryz.checked) (os := os) (X := fun w _ => laidMetH Tryz.prog Rows.clientNilRow.laid w) false (World.laidAll Tryz.prog os Rows.clientNilRow.laid) #[.agg #[.int .i64 0, .string ByteArray.empty, .int .i64 0, .string ByteArray.empty, .string ByteArray.empty, .int .i64 0, .string ByteArray.empty, .slice none 0 0, .slice none 0 0, .string ByteArray.empty, .string ByteArray.empty, .string ByteArray.empty, .slice none 0 0]] 8 (World.laidAll_os _ _ _)
      (World.shaped_of_ZipB (by kernel_rfl) (by kernel_rfl)) (by kernel_rfl) (by kernel_rfl) (by kernel_rfl)
      (by rw [MakeChecks.laidMetH_plain _ _ _ (by kernel_rfl)]; exact laidMet_laidAll _ (by kernel_rfl) (by kernel_rfl)))
    kwLaid (by kernel_rfl) rfl Tryz.underlying4 rfl (fun ds h => by
      rw [Tryz.params8] at h
      match ds, h with
      | [x0], _ => rfl)
    (fun W base args ds before hval hA hwt hL hsh => clientNil_contract W base args ds before hval hA hwt hL hsh)
theorem clientNil_holds : Rows.ClientNilSaid :=
  OpenClaim.holds_of_wide 8 Tryz.f8 rfl rfl rfl rfl rfl rfl rfl ⟨rfl, rfl, rfl, rfl, rfl⟩ rfl rfl rfl rfl rfl (by kernel_rfl) Tryz.func8 (by kernel_rfl)
    (of_decide_eq_true (by kernel_rfl)) (by unfold Func.isWrapper; first | (rw [if_pos (by decide +kernel)]; kernel_rfl) | (rw [if_neg (by decide +kernel)]; exact ⟨rfl, rfl⟩))
    (fun os started H enc _ => clientNil_lifted os started H enc)
theorem clientNil_card : Rows.ClientNilCardSaid :=
  Claim7.holds_tied_plain_at .later [] [.data, .data, .pinned] true (true, "4a5c67332ba28e281378252b54b769322b0163896173382bb608a4a2b09005ac") false clientNil_holds (fun _ h => by cases h) (by kernel_rfl) (fun _ h => by cases h) clientNil_row_tie rfl ⟨rfl, rfl⟩ (by kernel_rfl) rfl
    (fun f fn hf hfn => by
      obtain rfl : f = 8 := Option.some.inj ((show Tryz.prog.funcNamed Tryz.f8.name = some 8 by kernel_rfl).symm.trans hf) |>.symm
      obtain rfl : fn = Tryz.f8 := (Option.some.inj (Tryz.func8.symm.trans hfn)).symm
      exact ⟨by kernel_rfl, fun j t ht => by
        rw [Tryz.params8] at ht
        have hm : t ∈ [44] := by simpa using Array.mem_of_getElem? ht
        have hall : ([44].all fun u => !Tryz.prog.wantsStandIn u) = true := by kernel_rfl
        exact (show Tryz.prog.wantsStandIn t = false by simpa using List.all_eq_true.1 hall t hm)⟩)
    (by kernel_rfl)
end Go.Proofs.YtmdbnoopcdpomaaGreatDoor
