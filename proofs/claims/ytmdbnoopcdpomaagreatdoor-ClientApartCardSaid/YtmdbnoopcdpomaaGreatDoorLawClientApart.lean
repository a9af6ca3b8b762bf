/- ClientApart: for every input the law returns true, and its arguments read behind the call as before. Conditions: those of the given card, no other. -/
import Derived.Test.YtmdbnoopcdpomaaGreatDoorKwRClientApart
set_option linter.unusedVariables false
set_option linter.unusedSimpArgs false
set_option maxHeartbeats 8000000
namespace Go.Proofs.YtmdbnoopcdpomaaGreatDoor
open Go Go.KW Go.KW.S Go.RowKit Go.ChangeShapes Go.WideShapes Go.ChangeAt
set_option maxRecDepth 100000 in
theorem clientApart_contract (W : World) (base : Nat) (args : Array Value) {H : Type} {enc : TypeId × Value → H} (ds : List (DataW H)) (before : List MemPlace)
    (hval : ∀ (j : Nat) t v, Tryz.f7.params[j]? = some t → args[j]? = some v → Value.okWide Tryz.prog W .any base t v)
    (hA : DataW.TrodAll enc Tryz.prog W 0 (fun _ => true) true Tryz.f7.params.toList args.toList ds before)
    (hwt : (DataW.weightsEach Tryz.prog Tryz.f7.params.toList ds).all (· ≤ reachBytes) = true) (hL : laidMetH Tryz.prog Rows.clientApartRow.laid W) (hsh : W.ShapedOpen Tryz.prog) :
    Calls Tryz.prog 7 args W (Ret fun v W' => v = .bool true ∧ Below W.heap.size W W') := by
  have hg := gs_of hL hsh
  obtain ⟨av, rfl⟩ : ∃ av : List Value, args = av.toArray := ⟨args.toList, by simp⟩
  rw [Tryz.params7] at hA hval hwt
  simp only [List.toList_toArray] at hA hwt
  obtain ⟨v0, as0, d0, ds0, p0, q0, rfl, rfl, rfl, h0, hA⟩ := trodAll_cons hA
  obtain ⟨w0, hwt⟩ := weights_cons hwt
  obtain ⟨v1, as1, d1, ds1, p1, q1, rfl, rfl, rfl, h1, hA⟩ := trodAll_cons hA
  obtain ⟨w1, hwt⟩ := weights_cons hwt
  obtain ⟨rfl, rfl, rfl⟩ := trodAll_nil hA
  obtain ⟨x0, s0, z0⟩ := arg_slice Tryz.underlying39 Tryz.opn39 (hval 0 39 v0 rfl rfl) h0 w0
  obtain ⟨cs1, x1, rfl, s1, z1⟩ := arg_struct Tryz.underlying44 Tryz.opn44 (hval 1 44 v1 rfl rfl) h1 w1
  obtain ⟨u1_0, u1_1, u1_2, hc1, ku1_0, ku1_1, ku1_2⟩ := s1
  obtain ⟨cs1⟩ := cs1; simp only at hc1; subst hc1
  exact law36_ClientApart_ok W hg (ρA := fun _ => 0) (fun b h => absurd rfl h) ⟨rfl, rfl⟩ (s0.weak fun b h => absurd rfl h) (ku1_0.weak fun b h => absurd rfl h) (ku1_1.weak fun b h => absurd rfl h) (ku1_2.weak fun b h => absurd rfl h) (apart_true x0 x1 (fits_of z0.1) (fun o ho => ⟨⟨fits_of (z0.2 o ho).2.1.2.2.2.2.1.1, fits_of (z0.2 o ho).2.1.2.2.2.2.2.1.1⟩, fits_of (z0.2 o ho).2.2.2.2.1⟩) ⟨⟨fits_of z1.2.1.2.2.2.2.1.1, fits_of z1.2.1.2.2.2.2.2.1.1⟩, fits_of z1.2.2.2.2.1⟩)
set_option maxRecDepth 100000 in
theorem clientApart_lifted (os : Os) (started : os.Started) (H : Type) (enc : TypeId × Value → H) :
    ReturnsInHanded {} Tryz.checked os 7 .any (fun w args => (Rows.clientApartSpec.pre enc Tryz.prog Tryz.f7 Rows.clientApartRow.domain false w args ∧ laidMetH Tryz.prog Rows.clientApartRow.laid w) ∧ sizedMet enc Tryz.prog Tryz.f7 (OpenSpec.ofChange Rows.clientApartSpec) false w args)
      (Rows.clientApartSpec.post enc Tryz.prog Tryz.f7 false true false false) :=
  law_lifted (C := Tryz.checked) (fn := Tryz.f7) (s := Rows.clientApartSpec) (laid := Rows.clientApartRow.laid) (tb := 4) kwOwn started (by kernel_rfl) Tryz.func7
    (ChangeSpec.witness_shaped (enc := enc) (C := Tryz.checked) (os := os) (X := fun w _ => laidMetH Tryz.prog Rows.clientApartRow.laid w) false (World.laidAll Tryz.prog os Rows.clientApartRow.laid) #[.slice none 0 0, .agg #[.int .i64 0, .string ByteArray.empty, .int .i64 0, .string ByteArray.empty, .string ByteArray.empty, .int .i64 0, .string ByteArray.empty, .slice none 0 0, .slice none 0 0, .string ByteArray.empty, .string ByteArray.empty, .string ByteArray.empty, .slice none 0 0]] 8 (World.laidAll_os _ _ _)
      (World.shaped_of_ZipB (by kernel_rfl) (by kernel_rfl)) (by kernel_rfl) (by kernel_rfl) (by kernel_rfl)
      (by rw [MakeChecks.laidMetH_plain _ _ _ (by kernel_rfl)]; exact laidMet_laidAll _ (by kernel_rfl) (by kernel_rfl)))
    kwLaid (by kernel_rfl) rfl Tryz.underlying4 rfl (fun ds h => by
      rw [Tryz.params7] at h
      match ds, h with
      | [x0, x1], _ => rfl)
    (fun W base args ds before hval hA hwt hL hsh => clientApart_contract W base args ds before hval hA hwt hL hsh)
theorem clientApart_holds : Rows.ClientApartSaid :=
  OpenClaim.holds_of_wide 7 Tryz.f7 rfl rfl rfl rfl rfl rfl rfl ⟨rfl, rfl, rfl, rfl, rfl⟩ rfl rfl rfl rfl rfl (by kernel_rfl) Tryz.func7 (by kernel_rfl)
    (of_decide_eq_true (by kernel_rfl)) (by unfold Func.isWrapper; first | (rw [if_pos (by decide +kernel)]; kernel_rfl) | (rw [if_neg (by decide +kernel)]; exact ⟨rfl, rfl⟩))
    (fun os started H enc _ => clientApart_lifted os started H enc)
theorem clientApart_card : Rows.ClientApartCardSaid :=
  Claim7.holds_tied_plain_at .later [] [.data, .data, .pinned] true (true, "4a5c67332ba28e281378252b54b769322b0163896173382bb608a4a2b09005ac") false clientApart_holds (fun _ h => by cases h) (by kernel_rfl) (fun _ h => by cases h) clientApart_row_tie rfl ⟨rfl, rfl⟩ (by kernel_rfl) rfl
    (fun f fn hf hfn => by
      obtain rfl : f = 7 := Option.some.inj ((show Tryz.prog.funcNamed Tryz.f7.name = some 7 by kernel_rfl).symm.trans hf) |>.symm
      obtain rfl : fn = Tryz.f7 := (Option.some.inj (Tryz.func7.symm.trans hfn)).symm
      exact ⟨by kernel_rfl, fun j t ht => by
        rw [Tryz.params7] at ht
        have hm : t ∈ [39, 44] := by simpa using Array.mem_of_getElem? ht
        have hall : ([39, 44].all fun u => !Tryz.prog.wantsStandIn u) = true := by kernel_rfl
        exact (show Tryz.prog.wantsStandIn t = false by simpa using List.all_eq_true.1 hall t hm)⟩)
    (by kernel_rfl)
end Go.Proofs.YtmdbnoopcdpomaaGreatDoor
