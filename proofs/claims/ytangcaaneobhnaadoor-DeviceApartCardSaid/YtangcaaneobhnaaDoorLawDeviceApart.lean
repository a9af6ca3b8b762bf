/- DeviceApart: for every input the law returns true, and its arguments read behind the call as before. Conditions: those of the given card, no other. -/
import Derived.Test.YtangcaaneobhnaaDoorKwR
set_option linter.unusedVariables false
set_option linter.unusedSimpArgs false
set_option maxHeartbeats 8000000
namespace Go.Proofs.YtangcaaneobhnaaDoor
open Go Go.KW Go.KW.S Go.RowKit Go.ChangeShapes Go.WideShapes Go.ChangeAt
set_option maxRecDepth 100000 in
theorem deviceApart_contract (W : World) (base : Nat) (args : Array Value) {H : Type} {enc : TypeId × Value → H} (ds : List (DataW H)) (before : List MemPlace)
    (hval : ∀ (j : Nat) t v, Tryd.f5.params[j]? = some t → args[j]? = some v → Value.okWide Tryd.prog W .any base t v)
    (hA : DataW.TrodAll enc Tryd.prog W 0 (fun _ => true) true Tryd.f5.params.toList args.toList ds before)
    (hwt : (DataW.weightsEach Tryd.prog Tryd.f5.params.toList ds).all (· ≤ reachBytes) = true) (hL : laidMetH Tryd.prog Rows.deviceApartRow.laid W) (hsh : W.ShapedOpen Tryd.prog) :
    Calls Tryd.prog 5 args W (Ret fun v W' => v = .bool true ∧ Below W.heap.size W W') := by
  have hg := gs_of hL hsh
  obtain ⟨av, rfl⟩ : ∃ av : List Value, args = av.toArray := ⟨args.toList, by simp⟩
  rw [Tryd.params5] at hA hval hwt
  simp only [List.toList_toArray] at hA hwt
  obtain ⟨v0, as0, d0, ds0, p0, q0, rfl, rfl, rfl, h0, hA⟩ := trodAll_cons hA
  obtain ⟨w0, hwt⟩ := weights_cons hwt
  obtain ⟨v1, as1, d1, ds1, p1, q1, rfl, rfl, rfl, h1, hA⟩ := trodAll_cons hA
  obtain ⟨w1, hwt⟩ := weights_cons hwt
  obtain ⟨v2, as2, d2, ds2, p2, q2, rfl, rfl, rfl, h2, hA⟩ := trodAll_cons hA
  obtain ⟨w2, hwt⟩ := weights_cons hwt
  obtain ⟨v3, as3, d3, ds3, p3, q3, rfl, rfl, rfl, h3, hA⟩ := trodAll_cons hA
  obtain ⟨w3, hwt⟩ := weights_cons hwt
  obtain ⟨v4, as4, d4, ds4, p4, q4, rfl, rfl, rfl, h4, hA⟩ := trodAll_cons hA
  obtain ⟨w4, hwt⟩ := weights_cons hwt
  obtain ⟨rfl, rfl, rfl⟩ := trodAll_nil hA
  obtain ⟨x0, s0, z0⟩ := arg_slice Tryd.underlying22 Tryd.opn22 (hval 0 22 v0 rfl rfl) h0 w0
  obtain ⟨x1, s1, z1⟩ := arg_slice Tryd.underlying22 Tryd.opn22 (hval 1 22 v1 rfl rfl) h1 w1
  obtain ⟨x2, rfl, z2⟩ := arg_str Tryd.underlying9 (hval 2 9 v2 rfl rfl) h2 w2
  obtain ⟨x3, rfl, z3⟩ := arg_str Tryd.underlying9 (hval 3 9 v3 rfl rfl) h3 w3
  obtain ⟨x4, rfl, z4⟩ := arg_int Tryd.underlying3 (hval 4 3 v4 rfl rfl) h4
  exact law37_DeviceApart_ok W hg (ρA := fun _ => 0) (fun b h => absurd rfl h) ⟨rfl, fun _ _ => rfl, rfl⟩ (s0.weak fun b h => absurd rfl h) (s1.weak fun b h => absurd rfl h) (apart_true x0 x1 x2 x3 x4 (fits_of z0.1) (fits_of z1.1))
set_option maxRecDepth 100000 in
theorem deviceApart_lifted (os : Os) (started : os.Started) (H : Type) (enc : TypeId × Value → H) :
    ReturnsInHanded {} Tryd.checked os 5 .any (fun w args => (Rows.deviceApartSpec.pre enc Tryd.prog Tryd.f5 Rows.deviceApartRow.domain false w args ∧ laidMetH Tryd.prog Rows.deviceApartRow.laid w) ∧ sizedMet enc Tryd.prog Tryd.f5 (OpenSpec.ofChange Rows.deviceApartSpec) false w args)
      (Rows.deviceApartSpec.post enc Tryd.prog Tryd.f5 false true false false) :=
  law_lifted (C := Tryd.checked) (fn := Tryd.f5) (s := Rows.deviceApartSpec) (laid := Rows.deviceApartRow.laid) (tb := 4) kwOwn started (by kernel_rfl) Tryd.func5
    (ChangeSpec.witness_shaped (enc := enc) (C := Tryd.checked) (os := os) (X := fun w _ => laidMetH Tryd.prog Rows.deviceApartRow.laid w) false (World.laidAll Tryd.prog os Rows.deviceApartRow.laid) #[.slice none 0 0, .slice none 0 0, .string ByteArray.empty, .string ByteArray.empty, .int .i64 0] 8 (World.laidAll_os _ _ _)
      (World.shaped_of_ZipB (by kernel_rfl) (by kernel_rfl)) (by kernel_rfl) (by kernel_rfl) (by kernel_rfl)
      (by rw [MakeChecks.laidMetH_plain _ _ _ (by kernel_rfl)]; exact laidMet_laidAll _ (by kernel_rfl) (by kernel_rfl)))
    kwLaid (by kernel_rfl) rfl Tryd.underlying4 rfl (fun ds h => by
      rw [Tryd.params5] at h
      match ds, h with
      | [x0, x1, x2, x3, x4], _ => rfl)
    (fun W base args ds before hval hA hwt hL hsh => deviceApart_contract W base args ds before hval hA hwt hL hsh)
theorem deviceApart_holds : Rows.DeviceApartSaid :=
  OpenClaim.holds_of_wide 5 Tryd.f5 rfl rfl rfl rfl rfl rfl rfl ⟨rfl, rfl, rfl, rfl, rfl⟩ rfl rfl rfl rfl rfl (by kernel_rfl) Tryd.func5 (by kernel_rfl)
    (of_decide_eq_true (by kernel_rfl)) (by unfold Func.isWrapper; first | (rw [if_pos (by decide +kernel)]; kernel_rfl) | (rw [if_neg (by decide +kernel)]; exact ⟨rfl, rfl⟩))
    (fun os started H enc _ => deviceApart_lifted os started H enc)
theorem deviceApart_card : Rows.DeviceApartCardSaid :=
  Claim7.holds_tied_plain_at .later [] [.data, .data, .data, .data, .data, .pinned] true (true, "4845a5bc437e879e97a5f699906d433d7f89255b4875a3e7ec73dce9ef688289") false deviceApart_holds (fun _ h => by cases h) (by kernel_rfl) (fun _ h => by cases h) deviceApart_row_tie rfl ⟨rfl, rfl⟩ (by kernel_rfl) rfl
    (fun f fn hf hfn => by
      obtain rfl : f = 5 := Option.some.inj ((show Tryd.prog.funcNamed Tryd.f5.name = some 5 by kernel_rfl).symm.trans hf) |>.symm
      obtain rfl : fn = Tryd.f5 := (Option.some.inj (Tryd.func5.symm.trans hfn)).symm
      exact ⟨by kernel_rfl, fun j t ht => by
        rw [Tryd.params5] at ht
        have hm : t ∈ [22, 22, 9, 9, 3] := by simpa using Array.mem_of_getElem? ht
        have hall : ([22, 22, 9, 9, 3].all fun u => !Tryd.prog.wantsStandIn u) = true := by kernel_rfl
        exact (show Tryd.prog.wantsStandIn t = false by simpa using List.all_eq_true.1 hall t hm)⟩)
    (by kernel_rfl)
end Go.Proofs.YtangcaaneobhnaaDoor
