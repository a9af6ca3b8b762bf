/- LoginPlays: for every input the law returns true, and its arguments read behind the call as before. Conditions: those of the given card, no other. -/
import Derived.Test.YtkhodjenbganfaaGreatDoorKwRLoginPlays
set_option linter.unusedVariables false
set_option linter.unusedSimpArgs false
set_option maxHeartbeats 8000000
namespace Go.Proofs.YtkhodjenbganfaaGreatDoor
open Go Go.KW Go.KW.S Go.RowKit Go.ChangeShapes Go.WideShapes Go.ChangeAt
set_option maxRecDepth 100000 in
theorem loginPlays_contract (W : World) (base : Nat) (args : Array Value) {H : Type} {enc : TypeId × Value → H} (ds : List (DataW H)) (before : List MemPlace)
  (hval : ∀ (j : Nat) t v, Tryz.f6.params[j]? = some t → args[j]? = some v → Value.okWide Tryz.prog W .any base t v)
  (hA : DataW.TrodAll enc Tryz.prog W 0 (fun _ => true) true Tryz.f6.params.toList args.toList ds before)
  (hwt : (DataW.weightsEach Tryz.prog Tryz.f6.params.toList ds).all (· ≤ reachBytes) = true) (hL : laidMetH Tryz.prog Rows.loginPlaysRow.laid W) (hsh : W.ShapedOpen Tryz.prog) :
  Calls Tryz.prog 6 args W (Ret fun v W' => v = .bool true ∧ Below W.heap.size W W') := by
 have hg := gs_of hL hsh
 obtain ⟨av, rfl⟩ : ∃ av : List Value, args = av.toArray := ⟨args.toList, by simp⟩
 rw [Tryz.params6] at hA hval hwt
 simp only [List.toList_toArray] at hA hwt
 obtain ⟨v0, as0, d0, ds0, p0, q0, rfl, rfl, rfl, h0, hA⟩ := trodAll_cons hA
 obtain ⟨w0, hwt⟩ := weights_cons hwt
 obtain ⟨v1, as1, d1, ds1, p1, q1, rfl, rfl, rfl, h1, hA⟩ := trodAll_cons hA
 obtain ⟨w1, hwt⟩ := weights_cons hwt
 obtain ⟨v2, as2, d2, ds2, p2, q2, rfl, rfl, rfl, h2, hA⟩ := trodAll_cons hA
 obtain ⟨w2, hwt⟩ := weights_cons hwt
 obtain ⟨rfl, rfl, rfl⟩ := trodAll_nil hA
 obtain ⟨x0, rfl, z0⟩ := arg_int Tryz.underlying3 (hval 0 3 v0 rfl rfl) h0
 obtain ⟨x1, rfl, z1⟩ := arg_int Tryz.underlying3 (hval 1 3 v1 rfl rfl) h1
 obtain ⟨x2, s2, z2⟩ := arg_slice Tryz.underlying22 Tryz.opn22 (hval 2 22 v2 rfl rfl) h2 w2
 exact law39_LoginPlays_ok W hg (ρA := fun _ => 0) (fun b h => absurd rfl h) ⟨rfl, fun _ _ => rfl, rfl⟩ (s2.weak fun b h => absurd rfl h) (plays_true x0 x1 x2 (fits_of z2.1))
set_option maxRecDepth 100000 in
theorem loginPlays_lifted (os : Os) (started : os.Started) (H : Type) (enc : TypeId × Value → H) :
  ReturnsInHanded {} Tryz.checked os 6 .any (fun w args => (Rows.loginPlaysSpec.pre enc Tryz.prog Tryz.f6 Rows.loginPlaysRow.domain false w args ∧ laidMetH Tryz.prog Rows.loginPlaysRow.laid w) ∧ sizedMet enc Tryz.prog Tryz.f6 (OpenSpec.ofChange Rows.loginPlaysSpec) false w args)
   (Rows.loginPlaysSpec.post enc Tryz.prog Tryz.f6 false true false false) :=
 law_lifted (C := Tryz.checked) (fn := Tryz.f6) (s := Rows.loginPlaysSpec) (laid := Rows.loginPlaysRow.laid) (tb := 4) kwOwn started (by kernel_rfl) Tryz.func6
  (ChangeSpec.witness_shaped (enc := enc) (C := Tryz.checked) (os := os) (X := fun w _ => laidMetH Tryz.prog Rows.loginPlaysRow.laid w) false (World.laidAll Tryz.prog os Rows.loginPlaysRow.laid) #[.int .i64 0, .int .i64 0, .slice none 0 0] 8 (World.laidAll_os _ _ _)
   (World.shaped_of_ZipB (by kernel_rfl) (by kernel_rfl)) (by kernel_rfl) (by kernel_rfl) (by kernel_rfl)
   (by rw [MakeChecks.laidMetH_plain _ _ _ (by kernel_rfl)]; exact laidMet_laidAll _ (by kernel_rfl) (by kernel_rfl)))
  kwLaid (by kernel_rfl) rfl Tryz.underlying4 rfl (fun ds h => by
   rw [Tryz.params6] at h
   match ds, h with
   | [x0, x1, x2], _ => rfl)
  (fun W base args ds before hval hA hwt hL hsh => loginPlays_contract W base args ds before hval hA hwt hL hsh)
theorem loginPlays_holds : Rows.LoginPlaysSaid :=
 OpenClaim.holds_of_wide 6 Tryz.f6 rfl rfl rfl rfl rfl rfl rfl ⟨rfl, rfl, rfl, rfl, rfl⟩ rfl rfl rfl rfl rfl (by kernel_rfl) Tryz.func6 (by kernel_rfl)
  (of_decide_eq_true (by kernel_rfl)) (by unfold Func.isWrapper; first | (rw [if_pos (by decide +kernel)]; kernel_rfl) | (rw [if_neg (by decide +kernel)]; exact ⟨rfl, rfl⟩))
  (fun os started H enc _ => loginPlays_lifted os started H enc)
theorem loginPlays_card : Rows.LoginPlaysCardSaid :=
 Claim7.holds_tied_plain_at .later [] [.data, .data, .data, .data, .data, .pinned] true (true, "fa8c47af7d0e6a33cb570eac993ba647b68f8b5251408ccc6ec56a6600e8888f") false loginPlays_holds (fun _ h => by cases h) (by kernel_rfl) (fun _ h => by cases h) loginPlays_row_tie rfl ⟨rfl, rfl⟩ (by kernel_rfl) rfl
  (fun f fn hf hfn => by
   obtain rfl : f = 6 := Option.some.inj ((show Tryz.prog.funcNamed Tryz.f6.name = some 6 by kernel_rfl).symm.trans hf) |>.symm
   obtain rfl : fn = Tryz.f6 := (Option.some.inj (Tryz.func6.symm.trans hfn)).symm
   exact ⟨by kernel_rfl, fun j t ht => by
    rw [Tryz.params6] at ht
    have hm : t ∈ [3, 3, 22] := by simpa using Array.mem_of_getElem? ht
    have hall : ([3, 3, 22].all fun u => !Tryz.prog.wantsStandIn u) = true := by kernel_rfl
    exact (show Tryz.prog.wantsStandIn t = false by simpa using List.all_eq_true.1 hall t hm)⟩)
  (by kernel_rfl)
end Go.Proofs.YtkhodjenbganfaaGreatDoor
