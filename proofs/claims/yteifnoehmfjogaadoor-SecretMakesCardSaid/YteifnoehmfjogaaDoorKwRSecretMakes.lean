/- Own work: a part of the proofs of this seat. -/
import Derived.Test.YteifnoehmfjogaaDoorTie
import Derived.Test.YteifnoehmfjogaaDoorCards
import Derived.Test.YteifnoehmfjogaaDoorKwLSecretMakesW3
import Derived.Test.YteifnoehmfjogaaDoorKwPtr
import Derived.Test.YteifnoehmfjogaaDoorKwP22
import Derived.Test.YteifnoehmfjogaaDoorKwRow
set_option linter.unusedVariables false
set_option linter.unusedSimpArgs false
set_option maxHeartbeats 8000000
namespace Go.Proofs.YteifnoehmfjogaaDoor
open Go Go.KW Go.KW.S Go.RowKit Go.ChangeShapes Go.WideShapes Go.ChangeAt
theorem fits_of {T : Type} {xs : List T} (h : xs.length ≤ reachBytes) : fits xs := by unfold fits; unfold reachBytes at h; omega
theorem kwOwn : ownKnob Tryd.prog.godebug = none := by kernel_rfl
theorem kwLaid : laidOutB Tryd.prog = true := by kernel_rfl
set_option maxRecDepth 100000 in
theorem gs_of {W : World} (hL : laidMetH Tryd.prog Rows.secretMakesRow.laid W) (hsh : W.ShapedOpen Tryd.prog) : Gs W := by
  have h := hL
  rw [MakeChecks.laidMetH_plain _ _ _ (by kernel_rfl)] at h
  exact ⟨fun i x hx => tab_cell (Lib.tabIs_of_head (g := 0) (t := 83) (e := 5) (n := 16) (by kernel_rfl) (by kernel_rfl) Tryd.underlying83 Tryd.underlying5 (by kernel_rfl) (by kernel_rfl) (show laidMet Tryd.prog ((_, Lib.tabData .u8 tab_digest_digits) :: _) W from h)) (by kernel_rfl) hx, cell_of_shapedOpen_int hsh (g := 1) (t := 3) (zero := #[.int .i64 0]) (of_decide_eq_true (by kernel_rfl)) (by kernel_rfl) rfl (by kernel_rfl) (by kernel_rfl) (by kernel_rfl)⟩
theorem Tryd.opn9 : Opn Tryd.prog 9 strC (fun s => s.length ≤ reachBytes) := opn_str Tryd.underlying9
theorem Tryd.opn3 : Opn Tryd.prog 3 (intC .i64) (fun n => (Lit.int .i64 n).wf = true) := opn_int Tryd.underlying3
def api_Verifier.fit (x : api_Verifier) : Prop := (fun s => s.length ≤ reachBytes) x.Salt ∧ (fun n => (Lit.int .i64 n).wf = true) x.Rounds ∧ (fun s => s.length ≤ reachBytes) x.Hash
set_option maxRecDepth 100000 in
theorem Tryd.opn25 : Opn Tryd.prog 25 api_Verifier.c api_Verifier.fit := by
  intro H enc w base spare held fuel cs x hx hw
  obtain ⟨hl, hf⟩ := opn_struct Tryd.underlying25 hx hw
  have hl' : cs.length = 3 := hl.trans (by kernel_rfl)
  match cs, hl' with
  | [c0, c1, c2], _ =>
    obtain ⟨y0, hy0, ho0⟩ := hf 0 _ rfl Tryd.opn9
    have e0 : ((([c0, c1, c2] : List Value).drop 0).take (Tryd.prog.cellsOf 9)) = [c0] := by rw [show Tryd.prog.cellsOf 9 = 1 by kernel_rfl]; rfl
    change strC.rd _ w (([c0, c1, c2].drop 0).take (Tryd.prog.cellsOf 9)) y0 at hy0
    rw [e0] at hy0
    obtain ⟨y1, hy1, ho1⟩ := hf 1 _ rfl Tryd.opn3
    have e1 : ((([c0, c1, c2] : List Value).drop 1).take (Tryd.prog.cellsOf 3)) = [c1] := by rw [show Tryd.prog.cellsOf 3 = 1 by kernel_rfl]; rfl
    change (intC .i64).rd _ w (([c0, c1, c2].drop 1).take (Tryd.prog.cellsOf 3)) y1 at hy1
    rw [e1] at hy1
    obtain ⟨y2, hy2, ho2⟩ := hf 2 _ rfl Tryd.opn9
    have e2 : ((([c0, c1, c2] : List Value).drop 2).take (Tryd.prog.cellsOf 9)) = [c2] := by rw [show Tryd.prog.cellsOf 9 = 1 by kernel_rfl]; rfl
    change strC.rd _ w (([c0, c1, c2].drop 2).take (Tryd.prog.cellsOf 9)) y2 at hy2
    rw [e2] at hy2
    have hqhy0 := hy0
    simp only [intC, strC, boolC, Cdc.flat, List.cons.injEq, and_true] at hqhy0
    have hqhy1 := hy1
    simp only [intC, strC, boolC, Cdc.flat, List.cons.injEq, and_true] at hqhy1
    have hqhy2 := hy2
    simp only [intC, strC, boolC, Cdc.flat, List.cons.injEq, and_true] at hqhy2
    exact ⟨⟨y0, y1, y2⟩, by show [c0, c1, c2] = _; simp [hqhy0, hqhy1, hqhy2], ⟨ho0, ho1, ho2⟩⟩
theorem Tryd.opn22 : Opn Tryd.prog 22 (slC api_Verifier.c) (fun xs => xs.length ≤ reachBytes ∧ ∀ x ∈ xs, api_Verifier.fit x) := opn_slice Tryd.underlying22 (by kernel_rfl) (by decide) (of_decide_eq_true (by kernel_rfl)) Tryd.opn25
end Go.Proofs.YteifnoehmfjogaaDoor
