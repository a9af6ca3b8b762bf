/- Own work: a part of the proofs of this seat. -/
import Derived.Test.YtijiipelpgmhpaaRows
import Derived.Test.YtijiipelpgmhpaaKwIConsentPlaysW4
import Derived.Test.YtijiipelpgmhpaaKwP32
import Derived.Test.YtijiipelpgmhpaaKwRow
set_option linter.unusedVariables false
set_option linter.unusedSimpArgs false
set_option maxHeartbeats 8000000
namespace Go.Proofs.Ytijiipelpgmhpaa
open Go Go.KW Go.KW.S Go.RowKit Go.ChangeShapes Go.WideShapes Go.ChangeAt
theorem fits_of {T : Type} {xs : List T} (h : xs.length ≤ reachBytes) : fits xs := by unfold fits; unfold reachBytes at h; omega
theorem kwOwn : ownKnob Try.prog.godebug = none := by kernel_rfl
theorem kwLaid : laidOutB Try.prog = true := by kernel_rfl
theorem gs_of (W : World) (hsh : W.ShapedOpen Try.prog) : Gs W := ⟨cell_of_shapedOpen_int hsh (g := 0) (t := 3) (zero := #[.int .i64 0]) (of_decide_eq_true (by kernel_rfl)) (by kernel_rfl) rfl (by kernel_rfl) (by kernel_rfl) (by kernel_rfl)⟩
theorem Try.opn3 : Opn Try.prog 3 (intC .i64) (fun n => (Lit.int .i64 n).wf = true) := opn_int Try.underlying3
theorem Try.opn9 : Opn Try.prog 9 strC (fun s => s.length ≤ reachBytes) := opn_str Try.underlying9
theorem Try.opn30 : Opn Try.prog 30 (slC strC) (fun xs => xs.length ≤ reachBytes ∧ ∀ x ∈ xs, (fun s => s.length ≤ reachBytes) x) := opn_slice Try.underlying30 (by kernel_rfl) (by decide) (of_decide_eq_true (by kernel_rfl)) Try.opn9
def law32_Op.fit (x : law32_Op) : Prop := (fun n => (Lit.int .i64 n).wf = true) x.Call ∧ (fun n => (Lit.int .i64 n).wf = true) x.Until ∧ (fun n => (Lit.int .i64 n).wf = true) x.Now ∧ (fun s => s.length ≤ reachBytes) x.User ∧ (fun s => s.length ≤ reachBytes) x.Client ∧ (fun xs => xs.length ≤ reachBytes ∧ ∀ x ∈ xs, (fun s => s.length ≤ reachBytes) x) x.Scopes
set_option maxRecDepth 100000 in
theorem Try.opn32 : Opn Try.prog 32 law32_Op.c law32_Op.fit := by
  intro H enc w base spare held fuel cs x hx hw
  obtain ⟨hl, hf⟩ := opn_struct Try.underlying32 hx hw
  have hl' : cs.length = 6 := hl.trans (by kernel_rfl)
  match cs, hl' with
  | [c0, c1, c2, c3, c4, c5], _ =>
    obtain ⟨y0, hy0, ho0⟩ := hf 0 _ rfl Try.opn3
    have e0 : ((([c0, c1, c2, c3, c4, c5] : List Value).drop 0).take (Try.prog.cellsOf 3)) = [c0] := by rw [show Try.prog.cellsOf 3 = 1 by kernel_rfl]; rfl
    change (intC .i64).rd _ w (([c0, c1, c2, c3, c4, c5].drop 0).take (Try.prog.cellsOf 3)) y0 at hy0
    rw [e0] at hy0
    obtain ⟨y1, hy1, ho1⟩ := hf 1 _ rfl Try.opn3
    have e1 : ((([c0, c1, c2, c3, c4, c5] : List Value).drop 1).take (Try.prog.cellsOf 3)) = [c1] := by rw [show Try.prog.cellsOf 3 = 1 by kernel_rfl]; rfl
    change (intC .i64).rd _ w (([c0, c1, c2, c3, c4, c5].drop 1).take (Try.prog.cellsOf 3)) y1 at hy1
    rw [e1] at hy1
    obtain ⟨y2, hy2, ho2⟩ := hf 2 _ rfl Try.opn3
    have e2 : ((([c0, c1, c2, c3, c4, c5] : List Value).drop 2).take (Try.prog.cellsOf 3)) = [c2] := by rw [show Try.prog.cellsOf 3 = 1 by kernel_rfl]; rfl
    change (intC .i64).rd _ w (([c0, c1, c2, c3, c4, c5].drop 2).take (Try.prog.cellsOf 3)) y2 at hy2
    rw [e2] at hy2
    obtain ⟨y3, hy3, ho3⟩ := hf 3 _ rfl Try.opn9
    have e3 : ((([c0, c1, c2, c3, c4, c5] : List Value).drop 3).take (Try.prog.cellsOf 9)) = [c3] := by rw [show Try.prog.cellsOf 9 = 1 by kernel_rfl]; rfl
    change strC.rd _ w (([c0, c1, c2, c3, c4, c5].drop 3).take (Try.prog.cellsOf 9)) y3 at hy3
    rw [e3] at hy3
    obtain ⟨y4, hy4, ho4⟩ := hf 4 _ rfl Try.opn9
    have e4 : ((([c0, c1, c2, c3, c4, c5] : List Value).drop 4).take (Try.prog.cellsOf 9)) = [c4] := by rw [show Try.prog.cellsOf 9 = 1 by kernel_rfl]; rfl
    change strC.rd _ w (([c0, c1, c2, c3, c4, c5].drop 4).take (Try.prog.cellsOf 9)) y4 at hy4
    rw [e4] at hy4
    obtain ⟨y5, hy5, ho5⟩ := hf 5 _ rfl Try.opn30
    have e5 : ((([c0, c1, c2, c3, c4, c5] : List Value).drop 5).take (Try.prog.cellsOf 30)) = [c5] := by rw [show Try.prog.cellsOf 30 = 1 by kernel_rfl]; rfl
    change (slC strC).rd _ w (([c0, c1, c2, c3, c4, c5].drop 5).take (Try.prog.cellsOf 30)) y5 at hy5
    rw [e5] at hy5
    have hqhy0 := hy0
    simp only [intC, strC, boolC, Cdc.flat, List.cons.injEq, and_true] at hqhy0
    have hqhy1 := hy1
    simp only [intC, strC, boolC, Cdc.flat, List.cons.injEq, and_true] at hqhy1
    have hqhy2 := hy2
    simp only [intC, strC, boolC, Cdc.flat, List.cons.injEq, and_true] at hqhy2
    have hqhy3 := hy3
    simp only [intC, strC, boolC, Cdc.flat, List.cons.injEq, and_true] at hqhy3
    have hqhy4 := hy4
    simp only [intC, strC, boolC, Cdc.flat, List.cons.injEq, and_true] at hqhy4
    obtain ⟨uhy5, hqhy5, khy5⟩ := hy5
    simp only [List.cons.injEq, and_true] at hqhy5
    exact ⟨⟨y0, y1, y2, y3, y4, y5⟩, ⟨uhy5, by simp [hqhy0, hqhy1, hqhy2, hqhy3, hqhy4, hqhy5], khy5⟩, ⟨ho0, ho1, ho2, ho3, ho4, ho5⟩⟩
theorem Try.opn22 : Opn Try.prog 22 (slC law32_Op.c) (fun xs => xs.length ≤ reachBytes ∧ ∀ x ∈ xs, law32_Op.fit x) := opn_slice Try.underlying22 (by kernel_rfl) (by decide) (of_decide_eq_true (by kernel_rfl)) Try.opn32
end Go.Proofs.Ytijiipelpgmhpaa
