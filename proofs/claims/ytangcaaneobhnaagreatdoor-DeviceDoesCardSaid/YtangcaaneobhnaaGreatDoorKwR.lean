/- Own work: a part of the proofs of this seat. -/
import Derived.Test.YtangcaaneobhnaaGreatDoorTie
import Derived.Test.YtangcaaneobhnaaGreatDoorCards
import Derived.Test.YtangcaaneobhnaaGreatDoorKwGZW4
import Derived.Test.YtangcaaneobhnaaGreatDoorKwP37Z
import Derived.Test.YtangcaaneobhnaaGreatDoorKwRow
set_option linter.unusedVariables false
set_option linter.unusedSimpArgs false
set_option maxHeartbeats 8000000
namespace Go.Proofs.YtangcaaneobhnaaGreatDoor
open Go Go.KW Go.KW.S Go.RowKit Go.ChangeShapes Go.WideShapes Go.ChangeAt
theorem fits_of {T : Type} {xs : List T} (h : xs.length ≤ reachBytes) : fits xs := by unfold fits; unfold reachBytes at h; omega
theorem kwOwn : ownKnob Tryz.prog.godebug = none := by kernel_rfl
theorem kwLaid : laidOutB Tryz.prog = true := by kernel_rfl
set_option maxRecDepth 100000 in
theorem gs_of {W : World} (hL : laidMetH Tryz.prog Rows.deviceDoesRow.laid W) (hsh : W.ShapedOpen Tryz.prog) : Gs W := by
  have h := hL
  rw [MakeChecks.laidMetH_plain _ _ _ (by kernel_rfl)] at h
  exact ⟨fun i x hx => tab_cell (Lib.tabIs_of_head (g := 0) (t := 82) (e := 5) (n := 16) (by kernel_rfl) (by kernel_rfl) Tryz.underlying82 Tryz.underlying5 (by kernel_rfl) (by kernel_rfl) (show laidMet Tryz.prog ((_, Lib.tabData .u8 tab_digest_digits) :: _) W from h.tail.tail.tail.tail)) (by kernel_rfl) hx, Lib.tabIs_of_head (g := 1) (t := 119) (e := 77) (n := 20) (by kernel_rfl) (by kernel_rfl) Tryz.underlying119 Tryz.underlying77 (by kernel_rfl) (by kernel_rfl) (show laidMet Tryz.prog ((_, Lib.tabData .u64 Lib.pow10Tab) :: _) W from h.tail.tail), cell_of_shapedOpen_int hsh (g := 6) (t := 3) (zero := #[.int .i64 0]) (of_decide_eq_true (by kernel_rfl)) (by kernel_rfl) rfl (by kernel_rfl) (by kernel_rfl) (by kernel_rfl)⟩
theorem Tryz.opn3 : Opn Tryz.prog 3 (intC .i64) (fun n => (Lit.int .i64 n).wf = true) := opn_int Tryz.underlying3
theorem Tryz.opn9 : Opn Tryz.prog 9 strC (fun s => s.length ≤ reachBytes) := opn_str Tryz.underlying9
def law37_Op.fit (x : law37_Op) : Prop := (fun n => (Lit.int .i64 n).wf = true) x.Kind ∧ (fun s => s.length ≤ reachBytes) x.User ∧ (fun s => s.length ≤ reachBytes) x.ID ∧ (fun s => s.length ≤ reachBytes) x.Secret ∧ (fun n => (Lit.int .i64 n).wf = true) x.Until ∧ (fun n => (Lit.int .i64 n).wf = true) x.Now
set_option maxRecDepth 100000 in
theorem Tryz.opn35 : Opn Tryz.prog 35 law37_Op.c law37_Op.fit := by
  intro H enc w base spare held fuel cs x hx hw
  obtain ⟨hl, hf⟩ := opn_struct Tryz.underlying35 hx hw
  have hl' : cs.length = 6 := hl.trans (by kernel_rfl)
  match cs, hl' with
  | [c0, c1, c2, c3, c4, c5], _ =>
    obtain ⟨y0, hy0, ho0⟩ := hf 0 _ rfl Tryz.opn3
    have e0 : ((([c0, c1, c2, c3, c4, c5] : List Value).drop 0).take (Tryz.prog.cellsOf 3)) = [c0] := by rw [show Tryz.prog.cellsOf 3 = 1 by kernel_rfl]; rfl
    change (intC .i64).rd _ w (([c0, c1, c2, c3, c4, c5].drop 0).take (Tryz.prog.cellsOf 3)) y0 at hy0
    rw [e0] at hy0
    obtain ⟨y1, hy1, ho1⟩ := hf 1 _ rfl Tryz.opn9
    have e1 : ((([c0, c1, c2, c3, c4, c5] : List Value).drop 1).take (Tryz.prog.cellsOf 9)) = [c1] := by rw [show Tryz.prog.cellsOf 9 = 1 by kernel_rfl]; rfl
    change strC.rd _ w (([c0, c1, c2, c3, c4, c5].drop 1).take (Tryz.prog.cellsOf 9)) y1 at hy1
    rw [e1] at hy1
    obtain ⟨y2, hy2, ho2⟩ := hf 2 _ rfl Tryz.opn9
    have e2 : ((([c0, c1, c2, c3, c4, c5] : List Value).drop 2).take (Tryz.prog.cellsOf 9)) = [c2] := by rw [show Tryz.prog.cellsOf 9 = 1 by kernel_rfl]; rfl
    change strC.rd _ w (([c0, c1, c2, c3, c4, c5].drop 2).take (Tryz.prog.cellsOf 9)) y2 at hy2
    rw [e2] at hy2
    obtain ⟨y3, hy3, ho3⟩ := hf 3 _ rfl Tryz.opn9
    have e3 : ((([c0, c1, c2, c3, c4, c5] : List Value).drop 3).take (Tryz.prog.cellsOf 9)) = [c3] := by rw [show Tryz.prog.cellsOf 9 = 1 by kernel_rfl]; rfl
    change strC.rd _ w (([c0, c1, c2, c3, c4, c5].drop 3).take (Tryz.prog.cellsOf 9)) y3 at hy3
    rw [e3] at hy3
    obtain ⟨y4, hy4, ho4⟩ := hf 4 _ rfl Tryz.opn3
    have e4 : ((([c0, c1, c2, c3, c4, c5] : List Value).drop 4).take (Tryz.prog.cellsOf 3)) = [c4] := by rw [show Tryz.prog.cellsOf 3 = 1 by kernel_rfl]; rfl
    change (intC .i64).rd _ w (([c0, c1, c2, c3, c4, c5].drop 4).take (Tryz.prog.cellsOf 3)) y4 at hy4
    rw [e4] at hy4
    obtain ⟨y5, hy5, ho5⟩ := hf 5 _ rfl Tryz.opn3
    have e5 : ((([c0, c1, c2, c3, c4, c5] : List Value).drop 5).take (Tryz.prog.cellsOf 3)) = [c5] := by rw [show Tryz.prog.cellsOf 3 = 1 by kernel_rfl]; rfl
    change (intC .i64).rd _ w (([c0, c1, c2, c3, c4, c5].drop 5).take (Tryz.prog.cellsOf 3)) y5 at hy5
    rw [e5] at hy5
    have hqhy0 := hy0
    simp only [intC, strC, boolC, Cdc.flat, List.cons.injEq, and_true] at hqhy0
    have hqhy1 := hy1
    simp only [intC, strC, boolC, Cdc.flat, List.cons.injEq, and_true] at hqhy1
    have hqhy2 := hy2
    simp only [intC, strC, boolC, Cdc.flat, List.cons.injEq, and_true] at hqhy2
    have hqhy3 := hy3
    simp only [intC, strC, boolC, Cdc.flat, List.cons.injEq, and_true] at hqhy3
    have hqhy4 := hy4
    simp only [intC, strC, boolC, Cdc.flat, List.cons.injEq, and_true] at hqhy4
    have hqhy5 := hy5
    simp only [intC, strC, boolC, Cdc.flat, List.cons.injEq, and_true] at hqhy5
    exact ⟨⟨y0, y1, y2, y3, y4, y5⟩, by show [c0, c1, c2, c3, c4, c5] = _; simp [hqhy0, hqhy1, hqhy2, hqhy3, hqhy4, hqhy5], ⟨ho0, ho1, ho2, ho3, ho4, ho5⟩⟩
theorem Tryz.opn22 : Opn Tryz.prog 22 (slC law37_Op.c) (fun xs => xs.length ≤ reachBytes ∧ ∀ x ∈ xs, law37_Op.fit x) := opn_slice Tryz.underlying22 (by kernel_rfl) (by decide) (of_decide_eq_true (by kernel_rfl)) Tryz.opn35
end Go.Proofs.YtangcaaneobhnaaGreatDoor
