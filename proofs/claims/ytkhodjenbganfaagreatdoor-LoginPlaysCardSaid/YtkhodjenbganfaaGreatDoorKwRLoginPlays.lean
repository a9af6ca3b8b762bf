/- Own work: a part of the proofs of this seat. -/
import Derived.Test.YtkhodjenbganfaaGreatDoorTie
import Derived.Test.YtkhodjenbganfaaGreatDoorCards
import Derived.Test.YtkhodjenbganfaaGreatDoorKwTW4
import Derived.Test.YtkhodjenbganfaaGreatDoorKwPtr
import Derived.Test.YtkhodjenbganfaaGreatDoorKwP40a
import Derived.Test.YtkhodjenbganfaaGreatDoorKwP40
import Derived.Test.YtkhodjenbganfaaGreatDoorKwRow
set_option linter.unusedVariables false
set_option linter.unusedSimpArgs false
set_option maxHeartbeats 8000000
namespace Go.Proofs.YtkhodjenbganfaaGreatDoor
open Go Go.KW Go.KW.S Go.RowKit Go.ChangeShapes Go.WideShapes Go.ChangeAt
theorem fits_of {T : Type} {xs : List T} (h : xs.length ≤ reachBytes) : fits xs := by unfold fits; unfold reachBytes at h; omega
theorem kwOwn : ownKnob Tryz.prog.godebug = none := by kernel_rfl
theorem kwLaid : laidOutB Tryz.prog = true := by kernel_rfl
set_option maxRecDepth 100000 in
theorem gs_of {W : World} (hL : laidMetH Tryz.prog Rows.loginSingleRow.laid W) (hsh : W.ShapedOpen Tryz.prog) : Gs W := by
 have h := hL
 rw [MakeChecks.laidMetH_plain _ _ _ (by kernel_rfl)] at h
 exact ⟨fun i x hx => tab_cell (Lib.tabIs_of_head (g := 0) (t := 152) (e := 5) (n := 16) (by kernel_rfl) (by kernel_rfl) Tryz.underlying152 Tryz.underlying5 (by kernel_rfl) (by kernel_rfl) (show laidMet Tryz.prog ((_, Lib.tabData .u8 tab_digest_digits) :: _) W from h.tail.tail.tail.tail)) (by kernel_rfl) hx, Lib.tabIs_of_head (g := 3) (t := 180) (e := 116) (n := 20) (by kernel_rfl) (by kernel_rfl) Tryz.underlying180 Tryz.underlying116 (by kernel_rfl) (by kernel_rfl) (show laidMet Tryz.prog ((_, Lib.tabData .u64 Lib.pow10Tab) :: _) W from h.tail.tail), cell_of_shapedOpen_int hsh (g := 4) (t := 3) (zero := #[.int .i64 0]) (of_decide_eq_true (by kernel_rfl)) (by kernel_rfl) rfl (by kernel_rfl) (by kernel_rfl) (by kernel_rfl)⟩
theorem Tryz.opn3 : Opn Tryz.prog 3 (intC .i64) (fun n => (Lit.int .i64 n).wf = true) := opn_int Tryz.underlying3
theorem Tryz.opn9 : Opn Tryz.prog 9 strC (fun s => s.length ≤ reachBytes) := opn_str Tryz.underlying9
def law39_Op.fit (x : law39_Op) : Prop := (fun n => (Lit.int .i64 n).wf = true) x.Kind ∧ (fun s => s.length ≤ reachBytes) x.ID ∧ (fun s => s.length ≤ reachBytes) x.User ∧ (fun s => s.length ≤ reachBytes) x.Word ∧ (fun s => s.length ≤ reachBytes) x.Code ∧ (fun s => s.length ≤ reachBytes) x.S ∧ (fun n => (Lit.int .i64 n).wf = true) x.Level ∧ (fun n => (Lit.int .i64 n).wf = true) x.Rounds ∧ (fun n => (Lit.int .i64 n).wf = true) x.Now
set_option maxRecDepth 100000 in
theorem Tryz.opn33 : Opn Tryz.prog 33 law39_Op.c law39_Op.fit := by
 intro H enc w base spare held fuel cs x hx hw
 obtain ⟨hl, hf⟩ := opn_struct Tryz.underlying33 hx hw
 have hl' : cs.length = 9 := hl.trans (by kernel_rfl)
 match cs, hl' with
 | [c0, c1, c2, c3, c4, c5, c6, c7, c8], _ =>
  obtain ⟨y0, hy0, ho0⟩ := hf 0 _ rfl Tryz.opn3
  have e0 : ((([c0, c1, c2, c3, c4, c5, c6, c7, c8] : List Value).drop 0).take (Tryz.prog.cellsOf 3)) = [c0] := by rw [show Tryz.prog.cellsOf 3 = 1 by kernel_rfl]; rfl
  change (intC .i64).rd _ w (([c0, c1, c2, c3, c4, c5, c6, c7, c8].drop 0).take (Tryz.prog.cellsOf 3)) y0 at hy0
  rw [e0] at hy0
  obtain ⟨y1, hy1, ho1⟩ := hf 1 _ rfl Tryz.opn9
  have e1 : ((([c0, c1, c2, c3, c4, c5, c6, c7, c8] : List Value).drop 1).take (Tryz.prog.cellsOf 9)) = [c1] := by rw [show Tryz.prog.cellsOf 9 = 1 by kernel_rfl]; rfl
  change strC.rd _ w (([c0, c1, c2, c3, c4, c5, c6, c7, c8].drop 1).take (Tryz.prog.cellsOf 9)) y1 at hy1
  rw [e1] at hy1
  obtain ⟨y2, hy2, ho2⟩ := hf 2 _ rfl Tryz.opn9
  have e2 : ((([c0, c1, c2, c3, c4, c5, c6, c7, c8] : List Value).drop 2).take (Tryz.prog.cellsOf 9)) = [c2] := by rw [show Tryz.prog.cellsOf 9 = 1 by kernel_rfl]; rfl
  change strC.rd _ w (([c0, c1, c2, c3, c4, c5, c6, c7, c8].drop 2).take (Tryz.prog.cellsOf 9)) y2 at hy2
  rw [e2] at hy2
  obtain ⟨y3, hy3, ho3⟩ := hf 3 _ rfl Tryz.opn9
  have e3 : ((([c0, c1, c2, c3, c4, c5, c6, c7, c8] : List Value).drop 3).take (Tryz.prog.cellsOf 9)) = [c3] := by rw [show Tryz.prog.cellsOf 9 = 1 by kernel_rfl]; rfl
  change strC.rd _ w (([c0, c1, c2, c3, c4, c5, c6, c7, c8].drop 3).take (Tryz.prog.cellsOf 9)) y3 at hy3
  rw [e3] at hy3
  obtain ⟨y4, hy4, ho4⟩ := hf 4 _ rfl Tryz.opn9
  have e4 : ((([c0, c1, c2, c3, c4, c5, c6, c7, c8] : List Value).drop 4).take (Tryz.prog.cellsOf 9)) = [c4] := by rw [show Tryz.prog.cellsOf 9 = 1 by kernel_rfl]; rfl
  change strC.rd _ w (([c0, c1, c2, c3, c4, c5, c6, c7, c8].drop 4).take (Tryz.prog.cellsOf 9)) y4 at hy4
  rw [e4] at hy4
  obtain ⟨y5, hy5, ho5⟩ := hf 5 _ rfl Tryz.opn9
  have e5 : ((([c0, c1, c2, c3, c4, c5, c6, c7, c8] : List Value).drop 5).take (Tryz.prog.cellsOf 9)) = [c5] := by rw [show Tryz.prog.cellsOf 9 = 1 by kernel_rfl]; rfl
  change strC.rd _ w (([c0, c1, c2, c3, c4, c5, c6, c7, c8].drop 5).take (Tryz.prog.cellsOf 9)) y5 at hy5
  rw [e5] at hy5
  obtain ⟨y6, hy6, ho6⟩ := hf 6 _ rfl Tryz.opn3
  have e6 : ((([c0, c1, c2, c3, c4, c5, c6, c7, c8] : List Value).drop 6).take (Tryz.prog.cellsOf 3)) = [c6] := by rw [show Tryz.prog.cellsOf 3 = 1 by kernel_rfl]; rfl
  change (intC .i64).rd _ w (([c0, c1, c2, c3, c4, c5, c6, c7, c8].drop 6).take (Tryz.prog.cellsOf 3)) y6 at hy6
  rw [e6] at hy6
  obtain ⟨y7, hy7, ho7⟩ := hf 7 _ rfl Tryz.opn3
  have e7 : ((([c0, c1, c2, c3, c4, c5, c6, c7, c8] : List Value).drop 7).take (Tryz.prog.cellsOf 3)) = [c7] := by rw [show Tryz.prog.cellsOf 3 = 1 by kernel_rfl]; rfl
  change (intC .i64).rd _ w (([c0, c1, c2, c3, c4, c5, c6, c7, c8].drop 7).take (Tryz.prog.cellsOf 3)) y7 at hy7
  rw [e7] at hy7
  obtain ⟨y8, hy8, ho8⟩ := hf 8 _ rfl Tryz.opn3
  have e8 : ((([c0, c1, c2, c3, c4, c5, c6, c7, c8] : List Value).drop 8).take (Tryz.prog.cellsOf 3)) = [c8] := by rw [show Tryz.prog.cellsOf 3 = 1 by kernel_rfl]; rfl
  change (intC .i64).rd _ w (([c0, c1, c2, c3, c4, c5, c6, c7, c8].drop 8).take (Tryz.prog.cellsOf 3)) y8 at hy8
  rw [e8] at hy8
  have hqhy0 := hy0
  simp only [intC, strC, boolC, Cdc.flat, List.cons.injEq, and_true] at hqhy0
  have hqhy1 := hy1
  simp only [intC, strC, boolC, Cdc.flat, List.cons.injEq, and_true] at hqhy1
  have hqhy2 := hy2
  simp only [intC, strC, boolC, Cdc.flat, List.cons.injEq, and_true] at hqhy2
  have hqhy3 := hy3
  simp only [intC, strC, boolC, Cdc.flat, List.cons.injEq, and_true] at hqhy3
  have hqhy4 := hy4
  simp only [intC, strC, boolC, Cdc.flat, List.cons.injEq, and_true] at hqhy4
  have hqhy5 := hy5
  simp only [intC, strC, boolC, Cdc.flat, List.cons.injEq, and_true] at hqhy5
  have hqhy6 := hy6
  simp only [intC, strC, boolC, Cdc.flat, List.cons.injEq, and_true] at hqhy6
  have hqhy7 := hy7
  simp only [intC, strC, boolC, Cdc.flat, List.cons.injEq, and_true] at hqhy7
  have hqhy8 := hy8
  simp only [intC, strC, boolC, Cdc.flat, List.cons.injEq, and_true] at hqhy8
  exact ⟨⟨y0, y1, y2, y3, y4, y5, y6, y7, y8⟩, by show [c0, c1, c2, c3, c4, c5, c6, c7, c8] = _; simp [hqhy0, hqhy1, hqhy2, hqhy3, hqhy4, hqhy5, hqhy6, hqhy7, hqhy8], ⟨ho0, ho1, ho2, ho3, ho4, ho5, ho6, ho7, ho8⟩⟩
theorem Tryz.opn22 : Opn Tryz.prog 22 (slC law39_Op.c) (fun xs => xs.length ≤ reachBytes ∧ ∀ x ∈ xs, law39_Op.fit x) := opn_slice Tryz.underlying22 (by kernel_rfl) (by decide) (of_decide_eq_true (by kernel_rfl)) Tryz.opn33
end Go.Proofs.YtkhodjenbganfaaGreatDoor
