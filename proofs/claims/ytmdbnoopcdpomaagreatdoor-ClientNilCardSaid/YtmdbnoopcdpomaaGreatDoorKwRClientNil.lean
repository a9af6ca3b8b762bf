/- Own work: a part of the proofs of this seat. -/
import Derived.Test.YtmdbnoopcdpomaaGreatDoorTie
import Derived.Test.YtmdbnoopcdpomaaGreatDoorCards
import Derived.Test.YtmdbnoopcdpomaaGreatDoorKwFClientNilW3
import Derived.Test.YtmdbnoopcdpomaaGreatDoorKwPtr
import Derived.Test.YtmdbnoopcdpomaaGreatDoorKwP36
import Derived.Test.YtmdbnoopcdpomaaGreatDoorKwRow
set_option linter.unusedVariables false
set_option linter.unusedSimpArgs false
set_option maxHeartbeats 8000000
namespace Go.Proofs.YtmdbnoopcdpomaaGreatDoor
open Go Go.KW Go.KW.S Go.RowKit Go.ChangeShapes Go.WideShapes Go.ChangeAt
theorem fits_of {T : Type} {xs : List T} (h : xs.length ≤ reachBytes) : fits xs := by unfold fits; unfold reachBytes at h; omega
theorem kwOwn : ownKnob Tryz.prog.godebug = none := by kernel_rfl
theorem kwLaid : laidOutB Tryz.prog = true := by kernel_rfl
set_option maxRecDepth 100000 in
theorem gs_of {W : World} (hL : laidMetH Tryz.prog Rows.clientChecksRow.laid W) (hsh : W.ShapedOpen Tryz.prog) : Gs W := by
  have h := hL
  rw [MakeChecks.laidMetH_plain _ _ _ (by kernel_rfl)] at h
  exact ⟨fun i x hx => tab_cell (Lib.tabIs_of_head (g := 0) (t := 100) (e := 5) (n := 16) (by kernel_rfl) (by kernel_rfl) Tryz.underlying100 Tryz.underlying5 (by kernel_rfl) (by kernel_rfl) (show laidMet Tryz.prog ((_, Lib.tabData .u8 tab_digest_digits) :: _) W from h.tail)) (by kernel_rfl) hx, cell_of_shapedOpen_int hsh (g := 1) (t := 3) (zero := #[.int .i64 0]) (of_decide_eq_true (by kernel_rfl)) (by kernel_rfl) rfl (by kernel_rfl) (by kernel_rfl) (by kernel_rfl)⟩
theorem Tryz.opn3 : Opn Tryz.prog 3 (intC .i64) (fun n => (Lit.int .i64 n).wf = true) := opn_int Tryz.underlying3
theorem Tryz.opn9 : Opn Tryz.prog 9 strC (fun s => s.length ≤ reachBytes) := opn_str Tryz.underlying9
theorem Tryz.opn22 : Opn Tryz.prog 22 (intC .i64) (fun n => (Lit.int .i64 n).wf = true) := opn_int Tryz.underlying22
def api_Verifier.fit (x : api_Verifier) : Prop := (fun s => s.length ≤ reachBytes) x.Salt ∧ (fun n => (Lit.int .i64 n).wf = true) x.Rounds ∧ (fun s => s.length ≤ reachBytes) x.Hash
set_option maxRecDepth 100000 in
theorem Tryz.opn24 : Opn Tryz.prog 24 api_Verifier.c api_Verifier.fit := by
  intro H enc w base spare held fuel cs x hx hw
  obtain ⟨hl, hf⟩ := opn_struct Tryz.underlying24 hx hw
  have hl' : cs.length = 3 := hl.trans (by kernel_rfl)
  match cs, hl' with
  | [c0, c1, c2], _ =>
    obtain ⟨y0, hy0, ho0⟩ := hf 0 _ rfl Tryz.opn9
    have e0 : ((([c0, c1, c2] : List Value).drop 0).take (Tryz.prog.cellsOf 9)) = [c0] := by rw [show Tryz.prog.cellsOf 9 = 1 by kernel_rfl]; rfl
    change strC.rd _ w (([c0, c1, c2].drop 0).take (Tryz.prog.cellsOf 9)) y0 at hy0
    rw [e0] at hy0
    obtain ⟨y1, hy1, ho1⟩ := hf 1 _ rfl Tryz.opn3
    have e1 : ((([c0, c1, c2] : List Value).drop 1).take (Tryz.prog.cellsOf 3)) = [c1] := by rw [show Tryz.prog.cellsOf 3 = 1 by kernel_rfl]; rfl
    change (intC .i64).rd _ w (([c0, c1, c2].drop 1).take (Tryz.prog.cellsOf 3)) y1 at hy1
    rw [e1] at hy1
    obtain ⟨y2, hy2, ho2⟩ := hf 2 _ rfl Tryz.opn9
    have e2 : ((([c0, c1, c2] : List Value).drop 2).take (Tryz.prog.cellsOf 9)) = [c2] := by rw [show Tryz.prog.cellsOf 9 = 1 by kernel_rfl]; rfl
    change strC.rd _ w (([c0, c1, c2].drop 2).take (Tryz.prog.cellsOf 9)) y2 at hy2
    rw [e2] at hy2
    have hqhy0 := hy0
    simp only [intC, strC, boolC, Cdc.flat, List.cons.injEq, and_true] at hqhy0
    have hqhy1 := hy1
    simp only [intC, strC, boolC, Cdc.flat, List.cons.injEq, and_true] at hqhy1
    have hqhy2 := hy2
    simp only [intC, strC, boolC, Cdc.flat, List.cons.injEq, and_true] at hqhy2
    exact ⟨⟨y0, y1, y2⟩, by show [c0, c1, c2] = _; simp [hqhy0, hqhy1, hqhy2], ⟨ho0, ho1, ho2⟩⟩
theorem Tryz.opn25 : Opn Tryz.prog 25 (slC strC) (fun xs => xs.length ≤ reachBytes ∧ ∀ x ∈ xs, (fun s => s.length ≤ reachBytes) x) := opn_slice Tryz.underlying25 (by kernel_rfl) (by decide) (of_decide_eq_true (by kernel_rfl)) Tryz.opn9
def api_Client.fit (x : api_Client) : Prop := (fun s => s.length ≤ reachBytes) x.ID ∧ (fun n => (Lit.int .i64 n).wf = true) x.Kind ∧ (fun s => s.length ≤ reachBytes) x.Tenant ∧ api_Verifier.fit x.Secret ∧ (fun xs => xs.length ≤ reachBytes ∧ ∀ x ∈ xs, (fun s => s.length ≤ reachBytes) x) x.Redirects ∧ (fun xs => xs.length ≤ reachBytes ∧ ∀ x ∈ xs, (fun s => s.length ≤ reachBytes) x) x.Scopes ∧ (fun s => s.length ≤ reachBytes) x.Logout
set_option maxRecDepth 100000 in
theorem Tryz.opn27 : Opn Tryz.prog 27 api_Client.c api_Client.fit := by
  intro H enc w base spare held fuel cs x hx hw
  obtain ⟨hl, hf⟩ := opn_struct Tryz.underlying27 hx hw
  have hl' : cs.length = 9 := hl.trans (by kernel_rfl)
  match cs, hl' with
  | [c0, c1, c2, c3, c4, c5, c6, c7, c8], _ =>
    obtain ⟨y0, hy0, ho0⟩ := hf 0 _ rfl Tryz.opn9
    have e0 : ((([c0, c1, c2, c3, c4, c5, c6, c7, c8] : List Value).drop 0).take (Tryz.prog.cellsOf 9)) = [c0] := by rw [show Tryz.prog.cellsOf 9 = 1 by kernel_rfl]; rfl
    change strC.rd _ w (([c0, c1, c2, c3, c4, c5, c6, c7, c8].drop 0).take (Tryz.prog.cellsOf 9)) y0 at hy0
    rw [e0] at hy0
    obtain ⟨y1, hy1, ho1⟩ := hf 1 _ rfl Tryz.opn22
    have e1 : ((([c0, c1, c2, c3, c4, c5, c6, c7, c8] : List Value).drop 1).take (Tryz.prog.cellsOf 22)) = [c1] := by rw [show Tryz.prog.cellsOf 22 = 1 by kernel_rfl]; rfl
    change (intC .i64).rd _ w (([c0, c1, c2, c3, c4, c5, c6, c7, c8].drop 1).take (Tryz.prog.cellsOf 22)) y1 at hy1
    rw [e1] at hy1
    obtain ⟨y2, hy2, ho2⟩ := hf 2 _ rfl Tryz.opn9
    have e2 : ((([c0, c1, c2, c3, c4, c5, c6, c7, c8] : List Value).drop 2).take (Tryz.prog.cellsOf 9)) = [c2] := by rw [show Tryz.prog.cellsOf 9 = 1 by kernel_rfl]; rfl
    change strC.rd _ w (([c0, c1, c2, c3, c4, c5, c6, c7, c8].drop 2).take (Tryz.prog.cellsOf 9)) y2 at hy2
    rw [e2] at hy2
    obtain ⟨y3, hy3, ho3⟩ := hf 3 _ rfl Tryz.opn24
    have e3 : ((([c0, c1, c2, c3, c4, c5, c6, c7, c8] : List Value).drop 3).take (Tryz.prog.cellsOf 24)) = [c3, c4, c5] := by rw [show Tryz.prog.cellsOf 24 = 3 by kernel_rfl]; rfl
    change api_Verifier.c.rd _ w (([c0, c1, c2, c3, c4, c5, c6, c7, c8].drop 3).take (Tryz.prog.cellsOf 24)) y3 at hy3
    rw [e3] at hy3
    obtain ⟨y4, hy4, ho4⟩ := hf 4 _ rfl Tryz.opn25
    have e4 : ((([c0, c1, c2, c3, c4, c5, c6, c7, c8] : List Value).drop 6).take (Tryz.prog.cellsOf 25)) = [c6] := by rw [show Tryz.prog.cellsOf 25 = 1 by kernel_rfl]; rfl
    change (slC strC).rd _ w (([c0, c1, c2, c3, c4, c5, c6, c7, c8].drop 6).take (Tryz.prog.cellsOf 25)) y4 at hy4
    rw [e4] at hy4
    obtain ⟨y5, hy5, ho5⟩ := hf 5 _ rfl Tryz.opn25
    have e5 : ((([c0, c1, c2, c3, c4, c5, c6, c7, c8] : List Value).drop 7).take (Tryz.prog.cellsOf 25)) = [c7] := by rw [show Tryz.prog.cellsOf 25 = 1 by kernel_rfl]; rfl
    change (slC strC).rd _ w (([c0, c1, c2, c3, c4, c5, c6, c7, c8].drop 7).take (Tryz.prog.cellsOf 25)) y5 at hy5
    rw [e5] at hy5
    obtain ⟨y6, hy6, ho6⟩ := hf 6 _ rfl Tryz.opn9
    have e6 : ((([c0, c1, c2, c3, c4, c5, c6, c7, c8] : List Value).drop 8).take (Tryz.prog.cellsOf 9)) = [c8] := by rw [show Tryz.prog.cellsOf 9 = 1 by kernel_rfl]; rfl
    change strC.rd _ w (([c0, c1, c2, c3, c4, c5, c6, c7, c8].drop 8).take (Tryz.prog.cellsOf 9)) y6 at hy6
    rw [e6] at hy6
    have hqhy0 := hy0
    simp only [intC, strC, boolC, Cdc.flat, List.cons.injEq, and_true] at hqhy0
    have hqhy1 := hy1
    simp only [intC, strC, boolC, Cdc.flat, List.cons.injEq, and_true] at hqhy1
    have hqhy2 := hy2
    simp only [intC, strC, boolC, Cdc.flat, List.cons.injEq, and_true] at hqhy2
    have hqhy3 := hy3
    simp only [api_Verifier.c, Cdc.flat, List.cons.injEq, and_true] at hqhy3
    obtain ⟨uhy4, hqhy4, khy4⟩ := hy4
    simp only [List.cons.injEq, and_true] at hqhy4
    obtain ⟨uhy5, hqhy5, khy5⟩ := hy5
    simp only [List.cons.injEq, and_true] at hqhy5
    have hqhy6 := hy6
    simp only [intC, strC, boolC, Cdc.flat, List.cons.injEq, and_true] at hqhy6
    exact ⟨⟨y0, y1, y2, y3, y4, y5, y6⟩, ⟨uhy4, uhy5, by simp [hqhy0, hqhy1, hqhy2, hqhy3, hqhy4, hqhy5, hqhy6], khy4, khy5⟩, ⟨ho0, ho1, ho2, ho3, ho4, ho5, ho6⟩⟩
def law36_Op.fit (x : law36_Op) : Prop := (fun n => (Lit.int .i64 n).wf = true) x.Kind ∧ api_Client.fit x.Client ∧ (fun s => s.length ≤ reachBytes) x.ID ∧ (fun s => s.length ≤ reachBytes) x.S ∧ (fun xs => xs.length ≤ reachBytes ∧ ∀ x ∈ xs, (fun s => s.length ≤ reachBytes) x) x.Scopes
set_option maxRecDepth 100000 in
theorem Tryz.opn44 : Opn Tryz.prog 44 law36_Op.c law36_Op.fit := by
  intro H enc w base spare held fuel cs x hx hw
  obtain ⟨hl, hf⟩ := opn_struct Tryz.underlying44 hx hw
  have hl' : cs.length = 13 := hl.trans (by kernel_rfl)
  match cs, hl' with
  | [c0, c1, c2, c3, c4, c5, c6, c7, c8, c9, c10, c11, c12], _ =>
    obtain ⟨y0, hy0, ho0⟩ := hf 0 _ rfl Tryz.opn3
    have e0 : ((([c0, c1, c2, c3, c4, c5, c6, c7, c8, c9, c10, c11, c12] : List Value).drop 0).take (Tryz.prog.cellsOf 3)) = [c0] := by rw [show Tryz.prog.cellsOf 3 = 1 by kernel_rfl]; rfl
    change (intC .i64).rd _ w (([c0, c1, c2, c3, c4, c5, c6, c7, c8, c9, c10, c11, c12].drop 0).take (Tryz.prog.cellsOf 3)) y0 at hy0
    rw [e0] at hy0
    obtain ⟨y1, hy1, ho1⟩ := hf 1 _ rfl Tryz.opn27
    have e1 : ((([c0, c1, c2, c3, c4, c5, c6, c7, c8, c9, c10, c11, c12] : List Value).drop 1).take (Tryz.prog.cellsOf 27)) = [c1, c2, c3, c4, c5, c6, c7, c8, c9] := by rw [show Tryz.prog.cellsOf 27 = 9 by kernel_rfl]; rfl
    change api_Client.c.rd _ w (([c0, c1, c2, c3, c4, c5, c6, c7, c8, c9, c10, c11, c12].drop 1).take (Tryz.prog.cellsOf 27)) y1 at hy1
    rw [e1] at hy1
    obtain ⟨y2, hy2, ho2⟩ := hf 2 _ rfl Tryz.opn9
    have e2 : ((([c0, c1, c2, c3, c4, c5, c6, c7, c8, c9, c10, c11, c12] : List Value).drop 10).take (Tryz.prog.cellsOf 9)) = [c10] := by rw [show Tryz.prog.cellsOf 9 = 1 by kernel_rfl]; rfl
    change strC.rd _ w (([c0, c1, c2, c3, c4, c5, c6, c7, c8, c9, c10, c11, c12].drop 10).take (Tryz.prog.cellsOf 9)) y2 at hy2
    rw [e2] at hy2
    obtain ⟨y3, hy3, ho3⟩ := hf 3 _ rfl Tryz.opn9
    have e3 : ((([c0, c1, c2, c3, c4, c5, c6, c7, c8, c9, c10, c11, c12] : List Value).drop 11).take (Tryz.prog.cellsOf 9)) = [c11] := by rw [show Tryz.prog.cellsOf 9 = 1 by kernel_rfl]; rfl
    change strC.rd _ w (([c0, c1, c2, c3, c4, c5, c6, c7, c8, c9, c10, c11, c12].drop 11).take (Tryz.prog.cellsOf 9)) y3 at hy3
    rw [e3] at hy3
    obtain ⟨y4, hy4, ho4⟩ := hf 4 _ rfl Tryz.opn25
    have e4 : ((([c0, c1, c2, c3, c4, c5, c6, c7, c8, c9, c10, c11, c12] : List Value).drop 12).take (Tryz.prog.cellsOf 25)) = [c12] := by rw [show Tryz.prog.cellsOf 25 = 1 by kernel_rfl]; rfl
    change (slC strC).rd _ w (([c0, c1, c2, c3, c4, c5, c6, c7, c8, c9, c10, c11, c12].drop 12).take (Tryz.prog.cellsOf 25)) y4 at hy4
    rw [e4] at hy4
    have hqhy0 := hy0
    simp only [intC, strC, boolC, Cdc.flat, List.cons.injEq, and_true] at hqhy0
    obtain ⟨uhy1_0, uhy1_1, hqhy1, kuhy1_0, kuhy1_1⟩ := hy1
    simp only [List.cons.injEq, and_true] at hqhy1
    have hqhy2 := hy2
    simp only [intC, strC, boolC, Cdc.flat, List.cons.injEq, and_true] at hqhy2
    have hqhy3 := hy3
    simp only [intC, strC, boolC, Cdc.flat, List.cons.injEq, and_true] at hqhy3
    obtain ⟨uhy4, hqhy4, khy4⟩ := hy4
    simp only [List.cons.injEq, and_true] at hqhy4
    exact ⟨⟨y0, y1, y2, y3, y4⟩, ⟨uhy1_0, uhy1_1, uhy4, by simp [hqhy0, hqhy1, hqhy2, hqhy3, hqhy4], kuhy1_0, kuhy1_1, khy4⟩, ⟨ho0, ho1, ho2, ho3, ho4⟩⟩
end Go.Proofs.YtmdbnoopcdpomaaGreatDoor
