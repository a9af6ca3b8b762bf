/- Own work: a part of the proofs of this seat. -/
import Derived.Test.YtkhodjenbganfaaGreatDoorTie
import Derived.Test.YtkhodjenbganfaaGreatDoorCards
import Derived.Test.YtkhodjenbganfaaGreatDoorKwNLoginSilenceW4
import Derived.Test.YtkhodjenbganfaaGreatDoorKwPtr
import Derived.Test.YtkhodjenbganfaaGreatDoorKwP39a
import Derived.Test.YtkhodjenbganfaaGreatDoorKwP39
import Derived.Test.YtkhodjenbganfaaGreatDoorKwRow
set_option linter.unusedVariables false
set_option linter.unusedSimpArgs false
set_option maxHeartbeats 8000000
namespace Go.Proofs.YtkhodjenbganfaaGreatDoor
open Go Go.KW Go.KW.S Go.RowKit Go.ChangeShapes Go.WideShapes Go.ChangeAt
theorem fits_of {T : Type} {xs : List T} (h : xs.length ≤ reachBytes) : fits xs := by unfold fits; unfold reachBytes at h; omega
theorem kwOwn : ownKnob Tryz.prog.godebug = none := by kernel_rfl
theorem kwLaid : laidOutB Tryz.prog = true := by kernel_rfl
set_option maxRecDepth 100000 in
theorem gs_of {W : World} (hL : laidMetH Tryz.prog Rows.loginSingleRow.laid W) (hsh : W.ShapedOpen Tryz.prog) : Gs W := by
  have h := hL
  rw [MakeChecks.laidMetH_plain _ _ _ (by kernel_rfl)] at h
  exact ⟨fun i x hx => tab_cell (Lib.tabIs_of_head (g := 0) (t := 152) (e := 5) (n := 16) (by kernel_rfl) (by kernel_rfl) Tryz.underlying152 Tryz.underlying5 (by kernel_rfl) (by kernel_rfl) (show laidMet Tryz.prog ((_, Lib.tabData .u8 tab_digest_digits) :: _) W from h.tail.tail.tail.tail)) (by kernel_rfl) hx, Lib.tabIs_of_head (g := 3) (t := 180) (e := 116) (n := 20) (by kernel_rfl) (by kernel_rfl) Tryz.underlying180 Tryz.underlying116 (by kernel_rfl) (by kernel_rfl) (show laidMet Tryz.prog ((_, Lib.tabData .u64 Lib.pow10Tab) :: _) W from h.tail.tail), cell_of_shapedOpen_int hsh (g := 4) (t := 3) (zero := #[.int .i64 0]) (of_decide_eq_true (by kernel_rfl)) (by kernel_rfl) rfl (by kernel_rfl) (by kernel_rfl) (by kernel_rfl)⟩
theorem Tryz.opn5 : Opn Tryz.prog 5 (intC .u8) (fun n => (Lit.int .u8 n).wf = true) := opn_int Tryz.underlying5
theorem Tryz.opn9 : Opn Tryz.prog 9 strC (fun s => s.length ≤ reachBytes) := opn_str Tryz.underlying9
end Go.Proofs.YtkhodjenbganfaaGreatDoor
