/- Own work: a part of the proofs of this seat. -/
import Derived.Test.YteifnoehmfjogaaDoorTie
import Derived.Test.YteifnoehmfjogaaDoorCards
import Derived.Test.YteifnoehmfjogaaDoorKwLSecretQualityW2
import Derived.Test.YteifnoehmfjogaaDoorKwPtr
import Derived.Test.YteifnoehmfjogaaDoorKwP22
import Derived.Test.YteifnoehmfjogaaDoorKwRow
set_option linter.unusedVariables false
set_option linter.unusedSimpArgs false
set_option maxHeartbeats 8000000
namespace Go.Proofs.YteifnoehmfjogaaDoor
open Go Go.KW Go.KW.S Go.RowKit Go.ChangeShapes Go.WideShapes Go.ChangeAt
theorem fits_of {T : Type} {xs : List T} (h : xs.length ≤ reachBytes) : fits xs := by unfold fits; unfold reachBytes at h; omega
theorem kwOwn : ownKnob Tryd.prog.godebug = none := by kernel_rfl
theorem kwLaid : laidOutB Tryd.prog = true := by kernel_rfl
set_option maxRecDepth 100000 in
theorem gs_of {W : World} (hL : laidMetH Tryd.prog Rows.secretMakesRow.laid W) (hsh : W.ShapedOpen Tryd.prog) : Gs W := by
  have h := hL
  rw [MakeChecks.laidMetH_plain _ _ _ (by kernel_rfl)] at h
  exact ⟨fun i x hx => tab_cell (Lib.tabIs_of_head (g := 0) (t := 83) (e := 5) (n := 16) (by kernel_rfl) (by kernel_rfl) Tryd.underlying83 Tryd.underlying5 (by kernel_rfl) (by kernel_rfl) (show laidMet Tryd.prog ((_, Lib.tabData .u8 tab_digest_digits) :: _) W from h)) (by kernel_rfl) hx, cell_of_shapedOpen_int hsh (g := 1) (t := 3) (zero := #[.int .i64 0]) (of_decide_eq_true (by kernel_rfl)) (by kernel_rfl) rfl (by kernel_rfl) (by kernel_rfl) (by kernel_rfl)⟩
theorem Tryd.opn9 : Opn Tryd.prog 9 strC (fun s => s.length ≤ reachBytes) := opn_str Tryd.underlying9
end Go.Proofs.YteifnoehmfjogaaDoor
