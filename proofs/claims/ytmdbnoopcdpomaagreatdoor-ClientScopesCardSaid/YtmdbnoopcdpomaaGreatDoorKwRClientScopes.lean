/- Own work: a part of the proofs of this seat. -/
import Derived.Test.YtmdbnoopcdpomaaGreatDoorTie
import Derived.Test.YtmdbnoopcdpomaaGreatDoorCards
import Derived.Test.YtmdbnoopcdpomaaGreatDoorKwFClientScopesW2
import Derived.Test.YtmdbnoopcdpomaaGreatDoorKwP36
import Derived.Test.YtmdbnoopcdpomaaGreatDoorKwRow
set_option linter.unusedVariables false
set_option linter.unusedSimpArgs false
set_option maxHeartbeats 8000000
namespace Go.Proofs.YtmdbnoopcdpomaaGreatDoor
open Go Go.KW Go.KW.S Go.RowKit Go.ChangeShapes Go.WideShapes Go.ChangeAt
theorem fits_of {T : Type} {xs : List T} (h : xs.length ≤ reachBytes) : fits xs := by unfold fits; unfold reachBytes at h; omega
theorem kwOwn : ownKnob Tryz.prog.godebug = none := by kernel_rfl
theorem kwLaid : laidOutB Tryz.prog = true := by kernel_rfl
set_option maxRecDepth 100000 in
theorem gs_of {W : World} (hL : laidMetH Tryz.prog Rows.clientChecksRow.laid W) (hsh : W.ShapedOpen Tryz.prog) : Gs W := by
  have h := hL
  rw [MakeChecks.laidMetH_plain _ _ _ (by kernel_rfl)] at h
  exact ⟨fun i x hx => tab_cell (Lib.tabIs_of_head (g := 0) (t := 100) (e := 5) (n := 16) (by kernel_rfl) (by kernel_rfl) Tryz.underlying100 Tryz.underlying5 (by kernel_rfl) (by kernel_rfl) (show laidMet Tryz.prog ((_, Lib.tabData .u8 tab_digest_digits) :: _) W from h.tail)) (by kernel_rfl) hx, cell_of_shapedOpen_int hsh (g := 1) (t := 3) (zero := #[.int .i64 0]) (of_decide_eq_true (by kernel_rfl)) (by kernel_rfl) rfl (by kernel_rfl) (by kernel_rfl) (by kernel_rfl)⟩
theorem Tryz.opn9 : Opn Tryz.prog 9 strC (fun s => s.length ≤ reachBytes) := opn_str Tryz.underlying9
theorem Tryz.opn25 : Opn Tryz.prog 25 (slC strC) (fun xs => xs.length ≤ reachBytes ∧ ∀ x ∈ xs, (fun s => s.length ≤ reachBytes) x) := opn_slice Tryz.underlying25 (by kernel_rfl) (by decide) (of_decide_eq_true (by kernel_rfl)) Tryz.opn9
end Go.Proofs.YtmdbnoopcdpomaaGreatDoor
