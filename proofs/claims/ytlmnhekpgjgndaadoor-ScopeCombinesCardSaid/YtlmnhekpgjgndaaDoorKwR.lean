/- Own work: a part of the proofs of this seat. -/
import Derived.Test.YtlmnhekpgjgndaaDoorTie
import Derived.Test.YtlmnhekpgjgndaaDoorCards
import Derived.Test.YtlmnhekpgjgndaaDoorKwCW2
import Derived.Test.YtlmnhekpgjgndaaDoorKwP29
import Derived.Test.YtlmnhekpgjgndaaDoorKwRow
set_option linter.unusedVariables false
set_option linter.unusedSimpArgs false
set_option maxHeartbeats 8000000
namespace Go.Proofs.YtlmnhekpgjgndaaDoor
open Go Go.KW Go.KW.S Go.RowKit Go.ChangeShapes Go.WideShapes Go.ChangeAt
theorem fits_of {T : Type} {xs : List T} (h : xs.length ≤ reachBytes) : fits xs := by unfold fits; unfold reachBytes at h; omega
theorem kwOwn : ownKnob Tryd.prog.godebug = none := by kernel_rfl
theorem kwLaid : laidOutB Tryd.prog = true := by kernel_rfl
theorem gs_of (W : World) (hsh : W.ShapedOpen Tryd.prog) : Gs W := ⟨cell_of_shapedOpen_int hsh (g := 0) (t := 3) (zero := #[.int .i64 0]) (of_decide_eq_true (by kernel_rfl)) (by kernel_rfl) rfl (by kernel_rfl) (by kernel_rfl) (by kernel_rfl)⟩
theorem Tryd.opn9 : Opn Tryd.prog 9 strC (fun s => s.length ≤ reachBytes) := opn_str Tryd.underlying9
theorem Tryd.opn22 : Opn Tryd.prog 22 (slC strC) (fun xs => xs.length ≤ reachBytes ∧ ∀ x ∈ xs, (fun s => s.length ≤ reachBytes) x) := opn_slice Tryd.underlying22 (by kernel_rfl) (by decide) (of_decide_eq_true (by kernel_rfl)) Tryd.opn9
end Go.Proofs.YtlmnhekpgjgndaaDoor
