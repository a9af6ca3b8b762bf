/- Own work: a part of the proofs of this seat. -/
import Derived.Test.YtijiipelpgmhpaaRows
import Derived.Test.YtijiipelpgmhpaaKwIConsentLimitsW2
import Derived.Test.YtijiipelpgmhpaaKwP32
import Derived.Test.YtijiipelpgmhpaaKwRow
set_option linter.unusedVariables false
set_option linter.unusedSimpArgs false
set_option maxHeartbeats 8000000
namespace Go.Proofs.Ytijiipelpgmhpaa
open Go Go.KW Go.KW.S Go.RowKit Go.ChangeShapes Go.WideShapes Go.ChangeAt
theorem fits_of {T : Type} {xs : List T} (h : xs.length ≤ reachBytes) : fits xs := by unfold fits; unfold reachBytes at h; omega
theorem kwOwn : ownKnob Try.prog.godebug = none := by kernel_rfl
theorem kwLaid : laidOutB Try.prog = true := by kernel_rfl
theorem gs_of (W : World) (hsh : W.ShapedOpen Try.prog) : Gs W := ⟨cell_of_shapedOpen_int hsh (g := 0) (t := 3) (zero := #[.int .i64 0]) (of_decide_eq_true (by kernel_rfl)) (by kernel_rfl) rfl (by kernel_rfl) (by kernel_rfl) (by kernel_rfl)⟩
theorem Try.opn3 : Opn Try.prog 3 (intC .i64) (fun n => (Lit.int .i64 n).wf = true) := opn_int Try.underlying3
end Go.Proofs.Ytijiipelpgmhpaa
