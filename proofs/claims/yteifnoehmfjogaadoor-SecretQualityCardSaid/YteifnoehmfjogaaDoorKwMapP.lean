/- Maps as lists in plain Lean: look-up, update, deletion, iteration. No program in sight. -/
import Derived.Test.YteifnoehmfjogaaDoorKwMap3
import Derived.Test.YteifnoehmfjogaaDoorKwPlain
set_option linter.unusedVariables false
set_option linter.unusedSectionVars false
namespace Go.KW
open Go
section
variable {K V : Type} [DecidableEq K]
/-- a map of the list's entries, no key twice -/
def nodupK (l : List (K × V)) : Prop := (l.map Prod.fst).Nodup
theorem mfind_mem {k : K} {x : V} : ∀ {l : List (K × V)}, mfind k l = some x → (k, x) ∈ l
  | [], h => by cases h
  | p :: l, h => by
    unfold mfind at h
    split at h
    · rename_i e; cases h; subst e; simp
    · exact List.mem_cons_of_mem _ (mfind_mem h)
theorem mfind_put_self {k : K} {x : V} : ∀ {l : List (K × V)}, mfind k (mputL k x l) = some x
  | [] => by simp [mputL, mfind]
  | p :: l => by
    unfold mputL
    by_cases e : k = p.1
    · rw [if_pos e]; simp [mfind]
    · rw [if_neg e]; unfold mfind; rw [if_neg e]; exact mfind_put_self
end
end Go.KW
