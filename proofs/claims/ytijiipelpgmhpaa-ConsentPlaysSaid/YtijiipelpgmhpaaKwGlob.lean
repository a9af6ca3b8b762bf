/- Arrays of integers as values: a package's table, loaded as a whole. -/
import Derived.Test.YtijiipelpgmhpaaKwMap2
set_option linter.unusedSectionVars false
set_option linter.unusedVariables false
set_option linter.unusedSimpArgs false
namespace Go.KW
open Go Go.RowKit
section
variable {P : Program} {l : Env} {w : World} {t : TypeId}
end
section
variable {T : Type} {c : Cdc T} {E : TypeId} {ρ : Tags} {i : Nat} {A : Nat → Prop} {w : World} {v : Value} {xs : List T}
end
end Go.KW
