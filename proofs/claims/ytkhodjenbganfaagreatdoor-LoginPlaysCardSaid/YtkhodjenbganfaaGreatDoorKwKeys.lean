/- The keys of a map, sorted: 'slices.Sorted(maps.Keys(m))'. -/
import Derived.Test.YtkhodjenbganfaaGreatDoorKwMap3
import Derived.Test.YtkhodjenbganfaaGreatDoorKwNext
import Derived.Sort.KeysCollected
import Derived.CallsIn
set_option linter.unusedSectionVars false
set_option linter.unusedVariables false
set_option linter.unusedSimpArgs false
namespace Go.KW
open Go Go.RowKit

section
variable {P : Program} {V : Type} {c : Cdc V} {agg : Bool} {ρ : Tags} {i : Nat} {w : World} {v : Value} {m : GMap Str V} {kt : TypeId}

end

end Go.KW
