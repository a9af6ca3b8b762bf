/- Arrays of integers as values: a package's table, loaded as a whole. -/
import Derived.Test.YtibmfjehbmdbkaaKwMap2
set_option linter.unusedSectionVars false
set_option linter.unusedVariables false
set_option linter.unusedSimpArgs false
namespace Go.KW
open Go Go.RowKit
section
variable {P : Program} {l : Env} {w : World} {t : TypeId}
end
section
variable {T : Type} {c : Cdc T} {E : TypeId} {ρ : Tags} {i : Nat} {A : Nat → Prop} {w : World} {v : Value} {xs : List T}
theorem SlR.isSl (h : SlR c A w v xs) : ∃ a n cap, v = .slice a n cap := by obtain ⟨a, cap, rfl, _⟩ := h.shape; exact ⟨_, _, _, rfl⟩
theorem SlT.isSl (h : SlT c ρ i w v xs) : ∃ a n cap, v = .slice a n cap := h.as.isSl
theorem OwnT.isSl (h : OwnT c E ρ i w v xs) : ∃ a n cap, v = .slice a n cap := h.sl.isSl
end
end Go.KW
