/- Pointers to objects that may be nil: results and fields. -/
import Derived.Test.YteifnoehmfjogaaDoorKwPtr
set_option linter.unusedSectionVars false
set_option linter.unusedVariables false
namespace Go.KW
open Go Go.RowKit
/-- a pointer that is nil, or to an object that reads as x -/
def PtrO {R : Type} (O : (Nat → Nat) → Tags → World → Nat → R → Prop) (τ : Nat → Nat) (ρ : Tags) (w : World) (v : Value) (x : Option R) : Prop :=
  (x = none ∧ v = .pointer none) ∨ ∃ g y, x = some y ∧ v = .pointer (some ⟨g, 0, none⟩) ∧ O τ ρ w g y
section
variable {R S : Type} {N : Nat} {O : (Nat → Nat) → Tags → World → Nat → R → Prop} {τ τ' : Nat → Nat} {ρ ρ' : Tags} {w w' : World} {v : Value} {x : Option R} {y : R} {g : Nat}
theorem PtrO.nil : PtrO O τ ρ w (.pointer none) (none : Option R) := .inl ⟨rfl, rfl⟩
theorem PtrO.mk (h : O τ ρ w g y) : PtrO O τ ρ w (.pointer (some ⟨g, 0, none⟩)) (some y) := .inr ⟨g, y, rfl, rfl, h⟩
theorem PtrO.none_ (h : PtrO O τ ρ w v x) (hx : x = none) : v = .pointer none := by
  rcases h with ⟨_, h⟩ | ⟨g, y, h, _⟩
  · exact h
  · rw [hx] at h; cases h
theorem PtrO.some_ (h : PtrO O τ ρ w v x) (hx : x = some y) : ∃ g, v = .pointer (some ⟨g, 0, none⟩) ∧ O τ ρ w g y := by
  rcases h with ⟨h, _⟩ | ⟨g, z, h, h2, h3⟩
  · rw [hx] at h; cases h
  · rw [hx] at h
    have := Option.some.inj h
    subst this
    exact ⟨g, h2, h3⟩
theorem PtrO.mv (h : PtrO O τ ρ w v x) (ok : ObjK N O) (mv : ∀ p, p < N → Mv ρ w (τ p) ρ' w' (τ' p)) (h0 : ∀ p, p < N → τ' p ≠ 0) : PtrO O τ' ρ' w' v x := by
  rcases h with h | ⟨g, y, h1, h2, h3⟩
  · exact .inl h
  · exact .inr ⟨g, y, h1, h2, ok.mv h3 mv h0⟩
theorem PtrO.oneCell (h : PtrO O τ ρ w v x) : v.oneCell' = true := by
  rcases h with ⟨_, rfl⟩ | ⟨g, y, _, rfl, _⟩ <;> rfl
/-- by cases -/
def optC {A B : Type} (o : Option A) (k0 : Option B) (k1 : A → Option B) : Option B := match o with | none => k0 | some a => k1 a
theorem optC_none {A B : Type} {o : Option A} {k0 : Option B} {k1 : A → Option B} {r : B} (h : optC o k0 k1 = some r) (ho : o = none) : k0 = some r := by subst ho; exact h
theorem optC_some {A B : Type} {o : Option A} {k0 : Option B} {k1 : A → Option B} {r : B} {a : A} (h : optC o k0 k1 = some r) (ho : o = some a) : k1 a = some r := by subst ho; exact h
end
theorem ev_sllenW {P : Program} {l : Env} {w w1 : World} {t : TypeId} {T : Type} {c : Cdc T} {A : Nat → Prop} {v : Value} {xs : List T} {x : Operand} {U E : TypeId} (hT : P.underlying U = some (.slice E)) (hx : look l x = some v) (h : SlR c A w v xs) :
    Ev P l (.call { callee := .builtin .len, args := #[x], argTypes := #[U] }) t w1 (.int .i64 (xs.length : Int)) := by
  obtain ⟨a, cap, rfl, _⟩ := h.shape
  intro d n e pos after g ha
  simp [execOp, resolve, invoke, builtin, ha.look hx, Builtin.len_, run_underlying hT, goInt]
end Go.KW
