/- Pointers to objects that may be nil: results and fields. -/
import Derived.Test.YtkhodjenbganfaaGreatDoorKwPtr
set_option linter.unusedSectionVars false
set_option linter.unusedVariables false
namespace Go.KW
open Go Go.RowKit
def PtrO {R : Type} (O : (Nat → Nat) → Tags → World → Nat → R → Prop) (τ : Nat → Nat) (ρ : Tags) (w : World) (v : Value) (x : Option R) : Prop :=
 (x = none ∧ v = .pointer none) ∨ ∃ g y, x = some y ∧ v = .pointer (some ⟨g, 0, none⟩) ∧ O τ ρ w g y
section
variable {R S : Type} {N : Nat} {O : (Nat → Nat) → Tags → World → Nat → R → Prop} {τ τ' : Nat → Nat} {ρ ρ' : Tags} {w w' : World} {v : Value} {x : Option R} {y : R} {g : Nat}
theorem PtrO.nil : PtrO O τ ρ w (.pointer none) (none : Option R) := .inl ⟨rfl, rfl⟩
theorem PtrO.mk (h : O τ ρ w g y) : PtrO O τ ρ w (.pointer (some ⟨g, 0, none⟩)) (some y) := .inr ⟨g, y, rfl, rfl, h⟩
theorem PtrO.none_ (h : PtrO O τ ρ w v x) (hx : x = none) : v = .pointer none := by
 rcases h with ⟨_, h⟩ | ⟨g, y, h, _⟩
 ·exact h
 ·rw [hx] at h; cases h
theorem PtrO.some_ (h : PtrO O τ ρ w v x) (hx : x = some y) : ∃ g, v = .pointer (some ⟨g, 0, none⟩) ∧ O τ ρ w g y := by
 rcases h with ⟨h, _⟩ | ⟨g, z, h, h2, h3⟩
 ·rw [hx] at h; cases h
 ·rw [hx] at h
  have := Option.some.inj h
  subst this
  exact ⟨g, h2, h3⟩
theorem PtrO.mv (h : PtrO O τ ρ w v x) (ok : ObjK N O) (mv : ∀ p, p < N → Mv ρ w (τ p) ρ' w' (τ' p)) (h0 : ∀ p, p < N → τ' p ≠ 0) : PtrO O τ' ρ' w' v x := by
 rcases h with h | ⟨g, y, h1, h2, h3⟩
 ·exact .inl h
 ·exact .inr ⟨g, y, h1, h2, ok.mv h3 mv h0⟩
theorem PtrO.oneCell (h : PtrO O τ ρ w v x) : v.oneCell' = true := by
 rcases h with ⟨_, rfl⟩ | ⟨g, y, _, rfl, _⟩ <;> rfl
theorem PtrO.neNil {P : Program} {l : Env} {w1 : World} {x0 y0 : Operand} {t : TypeId} {T U e : TypeId} (h : PtrO O τ ρ w v x) (hT : P.underlying T = some (.pointer e)) (hx : look l x0 = some v) (hy : look l y0 = some (.pointer none)) : Ev P l (.binOp .neq T x0 y0 U) t w1 (.bool (!x.isNone)) := by
 rcases h with ⟨rfl, rfl⟩ | ⟨g, y, rfl, rfl, _⟩
 ·exact ev_pneT_nil hT hx hy
 ·exact ev_pneT_some hT hx hy
def optC {A B : Type} (o : Option A) (k0 : Option B) (k1 : A → Option B) : Option B := match o with | none => k0 | some a => k1 a
theorem optC_none {A B : Type} {o : Option A} {k0 : Option B} {k1 : A → Option B} {r : B} (h : optC o k0 k1 = some r) (ho : o = none) : k0 = some r := by subst ho; exact h
theorem optC_some {A B : Type} {o : Option A} {k0 : Option B} {k1 : A → Option B} {r : B} {a : A} (h : optC o k0 k1 = some r) (ho : o = some a) : k1 a = some r := by subst ho; exact h
end
theorem ev_sllenW {P : Program} {l : Env} {w w1 : World} {t : TypeId} {T : Type} {c : Cdc T} {A : Nat → Prop} {v : Value} {xs : List T} {x : Operand} {U E : TypeId} (hT : P.underlying U = some (.slice E)) (hx : look l x = some v) (h : SlR c A w v xs) :
  Ev P l (.call { callee := .builtin .len, args := #[x], argTypes := #[U] }) t w1 (.int .i64 (xs.length : Int)) := by
 obtain ⟨a, cap, rfl, _⟩ := h.shape
 intro d n e pos after g ha
 simp [execOp, resolve, invoke, builtin, ha.look hx, Builtin.len_, run_underlying hT, goInt]
def rtgR (ρ : Tags) (a b N : Nat) : Tags := fun x => if a ≤ ρ x ∧ ρ x < a + N then b + (ρ x - a) else ρ x
theorem rtgR_tr {ρ : Tags} {w : World} {a N : Nat} (b : Nat) (ha : 2 ≤ a) (hbd : ∀ x, ρ x ≠ 0 → x < w.heap.size) : Tr ρ w (rng a N) (rtgR ρ a b N) w := by
 refine ⟨fun x hx hj => ⟨rfl, ?_⟩, by simp [rng]; omega, by simp [rng]; omega, rfl, rfl, rfl, Nat.le_refl _, fun x hx => hbd x fun h0 => hx ?_⟩
 ·unfold rtgR
  simp only [rng, Bool.and_eq_false_iff, decide_eq_false_iff_not] at hj
  rw [if_neg (by omega)]
 ·unfold rtgR
  rw [if_neg (by omega)]; exact h0
theorem rtgR_mv {ρ : Tags} {w : World} {a b N p : Nat} (ha : 2 ≤ a) (hp : p < N) : Mv ρ w (a + p) (rtgR ρ a b N) w (b + p) := by
 refine ⟨fun x _ h0 => ⟨rfl, ?_⟩, fun x _ h0 => ⟨rfl, ?_⟩, Nat.le_refl _⟩
 ·unfold rtgR; rw [if_neg (by omega)]; exact h0
 ·unfold rtgR; rw [if_pos (by omega)]; omega
theorem slNil {T : Type} {c : Cdc T} {A : Nat → Prop} {w : World} {v : Value} {xs : List T} (h : SlR c A w v xs) : (v = .slice none 0 0 ∧ xs = []) ∨ ∃ a n cap, v = .slice (some a) n cap := by
 rcases h with ⟨h1, h2 | ⟨a, cap, h2, _⟩⟩ | ⟨b, off, cap, cur, t, fr, h1, _⟩
 ·exact .inl ⟨h2, h1⟩
 ·exact .inr ⟨_, _, _, h2⟩
 ·exact .inr ⟨_, _, _, h1⟩
theorem eqIn_slNil {P : Program} {w : World} {U e : TypeId} {a : Option Addr} {n k : Nat} (d : Nat) (hT : P.underlying U = some (.slice e)) : (Op.equalIn (d + 1) U (.slice a n k) (.slice none 0 0)).run P w = .ok a.isNone w := by
 cases a <;> simp [Op.equalIn, run_underlying hT]
theorem ev_slNil {P : Program} {l : Env} {w : World} {t : TypeId} {x y : Operand} {U B e : TypeId} {a : Option Addr} {n k : Nat} {b : Bool} (hT : P.underlying U = some (.slice e)) (hx : look l x = some (.slice a n k)) (hy : look l y = some (.slice none 0 0)) (hb : a.isNone = b) :
  Ev P l (.binOp .eql U x y B) t w (.bool b) := by
 subst hb
 intro c m d pos after gd ha
 have hgd : (eqGuard .eql U x y (.slice a n k) (.slice none 0 0)).run P w = .ok () w := rfl
 have h1 : (Op.equal U (.slice a n k) (.slice none 0 0)).run P w = .ok a.isNone w := eqIn_slNil 9999 hT
 have h : (binOp .eql U (.slice a n k) (.slice none 0 0)).run P w = .ok (.bool a.isNone) w := by simp [binOp, h1]
 simp only [execOp, ha.look hx, ha.look hy, Sem.run_bind, hgd, Result.andThen_ok, h, Sem.run_pure]
end Go.KW
