/- Maps as values that are read only: up to the order of their entries. -/
import Derived.Test.YtkhodjenbganfaaGreatDoorKwOffs
import Derived.Test.YtkhodjenbganfaaGreatDoorKwMap3
import Derived.Test.YtkhodjenbganfaaGreatDoorKwMapP
set_option linter.unusedSectionVars false
set_option linter.unusedVariables false
set_option linter.unusedSimpArgs false
namespace Go.KW
open Go Go.RowKit
section
variable {K V : Type} [DecidableEq K]
instance decGMap {K V : Type} [DecidableEq K] [DecidableEq V] : DecidableEq (GMap K V) := fun a b => match a, b with
 | none, none => isTrue rfl
 | some x, some y => if h : x = y then isTrue (by rw [h]) else isFalse fun e => h (Option.some.inj e)
 | none, some _ => isFalse fun e => by cases e
 | some _, none => isFalse fun e => by cases e
def mperm (a b : GMap K V) : Prop := match a, b with
 | none, none => True
 | some x, some y => x.Perm y
 | _, _ => False
theorem mperm.refl (a : GMap K V) : mperm a a := by
 cases a
 ·trivial
 ·exact List.Perm.refl _
theorem mperm.left {a b : GMap K V} (h : mperm a b) (done : List K) : (mleft a done).Perm (mleft b done) := by
 cases a <;> cases b
 ·exact List.Perm.refl _
 ·exact h.elim
 ·exact h.elim
 ·exact List.Perm.filter _ h
end
section
variable {P : Program} {f : FuncId} {R : Ending → World → Prop} {n : Nat} {kk : List Item} {Qr : Exit → Act → World → Prop} {l : Env} {w w' : World} {ops : Array Oper} {rest : List Oper} {t : TypeId}
variable {K V : Type} [DecidableEq K] {ek : K → Value} {c : Cdc V} {agg : Bool} {ρ ρ' : Tags} {i i' j j' : Nat} {v : Value} {m m' : GMap K V} {U kt et : TypeId} {r : Nat} {done : List K} {A A' : Nat → Prop}
def MapRd (ek : K → Value) (c : Cdc V) (agg : Bool) (A : Nat → Prop) (w : World) (v : Value) (m : GMap K V) : Prop :=
 (m = none ∧ v = .map none) ∨ ∃ g l l' es clock, m = some l ∧ l'.Perm l ∧ v = .map (some g) ∧ ¬ A g ∧ w.heap[g]? = some (.map es clock) ∧ MapL ek c agg A w es.toList clock l'
theorem MapRd.nil : MapRd ek c agg A w (.map none) (none : GMap K V) := .inl ⟨rfl, rfl⟩
theorem MapRd.step (h : MapRd ek c agg A w v m) (s : St A w A' w') : MapRd ek c agg A' w' v m := by
 rcases h with h | ⟨g, l0, l1, es, clock, h1, h2, h3, h4, h5, h6⟩
 ·exact .inl h
 ·have hlt := (Array.getElem?_eq_some_iff.1 h5).1
  refine .inr ⟨g, l0, l1, es, clock, h1, h2, h3, fun ha => ?_, (s.same g hlt h4).trans h5, h6.step s⟩
  rcases s.av g ha with h | h
  ·exact h4 h
  ·omega
theorem MapRd.mv (h : MapRd ek c agg (Wb ρ) w v m) (k : Mv ρ w i ρ' w' i') : MapRd ek c agg (Wb ρ') w' v m := h.step k.st
theorem MapRd.oneCell (h : MapRd ek c agg A w v m) : v.oneCell' = true := by
 rcases h with ⟨_, rfl⟩ | ⟨g, _, _, _, _, _, _, rfl, _⟩ <;> rfl
def IterP (ek : K → Value) (c : Cdc V) (agg : Bool) (ρ : Tags) (j : Nat) (w : World) (r : Nat) (v : Value) (m : GMap K V) (done : List K) : Prop :=
 ∃ m', mperm m' m ∧ IterT ek c agg ρ 0 j w r v m' done
theorem IterP.mv (h : IterP ek c agg ρ j w r v m done) (k : Mv ρ w 0 ρ' w' 0) (k2 : Mv ρ w j ρ' w' j') : IterP ek c agg ρ' j' w' r v m done := by
 obtain ⟨m1, h1, h2⟩ := h
 exact ⟨m1, h1, h2.mv k k2⟩
end
section
end
section
variable {V : Type}
end
end Go.KW
