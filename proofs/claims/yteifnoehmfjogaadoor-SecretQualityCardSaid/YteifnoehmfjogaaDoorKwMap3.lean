/- Maps: iteration. Whichever entry comes next, the plain function must answer alike. -/
import Derived.Test.YteifnoehmfjogaaDoorKwMap2
set_option linter.unusedSectionVars false
set_option linter.unusedVariables false
set_option linter.unusedSimpArgs false
namespace Go.KW
open Go Go.RowKit
open Go.ChangeMaps (setBlock)

section
variable {P : Program} {f : FuncId} {R : Ending → World → Prop} {n : Nat} {kk : List Item} {Qr : Exit → Act → World → Prop} {l : Env} {w w' : World} {ops : Array Oper} {rest : List Oper} {t : TypeId}
variable {K V : Type} [DecidableEq K] {ek : K → Value} {c : Cdc V} {agg : Bool} {ρ ρ' : Tags} {i i' j j' : Nat} {v : Value} {m : GMap K V} {U kt et : TypeId} {r : Nat} {done : List K}

/-- in block r (of tag j) lies an iterator over the map m (of tag i), which has come to the keys 'done' -/
def IterT (ek : K → Value) (c : Cdc V) (agg : Bool) (ρ : Tags) (i j : Nat) (w : World) (r : Nat) (v : Value) (m : GMap K V) (done : List K) : Prop :=
  ρ r = j ∧ ((m = none ∧ v = .map none ∧ w.heap[r]? = some (.mapIter none 0 #[] 0)) ∨ ∃ g l es clock since seen c0, m = some l ∧ v = .map (some g) ∧ ρ g = i ∧ w.heap[g]? = some (.map es clock) ∧
    MapL ek c agg (Wb ρ) w es.toList clock l ∧ w.heap[r]? = some (.mapIter (some g) since seen c0) ∧ since ≤ c0 ∧ since ≤ clock ∧ (∀ e ∈ es.toList, e.born < since) ∧ (∀ b ∈ seen.toList, b < since) ∧
    ∀ (q : Nat) (e : MapEntry) (p : K × V), es.toList[q]? = some e → l[q]? = some p → (e.born ∈ seen.toList ↔ p.1 ∈ done))
theorem IterT.map (h : IterT ek c agg ρ i j w r v m done) : MapT ek c agg ρ i w v m := by
  rcases h.2 with ⟨h1, h2, _⟩ | ⟨g, l, es, clock, since, seen, c0, h1, h2, h3, h4, h5, _⟩
  · exact .inl ⟨h1, h2⟩
  · exact .inr ⟨g, l, es, clock, h1, h2, h3, h4, h5⟩
theorem IterT.mv (h : IterT ek c agg ρ i j w r v m done) (k : Mv ρ w i ρ' w' i') (k2 : Mv ρ w j ρ' w' j') : IterT ek c agg ρ' i' j' w' r v m done := by
  have hr : r < w.heap.size := by
    rcases h.2 with ⟨_, _, h3⟩ | ⟨g, l, es, clock, since, seen, c0, _, _, _, _, _, h6, _⟩
    · exact (Array.getElem?_eq_some_iff.1 h3).1
    · exact (Array.getElem?_eq_some_iff.1 h6).1
  obtain ⟨r1, r2⟩ := k2.own r hr h.1
  refine ⟨r2, ?_⟩
  rcases h.2 with ⟨h1, h2, h3⟩ | ⟨g, l, es, clock, since, seen, c0, h1, h2, h3, h4, h5, h6, h7⟩
  · exact .inl ⟨h1, h2, r1.trans h3⟩
  · obtain ⟨g1, g2⟩ := k.own g (Array.getElem?_eq_some_iff.1 h4).1 h3
    exact .inr ⟨g, l, es, clock, since, seen, c0, h1, h2, g2, g1.trans h4, h5.step k.st, r1.trans h6, h7⟩

end
end Go.KW
