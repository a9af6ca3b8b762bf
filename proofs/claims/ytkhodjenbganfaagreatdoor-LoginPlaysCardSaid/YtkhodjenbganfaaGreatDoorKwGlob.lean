/- Arrays of integers as values: a package's table, loaded as a whole. -/
import Derived.Test.YtkhodjenbganfaaGreatDoorKwMap2
set_option linter.unusedSectionVars false
set_option linter.unusedVariables false
set_option linter.unusedSimpArgs false
namespace Go.KW
open Go Go.RowKit
def arrV (k : IntKind) (xs : List Int) : Value := .agg (xs.map (Value.int k)).toArray
section
variable {P : Program} {l : Env} {w : World} {t : TypeId}
theorem ev_globload {g : Nat} {U : TypeId} {k : IntKind} {xs : List Int} (hT : ∀ w, (isAgg U).run P w = .ok true w) (hz : ∀ w, (sizeOf U).run P w = .ok xs.length w)
  (hc : ∀ i x, idx xs i = some x → w.cell? ⟨g, 0 + i.toNat * 1, none⟩ = some (.int k x)) : Ev P l (.load U (.global g)) t w (arrV k xs) := by
 refine ev_loads (b := g) (o := 0) (cs := xs.map (Value.int k)) hT (by simpa using hz) rfl fun j u hj => ?_
 rw [List.getElem?_map] at hj
 obtain ⟨x, hx, rfl⟩ := Option.map_eq_some_iff.1 hj
 have := hc (j : Int) x (by simp [idx, hx])
 simpa using this
theorem ev_avindex {U E : TypeId} {n : Nat} {k kk : IntKind} {i z : Int} {xs : List Int} {x y : Operand} (hT : P.underlying U = some (.array n E)) (hE : ∀ w, (sizeOf E).run P w = .ok 1 w) (ha : ∀ w, (isAgg E).run P w = .ok false w) (hn : n = xs.length)
  (hx : look l x = some (arrV k xs)) (hy : look l y = some (.int kk i)) (h : idx xs i = some z) : Ev P l (.index U x y) t w (.int k z) := by
 intro c m d pos after g hA
 obtain ⟨h0, hlt, hz⟩ := idx_some h
 have hp : (part E (xs.map (Value.int k)).toArray i.toNat).run P w = .ok (.int k z) w := run_part ha (by simp [hz]) w
 have hc : 0 ≤ i ∧ i < (n : Int) := by omega
 simp only [execOp, hA.look hx, hA.look hy, arrV, Instr.index, Sem.run_bind, asIntOf, Sem.run_pure, Result.andThen_ok, run_underlying hT, if_pos hc, hE, Nat.mul_one, hp]
end
section
variable {T : Type} {c : Cdc T} {E : TypeId} {ρ : Tags} {i : Nat} {A : Nat → Prop} {w : World} {v : Value} {xs : List T}
end
end Go.KW
