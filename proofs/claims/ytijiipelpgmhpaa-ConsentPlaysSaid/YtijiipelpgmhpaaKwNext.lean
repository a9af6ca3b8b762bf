/- Ranges over strings, arrays that make lays, closures, and two library contracts more. -/
import Derived.Test.YtijiipelpgmhpaaKwLib
import Derived.Laws.RangeAny
import Derived.Lib.ItoaNum
import Derived.Lib.LaidTab
import Derived.Lib.TrimByte
import Derived.WalkSmall
import Derived.Sort.Grow
import Derived.Sort.OwnSorted
import Derived.Sort.Walk0
namespace Go.KW
open Go Go.RowKit

section
variable {P : Program} {f : FuncId} {R : Ending → World → Prop} {n : Nat} {k : List Item} {Qr : Exit → Act → World → Prop} {l : Env} {w : World} {ops : Array Oper} {rest : List Oper} {t : TypeId}
variable {A : Nat → Prop} {B : Nat} {L : List (Nat × Obj)}

theorem RwV.sl {v : Value} {g j : Nat} {xs : List Int} {ex : List Value} {tt : TypeId} (hv : RwV v g xs.length) (h : Hp A B w L) (hj : L[j]? = some (g, rowObj (Value.int .u8) xs ex tt)) : SlR (intC .u8) (fun _ => False) w v xs := by
  obtain ⟨cap, rfl, h1, h2⟩ := hv
  exact arr_sl rfl h hj rfl h1 h2

/-! ### closures: what they have captured is read -/
theorem Hp.el {T : Type} {c : Cdc T} {x : T} {i g : Nat} {cs : List Value} {tt : TypeId} {fr : Nat × Nat} (h : Hp A B w L) (hi : L[i]? = some (g, .cells cs.toArray tt fr)) (hr : c.rd (fun _ => False) w cs x) : ElR c (fun _ => False) w g 0 cs x :=
  ⟨hr, id, fun j u hj => by rw [Nat.zero_add]; exact h.cell hi (by simpa using hj)⟩
theorem ElR.weak {T : Type} {c : Cdc T} {A' : Nat → Prop} {b o : Nat} {cs : List Value} {x : T} (h : ElR c A w b o cs x) (s : ∀ b, A' b → A b) : ElR c A' w b o cs x :=
  ⟨c.step h.rd (.weak s), fun ha => h.av (s _ ha), h.cell⟩
theorem ElR.below {T : Type} {c : Cdc T} {w' : World} {b o : Nat} {cs : List Value} {x : T} (h : ElR c A w b o cs x) (s : Below w.heap.size w w') (h0 : 0 < cs.length) : ElR c A w' b o cs x := h.step (.of_below s) h0
theorem run_callc {a : Act} (ha : At n l a) {fv : Operand} {g : FuncId} {cap : Array Value} {av : Array Operand} {ts : Array TypeId} {t : TypeId} {pos : String} {after : Array Edge} {vs : List Value} {d : Option Tmp} {gd : Option (Nat × Bool)}
    (hv : look l fv = some (.func (.func g) #[] cap))
    (hc : ∀ (args : Array Value) (w : World), (callFunc g args).run P w = .ok (.enter g args) w)
    (hargs : av.toList.map (look l) = vs.map some) :
    (execOp a.eval ⟨d, .call { callee := .value fv, args := av, argTypes := ts }, t, pos, after, gd⟩).run P w = .ok (.enter g (vs ++ cap.toList).toArray) w := by
  simp [execOp, resolve, ha.look hv, Deferred.ofValue, map_looka ha hargs, invoke, hc]
theorem sr_callc {d : Nat} {fv : Operand} {g : FuncId} {cap : Array Value} {av : Array Operand} {ts : Array TypeId} {t : TypeId} {pos : String} {after : Array Edge} {vs : List Value}
    (hv : look l fv = some (.func (.func g) #[] cap))
    (hc : ∀ (args : Array Value) (w : World), (callFunc g args).run P w = .ok (.enter g args) w)
    (hargs : av.toList.map (look l) = vs.map some) {Rc : Value → World → Prop}
    (h : Calls P g (vs ++ cap.toList).toArray w (Ret Rc)) (hd : d < n) (hk : ∀ v w', Rc v w' → SR P Qr n ops rest (l.put d v) w') :
    SR P Qr n ops (⟨some d, .call { callee := .value fv, args := av, argTypes := ts }, t, pos, after, none⟩ :: rest) l w := by
  intro a ha
  simp only [wpList, wanted_none, if_true, Oper.wp, run_callc ha hv hc hargs, Oper.upon_enter]
  refine .inl (h.mono ?_)
  rintro e w' ⟨v, rfl, hv⟩
  exact hk v w' hv _ (ha.put v hd)
end

/-- a closure is made -/
theorem ev_makeFunc {P : Program} {l : Env} {w : World} {t : TypeId} {g : FuncId} {cs : Array Operand} {vs : List Value} (h : cs.toList.map (look l) = vs.map some) : Ev P l (.makeFunc (.func g) #[] cs) t w (.func (.func g) #[] vs.toArray) := by
  intro c n d pos after g ha
  simp [execOp, map_looka ha h, Instr.makeFunc]

/-! ### a part of a slice, in a region that draws its order -/
section
variable {P : Program} {A : Nat → Prop} {w : World} {T : Type} {c : Cdc T} {v : Value} {xs : List T} {U E : TypeId} {i j : Int} {ti : TypeInfo}
end

end Go.KW
