/- Scopes, guards struck off, rows made by make, and the contracts of Go's library in this calculus' words. -/
import Derived.Test.YtkhodjenbganfaaGreatDoorKwMore
import Derived.Scope
import Derived.Sort.OwnSorted
import Derived.Lib.Strings
import Derived.Lib.Bytealg
import Derived.Lib.Split
import Derived.Lib.Join
import Derived.Lib.SplitLaws
import Derived.Sort.Walk0
namespace Go.KW
open Go Go.RowKit

section
variable {P : Program} {f : FuncId} {R : Ending → World → Prop} {n : Nat} {k : List Item} {Qr : Exit → Act → World → Prop} {l : Env} {w : World} {ops : Array Oper} {rest : List Oper} {t : TypeId}

theorem sr_unguard {d : Option Tmp} {o : Op} {pos : String} {after : Array Edge} {j e : Nat} {b c : Bool} (he : (ops[j]?).bind (·.dst) = some e) (hb : l.get e = some (.bool c)) (hcb : c = b)
  (h : SR P Qr n ops (⟨d, o, t, pos, after, none⟩ :: rest) l w) : SR P Qr n ops (⟨d, o, t, pos, after, some (j, b)⟩ :: rest) l w := by
 intro a ha
 have hw : Region.wanted ⟨d, o, t, pos, after, some (j, b)⟩ (yielded ops a.tmps) = true := by
  simp [Region.wanted, yielded_of ha he hb, hcb]
 have h1 := h a ha
 simp only [wpList, wanted_none, if_true] at h1
 simp only [wpList, hw, if_true]
 exact h1

variable {T : Type} {c : Cdc T} {E : TypeId} {A : Nat → Prop} {xs : List T}

end

end Go.KW
