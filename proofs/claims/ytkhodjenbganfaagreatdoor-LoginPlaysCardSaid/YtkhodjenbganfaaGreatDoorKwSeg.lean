/- Regions that draw their order and in which something is written: what is written lies between what is not, in every order. -/
import Derived.Test.YtkhodjenbganfaaGreatDoorKwTag
import Derived.StillTail
set_option linter.unusedSectionVars false
set_option linter.unusedVariables false
set_option linter.unusedSimpArgs false
namespace Go.KW
open Go Go.RowKit

def pre (ops : Array Oper) (m : Nat) : Array Bool := Array.ofFn (n := ops.size) fun i => decide (i.val < m)
section
variable {P : Program} {ops : Array Oper} {md : Region.Mode} {m n : Nat}
variable {C : World → Prop}
end

def qn (K : Act → World → Prop) : Exit → Act → World → Prop
 | .normal, a, w => K a w
 | _, _, _ => False
section
variable {P : Program} {f : FuncId} {R : Ending → World → Prop} {n : Nat} {k : List Item} {Qr : Exit → Act → World → Prop} {l : Env} {w : World} {ops : Array Oper} {m m' : Nat}

theorem wp_of_qn {o : Oper} {a : Act} {K : Act → World → Prop} (h : o.wp P a w K (qn K)) : o.wp P a w K Qr := by
 unfold Oper.wp at *
 generalize (execOp a.eval o).run P w = r at *
 cases r with
 | ok n w' =>
  cases n <;> simp only [Oper.upon] at h ⊢
  case value => exact h
  case skip => exact h
  case defer => exact h
  case enter f args =>
   refine Calls.mono h fun e w'' he => ?_
   cases e with
   | returned u => exact he
   | panicked c => exact (he : False).elim
   | outgrown => obtain ⟨_, _, h⟩ := he; exact (h : False).elim
  case row => exact h
  all_goals exact h
 | halt x w' => cases x <;> simp only [Oper.upon] at h ⊢ <;> first | exact h | exact h.elim
end
end Go.KW
