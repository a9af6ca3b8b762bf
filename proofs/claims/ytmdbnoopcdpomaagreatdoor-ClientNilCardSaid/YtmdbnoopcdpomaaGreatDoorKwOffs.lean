/- Tags: slices of the function's own that begin inside their block (cut off in front). -/
import Derived.Test.YtmdbnoopcdpomaaGreatDoorKwGlob
import Derived.ArgAppend
set_option linter.unusedSectionVars false
set_option linter.unusedVariables false
set_option linter.unusedSimpArgs false
namespace Go.KW
open Go Go.RowKit
/-- a slice of the function's own that may begin inside its block -/
def OffT {T : Type} (c : Cdc T) (E : TypeId) (ρ : Tags) (i : Nat) (w : World) (v : Value) (xs : List T) : Prop :=
  (xs = [] ∧ v = .slice none 0 0) ∨ ∃ g off cap cur, v = .slice (some ⟨g, off, none⟩) xs.length cap ∧ ρ g = i ∧ w.heap[g]? = some (.cells cur E (0, 0)) ∧ xs.length ≤ cap ∧ cap ≤ maxLen ∧ off + cap * c.size ≤ cur.size ∧
    ∀ j x, xs[j]? = some x → c.rd (Wb ρ) w (seg cur.toList (off + j * c.size) c.size) x
section
variable {P : Program} {f : FuncId} {R : Ending → World → Prop} {n : Nat} {k : List Item} {Qr : Exit → Act → World → Prop} {l : Env} {w w' : World} {ops : Array Oper} {rest : List Oper} {t : TypeId}
variable {T : Type} {c : Cdc T} {E : TypeId} {ρ ρ' : Tags} {i i' : Nat} {v v2 : Value} {xs ys : List T}
theorem OffT.nil : OffT c E ρ i w (.slice none 0 0) [] := .inl ⟨rfl, rfl⟩
theorem OwnT.off (h : OwnT c E ρ i w v xs) : OffT c E ρ i w v xs := by
  obtain ⟨⟨cells, h1, h2, h3⟩, ht⟩ := h
  rcases h1.2 with ⟨rfl, hn⟩ | ⟨g, cap, cur, rfl, hb, hgg, h4, h5, h6, h7⟩
  · exact .inl ⟨List.eq_nil_of_length_eq_zero hn, rfl⟩
  · refine .inr ⟨g, 0, cap, cur, rfl, ht g rfl, hgg, h4, h5, by omega, fun j x hx => ?_⟩
    have hlt := (List.getElem?_eq_some_iff.1 hx).1
    have hle : j * c.size + c.size ≤ xs.length * c.size := by
      rw [← Nat.succ_mul]; exact Nat.mul_le_mul_right _ hlt
    rw [Nat.zero_add, seg_prefix h7 hle]
    exact h3 j x hx
theorem OffT.mv (h : OffT c E ρ i w v xs) (m : Mv ρ w i ρ' w' i') (hi : i' ≠ 0) : OffT c E ρ' i' w' v xs := by
  rcases h with h | ⟨b, off, cap, cur, h1, h2, h3, h4, h5, h6, h7⟩
  · exact .inl h
  · have hlt : b < w.heap.size := (Array.getElem?_eq_some_iff.1 h3).1
    have key := m.own b hlt h2
    exact .inr ⟨b, off, cap, cur, h1, key.2, key.1.trans h3, h4, h5, h6, fun j x hx => c.step (h7 j x hx) m.st⟩
theorem OffT.sl (h : OffT c E ρ i w v xs) : SlT c ρ i w v xs := by
  rcases h with ⟨rfl, rfl⟩ | ⟨b, off, cap, cur, h1, h2, h3, h4, h5, h6, h7⟩
  · exact .inl ⟨rfl, .inl rfl⟩
  · exact .inr ⟨b, off, cap, cur, E, (0, 0), h1, .inr h2, h3, h4, h5, h7⟩
theorem OffT.asSl (h : OffT c E ρ i w v xs) : SlR c (fun _ => False) w v xs := h.sl.as
theorem OffT.oneCell (h : OffT c E ρ i w v xs) : v.oneCell' = true := h.sl.oneCell
theorem OffT.isSl (h : OffT c E ρ i w v xs) : ∃ a n cap, v = .slice a n cap := h.sl.isSl
theorem OffT.lt (h : OffT c E ρ i w v xs) : ∀ g, v.ownBlock = some g → ρ g = i ∧ g < w.heap.size := by
  intro g hg
  rcases h with ⟨rfl, rfl⟩ | ⟨b, off, cap, cur, rfl, h2, h3, _⟩
  · simp [Value.ownBlock] at hg
  · simp only [Value.ownBlock, Option.some.injEq] at hg
    subst hg
    exact ⟨h2, (Array.getElem?_eq_some_iff.1 h3).1⟩
theorem ev_notc {x : Operand} {U : TypeId} {a b : Bool} (hx : look l x = some (.bool a)) (h : (!a) = b) : Ev P l (.unOp .not U x) t w (.bool b) := by subst h; exact ev_not hx
end
end Go.KW
