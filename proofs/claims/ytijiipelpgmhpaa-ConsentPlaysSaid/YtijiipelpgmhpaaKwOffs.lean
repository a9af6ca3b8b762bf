/- Tags: slices of the function's own that begin inside their block (cut off in front). -/
import Derived.Test.YtijiipelpgmhpaaKwGlob
import Derived.ArgAppend
set_option linter.unusedSectionVars false
set_option linter.unusedVariables false
set_option linter.unusedSimpArgs false
namespace Go.KW
open Go Go.RowKit
/-- a slice of the function's own that may begin inside its block -/
def OffT {T : Type} (c : Cdc T) (E : TypeId) (ρ : Tags) (i : Nat) (w : World) (v : Value) (xs : List T) : Prop :=
  (xs = [] ∧ v = .slice none 0 0) ∨ ∃ g off cap cur, v = .slice (some ⟨g, off, none⟩) xs.length cap ∧ ρ g = i ∧ w.heap[g]? = some (.cells cur E (0, 0)) ∧ xs.length ≤ cap ∧ cap ≤ maxLen ∧ off + cap * c.size ≤ cur.size ∧
    ∀ j x, xs[j]? = some x → c.rd (Wb ρ) w (seg cur.toList (off + j * c.size) c.size) x
section
variable {P : Program} {f : FuncId} {R : Ending → World → Prop} {n : Nat} {k : List Item} {Qr : Exit → Act → World → Prop} {l : Env} {w w' : World} {ops : Array Oper} {rest : List Oper} {t : TypeId}
variable {T : Type} {c : Cdc T} {E : TypeId} {ρ ρ' : Tags} {i i' : Nat} {v v2 : Value} {xs ys : List T}
theorem OffT.nil : OffT c E ρ i w (.slice none 0 0) [] := .inl ⟨rfl, rfl⟩
theorem OwnT.off (h : OwnT c E ρ i w v xs) : OffT c E ρ i w v xs := by
  obtain ⟨⟨cells, h1, h2, h3⟩, ht⟩ := h
  rcases h1.2 with ⟨rfl, hn⟩ | ⟨g, cap, cur, rfl, hb, hgg, h4, h5, h6, h7⟩
  · exact .inl ⟨List.eq_nil_of_length_eq_zero hn, rfl⟩
  · refine .inr ⟨g, 0, cap, cur, rfl, ht g rfl, hgg, h4, h5, by omega, fun j x hx => ?_⟩
    have hlt := (List.getElem?_eq_some_iff.1 hx).1
    have hle : j * c.size + c.size ≤ xs.length * c.size := by
      rw [← Nat.succ_mul]; exact Nat.mul_le_mul_right _ hlt
    rw [Nat.zero_add, seg_prefix h7 hle]
    exact h3 j x hx
theorem OffT.mv (h : OffT c E ρ i w v xs) (m : Mv ρ w i ρ' w' i') (hi : i' ≠ 0) : OffT c E ρ' i' w' v xs := by
  rcases h with h | ⟨b, off, cap, cur, h1, h2, h3, h4, h5, h6, h7⟩
  · exact .inl h
  · have hlt : b < w.heap.size := (Array.getElem?_eq_some_iff.1 h3).1
    have key := m.own b hlt h2
    exact .inr ⟨b, off, cap, cur, h1, key.2, key.1.trans h3, h4, h5, h6, fun j x hx => c.step (h7 j x hx) m.st⟩
theorem OffT.sl (h : OffT c E ρ i w v xs) : SlT c ρ i w v xs := by
  rcases h with ⟨rfl, rfl⟩ | ⟨b, off, cap, cur, h1, h2, h3, h4, h5, h6, h7⟩
  · exact .inl ⟨rfl, .inl rfl⟩
  · exact .inr ⟨b, off, cap, cur, E, (0, 0), h1, .inr h2, h3, h4, h5, h7⟩
theorem OffT.asSl (h : OffT c E ρ i w v xs) : SlR c (fun _ => False) w v xs := h.sl.as
theorem OffT.oneCell (h : OffT c E ρ i w v xs) : v.oneCell' = true := h.sl.oneCell
theorem OffT.lt (h : OffT c E ρ i w v xs) : ∀ g, v.ownBlock = some g → ρ g = i ∧ g < w.heap.size := by
  intro g hg
  rcases h with ⟨rfl, rfl⟩ | ⟨b, off, cap, cur, rfl, h2, h3, _⟩
  · simp [Value.ownBlock] at hg
  · simp only [Value.ownBlock, Option.some.injEq] at hg
    subst hg
    exact ⟨h2, (Array.getElem?_eq_some_iff.1 h3).1⟩
/-- cut off in front -/
theorem OffT.cutT_l {U : TypeId} {ti : TypeInfo} {q : Int} (h : OffT c E ρ i w v xs) (hT : P.underlying U = some (.slice E)) (hE : P.info? E = some ti) (hs : ti.size = c.size) (hb : inc q xs.length xs.length = true) :
    ∃ v', OffT c E ρ i w v' (cut xs q xs.length) ∧ ∀ {l : Env} {x y : Operand} {k1 : IntKind} {t : TypeId} (w1 : World), look l x = some v → look l y = some (.int k1 q) → Ev P l (.slice U x (some y) none none) t w1 v' := by
  have hi := inc_iff.1 hb
  have hcl : (cut xs q xs.length).length = xs.length - q.toNat := by simp only [cut, List.length_take, List.length_drop]; omega
  obtain ⟨a, cap, hv, h1, _⟩ := h.sl.as.shape
  refine ⟨.slice (if cap = q.toNat then a else a.map (·.add (q.toNat * c.size))) ((xs.length : Int).toNat - q.toNat) (cap - q.toNat), ?_, fun {l x y k1 t} w1 hx hy e m d' pos' after' gd ha => ?_⟩
  · rcases h with ⟨rfl, rfl⟩ | ⟨b, off, cap', cur, rfl, h2, h3, h4, h5, h6, h7⟩
    · simp only [Value.slice.injEq] at hv
      obtain ⟨rfl, _, rfl⟩ := hv
      have : q = 0 := by simp at hi; omega
      subst this
      exact .inl ⟨by simp [cut], by simp⟩
    · simp only [Value.slice.injEq] at hv
      obtain ⟨rfl, _, rfl⟩ := hv
      by_cases hcap : cap' = q.toNat
      · refine .inr ⟨b, off, cap' - q.toNat, cur, by rw [hcl, if_pos hcap]; simp, h2, h3, by rw [hcl]; omega, by omega, by rw [hcap, Nat.sub_self, Nat.zero_mul]; omega, fun m x hx => ?_⟩
        have := (List.getElem?_eq_some_iff.1 hx).1
        omega
      · have hm : (cap' - q.toNat) * c.size + q.toNat * c.size = cap' * c.size := by rw [← Nat.add_mul]; congr 1; omega
        refine .inr ⟨b, off + q.toNat * c.size, cap' - q.toNat, cur, by rw [hcl, if_neg hcap]; simp [addr_add], h2, h3, by rw [hcl]; omega, by omega, by omega, fun m x hx => ?_⟩
        have hx' : xs[q.toNat + m]? = some x := by
          have hlt := (List.getElem?_eq_some_iff.1 hx).1
          rw [hcl] at hlt
          simp only [cut, List.getElem?_take, List.getElem?_drop] at hx
          rw [if_pos (by omega)] at hx
          exact hx
        have := h7 _ _ hx'
        rwa [Nat.add_mul, ← Nat.add_assoc] at this
  · subst hv
    have := run_slice_sl (P := P) (w := w1) (U := U) (a := a) (len := xs.length) (cap := cap) hT hE (lo := some (k1, q)) (hi := none) (i := q) (j := xs.length) rfl rfl hi.1 hi.2.1 (by omega)
    simp only [Option.map_some, Option.map_none] at this
    simp only [execOp, ha.look hx, ha.look hy, Option.map_some, Option.map_none, Sem.run_bind, this, Result.andThen_ok, Sem.run_pure, hs]
/-- a block that is read only from now on -/
theorem Blk.frzEl {g : Nat} {cur : Array Value} {tt : TypeId} {cs : List Value} {x : T} (h : Blk ρ i w g (.cells cur tt (0, 0))) (hc : cur.toList = cs) (rd : c.rd (Wb (frz ρ i)) w cs x) : ElT c (frz ρ i) 0 w g 0 cs x := by
  refine ⟨rd, .inl (by unfold frz; rw [if_pos h.tag]), fun j u hj => ?_⟩
  have := h.get
  simp only [World.cell?, this]
  subst hc
  simpa using hj
theorem ev_notc {x : Operand} {U : TypeId} {a b : Bool} (hx : look l x = some (.bool a)) (h : (!a) = b) : Ev P l (.unOp .not U x) t w (.bool b) := by subst h; exact ev_not hx
end
end Go.KW
