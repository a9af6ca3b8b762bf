/- Tags: slices of the function's own: append, literals, elements. -/
import Derived.Test.YtmdbnoopcdpomaaGreatDoorKwTag
set_option linter.unusedSectionVars false
set_option linter.unusedVariables false
set_option linter.unusedSimpArgs false
namespace Go.KW
open Go Go.RowKit

/-- a slice that reads as xs; where it lies does not matter -/
def SlX {T : Type} (c : Cdc T) (A : Nat → Prop) (w : World) (v : Value) (xs : List T) : Prop :=
  (xs = [] ∧ (v = .slice none 0 0 ∨ ∃ a cap, v = .slice (some a) 0 cap ∧ cap ≤ maxLen)) ∨ ∃ b off cap cur t fr, v = .slice (some ⟨b, off, none⟩) xs.length cap ∧ w.heap[b]? = some (.cells cur t fr) ∧ xs.length ≤ cap ∧ cap ≤ maxLen ∧
    ∀ i x, xs[i]? = some x → c.rd A w (seg cur.toList (off + i * c.size) c.size) x
theorem SlT.x {T : Type} {c : Cdc T} {ρ : Tags} {k : Nat} {w : World} {v : Value} {xs : List T} (h : SlT c ρ k w v xs) : SlX c (Wb ρ) w v xs := by
  rcases h with h | ⟨b, off, cap, cur, t, fr, h1, _, h3, h4, h5, h6⟩
  · exact .inl h
  · exact .inr ⟨b, off, cap, cur, t, fr, h1, h3, h4, h5, h6⟩
theorem SlR.x {T : Type} {c : Cdc T} {ρ : Tags} {w : World} {v : Value} {xs : List T} (h : SlR c (Wb ρ) w v xs) : SlX c (Wb ρ) w v xs := (SlT.of_sl (i := 0) h).x
theorem SlX.nil {T : Type} {c : Cdc T} {A : Nat → Prop} {w : World} : SlX c A w (.slice none 0 0) [] := .inl ⟨rfl, .inl rfl⟩

section
variable {P : Program} {f : FuncId} {R : Ending → World → Prop} {n : Nat} {k : List Item} {Qr : Exit → Act → World → Prop} {l : Env} {w : World} {ops : Array Oper} {rest : List Oper} {t : TypeId}
variable {T : Type} {c : Cdc T} {E : TypeId} {A : Nat → Prop} {B : Nat} {v v2 : Value} {xs ys : List T}
end

section
variable {P : Program} {f : FuncId} {R : Ending → World → Prop} {n : Nat} {k : List Item} {Qr : Exit → Act → World → Prop} {l : Env} {w : World} {ops : Array Oper} {rest : List Oper} {t : TypeId}
variable {T : Type} {c : Cdc T} {E : TypeId} {ρ : Tags} {v v2 : Value} {xs ys : List T}

/-- the grown slice's block bears the tag too -/
def ownTags (ρ : Tags) (i : Nat) (v : Value) : Tags := fun b => if v.ownBlock = some b then i else ρ b
/-- a literal that is read only -/
theorem sr_litT {d : Nat} {U : TypeId} {m : Nat} {ps : Array (Nat × Operand)} {vs : Array (Nat × Value)} {cs : Array Value} {css : List (List Value)} {pos : String} {after : Array Edge}
    (hp : ps.toList.map (fun p => (look l p.2).map fun u => (p.1, u)) = vs.toList.map some)
    (hrun : ∀ w, (Instr.buildSlice U m vs).run P w = .ok (.slice (some ⟨w.heap.size, 0, none⟩) m m) (w.alloc (.cells cs E)))
    (hc : cs.toList = css.flatten) (hr : RdAll c (Wb ρ) w css xs) (hm : xs.length = m) (hmx : m ≤ maxLen) (hbd : ∀ b, ρ b ≠ 0 → b < w.heap.size) (hd : d < n)
    (hk : ∀ v' w', SlR c (Wb ρ) w' v' xs → Below w.heap.size w w' → SR P Qr n ops rest (l.put d v') w') :
    SR P Qr n ops (⟨some d, .buildSlice U m ps, t, pos, after, none⟩ :: rest) l w := sr_lit hp hrun hc hr hm hmx hbd hd hk
/-- likewise in a region that draws its order -/
theorem SlT.elem {i : Nat} {U E : TypeId} {ti : TypeInfo} {q : Int} {z : T} (h : SlT c ρ i w v xs) (hT : P.underlying U = some (.slice E)) (hE : P.info? E = some ti) (hs : ti.size = c.size) (hi : idx xs q = some z) :
    ∃ b o cs, (∀ {l : Env} {x y : Operand} {kk : IntKind} {t : TypeId} (w1 : World), look l x = some v → look l y = some (.int kk q) → Ev P l (.indexAddr U x y) t w1 (.pointer (some ⟨b, o, none⟩))) ∧ ElT c ρ i w b o cs z := by
  obtain ⟨h0, hlt, hz⟩ := idx_some hi
  rcases h with ⟨rfl, _⟩ | ⟨b, off, cap, cur, t', fr, rfl, h2, h3, h4, h5, h6⟩
  · simp at hlt
  · have hrd := h6 _ _ hz
    refine ⟨b, off + q.toNat * c.size, _, fun {l x y kk t} w1 hx hy => ?_, ⟨hrd, h2, fun j u hj => ?_⟩⟩
    · intro d n e pos after g ha
      have hb : 0 ≤ q ∧ q < (xs.length : Int) := by omega
      simp [execOp, ha.look hx, ha.look hy, Instr.indexAt, asIntOf, run_underlying hT, hb, sizeOf_of hE, hs, addr_add]
    · have := seg_get hj
      simp only [World.cell?, h3]
      simpa using this
end

section
variable {P : Program} {T : Type} {c : Cdc T} {E U : TypeId} {ρ : Tags} {kt : Nat} {w : World} {v : Value} {xs : List T} {ti : TypeInfo} {i j : Int}
/-- a part of a slice -/
theorem SlT.cut_at {v' : Value} {i j : Int} (h : SlT c ρ kt w v xs) (hb : inc i j xs.length = true)
    (hv : ∃ a cap, v = .slice a xs.length cap ∧ v' = .slice (if cap = i.toNat then a else a.map (·.add (i.toNat * c.size))) (j.toNat - i.toNat) (cap - i.toNat)) : SlT c ρ kt w v' (cut xs i j) := by
  obtain ⟨a, cap', hv1, hv2⟩ := hv
  have hi := inc_iff.1 hb
  have hcl : (cut xs i j).length = j.toNat - i.toNat := by simp only [cut, List.length_take, List.length_drop]; omega
  rcases h with ⟨rfl, rfl | ⟨a0, cap0, rfl, hc0⟩⟩ | ⟨b, off, cap, cur, t', fr, rfl, h2, h3, h4, h5, h6⟩
  · simp only [Value.slice.injEq] at hv1
    obtain ⟨rfl, _, rfl⟩ := hv1
    have : i = 0 := by simp at hi; omega
    have hj : j = 0 := by simp at hi; omega
    subst this; subst hj
    exact .inl ⟨by simp [cut], .inl (by rw [hv2]; simp)⟩
  · simp only [Value.slice.injEq] at hv1
    obtain ⟨rfl, _, rfl⟩ := hv1
    have : i = 0 := by simp at hi; omega
    have hj : j = 0 := by simp at hi; omega
    subst this; subst hj
    refine .inl ⟨by simp [cut], .inr ?_⟩
    by_cases hz : cap0 = (0 : Int).toNat
    · exact ⟨a0, cap0 - (0 : Int).toNat, by rw [hv2, if_pos hz]; simp, by simpa using hc0⟩
    · exact ⟨a0.add ((0 : Int).toNat * c.size), cap0 - (0 : Int).toNat, by rw [hv2, if_neg hz]; simp, by simpa using hc0⟩
  · simp only [Value.slice.injEq] at hv1
    obtain ⟨rfl, _, rfl⟩ := hv1
    by_cases hcap : cap = i.toNat
    · refine .inr ⟨b, off, cap - i.toNat, cur, t', fr, by rw [hv2, hcl, if_pos hcap], h2, h3, by rw [hcl]; omega, by omega, fun m x hx => ?_⟩
      have := (List.getElem?_eq_some_iff.1 hx).1
      omega
    · refine .inr ⟨b, off + i.toNat * c.size, cap - i.toNat, cur, t', fr, ?_, h2, h3, by rw [hcl]; omega, by omega, fun m x hx => ?_⟩
      · rw [hv2, hcl, if_neg hcap]; simp [addr_add]
      · have h7 : xs[i.toNat + m]? = some x := by
          unfold cut at hx
          rw [List.getElem?_take] at hx
          split at hx
          · rwa [List.getElem?_drop] at hx
          · cases hx
        have h8 := h6 _ _ h7
        rw [show off + i.toNat * c.size + m * c.size = off + (i.toNat + m) * c.size by rw [Nat.add_mul]; omega]
        exact h8

end

section
variable {P : Program} {f : FuncId} {R : Ending → World → Prop} {n : Nat} {k : List Item} {Qr : Exit → Act → World → Prop} {l : Env} {w : World} {ops : Array Oper} {rest : List Oper} {t : TypeId}
variable {T : Type} {c : Cdc T} {E : TypeId} {ρ : Tags} {i : Nat} {v : Value} {xs : List T} {q : Int} {z z' : T} {g o : Nat} {cs cs' : List Value}
end

/-! ### library functions on slices of the function's own -/
section
variable {T : Type} {c : Cdc T} {E : TypeId} {ρ : Tags} {i : Nat} {w w' : World} {v : Value} {xs ys : List T}
theorem freshT (hi : 2 ≤ i) (hbd : ∀ b, ρ b ≠ 0 → b < w.heap.size) (h : Fresh c E (Wb ρ) 0 w xs v w') : OwnT c E (ownTags ρ i v) i w' v xs ∧ Tr ρ w (fun t => t == i) (ownTags ρ i v) w' := by
  obtain ⟨A', ⟨cells, h1, h2, h3⟩, _, h5, h6, _, h8⟩ := h
  have hsub : ∀ b, Wb (ownTags ρ i v) b → A' b := by
    intro b hb
    unfold Wb ownTags at hb
    by_cases e : v.ownBlock = some b
    · exact h2 b e
    · rw [if_neg e] at hb; exact h6 b hb
  refine ⟨⟨⟨cells, h1, fun g hg => by unfold Wb ownTags; rw [if_pos hg]; omega, fun j x hx => c.step (h3 j x hx) (.weak hsub)⟩, fun g hg => by simp [ownTags, hg]⟩, fun b hb hj => ⟨h5.block b hb, ?_⟩, by simp; omega, by simp; omega, h5.os, h5.tape, h5.output, h5.size, fun b hb => ?_⟩
  · unfold ownTags
    rw [if_neg fun e => by have := h8 b e; omega]
  · unfold ownTags at hb
    by_cases e : v.ownBlock = some b
    · exact (h1.lt b e).2
    · rw [if_neg e] at hb; exact Nat.lt_of_lt_of_le (hbd b hb) h5.size
end

/-- a cell of a block that is read only -/
theorem cell_fr {ρ0 ρ : Tags} {w0 w : World} {g o : Nat} {u : Value} (h : w0.cell? ⟨g, o, none⟩ = some u) (hz : ρ0 g = 0) (hb : Fr ρ0 w0 ρ w) : w.cell? ⟨g, o, none⟩ = some u := by
  rw [← h]
  exact World.cell?_of_block (w := w0) (hb.same g (World.block_lt_of_cell? w0 _ h) (by omega)).1
theorem tag_fr {ρ0 ρ : Tags} {w0 w : World} {g o : Nat} {u : Value} (h : w0.cell? ⟨g, o, none⟩ = some u) (hz : ρ0 g = 0) (hb : Fr ρ0 w0 ρ w) : ρ g = 0 := by
  rw [(hb.same g (World.block_lt_of_cell? w0 _ h) (by omega)).2, hz]
theorem enter_zero {ρ : Tags} {o n b : Nat} (ho : 2 ≤ o) (h : ρ b = 0) : enter ρ o n b = 0 := by unfold enter; rw [h, if_neg (by omega)]; rfl
theorem flat1_zero {ρ : Tags} {b : Nat} (h : ρ b = 0) : flat1 ρ b = 0 := by unfold flat1; rw [h]; rfl
theorem pointee_of {P : Program} {T e : TypeId} (hT : P.underlying T = some (.pointer e)) : P.underlying T = some (.pointer (P.pointee T)) := by
  rw [hT]; simp [Program.pointee, hT]
theorem ev_peqT {P : Program} {l : Env} {w : World} {t : TypeId} {x y : Operand} {p : Option Addr} {T U e : TypeId} (hT : P.underlying T = some (.pointer e)) (hx : look l x = some (.pointer p)) (hy : look l y = some (.pointer none)) : Ev P l (.binOp .eql T x y U) t w (.bool p.isNone) := ev_peq (pointee_of hT) hx hy
theorem ev_pneT {P : Program} {l : Env} {w : World} {t : TypeId} {x y : Operand} {p : Option Addr} {T U e : TypeId} (hT : P.underlying T = some (.pointer e)) (hx : look l x = some (.pointer p)) (hy : look l y = some (.pointer none)) : Ev P l (.binOp .neq T x y U) t w (.bool (!p.isNone)) := ev_pne (pointee_of hT) hx hy
theorem ev_peqT_some {P : Program} {l : Env} {w : World} {t : TypeId} {x y : Operand} {a : Addr} {T U e : TypeId} (hT : P.underlying T = some (.pointer e)) (hx : look l x = some (.pointer (some a))) (hy : look l y = some (.pointer none)) : Ev P l (.binOp .eql T x y U) t w (.bool false) := ev_peqT hT hx hy
theorem ev_pneT_some {P : Program} {l : Env} {w : World} {t : TypeId} {x y : Operand} {a : Addr} {T U e : TypeId} (hT : P.underlying T = some (.pointer e)) (hx : look l x = some (.pointer (some a))) (hy : look l y = some (.pointer none)) : Ev P l (.binOp .neq T x y U) t w (.bool true) := ev_pneT hT hx hy
theorem ev_pneT_nil {P : Program} {l : Env} {w : World} {t : TypeId} {x y : Operand} {T U e : TypeId} (hT : P.underlying T = some (.pointer e)) (hx : look l x = some (.pointer none)) (hy : look l y = some (.pointer none)) : Ev P l (.binOp .neq T x y U) t w (.bool false) := ev_pneT hT hx hy
theorem one_cells {v : Value} (h : v.oneCell' = true) : v.cells.toList = [v] := by
  cases v <;> first | rfl | cases h
theorem SlT.oneCell {T : Type} {c : Cdc T} {ρ : Tags} {k : Nat} {w : World} {v : Value} {xs : List T} (h : SlT c ρ k w v xs) : v.oneCell' = true := h.as.oneCell
theorem OwnT.oneCell {T : Type} {c : Cdc T} {E : TypeId} {ρ : Tags} {k : Nat} {w : World} {v : Value} {xs : List T} (h : OwnT c E ρ k w v xs) : v.oneCell' = true := h.sl.oneCell
end Go.KW
