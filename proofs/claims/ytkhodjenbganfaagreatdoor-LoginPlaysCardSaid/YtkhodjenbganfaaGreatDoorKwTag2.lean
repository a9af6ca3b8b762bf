/- Tags: slices of the function's own: append, literals, elements. -/
import Derived.Test.YtkhodjenbganfaaGreatDoorKwTag
set_option linter.unusedSectionVars false
set_option linter.unusedVariables false
set_option linter.unusedSimpArgs false
namespace Go.KW
open Go Go.RowKit

def SlX {T : Type} (c : Cdc T) (A : Nat → Prop) (w : World) (v : Value) (xs : List T) : Prop :=
 (xs = [] ∧ (v = .slice none 0 0 ∨ ∃ a cap, v = .slice (some a) 0 cap ∧ cap ≤ maxLen)) ∨ ∃ b off cap cur t fr, v = .slice (some ⟨b, off, none⟩) xs.length cap ∧ w.heap[b]? = some (.cells cur t fr) ∧ xs.length ≤ cap ∧ cap ≤ maxLen ∧
  ∀ i x, xs[i]? = some x → c.rd A w (seg cur.toList (off + i * c.size) c.size) x
theorem SlT.x {T : Type} {c : Cdc T} {ρ : Tags} {k : Nat} {w : World} {v : Value} {xs : List T} (h : SlT c ρ k w v xs) : SlX c (Wb ρ) w v xs := by
 rcases h with h | ⟨b, off, cap, cur, t, fr, h1, _, h3, h4, h5, h6⟩
 ·exact .inl h
 ·exact .inr ⟨b, off, cap, cur, t, fr, h1, h3, h4, h5, h6⟩
theorem SlR.x {T : Type} {c : Cdc T} {ρ : Tags} {w : World} {v : Value} {xs : List T} (h : SlR c (Wb ρ) w v xs) : SlX c (Wb ρ) w v xs := (SlT.of_sl (i := 0) h).x
theorem SlX.nil {T : Type} {c : Cdc T} {A : Nat → Prop} {w : World} : SlX c A w (.slice none 0 0) [] := .inl ⟨rfl, .inl rfl⟩

section
variable {P : Program} {f : FuncId} {R : Ending → World → Prop} {n : Nat} {k : List Item} {Qr : Exit → Act → World → Prop} {l : Env} {w : World} {ops : Array Oper} {rest : List Oper} {t : TypeId}
variable {T : Type} {c : Cdc T} {E : TypeId} {A : Nat → Prop} {B : Nat} {v v2 : Value} {xs ys : List T}
theorem run_append_slX {U ty : TypeId} {ti : TypeInfo} {zv : Value} (own : OwnS c E A B w v xs) (src : SlX c A w v2 ys)
  (hT : P.underlying U = some (.slice E)) (hE : P.info? E = some ti) (hz : ti.zero = some zv) (hs : ti.size = c.size) (hzs : zv.cells.size = c.size) (h0 : 0 < c.size) (hb : ti.bytes ≤ 32768)
  (hB : B ≤ w.heap.size) (hf : fitL xs.length ys.length = true) :
  ∃ v' w', (Builtin.append_ #[U, U] ty #[v, v2]).run P w = .ok v' w' ∧ OwnS c E (fun b => A b ∨ v'.ownBlock = some b) B w' v' (xs ++ ys) ∧
   St A w (fun b => A b ∨ v'.ownBlock = some b) w' ∧ Below B w w' ∧ (∀ b, b < w.heap.size → v.ownBlock ≠ some b → w'.heap[b]? = w.heap[b]?) ∧ (∀ b, v'.ownBlock = some b → v.ownBlock = some b ∨ w.heap.size ≤ b) := by
 have hfit := of_decide_eq_true hf
 obtain ⟨cells, h1, h2, h3⟩ := own
 rcases src with ⟨rfl, rfl | ⟨a0, cap0, rfl, hc0⟩⟩ | ⟨b, off, cap, cur, t', fr, rfl, g3, g4, g5, g6⟩
 ·refine ⟨v, w, run_append_owned_none w B U ty E ti c.size hT hE v _ cells h1, ?_, ⟨fun _ _ _ => rfl, Nat.le_refl _, ?_⟩, Below.refl _ _, fun _ _ _ => rfl, fun _ h => .inl h⟩
  ·refine ⟨cells, by simpa using h1, fun g hg => .inr hg, fun i x hx => ?_⟩
   have := h3 i x (by simpa using hx)
   exact c.step this ⟨fun _ _ _ => rfl, Nat.le_refl _, fun b hb => by
    rcases hb with hb | hb
    ·exact .inl hb
    ·exact .inl (h2 b hb)⟩
  ·intro b hb
   rcases hb with hb | hb
   ·exact .inl hb
   ·exact .inl (h2 b hb)
 ·have hmax : xs.length + 0 ≤ maxLen := by simp only [maxLen]; omega
  have hbytes : (xs.length + 0) * ti.bytes ≤ 140737488355328 :=
   Nat.le_trans (Nat.mul_le_mul (show xs.length + 0 ≤ 4294967296 by omega) hb) (by decide)
  have hnews : ∀ j u, ([] : List Value)[j]? = some u → w.cell? (a0.add j) = some u := fun j u h => by simp at h
  have hone : ∀ u ∈ ([] : List Value), u.oneCell' = true := fun u h => by cases h
  have hlen : ([] : List Value).length = 0 * c.size := by simp
  obtain ⟨v', w', hrun, ho, hg, _⟩ := run_append_own (P := P) w B U ty E ti zv c.size ti.bytes hT hE hz hs rfl (by rw [hzs]) h0 v xs.length cells h1 a0 0 cap0
   [] hlen hnews hone hmax hbytes hB
  have hkeep : ∀ b, b < w.heap.size → v.ownBlock ≠ some b → w'.heap[b]? = w.heap[b]? := fun b hb hne => hg.block b hb (Ne.symm hne)
  have hold := own_old (P := P) (by rw [hs]; exact h1) hT hE hz (by rw [hs]; exact hlen) hnews hone hmax hbytes hrun
  have hst : St A w (fun b => A b ∨ v'.ownBlock = some b) w' := by
   refine ⟨fun b hb hna => hkeep b hb fun e => hna (h2 b e), hg.size, fun b hb => ?_⟩
   rcases hb with hb | hb
   ·exact .inl hb
   ·rcases hold b hb with h | h
    ·exact .inr (by omega)
    ·exact .inl (h2 b h)
  refine ⟨v', w', hrun, ⟨cells, by simpa using ho, fun g hg => .inr hg, fun i x hx => ?_⟩, hst,
   (Below.refl B w).grown hg hB (fun k hk => (h1.lt k hk).1), hkeep, fun b hb => ?_⟩
  ·exact c.step (h3 i x (by simpa using hx)) hst
  ·rcases hold b hb with h | h
   ·exact .inr (by omega)
   ·exact .inl h
 ·have hlen := cells_of cur.toList off ys g6
  have hnews : ∀ j u, (seg cur.toList off (ys.length * c.size))[j]? = some u → w.cell? ((⟨b, off, none⟩ : Addr).add j) = some u := by
   intro j u hj
   rw [addr_add]
   have := seg_get hj
   simp only [World.cell?, g3]
   simpa using this
  have hone : ∀ u ∈ seg cur.toList off (ys.length * c.size), u.oneCell' = true := by
   intro u hu
   obtain ⟨j, hj, rfl⟩ := List.getElem_of_mem hu
   have hjl : j < ys.length * c.size := by rw [hlen] at hj; exact hj
   have hi : j / c.size < ys.length := (Nat.div_lt_iff_lt_mul h0).2 hjl
   have hrd := g6 (j / c.size) ys[j / c.size] (by simp [List.getElem?_eq_getElem hi])
   refine c.one hrd _ ?_
   have hmod := Nat.mod_lt j h0
   have hdm : j / c.size * c.size + j % c.size = j := by rw [Nat.mul_comm]; exact Nat.div_add_mod j c.size
   have h8 := seg_get (List.getElem?_eq_getElem hj)
   have : (seg cur.toList (off + j / c.size * c.size) c.size)[j % c.size]? = some (seg cur.toList off (ys.length * c.size))[j] := by
    unfold seg at h8 ⊢
    rw [List.getElem?_take, if_pos hmod, List.getElem?_drop, ← h8]
    congr 1
    omega
   exact List.mem_of_getElem? this
  have hmax : xs.length + ys.length ≤ maxLen := by simp only [maxLen]; omega
  have hbytes : (xs.length + ys.length) * ti.bytes ≤ 140737488355328 :=
   Nat.le_trans (Nat.mul_le_mul hfit hb) (by decide)
  obtain ⟨v', w', hrun, ho, hg, _⟩ := run_append_own (P := P) w B U ty E ti zv c.size ti.bytes hT hE hz hs rfl (by rw [hzs]) h0 v xs.length cells h1 ⟨b, off, none⟩ ys.length cap
   (seg cur.toList off (ys.length * c.size)) hlen hnews hone hmax hbytes hB
  have hlt' := ho.lt
  have hkeep : ∀ b, b < w.heap.size → v.ownBlock ≠ some b → w'.heap[b]? = w.heap[b]? := fun b hb hne => hg.block b hb (Ne.symm hne)
  have hst : St A w (fun b => A b ∨ v'.ownBlock = some b) w' := by
   refine ⟨fun b hb hna => hkeep b hb fun e => hna (h2 b e), hg.size, fun b hb => ?_⟩
   rcases hb with hb | hb
   ·exact .inl hb
   ·rcases own_old (P := P) (by rw [hs]; exact h1) hT hE hz (by rw [hs]; exact hlen) hnews hone hmax hbytes hrun b hb with h | h
    ·exact .inr (by omega)
    ·exact .inl (h2 b h)
  refine ⟨v', w', hrun, ⟨cells ++ seg cur.toList off (ys.length * c.size), by simpa using ho, fun g hg => .inr hg, fun i x hx => ?_⟩, hst,
   (Below.refl B w).grown hg hB (fun k hk => (h1.lt k hk).1), hkeep, fun b hb => ?_⟩
  rotate_left
  ·rcases own_old (P := P) (by rw [hs]; exact h1) hT hE hz (by rw [hs]; exact hlen) hnews hone hmax hbytes hrun b hb with h | h
   ·exact .inr (by omega)
   ·exact .inl h
  have hcl : cells.length = xs.length * c.size := h1.1
  by_cases hix : i < xs.length
  ·rw [List.getElem?_append_left hix] at hx
   have hle : i * c.size + c.size ≤ xs.length * c.size := by rw [← Nat.succ_mul]; exact Nat.mul_le_mul_right _ hix
   have e : seg (cells ++ seg cur.toList off (ys.length * c.size)) (i * c.size) c.size = seg cells (i * c.size) c.size := by
    unfold seg
    rw [List.drop_append_of_le_length (by omega), List.take_append_of_le_length (by simp; omega)]
   rw [e]
   exact c.step (h3 i x hx) hst
  ·rw [List.getElem?_append_right (by omega)] at hx
   have hrd := g6 _ _ hx
   have hiy := (List.getElem?_eq_some_iff.1 hx).1
   have hle : (i - xs.length) * c.size + c.size ≤ ys.length * c.size := by rw [← Nat.succ_mul]; exact Nat.mul_le_mul_right _ hiy
   have hsum : xs.length * c.size + (i - xs.length) * c.size = i * c.size := by rw [← Nat.add_mul]; congr 1; omega
   have e : seg (cells ++ seg cur.toList off (ys.length * c.size)) (i * c.size) c.size = seg cur.toList (off + (i - xs.length) * c.size) c.size := by
    unfold seg
    rw [List.drop_append, List.drop_eq_nil_of_le (by omega), List.nil_append, List.drop_take, List.take_take, List.drop_drop]
    rw [show i * c.size - cells.length = (i - xs.length) * c.size by omega, Nat.min_eq_left (by omega)]
   rw [e]
   exact c.step hrd hst

end

section
variable {P : Program} {f : FuncId} {R : Ending → World → Prop} {n : Nat} {k : List Item} {Qr : Exit → Act → World → Prop} {l : Env} {w : World} {ops : Array Oper} {rest : List Oper} {t : TypeId}
variable {T : Type} {c : Cdc T} {E : TypeId} {ρ : Tags} {v v2 : Value} {xs ys : List T}

def ownTags (ρ : Tags) (i : Nat) (v : Value) : Tags := fun b => if v.ownBlock = some b then i else ρ b
theorem own_tr {w' : World} {v' : Value} {i : Nat} (ht : ∀ g, v.ownBlock = some g → ρ g = i) (hi : 2 ≤ i) (hbd : ∀ b, ρ b ≠ 0 → b < w.heap.size)
  (hB : Below 0 w w') (hoth : ∀ b, b < w.heap.size → v.ownBlock ≠ some b → w'.heap[b]? = w.heap[b]?) (hold : ∀ b, v'.ownBlock = some b → v.ownBlock = some b ∨ w.heap.size ≤ b)
  (hlt : ∀ b, v'.ownBlock = some b → b < w'.heap.size) : Tr ρ w (fun t => t == i) (ownTags ρ i v') w' := by
 refine ⟨fun b hb hj => ?_, by simp; omega, by simp; omega, hB.os, hB.tape, hB.output, hB.size, fun b hb => ?_⟩
 ·have hne : v.ownBlock ≠ some b := fun e => by simp [ht b e] at hj
  refine ⟨hoth b hb hne, ?_⟩
  unfold ownTags
  rw [if_neg]
  intro e
  rcases hold b e with h | h
  ·exact hne h
  ·omega
 ·unfold ownTags at hb
  by_cases e : v'.ownBlock = some b
  ·exact hlt b e
  ·rw [if_neg e] at hb; exact Nat.lt_of_lt_of_le (hbd b hb) hB.size
theorem own_wb {i : Nat} (hi : 2 ≤ i) {v' : Value} : (fun b => Wb ρ b ∨ v'.ownBlock = some b) = Wb (ownTags ρ i v') := by
 funext b
 unfold ownTags Wb
 by_cases e : v'.ownBlock = some b
 ·simp only [e, if_true, or_true, eq_iff_iff, true_iff]; omega
 ·simp [e]
theorem sr_appendT {i d : Nat} {x y : Operand} {U : TypeId} {ti : TypeInfo} {zv : Value} {pos : String} {after : Array Edge} (own : OwnT c E ρ i w v xs) (src : SlX c (Wb ρ) w v2 ys)
  (hT : P.underlying U = some (.slice E)) (hE : P.info? E = some ti) (hz : ti.zero = some zv) (hs : ti.size = c.size) (hzs : zv.cells.size = c.size) (h0 : 0 < c.size) (hb : ti.bytes ≤ 32768)
  (hi : 2 ≤ i) (hbd : ∀ b, ρ b ≠ 0 → b < w.heap.size) (hf : fitL xs.length ys.length = true)
  (hx : look l x = some v) (hy : look l y = some v2) (hd : d < n)
  (hk : ∀ v' ρ' w', OwnT c E ρ' i w' v' (xs ++ ys) → Tr ρ w (fun t => t == i) ρ' w' → SR P Qr n ops rest (l.put d v') w') :
  SR P Qr n ops (⟨some d, .call { callee := .builtin .append, args := #[x, y], argTypes := #[U, U] }, t, pos, after, none⟩ :: rest) l w := by
 obtain ⟨v', w', hrun, h1, h2, h3, h4, h5⟩ := run_append_slX (P := P) (ty := t) own.own src hT hE hz hs hzs h0 hb (Nat.zero_le _) hf
 intro a ha
 refine wpl_of_run wanted_none (v := v') (w' := w') ?_ (hk v' (ownTags ρ i v') w' ⟨by rw [← own_wb hi]; exact h1, fun g hg => by simp [ownTags, hg]⟩ (own_tr own.tag hi hbd h3 h4 h5 fun b hb => (h1.lt b hb).2) _ (ha.put _ hd))
 simp [execOp, resolve, invoke, builtin, ha.look hx, ha.look hy, hrun]

theorem sr_litT {d : Nat} {U : TypeId} {m : Nat} {ps : Array (Nat × Operand)} {vs : Array (Nat × Value)} {cs : Array Value} {css : List (List Value)} {pos : String} {after : Array Edge}
  (hp : ps.toList.map (fun p => (look l p.2).map fun u => (p.1, u)) = vs.toList.map some)
  (hrun : ∀ w, (Instr.buildSlice U m vs).run P w = .ok (.slice (some ⟨w.heap.size, 0, none⟩) m m) (w.alloc (.cells cs E)))
  (hc : cs.toList = css.flatten) (hr : RdAll c (Wb ρ) w css xs) (hm : xs.length = m) (hmx : m ≤ maxLen) (hbd : ∀ b, ρ b ≠ 0 → b < w.heap.size) (hd : d < n)
  (hk : ∀ v' w', SlR c (Wb ρ) w' v' xs → Below w.heap.size w w' → SR P Qr n ops rest (l.put d v') w') :
  SR P Qr n ops (⟨some d, .buildSlice U m ps, t, pos, after, none⟩ :: rest) l w := sr_lit hp hrun hc hr hm hmx hbd hd hk
theorem sr_litOwnT {i d : Nat} {U : TypeId} {m : Nat} {ps : Array (Nat × Operand)} {vs : Array (Nat × Value)} {cs : Array Value} {css : List (List Value)} {pos : String} {after : Array Edge}
  (hp : ps.toList.map (fun p => (look l p.2).map fun u => (p.1, u)) = vs.toList.map some)
  (hrun : ∀ w, (Instr.buildSlice U m vs).run P w = .ok (.slice (some ⟨w.heap.size, 0, none⟩) m m) (w.alloc (.cells cs E)))
  (hc : cs.toList = css.flatten) (hr : RdAll c (Wb ρ) w css xs) (hm : xs.length = m) (hmx : m ≤ maxLen) (hi : 2 ≤ i) (hbd : ∀ b, ρ b ≠ 0 → b < w.heap.size) (hd : d < n)
  (hk : ∀ v' ρ' w', OwnT c E ρ' i w' v' xs → Tr ρ w (fun t => t == i) ρ' w' → SR P Qr n ops rest (l.put d v') w') :
  SR P Qr n ops (⟨some d, .buildSlice U m ps, t, pos, after, none⟩ :: rest) l w := by
 obtain ⟨hB, htr⟩ := new_blk (.cells cs E) hi hbd
 intro a ha
 refine wpl_of_run wanted_none (v := .slice (some ⟨w.heap.size, 0, none⟩) m m) (w' := w.alloc (.cells cs E)) ?_ (hk _ _ _ ?_ htr _ (ha.put _ hd))
 ·have hm := parts_look ha hp
  simp only [execOp, hm, Sem.run_bind, hrun, Result.andThen_ok, Sem.run_pure]
 ·have hlen := hr.len
  refine ⟨⟨cs.toList, ⟨by rw [hc, hlen], .inr ⟨w.heap.size, m, cs, by rw [hm], Nat.zero_le _, alloc_new w _, by omega, hmx, ?_, ?_⟩⟩, fun g hg => ?_, fun j x hx => ?_⟩, fun g hg => ?_⟩
  ·rw [← hm, ← hlen, ← hc]; simp
  ·rw [List.take_of_length_le]; rw [hc, hlen]; exact Nat.le_refl _
  ·simp [Value.ownBlock] at hg; subst hg; rw [Wb, hB.tag]; omega
  ·have := (hr.step htr.st).get [] j x hx
   simpa [hc] using this
  ·simp [Value.ownBlock] at hg; subst hg; exact hB.tag

theorem SlT.elem {i : Nat} {U E : TypeId} {ti : TypeInfo} {q : Int} {z : T} (h : SlT c ρ i w v xs) (hT : P.underlying U = some (.slice E)) (hE : P.info? E = some ti) (hs : ti.size = c.size) (hi : idx xs q = some z) :
  ∃ b o cs, (∀ {l : Env} {x y : Operand} {kk : IntKind} {t : TypeId} (w1 : World), look l x = some v → look l y = some (.int kk q) → Ev P l (.indexAddr U x y) t w1 (.pointer (some ⟨b, o, none⟩))) ∧ ElT c ρ i w b o cs z := by
 obtain ⟨h0, hlt, hz⟩ := idx_some hi
 rcases h with ⟨rfl, _⟩ | ⟨b, off, cap, cur, t', fr, rfl, h2, h3, h4, h5, h6⟩
 ·simp at hlt
 ·have hrd := h6 _ _ hz
  refine ⟨b, off + q.toNat * c.size, _, fun {l x y kk t} w1 hx hy => ?_, ⟨hrd, h2, fun j u hj => ?_⟩⟩
  ·intro d n e pos after g ha
   have hb : 0 ≤ q ∧ q < (xs.length : Int) := by omega
   simp [execOp, ha.look hx, ha.look hy, Instr.indexAt, asIntOf, run_underlying hT, hb, sizeOf_of hE, hs, addr_add]
  ·have := seg_get hj
   simp only [World.cell?, h3]
   simpa using this
end

section
variable {P : Program} {T : Type} {c : Cdc T} {E U : TypeId} {ρ : Tags} {kt : Nat} {w : World} {v : Value} {xs : List T} {ti : TypeInfo} {i j : Int}
theorem SlT.cut_at {v' : Value} {i j : Int} (h : SlT c ρ kt w v xs) (hb : inc i j xs.length = true)
  (hv : ∃ a cap, v = .slice a xs.length cap ∧ v' = .slice (if cap = i.toNat then a else a.map (·.add (i.toNat * c.size))) (j.toNat - i.toNat) (cap - i.toNat)) : SlT c ρ kt w v' (cut xs i j) := by
 obtain ⟨a, cap', hv1, hv2⟩ := hv
 have hi := inc_iff.1 hb
 have hcl : (cut xs i j).length = j.toNat - i.toNat := by simp only [cut, List.length_take, List.length_drop]; omega
 rcases h with ⟨rfl, rfl | ⟨a0, cap0, rfl, hc0⟩⟩ | ⟨b, off, cap, cur, t', fr, rfl, h2, h3, h4, h5, h6⟩
 ·simp only [Value.slice.injEq] at hv1
  obtain ⟨rfl, _, rfl⟩ := hv1
  have : i = 0 := by simp at hi; omega
  have hj : j = 0 := by simp at hi; omega
  subst this; subst hj
  exact .inl ⟨by simp [cut], .inl (by rw [hv2]; simp)⟩
 ·simp only [Value.slice.injEq] at hv1
  obtain ⟨rfl, _, rfl⟩ := hv1
  have : i = 0 := by simp at hi; omega
  have hj : j = 0 := by simp at hi; omega
  subst this; subst hj
  refine .inl ⟨by simp [cut], .inr ?_⟩
  by_cases hz : cap0 = (0 : Int).toNat
  ·exact ⟨a0, cap0 - (0 : Int).toNat, by rw [hv2, if_pos hz]; simp, by simpa using hc0⟩
  ·exact ⟨a0.add ((0 : Int).toNat * c.size), cap0 - (0 : Int).toNat, by rw [hv2, if_neg hz]; simp, by simpa using hc0⟩
 ·simp only [Value.slice.injEq] at hv1
  obtain ⟨rfl, _, rfl⟩ := hv1
  by_cases hcap : cap = i.toNat
  ·refine .inr ⟨b, off, cap - i.toNat, cur, t', fr, by rw [hv2, hcl, if_pos hcap], h2, h3, by rw [hcl]; omega, by omega, fun m x hx => ?_⟩
   have := (List.getElem?_eq_some_iff.1 hx).1
   omega
  ·refine .inr ⟨b, off + i.toNat * c.size, cap - i.toNat, cur, t', fr, ?_, h2, h3, by rw [hcl]; omega, by omega, fun m x hx => ?_⟩
   ·rw [hv2, hcl, if_neg hcap]; simp [addr_add]
   ·have h7 : xs[i.toNat + m]? = some x := by
     unfold cut at hx
     rw [List.getElem?_take] at hx
     split at hx
     ·rwa [List.getElem?_drop] at hx
     ·cases hx
    have h8 := h6 _ _ h7
    rw [show off + i.toNat * c.size + m * c.size = off + (i.toNat + m) * c.size by rw [Nat.add_mul]; omega]
    exact h8

theorem SlT.cutT_l (h : SlT c ρ kt w v xs) (hT : P.underlying U = some (.slice E)) (hE : P.info? E = some ti) (hs : ti.size = c.size) (hb : inc i xs.length xs.length = true) :
  ∃ v', SlT c ρ kt w v' (cut xs i xs.length) ∧ ∀ {l : Env} {x y : Operand} {k1 : IntKind} {t : TypeId} (w1 : World), look l x = some v → look l y = some (.int k1 i) → Ev P l (.slice U x (some y) none none) t w1 v' := by
 obtain ⟨a, cap, hv, h1, _⟩ := h.as.shape
 refine ⟨_, h.cut_at hb ⟨a, cap, hv, by rw [← hs]⟩, fun {l x y k1 t} w1 hx hy e m d' pos' after' gd ha => ?_⟩
 subst hv
 have hi := inc_iff.1 hb
 have := run_slice_sl (P := P) (w := w1) (U := U) (a := a) (len := xs.length) (cap := cap) hT hE (lo := some (k1, i)) (hi := none) (i := i) (j := xs.length) rfl rfl hi.1 hi.2.1 (by omega)
 simp only [Option.map_some, Option.map_none] at this
 simp only [execOp, ha.look hx, ha.look hy, Option.map_some, Option.map_none, Sem.run_bind, this, Result.andThen_ok, Sem.run_pure]
theorem SlT.cutT_h (h : SlT c ρ kt w v xs) (hT : P.underlying U = some (.slice E)) (hE : P.info? E = some ti) (hs : ti.size = c.size) (hb : inc 0 j xs.length = true) :
  ∃ v', SlT c ρ kt w v' (cut xs 0 j) ∧ ∀ {l : Env} {x y : Operand} {k1 : IntKind} {t : TypeId} (w1 : World), look l x = some v → look l y = some (.int k1 j) → Ev P l (.slice U x none (some y) none) t w1 v' := by
 obtain ⟨a, cap, hv, h1, _⟩ := h.as.shape
 refine ⟨_, h.cut_at hb ⟨a, cap, hv, by rw [← hs]⟩, fun {l x y k1 t} w1 hx hy e m d' pos' after' gd ha => ?_⟩
 subst hv
 have hi := inc_iff.1 hb
 have := run_slice_sl (P := P) (w := w1) (U := U) (a := a) (len := xs.length) (cap := cap) hT hE (lo := none) (hi := some (k1, j)) (i := 0) (j := j) rfl rfl (Int.le_refl _) hi.2.1 (by omega)
 simp only [Option.map_some, Option.map_none] at this
 simp only [execOp, ha.look hx, ha.look hy, Option.map_some, Option.map_none, Sem.run_bind, this, Result.andThen_ok, Sem.run_pure]
end

theorem over_get {cur vs : List Value} {p m : Nat} (h : p + vs.length ≤ cur.length) :
  (cur.take p ++ vs ++ cur.drop (p + vs.length))[m]? = if m < p then cur[m]? else if m < p + vs.length then vs[m - p]? else cur[m]? := by
 have hp : (cur.take p).length = p := by simp; omega
 by_cases h1 : m < p
 ·rw [if_pos h1, List.append_assoc, List.getElem?_append_left (by omega), List.getElem?_take, if_pos h1]
 ·rw [if_neg h1]
  by_cases h2 : m < p + vs.length
  ·rw [if_pos h2, List.getElem?_append_left (by simp; omega), List.getElem?_append_right (by omega), hp]
  ·rw [if_neg h2, List.getElem?_append_right (by simp; omega), List.getElem?_drop]
   simp only [List.length_append, hp]
   congr 1; omega
theorem seg_getElem {l : List Value} {o n m : Nat} : (seg l o n)[m]? = if m < n then l[o + m]? else none := by
 unfold seg
 rw [List.getElem?_take]
 split
 ·rw [List.getElem?_drop]
 ·rfl
section
variable {P : Program} {f : FuncId} {R : Ending → World → Prop} {n : Nat} {k : List Item} {Qr : Exit → Act → World → Prop} {l : Env} {w : World} {ops : Array Oper} {rest : List Oper} {t : TypeId}
variable {T : Type} {c : Cdc T} {E : TypeId} {ρ : Tags} {i : Nat} {v : Value} {xs : List T} {q : Int} {z z' : T} {g o : Nat} {cs cs' : List Value}
theorem OwnT.elemQ {U : TypeId} {ti : TypeInfo} (h : OwnT c E ρ i w v xs) (hT : P.underlying U = some (.slice E)) (hE : P.info? E = some ti) (hs : ti.size = c.size) (hi : idx xs q = some z) :
  ∃ g o cs, (∀ {l : Env} {x y : Operand} {kk : IntKind} {t : TypeId} (w1 : World), look l x = some v → look l y = some (.int kk q) → Ev P l (.indexAddr U x y) t w1 (.pointer (some ⟨g, o, none⟩))) ∧ ElT c ρ i w g o cs z ∧ v.ownBlock = some g ∧ o = q.toNat * c.size := by
 obtain ⟨h0, hlt, hz⟩ := idx_some hi
 obtain ⟨g, cap, rfl, cs, hrd, hcell⟩ := h.own.elem hi
 refine ⟨g, q.toNat * c.size, cs, fun {l x y kk t} w1 hx hy => ?_, ⟨hrd, .inr (h.tag g rfl), hcell⟩, rfl, rfl⟩
 intro d n e pos after gd ha
 have hb : 0 ≤ q ∧ q < (xs.length : Int) := by omega
 simp [execOp, ha.look hx, ha.look hy, Instr.indexAt, asIntOf, run_underlying hT, hb, sizeOf_of hE, hs, addr_add]
theorem sr_storeEl {x y : Operand} {U : TypeId} {off : Nat} {u : Value} {vs : List Value} {pos : String} {after : Array Edge} (own : OwnT c E ρ i w v xs) (hg : v.ownBlock = some g) (ho : o = q.toNat * c.size)
  (hi : idx xs q = some z) (el : ElT c ρ i w g o cs z) (h2 : 2 ≤ i) (hbd : ∀ b, ρ b ≠ 0 → b < w.heap.size)
  (hx : look l x = some (.pointer (some ⟨g, o + off, none⟩))) (hy : look l y = some u) (hv : u.cells.toList = vs) (hz : ∀ w, (sizeOf U).run P w = .ok vs.length w)
  (h1 : vs.all (fun u => u.oneCell') = true) (hle : (off + vs.length).ble cs.length = true) (hcs : cs.take off ++ vs ++ cs.drop (off + vs.length) = cs') (hrd : c.rd (Wb ρ) w cs' z')
  (hk : ∀ w', OwnT c E ρ i w' v (setAt xs q z') → Tr ρ w (fun t => t == i) ρ w' → SR P Qr n ops rest l w') :
  SR P Qr n ops (⟨none, .store U x y, t, pos, after, none⟩ :: rest) l w := by
 obtain ⟨h0, hlt, hzz⟩ := idx_some hi
 have hle := Nat.le_of_ble_eq_true hle
 obtain ⟨⟨cells, hrow, hA, helem⟩, htag⟩ := own
 rcases hrow.2 with ⟨rfl, hn⟩ | ⟨g', cap, cur, rfl, hb, hgg, h4, h5, h6, h7⟩
 ·simp [Value.ownBlock] at hg
 simp only [Value.ownBlock, Option.some.injEq] at hg
 subst hg
 have hlen := c.len el.rd
 have hqs : q.toNat * c.size + c.size ≤ xs.length * c.size := by rw [← Nat.succ_mul]; exact Nat.mul_le_mul_right _ hlt
 have hcs2 : xs.length * c.size ≤ cur.size := by rw [h6]; exact Nat.mul_le_mul_right _ h4
 have hfit : (o + off) + vs.length ≤ cur.toList.length := by simp; omega
 have hcur : ∀ m, m < c.size → cs[m]? = cur.toList[o + m]? := by
  intro m hm
  have hm' : m < cs.length := by omega
  have := el.cell m cs[m] (List.getElem?_eq_getElem hm')
  rw [List.getElem?_eq_getElem hm', ← this]
  simp only [World.cell?, hgg]
  simp
 have hB : Blk ρ i w g' (.cells cur E (0, 0)) := ⟨htag g' rfl, hgg⟩
 refine sr_storeT (cs' := (cur.toList.take (o + off) ++ vs ++ cur.toList.drop (o + off + vs.length)).toArray) hB h2 hbd hx hy hv hz (Nat.ble_eq_true_of_le (by simpa using hfit)) h1 (by simp) fun w' hB' htr => hk w' ?_ htr
 have hsz : (cur.toList.take (o + off) ++ vs ++ cur.toList.drop (o + off + vs.length)).length = cur.size := by simp at hfit ⊢; omega
 have hget : ∀ m, (cur.toList.take (o + off) ++ vs ++ cur.toList.drop (o + off + vs.length))[m]? = if m < o + off then cur.toList[m]? else if m < o + off + vs.length then vs[m - (o + off)]? else cur.toList[m]? := fun m => over_get hfit
 generalize (cur.toList.take (o + off) ++ vs ++ cur.toList.drop (o + off + vs.length)) = L at hB' hsz hget
 have hxl : (setAt xs q z').length = xs.length := by simp [setAt]
 refine ⟨⟨L.take (xs.length * c.size), ⟨by simp [hxl, hsz]; omega, .inr ⟨g', cap, L.toArray, by rw [hxl], hb, hB'.get, by rw [hxl]; exact h4, h5, by simpa [hsz] using h6, by rw [hxl]⟩⟩, fun b hb => ?_, fun j x hx => ?_⟩, htag⟩
 ·simp only [Value.ownBlock, Option.some.injEq] at hb
  subst hb; rw [Wb, hB.tag]; omega
 have hj : j < xs.length := by have := (List.getElem?_eq_some_iff.1 hx).1; omega
 have hjs : j * c.size + c.size ≤ xs.length * c.size := by rw [← Nat.succ_mul]; exact Nat.mul_le_mul_right _ hj
 by_cases e : j = q.toNat
 ·subst e
  have hx' : x = z' := by simp [setAt, hlt] at hx; exact hx.symm
  subst hx'
  have : seg (L.take (xs.length * c.size)) (q.toNat * c.size) c.size = cs' := by
   apply List.ext_getElem?
   intro m
   rw [seg_getElem, ← hcs, over_get (by omega)]
   by_cases hm : m < c.size
   ·rw [if_pos hm, List.getElem?_take, if_pos (by omega), hget, ← ho]
    by_cases a1 : m < off
    ·rw [if_pos a1, if_pos (by omega), hcur m hm]
    ·rw [if_neg a1, if_neg (by omega)]
     by_cases a2 : m < off + vs.length
     ·rw [if_pos a2, if_pos (by omega)]; congr 1; omega
     ·rw [if_neg a2, if_neg (by omega), hcur m hm]
   ·rw [if_neg hm, if_neg (by omega), if_neg (by omega)]
    exact (List.getElem?_eq_none (by omega)).symm
  rw [this]
  exact c.step hrd htr.st
 ·have hx' : xs[j]? = some x := by
   unfold setAt at hx
   rwa [List.getElem?_set_ne (fun h => e h.symm)] at hx
  have : seg (L.take (xs.length * c.size)) (j * c.size) c.size = seg cells (j * c.size) c.size := by
   apply List.ext_getElem?
   intro m
   rw [seg_getElem, seg_getElem]
   by_cases hm : m < c.size
   ·have hne : j * c.size + m < o ∨ o + c.size ≤ j * c.size + m := by
     rcases Nat.lt_or_gt_of_ne e with h | h
     ·left
      have : j * c.size + c.size ≤ q.toNat * c.size := by rw [← Nat.succ_mul]; exact Nat.mul_le_mul_right _ h
      omega
     ·right
      have : q.toNat * c.size + c.size ≤ j * c.size := by rw [← Nat.succ_mul]; exact Nat.mul_le_mul_right _ h
      omega
    have hr : cells[j * c.size + m]? = cur.toList[j * c.size + m]? := by rw [← h7, List.getElem?_take, if_pos (by omega)]
    rw [if_pos hm, if_pos hm, hr, List.getElem?_take, if_pos (by omega), hget]
    by_cases a1 : j * c.size + m < o + off
    ·rw [if_pos a1]
    ·rw [if_neg a1, if_neg (by omega)]
   ·rw [if_neg hm, if_neg hm]
  rw [this]
  exact c.step (helem j x hx') htr.st
end

section
variable {T : Type} {c : Cdc T} {E : TypeId} {ρ : Tags} {i : Nat} {w w' : World} {v : Value} {xs ys : List T}
end

theorem cell_fr {ρ0 ρ : Tags} {w0 w : World} {g o : Nat} {u : Value} (h : w0.cell? ⟨g, o, none⟩ = some u) (hz : ρ0 g = 0) (hb : Fr ρ0 w0 ρ w) : w.cell? ⟨g, o, none⟩ = some u := by
 rw [← h]
 exact World.cell?_of_block (w := w0) (hb.same g (World.block_lt_of_cell? w0 _ h) (by omega)).1
theorem tag_fr {ρ0 ρ : Tags} {w0 w : World} {g o : Nat} {u : Value} (h : w0.cell? ⟨g, o, none⟩ = some u) (hz : ρ0 g = 0) (hb : Fr ρ0 w0 ρ w) : ρ g = 0 := by
 rw [(hb.same g (World.block_lt_of_cell? w0 _ h) (by omega)).2, hz]
theorem enter_zero {ρ : Tags} {o n b : Nat} (ho : 2 ≤ o) (h : ρ b = 0) : enter ρ o n b = 0 := by unfold enter; rw [h, if_neg (by omega)]; rfl
theorem flat1_zero {ρ : Tags} {b : Nat} (h : ρ b = 0) : flat1 ρ b = 0 := by unfold flat1; rw [h]; rfl
theorem tabIs_fr {P : Program} {ρ0 ρ : Tags} {w0 w : World} {name : String} {k : IntKind} {zs : List Int} (h : Lib.TabIs P w0 name k zs) (hz : ∀ g, P.globalNamed name = some g → ρ0 g = 0) (hb : Fr ρ0 w0 ρ w) : Lib.TabIs P w name k zs := by
 unfold Lib.TabIs World.var? at h ⊢
 cases hg : P.globalNamed name with
 | none => rw [hg] at h; cases h
 | some g =>
  rw [hg] at h
  simp only [Option.bind_some] at h ⊢
  have hlt : g < w0.heap.size := by
   cases hh : w0.heap[g]? with
   | none => rw [hh] at h; cases h
   | some o => exact (Array.getElem?_eq_some_iff.1 hh).1
  rw [(hb.same g hlt (by rw [hz g hg]; omega)).1]
  exact h
theorem tabTag_fr {P : Program} {ρ0 ρ : Tags} {w0 w : World} {name : String} {k : IntKind} {zs : List Int} (h : Lib.TabIs P w0 name k zs) (hz : ∀ g, P.globalNamed name = some g → ρ0 g = 0) (hb : Fr ρ0 w0 ρ w) : ∀ g, P.globalNamed name = some g → ρ g = 0 := by
 intro g hg
 have h' := h
 unfold Lib.TabIs World.var? at h'
 rw [hg] at h'
 simp only [Option.bind_some] at h'
 have hlt : g < w0.heap.size := by
  cases hh : w0.heap[g]? with
  | none => rw [hh] at h'; cases h'
  | some o => exact (Array.getElem?_eq_some_iff.1 hh).1
 rw [(hb.same g hlt (by rw [hz g hg]; omega)).2, hz g hg]
theorem pointee_of {P : Program} {T e : TypeId} (hT : P.underlying T = some (.pointer e)) : P.underlying T = some (.pointer (P.pointee T)) := by
 rw [hT]; simp [Program.pointee, hT]
theorem ev_peqT {P : Program} {l : Env} {w : World} {t : TypeId} {x y : Operand} {p : Option Addr} {T U e : TypeId} (hT : P.underlying T = some (.pointer e)) (hx : look l x = some (.pointer p)) (hy : look l y = some (.pointer none)) : Ev P l (.binOp .eql T x y U) t w (.bool p.isNone) := ev_peq (pointee_of hT) hx hy
theorem ev_pneT {P : Program} {l : Env} {w : World} {t : TypeId} {x y : Operand} {p : Option Addr} {T U e : TypeId} (hT : P.underlying T = some (.pointer e)) (hx : look l x = some (.pointer p)) (hy : look l y = some (.pointer none)) : Ev P l (.binOp .neq T x y U) t w (.bool (!p.isNone)) := ev_pne (pointee_of hT) hx hy
theorem ev_peqT_some {P : Program} {l : Env} {w : World} {t : TypeId} {x y : Operand} {a : Addr} {T U e : TypeId} (hT : P.underlying T = some (.pointer e)) (hx : look l x = some (.pointer (some a))) (hy : look l y = some (.pointer none)) : Ev P l (.binOp .eql T x y U) t w (.bool false) := ev_peqT hT hx hy
theorem ev_pneT_some {P : Program} {l : Env} {w : World} {t : TypeId} {x y : Operand} {a : Addr} {T U e : TypeId} (hT : P.underlying T = some (.pointer e)) (hx : look l x = some (.pointer (some a))) (hy : look l y = some (.pointer none)) : Ev P l (.binOp .neq T x y U) t w (.bool true) := ev_pneT hT hx hy
theorem ev_peqT_nil {P : Program} {l : Env} {w : World} {t : TypeId} {x y : Operand} {T U e : TypeId} (hT : P.underlying T = some (.pointer e)) (hx : look l x = some (.pointer none)) (hy : look l y = some (.pointer none)) : Ev P l (.binOp .eql T x y U) t w (.bool true) := ev_peqT hT hx hy
theorem ev_pneT_nil {P : Program} {l : Env} {w : World} {t : TypeId} {x y : Operand} {T U e : TypeId} (hT : P.underlying T = some (.pointer e)) (hx : look l x = some (.pointer none)) (hy : look l y = some (.pointer none)) : Ev P l (.binOp .neq T x y U) t w (.bool false) := ev_pneT hT hx hy
theorem one_cells {v : Value} (h : v.oneCell' = true) : v.cells.toList = [v] := by
 cases v <;> first | rfl | cases h
theorem SlT.oneCell {T : Type} {c : Cdc T} {ρ : Tags} {k : Nat} {w : World} {v : Value} {xs : List T} (h : SlT c ρ k w v xs) : v.oneCell' = true := h.as.oneCell
theorem OwnT.oneCell {T : Type} {c : Cdc T} {E : TypeId} {ρ : Tags} {k : Nat} {w : World} {v : Value} {xs : List T} (h : OwnT c E ρ k w v xs) : v.oneCell' = true := h.sl.oneCell
end Go.KW
