/- Maps: iteration. Whichever entry comes next, the plain function must answer alike. -/
import Derived.Test.YtkhodjenbganfaaGreatDoorKwMap2
set_option linter.unusedSectionVars false
set_option linter.unusedVariables false
set_option linter.unusedSimpArgs false
namespace Go.KW
open Go Go.RowKit
open Go.ChangeMaps (setBlock)

def pickAny {α R : Type} [DecidableEq R] : List α → Option R → (α → Option R) → Option R
 | [], k0, _ => k0
 | e :: es, _, k => match k e with
  | none => none
  | some r => if es.all (fun e' => decide (k e' = some r)) then some r else none
theorem pickAny_some {α R : Type} [DecidableEq R] {es : List α} {k0 : Option R} {k : α → Option R} {r : R} (h : pickAny es k0 k = some r) : (es = [] → k0 = some r) ∧ ∀ e ∈ es, k e = some r := by
 cases es with
 | nil => exact ⟨fun _ => h, fun _ h => by cases h⟩
 | cons e es =>
  simp only [pickAny] at h
  cases hk : k e with
  | none => rw [hk] at h; cases h
  | some r' =>
   rw [hk] at h
   simp only at h
   split at h
   ·rename_i hall
    cases h
    refine ⟨fun h => (by cases h), fun e' he' => ?_⟩
    rcases List.mem_cons.1 he' with rfl | he'
    ·exact hk
    ·simpa using List.all_eq_true.1 hall e' he'
   ·cases h
theorem pickAny_of {α R : Type} [DecidableEq R] {es : List α} {k0 : Option R} {k : α → Option R} {r : R} (h0 : es = [] → k0 = some r) (h1 : ∀ e ∈ es, k e = some r) : pickAny es k0 k = some r := by
 cases es with
 | nil => exact h0 rfl
 | cons e es =>
  simp only [pickAny, h1 e (by simp)]
  rw [if_pos]
  exact List.all_eq_true.2 fun e' he' => by simp [h1 e' (by simp [he'])]

section
variable {P : Program} {f : FuncId} {R : Ending → World → Prop} {n : Nat} {kk : List Item} {Qr : Exit → Act → World → Prop} {l : Env} {w w' : World} {ops : Array Oper} {rest : List Oper} {t : TypeId}
variable {K V : Type} [DecidableEq K] {ek : K → Value} {c : Cdc V} {agg : Bool} {ρ ρ' : Tags} {i i' j j' : Nat} {v : Value} {m : GMap K V} {U kt et : TypeId} {r : Nat} {done : List K}

def IterT (ek : K → Value) (c : Cdc V) (agg : Bool) (ρ : Tags) (i j : Nat) (w : World) (r : Nat) (v : Value) (m : GMap K V) (done : List K) : Prop :=
 ρ r = j ∧ ((m = none ∧ v = .map none ∧ w.heap[r]? = some (.mapIter none 0 #[] 0)) ∨ ∃ g l es clock since seen c0, m = some l ∧ v = .map (some g) ∧ ρ g = i ∧ w.heap[g]? = some (.map es clock) ∧
  MapL ek c agg (Wb ρ) w es.toList clock l ∧ w.heap[r]? = some (.mapIter (some g) since seen c0) ∧ since ≤ c0 ∧ since ≤ clock ∧ (∀ e ∈ es.toList, e.born < since) ∧ (∀ b ∈ seen.toList, b < since) ∧
  ∀ (q : Nat) (e : MapEntry) (p : K × V), es.toList[q]? = some e → l[q]? = some p → (e.born ∈ seen.toList ↔ p.1 ∈ done))
theorem IterT.map (h : IterT ek c agg ρ i j w r v m done) : MapT ek c agg ρ i w v m := by
 rcases h.2 with ⟨h1, h2, _⟩ | ⟨g, l, es, clock, since, seen, c0, h1, h2, h3, h4, h5, _⟩
 ·exact .inl ⟨h1, h2⟩
 ·exact .inr ⟨g, l, es, clock, h1, h2, h3, h4, h5⟩
theorem IterT.mv (h : IterT ek c agg ρ i j w r v m done) (k : Mv ρ w i ρ' w' i') (k2 : Mv ρ w j ρ' w' j') : IterT ek c agg ρ' i' j' w' r v m done := by
 have hr : r < w.heap.size := by
  rcases h.2 with ⟨_, _, h3⟩ | ⟨g, l, es, clock, since, seen, c0, _, _, _, _, _, h6, _⟩
  ·exact (Array.getElem?_eq_some_iff.1 h3).1
  ·exact (Array.getElem?_eq_some_iff.1 h6).1
 obtain ⟨r1, r2⟩ := k2.own r hr h.1
 refine ⟨r2, ?_⟩
 rcases h.2 with ⟨h1, h2, h3⟩ | ⟨g, l, es, clock, since, seen, c0, h1, h2, h3, h4, h5, h6, h7⟩
 ·exact .inl ⟨h1, h2, r1.trans h3⟩
 ·obtain ⟨g1, g2⟩ := k.own g (Array.getElem?_eq_some_iff.1 h4).1 h3
  exact .inr ⟨g, l, es, clock, since, seen, c0, h1, h2, g2, g1.trans h4, h5.step k.st, r1.trans h6, h7⟩

theorem sr_rangeM {d : Nat} {x : Operand} {pos : String} {after : Array Edge} (j : Nat) (hj : 2 ≤ j) (h : MapT ek c agg ρ i w v m) (hij : (i == j) = false) (hU : P.underlying U = some (.map kt et)) (hbd : ∀ b, ρ b ≠ 0 → b < w.heap.size) (hx : look l x = some v) (hd : d < n)
  (hk : ∀ r ρ' w', IterT ek c agg ρ' i j w' r v m [] → Tr ρ w (fun t => t == j) ρ' w' → SR P Qr n ops rest (l.put d (.pointer (some ⟨r, 0, none⟩))) w') :
  SR P Qr n ops (⟨some d, .range U x, t, pos, after, none⟩ :: rest) l w := by
 intro a ha
 rcases h with ⟨rfl, rfl⟩ | ⟨g, l0, es, clock, rfl, rfl, h3, h4, h5⟩
 ·obtain ⟨b1, b2⟩ := new_blk (ρ := ρ) (w := w) (.mapIter none 0 #[] 0) hj hbd
  refine wpl_of_run wanted_none (v := .pointer (some ⟨w.heap.size, 0, none⟩)) (w' := w.alloc (.mapIter none 0 #[] 0)) ?_ (hk _ _ _ ⟨b1.tag, .inl ⟨rfl, rfl, b1.get⟩⟩ b2 _ (ha.put _ hd))
  simp [execOp, ha.look hx, Instr.range, run_underlying hU, newObj]
  rfl
 ·obtain ⟨b1, b2⟩ := new_blk (ρ := ρ) (w := w) (.mapIter (some g) clock #[] clock) hj hbd
  have hlt := (Array.getElem?_eq_some_iff.1 h4).1
  obtain ⟨g1, g2⟩ := (b2.mv (i := i) hij).own g hlt h3
  refine wpl_of_run wanted_none (v := .pointer (some ⟨w.heap.size, 0, none⟩)) (w' := w.alloc (.mapIter (some g) clock #[] clock)) ?_
   (hk _ _ _ ⟨b1.tag, .inr ⟨g, l0, es, clock, clock, #[], clock, rfl, rfl, g2, g1.trans h4, h5.step b2.st, b1.get, Nat.le_refl _, Nat.le_refl _, h5.lt, (fun _ h => by simp at h), fun q e p _ _ => by simp⟩⟩ b2 _ (ha.put _ hd))
  simp [execOp, ha.look hx, Instr.range, run_underlying hU, MapKept.run_getObj_map h4, newObj]
  rfl

theorem filter_done {es : List MapEntry} {l : List (K × V)} {seen : List Nat} {done : List K} (hl : es.length = l.length) (h : ∀ (q : Nat) (e : MapEntry) (p : K × V), es[q]? = some e → l[q]? = some p → (e.born ∈ seen ↔ p.1 ∈ done)) :
  ((es.filter fun e => !seen.contains e.born).length = 0 → (l.filter fun p => decide (p.1 ∉ done)) = []) ∧ ∀ e ∈ es.filter (fun e => !seen.contains e.born), ∃ (q : Nat) (p : K × V), es[q]? = some e ∧ l[q]? = some p ∧ p ∈ l.filter fun p => decide (p.1 ∉ done) := by
 refine ⟨fun h0 => ?_, fun e he => ?_⟩
 ·rw [List.filter_eq_nil_iff]
  intro p hp
  obtain ⟨q, hq⟩ := List.mem_iff_getElem?.1 hp
  have hql := (List.getElem?_eq_some_iff.1 hq).1
  have he : es[q]? = some es[q] := List.getElem?_eq_getElem (by omega)
  have hiff := h q _ p he hq
  have hnil := List.eq_nil_of_length_eq_zero h0
  rw [List.filter_eq_nil_iff] at hnil
  have := hnil es[q] (List.mem_of_getElem? he)
  simp only [Bool.not_eq_true, Bool.not_eq_false', List.contains_iff_mem] at this
  simpa using hiff.1 this
 ·obtain ⟨h1, h2⟩ := List.mem_filter.1 he
  obtain ⟨q, hq⟩ := List.mem_iff_getElem?.1 h1
  have hql := (List.getElem?_eq_some_iff.1 hq).1
  have hp : l[q]? = some l[q] := List.getElem?_eq_getElem (by omega)
  refine ⟨q, l[q], hq, hp, List.mem_filter.2 ⟨List.mem_of_getElem? hp, ?_⟩⟩
  have hiff := h q e _ hq hp
  simp only [Bool.not_eq_true', ← Bool.not_eq_true, List.contains_iff_mem] at h2
  simpa using fun hd => h2 (hiff.2 hd)

theorem sr_nextM {Rr : Type} [DecidableEq Rr] {k0 : Option Rr} {kf : K × V → Option Rr} {rr : Rr} {d : Nat} {x : Operand} {pos : String} {after : Array Edge} (h : IterT ek c agg ρ i j w r v m done) (hij : (i == j) = false) (hj : 2 ≤ j) (hbd : ∀ b, ρ b ≠ 0 → b < w.heap.size)
  (hS : pickAny (mleft m done) k0 kf = some rr) (hx : look l x = some (.pointer (some ⟨r, 0, none⟩))) (hd : d < n)
  (hk0 : k0 = some rr → SR P Qr n ops rest (l.put d (.tuple #[.bool false])) w)
  (hk1 : ∀ e cs w', kf e = some rr → c.rd (Wb ρ) w' cs e.2 → IterT ek c agg ρ i j w' r v m (e.1 :: done) → Tr ρ w (fun t => t == j) ρ w' →
   (∀ {l : Env} {x : Operand} {t : TypeId}, look l x = some (.pointer (some ⟨r, 0, none⟩)) → Ev P l (.entry x) t w' (.tuple #[ek e.1, vOf agg cs])) →
   SR P Qr n ops rest (l.put d (.tuple #[.bool true, ek e.1, vOf agg cs])) w') :
  SR P Qr n ops (⟨some d, .next x false, t, pos, after, none⟩ :: rest) l w := by
 obtain ⟨s0, s1⟩ := pickAny_some hS
 intro a ha
 rcases h with ⟨htag, ⟨rfl, rfl, h3⟩ | ⟨g, l0, es, clock, since, seen, c0, rfl, rfl, h3, h4, h5, h6, h7, hsc, h8, h9, h10⟩⟩
 ·refine wpl_of_run wanted_none (v := .tuple #[.bool false]) (w' := w) ?_ (hk0 (s0 rfl) _ (ha.put _ hd))
  simp [execOp, ha.look hx, Instr.next, getObj, Sem.run, h3]
 ·have hlen := h5.len
  have key := filter_done (K := K) (V := V) (seen := seen.toList) (done := done) hlen h10
  have hleft : (leftOf es seen).toList = es.toList.filter fun e => !seen.toList.contains e.born := by
   simp [leftOf]
  rcases run_next_at (P := P) w t r g since c0 seen es clock h6 h4 h8 h7 with ⟨hz, hrun⟩ | ⟨e, he, w1, hw1, hrun⟩
  ·refine wpl_of_run wanted_none (v := .tuple #[.bool false]) (w' := w) ?_ (hk0 (s0 ?_) _ (ha.put _ hd))
   ·simp [execOp, ha.look hx, hrun]
   ·refine key.1 ?_
    rw [← hleft]; simpa using hz
  ·rw [hleft] at he
   obtain ⟨q, p, hq, hp, hpm⟩ := key.2 e he
   obtain ⟨cs, hcs1, hcs2⟩ := h5.vals q e p hq hp
   have hek : e.key = ek p.1 := by
    have e1 : (es.toList.map (·.key))[q]? = some e.key := by rw [List.getElem?_map, hq]; rfl
    rw [h5.keys, List.getElem?_map, hp] at e1
    simpa using e1.symm
   have hr1 : w1.heap[r]? = some (.mapIter (some g) since seen c0) := by rcases hw1 with rfl | rfl <;> exact h6
   have hsame : w1.heap = w.heap := by rcases hw1 with rfl | rfl <;> rfl
   have htr : Tr ρ w (fun t => t == j) ρ (setBlock w1 r (.mapIter (some g) since (seen.push e.born) clock)) := by
    have := setBlock_tr (ρ := ρ) (w := w1) (g := r) (i := j) (o' := .mapIter (some g) since (seen.push e.born) clock) htag hj (by rw [hsame]; exact hbd)
    refine ⟨fun b hb hjj => ?_, this.j0, this.j1, ?_, ?_, ?_, ?_, this.bd⟩
    ·have h1 := this.same b (by rw [hsame]; exact hb) hjj
     rw [hsame] at h1; exact h1
    ·rcases hw1 with rfl | rfl <;> rfl
    ·rcases hw1 with rfl | rfl <;> rfl
    ·rcases hw1 with rfl | rfl <;> rfl
    ·simp [setBlock, hsame]
   obtain ⟨g1, g2⟩ := (htr.mv (i := i) hij).own g (Array.getElem?_eq_some_iff.1 h4).1 h3
   have hrr : (setBlock w1 r (.mapIter (some g) since (seen.push e.born) clock)).heap[r]? = some (.mapIter (some g) since (seen.push e.born) clock) := setBlock_at hr1
   have hee : e ∈ es.toList := List.mem_of_getElem? hq
   refine wpl_of_run wanted_none (v := .tuple #[.bool true, e.key, e.val]) (w' := setBlock w1 r (.mapIter (some g) since (seen.push e.born) clock)) ?_ ?_
   ·simp [execOp, ha.look hx, hrun]
   ·rw [hek, hcs1]
    refine hk1 p cs _ (s1 p hpm) (c.step hcs2 htr.st) ⟨htag, .inr ⟨g, l0, es, clock, since, seen.push e.born, clock, rfl, rfl, h3, g1.trans h4, h5.step htr.st, hrr, hsc, hsc, h8, ?_, ?_⟩⟩ htr ?_ _ (ha.put _ hd)
    ·intro b hb
     simp only [Array.toList_push, List.mem_append, List.mem_singleton] at hb
     rcases hb with hb | rfl
     ·exact h9 b hb
     ·exact h8 e hee
    ·intro q' e' p' hq' hp'
     simp only [Array.toList_push, List.mem_append, List.mem_cons, List.not_mem_nil, or_false]
     rw [h10 q' e' p' hq' hp']
     have hb : e'.born = e.born ↔ q' = q := by
      refine ⟨fun hbb => ?_, fun hqq => by subst hqq; rw [hq] at hq'; cases hq'; rfl⟩
      have n1 : (es.toList.map (·.born))[q']? = some e'.born := by rw [List.getElem?_map, hq']; rfl
      have n2 : (es.toList.map (·.born))[q]? = some e.born := by rw [List.getElem?_map, hq]; rfl
      exact (List.getElem?_inj (List.getElem?_eq_some_iff.1 n1).1 h5.born).1 (by rw [n1, n2, hbb])
     have hb2 : p'.1 = p.1 ↔ q' = q := by
      refine ⟨fun hbb => ?_, fun hqq => by subst hqq; rw [hp] at hp'; cases hp'; rfl⟩
      have n1 : (l0.map Prod.fst)[q']? = some p'.1 := by rw [List.getElem?_map, hp']; rfl
      have n2 : (l0.map Prod.fst)[q]? = some p.1 := by rw [List.getElem?_map, hp]; rfl
      exact (List.getElem?_inj (List.getElem?_eq_some_iff.1 n1).1 h5.nodup).1 (by rw [n1, n2, hbb])
     rw [hb, hb2]
     exact or_comm
    ·intro l' x' t' hx' n' d' e'' pos' after' gd ha'
     have := run_entry_at (P := P) (setBlock w1 r (.mapIter (some g) since (seen.push e.born) clock)) r g since seen es clock e hrr (g1.trans h4) hee h5.born
     rw [hek, hcs1] at this
     simp [execOp, ha'.look hx', this]

theorem sr_mapDelIt {d : Option Nat} {x y : Operand} {k : K} {pos : String} {after : Array Edge} (h : IterT ek c agg ρ i j w r v m done) (hij : (i == j) = false) (HK : KeyB P kt ek) (hU : P.underlying U = some (.map kt et)) (hi : 2 ≤ i) (hbd : ∀ b, ρ b ≠ 0 → b < w.heap.size) :
  ∃ w', (∀ {a : Act}, At n l a → look l x = some v → look l y = some (ek k) → (execOp a.eval ⟨d, .call { callee := .builtin .delete, args := #[x, y], argTypes := #[U, kt] }, t, pos, after, none⟩).run P w = .ok (.value (.tuple #[])) w') ∧
   IterT ek c agg ρ i j w' r v (mdel m k) done ∧ Tr ρ w (fun t => t == i) ρ w' := by
 rcases h with ⟨htag, ⟨rfl, rfl, h3⟩ | ⟨g, l0, es, clock, since, seen, c0, rfl, rfl, h3, h4, h5, h6, h7, hsc, h8, h9, h10⟩⟩
 ·refine ⟨w, fun ha hx hy => ?_, ⟨htag, .inl ⟨rfl, rfl, h3⟩⟩, (Tr.refl hbd).weak (fun _ _ => rfl) (by simp; omega) (by simp; omega)⟩
  simp [execOp, resolve, invoke, builtin, ha.look hx, ha.look hy, Builtin.delete_, run_underlying hU, HK.check]
 have hf := HK.find w k es.toList (l0.map Prod.fst) (by rw [h5.keys, List.map_map]; rfl)
 have hne : r ≠ g := fun e => by subst e; rw [htag] at h3; subst h3; simp at hij
 rcases findAt_spec (k := k) l0 es.toList 0 h5.len with ⟨h1, _, _, hmd, _⟩ | ⟨q0, e, p0, h7', hp0, _, h1, _, _, hmd⟩
 ·have htr : Tr ρ w (fun t => t == i) ρ (setBlock w g (.map es clock)) := setBlock_tr h3 hi hbd
  refine ⟨_, fun ha hx hy => ?_, ⟨htag, .inr ⟨g, _, es, clock, since, seen, c0, rfl, rfl, h3, setBlock_at h4, ?_, (setBlock_other hne).trans h6, h7, hsc, h8, h9, ?_⟩⟩, htr⟩
  ·simp [execOp, resolve, invoke, builtin, ha.look hx, ha.look hy, Builtin.delete_, run_underlying hU, MapKept.run_getObj_map h4, HK.check, hf, h1, MapKept.run_setObj_map _ h4, Result.andThen, setBlock]
  ·rw [hmd]; exact h5.step htr.st
  ·rw [hmd]; exact h10
 ·have hjs : q0 < es.size := by simpa using (List.getElem?_eq_some_iff.1 h7').1
  have hsub : (es.eraseIdxIfInBounds q0).toList = es.toList.eraseIdx q0 := by
   unfold Array.eraseIdxIfInBounds
   rw [dif_pos hjs]
   simp
  have hdel : MapL ek c agg (Wb ρ) w (es.toList.eraseIdx q0) clock (mdelL k l0) := by
   rcases h5.del k with ⟨e1, _⟩ | ⟨q1, e', e1, _, h6'⟩
   ·rw [h1] at e1; cases e1
   ·rw [h1] at e1
    simp only [Nat.zero_add, Option.some.injEq, Prod.mk.injEq] at e1
    rw [e1.1]; exact h6'
  have htr : Tr ρ w (fun t => t == i) ρ (setBlock w g (.map (es.eraseIdxIfInBounds q0) clock)) := setBlock_tr h3 hi hbd
  refine ⟨_, fun ha hx hy => ?_, ⟨htag, .inr ⟨g, _, es.eraseIdxIfInBounds q0, clock, since, seen, c0, rfl, rfl, h3, setBlock_at h4, ?_, (setBlock_other hne).trans h6, h7, hsc, ?_, h9, ?_⟩⟩, htr⟩
  ·simp [execOp, resolve, invoke, builtin, ha.look hx, ha.look hy, Builtin.delete_, run_underlying hU, MapKept.run_getObj_map h4, HK.check, hf, h1, MapKept.run_setObj_map _ h4, Result.andThen, setBlock]
  ·rw [hsub]; exact hdel.step htr.st
  ·intro e' he'
   rw [hsub] at he'
   exact h8 e' ((List.eraseIdx_sublist _ _).subset he')
  ·intro q e' p' he' hp'
   rw [hsub] at he'
   rw [hmd] at hp'
   rw [List.getElem?_eraseIdx] at he' hp'
   split at he'
   ·rename_i hq; rw [if_pos hq] at hp'; exact h10 q e' p' he' hp'
   ·rename_i hq; rw [if_neg hq] at hp'; exact h10 (q + 1) e' p' he' hp'
end
end Go.KW
