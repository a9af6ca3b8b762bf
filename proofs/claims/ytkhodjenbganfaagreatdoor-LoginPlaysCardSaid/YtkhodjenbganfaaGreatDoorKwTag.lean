/- Tags: every block that may be written bears a tag; what is known of the blocks of one tag keeps while blocks of other tags are written. Tag 0: read only. Tag 1: another's. From 2 on: the function's own, and from 100 on: objects. -/
import Derived.Test.YtkhodjenbganfaaGreatDoorKwNext
set_option linter.unusedSectionVars false
set_option linter.unusedVariables false
set_option linter.unusedSimpArgs false
namespace Go.KW
open Go Go.RowKit

abbrev Tags := Nat → Nat
def Wb (ρ : Tags) : Nat → Prop := fun b => ρ b ≠ 0

structure Tr (ρ : Tags) (w : World) (J : Nat → Bool) (ρ' : Tags) (w' : World) : Prop where
 same : ∀ b, b < w.heap.size → J (ρ b) = false → w'.heap[b]? = w.heap[b]? ∧ ρ' b = ρ b
 j0 : J 0 = false
 j1 : J 1 = false
 os : w'.os = w.os
 tape : w'.tape = w.tape
 output : w'.output = w.output
 size : w.heap.size ≤ w'.heap.size
 bd : ∀ b, ρ' b ≠ 0 → b < w'.heap.size

structure Mv (ρ : Tags) (w : World) (i : Nat) (ρ' : Tags) (w' : World) (i' : Nat) : Prop where
 rd : ∀ b, b < w.heap.size → ρ b = 0 → w'.heap[b]? = w.heap[b]? ∧ ρ' b = 0
 own : ∀ b, b < w.heap.size → ρ b = i → w'.heap[b]? = w.heap[b]? ∧ ρ' b = i'
 size : w.heap.size ≤ w'.heap.size

section
variable {ρ ρ' ρ'' : Tags} {w w' w'' : World} {J J' : Nat → Bool} {i i' j : Nat}

theorem Mv.st (h : Mv ρ w i ρ' w' i') : St (Wb ρ) w (Wb ρ') w' := by
 refine ⟨fun b hb hn => ?_, h.size, fun b hb => ?_⟩
 ·by_cases h0 : ρ b = 0
  ·exact (h.rd b hb h0).1
  ·exact absurd h0 hn
 ·by_cases h0 : ρ b = 0
  ·by_cases hs : b < w.heap.size
   ·exact absurd (h.rd b hs h0).2 hb
   ·exact .inr (by omega)
  ·exact .inl h0
theorem Tr.mv (h : Tr ρ w J ρ' w') (hi : J i = false) : Mv ρ w i ρ' w' i := by
 refine ⟨fun b hb h0 => ?_, fun b hb h0 => ?_, h.size⟩
 ·have := h.same b hb (by rw [h0]; exact h.j0); rw [h0] at this; exact this
 ·have := h.same b hb (by rw [h0]; exact hi); rw [h0] at this; exact this
theorem Tr.rd (h : Tr ρ w J ρ' w') : Mv ρ w 0 ρ' w' 0 := h.mv h.j0
theorem Tr.st (h : Tr ρ w J ρ' w') : St (Wb ρ) w (Wb ρ') w' := h.rd.st
theorem Tr.of_below (hb : Below w.heap.size w w') (hbd : ∀ b, ρ b ≠ 0 → b < w.heap.size) : Tr ρ w (fun _ => false) ρ w' :=
 ⟨fun b hb' _ => ⟨hb.block b hb', rfl⟩, rfl, rfl, hb.os, hb.tape, hb.output, hb.size, fun b h => Nat.lt_of_lt_of_le (hbd b h) hb.size⟩
theorem Tr.refl (hbd : ∀ b, ρ b ≠ 0 → b < w.heap.size) : Tr ρ w (fun _ => false) ρ w := .of_below (Below.refl _ _) hbd
theorem Mv.of_below (hb : Below w.heap.size w w') : Mv ρ w i ρ w' i := ⟨fun b hb' h => ⟨hb.block b hb', h⟩, fun b hb' h => ⟨hb.block b hb', h⟩, hb.size⟩
theorem Mv.trans (h : Mv ρ w i ρ' w' j) (k : Mv ρ' w' j ρ'' w'' i') : Mv ρ w i ρ'' w'' i' := by
 refine ⟨fun b hb h0 => ?_, fun b hb h0 => ?_, Nat.le_trans h.size k.size⟩
 ·obtain ⟨h1, h2⟩ := h.rd b hb h0
  obtain ⟨k1, k2⟩ := k.rd b (Nat.lt_of_lt_of_le hb h.size) h2
  exact ⟨k1.trans h1, k2⟩
 ·obtain ⟨h1, h2⟩ := h.own b hb h0
  obtain ⟨k1, k2⟩ := k.own b (Nat.lt_of_lt_of_le hb h.size) h2
  exact ⟨k1.trans h1, k2⟩

theorem Tr.trans (h : Tr ρ w J ρ' w') (k : Tr ρ' w' J' ρ'' w'') : Tr ρ w (fun t => J t || J' t) ρ'' w'' := by
 refine ⟨fun b hb hj => ?_, by simp [h.j0, k.j0], by simp [h.j1, k.j1], k.os.trans h.os, k.tape.trans h.tape, k.output.trans h.output, Nat.le_trans h.size k.size, k.bd⟩
 simp only [Bool.or_eq_false_iff] at hj
 obtain ⟨h1, h2⟩ := h.same b hb hj.1
 obtain ⟨k1, k2⟩ := k.same b (Nat.lt_of_lt_of_le hb h.size) (by rw [h2]; exact hj.2)
 exact ⟨k1.trans h1, k2.trans h2⟩
theorem Tr.weak (h : Tr ρ w J ρ' w') (hj : ∀ t, J' t = false → J t = false) (h0 : J' 0 = false) (h1 : J' 1 = false) : Tr ρ w J' ρ' w' :=
 ⟨fun b hb hb' => h.same b hb (hj _ hb'), h0, h1, h.os, h.tape, h.output, h.size, h.bd⟩

structure Fr (ρ0 : Tags) (w0 : World) (ρ : Tags) (w : World) : Prop where
 same : ∀ b, b < w0.heap.size → ρ0 b ≤ 1 → w.heap[b]? = w0.heap[b]? ∧ ρ b = ρ0 b
 os : w.os = w0.os
 tape : w.tape = w0.tape
 output : w.output = w0.output
 size : w0.heap.size ≤ w.heap.size
 bd : ∀ b, ρ b ≠ 0 → b < w.heap.size
theorem Fr.refl (hbd : ∀ b, ρ b ≠ 0 → b < w.heap.size) : Fr ρ w ρ w := ⟨fun _ _ _ => ⟨rfl, rfl⟩, rfl, rfl, rfl, Nat.le_refl _, hbd⟩
theorem Fr.trans {ρ0 : Tags} {w0 : World} (h : Fr ρ0 w0 ρ w) (k : Tr ρ w J ρ' w') : Fr ρ0 w0 ρ' w' := by
 refine ⟨fun b hb h1 => ?_, k.os.trans h.os, k.tape.trans h.tape, k.output.trans h.output, Nat.le_trans h.size k.size, k.bd⟩
 obtain ⟨a1, a2⟩ := h.same b hb h1
 have hj : J (ρ b) = false := by
  rw [a2]
  have : ρ0 b = 0 ∨ ρ0 b = 1 := by omega
  rcases this with e | e
  ·rw [e]; exact k.j0
  ·rw [e]; exact k.j1
 obtain ⟨b1, b2⟩ := k.same b (Nat.lt_of_lt_of_le hb h.size) hj
 exact ⟨b1.trans a1, b2.trans a2⟩
theorem Fr.below {ρ0 : Tags} {w0 : World} (h : Fr ρ0 w0 ρ w) (h1 : ∀ b, ρ0 b ≤ 1) : Below w0.heap.size w0 w := ⟨h.os, h.tape, h.output, h.size, fun b hb => (h.same b hb (h1 b)).1⟩

def enter (ρ : Tags) (o n : Nat) : Tags := fun b => if o ≤ ρ b ∧ ρ b < o + n then ρ b - o + 100 else min (ρ b) 1
def leave (ρ0 : Tags) (w0 : World) (o n : Nat) (ρ : Tags) : Tags := fun b =>
 if b < w0.heap.size ∧ ¬ (o ≤ ρ0 b ∧ ρ0 b < o + n) then ρ0 b else if 100 ≤ ρ b ∧ ρ b < 100 + n then ρ b - 100 + o else 0
def rng (o n : Nat) : Nat → Bool := fun t => decide (o ≤ t) && decide (t < o + n)
theorem enter_mv {ρ : Tags} {w : World} {o n p : Nat} (hp : p < n) (ho : 2 ≤ o) : Mv ρ w (o + p) (enter ρ o n) w (100 + p) := by
 refine ⟨fun b hb h0 => ⟨rfl, ?_⟩, fun b hb h0 => ⟨rfl, ?_⟩, Nat.le_refl _⟩
 ·unfold enter; rw [h0, if_neg (by omega)]; rfl
 ·unfold enter; rw [h0, if_pos (by omega)]; omega
theorem enter_rd {ρ : Tags} {w : World} {o n : Nat} (ho : 2 ≤ o) : Mv ρ w 0 (enter ρ o n) w 0 := by
 have : ∀ b, ρ b = 0 → enter ρ o n b = 0 := fun b h0 => by unfold enter; rw [h0, if_neg (by omega)]; rfl
 exact ⟨fun b _ h0 => ⟨rfl, this b h0⟩, fun b _ h0 => ⟨rfl, this b h0⟩, Nat.le_refl _⟩
theorem enter_fr {ρ : Tags} {w : World} {o n : Nat} (ho : 2 ≤ o) (hbd : ∀ b, ρ b ≠ 0 → b < w.heap.size) : Fr (enter ρ o n) w (enter ρ o n) w :=
 Fr.refl fun b hb => hbd b fun e => hb (by unfold enter; rw [e, if_neg (by omega)]; rfl)

theorem leave_tr {ρ0 : Tags} {w0 : World} {o n : Nat} (ho : 2 ≤ o) (h : Fr (enter ρ0 o n) w0 ρ w) : Tr ρ0 w0 (rng o n) (leave ρ0 w0 o n ρ) w := by
 have hlow : ∀ b, ¬ (o ≤ ρ0 b ∧ ρ0 b < o + n) → enter ρ0 o n b = min (ρ0 b) 1 := fun b hn => by unfold enter; rw [if_neg hn]
 refine ⟨fun b hb hj => ?_, by simp [rng]; omega, by simp [rng]; omega, h.os, h.tape, h.output, h.size, fun b hb => ?_⟩
 ·have hn : ¬ (o ≤ ρ0 b ∧ ρ0 b < o + n) := by simpa [rng] using hj
  refine ⟨(h.same b hb (by rw [hlow b hn]; omega)).1, ?_⟩
  unfold leave; rw [if_pos ⟨hb, hn⟩]
 ·unfold leave at hb
  by_cases h1 : b < w0.heap.size ∧ ¬ (o ≤ ρ0 b ∧ ρ0 b < o + n)
  ·exact Nat.lt_of_lt_of_le h1.1 h.size
  ·rw [if_neg h1] at hb
   by_cases h2 : 100 ≤ ρ b ∧ ρ b < 100 + n
   ·exact h.bd b (by omega)
   ·rw [if_neg h2] at hb; exact absurd rfl hb
theorem leave_mv {ρ0 : Tags} {w0 : World} {o n p : Nat} (hp : p < n) (h : Fr (enter ρ0 o n) w0 ρ w) : Mv ρ w (100 + p) (leave ρ0 w0 o n ρ) w (o + p) := by
 have hlow : ∀ b, ¬ (o ≤ ρ0 b ∧ ρ0 b < o + n) → enter ρ0 o n b = min (ρ0 b) 1 := fun b hn => by unfold enter; rw [if_neg hn]
 refine ⟨fun b hb h0 => ⟨rfl, ?_⟩, fun b hb h0 => ⟨rfl, ?_⟩, Nat.le_refl _⟩
 ·unfold leave
  by_cases h1 : b < w0.heap.size ∧ ¬ (o ≤ ρ0 b ∧ ρ0 b < o + n)
  ·rw [if_pos h1]
   have e := hlow b h1.2
   have := (h.same b h1.1 (by rw [e]; omega)).2
   rw [h0, e] at this; omega
  ·rw [if_neg h1, if_neg (by omega)]
 ·unfold leave
  by_cases h1 : b < w0.heap.size ∧ ¬ (o ≤ ρ0 b ∧ ρ0 b < o + n)
  ·have e := hlow b h1.2
   have := (h.same b h1.1 (by rw [e]; omega)).2
   rw [h0, e] at this; omega
  ·rw [if_neg h1, if_pos (by omega)]; omega
theorem leave_rd {ρ0 : Tags} {w0 : World} {o n : Nat} (h : Fr (enter ρ0 o n) w0 ρ w) : Mv ρ w 0 (leave ρ0 w0 o n ρ) w 0 := by
 have hlow : ∀ b, ¬ (o ≤ ρ0 b ∧ ρ0 b < o + n) → enter ρ0 o n b = min (ρ0 b) 1 := fun b hn => by unfold enter; rw [if_neg hn]
 have key : ∀ b, ρ b = 0 → leave ρ0 w0 o n ρ b = 0 := fun b h0 => by
  unfold leave
  by_cases h1 : b < w0.heap.size ∧ ¬ (o ≤ ρ0 b ∧ ρ0 b < o + n)
  ·rw [if_pos h1]
   have e := hlow b h1.2
   have := (h.same b h1.1 (by rw [e]; omega)).2
   rw [h0, e] at this; omega
  ·rw [if_neg h1, if_neg (by omega)]
 exact ⟨fun b _ h0 => ⟨rfl, key b h0⟩, fun b _ h0 => ⟨rfl, key b h0⟩, Nat.le_refl _⟩
def flat1 (ρ : Tags) : Tags := fun b => min (ρ b) 1
theorem flat1_le (ρ : Tags) : ∀ b, flat1 ρ b ≤ 1 := fun b => by unfold flat1; omega
theorem flat1_mv {ρ : Tags} {w : World} {i : Nat} (hi : 1 ≤ i) : Mv ρ w i (flat1 ρ) w 1 :=
 ⟨fun b _ h0 => ⟨rfl, by unfold flat1; rw [h0]; rfl⟩, fun b _ h0 => ⟨rfl, by unfold flat1; omega⟩, Nat.le_refl _⟩
theorem flat1_rd {ρ : Tags} {w : World} : Mv ρ w 0 (flat1 ρ) w 0 :=
 ⟨fun b _ h0 => ⟨rfl, by unfold flat1; rw [h0]; rfl⟩, fun b _ h0 => ⟨rfl, by unfold flat1; rw [h0]; rfl⟩, Nat.le_refl _⟩
theorem flat1_fr {ρ : Tags} {w : World} (hbd : ∀ b, ρ b ≠ 0 → b < w.heap.size) : Fr (flat1 ρ) w (flat1 ρ) w := Fr.refl fun b hb => hbd b fun e => hb (by unfold flat1; rw [e]; rfl)
theorem flat1_back {ρ0 : Tags} {w0 : World} (h : Fr (flat1 ρ0) w0 ρ w) (hbd : ∀ b, ρ0 b ≠ 0 → b < w0.heap.size) : Mv ρ w 0 ρ0 w 0 := by
 have key : ∀ b, ρ b = 0 → ρ0 b = 0 := fun b h0 => by
  by_cases hb : b < w0.heap.size
  ·have := (h.same b hb (flat1_le _ _)).2
   rw [h0] at this
   unfold flat1 at this; omega
  ·exact Classical.byContradiction fun hne => hb (hbd b hne)
 exact ⟨fun b _ h0 => ⟨rfl, key b h0⟩, fun b _ h0 => ⟨rfl, key b h0⟩, Nat.le_refl _⟩
end

section
variable {T : Type} {c : Cdc T} {E : TypeId} {ρ ρ' : Tags} {i i' : Nat} {w w' : World} {v : Value} {xs ys : List T} {g : Nat} {o : Obj}

theorem SlR.mv (h : SlR c (Wb ρ) w v xs) (m : Mv ρ w i ρ' w' i') : SlR c (Wb ρ') w' v xs := h.step m.st

structure Blk (ρ : Tags) (i : Nat) (w : World) (g : Nat) (o : Obj) : Prop where
 tag : ρ g = i
 get : w.heap[g]? = some o
theorem Blk.lt (h : Blk ρ i w g o) : g < w.heap.size := (Array.getElem?_eq_some_iff.1 h.get).1
theorem Blk.mv (h : Blk ρ i w g o) (m : Mv ρ w i ρ' w' i') : Blk ρ' i' w' g o := by
 obtain ⟨h1, h2⟩ := m.own g h.lt h.tag
 exact ⟨h2, h1.trans h.get⟩
theorem Blk.cell {cs : Array Value} {t : TypeId} {fr : Nat × Nat} (h : Blk ρ i w g (.cells cs t fr)) {q : Nat} {u : Value} (hu : cs[q]? = some u) : w.cell? ⟨g, q, none⟩ = some u := by
 have := h.get
 simp only [World.cell?, this]
 simpa using hu
theorem Blk.cells {cs : Array Value} {t : TypeId} {fr : Nat × Nat} (h : Blk ρ i w g (.cells cs t fr)) {o : Nat} {vs : List Value} (hs : seg cs.toList o vs.length = vs) :
  ∀ j u, vs[j]? = some u → w.cell? ⟨g, o + j, none⟩ = some u := by
 intro j u hj
 rw [← hs] at hj
 have := seg_get hj
 exact h.cell (by simpa using this)
theorem Blk.hp (h : Blk ρ i w g o) : Hp (fun b => b = g) 0 w [(g, o)] :=
 ⟨by simp, fun p hp => by simp at hp; subst hp; exact ⟨rfl, h.get⟩, fun _ _ => Nat.zero_le _⟩
theorem Tr.of_wr {A : Nat → Prop} (h : Wr A w w' g) (hg : ρ g = i) (hi : 2 ≤ i) (hbd : ∀ b, ρ b ≠ 0 → b < w.heap.size) : Tr ρ w (fun t => t == i) ρ w' :=
 ⟨fun b hb hj => ⟨h.other b fun e => by subst e; simp [hg] at hj, rfl⟩, by simp; omega, by simp; omega, h.os, h.tape, h.output, by rw [h.size]; exact Nat.le_refl _, fun b hb => by rw [h.size]; exact hbd b hb⟩

structure OwnT (c : Cdc T) (E : TypeId) (ρ : Tags) (i : Nat) (w : World) (v : Value) (xs : List T) : Prop where
 own : OwnS c E (Wb ρ) 0 w v xs
 tag : ∀ g, v.ownBlock = some g → ρ g = i
theorem OwnT.nil : OwnT c E ρ i w (.slice none 0 0) [] := ⟨OwnS.nil, fun g h => by simp [Value.ownBlock] at h⟩
theorem OwnT.mv (h : OwnT c E ρ i w v xs) (m : Mv ρ w i ρ' w' i') (hi : i' ≠ 0) : OwnT c E ρ' i' w' v xs := by
 obtain ⟨⟨cells, h1, h2, h3⟩, ht⟩ := h
 have key : ∀ g, v.ownBlock = some g → w'.heap[g]? = w.heap[g]? ∧ ρ' g = i' := fun g hg => m.own g (h1.lt g hg).2 (ht g hg)
 refine ⟨⟨cells, ⟨h1.1, ?_⟩, fun g hg => by rw [Wb, (key g hg).2]; exact hi, fun j x hx => c.step (h3 j x hx) m.st⟩, fun g hg => (key g hg).2⟩
 rcases h1.2 with hn | ⟨g, cap, cur, rfl, hb, hgg, r⟩
 ·exact .inl hn
 ·exact .inr ⟨g, cap, cur, rfl, hb, (key g rfl).1.trans hgg, r⟩

def SlT (c : Cdc T) (ρ : Tags) (k : Nat) (w : World) (v : Value) (xs : List T) : Prop :=
 (xs = [] ∧ (v = .slice none 0 0 ∨ ∃ a cap, v = .slice (some a) 0 cap ∧ cap ≤ maxLen)) ∨ ∃ b off cap cur t fr, v = .slice (some ⟨b, off, none⟩) xs.length cap ∧ (ρ b = 0 ∨ ρ b = k) ∧ w.heap[b]? = some (.cells cur t fr) ∧ xs.length ≤ cap ∧ cap ≤ maxLen ∧
  ∀ j x, xs[j]? = some x → c.rd (Wb ρ) w (seg cur.toList (off + j * c.size) c.size) x
theorem SlT.mv (h : SlT c ρ i w v xs) (m : Mv ρ w i ρ' w' i') : SlT c ρ' i' w' v xs := by
 rcases h with h | ⟨b, off, cap, cur, t, fr, h1, h2, h3, h4, h5, h6⟩
 ·exact .inl h
 ·have hlt : b < w.heap.size := (Array.getElem?_eq_some_iff.1 h3).1
  have key : w'.heap[b]? = w.heap[b]? ∧ (ρ' b = 0 ∨ ρ' b = i') := by
   rcases h2 with h2 | h2
   ·exact ⟨(m.rd b hlt h2).1, .inl (m.rd b hlt h2).2⟩
   ·exact ⟨(m.own b hlt h2).1, .inr (m.own b hlt h2).2⟩
  exact .inr ⟨b, off, cap, cur, t, fr, h1, key.2, key.1.trans h3, h4, h5, fun j x hx => c.step (h6 j x hx) m.st⟩
theorem SlT.of_sl (h : SlR c (Wb ρ) w v xs) : SlT c ρ i w v xs := by
 rcases h with h | ⟨b, off, cap, cur, t, fr, h1, h2, h3, h4, h5, h6⟩
 ·exact .inl h
 ·exact .inr ⟨b, off, cap, cur, t, fr, h1, .inl (Classical.not_not.1 h2), h3, h4, h5, h6⟩
theorem SlT.sl (h : SlT c ρ 0 w v xs) : SlR c (Wb ρ) w v xs := by
 rcases h with h | ⟨b, off, cap, cur, t, fr, h1, h2, h3, h4, h5, h6⟩
 ·exact .inl h
 ·exact .inr ⟨b, off, cap, cur, t, fr, h1, fun hn => hn (by rcases h2 with h | h <;> exact h), h3, h4, h5, h6⟩
theorem SlT.as (h : SlT c ρ i w v xs) : SlR c (fun _ => False) w v xs := by
 rcases h with h | ⟨b, off, cap, cur, t, fr, h1, h2, h3, h4, h5, h6⟩
 ·exact .inl h
 ·exact .inr ⟨b, off, cap, cur, t, fr, h1, id, h3, h4, h5, fun j x hx => c.step (h6 j x hx) (.weak fun _ h => h.elim)⟩
theorem OwnT.sl (h : OwnT c E ρ i w v xs) : SlT c ρ i w v xs := by
 obtain ⟨⟨cells, h1, h2, h3⟩, ht⟩ := h
 rcases h1.2 with ⟨rfl, hn⟩ | ⟨g, cap, cur, rfl, hb, hgg, h4, h5, h6, h7⟩
 ·exact .inl ⟨List.eq_nil_of_length_eq_zero hn, .inl rfl⟩
 ·refine .inr ⟨g, 0, cap, cur, E, (0, 0), rfl, .inr (ht g rfl), hgg, h4, h5, fun j x hx => ?_⟩
  have hlt := (List.getElem?_eq_some_iff.1 hx).1
  have hle : j * c.size + c.size ≤ xs.length * c.size := by
   rw [← Nat.succ_mul]; exact Nat.mul_le_mul_right _ hlt
  rw [Nat.zero_add, seg_prefix h7 hle]
  exact h3 j x hx
theorem OwnT.asSl (h : OwnT c E ρ i w v xs) : SlR c (fun _ => False) w v xs := h.sl.as
theorem SlR.asSl (h : SlR c (Wb ρ) w v xs) : SlR c (fun _ => False) w v xs := h.weak fun _ h => h.elim

def frz (ρ : Tags) (i : Nat) : Tags := fun b => if ρ b = i then 0 else ρ b
theorem frz_tr (hi : 2 ≤ i) (hbd : ∀ b, ρ b ≠ 0 → b < w.heap.size) : Tr ρ w (fun t => t == i) (frz ρ i) w := by
 refine ⟨fun b hb hj => ⟨rfl, ?_⟩, by simp; omega, by simp; omega, rfl, rfl, rfl, Nat.le_refl _, fun b hb => ?_⟩
 ·unfold frz; rw [if_neg (by simpa using hj)]
 ·unfold frz at hb
  by_cases e : ρ b = i
  ·rw [if_pos e] at hb; exact absurd rfl hb
  ·rw [if_neg e] at hb; exact hbd b hb
theorem frz_mv : Mv ρ w i (frz ρ i) w 0 := by
 refine ⟨fun b _ h0 => ⟨rfl, ?_⟩, fun b _ h0 => ⟨rfl, ?_⟩, Nat.le_refl _⟩
 ·unfold frz; rw [h0]; split <;> rfl
 ·unfold frz; rw [if_pos h0]

def rtg (ρ : Tags) (i i' : Nat) : Tags := fun b => if ρ b = i then i' else ρ b
theorem rtg_tr (i' : Nat) (hi : 2 ≤ i) (hbd : ∀ b, ρ b ≠ 0 → b < w.heap.size) : Tr ρ w (fun t => t == i) (rtg ρ i i') w := by
 refine ⟨fun b hb hj => ⟨rfl, ?_⟩, by simp; omega, by simp; omega, rfl, rfl, rfl, Nat.le_refl _, fun b hb => ?_⟩
 ·unfold rtg; rw [if_neg (by simpa using hj)]
 ·unfold rtg at hb
  by_cases e : ρ b = i
  ·exact hbd b (by omega)
  ·rw [if_neg e] at hb; exact hbd b hb
theorem rtg_mv (hi : 2 ≤ i) : Mv ρ w i (rtg ρ i i') w i' := by
 refine ⟨fun b _ h0 => ⟨rfl, ?_⟩, fun b _ h0 => ⟨rfl, ?_⟩, Nat.le_refl _⟩
 ·unfold rtg; rw [if_neg (by omega)]; exact h0
 ·unfold rtg; rw [if_pos h0]

structure ElT (c : Cdc T) (ρ : Tags) (k : Nat) (w : World) (b o : Nat) (cs : List Value) (x : T) : Prop where
 rd : c.rd (Wb ρ) w cs x
 av : ρ b = 0 ∨ ρ b = k
 cell : ∀ j u, cs[j]? = some u → w.cell? ⟨b, o + j, none⟩ = some u
theorem ElT.mv {b q : Nat} {cs : List Value} {x : T} (h : ElT c ρ i w b q cs x) (m : Mv ρ w i ρ' w' i') (h0 : 0 < cs.length) : ElT c ρ' i' w' b q cs x := by
 have hlt : b < w.heap.size := World.block_lt_of_cell? w (a := ⟨b, q + 0, none⟩) (h.cell 0 cs[0] (List.getElem?_eq_getElem h0))
 have key : w'.heap[b]? = w.heap[b]? ∧ (ρ' b = 0 ∨ ρ' b = i') := by
  rcases h.av with h2 | h2
  ·exact ⟨(m.rd b hlt h2).1, .inl (m.rd b hlt h2).2⟩
  ·exact ⟨(m.own b hlt h2).1, .inr (m.own b hlt h2).2⟩
 refine ⟨c.step h.rd m.st, key.2, fun j u hj => ?_⟩
 rw [← h.cell j u hj]
 exact World.cell?_of_block (w := w) key.1
theorem ElT.part {b q off : Nat} {cs vs : List Value} {x : T} (h : ElT c ρ i w b q cs x) (hs : seg cs off vs.length = vs) : ∀ j u, vs[j]? = some u → w.cell? ⟨b, q + off + j, none⟩ = some u := by
 intro j u hj
 rw [← hs] at hj
 have := h.cell (off + j) u (seg_get hj)
 rwa [← Nat.add_assoc] at this
end

section
variable {P : Program} {f : FuncId} {R : Ending → World → Prop} {n : Nat} {k : List Item} {Qr : Exit → Act → World → Prop} {l : Env} {w : World} {ops : Array Oper} {rest : List Oper} {t : TypeId}
variable {T : Type} {c : Cdc T} {E : TypeId} {ρ : Tags} {i kt : Nat} {v v2 : Value} {xs ys : List T}

def newT (ρ : Tags) (w : World) (i : Nat) : Tags := fun b => if b = w.heap.size then i else ρ b
theorem new_blk (o : Obj) (hi : 2 ≤ i) (hbd : ∀ b, ρ b ≠ 0 → b < w.heap.size) : Blk (newT ρ w i) i (w.alloc o) w.heap.size o ∧ Tr ρ w (fun t => t == i) (newT ρ w i) (w.alloc o) := by
 have hb := below_alloc w o
 refine ⟨⟨by simp [newT], alloc_new w o⟩, fun b h _ => ⟨hb.block b h, by unfold newT; rw [if_neg (by omega)]⟩, by simp; omega, by simp; omega, hb.os, hb.tape, hb.output, hb.size, fun b h => ?_⟩
 unfold newT at h
 by_cases e : b = w.heap.size
 ·subst e; simp
 ·rw [if_neg e] at h; have := hbd b h; simp; omega
theorem sr_boxT {d : Nat} {x : Operand} {U : TypeId} {v : Value} {pos : String} {after : Array Edge} (i : Nat) (hi : 2 ≤ i) (hbd : ∀ b, ρ b ≠ 0 → b < w.heap.size) (hx : look l x = some v) (hd : d < n)
  (hk : ∀ g ρ' w', Blk ρ' i w' g (.cells v.cells U (0, 0)) → Tr ρ w (fun t => t == i) ρ' w' → SR P Qr n ops rest (l.put d (.pointer (some ⟨g, 0, none⟩))) w') :
  SR P Qr n ops (⟨some d, .box U x, t, pos, after, none⟩ :: rest) l w := by
 obtain ⟨h1, h2⟩ := new_blk (.cells v.cells U) hi hbd
 intro a ha
 refine wpl_of_run wanted_none (v := .pointer (some ⟨w.heap.size, 0, none⟩)) (w' := w.alloc (.cells v.cells U)) ?_ (hk _ _ _ h1 h2 _ (ha.put _ hd))
 simp [execOp, ha.look hx, Instr.box, newVar, newRow]
theorem sr_allocT {d : Nat} {U : TypeId} {z : Value} {pos : String} {after : Array Edge} (i : Nat) (hi : 2 ≤ i) (hbd : ∀ b, ρ b ≠ 0 → b < w.heap.size) (hz : ∀ w, (zeroValue U).run P w = .ok z w) (hd : d < n)
  (hk : ∀ g ρ' w', Blk ρ' i w' g (.cells z.cells U (0, 0)) → Tr ρ w (fun t => t == i) ρ' w' → SR P Qr n ops rest (l.put d (.pointer (some ⟨g, 0, none⟩))) w') :
  SR P Qr n ops (⟨some d, .alloc U, t, pos, after, none⟩ :: rest) l w := by
 obtain ⟨h1, h2⟩ := new_blk (.cells z.cells U) hi hbd
 intro a ha
 refine wpl_of_run wanted_none (v := .pointer (some ⟨w.heap.size, 0, none⟩)) (w' := w.alloc (.cells z.cells U)) ?_ (hk _ _ _ h1 h2 _ (ha.put _ hd))
 simp [execOp, Instr.alloc, hz, newVar, newRow]
theorem sr_storeT {x y : Operand} {U : TypeId} {g o : Nat} {cur cs' : Array Value} {tt : TypeId} {v : Value} {vs : List Value} {pos : String} {after : Array Edge} (hB : Blk ρ i w g (.cells cur tt (0, 0))) (hi : 2 ≤ i) (hbd : ∀ b, ρ b ≠ 0 → b < w.heap.size)
  (hx : look l x = some (.pointer (some ⟨g, o, none⟩))) (hy : look l y = some v) (hv : v.cells.toList = vs) (hz : ∀ w, (sizeOf U).run P w = .ok vs.length w) (hle : (o + vs.length).ble cur.size = true)
  (h1 : vs.all (fun u => u.oneCell') = true) (hcs : cur.toList.take o ++ vs ++ cur.toList.drop (o + vs.length) = cs'.toList)
  (hk : ∀ w', Blk ρ i w' g (.cells cs' tt (0, 0)) → Tr ρ w (fun t => t == i) ρ w' → SR P Qr n ops rest l w') :
  SR P Qr n ops (⟨none, .store U x y, t, pos, after, none⟩ :: rest) l w :=
 sr_store (i := 0) hB.hp rfl hx hy hv hz hle h1 hcs fun w' hp hw => hk w' ⟨hB.tag, (hp.get (g, _) (by simp)).2⟩ (.of_wr hw hB.tag hi hbd)
end
end Go.KW
