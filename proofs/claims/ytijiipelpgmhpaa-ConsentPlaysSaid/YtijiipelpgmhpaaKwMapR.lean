/- Maps as values that are read only: up to the order of their entries. -/
import Derived.Test.YtijiipelpgmhpaaKwOffs
import Derived.Test.YtijiipelpgmhpaaKwMap3
import Derived.Test.YtijiipelpgmhpaaKwMapP
set_option linter.unusedSectionVars false
set_option linter.unusedVariables false
set_option linter.unusedSimpArgs false
namespace Go.KW
open Go Go.RowKit
section
variable {K V : Type} [DecidableEq K]
instance decGMap {K V : Type} [DecidableEq K] [DecidableEq V] : DecidableEq (GMap K V) := fun a b => match a, b with
  | none, none => isTrue rfl
  | some x, some y => if h : x = y then isTrue (by rw [h]) else isFalse fun e => h (Option.some.inj e)
  | none, some _ => isFalse fun e => by cases e
  | some _, none => isFalse fun e => by cases e
/-- the same entries -/
def mperm (a b : GMap K V) : Prop := match a, b with
  | none, none => True
  | some x, some y => x.Perm y
  | _, _ => False
theorem mperm.refl (a : GMap K V) : mperm a a := by
  cases a
  · trivial
  · exact List.Perm.refl _
theorem mperm.left {a b : GMap K V} (h : mperm a b) (done : List K) : (mleft a done).Perm (mleft b done) := by
  cases a <;> cases b
  · exact List.Perm.refl _
  · exact h.elim
  · exact h.elim
  · exact List.Perm.filter _ h
theorem pickAny_perm {R : Type} [DecidableEq R] {a b : GMap K V} {done : List K} {k0 : Option R} {kf : K × V → Option R} {r : R} (h : mperm a b) (hS : pickAny (mleft b done) k0 kf = some r) : pickAny (mleft a done) k0 kf = some r := by
  obtain ⟨s0, s1⟩ := pickAny_some hS
  have hp := h.left done
  exact pickAny_of (fun e => s0 (by rw [e] at hp; exact hp.symm.eq_nil)) fun e he => s1 e (hp.mem_iff.1 he)
end
section
variable {P : Program} {f : FuncId} {R : Ending → World → Prop} {n : Nat} {kk : List Item} {Qr : Exit → Act → World → Prop} {l : Env} {w w' : World} {ops : Array Oper} {rest : List Oper} {t : TypeId}
variable {K V : Type} [DecidableEq K] {ek : K → Value} {c : Cdc V} {agg : Bool} {ρ ρ' : Tags} {i i' j j' : Nat} {v : Value} {m m' : GMap K V} {U kt et : TypeId} {r : Nat} {done : List K} {A A' : Nat → Prop}
/-- a map that nobody writes, with the entries of m in some order -/
def MapRd (ek : K → Value) (c : Cdc V) (agg : Bool) (A : Nat → Prop) (w : World) (v : Value) (m : GMap K V) : Prop :=
  (m = none ∧ v = .map none) ∨ ∃ g l l' es clock, m = some l ∧ l'.Perm l ∧ v = .map (some g) ∧ ¬ A g ∧ w.heap[g]? = some (.map es clock) ∧ MapL ek c agg A w es.toList clock l'
theorem MapRd.nil : MapRd ek c agg A w (.map none) (none : GMap K V) := .inl ⟨rfl, rfl⟩
theorem MapRd.step (h : MapRd ek c agg A w v m) (s : St A w A' w') : MapRd ek c agg A' w' v m := by
  rcases h with h | ⟨g, l0, l1, es, clock, h1, h2, h3, h4, h5, h6⟩
  · exact .inl h
  · have hlt := (Array.getElem?_eq_some_iff.1 h5).1
    refine .inr ⟨g, l0, l1, es, clock, h1, h2, h3, fun ha => ?_, (s.same g hlt h4).trans h5, h6.step s⟩
    rcases s.av g ha with h | h
    · exact h4 h
    · omega
theorem MapRd.mv (h : MapRd ek c agg (Wb ρ) w v m) (k : Mv ρ w i ρ' w' i') : MapRd ek c agg (Wb ρ') w' v m := h.step k.st
theorem MapRd.oneCell (h : MapRd ek c agg A w v m) : v.oneCell' = true := by
  rcases h with ⟨_, rfl⟩ | ⟨g, _, _, _, _, _, _, rfl, _⟩ <;> rfl
theorem MapT.rdOnly (h : MapT ek c agg ρ 0 w v m') (hp : mperm m' m) : MapRd ek c agg (Wb ρ) w v m := by
  rcases h with ⟨rfl, rfl⟩ | ⟨g, l0, es, clock, rfl, rfl, h3, h4, h5⟩
  · cases m
    · exact .nil
    · exact hp.elim
  · cases m with
    | none => exact hp.elim
    | some l1 => exact .inr ⟨g, l1, l0, es, clock, rfl, hp, rfl, fun h => h h3, h4, h5⟩
theorem MapRd.mapT (h : MapRd ek c agg (Wb ρ) w v m) : ∃ m', mperm m' m ∧ MapT ek c agg ρ 0 w v m' := by
  rcases h with ⟨rfl, rfl⟩ | ⟨g, l0, l1, es, clock, rfl, h2, rfl, h4, h5, h6⟩
  · exact ⟨none, trivial, .nil⟩
  · exact ⟨some l1, h2, .inr ⟨g, l1, es, clock, rfl, rfl, Classical.not_not.1 h4, h5, h6⟩⟩
/-- maps as elements, entries and fields -/
def mapC (ek : K → Value) (c : Cdc V) (agg : Bool) : Cdc (GMap K V) :=
  { size := 1
    rd := fun A w cs m => ∃ v, cs = [v] ∧ MapRd ek c agg A w v m
    len := fun h => by obtain ⟨_, h, _⟩ := h; rw [h]; rfl
    one := fun h u hu => by
      obtain ⟨v, rfl, h⟩ := h
      simp at hu; subst hu
      exact h.oneCell
    step := fun h s => by
      obtain ⟨v, h1, h2⟩ := h
      exact ⟨v, h1, h2.step s⟩ }
/-- an iterator over a map that nobody writes -/
def IterP (ek : K → Value) (c : Cdc V) (agg : Bool) (ρ : Tags) (j : Nat) (w : World) (r : Nat) (v : Value) (m : GMap K V) (done : List K) : Prop :=
  ∃ m', mperm m' m ∧ IterT ek c agg ρ 0 j w r v m' done
theorem IterP.mv (h : IterP ek c agg ρ j w r v m done) (k : Mv ρ w 0 ρ' w' 0) (k2 : Mv ρ w j ρ' w' j') : IterP ek c agg ρ' j' w' r v m done := by
  obtain ⟨m1, h1, h2⟩ := h
  exact ⟨m1, h1, h2.mv k k2⟩
theorem sr_rangeP {d : Nat} {x : Operand} {pos : String} {after : Array Edge} (j : Nat) (hj : 2 ≤ j) (h : MapRd ek c agg (Wb ρ) w v m) (hU : P.underlying U = some (.map kt et)) (hbd : ∀ b, ρ b ≠ 0 → b < w.heap.size) (hx : look l x = some v) (hd : d < n)
    (hk : ∀ r ρ' w', IterP ek c agg ρ' j w' r v m [] → Tr ρ w (fun t => t == j) ρ' w' → SR P Qr n ops rest (l.put d (.pointer (some ⟨r, 0, none⟩))) w') :
    SR P Qr n ops (⟨some d, .range U x, t, pos, after, none⟩ :: rest) l w := by
  obtain ⟨m1, h1, h2⟩ := h.mapT
  have hne : (0 == j) = false := by rw [beq_eq_false_iff_ne]; omega
  exact sr_rangeM j hj h2 hne hU hbd hx hd fun r ρ' w' hi htr => hk r ρ' w' ⟨m1, h1, hi⟩ htr
theorem sr_nextP {Rr : Type} [DecidableEq Rr] {k0 : Option Rr} {kf : K × V → Option Rr} {rr : Rr} {d : Nat} {x : Operand} {pos : String} {after : Array Edge} (h : IterP ek c agg ρ j w r v m done) (hj : 2 ≤ j) (hbd : ∀ b, ρ b ≠ 0 → b < w.heap.size)
    (hS : pickAny (mleft m done) k0 kf = some rr) (hx : look l x = some (.pointer (some ⟨r, 0, none⟩))) (hd : d < n)
    (hk0 : k0 = some rr → SR P Qr n ops rest (l.put d (.tuple #[.bool false])) w)
    (hk1 : ∀ e cs w', kf e = some rr → c.rd (Wb ρ) w' cs e.2 → IterP ek c agg ρ j w' r v m (e.1 :: done) → Tr ρ w (fun t => t == j) ρ w' →
      (∀ {l : Env} {x : Operand} {t : TypeId}, look l x = some (.pointer (some ⟨r, 0, none⟩)) → Ev P l (.entry x) t w' (.tuple #[ek e.1, vOf agg cs])) →
      SR P Qr n ops rest (l.put d (.tuple #[.bool true, ek e.1, vOf agg cs])) w') :
    SR P Qr n ops (⟨some d, .next x false, t, pos, after, none⟩ :: rest) l w := by
  obtain ⟨m1, h1, h2⟩ := h
  have hne : (0 == j) = false := by rw [beq_eq_false_iff_ne]; omega
  exact sr_nextM h2 hne hj hbd (pickAny_perm h1 hS) hx hd hk0 fun e cs w' a b c d e' => hk1 e cs w' a b ⟨m1, h1, c⟩ d e'
end
/-! ### a list whose order nobody knows -/
section
def putIn {α : Type} (x : α) : List α → List (List α)
  | [] => [[x]]
  | y :: r => (x :: y :: r) :: (putIn x r).map (y :: ·)
def perms {α : Type} : List α → List (List α)
  | [] => [[]]
  | x :: r => (perms r).flatMap (putIn x)
theorem putIn_mem {α : Type} {x : α} : ∀ {l : List α} {p : List α}, p ∈ putIn x l ↔ ∃ a b, l = a ++ b ∧ p = a ++ x :: b
  | [], p => by
    simp only [putIn, List.mem_singleton]
    constructor
    · rintro rfl; exact ⟨[], [], rfl, rfl⟩
    · rintro ⟨a, b, h, rfl⟩
      have h := h.symm
      rw [List.append_eq_nil_iff] at h
      rw [h.1, h.2]; rfl
  | y :: r, p => by
    simp only [putIn, List.mem_cons, List.mem_map]
    constructor
    · rintro (rfl | ⟨q, hq, rfl⟩)
      · exact ⟨[], y :: r, rfl, rfl⟩
      · obtain ⟨a, b, rfl, rfl⟩ := putIn_mem.1 hq
        exact ⟨y :: a, b, rfl, rfl⟩
    · rintro ⟨a, b, h, rfl⟩
      cases a with
      | nil => simp only [List.nil_append] at h; subst h; exact .inl rfl
      | cons z a =>
        simp only [List.cons_append, List.cons.injEq] at h
        obtain ⟨rfl, rfl⟩ := h
        exact .inr ⟨_, putIn_mem.2 ⟨a, b, rfl, rfl⟩, rfl⟩
theorem perms_mem {α : Type} : ∀ {l p : List α}, p ∈ perms l ↔ p.Perm l
  | [], p => by
    simp only [perms, List.mem_singleton]
    constructor
    · rintro rfl; exact .refl _
    · exact fun h => h.eq_nil
  | x :: r, p => by
    simp only [perms, List.mem_flatMap]
    constructor
    · rintro ⟨q, hq, hp⟩
      obtain ⟨a, b, rfl, rfl⟩ := putIn_mem.1 hp
      exact List.perm_middle.trans ((perms_mem.1 hq).cons x)
    · intro h
      have hx : x ∈ p := h.mem_iff.2 (by simp)
      obtain ⟨a, b, rfl⟩ := List.append_of_mem hx
      exact ⟨a ++ b, perms_mem.2 ((List.perm_middle.symm.trans h).cons_inv), putIn_mem.2 ⟨a, b, rfl, rfl⟩⟩
/-- whatever the order is, the answer is the same -/
def permAny {α R : Type} [DecidableEq R] (l : List α) (k : List α → Option R) : Option R := pickAny (perms l) none k
theorem permAny_some {α R : Type} [DecidableEq R] {l p : List α} {k : List α → Option R} {r : R} (h : permAny l k = some r) (hp : p.Perm l) : k p = some r := (pickAny_some h).2 p (perms_mem.2 hp)
theorem permAny_of {α R : Type} [DecidableEq R] {l : List α} {k : List α → Option R} {r : R} (h : ∀ p, p.Perm l → k p = some r) : permAny l k = some r :=
  pickAny_of (fun e => by have : l ∈ perms l := perms_mem.2 (.refl _); rw [e] at this; cases this) fun p hp => h p (perms_mem.1 hp)
end
/-! ### the entries in order of their keys -/
section
variable {V : Type}
def insK (p : Str × V) : List (Str × V) → List (Str × V)
  | [] => [p]
  | q :: r => if sLt p.1 q.1 then p :: q :: r else q :: insK p r
def canonL : List (Str × V) → List (Str × V)
  | [] => []
  | p :: r => insK p (canonL r)
def canon (m : GMap Str V) : GMap Str V := m.map canonL
theorem insK_perm (p : Str × V) : ∀ l : List (Str × V), (insK p l).Perm (p :: l)
  | [] => .refl _
  | q :: r => by
    unfold insK
    split
    · exact .refl _
    · exact ((insK_perm p r).cons q).trans (.swap p q r)
theorem canonL_perm : ∀ l : List (Str × V), (canonL l).Perm l
  | [] => .refl _
  | p :: r => (insK_perm p (canonL r)).trans ((canonL_perm r).cons p)
theorem canon_mperm (m : GMap Str V) : mperm m (canon m) := by
  cases m with
  | none => trivial
  | some l => exact (canonL_perm l).symm
end
end Go.KW
