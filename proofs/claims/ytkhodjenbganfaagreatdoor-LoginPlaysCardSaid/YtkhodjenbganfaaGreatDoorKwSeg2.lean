/- Regions that draw their order, whatever is written in them: an operation that looks only at blocks that no operation of the region touches may be taken first; of the others each that may come up is looked at. -/
import Derived.Test.YtkhodjenbganfaaGreatDoorKwSeg
import Derived.OrdersHeld
set_option linter.unusedSectionVars false
set_option linter.unusedVariables false
set_option linter.unusedSimpArgs false
namespace Go.KW
open Go Go.RowKit

def mask (ops : Array Oper) (done : List Nat) : Array Bool := Array.ofFn (n := ops.size) fun i => done.contains i.val
section
variable {P : Program} {ops : Array Oper} {md : Region.Mode} {done : List Nat}
theorem mask_set {i : Nat} : (mask ops done).setIfInBounds i true = mask ops (i :: done) := by
 apply Array.ext
 ·simp [mask]
 ·intro j h1 h2
  rw [Array.getElem_setIfInBounds]
  ·simp only [mask, Array.getElem_ofFn]
   by_cases e : i = j
   ·subst e; simp
   ·have e' : ¬ j = i := fun h => e h.symm
    simp [e, e']
  ·simpa [mask] using h1
theorem mask_nil : mask ops [] = Array.replicate ops.size false := by
 apply Array.ext
 ·simp [mask]
 ·intro i h1 h2; simp [mask]
def wpAnyJ (P : Program) (md : Region.Mode) (ops : Array Oper) (Q : Exit → Act → World → Prop) (S : World → Prop) (c : Nat) : Nat → Array Bool → Act → World → Prop
 | 0, listed, a, w => Region.ready md ops listed = [] ∧ Q .normal a w
 | fuel + 1, listed, a, w =>
  (Region.ready md ops listed = [] → Q .normal a w) ∧
  ∀ i ∈ Region.ready md ops listed, wpOp P ops Q i (fun a' w' => (i < c → S w') ∧ wpAnyJ P md ops Q S c fuel (listed.setIfInBounds i true) a' w') a w
theorem wpAny_of_J {Q : Exit → Act → World → Prop} {S : World → Prop} {c : Nat} : ∀ (fuel : Nat) (listed : Array Bool) (a : Act) (w : World), wpAnyJ P md ops Q S c fuel listed a w → wpAny P md ops Q fuel listed a w
 | 0, _, _, _, h => h
 | fuel + 1, _, _, _, h => ⟨h.1, fun i hi => wpOp_mono (fun a' w' h' => wpAny_of_J fuel _ a' w' h'.2) (h.2 i hi)⟩
theorem wpAnyJ_mono {Q : Exit → Act → World → Prop} {S S' : World → Prop} {c : Nat} (h : ∀ w, S w → S' w) : ∀ (fuel : Nat) (listed : Array Bool) (a : Act) (w : World), wpAnyJ P md ops Q S c fuel listed a w → wpAnyJ P md ops Q S' c fuel listed a w
 | 0, _, _, _, hh => hh
 | fuel + 1, _, _, _, hh => ⟨hh.1, fun i hi => wpOp_mono (fun a' w' h' => ⟨fun hc => h _ (h'.1 hc), wpAnyJ_mono h fuel _ a' w' h'.2⟩) (hh.2 i hi)⟩
theorem wpAnyJ_first {Q : Exit → Act → World → Prop} {S : World → Prop} {c i : Nat} {oi : Oper} {v : Value} (hi : ops[i]? = some oi) (hsel : ∀ (j : Nat) (o : Oper) cs b, ops[j]? = some o → o.op ≠ .select cs b)
  (hQ : ∀ c a w, Q (.panic c) (a.put oi.dst v) w → Q (.panic c) a w) (hc : ∀ j, c ≤ j → j < ops.size → Region.waitsFor md ops j i = true) (hic : i < c) :
  ∀ (fuel : Nat) (listed : Array Bool) (a : Act) (w : World),
   (∀ j oj, ops[j]? = some oj → j ≠ i → listed.getD j true = false → (∀ e ∈ oj.after, Region.binds md e = true → e.on ≠ i) → oi.apart ops oj = true) →
   i ∈ Region.ready md ops listed → YieldsIf P ops S oi v a → S w →
   wpAnyJ P md ops Q S c fuel (listed.setIfInBounds i true) (a.put oi.dst v) w → wpAnyJ P md ops Q S c (fuel + 1) listed a w := by
 intro fuel
 induction fuel with
 | zero =>
  intro listed a w _ hr hy hS H
  refine ⟨fun h => (by rw [h] at hr; cases hr), fun j hj => ?_⟩
  by_cases hji : j = i
  ·subst hji; exact hy.wpOp hi hS ⟨fun _ => hS, H⟩
  ·have := ready_mono hj hji
   rw [H.1] at this
   cases this
 | succ fuel ih =>
  intro listed a w hfree hr hy hS H
  refine ⟨fun h => (by rw [h] at hr; cases hr), fun j hj => ?_⟩
  by_cases hji : j = i
  ·subst hji; exact hy.wpOp hi hS ⟨fun _ => hS, H⟩
  ·have h1 := H.2 j (ready_mono hj hji)
   obtain ⟨hjun, oj, hoj, hall⟩ := mem_ready.1 hj
   have hnot : ∀ e ∈ oj.after, Region.binds md e = true → e.on ≠ i := fun e he hb heq => by
    have h1 := hall e he hb
    have h0 := (mem_ready.1 hr).1
    rw [heq] at h1
    rcases Nat.lt_or_ge i listed.size with h' | h'
    ·simp [h'] at h0 h1; rw [h0] at h1; cases h1
    ·simp [Array.getElem?_eq_none h'] at h1
   have hjc : j < c := by
    rcases Nat.lt_or_ge j c with h | h
    ·exact h
    ·obtain ⟨o', ho', e, he, hb, hon⟩ := Region.waitsFor_spec (hc j h (Array.getElem?_eq_some_iff.1 hoj).1)
     have : o' = oj := Option.some.inj (ho'.symm.trans hoj)
     subst this
     exact absurd hon (hnot e he hb)
   have h2 := wpOp_putIf hoj (hfree j oj hoj hji hjun hnot) (fun cs b => hsel i oi cs b hi) (fun cs b => hsel j oj cs b hoj) hQ hy h1
   have hfree' : ∀ k ok, ops[k]? = some ok → k ≠ i → (listed.setIfInBounds j true).getD k true = false →
     (∀ e ∈ ok.after, Region.binds md e = true → e.on ≠ i) → oi.apart ops ok = true := fun k ok hk hki hun hno => by
    refine hfree k ok hk hki ?_ hno
    by_cases hjk : j = k
    ·subst hjk; exact hjun
    ·rw [getD_set_ne true hjk] at hun; exact hun
   refine wpOp_mono (fun a' w' h3 => ⟨h3.2.1, ih (listed.setIfInBounds j true) a' w' hfree' (ready_mono hr (Ne.symm hji)) h3.1 (h3.2.1 hjc) ?_⟩) h2
   rw [Array.setIfInBounds_comm _ _ hji]
   exact h3.2.2
end

def Sj (ρ : Tags) (w : World) (J : Nat → Bool) : World → Prop := fun w1 => ∃ ρ1, Tr ρ w J ρ1 w1
def lateB (ops : Array Oper) (c i : Nat) : Bool := decide (i < c) && (List.range ops.size).all fun j => decide (j < c) || Region.waitsFor .any ops j i
theorem lateB_spec {ops : Array Oper} {c i : Nat} (h : lateB ops c i = true) : (∀ j, c ≤ j → j < ops.size → Region.waitsFor .any ops j i = true) ∧ i < c := by
 simp only [lateB, Bool.and_eq_true, decide_eq_true_eq] at h
 refine ⟨fun j hj hjs => ?_, h.1⟩
 have := List.all_eq_true.1 h.2 j (List.mem_range.2 hjs)
 simp only [Bool.or_eq_true, decide_eq_true_eq] at this
 rcases this with h1 | h1
 ·omega
 ·exact h1
def DJ (P : Program) (Qr : Exit → Act → World → Prop) (n : Nat) (ops : Array Oper) (J : Nat → Bool) (c : Nat) (done : List Nat) (l : Env) (ρ : Tags) (w : World) : Prop :=
 ∀ a, At n l a → wpAnyJ P .any ops Qr (Sj ρ w J) c (ops.size - done.length) (mask ops done) a w
section
variable {P : Program} {f : FuncId} {R : Ending → World → Prop} {n : Nat} {k : List Item} {Qr : Exit → Act → World → Prop} {l : Env} {ρ : Tags} {w : World} {ops : Array Oper} {J : Nat → Bool} {c : Nat} {done : List Nat}

theorem ke_region_j {i : Nat} {os : List Oper} (J : Nat → Bool) (c : Nat) (hm : P.follows .mixedOrders = true) (h : ∀ w', Below w.heap.size w w' → DJ P (kq P f R k) n os.toArray J c [] l ρ w') : KE P f R n (.code (.region i os.toArray true) :: k) l w := by
 intro a ha
 refine kwp_of_wp (wp_region_any hm ?_)
 have := h { w with drawn := w.drawn + 1 } ⟨rfl, rfl, rfl, Nat.le_refl _, fun _ _ => rfl⟩ a ha
 rw [mask_nil] at this
 exact wpAny_of_J _ _ _ _ (by simpa using this)
theorem dj_done (hd : done.length = ops.size) (hr : (Region.ready .any ops (mask ops done)).isEmpty = true) (h : KE P f R n k l w) : DJ P (kq P f R k) n ops J c done l ρ w := by
 intro a ha
 rw [hd, Nat.sub_self]
 exact ⟨by simpa using hr, h a ha⟩
theorem dj_H (i : Nat) {d : Nat} {o : Op} {t : TypeId} {pos : String} {after : Array Edge} {v : Value} (hsel : Region.noSelect ops = true) (hB : ((Region.ready .any ops (mask ops done)).contains i && Region.free .any ops (mask ops done) i && decide (done.length < ops.size) && lateB ops c i) = true)
  (ho : ops[i]? = some ⟨some d, o, t, pos, after, none⟩) (hQ : ∀ c a w, Qr (.panic c) a w → False) (hS : Sj ρ w J w) (hv : ∀ w1 ρ1, Tr ρ w J ρ1 w1 → Ev P l o t w1 v) (hd : d < n) (h : DJ P Qr n ops J c (i :: done) (l.put d v) ρ w) : DJ P Qr n ops J c done l ρ w := by
 intro a ha
 simp only [Bool.and_eq_true, decide_eq_true_eq] at hB
 rw [show ops.size - done.length = ops.size - (i :: done).length + 1 by simp; omega]
 refine wpAnyJ_first ho (Region.noSelect_spec hsel) (fun c a w hq => (hQ _ _ _ hq).elim) (lateB_spec hB.2).1 (lateB_spec hB.2).2 _ _ a w (Region.free_spec ho hB.1.1.2) (by simpa using hB.1.1.1) (.inl ⟨rfl, fun w1 ⟨ρ1, hw1⟩ => hv w1 ρ1 hw1 a n _ _ _ _ ha⟩) hS ?_
 rw [mask_set]
 exact h _ (ha.put v hd)
def Kj (P : Program) (Qr : Exit → Act → World → Prop) (ops : Array Oper) (J : Nat → Bool) (c i : Nat) (done : List Nat) (ρ : Tags) (w : World) : Act → World → Prop :=
 fun a w' => (i < c → Sj ρ w J w') ∧ wpAnyJ P .any ops Qr (Sj ρ w J) c (ops.size - done.length) (mask ops done) a w'
theorem dj_all (rs : List Nat) (hB : (Region.ready .any ops (mask ops done) == rs && !rs.isEmpty && decide (done.length < ops.size)) = true)
  (h : ∀ i ∈ rs, ∃ o, ops[i]? = some o ∧ SR P (qn (Kj P Qr ops J c i (i :: done) ρ w)) n ops [o] l w) : DJ P Qr n ops J c done l ρ w := by
 intro a ha
 simp only [Bool.and_eq_true, decide_eq_true_eq, beq_iff_eq, Bool.not_eq_true'] at hB
 obtain ⟨⟨hr, hne⟩, hlt⟩ := hB
 rw [show ops.size - done.length = ops.size - (0 :: done).length + 1 by simp; omega]
 refine ⟨fun h0 => (by rw [h0] at hr; subst hr; simp at hne), fun i hi => ?_⟩
 rw [hr] at hi
 obtain ⟨o, ho, hsr⟩ := h i hi
 rw [mask_set]
 have := hsr a ha
 unfold wpOp
 simp only [ho]
 simp only [wpList] at this
 split
 ·rename_i hw
  simp only [hw, if_true] at this
  rcases this with h1 | ⟨_, a', w', h2⟩
  ·exact .inl (wp_of_qn h1)
  ·exact h2.elim
 ·rename_i hw
  simp only [hw] at this
  exact this
theorem dj_E (i : Nat) {o : Oper} (hB : (Region.ready .any ops (mask ops done) == [i] && decide (done.length < ops.size)) = true) (ho : ops[i]? = some o) (h : SR P (qn (Kj P Qr ops J c i (i :: done) ρ w)) n ops [o] l w) : DJ P Qr n ops J c done l ρ w :=
 dj_all [i] (by simpa using hB) fun j hj => by
  have : j = i := by simpa using hj
  subst this
  exact ⟨o, ho, h⟩
theorem dj_next {i : Nat} {l' : Env} {rest : List Oper} {J' : Nat → Bool} {ρ' : Tags} {w' : World} (hr : rest = []) (hs : Env.sub l' l) (htr : Tr ρ w J' ρ' w') (hJ : ∀ t, J t = false → J' t = false) (h0 : J 0 = false) (h1 : J 1 = false)
  (h : DJ P Qr n ops J c done l' ρ' w') : SR P (qn (Kj P Qr ops J c i done ρ w)) n ops rest l w' := by
 subst hr
 intro a ha
 have ht := htr.weak hJ h0 h1
 refine ⟨fun _ => ⟨ρ', ht⟩, wpAnyJ_mono (fun w1 ⟨ρ1, hw1⟩ => ⟨ρ1, (ht.trans hw1).weak (fun t h => by simp [h]) h0 h1⟩) _ _ _ _ (h a (ha.weaken hs))⟩
theorem sj_refl (hbd : ∀ b, ρ b ≠ 0 → b < w.heap.size) (h0 : J 0 = false) (h1 : J 1 = false) : Sj ρ w J w := ⟨ρ, (Tr.refl hbd).weak (fun _ _ => rfl) h0 h1⟩
theorem dj_h (i : Nat) (v : Value) {d : Nat} {o : Op} {t : TypeId} {pos : String} {after : Array Edge} (hbd : ∀ b, ρ b ≠ 0 → b < w.heap.size) (ho : ops[i]? = some ⟨some d, o, t, pos, after, none⟩) (hv : ∀ w1 ρ1, Tr ρ w J ρ1 w1 → Ev P l o t w1 v)
  (h : DJ P Qr n ops J c (i :: done) (l.put d v) ρ w) (hsel : Region.noSelect ops = true := by as_aux_lemma => kernel_rfl) (hB : ((Region.ready .any ops (mask ops done)).contains i && Region.free .any ops (mask ops done) i && decide (done.length < ops.size) && lateB ops c i) = true := by as_aux_lemma => kernel_rfl)
  (hQ : ∀ c a w, Qr (.panic c) a w → False := by exact fun _ _ _ h => h) (h0 : J 0 = false := by rfl) (h1 : J 1 = false := by rfl) (hd : d < n := by decide) : DJ P Qr n ops J c done l ρ w :=
 dj_H i hsel hB ho hQ (sj_refl hbd h0 h1) hv hd h
end
end Go.KW
