/- Regions that draw their order and in which something is written: what is written lies between what is not, in every order. -/
import Derived.Test.YtmdbnoopcdpomaaGreatDoorKwTag
import Derived.StillTail
set_option linter.unusedSectionVars false
set_option linter.unusedVariables false
set_option linter.unusedSimpArgs false
namespace Go.KW
open Go Go.RowKit

/-- the first m operations have come up -/
def pre (ops : Array Oper) (m : Nat) : Array Bool := Array.ofFn (n := ops.size) fun i => decide (i.val < m)
section
variable {P : Program} {ops : Array Oper} {md : Region.Mode} {m n : Nat}
theorem pre_size : (pre ops m).size = ops.size := by simp [pre]
theorem pre_getD {i : Nat} {b : Bool} : (pre ops m).getD i b = if i < ops.size then decide (i < m) else b := by
  by_cases h : i < ops.size
  · simp [pre, h]
  · simp [pre, h]
theorem pre_set : (pre ops m).setIfInBounds m true = pre ops (m + 1) := by
  apply Array.ext
  · simp [pre]
  · intro i h1 h2
    rw [Array.getElem_setIfInBounds]
    · simp only [pre, Array.getElem_ofFn]
      split
      · rename_i e; subst e; simp
      · rename_i e; simp; omega
    · simpa [pre] using h1
theorem pre_zero : pre ops 0 = Array.replicate ops.size false := by
  apply Array.ext
  · simp [pre]
  · intro i h1 h2; simp [pre]

/-- what is asked of the operations from m on before n, none of which writes -/
def closedB (md : Region.Mode) (ops : Array Oper) (m : Nat) : Bool :=
  (List.range ops.size).all fun j => !decide (j < m) || match ops[j]? with
    | some o => o.after.all fun e => !Region.binds md e || (pre ops m).getD e.on false
    | none => true
def sinkC (md : Region.Mode) (ops : Array Oper) (m n : Nat) : Bool :=
  decide (ops.size ≤ n) || ((List.range n).all fun i => decide (i < m) || (List.range (n + 1)).any fun j => decide (i < j) && Region.waitsFor md ops j i)
def chainC (md : Region.Mode) (ops : Array Oper) (n : Nat) : Bool :=
  (List.range ops.size).all fun t => decide (t ≤ n) || (List.range t).any fun j => decide (n ≤ j) && Region.waitsFor md ops t j
def lexC (md : Region.Mode) (ops : Array Oper) : Nat → Nat → Bool
  | 0, _ => true
  | f + 1, k => (Region.ready md ops (pre ops k)).contains k && Region.free md ops (pre ops k) k && lexC md ops f (k + 1)
/-- the other way: the last of them stands behind the others, and what comes then behind it -/
def sinkD (md : Region.Mode) (ops : Array Oper) (m n : Nat) : Bool :=
  (List.range (n - 1)).all fun i => decide (i < m) || (List.range n).any fun j => decide (i < j) && Region.waitsFor md ops j i
def chainD (md : Region.Mode) (ops : Array Oper) (n : Nat) : Bool :=
  (List.range ops.size).all fun t => decide (t < n) || Region.waitsFor md ops t (n - 1) || (List.range t).any fun j => decide (n ≤ j) && Region.waitsFor md ops t j
def quietB (md : Region.Mode) (ops : Array Oper) (m n : Nat) : Bool :=
  Region.noSelect ops && decide (m ≤ n) && decide (n ≤ ops.size) && closedB md ops m && (sinkC md ops m n && chainC md ops n || sinkD md ops m n && chainD md ops n) && lexC md ops (n - m) m
/-- before all from m on before n have come up, nothing from n on may -/
def Cut (md : Region.Mode) (ops : Array Oper) (m n : Nat) : Prop :=
  ∀ listed, HeadInv md ops n listed → (∀ i, i < m → i < ops.size → listed.getD i true = true) → ∀ i, i < n → i < ops.size → listed.getD i true = false → ∀ t, n ≤ t → t ∉ Region.ready md ops listed

theorem inv_pre (h : closedB md ops m = true) (hmn : m ≤ n) : HeadInv md ops n (pre ops m) := by
  refine ⟨pre_size, fun j oj hj hl e he hb => ?_, fun t ht hts => ?_⟩
  · have hjs := (Array.getElem?_eq_some_iff.1 hj).1
    rw [pre_getD, if_pos hjs] at hl
    have h1 := List.all_eq_true.1 h j (List.mem_range.2 hjs)
    rw [hl] at h1
    simp only [Bool.not_true, Bool.false_or, hj] at h1
    have h2 := Array.all_eq_true'.1 h1 e he
    simpa [hb] using h2
  · rw [pre_getD, if_pos hts]; simp; omega
/-- before all from m on before n have come up, nothing from n on may -/
theorem cut_waits {listed : Array Bool} (hs : sinkC md ops m n = true) (hc : chainC md ops n = true) (inv : HeadInv md ops n listed) (hlow : ∀ i, i < m → i < ops.size → listed.getD i true = true) :
    ∀ (d i : Nat), n - i = d → i < n → i < ops.size → listed.getD i true = false → ∀ t, n ≤ t → t ∉ Region.ready md ops listed := by
  intro d
  induction d using Nat.strongRecOn with
  | _ d ih =>
    intro i hd hi his hun t ht hr
    obtain ⟨_, ot, hot, hall⟩ := mem_ready.1 hr
    have htlt : t < ops.size := (Array.getElem?_eq_some_iff.1 hot).1
    by_cases htn : t = n
    · subst htn
      simp only [sinkC, Bool.or_eq_true, decide_eq_true_eq] at hs
      rcases hs with hs | hs
      · omega
      have h1 := List.all_eq_true.1 hs i (List.mem_range.2 hi)
      simp only [Bool.or_eq_true, decide_eq_true_eq] at h1
      rcases h1 with h1 | h1
      · rw [hlow i h1 his] at hun; cases hun
      obtain ⟨j, hj, hj2⟩ := List.any_eq_true.1 h1
      simp only [Bool.and_eq_true, decide_eq_true_eq] at hj2
      obtain ⟨oj, hoj, e, he, hb, hon⟩ := Region.waitsFor_spec hj2.2
      have hjle : j ≤ t := by have := List.mem_range.1 hj; omega
      by_cases hjt : j = t
      · subst hjt
        have : oj = ot := Option.some.inj (hoj.symm.trans hot)
        subst this
        have h2 := hall e he hb
        rw [hon, getD_both hun] at h2
        cases h2
      · cases hl : listed.getD j false with
        | true =>
          have h2 := inv.closed j oj hoj hl e he hb
          rw [hon, getD_both hun] at h2
          cases h2
        | false =>
          have hjs : j < listed.size := by rw [inv.size]; omega
          exact ih (t - j) (by omega) j rfl (by omega) (by omega) (getD_in hjs hl) t (Nat.le_refl _) hr
    · have h1 := List.all_eq_true.1 hc t (List.mem_range.2 htlt)
      simp only [Bool.or_eq_true, decide_eq_true_eq] at h1
      rcases h1 with h1 | h1
      · omega
      · obtain ⟨j, hj, hj2⟩ := List.any_eq_true.1 h1
        simp only [Bool.and_eq_true, decide_eq_true_eq] at hj2
        have hjt := List.mem_range.1 hj
        obtain ⟨o', ho', e, he, hb, hon⟩ := Region.waitsFor_spec hj2.2
        have : o' = ot := Option.some.inj (ho'.symm.trans hot)
        subst this
        have h2 := hall e he hb
        rw [hon, getD_both (inv.tail j hj2.1 (by omega))] at h2
        cases h2

theorem cut_D (hs : sinkD md ops m n = true) (hc : chainD md ops n = true) : Cut md ops m n := by
  intro listed inv hlow i hi his hun t ht hr
  -- the last of them has not come up
  have hlast : ∀ (d i : Nat), n - i = d → i < n → i < ops.size → listed.getD i true = false → n - 1 < ops.size → listed.getD (n - 1) true = false := by
    intro d
    induction d using Nat.strongRecOn with
    | _ d ih =>
      intro i hd hi his hun hns
      by_cases e : i = n - 1
      · rw [← e]; exact hun
      · have h1 := List.all_eq_true.1 hs i (List.mem_range.2 (by omega))
        simp only [Bool.or_eq_true, decide_eq_true_eq] at h1
        rcases h1 with h1 | h1
        · rw [hlow i h1 his] at hun; cases hun
        obtain ⟨j, hj, hj2⟩ := List.any_eq_true.1 h1
        simp only [Bool.and_eq_true, decide_eq_true_eq] at hj2
        have hjn := List.mem_range.1 hj
        obtain ⟨oj, hoj, e', he, hb, hon⟩ := Region.waitsFor_spec hj2.2
        have hjs : j < ops.size := (Array.getElem?_eq_some_iff.1 hoj).1
        cases hl : listed.getD j false with
        | true =>
          have h2 := inv.closed j oj hoj hl e' he hb
          rw [hon, getD_both hun] at h2
          cases h2
        | false => exact ih (n - j) (by omega) j rfl hjn hjs (getD_in (by rw [inv.size]; exact hjs) hl) hns
  obtain ⟨_, ot, hot, hall⟩ := mem_ready.1 hr
  have htlt : t < ops.size := (Array.getElem?_eq_some_iff.1 hot).1
  have hl := hlast _ i rfl hi his hun (by omega)
  have h1 := List.all_eq_true.1 hc t (List.mem_range.2 htlt)
  simp only [Bool.or_eq_true, decide_eq_true_eq] at h1
  rcases h1 with (h1 | h1) | h1
  · omega
  · obtain ⟨o', ho', e, he, hb, hon⟩ := Region.waitsFor_spec h1
    have : o' = ot := Option.some.inj (ho'.symm.trans hot)
    subst this
    have h2 := hall e he hb
    rw [hon, getD_both hl] at h2
    cases h2
  · obtain ⟨j, hj, hj2⟩ := List.any_eq_true.1 h1
    simp only [Bool.and_eq_true, decide_eq_true_eq] at hj2
    have hjt := List.mem_range.1 hj
    obtain ⟨o', ho', e, he, hb, hon⟩ := Region.waitsFor_spec hj2.2
    have : o' = ot := Option.some.inj (ho'.symm.trans hot)
    subst this
    have h2 := hall e he hb
    rw [hon, getD_both (inv.tail j hj2.1 (by omega))] at h2
    cases h2
theorem cut_C (hs : sinkC md ops m n = true) (hc : chainC md ops n = true) : Cut md ops m n := fun _ inv hlow i hi his hun t ht => cut_waits hs hc inv hlow _ i rfl hi his hun t ht

variable {C : World → Prop}
def wpAnyQL (P : Program) (md : Region.Mode) (ops : Array Oper) (C : World → Prop) (n : Nat) (L : Array Bool → Act → Prop) : Nat → Array Bool → Act → Prop
  | 0, listed, a => L listed a
  | f + 1, listed, a =>
    Region.ready md ops listed ≠ [] ∧ ∀ i ∈ Region.ready md ops listed, i < n ∧ qOp P ops C i (wpAnyQL P md ops C n L f (listed.setIfInBounds i true)) a
theorem wpAny_of_headQ {g : Nat} {L : Array Bool → Act → Prop} {Q' : Exit → Act → World → Prop} (hL : ∀ listed a w, C w → L listed a → wpAny P md ops Q' g listed a w) :
    ∀ (f : Nat) (listed : Array Bool) (a : Act) (w : World), C w → wpAnyQL P md ops C n L f listed a → wpAny P md ops Q' (f + g) listed a w
  | 0, listed, a, w, hC, h => by rw [Nat.zero_add]; exact hL _ _ _ hC h
  | f + 1, listed, a, w, hC, h => by
    rw [show f + 1 + g = (f + g) + 1 by omega]
    exact ⟨fun h0 => absurd h0 h.1, fun i hi => wpOp_of_qOp hC (fun a' w' hw' h' => wpAny_of_headQ hL f _ a' w' hw' h') (h.2 i hi).2⟩
theorem low_set {listed : Array Bool} {i : Nat} (hlow : ∀ i, i < m → i < ops.size → listed.getD i true = true) : ∀ k, k < m → k < ops.size → (listed.setIfInBounds i true).getD k true = true := by
  intro k hk hks
  by_cases e : i = k
  · subst e
    by_cases h : i < listed.size <;> simp [h]
  · rw [getD_set_ne true e]; exact hlow k hk hks
theorem wpAnyQL_first {i : Nat} {oi : Oper} {v : Value} {L : Array Bool → Act → Prop} (hi : ops[i]? = some oi) (hsel : ∀ (j : Nat) (o : Oper) cs b, ops[j]? = some o → o.op ≠ .select cs b)
    (hcut : Cut md ops m n) (hin : i < n)
    (hdone : ∀ listed a, L listed a → ∀ j ∈ Region.ready md ops listed, n ≤ j) :
    ∀ (f : Nat) (listed : Array Bool) (a : Act), HeadInv md ops n listed → (∀ i, i < m → i < ops.size → listed.getD i true = true) →
      (∀ j oj, ops[j]? = some oj → j ≠ i → listed.getD j true = false → (∀ e ∈ oj.after, Region.binds md e = true → e.on ≠ i) → oi.apart ops oj = true) →
      i ∈ Region.ready md ops listed → YieldsIn P ops C oi v a →
      wpAnyQL P md ops C n L f (listed.setIfInBounds i true) (a.put oi.dst v) → wpAnyQL P md ops C n L (f + 1) listed a := by
  intro f
  have his : i < ops.size := (Array.getElem?_eq_some_iff.1 hi).1
  induction f with
  | zero =>
    intro listed a inv hlow _ hr hy H
    have hun := (mem_ready.1 hr).1
    refine ⟨fun h => (by rw [h] at hr; cases hr), fun j hj => ?_⟩
    have hjn : j < n := by
      rcases Nat.lt_or_ge j n with h | h
      · exact h
      · exact absurd hj (hcut _ inv hlow i hin his hun j h)
    refine ⟨hjn, ?_⟩
    by_cases hji : j = i
    · subst hji; exact hy.qOp hi H
    · have := hdone _ _ H j (ready_mono hj hji)
      omega
  | succ f ih =>
    intro listed a inv hlow hfree hr hy H
    have hun := (mem_ready.1 hr).1
    refine ⟨fun h => (by rw [h] at hr; cases hr), fun j hj => ?_⟩
    have hjn : j < n := by
      rcases Nat.lt_or_ge j n with h | h
      · exact h
      · exact absurd hj (hcut _ inv hlow i hin his hun j h)
    refine ⟨hjn, ?_⟩
    by_cases hji : j = i
    · subst hji; exact hy.qOp hi H
    · have h1 := (H.2 j (ready_mono hj hji)).2
      obtain ⟨hjun, oj, hoj, hall⟩ := mem_ready.1 hj
      have hnot : ∀ e ∈ oj.after, Region.binds md e = true → e.on ≠ i := fun e he hb heq => by
        have h1 := hall e he hb
        rw [heq, getD_both hun] at h1
        cases h1
      have h2 := qOp_put hoj (hfree j oj hoj hji hjun hnot) (fun cs b => hsel i oi cs b hi) (fun cs b => hsel j oj cs b hoj) hy h1
      have hfree' : ∀ k ok, ops[k]? = some ok → k ≠ i → (listed.setIfInBounds j true).getD k true = false →
          (∀ e ∈ ok.after, Region.binds md e = true → e.on ≠ i) → oi.apart ops ok = true := fun k ok hk hki hun hno => by
        refine hfree k ok hk hki ?_ hno
        by_cases hjk : j = k
        · subst hjk; exact hjun
        · rw [getD_set_ne true hjk] at hun; exact hun
      refine qOp_mono (fun a' h3 => ih (listed.setIfInBounds j true) a' (inv.set hj hjn) (low_set hlow) hfree' (ready_mono hr (Ne.symm hji)) h3.1 ?_) h2
      rw [Array.setIfInBounds_comm _ _ hji]
      exact h3.2
theorem ready_pre {j : Nat} (h : j ∈ Region.ready md ops (pre ops n)) : n ≤ j := by
  obtain ⟨h1, o, ho, _⟩ := mem_ready.1 h
  rw [pre_getD, if_pos (Array.getElem?_eq_some_iff.1 ho).1] at h1
  simpa using h1
theorem wpAnyQL_lex {Lq : Act → Prop} (hsel : Region.noSelect ops = true) (hcut : Cut md ops m n) (hcl : closedB md ops m = true) (hn : n ≤ ops.size) :
    ∀ (l : List Oper) (k : Nat) (a : Act), m ≤ k → (∀ j, j < l.length → l[j]? = ops[k + j]?) → k + l.length = n → HeadInv md ops n (pre ops k) →
    lexC md ops l.length k = true → wpQuiet P ops C Lq l a →
    wpAnyQL P md ops C n (fun listed' a' => listed' = pre ops n ∧ Lq a') l.length (pre ops k) a
  | [], k, a, _, _, hk, _, _, h => by
    have : k = n := by simpa using hk
    subst this
    exact ⟨rfl, h⟩
  | o :: l, k, a, hmk, hl, hk, inv, hB, h => by
    have h0 : ops[k]? = some o := by simpa using (hl 0 (by simp)).symm
    simp only [List.length_cons, lexC, Bool.and_eq_true] at hB
    obtain ⟨⟨hr, hf⟩, hB'⟩ := hB
    have hkn : k < n := by simp only [List.length_cons] at hk; omega
    have hr' : k ∈ Region.ready md ops (pre ops k) := by simpa using hr
    have hst : qOp P ops C k (wpQuiet P ops C Lq l) a := by unfold qOp; simp only [h0]; exact h
    obtain ⟨v, hy, hK⟩ := yieldsIn_of_qOp h0 hst
    refine wpAnyQL_first h0 (Region.noSelect_spec hsel) hcut hkn (fun listed' a' hL => by rw [hL.1]; exact fun j hj => ready_pre hj) l.length (pre ops k) a inv
      (fun i hi his => by rw [pre_getD, if_pos his]; simp; omega) (Region.free_spec h0 hf) hr' hy ?_
    have inv' := inv.set hr' hkn
    rw [pre_set] at inv' ⊢
    exact wpAnyQL_lex hsel hcut hcl hn l (k + 1) _ (by omega) (fun j hj => by have := hl (j + 1) (by simp; omega); simpa [Nat.add_assoc, Nat.add_comm 1 j] using this) (by simp only [List.length_cons] at hk; omega) inv' hB' hK
end

/-! ### stages -/
/-- the region from its operation m on -/
def DR (P : Program) (Qr : Exit → Act → World → Prop) (n : Nat) (ops : Array Oper) (m : Nat) (l : Env) (w : World) : Prop :=
  ∀ a, At n l a → wpAny P .any ops Qr (ops.size - m) (pre ops m) a w
/-- on with this at the normal end; no other end -/
def qn (K : Act → World → Prop) : Exit → Act → World → Prop
  | .normal, a, w => K a w
  | _, _, _ => False
section
variable {P : Program} {f : FuncId} {R : Ending → World → Prop} {n : Nat} {k : List Item} {Qr : Exit → Act → World → Prop} {l : Env} {w : World} {ops : Array Oper} {m m' : Nat}

theorem ke_region_d {i : Nat} {os : List Oper} (hm : P.follows .mixedOrders = true) (h : ∀ w', Below w.heap.size w w' → w'.heap = w.heap → DR P (kq P f R k) n os.toArray 0 l w') : KE P f R n (.code (.region i os.toArray true) :: k) l w := by
  intro a ha
  refine kwp_of_wp (wp_region_any hm ?_)
  have := h { w with drawn := w.drawn + 1 } ⟨rfl, rfl, rfl, Nat.le_refl _, fun _ _ => rfl⟩ rfl a ha
  rw [pre_zero] at this
  simpa using this
theorem dr_done (hm : m = ops.size) (h : KE P f R n k l w) : DR P (kq P f R k) n ops m l w := by
  intro a ha
  subst hm
  rw [Nat.sub_self]
  refine ⟨?_, h a ha⟩
  rw [← List.isEmpty_iff, ← Bool.not_eq_false]
  intro hne
  cases hr : Region.ready .any ops (pre ops ops.size) with
  | nil => rw [hr] at hne; cases hne
  | cons j js =>
    have hj : j ∈ Region.ready .any ops (pre ops ops.size) := by rw [hr]; simp
    have h1 := ready_pre hj
    obtain ⟨_, o, ho, _⟩ := mem_ready.1 hj
    have := (Array.getElem?_eq_some_iff.1 ho).1
    omega
/-- operations none of which writes -/
theorem dr_Q (m' : Nat) (hB : quietB .any ops m m' = true) (h : SQ P n w (fun a => ∀ w', Below w.heap.size w w' → wpAny P .any ops Qr (ops.size - m') (pre ops m') a w') ops ((ops.toList.drop m).take (m' - m)) l) : DR P Qr n ops m l w := by
  simp only [quietB, Bool.and_eq_true, decide_eq_true_eq] at hB
  obtain ⟨⟨⟨⟨⟨hsel, hmm⟩, hms⟩, hcl⟩, hsc⟩, hl⟩ := hB
  have hcut : Cut .any ops m m' := by
    simp only [Bool.or_eq_true, Bool.and_eq_true] at hsc
    rcases hsc with ⟨h1, h2⟩ | ⟨h1, h2⟩
    · exact cut_C h1 h2
    · exact cut_D h1 h2
  intro a ha
  have hlen : ((ops.toList.drop m).take (m' - m)).length = m' - m := by simp; omega
  have H := wpAnyQL_lex (P := P) (C := fun w' => Below w.heap.size w w') hsel hcut hcl hms ((ops.toList.drop m).take (m' - m)) m a (Nat.le_refl _) (fun j hj => by
    rw [List.getElem?_take, if_pos (by omega), List.getElem?_drop]; simp) (by rw [hlen]; omega) (inv_pre hcl hmm) (by rw [hlen]; exact hl) (h a ha)
  rw [hlen] at H
  have := wpAny_of_headQ (Q' := Qr) (g := ops.size - m') (fun listed a' w' hC hL => by rw [hL.1]; exact hL.2 w' hC) (m' - m) (pre ops m) a w (Below.refl _ _) H
  rw [show m' - m + (ops.size - m') = ops.size - m by omega] at this
  exact this
theorem sq_seg {l' : Env} {m' : Nat} (hs : Env.sub l' l) (h : ∀ w', Below w.heap.size w w' → DR P Qr n ops m' l' w') : SQ P n w (fun a => ∀ w', Below w.heap.size w w' → wpAny P .any ops Qr (ops.size - m') (pre ops m') a w') ops [] l :=
  fun a ha w' hw => h w' hw a (ha.weaken hs)
theorem wp_of_qn {o : Oper} {a : Act} {K : Act → World → Prop} (h : o.wp P a w K (qn K)) : o.wp P a w K Qr := by
  unfold Oper.wp at *
  generalize (execOp a.eval o).run P w = r at *
  cases r with
  | ok n w' =>
    cases n <;> simp only [Oper.upon] at h ⊢
    case value => exact h
    case skip => exact h
    case defer => exact h
    case enter f args =>
      refine Calls.mono h fun e w'' he => ?_
      cases e with
      | returned u => exact he
      | panicked c => exact (he : False).elim
      | outgrown => obtain ⟨_, _, h⟩ := he; exact (h : False).elim
    case row => exact h
    all_goals exact h
  | halt x w' => cases x <;> simp only [Oper.upon] at h ⊢ <;> first | exact h | exact h.elim
/-- one operation, whatever it does: in every order nothing else may come up -/
theorem dr_E {o : Oper} (hB : (Region.ready .any ops (pre ops m) == [m]) = true) (ho : ops[m]? = some o) (h : SR P (qn fun a w => wpAny P .any ops Qr (ops.size - (m + 1)) (pre ops (m + 1)) a w) n ops [o] l w) : DR P Qr n ops m l w := by
  intro a ha
  have hms := (Array.getElem?_eq_some_iff.1 ho).1
  have hr : Region.ready .any ops (pre ops m) = [m] := by simpa using hB
  rw [show ops.size - m = ops.size - (m + 1) + 1 by omega]
  refine ⟨fun h0 => (by rw [h0] at hr; cases hr), fun i hi => ?_⟩
  rw [hr] at hi
  have him : i = m := by simpa using hi
  subst him
  rw [pre_set]
  have := h a ha
  unfold wpOp
  simp only [ho]
  simp only [wpList] at this
  split
  · rename_i hw
    simp only [hw, if_true] at this
    rcases this with h1 | ⟨_, a', w', h2⟩
    · exact .inl (wp_of_qn h1)
    · exact h2.elim
  · rename_i hw
    simp only [hw] at this
    exact this
theorem dr_next {l' : Env} {rest : List Oper} (hr : rest = []) (hs : Env.sub l' l) (h : DR P Qr n ops (m + 1) l' w) : SR P (qn fun a w => wpAny P .any ops Qr (ops.size - (m + 1)) (pre ops (m + 1)) a w) n ops rest l w := by
  subst hr
  exact fun a ha => h a (ha.weaken hs)
/-- one operation that looks at no memory: it may be taken first -/
theorem dr_P {d : Nat} {o : Op} {t : TypeId} {pos : String} {after : Array Edge} {v : Value} (hsel : Region.noSelect ops = true) (hB : ((Region.ready .any ops (pre ops m)).contains m && Region.free .any ops (pre ops m) m) = true)
    (ho : ops[m]? = some ⟨some d, o, t, pos, after, none⟩) (hQ : ∀ c a w, Qr (.panic c) a w → False) (hv : ∀ w1, Ev P l o t w1 v) (hd : d < n) (h : DR P Qr n ops (m + 1) (l.put d v) w) : DR P Qr n ops m l w := by
  intro a ha
  have hms := (Array.getElem?_eq_some_iff.1 ho).1
  simp only [Bool.and_eq_true] at hB
  rw [show ops.size - m = ops.size - (m + 1) + 1 by omega]
  refine wpAny_first ho (Region.noSelect_spec hsel) (fun c a w hq => (hQ _ _ _ hq).elim) _ _ a w (Region.free_spec ho hB.2) (by simpa using hB.1) (.inl ⟨rfl, fun w1 => hv w1 a n _ _ _ _ ha⟩) ?_
  rw [pre_set]
  exact h _ (ha.put v hd)
theorem kq_no {c : List PanicEntry} {a : Act} {w : World} (h : kq P f R k (.panic c) a w) : False := h
end
end Go.KW
