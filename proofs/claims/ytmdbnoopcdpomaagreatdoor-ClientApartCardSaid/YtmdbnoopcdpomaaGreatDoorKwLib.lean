/- Scopes, guards struck off, rows made by make, and the contracts of Go's library in this calculus' words. -/
import Derived.Test.YtmdbnoopcdpomaaGreatDoorKwMore
import Derived.Scope
import Derived.Sort.OwnSorted
import Derived.Lib.Strings
import Derived.Lib.Bytealg
import Derived.Lib.Split
import Derived.Lib.Join
import Derived.Lib.SplitLaws
import Derived.Sort.Walk0
namespace Go.KW
open Go Go.RowKit

section
variable {P : Program} {f : FuncId} {R : Ending → World → Prop} {n : Nat} {k : List Item} {Qr : Exit → Act → World → Prop} {l : Env} {w : World} {ops : Array Oper} {rest : List Oper} {t : TypeId}

theorem ke_scope {c : Code} (h : KE P f R n (.code c :: .inScope c :: k) l w) : KE P f R n (.code (.scope c) :: k) l w :=
  fun a ha => kwp_step (h a ha) fun _ _ => step_scope
theorem ke_inScope {c : Code} (h : KE P f R n k l w) : KE P f R n (.inScope c :: k) l w := fun a ha => kwp_step (h a ha) fun _ _ => step_inScope

/-- a guard that is met is struck off -/
theorem sr_unguard {d : Option Tmp} {o : Op} {pos : String} {after : Array Edge} {j e : Nat} {b c : Bool} (he : (ops[j]?).bind (·.dst) = some e) (hb : l.get e = some (.bool c)) (hcb : c = b)
    (h : SR P Qr n ops (⟨d, o, t, pos, after, none⟩ :: rest) l w) : SR P Qr n ops (⟨d, o, t, pos, after, some (j, b)⟩ :: rest) l w := by
  intro a ha
  have hw : Region.wanted ⟨d, o, t, pos, after, some (j, b)⟩ (yielded ops a.tmps) = true := by
    simp [Region.wanted, yielded_of ha he hb, hcb]
  have h1 := h a ha
  simp only [wpList, wanted_none, if_true] at h1
  simp only [wpList, hw, if_true]
  exact h1

variable {T : Type} {c : Cdc T} {E : TypeId} {A : Nat → Prop} {xs : List T}

/-- make, of a length that is written down: read only -/
theorem sr_make {d : Nat} {U : TypeId} {m : Nat} {x y : Operand} {k1 k2 : IntKind} {cs : Array Value} {css : List (List Value)} {pos : String} {after : Array Edge}
    (hx : look l x = some (.int k1 m)) (hy : look l y = some (.int k2 m))
    (hrun : ∀ w, (Instr.makeSlice U (.int k1 m) (.int k2 m)).run P w = .ok (.slice (some ⟨w.heap.size, 0, none⟩) m m) (w.alloc (.cells cs E)))
    (hc : cs.toList = css.flatten) (hr : RdAll c A w css xs) (hm : xs.length = m) (hmx : m ≤ maxLen) (hlt : ∀ b, A b → b < w.heap.size) (hd : d < n)
    (hk : ∀ v' w', SlR c A w' v' xs → Below w.heap.size w w' → SR P Qr n ops rest (l.put d v') w') :
    SR P Qr n ops (⟨some d, .makeSlice U x y, t, pos, after, none⟩ :: rest) l w := by
  have hb := below_alloc w (.cells cs E)
  have hst : St A w A (w.alloc (.cells cs E)) := .of_below hb
  intro a ha
  refine wpl_of_run wanted_none (v := .slice (some ⟨w.heap.size, 0, none⟩) m m) (w' := w.alloc (.cells cs E)) ?_ (hk _ _ ?_ hb _ (ha.put _ hd))
  · simp only [execOp, ha.look hx, ha.look hy, Sem.run_bind, hrun, Result.andThen_ok, Sem.run_pure]
  · refine .inr ⟨w.heap.size, 0, m, cs, E, (0, 0), by rw [hm], fun h => by have := hlt _ h; omega, alloc_new w _, by omega, hmx, fun i x hx => ?_⟩
    have := (hr.step hst).get [] i x hx
    simpa [hc] using this
end

/-! ### the library -/
def lib_Contains (s t : Str) : Option Bool := chk (decide (s.length < 4294967281)) (some (Lib.contains s t))
theorem contains_ok {P : Program} {F gm : Nat}
    (h : ∀ (s t : ByteArray) (m : Int) (w : World), s.size < 4294967281 → w.cell? ⟨gm, 0, none⟩ = some (.int .i64 m) →
      Calls P F #[.string s, .string t] w fun e w' => e = .returned (.bool (Lib.contains s.data.toList t.data.toList)) ∧ w' = w)
    {w : World} (hm : ∃ m, w.cell? ⟨gm, 0, none⟩ = some (.int .i64 m)) {s t : Str} {r : Bool} (hS : lib_Contains s t = some r) :
    Calls P F #[str s, str t] w (Ret fun v w' => v = .bool r ∧ Below w.heap.size w w') := by
  obtain ⟨hk, hS⟩ := chk_some hS
  obtain ⟨m, hm⟩ := hm
  cases hS
  refine (h ⟨s.toArray⟩ ⟨t.toArray⟩ m w (by rw [str_size]; exact of_decide_eq_true hk) hm).mono ?_
  rintro e w' ⟨rfl, rfl⟩
  exact ⟨_, rfl, by simp, Below.refl _ _⟩

def lib_HasPrefix (s p : Str) : Option Bool := some (Lib.hasPrefix s p)

def lib_Split (s t : Str) : Option (List Str) := chk (decide (s.length < 4294967281) && decide (1 ≤ t.length)) (some (Lib.split s t))
theorem split_eq (s t : Str) : (Lib.splitB ⟨t.toArray⟩ 0 (Lib.countB ⟨s.toArray⟩ ⟨t.toArray⟩) ⟨s.toArray⟩).map Value.string = (Lib.split s t).map str := by
  have h := Lib.splitB_data ⟨t.toArray⟩ 0 (Lib.countB ⟨s.toArray⟩ ⟨t.toArray⟩) ⟨s.toArray⟩
  have e : Lib.split s t = (Lib.splitB ⟨t.toArray⟩ 0 (Lib.countB ⟨s.toArray⟩ ⟨t.toArray⟩) ⟨s.toArray⟩).map (·.data.toList) := by
    rw [h]; rfl
  rw [e, List.map_map]
  exact List.map_congr_left fun b _ => str_of b
theorem split_ok {P : Program} {F gm E : Nat}
    (h : ∀ (s t : ByteArray) (m : Int) (w : World), s.size < 4294967281 → w.cell? ⟨gm, 0, none⟩ = some (.int .i64 m) → 1 ≤ t.size →
      Calls P F #[.string s, .string t] w fun e w' => e = .returned (.slice (some ⟨w.heap.size, 0, none⟩) (Lib.countB s t + 1) (Lib.countB s t + 1)) ∧
        w' = w.alloc (.cells ((Lib.splitB t 0 (Lib.countB s t) s).map Value.string).toArray E))
    {w : World} {A : Nat → Prop} (hA : ∀ b, A b → b < w.heap.size) (hm : ∃ m, w.cell? ⟨gm, 0, none⟩ = some (.int .i64 m)) {s t : Str} {r : List Str} (hS : lib_Split s t = some r) :
    Calls P F #[str s, str t] w (Ret fun v w' => ∃ x1, v = x1 ∧ SlR strC A w' x1 r ∧ Below w.heap.size w w') := by
  obtain ⟨hk, hS⟩ := chk_some hS
  obtain ⟨m, hm⟩ := hm
  cases hS
  simp only [Bool.and_eq_true, decide_eq_true_eq] at hk
  refine (h ⟨s.toArray⟩ ⟨t.toArray⟩ m w (by rw [str_size]; exact hk.1) hm (by rw [str_size]; exact hk.2)).mono ?_
  rintro e w' ⟨rfl, rfl⟩
  refine ⟨_, rfl, _, rfl, ?_, below_alloc w _⟩
  have hlen : (Lib.split s t).length = Lib.countB ⟨s.toArray⟩ ⟨t.toArray⟩ + 1 := by
    have h1 := Lib.splitB_all ⟨t.toArray⟩ (by rw [str_size]; exact hk.2) 0 _ ⟨s.toArray⟩ rfl
    have h2 := congrArg List.length (split_eq s t)
    simp only [List.length_map] at h2
    omega
  rw [split_eq, ← hlen]
  refine .inr ⟨w.heap.size, 0, (Lib.split s t).length, ((Lib.split s t).map str).toArray, E, (0, 0), rfl, fun h => by have := hA _ h; omega, alloc_new w _, Nat.le_refl _, ?_, fun i x hx => ?_⟩
  · have h3 := Lib.countB_le ⟨t.toArray⟩ (by rw [str_size]; exact hk.2) _ ⟨s.toArray⟩ (Nat.le_refl _)
    rw [str_size] at h3
    unfold maxLen
    omega
  · show seg _ _ _ = [str x]
    have h4 : ((Lib.split s t).map str)[i]? = some (str x) := by simp [hx]
    show ((((Lib.split s t).map str).toArray.toList).drop (0 + i * 1)).take 1 = [str x]
    obtain ⟨h5, h6⟩ := List.getElem?_eq_some_iff.1 h4
    have hd := List.drop_eq_getElem_cons h5
    rw [Nat.zero_add, Nat.mul_one, List.toList_toArray, hd, h6, List.take_succ_cons, List.take_zero]

def lib_Join (xs : List Str) (sep : Str) : Option Str := chk (decide ((Lib.join xs sep).length ≤ 140737488355328) && decide (xs.length ≤ 140737488355328)) (some (Lib.join xs sep))
theorem join_ok {P : Program} {F : Nat}
    (h0 : ∀ (p : Option Addr) (c : Nat) (sep : ByteArray) (w : World), Calls P F #[.slice p 0 c, .string sep] w fun e w' => e = .returned (.string ByteArray.empty) ∧ w' = w)
    (h : ∀ (bk o c : Nat) (xs : List ByteArray) (sep : ByteArray) (w : World), (∀ (j : Nat) x, xs[j]? = some x → w.cell? ⟨bk, o + j, none⟩ = some (.string x)) → bk < w.heap.size → xs.length ≤ 140737488355328 → xs.length ≤ c →
      (Lib.join (xs.map (·.data.toList)) sep.data.toList).length ≤ 140737488355328 →
      Calls P F #[.slice (some ⟨bk, o, none⟩) xs.length c, .string sep] w fun e w' => e = .returned (.string ⟨(Lib.join (xs.map (·.data.toList)) sep.data.toList).toArray⟩) ∧ Below w.heap.size w w')
    {w : World} {A : Nat → Prop} {xs : List Str} {v : Value} (hv : SlR strC A w v xs) {sep r : Str} (hS : lib_Join xs sep = some r) :
    Calls P F #[v, str sep] w (Ret fun u w' => u = str r ∧ Below w.heap.size w w') := by
  obtain ⟨hk, hS⟩ := chk_some hS
  cases hS
  simp only [Bool.and_eq_true, decide_eq_true_eq] at hk
  rcases hv with ⟨rfl, rfl | ⟨a0, cap0, rfl, hc0⟩⟩ | ⟨b, o, cap, cells, E, fr, rfl, hA, hb, hl, hc, hrd⟩
  · refine (h0 none 0 ⟨sep.toArray⟩ w).mono ?_
    rintro e w' ⟨rfl, rfl⟩
    exact ⟨_, rfl, rfl, Below.refl _ _⟩
  · refine (h0 (some a0) cap0 ⟨sep.toArray⟩ w).mono ?_
    rintro e w' ⟨rfl, rfl⟩
    exact ⟨_, rfl, rfl, Below.refl _ _⟩
  · have e1 : (xs.map fun x => (⟨x.toArray⟩ : ByteArray)).map (·.data.toList) = xs := by
      rw [List.map_map]; exact List.map_id'' (fun _ => rfl) xs
    have := h b o cap (xs.map fun x => ⟨x.toArray⟩) ⟨sep.toArray⟩ w ?_ (Array.getElem?_eq_some_iff.1 hb).1 (by simpa using hk.2) (by simpa using hl) (by rw [e1]; simpa using hk.1)
    · rw [List.length_map, e1] at this
      refine this.mono ?_
      rintro e w' ⟨rfl, hw⟩
      exact ⟨_, rfl, by simp [str], hw⟩
    · intro j x hx
      simp only [List.getElem?_map, Option.map_eq_some_iff] at hx
      obtain ⟨y, hy, rfl⟩ := hx
      have h1 : seg cells.toList (o + j * 1) 1 = [str y] := hrd j y hy
      have h2 := seg_get (j := 0) (u := str y) (by rw [h1]; rfl)
      simp only [World.cell?, hb]
      simpa [str] using h2

/-- sorted by insertion: what the library's sort makes of a list -/
def insS (x : Str) : List Str → List Str
  | [] => [x]
  | y :: r => if sLt y x then y :: insS x r else x :: y :: r
def sortS : List Str → List Str
  | [] => []
  | x :: r => insS x (sortS r)
theorem sLt_eq (x y : Str) : sLt x y = decide (x < y) := Go.Proofs.bytesLess_eq x y
theorem insS_perm (x : Str) : ∀ l : List Str, (insS x l).Perm (x :: l)
  | [] => .refl _
  | y :: r => by
    unfold insS
    split
    · exact ((insS_perm x r).cons y).trans (.swap x y r)
    · exact .refl _
theorem sortS_perm : ∀ l : List Str, (sortS l).Perm l
  | [] => .refl _
  | x :: r => (insS_perm x (sortS r)).trans ((sortS_perm r).cons x)
theorem str_le_total (x y : Str) : x ≤ y ∨ y ≤ x := List.le_total x y
theorem str_le_antisymm {x y : Str} (h : x ≤ y) (h' : y ≤ x) : x = y := List.le_antisymm h h'
theorem str_le_trans {x y z : Str} (h : x ≤ y) (h' : y ≤ z) : x ≤ z := List.le_trans h h'
theorem str_not_lt {x y : Str} : ¬ y < x ↔ x ≤ y := Iff.rfl
theorem insS_sorted (x : Str) : ∀ l : List Str, l.Pairwise (· ≤ ·) → (insS x l).Pairwise (· ≤ ·)
  | [], _ => by simp [insS]
  | y :: r, h => by
    obtain ⟨h1, h2⟩ := List.pairwise_cons.1 h
    unfold insS
    rw [sLt_eq]
    by_cases hy : y < x
    · rw [if_pos (decide_eq_true hy)]
      refine List.pairwise_cons.2 ⟨fun z hz => ?_, insS_sorted x r h2⟩
      rcases List.mem_cons.1 ((insS_perm x r).mem_iff.1 hz) with rfl | hz
      · rcases str_le_total y z with h | h
        · exact h
        · exact absurd hy (str_not_lt.2 h)
      · exact h1 z hz
    · rw [if_neg (by simpa using hy)]
      have hxy : x ≤ y := str_not_lt.1 hy
      refine List.pairwise_cons.2 ⟨fun z hz => ?_, h⟩
      rcases List.mem_cons.1 hz with rfl | hz
      · exact hxy
      · exact str_le_trans hxy (h1 z hz)
theorem sortS_sorted : ∀ l : List Str, (sortS l).Pairwise (· ≤ ·)
  | [] => List.Pairwise.nil
  | x :: r => insS_sorted x _ (sortS_sorted r)
theorem sorted_unique {a b : List Str} (h : a.Perm b) (ha : a.Pairwise (· ≤ ·)) (hb : b.Pairwise (· ≤ ·)) : a = b :=
  List.Perm.eq_of_pairwise (fun _ _ _ _ h1 h2 => str_le_antisymm h1 h2) ha hb h
theorem mergeSort_eq (l : List Str) : (l.mergeSort fun x y => decide (x ≤ y)) = sortS l := by
  refine sorted_unique ((List.mergeSort_perm l _).trans (sortS_perm l).symm) ?_ (sortS_sorted l)
  have h := List.pairwise_mergeSort (le := fun x y : Str => decide (x ≤ y)) (fun a b c h1 h2 => by simp only [decide_eq_true_eq] at *; exact str_le_trans h1 h2)
    (fun a b => by rcases str_le_total a b with h | h <;> simp [h]) l
  exact h.imp fun h => by simpa using h

def lib_Sort (xs : List Str) : Option (List Str) := chk (decide (xs.length < 4611686018427387904)) (some (sortS xs))
theorem sort_ok {P : Program} {F : Nat}
    (h0 : ∀ (p : Option Addr) (c : Nat) (w : World), Calls P F #[.slice p 0 c] w fun e w' => e = .returned (.tuple #[]) ∧ w' = w)
    (h : ∀ (blk off cap : Nat) (ss : List (List UInt8)) (w : World), Sort.Holds Go.Proofs.encStr w blk off ss.toArray → blk < w.heap.size → ss.length < 4611686018427387904 →
      Calls P F #[.slice (some ⟨blk, off, none⟩) ss.length cap] w fun e w' => e = .returned (.tuple #[]) ∧
        ∃ n os, w' = Sort.grow (Sort.putRow Go.Proofs.encStr (Sort.ahead w n) blk off (ss.mergeSort fun x y => decide (x ≤ y)).toArray) os)
    {w : World} {A : Nat → Prop} {B : Nat} {E : TypeId} {xs ys : List Str} {v : Value} (hv : OwnS strC E A B w v xs) (hB : B ≤ w.heap.size) (hS : lib_Sort xs = some ys) :
    Calls P F #[v] w (Ret fun u w' => u = .tuple #[] ∧ OwnS strC E A B w' v ys ∧ St A w A w' ∧ Below B w w' ∧ (∀ b, b < w.heap.size → v.ownBlock ≠ some b → w'.heap[b]? = w.heap[b]?)) := by
  obtain ⟨hk, hS⟩ := chk_some hS
  cases hS
  simp only [decide_eq_true_eq] at hk
  obtain ⟨cells, h1, h2, h3⟩ := hv
  have hcells : cells = xs.map str := by
    have hl : cells.length = xs.length := by have := h1.1; simpa [strC, Cdc.flat] using this
    apply List.ext_getElem? 
    intro i
    rw [List.getElem?_map]
    cases hx : xs[i]? with
    | none => rw [List.getElem?_eq_none_iff] at hx; simp; omega
    | some x =>
      have h4 : seg cells (i * 1) 1 = [str x] := h3 i x hx
      have h5 := seg_get (j := 0) (u := str x) (by rw [h4]; rfl)
      simpa using h5
  subst hcells
  rcases h1.2 with ⟨rfl, hn⟩ | ⟨g, cap, cur, rfl, hbg, hg, hnc, hcm, hcs, htake⟩
  · have : xs = [] := List.eq_nil_of_length_eq_zero hn
    subst this
    refine (h0 none 0 w).mono ?_
    rintro e w' ⟨rfl, rfl⟩
    exact ⟨_, rfl, rfl, OwnS.nil, ⟨fun _ _ _ => rfl, Nat.le_refl _, fun _ h => .inl h⟩, Below.refl _ _, fun _ _ _ => rfl⟩
  · have hlt := (Array.getElem?_eq_some_iff.1 hg).1
    have htake' : cur.toList.take xs.length = xs.map Go.Proofs.encStr := by
      have : xs.length * strC.size = xs.length := Nat.mul_one _
      rw [this] at htake; exact htake
    have hcs' : cur.size = cap * 1 := hcs
    refine (h g 0 cap xs w (Go.holds_of_block hg htake') hlt hk).mono ?_
    rintro e w' ⟨rfl, m, os, rfl⟩
    rw [mergeSort_eq]
    have hlen : (sortS xs).length = xs.length := (sortS_perm xs).length_eq
    have hown := Go.ownsRow_sorted (n := m) (os := os) hlen hbg hg hnc hcm hcs'
    have hgr : w.grownBy _ (some g) := Go.grownBy_sorted (n := m) (os := os) (sortS xs).toArray
    have hst : St A w A (Sort.grow (Sort.putRow Go.Proofs.encStr (Sort.ahead w m) g 0 (sortS xs).toArray) os) :=
      ⟨fun b hb hA => hgr.block b hb (fun e => by have := h2 g rfl; simp at e; subst e; exact hA this), hgr.size, fun _ h => .inl h⟩
    refine ⟨_, rfl, rfl, ⟨(sortS xs).map str, ?_, h2, fun i x hx => ?_⟩, hst, (Below.refl B w).grown hgr hB (fun k e => by simp at e; omega), fun b hb hne => hgr.block b hb (fun e => hne (by simpa [Value.ownBlock] using e.symm))⟩
    · rw [hlen]; exact hown
    · show seg _ _ _ = [str x]
      have h4 : ((sortS xs).map str)[i]? = some (str x) := by simp [hx]
      show (((sortS xs).map str).drop (i * 1)).take 1 = [str x]
      obtain ⟨h5, h6⟩ := List.getElem?_eq_some_iff.1 h4
      have hd := List.drop_eq_getElem_cons h5
      rw [Nat.mul_one, hd, h6, List.take_succ_cons, List.take_zero]
end Go.KW
