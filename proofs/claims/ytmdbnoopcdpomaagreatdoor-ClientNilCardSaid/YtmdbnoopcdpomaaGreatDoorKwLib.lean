/- Scopes, guards struck off, rows made by make, and the contracts of Go's library in this calculus' words. -/
import Derived.Test.YtmdbnoopcdpomaaGreatDoorKwMore
import Derived.Scope
import Derived.Sort.OwnSorted
import Derived.Lib.Strings
import Derived.Lib.Bytealg
import Derived.Lib.Split
import Derived.Lib.Join
import Derived.Lib.SplitLaws
import Derived.Sort.Walk0
namespace Go.KW
open Go Go.RowKit

section
variable {P : Program} {f : FuncId} {R : Ending → World → Prop} {n : Nat} {k : List Item} {Qr : Exit → Act → World → Prop} {l : Env} {w : World} {ops : Array Oper} {rest : List Oper} {t : TypeId}

/-- a guard that is met is struck off -/
theorem sr_unguard {d : Option Tmp} {o : Op} {pos : String} {after : Array Edge} {j e : Nat} {b c : Bool} (he : (ops[j]?).bind (·.dst) = some e) (hb : l.get e = some (.bool c)) (hcb : c = b)
    (h : SR P Qr n ops (⟨d, o, t, pos, after, none⟩ :: rest) l w) : SR P Qr n ops (⟨d, o, t, pos, after, some (j, b)⟩ :: rest) l w := by
  intro a ha
  have hw : Region.wanted ⟨d, o, t, pos, after, some (j, b)⟩ (yielded ops a.tmps) = true := by
    simp [Region.wanted, yielded_of ha he hb, hcb]
  have h1 := h a ha
  simp only [wpList, wanted_none, if_true] at h1
  simp only [wpList, hw, if_true]
  exact h1

variable {T : Type} {c : Cdc T} {E : TypeId} {A : Nat → Prop} {xs : List T}

end

/-! ### the library -/
def lib_Contains (s t : Str) : Option Bool := chk (decide (s.length < 4294967281)) (some (Lib.contains s t))
theorem contains_ok {P : Program} {F gm : Nat}
    (h : ∀ (s t : ByteArray) (m : Int) (w : World), s.size < 4294967281 → w.cell? ⟨gm, 0, none⟩ = some (.int .i64 m) →
      Calls P F #[.string s, .string t] w fun e w' => e = .returned (.bool (Lib.contains s.data.toList t.data.toList)) ∧ w' = w)
    {w : World} (hm : ∃ m, w.cell? ⟨gm, 0, none⟩ = some (.int .i64 m)) {s t : Str} {r : Bool} (hS : lib_Contains s t = some r) :
    Calls P F #[str s, str t] w (Ret fun v w' => v = .bool r ∧ Below w.heap.size w w') := by
  obtain ⟨hk, hS⟩ := chk_some hS
  obtain ⟨m, hm⟩ := hm
  cases hS
  refine (h ⟨s.toArray⟩ ⟨t.toArray⟩ m w (by rw [str_size]; exact of_decide_eq_true hk) hm).mono ?_
  rintro e w' ⟨rfl, rfl⟩
  exact ⟨_, rfl, by simp, Below.refl _ _⟩

/-- sorted by insertion: what the library's sort makes of a list -/
def insS (x : Str) : List Str → List Str
  | [] => [x]
  | y :: r => if sLt y x then y :: insS x r else x :: y :: r
def sortS : List Str → List Str
  | [] => []
  | x :: r => insS x (sortS r)
theorem sLt_eq (x y : Str) : sLt x y = decide (x < y) := Go.Proofs.bytesLess_eq x y
theorem insS_perm (x : Str) : ∀ l : List Str, (insS x l).Perm (x :: l)
  | [] => .refl _
  | y :: r => by
    unfold insS
    split
    · exact ((insS_perm x r).cons y).trans (.swap x y r)
    · exact .refl _
theorem sortS_perm : ∀ l : List Str, (sortS l).Perm l
  | [] => .refl _
  | x :: r => (insS_perm x (sortS r)).trans ((sortS_perm r).cons x)
theorem str_le_total (x y : Str) : x ≤ y ∨ y ≤ x := List.le_total x y
theorem str_le_antisymm {x y : Str} (h : x ≤ y) (h' : y ≤ x) : x = y := List.le_antisymm h h'
theorem str_le_trans {x y z : Str} (h : x ≤ y) (h' : y ≤ z) : x ≤ z := List.le_trans h h'
theorem str_not_lt {x y : Str} : ¬ y < x ↔ x ≤ y := Iff.rfl
theorem insS_sorted (x : Str) : ∀ l : List Str, l.Pairwise (· ≤ ·) → (insS x l).Pairwise (· ≤ ·)
  | [], _ => by simp [insS]
  | y :: r, h => by
    obtain ⟨h1, h2⟩ := List.pairwise_cons.1 h
    unfold insS
    rw [sLt_eq]
    by_cases hy : y < x
    · rw [if_pos (decide_eq_true hy)]
      refine List.pairwise_cons.2 ⟨fun z hz => ?_, insS_sorted x r h2⟩
      rcases List.mem_cons.1 ((insS_perm x r).mem_iff.1 hz) with rfl | hz
      · rcases str_le_total y z with h | h
        · exact h
        · exact absurd hy (str_not_lt.2 h)
      · exact h1 z hz
    · rw [if_neg (by simpa using hy)]
      have hxy : x ≤ y := str_not_lt.1 hy
      refine List.pairwise_cons.2 ⟨fun z hz => ?_, h⟩
      rcases List.mem_cons.1 hz with rfl | hz
      · exact hxy
      · exact str_le_trans hxy (h1 z hz)
theorem sortS_sorted : ∀ l : List Str, (sortS l).Pairwise (· ≤ ·)
  | [] => List.Pairwise.nil
  | x :: r => insS_sorted x _ (sortS_sorted r)
theorem sorted_unique {a b : List Str} (h : a.Perm b) (ha : a.Pairwise (· ≤ ·)) (hb : b.Pairwise (· ≤ ·)) : a = b :=
  List.Perm.eq_of_pairwise (fun _ _ _ _ h1 h2 => str_le_antisymm h1 h2) ha hb h
theorem mergeSort_eq (l : List Str) : (l.mergeSort fun x y => decide (x ≤ y)) = sortS l := by
  refine sorted_unique ((List.mergeSort_perm l _).trans (sortS_perm l).symm) ?_ (sortS_sorted l)
  have h := List.pairwise_mergeSort (le := fun x y : Str => decide (x ≤ y)) (fun a b c h1 h2 => by simp only [decide_eq_true_eq] at *; exact str_le_trans h1 h2)
    (fun a b => by rcases str_le_total a b with h | h <;> simp [h]) l
  exact h.imp fun h => by simpa using h

end Go.KW
