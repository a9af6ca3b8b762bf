/- Maps as lists in plain Lean: look-up, update, deletion, iteration. No program in sight. -/
import Derived.Test.YtkhodjenbganfaaGreatDoorKwMap3
import Derived.Test.YtkhodjenbganfaaGreatDoorKwPlain
set_option linter.unusedVariables false
set_option linter.unusedSectionVars false
namespace Go.KW
open Go
section
variable {K V : Type} [DecidableEq K]
def nodupK (l : List (K × V)) : Prop := (l.map Prod.fst).Nodup
theorem nodupK_nil : nodupK ([] : List (K × V)) := List.nodup_nil
theorem nodupK_cons {p : K × V} {l : List (K × V)} : nodupK (p :: l) ↔ (∀ q ∈ l, q.1 ≠ p.1) ∧ nodupK l := by
 simp only [nodupK, List.map_cons, List.nodup_cons, List.mem_map, not_exists, not_and]
theorem mfind_mem {k : K} {x : V} : ∀ {l : List (K × V)}, mfind k l = some x → (k, x) ∈ l
 | [], h => by cases h
 | p :: l, h => by
  unfold mfind at h
  split at h
  ·rename_i e; cases h; subst e; simp
  ·exact List.mem_cons_of_mem _ (mfind_mem h)
theorem mfind_of_mem {k : K} {x : V} : ∀ {l : List (K × V)}, nodupK l → (k, x) ∈ l → mfind k l = some x
 | [], _, h => by cases h
 | p :: l, hn, h => by
  obtain ⟨h1, h2⟩ := nodupK_cons.1 hn
  unfold mfind
  rcases List.mem_cons.1 h with rfl | h
  ·simp
  ·rw [if_neg (h1 _ h)]; exact mfind_of_mem h2 h
theorem mfind_none {k : K} : ∀ {l : List (K × V)}, mfind k l = none ↔ ∀ p ∈ l, p.1 ≠ k
 | [] => by simp [mfind]
 | p :: l => by
  unfold mfind
  by_cases e : k = p.1
  ·rw [if_pos e]; simp only [reduceCtorEq, false_iff]; intro h; exact h p (by simp) e.symm
  ·rw [if_neg e, mfind_none]; simp only [List.mem_cons, forall_eq_or_imp]; exact ⟨fun h => ⟨fun h' => e h'.symm, h⟩, fun h => h.2⟩
theorem mfind_put_self {k : K} {x : V} : ∀ {l : List (K × V)}, mfind k (mputL k x l) = some x
 | [] => by simp [mputL, mfind]
 | p :: l => by
  unfold mputL
  by_cases e : k = p.1
  ·rw [if_pos e]; simp [mfind]
  ·rw [if_neg e]; unfold mfind; rw [if_neg e]; exact mfind_put_self
theorem mfind_put_ne {k j : K} {x : V} (h : j ≠ k) : ∀ {l : List (K × V)}, mfind j (mputL k x l) = mfind j l
 | [] => by simp [mputL, mfind, h]
 | p :: l => by
  unfold mputL
  by_cases e : k = p.1
  ·rw [if_pos e]; simp only [mfind, ← e, if_neg h]
  ·rw [if_neg e]; simp only [mfind]; rw [mfind_put_ne h]
theorem mfind_put {k j : K} {x : V} {l : List (K × V)} : mfind j (mputL k x l) = if j = k then some x else mfind j l := by
 by_cases e : j = k
 ·subst e; rw [if_pos rfl, mfind_put_self]
 ·rw [if_neg e, mfind_put_ne e]
theorem mem_put {k : K} {x : V} {p : K × V} : ∀ {l : List (K × V)}, p ∈ mputL k x l → p = (k, x) ∨ p ∈ l
 | [], h => by simpa [mputL] using h
 | q :: l, h => by
  unfold mputL at h
  split at h
  ·rcases List.mem_cons.1 h with h | h
   ·exact .inl h
   ·exact .inr (List.mem_cons_of_mem _ h)
  ·rcases List.mem_cons.1 h with h | h
   ·exact .inr (by simp [h])
   ·exact (mem_put h).imp id fun h => List.mem_cons_of_mem _ h
theorem nodupK_put {k : K} {x : V} : ∀ {l : List (K × V)}, nodupK l → nodupK (mputL k x l)
 | [], _ => by simp [mputL, nodupK]
 | p :: l, hn => by
  obtain ⟨h1, h2⟩ := nodupK_cons.1 hn
  unfold mputL
  by_cases e : k = p.1
  ·rw [if_pos e]; exact nodupK_cons.2 ⟨fun q hq => by simp only; rw [e]; exact h1 q hq, h2⟩
  ·rw [if_neg e]
   refine nodupK_cons.2 ⟨fun q hq => ?_, nodupK_put h2⟩
   rcases mem_put hq with rfl | hq
   ·exact e
   ·exact h1 q hq
theorem len_put {k : K} {x : V} : ∀ {l : List (K × V)}, (mputL k x l).length = if (mfind k l).isSome then l.length else l.length + 1
 | [] => rfl
 | p :: l => by
  unfold mputL mfind
  by_cases e : k = p.1
  ·rw [if_pos e, if_pos e]; rfl
  ·rw [if_neg e, if_neg e]; simp only [List.length_cons, len_put]; split <;> rfl
theorem mem_del {k : K} {p : K × V} : ∀ {l : List (K × V)}, p ∈ mdelL k l → p ∈ l
 | [], h => by cases h
 | q :: l, h => by
  unfold mdelL at h
  split at h
  ·exact List.mem_cons_of_mem _ h
  ·rcases List.mem_cons.1 h with h | h
   ·simp [h]
   ·exact List.mem_cons_of_mem _ (mem_del h)
theorem nodupK_del {k : K} : ∀ {l : List (K × V)}, nodupK l → nodupK (mdelL k l)
 | [], _ => nodupK_nil
 | p :: l, hn => by
  obtain ⟨h1, h2⟩ := nodupK_cons.1 hn
  unfold mdelL
  split
  ·exact h2
  ·exact nodupK_cons.2 ⟨fun q hq => h1 q (mem_del hq), nodupK_del h2⟩
theorem del_filter {k : K} : ∀ {l : List (K × V)}, nodupK l → mdelL k l = l.filter fun p => decide (p.1 ≠ k)
 | [], _ => rfl
 | p :: l, hn => by
  obtain ⟨h1, h2⟩ := nodupK_cons.1 hn
  unfold mdelL
  by_cases e : k = p.1
  ·rw [if_pos e, List.filter_cons, if_neg (by simp [e])]
   exact (List.filter_eq_self.2 fun q hq => by simp only [ne_eq, decide_eq_true_eq]; rw [e]; exact h1 q hq).symm
  ·rw [if_neg e, List.filter_cons, if_pos (by simpa using fun h => e h.symm), del_filter h2]
theorem mfind_filter {k : K} {q : K → Bool} : ∀ {l : List (K × V)}, mfind k (l.filter fun p => q p.1) = if q k then mfind k l else none
 | [] => by simp [mfind]
 | p :: l => by
  rw [List.filter_cons]
  by_cases e : k = p.1
  ·subst e
   by_cases hq : q p.1 = true
   ·rw [if_pos hq, if_pos hq]; simp [mfind]
   ·rw [if_neg hq, mfind_filter, if_neg hq, if_neg hq]
  ·by_cases hq : q p.1 = true
   ·rw [if_pos hq]; unfold mfind; rw [if_neg e, if_neg e]; exact mfind_filter
   ·rw [if_neg hq]; simp only [mfind, if_neg e]; exact mfind_filter
theorem mfind_del {k j : K} {l : List (K × V)} (hn : nodupK l) : mfind j (mdelL k l) = if j = k then none else mfind j l := by
 rw [del_filter hn, mfind_filter (q := fun x => decide (x ≠ k))]
 by_cases e : j = k <;> simp [e]
theorem nodupK_filter {q : K × V → Bool} {l : List (K × V)} (hn : nodupK l) : nodupK (l.filter q) := by
 unfold nodupK at *
 exact (List.filter_sublist.map _).nodup hn
theorem len_del {k : K} : ∀ {l : List (K × V)}, nodupK l → l.length = (mdelL k l).length + if (mfind k l).isSome then 1 else 0
 | [], _ => rfl
 | p :: l, hn => by
  obtain ⟨h1, h2⟩ := nodupK_cons.1 hn
  unfold mdelL mfind
  by_cases e : k = p.1
  ·rw [if_pos e, if_pos e]; rfl
  ·rw [if_neg e, if_neg e]; simp only [List.length_cons]; have := len_del (k := k) h2; omega
theorem del_none {k : K} : ∀ {l : List (K × V)}, mfind k l = none → mdelL k l = l
 | [], _ => rfl
 | p :: l, h => by
  unfold mfind at h
  split at h
  ·cases h
  ·rename_i e; unfold mdelL; rw [if_neg e, del_none h]

def leftL (l : List (K × V)) (done : List K) : List (K × V) := l.filter fun p => decide (p.1 ∉ done)
theorem mleft_some (l : List (K × V)) (done : List K) : mleft (some l) done = leftL l done := rfl
theorem leftL_nil (l : List (K × V)) : leftL l [] = l := by unfold leftL; exact List.filter_eq_self.2 fun _ _ => by simp
theorem leftL_perm {e : K × V} : ∀ {l : List (K × V)} {done : List K}, nodupK l → e ∈ leftL l done → (leftL l done).Perm (e :: leftL l (e.1 :: done))
 | [], _, _, h => by cases h
 | p :: l, done, hn, h => by
  obtain ⟨h1, h2⟩ := nodupK_cons.1 hn
  have hsame : ∀ (q : K × V), (∀ r ∈ l, r.1 ≠ q.1) → leftL l (q.1 :: done) = leftL l done := by
   intro q hq
   unfold leftL
   refine List.filter_congr fun r hr => ?_
   have := hq r hr
   simp [this]
  unfold leftL at h ⊢
  rw [List.filter_cons] at h ⊢
  rw [List.filter_cons]
  by_cases hp : p.1 ∈ done
  ·rw [if_neg (by simpa using hp)] at h ⊢
   rw [if_neg (by simp [hp])]
   exact leftL_perm h2 h
  ·rw [if_pos (by simpa using hp)] at h ⊢
   rcases List.mem_cons.1 h with rfl | h
   ·rw [if_neg (by simp)]
    have := hsame e h1
    unfold leftL at this
    rw [this]
   ·have hne : p.1 ≠ e.1 := fun e' => h1 e ((List.mem_filter.1 h).1) e'.symm
    rw [if_pos (by simp [hp, hne])]
    exact ((leftL_perm h2 h).cons p).trans (List.Perm.swap _ _ _)
theorem leftL_len {e : K × V} {l : List (K × V)} {done : List K} (hn : nodupK l) (h : e ∈ leftL l done) : (leftL l (e.1 :: done)).length + 1 = (leftL l done).length := by
 have := (leftL_perm hn h).length_eq
 simpa using this.symm
theorem leftL_mem {e : K × V} {l : List (K × V)} {done : List K} (h : e ∈ leftL l done) : e ∈ l ∧ e.1 ∉ done := by
 obtain ⟨h1, h2⟩ := List.mem_filter.1 h
 exact ⟨h1, by simpa using h2⟩
end
end Go.KW
