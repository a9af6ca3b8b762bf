/- Maps as lists in plain Lean: look-up, update, deletion, iteration. No program in sight. -/
import Derived.Test.YtkhodjenbganfaaGreatDoorKwMap3
import Derived.Test.YtkhodjenbganfaaGreatDoorKwPlain
set_option linter.unusedVariables false
set_option linter.unusedSectionVars false
namespace Go.KW
open Go
section
variable {K V : Type} [DecidableEq K]
/-- a map of the list's entries, no key twice -/
def nodupK (l : List (K × V)) : Prop := (l.map Prod.fst).Nodup
theorem nodupK_nil : nodupK ([] : List (K × V)) := List.nodup_nil
theorem nodupK_cons {p : K × V} {l : List (K × V)} : nodupK (p :: l) ↔ (∀ q ∈ l, q.1 ≠ p.1) ∧ nodupK l := by
  simp only [nodupK, List.map_cons, List.nodup_cons, List.mem_map, not_exists, not_and]
theorem mfind_mem {k : K} {x : V} : ∀ {l : List (K × V)}, mfind k l = some x → (k, x) ∈ l
  | [], h => by cases h
  | p :: l, h => by
    unfold mfind at h
    split at h
    · rename_i e; cases h; subst e; simp
    · exact List.mem_cons_of_mem _ (mfind_mem h)
theorem mfind_put_self {k : K} {x : V} : ∀ {l : List (K × V)}, mfind k (mputL k x l) = some x
  | [] => by simp [mputL, mfind]
  | p :: l => by
    unfold mputL
    by_cases e : k = p.1
    · rw [if_pos e]; simp [mfind]
    · rw [if_neg e]; unfold mfind; rw [if_neg e]; exact mfind_put_self
theorem mfind_put_ne {k j : K} {x : V} (h : j ≠ k) : ∀ {l : List (K × V)}, mfind j (mputL k x l) = mfind j l
  | [] => by simp [mputL, mfind, h]
  | p :: l => by
    unfold mputL
    by_cases e : k = p.1
    · rw [if_pos e]; simp only [mfind, ← e, if_neg h]
    · rw [if_neg e]; simp only [mfind]; rw [mfind_put_ne h]
theorem mfind_put {k j : K} {x : V} {l : List (K × V)} : mfind j (mputL k x l) = if j = k then some x else mfind j l := by
  by_cases e : j = k
  · subst e; rw [if_pos rfl, mfind_put_self]
  · rw [if_neg e, mfind_put_ne e]
theorem mem_put {k : K} {x : V} {p : K × V} : ∀ {l : List (K × V)}, p ∈ mputL k x l → p = (k, x) ∨ p ∈ l
  | [], h => by simpa [mputL] using h
  | q :: l, h => by
    unfold mputL at h
    split at h
    · rcases List.mem_cons.1 h with h | h
      · exact .inl h
      · exact .inr (List.mem_cons_of_mem _ h)
    · rcases List.mem_cons.1 h with h | h
      · exact .inr (by simp [h])
      · exact (mem_put h).imp id fun h => List.mem_cons_of_mem _ h
theorem nodupK_put {k : K} {x : V} : ∀ {l : List (K × V)}, nodupK l → nodupK (mputL k x l)
  | [], _ => by simp [mputL, nodupK]
  | p :: l, hn => by
    obtain ⟨h1, h2⟩ := nodupK_cons.1 hn
    unfold mputL
    by_cases e : k = p.1
    · rw [if_pos e]; exact nodupK_cons.2 ⟨fun q hq => by simp only; rw [e]; exact h1 q hq, h2⟩
    · rw [if_neg e]
      refine nodupK_cons.2 ⟨fun q hq => ?_, nodupK_put h2⟩
      rcases mem_put hq with rfl | hq
      · exact e
      · exact h1 q hq
theorem len_put {k : K} {x : V} : ∀ {l : List (K × V)}, (mputL k x l).length = if (mfind k l).isSome then l.length else l.length + 1
  | [] => rfl
  | p :: l => by
    unfold mputL mfind
    by_cases e : k = p.1
    · rw [if_pos e, if_pos e]; rfl
    · rw [if_neg e, if_neg e]; simp only [List.length_cons, len_put]; split <;> rfl
theorem mem_del {k : K} {p : K × V} : ∀ {l : List (K × V)}, p ∈ mdelL k l → p ∈ l
  | [], h => by cases h
  | q :: l, h => by
    unfold mdelL at h
    split at h
    · exact List.mem_cons_of_mem _ h
    · rcases List.mem_cons.1 h with h | h
      · simp [h]
      · exact List.mem_cons_of_mem _ (mem_del h)
theorem nodupK_del {k : K} : ∀ {l : List (K × V)}, nodupK l → nodupK (mdelL k l)
  | [], _ => nodupK_nil
  | p :: l, hn => by
    obtain ⟨h1, h2⟩ := nodupK_cons.1 hn
    unfold mdelL
    split
    · exact h2
    · exact nodupK_cons.2 ⟨fun q hq => h1 q (mem_del hq), nodupK_del h2⟩
theorem nodupK_filter {q : K × V → Bool} {l : List (K × V)} (hn : nodupK l) : nodupK (l.filter q) := by
  unfold nodupK at *
  exact (List.filter_sublist.map _).nodup hn
theorem len_del {k : K} : ∀ {l : List (K × V)}, nodupK l → l.length = (mdelL k l).length + if (mfind k l).isSome then 1 else 0
  | [], _ => rfl
  | p :: l, hn => by
    obtain ⟨h1, h2⟩ := nodupK_cons.1 hn
    unfold mdelL mfind
    by_cases e : k = p.1
    · rw [if_pos e, if_pos e]; rfl
    · rw [if_neg e, if_neg e]; simp only [List.length_cons]; have := len_del (k := k) h2; omega
end
end Go.KW
