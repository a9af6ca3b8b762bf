/- Plain facts for the functions that the walks print: wraps, indices, checks, loops. No program in sight. -/
import Derived.Test.YtkhodjenbganfaaGreatDoorKwLib
import Derived.Laws.BitsLemmas
namespace Go.KW.S
open Go Go.KW

theorem w64 {x : Int} (h0 : -9223372036854775808 ≤ x) (h1 : x < 9223372036854775808) : IntKind.i64.wrap x = x := by
 rw [IntKind.wrap_i64]; omega
theorem w64n {i : Nat} (h : i < 9223372036854775807) : IntKind.i64.wrap ((i : Int) + 1) = ((i + 1 : Nat) : Int) := by
 rw [w64 (by omega) (by omega)]; rfl
theorem wu64 {x : Int} (h0 : 0 ≤ x) (h1 : x < 18446744073709551616) : IntKind.u64.wrap x = x := by
 simp [IntKind.wrap, IntKind.bits, IntKind.signed]; omega

theorem chk_t {α : Type} {p : Bool} {k : Option α} (h : p = true) : chk p k = k := by rw [h]; rfl
theorem idx_n {T : Type} (xs : List T) (i : Nat) : idx xs (i : Int) = xs[i]? := by simp [idx]
theorem inb_n {i n : Nat} : inb (i : Int) n = decide (i < n) := by simp [inb]
theorem byteAt_n (s : Str) (i : Nat) : byteAt s (i : Int) = ((s[i]?).map (fun u : UInt8 => (u.toNat : Int))).getD 0 := by simp [byteAt]
theorem cut_n {α : Type} (a : List α) (i j : Nat) : cut a (i : Int) (j : Int) = (a.drop i).take (j - i) := by simp [cut]
theorem cut_0 {α : Type} (a : List α) (j : Nat) : cut a 0 (j : Int) = a.take j := by simp [cut]
theorem inc_n {i j n : Nat} : inc (i : Int) (j : Int) n = decide (i ≤ j ∧ j ≤ n) := by
 rw [Bool.eq_iff_iff, inc_iff, decide_eq_true_eq]; omega
theorem inc_0 {j n : Nat} : inc 0 (j : Int) n = decide (j ≤ n) := by
 rw [Bool.eq_iff_iff, inc_iff, decide_eq_true_eq]; omega
def fits {T : Type} (xs : List T) : Prop := xs.length < 9223372036854775807

theorem chk_true {α : Type} {k : Option α} : chk true k = k := rfl
theorem drop_more {T : Type} {xs : List T} {i : Nat} {x : T} {r : List T} (h : xs.drop i = x :: r) : decide (i < xs.length) = true ∧ xs[i]? = some x ∧ xs.drop (i + 1) = r := by
 have h1 : i < xs.length := by
  have := congrArg List.length h
  simp at this; omega
 have h2 := List.drop_eq_getElem_cons h1
 rw [h] at h2
 obtain ⟨h3, h4⟩ := List.cons.inj h2
 exact ⟨by simpa using h1, by rw [List.getElem?_eq_getElem h1, h3], h4.symm⟩
theorem drop_lt {T : Type} {xs : List T} {i : Nat} {x : T} {r : List T} (h : xs.drop i = x :: r) : i < xs.length := by simpa using (drop_more h).1
theorem drop_nil {T : Type} {xs : List T} {i : Nat} (h : xs.drop i = []) : xs.length ≤ i := by simpa using h
theorem byteAt_some {s : Str} {i : Nat} {u : UInt8} (h : s[i]? = some u) : byteAt s (i : Int) = (u.toNat : Int) := by simp [byteAt_n, h]
theorem take_more {T : Type} {xs : List T} {i : Nat} {x : T} {r : List T} (h : xs.drop i = x :: r) : xs.take (i + 1) = xs.take i ++ [x] := by
 rw [List.take_add_one, (drop_more h).2.1]; rfl
theorem fuel_pos {n : Nat} (h : n < 9223372036854775807) : n < fuel := by unfold fuel; omega
end Go.KW.S
